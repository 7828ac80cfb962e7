/-
  core: the expressions of all nodes. binding, proctorref05: what a binding has; which may be. eval, proctorref16: whether values fit. No claim is proved here.
-/
import Derived.Test.YtjbcfpkibnhodaaGreatDoorWD7
import Derived.Test.YtjbcfpkibnhodaaGreatDoorWV4
namespace Go.Proofs.YtjbcfpkibnhodaaGreatDoor.Ab
open Go
set_option linter.unusedSimpArgs false
set_option maxHeartbeats 4000000
variable {G : Nat → Option AV}
def exStep (q : QeaT) (out : List ExT) (i : Nat) (x : NodeT) : ExT :=
  match leafOf q i x with
  | some e => e
  | none => if x.op < 4 ∨ 16 < x.op ∨ ¬ x.value = v0 then e0 else
    match at? out ((i : Int) - 1) with
    | none => e0
    | some b => if b.kind = 0 then e0 else
      if x.op ≤ 5 then (if x.a = (i : Int) - 1 ∧ x.b = 0 then ⟨opKind x.op b.kind b.kind, b.depth + 1, b.from_⟩ else e0)
      else if x.b = (i : Int) - 1 ∧ x.a = b.from_ - 1 then
        match at? out x.a with
        | none => e0
        | some a => if a.kind = 0 then e0 else ⟨opKind x.op a.kind b.kind, max a.depth b.depth + 1, a.from_⟩
      else e0
def exL (q : QeaT) : Nat → List ExT
  | 0 => []
  | n + 1 => match q.nodes[n]? with
    | some x => exL q n ++ [exStep q (exL q n) n x]
    | none => exL q n
def exprs (q : QeaT) : List ExT := exL q q.nodes.length
theorem exL_step {q : QeaT} {n : Nat} {x : NodeT} (h : q.nodes[n]? = some x) : exL q (n + 1) = exL q n ++ [exStep q (exL q n) n x] := by rw [exL, h]
theorem el_ (q : QeaT) : ∀ n, n ≤ q.nodes.length → (exL q n).length = n
  | 0, _ => rfl
  | n + 1, h => by
    obtain ⟨x, hx, _⟩ := as10 (l := q.nodes) (i := n) (by omega)
    rw [exL_step hx, List.length_append, el_ q n (by omega)]
    rfl
def exOk (l : List ExT) : Prop := ∀ (j : Nat) (e : ExT), l[j]? = some e → 0 ≤ e.from_ ∧ e.from_ ≤ (j : Int) ∧ 0 ≤ e.depth ∧ e.depth ≤ (j : Int) + 1
theorem leafOf_ok {q : QeaT} {i : Nat} {x : NodeT} {e : ExT} (h : leafOf q i x = some e) : e.depth = 1 ∧ e.from_ = i := by
  unfold leafOf at h
  split at h
  · split at h <;> simp at h; subst h; exact ⟨rfl, rfl⟩
  split at h
  · split at h <;> simp at h; obtain ⟨y, _, rfl⟩ := h; exact ⟨rfl, rfl⟩
  split at h
  · split at h <;> simp at h; obtain ⟨y, _, rfl⟩ := h; exact ⟨rfl, rfl⟩
  · simp at h
theorem exStep_ok {q : QeaT} {out : List ExT} {i : Nat} {x : NodeT} (ho : exOk out) (hl : out.length = i) : 0 ≤ (exStep q out i x).from_ ∧ (exStep q out i x).from_ ≤ i ∧ 0 ≤ (exStep q out i x).depth ∧ (exStep q out i x).depth ≤ i + 1 := by
  have hz : 0 ≤ e0.from_ ∧ e0.from_ ≤ (i : Int) ∧ 0 ≤ e0.depth ∧ e0.depth ≤ (i : Int) + 1 := by simp; omega
  unfold exStep
  split
  · obtain ⟨h1, h2⟩ := leafOf_ok ‹_›
    omega
  · split
    · exact hz
    · split
      · exact hz
      · rename_i b hb
        obtain ⟨j, hj, hb⟩ := at?_some hb
        have := ho j b hb
        split
        · exact hz
        split
        · split
          · dsimp only; omega
          · exact hz
        · split
          · split
            · exact hz
            · rename_i a ha
              obtain ⟨k, hk, ha⟩ := at?_some ha
              have := ho k a ha
              split
              · exact hz
              · dsimp only; omega
          · exact hz
theorem exL_ok (q : QeaT) : ∀ n, n ≤ q.nodes.length → exOk (exL q n)
  | 0, _ => fun j e h => by simp [exL] at h
  | n + 1, h => by
    obtain ⟨x, hx, _⟩ := as10 (l := q.nodes) (i := n) (by omega)
    have hn := el_ q n (by omega)
    rw [exL_step hx]
    intro j e hj
    rw [List.getElem?_append] at hj
    split at hj
    · exact exL_ok q n (by omega) j e hj
    · rename_i hlt
      rw [hn] at hj
      rw [List.getElem?_cons] at hj
      split at hj
      · cases hj
        have := exStep_ok (q := q) (x := x) (exL_ok q n (by omega)) hn
        have : j = n := by omega
        subst this
        assumption
      · simp at hj
theorem val_zero (v : Val) : (v.kind == 0 && (v.int == 0 && (v.str == [] && !v.bool))) = decide (v = v0) := by
  obtain ⟨a, b, c, d⟩ := v
  rw [Bool.eq_iff_iff]
  simp
theorem aiaddr_arr {H : List (Nat × Box)} {sz i k m n : Nat} (hn : n < m) : aiaddr H sz (.arr i k m) (.int .i64 (n : Int)) = (hget H i).bind fun b => if b.sz = sz then some (.ref i (k + n) 0) else none := by
  simp only [aiaddr]
  cases hget H i with
  | none => rfl
  | some b => simp [show (n : Int) < m by omega]
def exRow (q : QeaT) (i : Nat) : List AV := (exL q i).map exV ++ List.replicate (q.nodes.length - i) (exV e0)
theorem exRow_at {q : QeaT} {i j : Nat} {b : ExT} (h : (exL q i)[j]? = some b) : (exRow q i)[j]? = some (exV b) := by
  have hj := (List.getElem?_eq_some_iff.1 h).1
  unfold exRow
  rw [List.getElem?_append_left (by simpa using hj), List.getElem?_map, h]
  rfl
theorem exRow_next {q : QeaT} {i : Nat} (h : i < q.nodes.length) : (exRow q i)[i]? = some (exV e0) := by
  have := el_ q i (by omega)
  unfold exRow
  rw [List.getElem?_append_right (by simp [this]), List.getElem?_replicate]
  simp [this]
  omega
theorem exRow_set {q : QeaT} {i : Nat} {x : NodeT} (hx : q.nodes[i]? = some x) : (exRow q i).set i (exV (exStep q (exL q i) i x)) = exRow q (i + 1) := by
  have hi := (List.getElem?_eq_some_iff.1 hx).1
  have hn := el_ q i (by omega)
  unfold exRow
  rw [exL_step hx]
  obtain ⟨m, hm⟩ : ∃ m, q.nodes.length - i = m + 1 := ⟨q.nodes.length - i - 1, by omega⟩
  rw [hm, show q.nodes.length - (i + 1) = m by omega]
  simp [hn, List.replicate_succ, List.set_append]
theorem exRow_all (q : QeaT) : exRow q q.nodes.length = (exprs q).map exV := by simp [exRow, exprs]
theorem core_exprs_pc (q : QeaT) (hl : q.nodes.length ≤ 1000000) : P_ Tryz.prog G n_core_exprs [qeaV q] (.seq 3 ((exprs q).map exV)) := by
  refine pc_core_exprs (Runs.of fun Φ h => ?_)
  unfold c_core_exprs
  have hmk : amks ⟨147, [(12, iv q.nodes.length), (11, n_ q.nodes), (10, .ref 1 0 7), (1, .ref 1 0 0)], [(2, ⟨true, tce_, 3, []⟩), (1, ⟨false, taQ_, 9, [qeaV q]⟩)]⟩ (some 13) tce_ 3 24 (.agg [iv 0, iv 0, iv 0]) (iv q.nodes.length) (iv q.nodes.length) =
      some ⟨147, [(13, .arr 13 0 q.nodes.length), (12, iv q.nodes.length), (11, n_ q.nodes), (10, .ref 1 0 7), (1, .ref 1 0 0)], [(13, ⟨true, tce_, 3, exRow q 0⟩), (2, ⟨true, tce_, 3, []⟩), (1, ⟨false, taQ_, 9, [qeaV q]⟩)]⟩ := by
    unfold amks
    simp only [Int.toNat_natCast]
    rw [if_pos (by omega)]
    simp only [exRow, exL, List.map_nil, List.nil_append, Nat.sub_zero]
    rfl
  simp only [qeaV, d_, q_, f_, s_, s10, n_, t_] at hmk
  repeat' (first | (simp -implicitDefEqProofs only [go_sem, qeaV, d_, q_, f_, s_, s10, n_, t_, List.length_map, hmk]) | refine ag_ (fun hb => ?_) (fun hb => ?_) | refine ⟨fun hb => ?_, fun hb => ?_⟩ | fail)
  refine al_ (fun n st => ∃ i : Nat, i + n = q.nodes.length ∧ st = ⟨147, [(1, .ref 1 0 0), (3, .arr 13 0 q.nodes.length), (15, n_ q.nodes), (16, iv q.nodes.length), (17, iv i)], [(1, ⟨false, taQ_, 9, [qeaV q]⟩), (2, ⟨true, tce_, 3, []⟩), (13, ⟨true, tce_, 3, exRow q i⟩)]⟩) q.nodes.length ⟨0, by simp, rfl⟩ ?_
  rintro I hI n st ⟨i, hi, rfl⟩
  simp -implicitDefEqProofs only [go_sem, qeaV, d_, q_, f_, s_, s10, n_, t_, List.length_map]
  refine ⟨fun hlt => ?_, fun hge => ?_⟩
  · have hlt' : i < q.nodes.length := by omega
    obtain ⟨x, hx, hm⟩ := as10 hlt'
    have hw := ws_ hlt' (by omega)
    have hln := el_ q i (by omega)
    have hex := exL_ok q i (by omega)
    have hlf := core_leaf_pc (G := G) q i x hx
    have hnext := exRow_next hlt'
    have fin : again I n ⟨147, [(1, .ref 1 0 0), (3, .arr 13 0 q.nodes.length), (15, n_ q.nodes), (16, iv q.nodes.length), (17, iv (i + 1 : Nat))], [(1, ⟨false, taQ_, 9, [qeaV q]⟩), (2, ⟨true, tce_, 3, []⟩), (13, ⟨true, tce_, 3, (exRow q i).set i (exV (exStep q (exL q i) i x))⟩)]⟩ := by
      rw [exRow_set hx]
      exact aa_ (n - 1) (by omega) (hI _ _ ⟨i + 1, by omega, rfl⟩)
    have fin0 : exStep q (exL q i) i x = e0 → again I n ⟨147, [(1, .ref 1 0 0), (3, .arr 13 0 q.nodes.length), (15, n_ q.nodes), (16, iv q.nodes.length), (17, iv (i + 1 : Nat))], [(1, ⟨false, taQ_, 9, [qeaV q]⟩), (2, ⟨true, tce_, 3, []⟩), (13, ⟨true, tce_, 3, exRow q i⟩)]⟩ := fun h0 => by
      rw [h0] at fin
      rwa [show (exRow q i).set i (exV e0) = exRow q i from by
        obtain ⟨hlt, he⟩ := List.getElem?_eq_some_iff.1 hnext
        rw [← he, List.set_getElem_self]] at fin
    have harr := @aiaddr_arr
    generalize hes : exRow q i = es at *
    generalize hv : exStep q (exL q i) i x = v at *
    have fin' : ∀ w, w = exV v → again I n ⟨147, [(1, .ref 1 0 0), (3, .arr 13 0 q.nodes.length), (15, n_ q.nodes), (16, iv q.nodes.length), (17, iv (i + 1 : Nat))], [(1, ⟨false, taQ_, 9, [qeaV q]⟩), (2, ⟨true, tce_, 3, []⟩), (13, ⟨true, tce_, 3, es.set i w⟩)]⟩ := fun w hw => hw ▸ fin
    obtain ⟨op, na, mb, val⟩ := x
    simp only [exStep] at hv
    simp only [qeaV, d_, q_, f_, s_, s10, n_, t_] at hlf
    cases hL : leafOf q i ⟨op, na, mb, val⟩ with
    | some e =>
      rw [hL] at hv hlf
      simp only at hv
      subst hv
      simp only [leafR, Option.getD_some, Option.isSome_some, exV] at hlf
      repeat' (first | (simp -implicitDefEqProofs only [go_sem, am_ hx, nodeV, qeaV, d_, q_, f_, s_, s10, n_, t_, List.length_map, exV, aiaddr_arr hlt', hnext, hw]) | refine ag_ (fun hb => ?_) (fun hb => ?_) | refine ⟨fun hb => ?_, fun hb => ?_⟩ | refine ac_ (hlf) rfl rfl ?_ | fail)
      all_goals exact fin
    | none =>
      rw [hL] at hv hlf
      simp only [leafR, Option.getD_none, Option.isSome_none, exV] at hlf
      simp only at hv
      cases hpb : at? (exL q i) ((i : Int) - 1) with
      | none =>
        have hi0 : i = 0 := by
          have := at?_none hpb
          omega
        subst hi0
        rw [hpb] at hv
        simp only [ite_self] at hv
        repeat' (first | (simp -implicitDefEqProofs only [go_sem, am_ hx, nodeV, qeaV, d_, q_, f_, s_, s10, n_, t_, List.length_map, exV, hnext, hw]) | refine ag_ (fun hb => ?_) (fun hb => ?_) | refine ⟨fun hb => ?_, fun hb => ?_⟩ | refine ac_ (hlf) rfl rfl ?_ | fail)
        all_goals first | exact fin0 hv.symm | (exfalso; simp at hb; done)
      | some b =>
        obtain ⟨j, hj, hbj⟩ := at?_some hpb
        have hij : i = j + 1 := by omega
        subst hij
        rw [hpb] at hv
        have hbrow : es[j]? = some (exV b) := hes ▸ exRow_at hbj
        have hok := hex j b hbj
        have hwj : IntKind.i64.wrap (((j + 1 : Nat) : Int) - 1) = (j : Int) := by rw [wi_ (by omega) (by omega)]; omega
        have hwf : IntKind.i64.wrap (b.from_ - 1) = b.from_ - 1 := wi_ (by omega) (by omega)
        have hwd : IntKind.i64.wrap (b.depth + 1) = b.depth + 1 := wi_ (by omega) (by omega)
        have hjN : j < q.nodes.length := by omega
        rw [show ((j + 1 : Nat) : Int) - 1 = (j : Int) by omega] at hv
        simp only at hv
        cases ha : at? (exL q (j + 1)) na with
        | none =>
          have hna := at?_none ha
          rw [ha] at hv
          repeat' (first | (simp -implicitDefEqProofs only [go_sem, am_ hx, nodeV, qeaV, d_, q_, f_, s_, s10, n_, t_, List.length_map, exV, hnext, hw, hbrow, aiaddr_arr hlt', aiaddr_arr hjN, hwj, hwf, hwd]) | refine ag_ (fun hb => ?_) (fun hb => ?_) | refine ⟨fun hb => ?_, fun hb => ?_⟩ | refine ac_ (hlf) rfl rfl ?_ | refine ac_ (value_Type_pc _ _ _) rfl rfl ?_ | fail)
          all_goals first | refine fin0 ?_ | refine fin' _ ?_ | exfalso
          all_goals
            try rw [← hv]
            clear hmk hv fin fin' fin0 hlf hI hx hnext hes hw hex h hm hbrow hL hpb hi hlt hlt' hwj hwf hwd hjN hbj harr
            simp only [val_zero, Bool.not_eq_true', Bool.not_true, Bool.not_false, decide_eq_true_eq, decide_eq_false_iff_not, beq_iff_eq, beq_eq_false_iff_ne, bne_iff_ne, bne_eq_false_iff_eq, ne_eq, Bool.not_eq_false'] at *
            first | omega | (simp [exV, *]; done) | (exfalso; omega)
        | some a =>
          obtain ⟨k, rfl, hak⟩ := at?_some ha
          have hkN : k < q.nodes.length := by have := (List.getElem?_eq_some_iff.1 hak).1; omega
          have harow : es[k]? = some (exV a) := hes ▸ exRow_at hak
          have hoka := hex k a hak
          have hwm : IntKind.i64.wrap ((if b.depth > a.depth then b.depth else a.depth) + 1) = max a.depth b.depth + 1 := by
            rw [wi_ (by split <;> omega) (by split <;> omega)]
            split <;> omega
          rw [ha] at hv
          simp only at hv
          repeat' (first | (simp -implicitDefEqProofs only [go_sem, am_ hx, nodeV, qeaV, d_, q_, f_, s_, s10, n_, t_, List.length_map, exV, hnext, hw, hbrow, harow, aiaddr_arr hlt', aiaddr_arr hjN, aiaddr_arr hkN, hwj, hwf, hwd, hwm]) | refine ag_ (fun hb => ?_) (fun hb => ?_) | refine ⟨fun hb => ?_, fun hb => ?_⟩ | refine ac_ (hlf) rfl rfl ?_ | refine ac_ (value_Type_pc _ _ _) rfl rfl ?_ | fail)
          all_goals first | refine fin0 ?_ | refine fin' _ ?_ | exfalso
          all_goals
            try rw [← hv]
            clear hmk hv fin fin' fin0 hlf hI hx hnext hes hw hex h hm hbrow hL hpb hi hlt hlt' hwj hwf hwd hjN hbj harr hak hkN harow hwm
            simp only [val_zero, Bool.not_eq_true', Bool.not_true, Bool.not_false, decide_eq_true_eq, decide_eq_false_iff_not, beq_iff_eq, beq_eq_false_iff_ne, bne_iff_ne, bne_eq_false_iff_eq, ne_eq, Bool.not_eq_false'] at *
            first | omega | (simp [exV, *]; done) | (exfalso; omega)
  · have : i = q.nodes.length := by omega
    subst this
    rw [exRow_all]
    have hln : (exprs q).length = q.nodes.length := el_ q _ (by omega)
    repeat' (first | (simp -implicitDefEqProofs only [go_sem]) | refine ag_ (fun hb => ?_) (fun hb => ?_) | refine ⟨fun hb => ?_, fun hb => ?_⟩ | fail)
    refine h _ ⟨_, _, rfl, ?_, .refl _⟩
    simp -implicitDefEqProofs only [view, one, eget, hget, beq_self_eq_true, if_true, reduceIte, Nat.reduceEqDiff, Nat.reduceLT, Nat.zero_add, List.length_map, hln, Nat.le_refl, and_self, List.drop_zero]
    rw [← hln, List.take_of_length_le (by simp)]
end Go.Proofs.YtjbcfpkibnhodaaGreatDoor.Ab
namespace Go.Proofs.YtjbcfpkibnhodaaGreatDoor.Ab
open Go
set_option linter.unusedSimpArgs false
set_option maxHeartbeats 4000000
set_option maxRecDepth 100000
variable {G : Nat → Option AV}
structure SlotT where
  var : Int
  value : Val
deriving DecidableEq
def slotV (s : SlotT) : AV := .agg [iv s.var, iv s.value.kind, iv s.value.int, .str s.value.str, .bool s.value.bool]
def s11 (l : List SlotT) : AV := .seq 5 (l.map slotV)
def valsV (l : List Val) : AV := .seq 4 (l.map valV)
def getR (l : List SlotT) (v : Int) : Val × Bool := match l.find? (fun s => s.var == v) with | some s => (s.value, true) | none => (v0, false)
def vbt (r : Val × Bool) : AV := .tup [valV r.1, .bool r.2]
theorem getR_yes {x : SlotT} {r : List SlotT} {v : Int} (h : (x.var == v) = true) : getR (x :: r) v = (x.value, true) := by simp [getR, List.find?_cons, h]
theorem getR_no {x : SlotT} {r : List SlotT} {v : Int} (h : (x.var == v) = false) : getR (x :: r) v = getR r v := by simp [getR, List.find?_cons, h]
theorem ref05_Get_pc (l : List SlotT) (hl : l.length < 9223372036854775807) (v : Int) : P_ Tryz.prog G npG_ [s11 l, iv v] (vbt (getR l v)) := by
  refine pc_proctorref05_Get (Runs.of fun Φ h => ?_)
  unfold c_proctorref05_Get
  simp -implicitDefEqProofs only [go_sem, s11, List.length_map]
  refine al_ (fun n st => ∃ i : Nat, i + n = l.length ∧ st = ⟨26, [(0, .seq 5 (l.map slotV)), (1, iv v), (4, .ref 4 0 0), (6, iv i)], [(4, ⟨false, taV_, 4, [valV v0]⟩)]⟩ ∧ getR (l.drop i) v = getR l v) l.length ⟨0, by simp, rfl, rfl⟩ ?_
  rintro I hI n st ⟨i, hi, rfl, hno⟩
  simp -implicitDefEqProofs only [go_sem, List.length_map]
  refine ⟨fun hlt => ?_, fun hge => ?_⟩
  · have hlt' : i < l.length := by omega
    obtain ⟨x, hx, hm⟩ := as10 hlt'
    have hw := ws_ hlt' (by omega)
    rw [drop_at hx] at hno
    cases hv : x.var == v with
    | true =>
      rw [getR_yes hv] at hno
      repeat' (first | (simp -implicitDefEqProofs only [go_sem, am_ hx, slotV, valV, hv]) | refine ag_ (fun hb => ?_) (fun hb => ?_) | refine ⟨fun hb => ?_, fun hb => ?_⟩ | fail)
      exact h _ ⟨_, _, rfl, rfl, fe_ (by rw [← hno]; rfl)⟩
    | false =>
      rw [getR_no hv] at hno
      repeat' (first | (simp -implicitDefEqProofs only [go_sem, am_ hx, slotV, valV, hv, hw]) | refine ag_ (fun hb => ?_) (fun hb => ?_) | refine ⟨fun hb => ?_, fun hb => ?_⟩ | fail)
      exact aa_ (n - 1) (by omega) (hI _ _ ⟨i + 1, by omega, rfl, hno⟩)
  · have : i = l.length := by omega
    subst this
    rw [List.drop_of_length_le (Nat.le_refl _)] at hno
    simp -implicitDefEqProofs only [go_sem, valV]
    exact h _ ⟨_, _, rfl, rfl, fe_ (by rw [← hno]; rfl)⟩
def slotOk (l : List SlotT) (i : Nat) (s : SlotT) : Bool := decide (0 ≤ s.var) && (decide (s.var ≤ 7) && (s.value.ok && (i == 0 || match l[i - 1]? with | none => true | some p => decide (p.var < s.var))))
def bindOk (l : List SlotT) : Bool := allI (slotOk l) l
theorem ref05_Right_pc (l : List SlotT) (hl : l.length < 9223372036854775807) : P_ Tryz.prog G n_proctorref05_Right [s11 l] (.bool (bindOk l)) := by
  refine pc_proctorref05_Right (Runs.of fun Φ h => ?_)
  unfold c_proctorref05_Right
  simp -implicitDefEqProofs only [go_sem, s11, List.length_map]
  refine al_ (fun n st => ∃ i : Nat, i + n = l.length ∧ st = ⟨51, [(0, .seq 5 (l.map slotV)), (3, iv i)], []⟩ ∧ ∀ j x, j < i → l[j]? = some x → slotOk l j x = true) l.length ⟨0, by simp, rfl, fun j x hj => by omega⟩ ?_
  rintro I hI n st ⟨i, hi, rfl, hno⟩
  simp -implicitDefEqProofs only [go_sem, List.length_map]
  refine ⟨fun hlt => ?_, fun hge => ?_⟩
  · have hlt' : i < l.length := by omega
    obtain ⟨x, hx, hm⟩ := as10 hlt'
    have hw := ws_ hlt' (by omega)
    have hok := ref03_Right_pc (G := G) x.value
    have hnext : slotOk l i x = true → again I n ⟨51, [(0, .seq 5 (l.map slotV)), (3, iv (i + 1 : Nat))], []⟩ := fun hv => aa_ (n - 1) (by omega) (hI _ _ ⟨i + 1, by omega, rfl, allI_step (p := slotOk l) hx hv hno⟩)
    have hbad : slotOk l i x = false → bindOk l = false := fun hv => af_ (p := slotOk l) hx hv
    unfold slotOk at hnext hbad
    generalize bindOk l = R at *
    clear hno
    simp only [valV] at hok
    by_cases h0 : i = 0
    · subst h0
      repeat' (first | (simp -implicitDefEqProofs only [go_sem, am_ hx, slotV, valV, hw]) | refine ag_ (fun hb => ?_) (fun hb => ?_) | refine ⟨fun hb => ?_, fun hb => ?_⟩ | refine ac_ (hok) rfl rfl ?_ | fail)
      all_goals first
        | (refine h _ ⟨_, _, rfl, rfl, fitB (hbad ?_).symm⟩; clear h hnext hbad hok hI; simp_all; done)
        | (refine hnext ?_; clear h hnext hbad hok hI; simp_all; done)
        | (exfalso; clear h hnext hbad hok hI; simp_all; done)
        | (refine h _ ⟨_, _, rfl, rfl, fitB (hbad ?_).symm⟩; clear h hnext hbad hok hI; simp_all; omega)
        | (refine hnext ?_; clear h hnext hbad hok hI; simp_all; omega)
        | (exfalso; clear h hnext hbad hok hI; simp_all; omega)
    · obtain ⟨p, hp, _⟩ := as10 (l := l) (i := i - 1) (by omega)
      have hw1 : IntKind.i64.wrap ((i : Int) - 1) = ((i - 1 : Nat) : Int) := by rw [wi_ (by omega) (by omega)]; omega
      have hpos : ((0 : Int) < (i : Int)) = True := by simp; omega
      rw [hp] at hnext hbad
      have hi0 : (i == 0) = false := by simpa using h0
      rw [hi0] at hnext hbad
      repeat' (first | (simp -implicitDefEqProofs only [go_sem, am_ hx, am_ hp, slotV, valV, hw, hw1, hpos, decide_true]) | refine ag_ (fun hb => ?_) (fun hb => ?_) | refine ⟨fun hb => ?_, fun hb => ?_⟩ | refine ac_ (hok) rfl rfl ?_ | fail)
      all_goals first
        | (refine h _ ⟨_, _, rfl, rfl, fitB (hbad ?_).symm⟩; clear h hnext hbad hok hI; simp_all; done)
        | (refine hnext ?_; clear h hnext hbad hok hI; simp_all; done)
        | (exfalso; clear h hnext hbad hok hI; simp_all; done)
        | (refine h _ ⟨_, _, rfl, rfl, fitB (hbad ?_).symm⟩; clear h hnext hbad hok hI; simp_all; omega)
        | (refine hnext ?_; clear h hnext hbad hok hI; simp_all; omega)
        | (exfalso; clear h hnext hbad hok hI; simp_all; omega)
  · exact h _ ⟨_, _, rfl, rfl, fitB (allI_all (by omega) hno).symm⟩
def fitOne (v : Val) (f : FreeT) : Bool := v.ok && v.kind == f.init.kind
def fitsR (vals : List Val) (l : List FreeT) : Bool := vals.length == l.length && (vals.zip l).all fun x => fitOne x.1 x.2
theorem fitsR_true {vals : List Val} {l : List FreeT} (hl : vals.length = l.length) (h : ∀ (i : Nat) v f, vals[i]? = some v → l[i]? = some f → fitOne v f = true) : fitsR vals l = true := by
  unfold fitsR
  rw [Bool.and_eq_true]
  refine ⟨by simpa using hl, ?_⟩
  rw [List.all_eq_true]
  rintro ⟨v, f⟩ hm
  obtain ⟨i, hi⟩ := List.getElem?_of_mem hm
  rw [List.getElem?_zip_eq_some] at hi
  exact h i v f hi.1 hi.2
theorem fitsR_at {vals : List Val} {l : List FreeT} (h : fitsR vals l = true) : vals.length = l.length ∧ ∀ (i : Nat) v f, vals[i]? = some v → l[i]? = some f → v.ok = true ∧ v.kind = f.init.kind := by
  unfold fitsR at h
  rw [Bool.and_eq_true, List.all_eq_true] at h
  refine ⟨by simpa using h.1, fun i v f hv hf => ?_⟩
  have := h.2 (v, f) (List.mem_of_getElem? (i := i) (by rw [List.getElem?_zip_eq_some]; exact ⟨hv, hf⟩))
  simpa [fitOne] using this
def quantR (b : List SlotT) (a ty : Int) : Val × Int := if (getR b a).2 = true ∧ (getR b a).1.kind = ty then ((getR b a).1, 0) else (v0, 9)
end Go.Proofs.YtjbcfpkibnhodaaGreatDoor.Ab
