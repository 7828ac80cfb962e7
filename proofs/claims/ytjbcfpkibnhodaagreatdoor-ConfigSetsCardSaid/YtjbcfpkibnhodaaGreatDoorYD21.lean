/-
  core, proctorref13: names; few; Plain. core.head, proctorref13.names. Expressions: that the code's and the reference's are the same, where kinds are. Whole expressions: the code's and the reference's. No claim is proved here.
-/
import Derived.Test.YtjbcfpkibnhodaaGreatDoorYD17
import Derived.Test.YtjbcfpkibnhodaaGreatDoorYD9
namespace Go.Proofs.YtjbcfpkibnhodaaGreatDoor.Ab
open Go
set_option linter.unusedSimpArgs false
set_option maxHeartbeats 4000000
variable {G : Nat → Option AV}
theorem ref13_twice_pc (l : List Str) (hl : l.length < 9223372036854775807) (i : Nat) (s : Str) (hs : l[i]? = some s) : PureC Tryz.prog G n_proctorref13_twice [.seq 1 (l.map AV.str), iv i] (.bool ((l.take i).any fun x => x == s)) := by
  have hil := (List.getElem?_eq_some_iff.1 hs).1
  refine pc_proctorref13_twice (Runs.of fun Φ h => ?_)
  unfold c_proctorref13_twice
  generalize hv : ((l.take i).any fun x => x == s) = v at *
  simp -implicitDefEqProofs only [go_sem]
  refine at_loop (fun n st => ∃ j : Nat, j + n = i ∧ st = ⟨20, [(0, .seq 1 (l.map AV.str)), (1, iv i), (5, iv j)], []⟩ ∧ (((l.take i).drop j).any fun x => x == s) = v) i ⟨0, by simp, rfl, hv⟩ ?_
  rintro I hI n st ⟨j, hj, rfl, hno⟩
  simp -implicitDefEqProofs only [go_sem]
  refine ⟨fun hlt => ?_, fun hge => ?_⟩
  · have hlt' : j < i := by omega
    obtain ⟨x, hx, hm⟩ := at_some (l := l) (i := j) (by omega)
    have hw := wrap_succ hlt' (by omega)
    rw [show (l.take i).drop j = x :: (l.take i).drop (j + 1) by
      obtain ⟨h1, rfl⟩ := List.getElem?_eq_some_iff.1 hx
      rw [List.drop_eq_getElem_cons (by simp; omega)]; simp, List.any_cons] at hno
    repeat' (first | (simp -implicitDefEqProofs only [go_sem, aiaddr_map hx, aiaddr_map hs, hw]) | refine at_guard (fun hb => ?_) (fun hb => ?_) | refine ⟨fun hb => ?_, fun hb => ?_⟩ | fail)
    all_goals first
      | (refine h _ ⟨_, _, rfl, rfl, fitB ?_⟩; rw [← hno]; simp_all; done)
      | (refine at_again (n - 1) (by omega) (hI _ _ ⟨j + 1, by omega, rfl, ?_⟩); rw [← hno]; simp_all; done)
  · rw [List.drop_of_length_le (by simp; omega), List.any_nil] at hno
    exact h _ ⟨_, _, rfl, rfl, fitB hno⟩
def fewS (q : QeaT) : Bool := decide ((q.quants.length : Int) ≤ 8) && (decide ((q.frees.length : Int) ≤ 16) && (decide ((q.states.length : Int) ≤ 32) && (decide ((q.symbols.length : Int) ≤ 64) && (decide ((q.nodes.length : Int) ≤ 2048) && decide ((q.trans.length : Int) ≤ 256)))))
end Go.Proofs.YtjbcfpkibnhodaaGreatDoor.Ab
namespace Go.Proofs.YtjbcfpkibnhodaaGreatDoor.Ab
open Go
set_option linter.unusedSimpArgs false
set_option maxHeartbeats 4000000
variable {G : Nat → Option AV}
theorem take_map_succ {l : List Str} {k : Nat} {x : Str} (h : l[k]? = some x) : (l.take (k + 1)).map AV.str = (l.take k).map AV.str ++ [.str x] := by
  rw [List.take_add_one, h]
  simp
def QeaT.vars (q : QeaT) : List Str := q.quants.map (·.name) ++ q.frees.map (·.name)
def QeaT.names (q : QeaT) : List Str := q.states.map (·.name)
theorem vars_len (q : QeaT) : q.vars.length = q.quants.length + q.frees.length := by simp [QeaT.vars]
theorem vars_q {q : QeaT} {i : Nat} {y : QuantT} (h : q.quants[i]? = some y) : q.vars[i]? = some y.name := by
  have := (List.getElem?_eq_some_iff.1 h).1
  unfold QeaT.vars
  rw [List.getElem?_append_left (by simpa using this), List.getElem?_map, h]
  rfl
theorem vars_f {q : QeaT} {i : Nat} {y : FreeT} (h : q.frees[i]? = some y) : q.vars[q.quants.length + i]? = some y.name := by
  unfold QeaT.vars
  rw [List.getElem?_append_right (by simp), List.getElem?_map]
  simp [h]
theorem names_s {q : QeaT} {i : Nat} {y : StateT} (h : q.states[i]? = some y) : q.names[i]? = some y.name := by
  unfold QeaT.names
  rw [List.getElem?_map, h]
  rfl
theorem names_len (q : QeaT) : q.names.length = q.states.length := by simp [QeaT.names]
theorem take_len {l : List Str} {k : Nat} (h : k ≤ l.length) : ((l.take k).map AV.str).length = k := by simp; omega
def nameR (l : List Str) (i : Nat) (s : Str) : Bool := nameOk s && !((l.take i).any fun x => x == s)
def typeOk (n : Int) : Bool := decide (1 ≤ n) && decide (n ≤ 3)
def headR (q : QeaT) : Bool :=
  allI (fun _ (y : QuantT) => typeOk y.type) q.quants && (allI (fun _ (y : FreeT) => y.init.ok) q.frees && (allI (nameR q.vars) q.vars && (allI (nameR q.names) q.names && nameOk q.name)))
theorem ref13_names_pc (q : QeaT) (hq : q.Few) : PureC Tryz.prog G n_proctorref13_names [qeaV q] (.bool (headR q)) := by
  have h1 := hq.quants
  have h2 := hq.frees
  have h3 := hq.states
  have hvl := vars_len q
  have hnl := names_len q
  refine pc_proctorref13_names (Runs.of fun Φ h => ?_)
  unfold c_proctorref13_names
  have fin : ∀ b heap, headR q = b → Φ ⟨112, [(2, .bool b)], heap⟩ := fun b heap e => h _ ⟨_, _, rfl, rfl, fitB e.symm⟩
  clear h
  generalize hR : headR q = w at *
  unfold headR at hR
  replace hR := hR.symm
  try (simp -implicitDefEqProofs only [go_sem, qeaV, declsV, quantsV, freesV, statesV, symsV, nodesV, transsV, List.length_map])
  refine at_loop (fun n st => ∃ i : Nat, i + n = q.quants.length ∧ st = ⟨112, [(1, .ref 1 0 0), (3, .arr 3 0 i), (4, iv i)], [(1, ⟨false, t_api_Qea, 9, [qeaV q]⟩), (3, ⟨true, t_string, 1, (q.vars.take i).map AV.str⟩)]⟩ ∧ ∀ j y, j < i → q.quants[j]? = some y → typeOk y.type = true) q.quants.length ⟨0, by simp, rfl, fun j x hj => by omega⟩ ?_
  rintro I hI n st ⟨i, hi, rfl, hno⟩
  simp -implicitDefEqProofs only [go_sem, qeaV, declsV, quantsV, freesV, statesV, symsV, nodesV, transsV, List.length_map]
  refine ⟨fun hlt => ?_, fun hge => ?_⟩
  · have hlt' : i < q.quants.length := by omega
    obtain ⟨y, hy, hm⟩ := at_some hlt'
    have hw := wrap_succ hlt' (by omega)
    have hbd : (i + 1) * 16 ≤ 140737488355328 := by omega
    have hnext : typeOk y.type = true → again I n ⟨112, [(1, .ref 1 0 0), (3, .arr 3 0 (i + 1)), (4, iv (i + 1 : Nat))], [(1, ⟨false, t_api_Qea, 9, [qeaV q]⟩), (3, ⟨true, t_string, 1, (q.vars.take (i + 1)).map AV.str⟩)]⟩ := fun hv => at_again (n - 1) (by omega) (hI _ _ ⟨i + 1, by omega, rfl, allI_step (p := fun _ (y : QuantT) => typeOk y.type) hy hv hno⟩)
    have hbad : typeOk y.type = false → w = false := fun hv => by rw [hR, allI_false hy hv, Bool.false_and]
    have hrl := take_len (l := q.vars) (k := i) (by omega)
    rw [take_map_succ (vars_q hy)] at hnext
    generalize (q.vars.take i).map AV.str = R at *
    repeat' (first | (simp -implicitDefEqProofs only [go_sem, aiaddr_map hy, quantV, hw, hrl, hbd]) | refine at_guard (fun hb => ?_) (fun hb => ?_) | refine ⟨fun hb => ?_, fun hb => ?_⟩ | fail)
    all_goals first | refine hnext ?_ | refine fin _ _ (hbad ?_)
    all_goals
      clear hnext hbad fin hno hI hR
      unfold typeOk
      rw [Bool.eq_iff_iff]
      simp at *
      omega
  · have : i = q.quants.length := by omega
    subst this
    rw [allI_all (Nat.le_refl _) hno, Bool.true_and] at hR
    clear hI hno
    try (simp -implicitDefEqProofs only [go_sem, qeaV, declsV, quantsV, freesV, statesV, symsV, nodesV, transsV, List.length_map])
    refine at_loop (fun n st => ∃ i : Nat, i + n = q.frees.length ∧ st = ⟨112, [(1, .ref 1 0 0), (3, .arr 3 0 (q.quants.length + i)), (5, iv i)], [(1, ⟨false, t_api_Qea, 9, [qeaV q]⟩), (3, ⟨true, t_string, 1, (q.vars.take (q.quants.length + i)).map AV.str⟩)]⟩ ∧ ∀ j y, j < i → q.frees[j]? = some y → y.init.ok = true) q.frees.length ⟨0, by simp, rfl, fun j x hj => by omega⟩ ?_
    rintro I hI n st ⟨i, hi, rfl, hno⟩
    simp -implicitDefEqProofs only [go_sem, qeaV, declsV, quantsV, freesV, statesV, symsV, nodesV, transsV, List.length_map]
    refine ⟨fun hlt => ?_, fun hge => ?_⟩
    · have hlt' : i < q.frees.length := by omega
      obtain ⟨y, hy, hm⟩ := at_some hlt'
      have hw := wrap_succ hlt' (by omega)
      have hbd : (q.quants.length + i + 1) * 16 ≤ 140737488355328 := by omega
      have hnext : y.init.ok = true → again I n ⟨112, [(1, .ref 1 0 0), (3, .arr 3 0 (q.quants.length + i + 1)), (5, iv (i + 1 : Nat))], [(1, ⟨false, t_api_Qea, 9, [qeaV q]⟩), (3, ⟨true, t_string, 1, (q.vars.take (q.quants.length + i + 1)).map AV.str⟩)]⟩ := fun hv => at_again (n - 1) (by omega) (hI _ _ ⟨i + 1, by omega, rfl, allI_step (p := fun _ (y : FreeT) => y.init.ok) hy hv hno⟩)
      have hbad : y.init.ok = false → w = false := fun hv => by rw [hR, allI_false hy hv, Bool.false_and]
      have hrl := take_len (l := q.vars) (k := q.quants.length + i) (by omega)
      have hc := ref03_Right_pc (G := G) y.init
      simp only [valV] at hc
      rw [take_map_succ (vars_f hy)] at hnext
      generalize (q.vars.take (q.quants.length + i)).map AV.str = R at *
      generalize y.init.ok = b at *
      repeat' (first | (simp -implicitDefEqProofs only [go_sem, aiaddr_map hy, freeV, hw, hrl, hbd]) | refine at_guard (fun hb => ?_) (fun hb => ?_) | refine ⟨fun hb => ?_, fun hb => ?_⟩ | refine at_call (hc) rfl rfl ?_ | fail)
      all_goals first | exact hnext (by simpa using hb) | exact fin _ _ (hbad (by simpa using hb))
    · have : i = q.frees.length := by omega
      subst this
      rw [allI_all (Nat.le_refl _) hno, Bool.true_and] at hR
      clear hI hno
      rw [List.take_of_length_le (show q.vars.length ≤ q.quants.length + q.frees.length by omega), ← hvl]
      have htv : List.take q.vars.length (q.vars.map AV.str) = q.vars.map AV.str := List.take_of_length_le (by simp)
      have hlv : (q.vars.map AV.str).length = q.vars.length := by simp
      try (simp -implicitDefEqProofs only [go_sem, qeaV, declsV, quantsV, freesV, statesV, symsV, nodesV, transsV, List.length_map])
      refine at_loop (fun n st => ∃ i : Nat, i + n = q.vars.length ∧ st = ⟨112, [(1, .ref 1 0 0), (3, .arr 3 0 q.vars.length), (6, iv i)], [(1, ⟨false, t_api_Qea, 9, [qeaV q]⟩), (3, ⟨true, t_string, 1, q.vars.map AV.str⟩)]⟩ ∧ ∀ j y, j < i → q.vars[j]? = some y → nameR q.vars j y = true) q.vars.length ⟨0, by simp, rfl, fun j x hj => by omega⟩ ?_
      rintro I hI n st ⟨i, hi, rfl, hno⟩
      simp -implicitDefEqProofs only [go_sem, qeaV, declsV, quantsV, freesV, statesV, symsV, nodesV, transsV, List.length_map]
      refine ⟨fun hlt => ?_, fun hge => ?_⟩
      · have hlt' : i < q.vars.length := by omega
        obtain ⟨y, hy, hm⟩ := at_some hlt'
        have hw := wrap_succ hlt' (by omega)
        have hym : (q.vars.map AV.str)[i]? = some (.str y) := by simp [hy]
        have hnext : nameR q.vars i y = true → again I n ⟨112, [(1, .ref 1 0 0), (3, .arr 3 0 q.vars.length), (6, iv (i + 1 : Nat))], [(1, ⟨false, t_api_Qea, 9, [qeaV q]⟩), (3, ⟨true, t_string, 1, q.vars.map AV.str⟩)]⟩ := fun hv => at_again (n - 1) (by omega) (hI _ _ ⟨i + 1, by omega, rfl, allI_step hy hv hno⟩)
        have hbad : nameR q.vars i y = false → w = false := fun hv => by rw [hR, allI_false hy hv, Bool.false_and]
        have hc1 := ref07_Name_pc (G := G) y
        have hc2 := ref13_twice_pc (G := G) q.vars (by omega) i y hy
        unfold nameR at hnext hbad
        generalize nameOk y = b1 at *
        generalize ((q.vars.take i).any fun x => x == y) = b2 at *
        clear hno hR
        repeat' (first | (simp -implicitDefEqProofs only [go_sem, aiaddr_arr hlt', hym, hw, List.length_map]) | refine at_guard (fun hb => ?_) (fun hb => ?_) | refine ⟨fun hb => ?_, fun hb => ?_⟩ | refine at_call (hc1) rfl rfl ?_ | (refine at_call hc2 ?_ rfl ?_; (focus (simp [viewC, flat, viewBs, viewB, viewK, hget, htv, hlv]; done))) | fail)
        all_goals first | (refine hnext ?_; clear hnext hbad fin hI; simp_all; done) | (refine fin _ _ (hbad ?_); clear hnext hbad fin hI; simp_all; done)
      · have : i = q.vars.length := by omega
        subst this
        rw [allI_all (Nat.le_refl _) hno, Bool.true_and] at hR
        clear hI hno
        generalize q.vars.map AV.str = V at *
        try (simp -implicitDefEqProofs only [go_sem, qeaV, declsV, quantsV, freesV, statesV, symsV, nodesV, transsV, List.length_map])
        refine at_loop (fun n st => ∃ i : Nat, i + n = q.states.length ∧ st = ⟨112, [(1, .ref 1 0 0), (7, .arr 7 0 i), (8, iv i)], [(1, ⟨false, t_api_Qea, 9, [qeaV q]⟩), (3, ⟨true, t_string, 1, V⟩), (7, ⟨true, t_string, 1, (q.names.take i).map AV.str⟩)]⟩ ∧ ∀ j y, j < i → q.names[j]? = some y → nameR q.names j y = true) q.states.length ⟨0, by simp, rfl, fun j x hj => by omega⟩ ?_
        rintro I hI n st ⟨i, hi, rfl, hno⟩
        simp -implicitDefEqProofs only [go_sem, qeaV, declsV, quantsV, freesV, statesV, symsV, nodesV, transsV, List.length_map]
        refine ⟨fun hlt => ?_, fun hge => ?_⟩
        · have hlt' : i < q.states.length := by omega
          obtain ⟨y, hy, hm⟩ := at_some hlt'
          have hw := wrap_succ hlt' (by omega)
          have hyn := names_s hy
          have hbd : (i + 1) * 16 ≤ 140737488355328 := by omega
          have hnext : nameR q.names i y.name = true → again I n ⟨112, [(1, .ref 1 0 0), (7, .arr 7 0 (i + 1)), (8, iv (i + 1 : Nat))], [(1, ⟨false, t_api_Qea, 9, [qeaV q]⟩), (3, ⟨true, t_string, 1, V⟩), (7, ⟨true, t_string, 1, (q.names.take (i + 1)).map AV.str⟩)]⟩ := fun hv => at_again (n - 1) (by omega) (hI _ _ ⟨i + 1, by omega, rfl, allI_step hyn hv hno⟩)
          have hbad : nameR q.names i y.name = false → w = false := fun hv => by rw [hR, allI_false hyn hv, Bool.false_and]
          have hc1 := ref07_Name_pc (G := G) y.name
          have hc2 := ref13_twice_pc (G := G) (q.names.take (i + 1)) (by simp; omega) i y.name (by rw [List.getElem?_take_of_lt (by omega)]; exact hyn)
          have hrl := take_len (l := q.names) (k := i) (by omega)
          rw [take_map_succ hyn, List.take_take, Nat.min_eq_left (by omega)] at hc2
          unfold nameR at hnext hbad
          rw [take_map_succ hyn] at hnext
          generalize nameOk y.name = b1 at *
          generalize ((q.names.take i).any fun x => x == y.name) = b2 at *
          generalize (q.names.take i).map AV.str = R at *
          have hat : (R ++ [AV.str y.name])[i]? = some (.str y.name) := by rw [List.getElem?_append_right (by omega), hrl, Nat.sub_self]; rfl
          have htn : List.take (i + 1) (R ++ [AV.str y.name]) = R ++ [AV.str y.name] := List.take_of_length_le (by simp [hrl])
          have hln : (R ++ [AV.str y.name]).length = i + 1 := by simp [hrl]
          have hi1 : i < i + 1 := by omega
          clear hno hR
          repeat' (first | (simp -implicitDefEqProofs only [go_sem, aiaddr_map hy, stateV, aiaddr_arr hi1, hat, hw, hrl, hbd, List.length_map]) | refine at_guard (fun hb => ?_) (fun hb => ?_) | refine ⟨fun hb => ?_, fun hb => ?_⟩ | refine at_call (hc1) rfl rfl ?_ | (refine at_call hc2 ?_ rfl ?_; (focus (simp [viewC, flat, viewBs, viewB, viewK, hget, htn, hln]; done))) | fail)
          all_goals first | (refine hnext ?_; clear hnext hbad fin hI; simp_all; done) | (refine fin _ _ (hbad ?_); clear hnext hbad fin hI; simp_all; done)
        · have : i = q.states.length := by omega
          subst this
          rw [allI_all (by omega) hno, Bool.true_and] at hR
          clear hI hno
          have hc1 := ref07_Name_pc (G := G) q.name
          repeat' (first | (simp -implicitDefEqProofs only [go_sem, qeaV, declsV, quantsV, freesV, statesV, symsV, nodesV, transsV]) | refine at_guard (fun hb => ?_) (fun hb => ?_) | refine ⟨fun hb => ?_, fun hb => ?_⟩ | refine at_call (hc1) rfl rfl ?_ | fail)
          all_goals exact fin _ _ hR
end Go.Proofs.YtjbcfpkibnhodaaGreatDoor.Ab
namespace Go.Proofs.YtjbcfpkibnhodaaGreatDoor.Ab
open Go
set_option linter.unusedSimpArgs false
theorem exStep_eq (q : QeaT) (out : List ExT) (i : Nat) (x : NodeT) : exStep q out i x = match leafOf q i x with
    | some e => e
    | none => if x.op < 4 ∨ 16 < x.op ∨ ¬ x.value = v0 then e0 else if (bAt out ((i : Int) - 1)).kind = 0 then e0 else
      if x.op ≤ 5 then (if x.a = (i : Int) - 1 ∧ x.b = 0 then ⟨opKind x.op (bAt out ((i : Int) - 1)).kind (bAt out ((i : Int) - 1)).kind, (bAt out ((i : Int) - 1)).depth + 1, (bAt out ((i : Int) - 1)).from_⟩ else e0)
      else if x.b = (i : Int) - 1 ∧ x.a = (bAt out ((i : Int) - 1)).from_ - 1 then
        (if (bAt out x.a).kind = 0 then e0 else ⟨opKind x.op (bAt out x.a).kind (bAt out ((i : Int) - 1)).kind, max (bAt out x.a).depth (bAt out ((i : Int) - 1)).depth + 1, (bAt out x.a).from_⟩)
      else e0 := by
  unfold exStep
  cases leafOf q i x with
  | some e => rfl
  | none =>
    dsimp only
    split
    · rfl
    · unfold bAt
      cases at? out ((i : Int) - 1) with
      | none => rfl
      | some b =>
        cases at? out x.a <;> simp
structure QeaT.Kinds (q : QeaT) : Prop where
  quants : ∀ y ∈ q.quants, 1 ≤ y.type ∧ y.type ≤ 3
  frees : ∀ y ∈ q.frees, y.init.ok = true
theorem Val.ok_kind {v : Val} (h : v.ok = true) : 1 ≤ v.kind ∧ v.kind ≤ 3 := by
  unfold Val.ok at h
  split at h
  · omega
  · split at h
    · omega
    · simp at h; omega
theorem opKind_ne {op a b : Int} (ho : 6 ≤ op) (h : ¬ a = b) : opKind op a b = 0 := by
  have h' : ¬ b = a := fun e => h e.symm
  unfold opKind
  rw [if_neg (by omega), if_neg (by omega)]
  simp [h']
theorem opKind_range {op a b : Int} (ha : 1 ≤ a ∧ a ≤ 3) : 0 ≤ opKind op a b ∧ opKind op a b ≤ 3 := by
  unfold opKind
  repeat' split
  all_goals omega
def sameE (e b : ExT) : Prop := e.kind = b.kind ∧ (¬ e.kind = 0 → e = b) ∧ 0 ≤ e.kind ∧ e.kind ≤ 3
theorem sameE_zero : sameE e0 e0 := ⟨rfl, fun h => absurd rfl h, by simp, by simp⟩
theorem sameE_step {q : QeaT} (hk : q.Kinds) {o1 o2 : List ExT} (ho : ∀ n, sameE (bAt o1 n) (bAt o2 n)) (i : Nat) (x : NodeT) : sameE (exStep q o1 i x) (beStep q o2 i x) := by
  rw [exStep_eq]
  obtain ⟨op, na, mb, v⟩ := x
  unfold beStep leafOf
  dsimp only
  by_cases h1 : op = 1
  · subst h1
    simp only [if_pos]
    by_cases hc : na = 0 ∧ mb = 0 ∧ v.ok = true
    · rw [if_pos hc, if_pos hc]
      have := Val.ok_kind hc.2.2
      exact ⟨rfl, fun _ => rfl, by dsimp only; omega, by dsimp only; omega⟩
    · rw [if_neg hc, if_neg hc]
      exact sameE_zero
  rw [if_neg h1, if_neg h1]
  by_cases hv : v = v0
  · rw [if_neg (show ¬ ¬ v = v0 from not_not_intro hv)]
    by_cases h2 : op = 2
    · subst h2
      simp only [if_pos]
      by_cases hb : mb = 0
      · rw [if_pos hb, if_pos ⟨hb, hv⟩]
        cases hq : at? q.quants na with
        | none => exact sameE_zero
        | some y =>
          obtain ⟨j, _, hj⟩ := at?_some hq
          have := hk.quants y (List.mem_of_getElem? hj)
          exact ⟨rfl, fun _ => rfl, by dsimp only [Option.map]; omega, by dsimp only [Option.map]; omega⟩
      · rw [if_neg hb, if_neg (fun h => hb h.1)]
        exact sameE_zero
    rw [if_neg h2, if_neg h2]
    by_cases h3 : op = 3
    · subst h3
      simp only [if_pos]
      by_cases hb : mb = 0
      · rw [if_pos hb, if_pos ⟨hb, hv⟩]
        cases hq : at? q.frees na with
        | none => exact sameE_zero
        | some y =>
          obtain ⟨j, _, hj⟩ := at?_some hq
          have := Val.ok_kind (hk.frees y (List.mem_of_getElem? hj))
          exact ⟨rfl, fun _ => rfl, by dsimp only [Option.map]; omega, by dsimp only [Option.map]; omega⟩
      · rw [if_neg hb, if_neg (fun h => hb h.1)]
        exact sameE_zero
    rw [if_neg h3, if_neg h3]
    dsimp only
    by_cases hr : op < 4 ∨ 16 < op
    · rw [if_pos hr, if_pos (show op < 4 ∨ 16 < op ∨ ¬ v = v0 by omega)]
      exact sameE_zero
    rw [if_neg hr, if_neg (show ¬ (op < 4 ∨ 16 < op ∨ ¬ v = v0) by simp only [hv, not_true_eq_false, or_false]; exact hr)]
    obtain ⟨hb1, hb2, hb3, hb4⟩ := ho ((i : Int) - 1)
    by_cases hz : (bAt o1 ((i : Int) - 1)).kind = 0
    · rw [if_pos hz]
      have hz' : (bAt o2 ((i : Int) - 1)).kind = 0 := by omega
      rw [if_pos (Or.inl hz'), if_pos (Or.inl hz'), ite_self]
      exact sameE_zero
    · have hbe := hb2 hz
      rw [if_neg hz, hbe]
      rw [hbe] at hz hb3 hb4
      generalize bAt o2 ((i : Int) - 1) = b at *
      by_cases h5 : op ≤ 5
      · rw [if_pos h5, if_pos h5]
        by_cases hc : na = (i : Int) - 1 ∧ mb = 0
        · rw [if_pos hc, if_neg (by omega)]
          have := opKind_range (op := op) (a := b.kind) (b := b.kind) (by omega)
          rw [typeR_eq _ _ _ (by omega), if_pos rfl]
          exact ⟨rfl, fun _ => rfl, this.1, this.2⟩
        · rw [if_neg hc, if_pos (by omega)]
          exact sameE_zero
      · rw [if_neg h5, if_neg h5]
        by_cases hc : mb = (i : Int) - 1 ∧ na = b.from_ - 1
        · rw [if_pos hc, if_neg (show ¬ (b.kind = 0 ∨ ¬ mb = (i : Int) - 1 ∨ ¬ na = b.from_ - 1) by omega)]
          rw [hc.2]
          obtain ⟨ha1, ha2, ha3, ha4⟩ := ho (b.from_ - 1)
          by_cases hza : (bAt o1 (b.from_ - 1)).kind = 0
          · rw [if_pos hza]
            have hza' : (bAt o2 (b.from_ - 1)).kind = 0 := by omega
            rw [hza', show typeR op 0 b.kind = 0 from if_pos (by omega)]
            exact ⟨rfl, fun h => absurd rfl h, by simp, by simp⟩
          · have hae := ha2 hza
            rw [if_neg hza, hae]
            rw [hae] at hza ha3 ha4
            generalize bAt o2 (b.from_ - 1) = a at *
            have := opKind_range (op := op) (a := a.kind) (b := b.kind) (by omega)
            rw [typeR_eq _ _ _ (by omega), Int.max_comm b.depth]
            by_cases hab : a.kind = b.kind
            · rw [if_pos hab]
              exact ⟨rfl, fun _ => rfl, this.1, this.2⟩
            · rw [if_neg hab, opKind_ne (by omega) hab]
              exact ⟨rfl, fun _ => rfl, by simp, by simp⟩
        · rw [if_neg hc, if_pos (by omega)]
          exact sameE_zero
  · rw [if_pos hv]
    by_cases h2 : op = 2
    · rw [if_pos h2, if_neg (fun h => hv h.2)]
      dsimp only
      rw [if_pos (by omega)]
      exact sameE_zero
    · rw [if_neg h2]
      by_cases h3 : op = 3
      · rw [if_pos h3, if_neg (fun h => hv h.2)]
        dsimp only
        rw [if_pos (by omega)]
        exact sameE_zero
      · rw [if_neg h3]
        dsimp only
        rw [if_pos (Or.inr (Or.inr hv))]
        exact sameE_zero
theorem bAt_append {l : List ExT} {e : ExT} {n : Int} : bAt (l ++ [e]) n = if n = l.length then e else bAt l n := by
  unfold bAt at?
  split
  · rename_i h0
    rw [List.getElem?_append]
    split
    · rw [if_neg (by omega)]
    · split
      · rename_i h1; simp [h1]
      · rw [List.getElem?_eq_none (by simp; omega), List.getElem?_eq_none (by omega)]
  · rw [if_neg (by omega)]
theorem sameE_all {q : QeaT} (hk : q.Kinds) : ∀ n, n ≤ q.nodes.length → ∀ j, sameE (bAt (exL q n) j) (bAt (beL q n) j)
  | 0, _, j => by
    have : bAt ([] : List ExT) j = e0 := by unfold bAt at?; split <;> simp
    show sameE (bAt [] j) (bAt [] j)
    rw [this]
    exact sameE_zero
  | n + 1, h, j => by
    obtain ⟨x, hx, _⟩ := at_some (l := q.nodes) (i := n) (by omega)
    rw [exL_step hx, beL_step hx, bAt_append, bAt_append, exL_length q n (by omega), beL_length q n (by omega)]
    split
    · exact sameE_step hk (sameE_all hk n (by omega)) n x
    · exact sameE_all hk n (by omega) j
end Go.Proofs.YtjbcfpkibnhodaaGreatDoor.Ab
namespace Go.Proofs.YtjbcfpkibnhodaaGreatDoor.Ab
open Go
set_option linter.unusedSimpArgs false
theorem kind_whole {q : QeaT} (hk : q.Kinds) (a r k : Int) : wholeS (exprs q) a r k = ((kindR q a r).1 == k && (!(k == 0) && decide ((kindR q a r).2 ≤ 64))) := by
  have hs := sameE_all hk q.nodes.length (Nat.le_refl _) r
  have hz : ∀ b : Bool, ((0 : Int) == k && (!(k == 0) && b)) = false := fun b => by
    by_cases h : k = 0
    · subst h; simp
    · rw [show ((0 : Int) == k) = false by simp; omega, Bool.false_and]
  change sameE (bAt (exprs q) r) _ at hs
  unfold wholeS kindR
  cases he : at? (exprs q) r with
  | none =>
    have hb : bAt (exprs q) r = e0 := by unfold bAt; rw [he]; rfl
    rw [hb] at hs
    rw [if_pos (Or.inl hs.1.symm)]
    exact (hz _).symm
  | some e =>
    obtain ⟨j, rfl, hj⟩ := at?_some he
    have hok := exL_ok q q.nodes.length (Nat.le_refl _) j e hj
    have hb : bAt (exprs q) j = e := by unfold bAt; rw [he]; rfl
    rw [hb] at hs
    obtain ⟨h1, h2, h3, h4⟩ := hs
    by_cases hz0 : e.kind = 0
    · rw [if_pos (Or.inl (by omega))]
      dsimp only
      rw [hz, hz0]
      by_cases h : k = 0
      · subst h; simp
      · rw [show ((0 : Int) == k) = false by simp; omega]; simp
    · have hbe := h2 hz0
      rw [← hbe]
      by_cases hf : e.from_ = a
      · rw [if_neg (by simp [hz0, hf])]
        dsimp only
        rw [show decide (a ≤ (j : Int)) = true by simp; omega, hf]
        simp
      · rw [if_pos (Or.inr hf)]
        dsimp only
        rw [hz, show (e.from_ == a) = false by simp [hf]]
        simp
end Go.Proofs.YtjbcfpkibnhodaaGreatDoor.Ab
