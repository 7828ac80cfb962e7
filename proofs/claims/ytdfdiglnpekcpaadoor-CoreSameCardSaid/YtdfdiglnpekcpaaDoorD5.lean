/-
  schema, proctorref07: declarations. No claim is proved here.
-/
import Derived.Test.YtdfdiglnpekcpaaDoorD4
import Derived.Test.YtdfdiglnpekcpaaDoorD2
namespace Go.Proofs.YtdfdiglnpekcpaaDoor.Ab
open Go
set_option linter.unusedSimpArgs false
set_option maxHeartbeats 4000000
variable {G : Nat → Option AV}

/-- The first error and its place. -/
def firstE {α : Type} (f : Nat → α → Int) : List α → Nat → Int × Int
  | [], _ => (0, -1)
  | x :: r, i => if f i x = 0 then firstE f r (i + 1) else (f i x, i)
theorem firstE_step {α : Type} {f : Nat → α → Int} {l : List α} {i : Nat} {x : α} (hx : l[i]? = some x) : firstE f (l.drop i) i = if f i x = 0 then firstE f (l.drop (i + 1)) (i + 1) else (f i x, i) := by
  obtain ⟨hlt, rfl⟩ := List.getElem?_eq_some_iff.1 hx
  rw [List.drop_eq_getElem_cons hlt, firstE]
theorem firstE_end {α : Type} {f : Nat → α → Int} {l : List α} {i : Nat} (h : l.length ≤ i) : firstE f (l.drop i) i = (0, -1) := by
  rw [List.drop_of_length_le h, firstE]

theorem okC_str (x : Str) : OkC [.eptr (.str x) 0] := ⟨fun _ => rfl, fun _ _ => rfl, fun _ => rfl, fun _ _ => rfl, fun _ => rfl, fun _ => rfl⟩

def words_global (G : Nat → Option AV) : Prop := G 2 = some (.agg (wordsL.map AV.str))
theorem words_len : (wordsL.map AV.str).length = 22 := rfl
theorem words_all : (wordsL.map AV.str).all cell1 = true := rfl
theorem schema_Word_pc (hG : words_global G) (s : Str) : PureC Tryd.prog G n_schema_Word [.str s] (.bool (speltOk s && wordsL.any fun x => s == x)) := by
  unfold words_global at hG
  refine pc_schema_Word (Runs.of fun Φ h => ?_)
  unfold c_schema_Word
  (try (simp -implicitDefEqProofs only [go_sem, Nat.reduceAdd, Nat.reduceSub, Nat.reduceMul, Nat.reduceLT, Nat.reduceLeDiff, Nat.reduceEqDiff, Nat.reduceBEq, Int.reduceNeg, Int.reduceAdd, Int.reduceLT, Int.reduceLE, Int.reduceToNat, Int.reduceEq, Int.reduceNe, Int.reduceBEq, Int.reduceBNe, Int.reduceMul, Int.reduceSub, reduceIte, reduceCtorEq, hG, words_len, words_all])); repeat' ((first | refine at_guard (fun hb => ?_) (fun hb => ?_) | refine ⟨fun hb => ?_, fun hb => ?_⟩ | refine at_call (schema_Spelt_pc s) rfl rfl ?_ | refine at_call (slices_Contains_string_string_pc wordsL s (by decide)) rfl rfl ?_ | fail) <;> (try (simp -implicitDefEqProofs only [go_sem, Nat.reduceAdd, Nat.reduceSub, Nat.reduceMul, Nat.reduceLT, Nat.reduceLeDiff, Nat.reduceEqDiff, Nat.reduceBEq, Int.reduceNeg, Int.reduceAdd, Int.reduceLT, Int.reduceLE, Int.reduceToNat, Int.reduceEq, Int.reduceNe, Int.reduceBEq, Int.reduceBNe, Int.reduceMul, Int.reduceSub, reduceIte, reduceCtorEq, hG, words_len, words_all])))
  all_goals (refine h _ ⟨_, _, rfl, rfl, fit_eq ?_⟩; clear h; first | rfl | simp_all)
theorem schema_Name_pc (hG : words_global G) (s : Str) : PureC Tryd.prog G n_schema_Name [.str s] (.bool (nameOk s)) := by
  refine pc_schema_Name (Runs.of fun Φ h => ?_)
  unfold c_schema_Name
  (try (simp -implicitDefEqProofs only [go_sem, Nat.reduceAdd, Nat.reduceSub, Nat.reduceMul, Nat.reduceLT, Nat.reduceLeDiff, Nat.reduceEqDiff, Nat.reduceBEq, Int.reduceNeg, Int.reduceAdd, Int.reduceLT, Int.reduceLE, Int.reduceToNat, Int.reduceEq, Int.reduceNe, Int.reduceBEq, Int.reduceBNe, Int.reduceMul, Int.reduceSub, reduceIte, reduceCtorEq])); repeat' ((first | refine at_guard (fun hb => ?_) (fun hb => ?_) | refine ⟨fun hb => ?_, fun hb => ?_⟩ | refine at_call (schema_Spelt_pc s) rfl rfl ?_ | refine at_call (schema_Word_pc hG s) rfl rfl ?_ | fail) <;> (try (simp -implicitDefEqProofs only [go_sem, Nat.reduceAdd, Nat.reduceSub, Nat.reduceMul, Nat.reduceLT, Nat.reduceLeDiff, Nat.reduceEqDiff, Nat.reduceBEq, Int.reduceNeg, Int.reduceAdd, Int.reduceLT, Int.reduceLE, Int.reduceToNat, Int.reduceEq, Int.reduceNe, Int.reduceBEq, Int.reduceBNe, Int.reduceMul, Int.reduceSub, reduceIte, reduceCtorEq])))
  all_goals (refine h _ ⟨_, _, rfl, rfl, fit_eq ?_⟩; clear h; first | rfl | (simp_all [nameOk]; done) | (simp_all [nameOk]; exact fun hn => absurd rfl (hn _ ‹s ∈ wordsL›)))
/-- Is a byte none of a name's, at its place? -/
def okAt (i : Nat) (c : UInt8) : Bool := nb c && !(decide (i = 0) && digit c)
theorem okAt_all (c : UInt8) (r : Str) : allI okAt (c :: r) = (!digit c && (c :: r).all nb) := by
  rw [Bool.eq_iff_iff, allI_true]
  simp only [okAt, Bool.and_eq_true, Bool.not_eq_true', Bool.and_eq_false_imp, decide_eq_true_eq, List.all_eq_true]
  constructor
  · intro h
    refine ⟨(h 0 c rfl).2 rfl, fun x hx => ?_⟩
    obtain ⟨i, hi⟩ := List.getElem?_of_mem hx
    exact (h i x hi).1
  · rintro ⟨h0, h1⟩ i x hx
    refine ⟨h1 x (List.mem_of_getElem? hx), fun e => ?_⟩
    subst e
    cases hx
    exact h0
theorem aidx_at {s : Str} {i : Nat} {c : UInt8} (h : s[i]? = some c) : aidx (.str s) (.int .i64 (i : Int)) = some (.int .u8 c.toNat) := by
  have h0 : ¬ (i : Int) < 0 := by omega
  simp [aidx, h]
/-- What is wrong with a declaration. -/
def declErr (l : List DeclT) (i : Nat) (d : DeclT) : Int :=
  if nameOk d.name = false then 11 else if idxF (fun e => e.name == d.name) l < i then 10 else if 8 < (d.types.length : Int) then 14 else if (d.types.any fun k => kindName k == []) = true then 8 else 0
/-- An error's number, and where. -/
def declCheck (l : List DeclT) : Int × Int := if 32 < (l.length : Int) then (14, 32) else firstE (declErr l) l 0
theorem schema_Find_1_pc (d : DeclT) (x : Str) : PureC Tryd.prog G n_schema_Find_1 [declV d, .eptr (.str x) 0] (.bool (d.name == x)) := by
  refine pc_schema_Find_1 (Runs.of fun Φ h => ?_)
  unfold c_schema_Find_1
  (try (simp -implicitDefEqProofs only [go_sem, Nat.reduceAdd, Nat.reduceSub, Nat.reduceMul, Nat.reduceLT, Nat.reduceLeDiff, Nat.reduceEqDiff, Nat.reduceBEq, Int.reduceNeg, Int.reduceAdd, Int.reduceLT, Int.reduceLE, Int.reduceToNat, Int.reduceEq, Int.reduceNe, Int.reduceBEq, Int.reduceBNe, Int.reduceMul, Int.reduceSub, reduceIte, reduceCtorEq, declV, intsV])); repeat' ((first | refine at_guard (fun hb => ?_) (fun hb => ?_) | refine ⟨fun hb => ?_, fun hb => ?_⟩ | fail) <;> (try (simp -implicitDefEqProofs only [go_sem, Nat.reduceAdd, Nat.reduceSub, Nat.reduceMul, Nat.reduceLT, Nat.reduceLeDiff, Nat.reduceEqDiff, Nat.reduceBEq, Int.reduceNeg, Int.reduceAdd, Int.reduceLT, Int.reduceLE, Int.reduceToNat, Int.reduceEq, Int.reduceNe, Int.reduceBEq, Int.reduceBNe, Int.reduceMul, Int.reduceSub, reduceIte, reduceCtorEq, declV, intsV])))
  all_goals (refine h _ ⟨_, _, rfl, rfl, fit_eq ?_⟩; clear h; first | rfl | simp_all)
theorem schema_Find_pc (l : List DeclT) (hl : l.length < 9223372036854775807) (x : Str) : PureC Tryd.prog G n_schema_Find [declsV l, .str x] (.tup [iv (max (idxF (fun d => d.name == x) l) 0), .bool (decide (0 ≤ idxF (fun d => d.name == x) l))]) := by
  refine pc_schema_Find (Runs.of fun Φ h => ?_)
  unfold c_schema_Find
  simp -implicitDefEqProofs only [go_sem, Nat.reduceAdd, Nat.reduceSub, Nat.reduceMul, Nat.reduceLT, Nat.reduceLeDiff, Nat.reduceEqDiff, Nat.reduceBEq, Int.reduceNeg, Int.reduceAdd, Int.reduceLT, Int.reduceLE, Int.reduceToNat, Int.reduceEq, Int.reduceNe, Int.reduceBEq, Int.reduceBNe, Int.reduceMul, Int.reduceSub, reduceIte, reduceCtorEq, declsV]
  refine at_call (slices_IndexFunc_api_Decl_api_Decl_pc n_schema_Find_1 [.eptr (.str x) 0] (by kernel_rfl) (okC_str x) (fun d => d.name == x) l (fun d _ => schema_Find_1_pc d x) hl) rfl rfl ?_
  simp -implicitDefEqProofs only [go_sem, Nat.reduceAdd, Nat.reduceSub, Nat.reduceMul, Nat.reduceLT, Nat.reduceLeDiff, Nat.reduceEqDiff, Nat.reduceBEq, Int.reduceNeg, Int.reduceAdd, Int.reduceLT, Int.reduceLE, Int.reduceToNat, Int.reduceEq, Int.reduceNe, Int.reduceBEq, Int.reduceBNe, Int.reduceMul, Int.reduceSub, reduceIte, reduceCtorEq]
  refine h _ ⟨_, _, rfl, rfl, fit_eq ?_⟩
  congr 3
  rw [show (max (idxF (fun d => d.name == x) l) 0) = if 0 > idxF (fun d => d.name == x) l then 0 else idxF (fun d => d.name == x) l by split <;> omega]
theorem schema_one_1_pc (k : Int) : PureC Tryd.prog G n_schema_one_1 [iv k] (.bool (kindName k == [])) := by
  refine pc_schema_one_1 (Runs.of fun Φ h => ?_)
  unfold c_schema_one_1
  (try (simp -implicitDefEqProofs only [go_sem, Nat.reduceAdd, Nat.reduceSub, Nat.reduceMul, Nat.reduceLT, Nat.reduceLeDiff, Nat.reduceEqDiff, Nat.reduceBEq, Int.reduceNeg, Int.reduceAdd, Int.reduceLT, Int.reduceLE, Int.reduceToNat, Int.reduceEq, Int.reduceNe, Int.reduceBEq, Int.reduceBNe, Int.reduceMul, Int.reduceSub, reduceIte, reduceCtorEq])); repeat' ((first | refine at_guard (fun hb => ?_) (fun hb => ?_) | refine ⟨fun hb => ?_, fun hb => ?_⟩ | refine at_call (value_Name_pc k) rfl rfl ?_ | fail) <;> (try (simp -implicitDefEqProofs only [go_sem, Nat.reduceAdd, Nat.reduceSub, Nat.reduceMul, Nat.reduceLT, Nat.reduceLeDiff, Nat.reduceEqDiff, Nat.reduceBEq, Int.reduceNeg, Int.reduceAdd, Int.reduceLT, Int.reduceLE, Int.reduceToNat, Int.reduceEq, Int.reduceNe, Int.reduceBEq, Int.reduceBNe, Int.reduceMul, Int.reduceSub, reduceIte, reduceCtorEq])))
  all_goals (refine h _ ⟨_, _, rfl, rfl, fit_eq ?_⟩; clear h; first | rfl | simp_all)
theorem schema_one_pc (hG : words_global G) (l : List DeclT) (hl : l.length < 9223372036854775807) (i : Nat) (d : DeclT) (hd : l[i]? = some d) (ht : d.types.length < 9223372036854775807) : PureC Tryd.prog G n_schema_one [declsV l, iv i] (iv (declErr l i d)) := by
  refine pc_schema_one (Runs.of fun Φ h => ?_)
  unfold c_schema_one
  have hf0 : 0 ≤ idxF (fun e => e.name == d.name) l := by rw [← decide_eq_true_eq (p := 0 ≤ idxF (fun e => e.name == d.name) l), idxF_any, List.any_eq_true]; exact ⟨d, List.mem_of_getElem? hd, by simp⟩
  have hfm : max (idxF (fun e => e.name == d.name) l) 0 = idxF (fun e => e.name == d.name) l := by omega
  have hc := (slices_ContainsFunc_int_int_pc (G := G) n_schema_one_1 [] (by kernel_rfl) okC_nil (fun k => kindName k == []) d.types (fun k _ => schema_one_1_pc k) ht)
  (try (simp -implicitDefEqProofs only [go_sem, Nat.reduceAdd, Nat.reduceSub, Nat.reduceMul, Nat.reduceLT, Nat.reduceLeDiff, Nat.reduceEqDiff, Nat.reduceBEq, Int.reduceNeg, Int.reduceAdd, Int.reduceLT, Int.reduceLE, Int.reduceToNat, Int.reduceEq, Int.reduceNe, Int.reduceBEq, Int.reduceBNe, Int.reduceMul, Int.reduceSub, reduceIte, reduceCtorEq, aiaddr_map hd, declV, intsV, declsV])); repeat' ((first | refine at_guard (fun hb => ?_) (fun hb => ?_) | refine ⟨fun hb => ?_, fun hb => ?_⟩ | refine at_call (schema_Find_pc l hl d.name) rfl rfl ?_ | refine at_call (schema_Name_pc hG d.name) rfl rfl ?_ | refine at_call (hc) rfl rfl ?_ | fail) <;> (try (simp -implicitDefEqProofs only [go_sem, Nat.reduceAdd, Nat.reduceSub, Nat.reduceMul, Nat.reduceLT, Nat.reduceLeDiff, Nat.reduceEqDiff, Nat.reduceBEq, Int.reduceNeg, Int.reduceAdd, Int.reduceLT, Int.reduceLE, Int.reduceToNat, Int.reduceEq, Int.reduceNe, Int.reduceBEq, Int.reduceBNe, Int.reduceMul, Int.reduceSub, reduceIte, reduceCtorEq, aiaddr_map hd, declV, intsV, declsV])))
  all_goals
    refine h _ ⟨_, _, rfl, rfl, fitI ?_⟩
    try rw [hfm] at *
    clear h hc hfm hf0 hG
    try simp only [List.length_map] at *
    simp only [declErr]
    generalize (d.types.any fun k => kindName k == []) = B at *
    simp_all
    try ((repeat' split) <;> first | rfl | omega | (simp_all; done))
theorem schema_Check_pc (hG : words_global G) (l : List DeclT) (hl : l.length < 9223372036854775807) (ht : ∀ d ∈ l, d.types.length < 9223372036854775807) : PureC Tryd.prog G n_schema_Check [declsV l] (.tup [iv (declCheck l).2, iv (declCheck l).1]) := by
  refine pc_schema_Check (Runs.of fun Φ h => ?_)
  unfold c_schema_Check
  (try (simp -implicitDefEqProofs only [go_sem, Nat.reduceAdd, Nat.reduceSub, Nat.reduceMul, Nat.reduceLT, Nat.reduceLeDiff, Nat.reduceEqDiff, Nat.reduceBEq, Int.reduceNeg, Int.reduceAdd, Int.reduceLT, Int.reduceLE, Int.reduceToNat, Int.reduceEq, Int.reduceNe, Int.reduceBEq, Int.reduceBNe, Int.reduceMul, Int.reduceSub, reduceIte, reduceCtorEq, declsV, List.length_map])); repeat' ((first | refine at_guard (fun hb => ?_) (fun hb => ?_) | refine ⟨fun hb => ?_, fun hb => ?_⟩ | fail) <;> (try (simp -implicitDefEqProofs only [go_sem, Nat.reduceAdd, Nat.reduceSub, Nat.reduceMul, Nat.reduceLT, Nat.reduceLeDiff, Nat.reduceEqDiff, Nat.reduceBEq, Int.reduceNeg, Int.reduceAdd, Int.reduceLT, Int.reduceLE, Int.reduceToNat, Int.reduceEq, Int.reduceNe, Int.reduceBEq, Int.reduceBNe, Int.reduceMul, Int.reduceSub, reduceIte, reduceCtorEq, declsV, List.length_map])))
  · exact h _ ⟨_, _, rfl, rfl, fit_eq (by rw [declCheck, if_pos ‹_›])⟩
  · have he : declCheck l = firstE (declErr l) l 0 := by rw [declCheck, if_neg hb]
    refine at_loop (fun n st => ∃ i : Nat, i + n = l.length ∧ st = ⟨22, [(0, declsV l), (10, iv l.length), (11, iv i)], []⟩ ∧ declCheck l = firstE (declErr l) (l.drop i) i) l.length ⟨0, by simp, rfl, he⟩ ?_
    rintro I hI n st ⟨i, hi, rfl, hno⟩
    simp -implicitDefEqProofs only [go_sem, Nat.reduceAdd, Nat.reduceSub, Nat.reduceMul, Nat.reduceLT, Nat.reduceLeDiff, Nat.reduceEqDiff, Nat.reduceBEq, Int.reduceNeg, Int.reduceAdd, Int.reduceLT, Int.reduceLE, Int.reduceToNat, Int.reduceEq, Int.reduceNe, Int.reduceBEq, Int.reduceBNe, Int.reduceMul, Int.reduceSub, reduceIte, reduceCtorEq]
    refine ⟨fun hlt => ?_, fun hge => ?_⟩
    · have hlt' : i < l.length := by omega
      obtain ⟨d, hd, hm⟩ := at_some hlt'
      have hw := wrap_succ hlt' (by omega)
      rw [firstE_step hd] at hno
      (try (simp -implicitDefEqProofs only [go_sem, Nat.reduceAdd, Nat.reduceSub, Nat.reduceMul, Nat.reduceLT, Nat.reduceLeDiff, Nat.reduceEqDiff, Nat.reduceBEq, Int.reduceNeg, Int.reduceAdd, Int.reduceLT, Int.reduceLE, Int.reduceToNat, Int.reduceEq, Int.reduceNe, Int.reduceBEq, Int.reduceBNe, Int.reduceMul, Int.reduceSub, reduceIte, reduceCtorEq, hw])); repeat' ((first | refine at_guard (fun hb => ?_) (fun hb => ?_) | refine ⟨fun hb => ?_, fun hb => ?_⟩ | refine at_call (schema_one_pc hG l hl i d hd (ht d hm)) rfl rfl ?_ | fail) <;> (try (simp -implicitDefEqProofs only [go_sem, Nat.reduceAdd, Nat.reduceSub, Nat.reduceMul, Nat.reduceLT, Nat.reduceLeDiff, Nat.reduceEqDiff, Nat.reduceBEq, Int.reduceNeg, Int.reduceAdd, Int.reduceLT, Int.reduceLE, Int.reduceToNat, Int.reduceEq, Int.reduceNe, Int.reduceBEq, Int.reduceBNe, Int.reduceMul, Int.reduceSub, reduceIte, reduceCtorEq, hw])))
      · rw [if_neg (by simpa using hb)] at hno
        exact h _ ⟨_, _, rfl, rfl, fit_eq (by rw [hno])⟩
      · rw [if_pos (by simpa using hb)] at hno
        exact at_again (n - 1) (by omega) (hI _ _ ⟨i + 1, by omega, rfl, hno⟩)
    · rw [firstE_end (by omega)] at hno
      exact h _ ⟨_, _, rfl, rfl, fit_eq (by rw [hno])⟩
theorem kind_bad (k : Int) : (kindName k == []) = !(decide (1 ≤ k) && decide (k ≤ 3)) := by
  unfold kindName
  split
  · subst k; rfl
  · split
    · subst k; rfl
    · split
      · subst k; rfl
      · rw [Bool.eq_iff_iff]; simp; omega
end Go.Proofs.YtdfdiglnpekcpaaDoor.Ab
