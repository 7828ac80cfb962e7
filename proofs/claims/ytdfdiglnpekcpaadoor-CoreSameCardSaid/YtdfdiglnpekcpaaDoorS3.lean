/-
  proctorref07.Text, proctorref13.Same; the law CoreSame. No claim is proved here.
-/
import Derived.Test.YtdfdiglnpekcpaaDoorS1
import Derived.Test.YtdfdiglnpekcpaaDoorS2
namespace Go.Proofs.YtdfdiglnpekcpaaDoor.Ab
open Go
set_option linter.unusedSimpArgs false
set_option maxHeartbeats 4000000
variable {G : Nat → Option AV}
theorem kindName_len (k : Int) : (kindName k).length ≤ 6 := by
  unfold kindName
  repeat' split
  all_goals decide
theorem restT_len (l : List Int) : (restT l).length ≤ 8 * l.length := by
  induction l with
  | nil => simp [restT]
  | cons k r ih =>
    have := kindName_len k
    simp [restT]
    omega
theorem joinT_len (l : List Int) : (joinT l).length ≤ 8 * l.length := by
  cases l with
  | nil => simp [joinT]
  | cons k r =>
    have := kindName_len k
    have := restT_len r
    simp [joinT]
    omega
theorem joinT_step {l : List Int} {i : Nat} {k : Int} (h : l[i]? = some k) : joinT (l.take (i + 1)) = if i = 0 then kindName k else joinT (l.take i) ++ [44, 32] ++ kindName k := by
  have hi := (List.getElem?_eq_some_iff.1 h).1
  rw [List.take_add_one, h, Option.toList_some, joinT_snoc]
  by_cases h0 : i = 0
  · subst h0; simp
  · rw [if_neg h0, if_neg (by intro e; have := congrArg List.length e; rw [List.length_take, List.length_nil] at this; omega)]
theorem abin_adds {a b : Str} (h : a.length + b.length ≤ 9223372036854775807) : abin .add (.str a) (.str b) = some (.str (a ++ b)) := by simp [abin, h]
theorem ref07_Text_pc (d : DeclT) (hn : d.name.length ≤ 1000000) (ht : d.types.length ≤ 1000000) : PureC Tryd.prog G n_proctorref07_Text [declV d] (.str (textD d)) := by
  obtain ⟨nm, l⟩ := d
  dsimp only at hn ht
  refine pc_proctorref07_Text (Runs.of fun Φ h => ?_)
  unfold c_proctorref07_Text
  have b1 : abin .add (.str nm) (.str [40]) = some (.str (nm ++ [40])) := abin_adds (by simp; omega)
  simp -implicitDefEqProofs only [go_sem, Nat.reduceAdd, Nat.reduceSub, Nat.reduceMul, Nat.reduceLT, Nat.reduceLeDiff, Nat.reduceEqDiff, Nat.reduceBEq, Int.reduceNeg, Int.reduceAdd, Int.reduceLT, Int.reduceLE, Int.reduceToNat, Int.reduceEq, Int.reduceNe, Int.reduceBEq, Int.reduceBNe, Int.reduceMul, Int.reduceSub, reduceIte, reduceCtorEq, declV, intsV, List.length_map, b1]
  refine at_loop (fun n st => ∃ (i : Nat) (o : Str), i + n = l.length ∧ st = ⟨45, [(1, .ref 1 0 0), (3, .str o), (4, iv i)], [(1, ⟨false, t_api_Decl, 2, [declV ⟨nm, l⟩]⟩)]⟩ ∧ o = nm ++ [40] ++ joinT (l.take i)) l.length ⟨0, nm ++ [40], by simp, rfl, by simp [joinT]⟩ ?_
  rintro I hI n st ⟨i, o, hi, rfl, rfl⟩
  simp -implicitDefEqProofs only [go_sem, Nat.reduceAdd, Nat.reduceSub, Nat.reduceMul, Nat.reduceLT, Nat.reduceLeDiff, Nat.reduceEqDiff, Nat.reduceBEq, Int.reduceNeg, Int.reduceAdd, Int.reduceLT, Int.reduceLE, Int.reduceToNat, Int.reduceEq, Int.reduceNe, Int.reduceBEq, Int.reduceBNe, Int.reduceMul, Int.reduceSub, reduceIte, reduceCtorEq, declV, intsV, List.length_map]
  refine ⟨fun hlt => ?_, fun hge => ?_⟩
  · have hlt' : i < l.length := by omega
    obtain ⟨k, hk, hm⟩ := at_some hlt'
    have hw := wrap_succ hlt' (by omega)
    have hnext : again I n ⟨45, [(1, .ref 1 0 0), (3, .str (nm ++ [40] ++ joinT (l.take (i + 1)))), (4, iv (i + 1 : Nat))], [(1, ⟨false, t_api_Decl, 2, [declV ⟨nm, l⟩]⟩)]⟩ := at_again (n - 1) (by omega) (hI _ _ ⟨i + 1, _, by omega, rfl, rfl⟩)
    have hjl := joinT_len (l.take i)
    have htl : (l.take i).length = i := by simp; omega
    rw [joinT_step hk] at hnext
    have hlen : (nm ++ [40] ++ joinT (l.take i)).length ≤ 20000000 := by simp; omega
    have hnext' : ∀ o : Str, (nm ++ [40] ++ if i = 0 then kindName k else joinT (l.take i) ++ [44, 32] ++ kindName k) = o → again I n ⟨45, [(1, .ref 1 0 0), (3, .str o), (4, iv (i + 1 : Nat))], [(1, ⟨false, t_api_Decl, 2, [declV ⟨nm, l⟩]⟩)]⟩ := fun o e => e ▸ hnext
    clear hnext
    have hz : i = 0 → nm ++ [40] ++ joinT (l.take i) = nm ++ [40] := fun e => by subst e; simp [joinT]
    have hass : ∀ x : Str, nm ++ [40] ++ (joinT (l.take i) ++ [44, 32] ++ x) = nm ++ [40] ++ joinT (l.take i) ++ [44, 32] ++ x := fun x => by simp
    generalize nm ++ [40] ++ joinT (l.take i) = P at *
    have c1 : ∀ s : Str, s.length ≤ 100 → abin .add (.str P) (.str s) = some (.str (P ++ s)) := fun s h => abin_adds (by omega)
    have c2 : ∀ s t : Str, s.length ≤ 100 → t.length ≤ 100 → abin .add (.str (P ++ s)) (.str t) = some (.str (P ++ s ++ t)) := fun s t h h' => abin_adds (by simp; omega)
    by_cases h0 : i = 0
    · have hz2 := hz h0
      clear hz
      subst h0
      (try (simp -implicitDefEqProofs only [go_sem, Nat.reduceAdd, Nat.reduceSub, Nat.reduceMul, Nat.reduceLT, Nat.reduceLeDiff, Nat.reduceEqDiff, Nat.reduceBEq, Int.reduceNeg, Int.reduceAdd, Int.reduceLT, Int.reduceLE, Int.reduceToNat, Int.reduceEq, Int.reduceNe, Int.reduceBEq, Int.reduceBNe, Int.reduceMul, Int.reduceSub, reduceIte, reduceCtorEq, aiaddr_map hk, declV, intsV, hw, List.length_map, c1 [105, 110, 116] (by decide), c1 [115, 116, 114, 105, 110, 103] (by decide), c1 [98, 111, 111, 108] (by decide)])); repeat' ((first | refine at_guard (fun hb => ?_) (fun hb => ?_) | refine ⟨fun hb => ?_, fun hb => ?_⟩ | fail) <;> (try (simp -implicitDefEqProofs only [go_sem, Nat.reduceAdd, Nat.reduceSub, Nat.reduceMul, Nat.reduceLT, Nat.reduceLeDiff, Nat.reduceEqDiff, Nat.reduceBEq, Int.reduceNeg, Int.reduceAdd, Int.reduceLT, Int.reduceLE, Int.reduceToNat, Int.reduceEq, Int.reduceNe, Int.reduceBEq, Int.reduceBNe, Int.reduceMul, Int.reduceSub, reduceIte, reduceCtorEq, aiaddr_map hk, declV, intsV, hw, List.length_map, c1 [105, 110, 116] (by decide), c1 [115, 116, 114, 105, 110, 103] (by decide), c1 [98, 111, 111, 108] (by decide)])))
      all_goals try (exfalso; simp at *; done)
      all_goals
        refine hnext' _ ?_
        rw [if_pos rfl, ← hz2]
        clear hnext' hI hz2 hass c1 c2 h
        simp only [beq_iff_eq, beq_eq_false_iff_ne, Bool.not_true, Bool.not_false] at *
        simp_all [kindName]
    · (try (simp -implicitDefEqProofs only [go_sem, Nat.reduceAdd, Nat.reduceSub, Nat.reduceMul, Nat.reduceLT, Nat.reduceLeDiff, Nat.reduceEqDiff, Nat.reduceBEq, Int.reduceNeg, Int.reduceAdd, Int.reduceLT, Int.reduceLE, Int.reduceToNat, Int.reduceEq, Int.reduceNe, Int.reduceBEq, Int.reduceBNe, Int.reduceMul, Int.reduceSub, reduceIte, reduceCtorEq, aiaddr_map hk, declV, intsV, hw, List.length_map, c1 [44, 32] (by decide), c2 [44, 32] [105, 110, 116] (by decide) (by decide), c2 [44, 32] [115, 116, 114, 105, 110, 103] (by decide) (by decide), c2 [44, 32] [98, 111, 111, 108] (by decide) (by decide)])); repeat' ((first | refine at_guard (fun hb => ?_) (fun hb => ?_) | refine ⟨fun hb => ?_, fun hb => ?_⟩ | fail) <;> (try (simp -implicitDefEqProofs only [go_sem, Nat.reduceAdd, Nat.reduceSub, Nat.reduceMul, Nat.reduceLT, Nat.reduceLeDiff, Nat.reduceEqDiff, Nat.reduceBEq, Int.reduceNeg, Int.reduceAdd, Int.reduceLT, Int.reduceLE, Int.reduceToNat, Int.reduceEq, Int.reduceNe, Int.reduceBEq, Int.reduceBNe, Int.reduceMul, Int.reduceSub, reduceIte, reduceCtorEq, aiaddr_map hk, declV, intsV, hw, List.length_map, c1 [44, 32] (by decide), c2 [44, 32] [105, 110, 116] (by decide) (by decide), c2 [44, 32] [115, 116, 114, 105, 110, 103] (by decide) (by decide), c2 [44, 32] [98, 111, 111, 108] (by decide) (by decide)])))
      all_goals try (exfalso; simp at *; omega)
      all_goals
        refine hnext' _ ?_
        rw [if_neg h0, hass]
        clear hnext' hI hz hass c1 c2 h
        simp only [beq_iff_eq, beq_eq_false_iff_ne, Bool.not_true, Bool.not_false] at *
        simp_all [kindName]
  · rw [List.take_of_length_le (by omega)]
    have hjl := joinT_len l
    have hlen : abin .add (.str (nm ++ [40] ++ joinT l)) (.str [41]) = some (.str (nm ++ [40] ++ joinT l ++ [41])) := abin_adds (by simp; omega)
    have hT : textD ⟨nm, l⟩ = nm ++ [40] ++ joinT l ++ [41] := rfl
    rw [hT] at h
    generalize nm ++ [40] ++ joinT l = P at *
    try (simp -implicitDefEqProofs only [go_sem, Nat.reduceAdd, Nat.reduceSub, Nat.reduceMul, Nat.reduceLT, Nat.reduceLeDiff, Nat.reduceEqDiff, Nat.reduceBEq, Int.reduceNeg, Int.reduceAdd, Int.reduceLT, Int.reduceLE, Int.reduceToNat, Int.reduceEq, Int.reduceNe, Int.reduceBEq, Int.reduceBNe, Int.reduceMul, Int.reduceSub, reduceIte, reduceCtorEq, hlen])
    exact h _ ⟨_, _, rfl, rfl, .refl _⟩
/-- Two lists, as far as they were looked at. -/
theorem take_eq_succ {α : Type} {l k : List α} {i : Nat} {x : α} (h : l.take i = k.take i) (hx : l[i]? = some x) (hy : k[i]? = some x) : l.take (i + 1) = k.take (i + 1) := by
  rw [List.take_add_one, List.take_add_one, h, hx, hy]
theorem take_eq_all {α : Type} {l k : List α} {i : Nat} (h : l.take i = k.take i) (h1 : l.length ≤ i) (h2 : k.length ≤ i) : l = k := by
  rwa [List.take_of_length_le h1, List.take_of_length_le h2] at h
theorem ne_of_at {α : Type} {l k : List α} {i : Nat} {x y : α} (hx : l[i]? = some x) (hy : k[i]? = some y) (h : ¬ x = y) : ¬ l = k := fun e => by
  subst e; rw [hx] at hy; cases hy; exact h rfl
/-- The same up to states. -/
def headSame (a b : QeaT) : Prop := a.name = b.name ∧ a.start = b.start ∧ a.decls = b.decls ∧ a.quants = b.quants ∧ a.frees = b.frees ∧ a.states = b.states
instance (a b : QeaT) : Decidable (headSame a b) := inferInstanceAs (Decidable (_ ∧ _))
/-- Texts are short, and kinds are kinds. -/
structure QeaT.Plainly (q : QeaT) : Prop where
  name : ∀ d ∈ q.decls, d.name.length ≤ 1000000
  kind : ∀ d ∈ q.decls, ∀ k ∈ d.types, kOk k
theorem ref13_sameHead_pc (a b : QeaT) (fa : a.Few) (fb : b.Few) (pa : a.Plainly) (pb : b.Plainly) : PureC Tryd.prog G n_proctorref13_sameHead [qeaV a, qeaV b] (.bool (decide (headSame a b))) := by
  have l1 := fa.decls
  have l2 := fa.quants
  have l3 := fa.frees
  have l4 := fa.states
  refine pc_proctorref13_sameHead (Runs.of fun Φ h => ?_)
  unfold c_proctorref13_sameHead
  have fin0 : ∀ heap, ¬ headSame a b → Φ ⟨162, [(4, .bool false)], heap⟩ := fun heap e => h _ ⟨_, _, rfl, rfl, fitB (by simp [e])⟩
  have fin1 : ∀ heap, headSame a b → Φ ⟨162, [(4, .bool true)], heap⟩ := fun heap e => h _ ⟨_, _, rfl, rfl, fitB (by simp [e])⟩
  clear h
  by_cases hc : a.name = b.name ∧ a.start = b.start ∧ a.decls.length = b.decls.length ∧ a.quants.length = b.quants.length ∧ a.frees.length = b.frees.length ∧ a.states.length = b.states.length
  · obtain ⟨c1, c2, c3, c4, c5, c6⟩ := hc
    have d1 : (a.name == b.name) = true := by simp [c1]
    have d2 : (a.start != b.start) = false := by simp [c2]
    have d3 : ((a.decls.length : Int) != (b.decls.length : Int)) = false := by simp [c3]
    have d4 : ((a.quants.length : Int) != (b.quants.length : Int)) = false := by simp [c4]
    have d5 : ((a.frees.length : Int) != (b.frees.length : Int)) = false := by simp [c5]
    have d6 : ((a.states.length : Int) != (b.states.length : Int)) = false := by simp [c6]
    (try (simp -implicitDefEqProofs only [go_sem, Nat.reduceAdd, Nat.reduceSub, Nat.reduceMul, Nat.reduceLT, Nat.reduceLeDiff, Nat.reduceEqDiff, Nat.reduceBEq, Int.reduceNeg, Int.reduceAdd, Int.reduceLT, Int.reduceLE, Int.reduceToNat, Int.reduceEq, Int.reduceNe, Int.reduceBEq, Int.reduceBNe, Int.reduceMul, Int.reduceSub, reduceIte, reduceCtorEq, qeaV, declsV, quantsV, freesV, statesV, symsV, nodesV, transsV, List.length_map, d1, d2, d3, d4, d5, d6])); repeat' ((first | refine at_guard (fun hb => ?_) (fun hb => ?_) | refine ⟨fun hb => ?_, fun hb => ?_⟩ | fail) <;> (try (simp -implicitDefEqProofs only [go_sem, Nat.reduceAdd, Nat.reduceSub, Nat.reduceMul, Nat.reduceLT, Nat.reduceLeDiff, Nat.reduceEqDiff, Nat.reduceBEq, Int.reduceNeg, Int.reduceAdd, Int.reduceLT, Int.reduceLE, Int.reduceToNat, Int.reduceEq, Int.reduceNe, Int.reduceBEq, Int.reduceBNe, Int.reduceMul, Int.reduceSub, reduceIte, reduceCtorEq, qeaV, declsV, quantsV, freesV, statesV, symsV, nodesV, transsV, List.length_map, d1, d2, d3, d4, d5, d6])))
    all_goals try (exfalso; clear fin0 fin1; simp at *; done)
    refine at_loop (fun n st => ∃ i : Nat, i + n = a.decls.length ∧ st = ⟨162, [(2, .ref 2 0 0), (3, .ref 3 0 0), (5, iv i)], [(2, ⟨false, t_api_Qea, 9, [qeaV a]⟩), (3, ⟨false, t_api_Qea, 9, [qeaV b]⟩)]⟩ ∧ a.decls.take i = b.decls.take i) a.decls.length ⟨0, by simp, rfl, rfl⟩ ?_
    rintro I hI n st ⟨i, hi, rfl, hno⟩
    simp -implicitDefEqProofs only [go_sem, Nat.reduceAdd, Nat.reduceSub, Nat.reduceMul, Nat.reduceLT, Nat.reduceLeDiff, Nat.reduceEqDiff, Nat.reduceBEq, Int.reduceNeg, Int.reduceAdd, Int.reduceLT, Int.reduceLE, Int.reduceToNat, Int.reduceEq, Int.reduceNe, Int.reduceBEq, Int.reduceBNe, Int.reduceMul, Int.reduceSub, reduceIte, reduceCtorEq, qeaV, declsV, quantsV, freesV, statesV, symsV, nodesV, transsV, List.length_map]
    refine ⟨fun hlt => ?_, fun hge => ?_⟩
    · have hlt' : i < a.decls.length := by omega
      obtain ⟨x, hx, hm⟩ := at_some hlt'
      obtain ⟨y, hy, hm'⟩ := at_some (l := b.decls) (i := i) (by omega)
      have hw := wrap_succ hlt' (by omega)
      have t1 := ref07_Text_pc (G := G) x (pa.name x hm) (fa.types x hm)
      have t2 := ref07_Text_pc (G := G) y (pb.name y hm') (fb.types y hm')
      have tl := fa.types x hm
      have inj := textD_inj (pa.kind x hm) (pb.kind y hm')
      by_cases hxy : x = y
      · subst hxy
        simp only [declV, intsV] at t1
        (try (simp -implicitDefEqProofs only [go_sem, Nat.reduceAdd, Nat.reduceSub, Nat.reduceMul, Nat.reduceLT, Nat.reduceLeDiff, Nat.reduceEqDiff, Nat.reduceBEq, Int.reduceNeg, Int.reduceAdd, Int.reduceLT, Int.reduceLE, Int.reduceToNat, Int.reduceEq, Int.reduceNe, Int.reduceBEq, Int.reduceBNe, Int.reduceMul, Int.reduceSub, reduceIte, reduceCtorEq, aiaddr_map hx, aiaddr_map hy, declV, intsV, qeaV, declsV, quantsV, freesV, statesV, symsV, nodesV, transsV, List.length_map])); repeat' ((first | refine at_guard (fun hb => ?_) (fun hb => ?_) | refine ⟨fun hb => ?_, fun hb => ?_⟩ | refine at_call (t1) rfl rfl ?_ | fail) <;> (try (simp -implicitDefEqProofs only [go_sem, Nat.reduceAdd, Nat.reduceSub, Nat.reduceMul, Nat.reduceLT, Nat.reduceLeDiff, Nat.reduceEqDiff, Nat.reduceBEq, Int.reduceNeg, Int.reduceAdd, Int.reduceLT, Int.reduceLE, Int.reduceToNat, Int.reduceEq, Int.reduceNe, Int.reduceBEq, Int.reduceBNe, Int.reduceMul, Int.reduceSub, reduceIte, reduceCtorEq, aiaddr_map hx, aiaddr_map hy, declV, intsV, qeaV, declsV, quantsV, freesV, statesV, symsV, nodesV, transsV, List.length_map])))
        all_goals try (exfalso; clear fin0 fin1; simp at hb; done)
        refine at_loop (fun m st => ∃ k : Nat, k + m = x.types.length ∧ st = ⟨162, [(2, .ref 2 0 0), (3, .ref 3 0 0), (5, iv i), (6, iv k)], [(2, ⟨false, t_api_Qea, 9, [qeaV a]⟩), (3, ⟨false, t_api_Qea, 9, [qeaV b]⟩)]⟩) x.types.length ⟨0, by simp, rfl⟩ ?_
        rintro J hJ m st ⟨k, hk, rfl⟩
        simp -implicitDefEqProofs only [go_sem, Nat.reduceAdd, Nat.reduceSub, Nat.reduceMul, Nat.reduceLT, Nat.reduceLeDiff, Nat.reduceEqDiff, Nat.reduceBEq, Int.reduceNeg, Int.reduceAdd, Int.reduceLT, Int.reduceLE, Int.reduceToNat, Int.reduceEq, Int.reduceNe, Int.reduceBEq, Int.reduceBNe, Int.reduceMul, Int.reduceSub, reduceIte, reduceCtorEq, aiaddr_map hx, declV, intsV, qeaV, declsV, quantsV, freesV, statesV, symsV, nodesV, transsV, List.length_map, hw]
        refine ⟨fun hlt2 => ?_, fun hge2 => ?_⟩
        · have hlt2' : k < x.types.length := by omega
          obtain ⟨t, ht, htm⟩ := at_some hlt2'
          have hw2 := wrap_succ hlt2' (by omega)
          (try (simp -implicitDefEqProofs only [go_sem, Nat.reduceAdd, Nat.reduceSub, Nat.reduceMul, Nat.reduceLT, Nat.reduceLeDiff, Nat.reduceEqDiff, Nat.reduceBEq, Int.reduceNeg, Int.reduceAdd, Int.reduceLT, Int.reduceLE, Int.reduceToNat, Int.reduceEq, Int.reduceNe, Int.reduceBEq, Int.reduceBNe, Int.reduceMul, Int.reduceSub, reduceIte, reduceCtorEq, aiaddr_map hx, aiaddr_map hy, aiaddr_map ht, declV, intsV, qeaV, declsV, quantsV, freesV, statesV, symsV, nodesV, transsV, List.length_map, hw2])); repeat' ((first | refine at_guard (fun hb => ?_) (fun hb => ?_) | refine ⟨fun hb => ?_, fun hb => ?_⟩ | fail) <;> (try (simp -implicitDefEqProofs only [go_sem, Nat.reduceAdd, Nat.reduceSub, Nat.reduceMul, Nat.reduceLT, Nat.reduceLeDiff, Nat.reduceEqDiff, Nat.reduceBEq, Int.reduceNeg, Int.reduceAdd, Int.reduceLT, Int.reduceLE, Int.reduceToNat, Int.reduceEq, Int.reduceNe, Int.reduceBEq, Int.reduceBNe, Int.reduceMul, Int.reduceSub, reduceIte, reduceCtorEq, aiaddr_map hx, aiaddr_map hy, aiaddr_map ht, declV, intsV, qeaV, declsV, quantsV, freesV, statesV, symsV, nodesV, transsV, List.length_map, hw2])))
          all_goals first | exact at_again (m - 1) (by omega) (hJ _ _ ⟨k + 1, by omega, rfl⟩) | (exfalso; clear fin0 fin1; simp at hb; done)
        · exact at_again (n - 1) (by omega) (hI _ _ ⟨i + 1, by omega, rfl, take_eq_succ hno hx hy⟩)
      · have hbad : ¬ headSame a b := fun e => ne_of_at hx hy hxy e.2.2.1
        have htn : ¬ textD x = textD y := fun e => hxy (inj.1 e)
        have htn' : (textD x == textD y) = false := by simpa using htn
        simp only [declV, intsV] at t1 t2
        (try (simp -implicitDefEqProofs only [go_sem, Nat.reduceAdd, Nat.reduceSub, Nat.reduceMul, Nat.reduceLT, Nat.reduceLeDiff, Nat.reduceEqDiff, Nat.reduceBEq, Int.reduceNeg, Int.reduceAdd, Int.reduceLT, Int.reduceLE, Int.reduceToNat, Int.reduceEq, Int.reduceNe, Int.reduceBEq, Int.reduceBNe, Int.reduceMul, Int.reduceSub, reduceIte, reduceCtorEq, aiaddr_map hx, aiaddr_map hy, declV, intsV, qeaV, declsV, quantsV, freesV, statesV, symsV, nodesV, transsV, List.length_map, htn'])); repeat' ((first | refine at_guard (fun hb => ?_) (fun hb => ?_) | refine ⟨fun hb => ?_, fun hb => ?_⟩ | refine at_call (t1) rfl rfl ?_ | refine at_call (t2) rfl rfl ?_ | fail) <;> (try (simp -implicitDefEqProofs only [go_sem, Nat.reduceAdd, Nat.reduceSub, Nat.reduceMul, Nat.reduceLT, Nat.reduceLeDiff, Nat.reduceEqDiff, Nat.reduceBEq, Int.reduceNeg, Int.reduceAdd, Int.reduceLT, Int.reduceLE, Int.reduceToNat, Int.reduceEq, Int.reduceNe, Int.reduceBEq, Int.reduceBNe, Int.reduceMul, Int.reduceSub, reduceIte, reduceCtorEq, aiaddr_map hx, aiaddr_map hy, declV, intsV, qeaV, declsV, quantsV, freesV, statesV, symsV, nodesV, transsV, List.length_map, htn'])))
        all_goals first | exact fin0 _ hbad | (exfalso; clear fin0 fin1; simp at hb; done)
    · have e1 := take_eq_all hno (by omega) (by omega)
      clear hI hge hi hno
      try (simp -implicitDefEqProofs only [go_sem, Nat.reduceAdd, Nat.reduceSub, Nat.reduceMul, Nat.reduceLT, Nat.reduceLeDiff, Nat.reduceEqDiff, Nat.reduceBEq, Int.reduceNeg, Int.reduceAdd, Int.reduceLT, Int.reduceLE, Int.reduceToNat, Int.reduceEq, Int.reduceNe, Int.reduceBEq, Int.reduceBNe, Int.reduceMul, Int.reduceSub, reduceIte, reduceCtorEq])
      refine at_loop (fun n st => ∃ i : Nat, i + n = a.quants.length ∧ st = ⟨162, [(2, .ref 2 0 0), (3, .ref 3 0 0), (7, iv i)], [(2, ⟨false, t_api_Qea, 9, [qeaV a]⟩), (3, ⟨false, t_api_Qea, 9, [qeaV b]⟩)]⟩ ∧ a.quants.take i = b.quants.take i) a.quants.length ⟨0, by simp, rfl, rfl⟩ ?_
      rintro I hI n st ⟨i, hi, rfl, hno⟩
      simp -implicitDefEqProofs only [go_sem, Nat.reduceAdd, Nat.reduceSub, Nat.reduceMul, Nat.reduceLT, Nat.reduceLeDiff, Nat.reduceEqDiff, Nat.reduceBEq, Int.reduceNeg, Int.reduceAdd, Int.reduceLT, Int.reduceLE, Int.reduceToNat, Int.reduceEq, Int.reduceNe, Int.reduceBEq, Int.reduceBNe, Int.reduceMul, Int.reduceSub, reduceIte, reduceCtorEq, qeaV, declsV, quantsV, freesV, statesV, symsV, nodesV, transsV, List.length_map]
      refine ⟨fun hlt => ?_, fun hge => ?_⟩
      · have hlt' : i < a.quants.length := by omega
        obtain ⟨x, hx, hm⟩ := at_some hlt'
        obtain ⟨y, hy, hm'⟩ := at_some (l := b.quants) (i := i) (by omega)
        have hw := wrap_succ hlt' (by omega)
        have hbad : ¬ x = y → ¬ headSame a b := fun hne e => ne_of_at hx hy hne e.2.2.2.1
        have hok : x = y → again I n ⟨162, [(2, .ref 2 0 0), (3, .ref 3 0 0), (7, iv (i + 1 : Nat))], [(2, ⟨false, t_api_Qea, 9, [qeaV a]⟩), (3, ⟨false, t_api_Qea, 9, [qeaV b]⟩)]⟩ := fun e => at_again (n - 1) (by omega) (hI _ _ ⟨i + 1, by omega, rfl, take_eq_succ hno hx (e ▸ hy)⟩)
        have heq := quantEq x y
        (try (simp -implicitDefEqProofs only [go_sem, Nat.reduceAdd, Nat.reduceSub, Nat.reduceMul, Nat.reduceLT, Nat.reduceLeDiff, Nat.reduceEqDiff, Nat.reduceBEq, Int.reduceNeg, Int.reduceAdd, Int.reduceLT, Int.reduceLE, Int.reduceToNat, Int.reduceEq, Int.reduceNe, Int.reduceBEq, Int.reduceBNe, Int.reduceMul, Int.reduceSub, reduceIte, reduceCtorEq, aiaddr_map hx, aiaddr_map hy, quantV, qeaV, declsV, quantsV, freesV, statesV, symsV, nodesV, transsV, List.length_map, hw])); repeat' ((first | refine at_guard (fun hb => ?_) (fun hb => ?_) | refine ⟨fun hb => ?_, fun hb => ?_⟩ | fail) <;> (try (simp -implicitDefEqProofs only [go_sem, Nat.reduceAdd, Nat.reduceSub, Nat.reduceMul, Nat.reduceLT, Nat.reduceLeDiff, Nat.reduceEqDiff, Nat.reduceBEq, Int.reduceNeg, Int.reduceAdd, Int.reduceLT, Int.reduceLE, Int.reduceToNat, Int.reduceEq, Int.reduceNe, Int.reduceBEq, Int.reduceBNe, Int.reduceMul, Int.reduceSub, reduceIte, reduceCtorEq, aiaddr_map hx, aiaddr_map hy, quantV, qeaV, declsV, quantsV, freesV, statesV, symsV, nodesV, transsV, List.length_map, hw])))
        all_goals first
          | (refine hok ?_; rw [← beq_iff_eq (a := x), heq]; simpa using hb)
          | (refine fin0 _ (hbad ?_); rintro rfl; simp at hb; done)
      · have e2 := take_eq_all hno (by omega) (by omega)
        clear hI hge hi hno
        try (simp -implicitDefEqProofs only [go_sem, Nat.reduceAdd, Nat.reduceSub, Nat.reduceMul, Nat.reduceLT, Nat.reduceLeDiff, Nat.reduceEqDiff, Nat.reduceBEq, Int.reduceNeg, Int.reduceAdd, Int.reduceLT, Int.reduceLE, Int.reduceToNat, Int.reduceEq, Int.reduceNe, Int.reduceBEq, Int.reduceBNe, Int.reduceMul, Int.reduceSub, reduceIte, reduceCtorEq])
        refine at_loop (fun n st => ∃ i : Nat, i + n = a.frees.length ∧ st = ⟨162, [(2, .ref 2 0 0), (3, .ref 3 0 0), (8, iv i)], [(2, ⟨false, t_api_Qea, 9, [qeaV a]⟩), (3, ⟨false, t_api_Qea, 9, [qeaV b]⟩)]⟩ ∧ a.frees.take i = b.frees.take i) a.frees.length ⟨0, by simp, rfl, rfl⟩ ?_
        rintro I hI n st ⟨i, hi, rfl, hno⟩
        simp -implicitDefEqProofs only [go_sem, Nat.reduceAdd, Nat.reduceSub, Nat.reduceMul, Nat.reduceLT, Nat.reduceLeDiff, Nat.reduceEqDiff, Nat.reduceBEq, Int.reduceNeg, Int.reduceAdd, Int.reduceLT, Int.reduceLE, Int.reduceToNat, Int.reduceEq, Int.reduceNe, Int.reduceBEq, Int.reduceBNe, Int.reduceMul, Int.reduceSub, reduceIte, reduceCtorEq, qeaV, declsV, quantsV, freesV, statesV, symsV, nodesV, transsV, List.length_map]
        refine ⟨fun hlt => ?_, fun hge => ?_⟩
        · have hlt' : i < a.frees.length := by omega
          obtain ⟨x, hx, hm⟩ := at_some hlt'
          obtain ⟨y, hy, hm'⟩ := at_some (l := b.frees) (i := i) (by omega)
          have hw := wrap_succ hlt' (by omega)
          have hbad : ¬ x = y → ¬ headSame a b := fun hne e => ne_of_at hx hy hne e.2.2.2.2.1
          have hok : x = y → again I n ⟨162, [(2, .ref 2 0 0), (3, .ref 3 0 0), (8, iv (i + 1 : Nat))], [(2, ⟨false, t_api_Qea, 9, [qeaV a]⟩), (3, ⟨false, t_api_Qea, 9, [qeaV b]⟩)]⟩ := fun e => at_again (n - 1) (by omega) (hI _ _ ⟨i + 1, by omega, rfl, take_eq_succ hno hx (e ▸ hy)⟩)
          have heq := freeEq x y
          (try (simp -implicitDefEqProofs only [go_sem, Nat.reduceAdd, Nat.reduceSub, Nat.reduceMul, Nat.reduceLT, Nat.reduceLeDiff, Nat.reduceEqDiff, Nat.reduceBEq, Int.reduceNeg, Int.reduceAdd, Int.reduceLT, Int.reduceLE, Int.reduceToNat, Int.reduceEq, Int.reduceNe, Int.reduceBEq, Int.reduceBNe, Int.reduceMul, Int.reduceSub, reduceIte, reduceCtorEq, aiaddr_map hx, aiaddr_map hy, freeV, qeaV, declsV, quantsV, freesV, statesV, symsV, nodesV, transsV, List.length_map, hw])); repeat' ((first | refine at_guard (fun hb => ?_) (fun hb => ?_) | refine ⟨fun hb => ?_, fun hb => ?_⟩ | fail) <;> (try (simp -implicitDefEqProofs only [go_sem, Nat.reduceAdd, Nat.reduceSub, Nat.reduceMul, Nat.reduceLT, Nat.reduceLeDiff, Nat.reduceEqDiff, Nat.reduceBEq, Int.reduceNeg, Int.reduceAdd, Int.reduceLT, Int.reduceLE, Int.reduceToNat, Int.reduceEq, Int.reduceNe, Int.reduceBEq, Int.reduceBNe, Int.reduceMul, Int.reduceSub, reduceIte, reduceCtorEq, aiaddr_map hx, aiaddr_map hy, freeV, qeaV, declsV, quantsV, freesV, statesV, symsV, nodesV, transsV, List.length_map, hw])))
          all_goals first
            | (refine hok ?_; rw [← beq_iff_eq (a := x), heq]; simpa using hb)
            | (refine fin0 _ (hbad ?_); rintro rfl; simp at hb; done)
        · have e3 := take_eq_all hno (by omega) (by omega)
          clear hI hge hi hno
          try (simp -implicitDefEqProofs only [go_sem, Nat.reduceAdd, Nat.reduceSub, Nat.reduceMul, Nat.reduceLT, Nat.reduceLeDiff, Nat.reduceEqDiff, Nat.reduceBEq, Int.reduceNeg, Int.reduceAdd, Int.reduceLT, Int.reduceLE, Int.reduceToNat, Int.reduceEq, Int.reduceNe, Int.reduceBEq, Int.reduceBNe, Int.reduceMul, Int.reduceSub, reduceIte, reduceCtorEq])
          refine at_loop (fun n st => ∃ i : Nat, i + n = a.states.length ∧ st = ⟨162, [(2, .ref 2 0 0), (3, .ref 3 0 0), (9, iv i)], [(2, ⟨false, t_api_Qea, 9, [qeaV a]⟩), (3, ⟨false, t_api_Qea, 9, [qeaV b]⟩)]⟩ ∧ a.states.take i = b.states.take i) a.states.length ⟨0, by simp, rfl, rfl⟩ ?_
          rintro I hI n st ⟨i, hi, rfl, hno⟩
          simp -implicitDefEqProofs only [go_sem, Nat.reduceAdd, Nat.reduceSub, Nat.reduceMul, Nat.reduceLT, Nat.reduceLeDiff, Nat.reduceEqDiff, Nat.reduceBEq, Int.reduceNeg, Int.reduceAdd, Int.reduceLT, Int.reduceLE, Int.reduceToNat, Int.reduceEq, Int.reduceNe, Int.reduceBEq, Int.reduceBNe, Int.reduceMul, Int.reduceSub, reduceIte, reduceCtorEq, qeaV, declsV, quantsV, freesV, statesV, symsV, nodesV, transsV, List.length_map]
          refine ⟨fun hlt => ?_, fun hge => ?_⟩
          · have hlt' : i < a.states.length := by omega
            obtain ⟨x, hx, hm⟩ := at_some hlt'
            obtain ⟨y, hy, hm'⟩ := at_some (l := b.states) (i := i) (by omega)
            have hw := wrap_succ hlt' (by omega)
            have hbad : ¬ x = y → ¬ headSame a b := fun hne e => ne_of_at hx hy hne e.2.2.2.2.2
            have hok : x = y → again I n ⟨162, [(2, .ref 2 0 0), (3, .ref 3 0 0), (9, iv (i + 1 : Nat))], [(2, ⟨false, t_api_Qea, 9, [qeaV a]⟩), (3, ⟨false, t_api_Qea, 9, [qeaV b]⟩)]⟩ := fun e => at_again (n - 1) (by omega) (hI _ _ ⟨i + 1, by omega, rfl, take_eq_succ hno hx (e ▸ hy)⟩)
            have heq := stateEq x y
            (try (simp -implicitDefEqProofs only [go_sem, Nat.reduceAdd, Nat.reduceSub, Nat.reduceMul, Nat.reduceLT, Nat.reduceLeDiff, Nat.reduceEqDiff, Nat.reduceBEq, Int.reduceNeg, Int.reduceAdd, Int.reduceLT, Int.reduceLE, Int.reduceToNat, Int.reduceEq, Int.reduceNe, Int.reduceBEq, Int.reduceBNe, Int.reduceMul, Int.reduceSub, reduceIte, reduceCtorEq, aiaddr_map hx, aiaddr_map hy, stateV, qeaV, declsV, quantsV, freesV, statesV, symsV, nodesV, transsV, List.length_map, hw])); repeat' ((first | refine at_guard (fun hb => ?_) (fun hb => ?_) | refine ⟨fun hb => ?_, fun hb => ?_⟩ | fail) <;> (try (simp -implicitDefEqProofs only [go_sem, Nat.reduceAdd, Nat.reduceSub, Nat.reduceMul, Nat.reduceLT, Nat.reduceLeDiff, Nat.reduceEqDiff, Nat.reduceBEq, Int.reduceNeg, Int.reduceAdd, Int.reduceLT, Int.reduceLE, Int.reduceToNat, Int.reduceEq, Int.reduceNe, Int.reduceBEq, Int.reduceBNe, Int.reduceMul, Int.reduceSub, reduceIte, reduceCtorEq, aiaddr_map hx, aiaddr_map hy, stateV, qeaV, declsV, quantsV, freesV, statesV, symsV, nodesV, transsV, List.length_map, hw])))
            all_goals first
              | (refine hok ?_; rw [← beq_iff_eq (a := x), heq]; simpa using hb)
              | (refine fin0 _ (hbad ?_); rintro rfl; simp at hb; done)
          · have e4 := take_eq_all hno (by omega) (by omega)
            clear hI hge hi hno
            try (simp -implicitDefEqProofs only [go_sem, Nat.reduceAdd, Nat.reduceSub, Nat.reduceMul, Nat.reduceLT, Nat.reduceLeDiff, Nat.reduceEqDiff, Nat.reduceBEq, Int.reduceNeg, Int.reduceAdd, Int.reduceLT, Int.reduceLE, Int.reduceToNat, Int.reduceEq, Int.reduceNe, Int.reduceBEq, Int.reduceBNe, Int.reduceMul, Int.reduceSub, reduceIte, reduceCtorEq])
            exact fin1 _ ⟨c1, c2, e1, e2, e3, e4⟩
  · have hbad : ¬ headSame a b := fun e => hc ⟨e.1, e.2.1, by rw [e.2.2.1], by rw [e.2.2.2.1], by rw [e.2.2.2.2.1], by rw [e.2.2.2.2.2]⟩
    (try (simp -implicitDefEqProofs only [go_sem, Nat.reduceAdd, Nat.reduceSub, Nat.reduceMul, Nat.reduceLT, Nat.reduceLeDiff, Nat.reduceEqDiff, Nat.reduceBEq, Int.reduceNeg, Int.reduceAdd, Int.reduceLT, Int.reduceLE, Int.reduceToNat, Int.reduceEq, Int.reduceNe, Int.reduceBEq, Int.reduceBNe, Int.reduceMul, Int.reduceSub, reduceIte, reduceCtorEq, qeaV, declsV, quantsV, freesV, statesV, symsV, nodesV, transsV, List.length_map])); repeat' ((first | refine at_guard (fun hb => ?_) (fun hb => ?_) | refine ⟨fun hb => ?_, fun hb => ?_⟩ | fail) <;> (try (simp -implicitDefEqProofs only [go_sem, Nat.reduceAdd, Nat.reduceSub, Nat.reduceMul, Nat.reduceLT, Nat.reduceLeDiff, Nat.reduceEqDiff, Nat.reduceBEq, Int.reduceNeg, Int.reduceAdd, Int.reduceLT, Int.reduceLE, Int.reduceToNat, Int.reduceEq, Int.reduceNe, Int.reduceBEq, Int.reduceBNe, Int.reduceMul, Int.reduceSub, reduceIte, reduceCtorEq, qeaV, declsV, quantsV, freesV, statesV, symsV, nodesV, transsV, List.length_map])))
    all_goals first | exact fin0 _ hbad | (exfalso; apply hc; clear fin0 fin1 hbad hc; simp at *; refine ⟨?_, ?_, ?_, ?_, ?_, ?_⟩ <;> first | assumption | omega)
theorem same_iff {a b : QeaT} : a = b ↔ headSame a b ∧ a.symbols = b.symbols ∧ a.nodes = b.nodes ∧ a.trans = b.trans := by
  obtain ⟨a1, a2, a3, a4, a5, a6, a7, a8, a9⟩ := a
  obtain ⟨b1, b2, b3, b4, b5, b6, b7, b8, b9⟩ := b
  unfold headSame
  simp only [QeaT.mk.injEq]
  constructor
  · rintro ⟨h1, h2, h3, h4, h5, h6, h7, h8, h9⟩
    exact ⟨⟨h1, h6, h2, h3, h4, h5⟩, h7, h8, h9⟩
  · rintro ⟨⟨h1, h6, h2, h3, h4, h5⟩, h7, h8, h9⟩
    exact ⟨h1, h2, h3, h4, h5, h6, h7, h8, h9⟩
theorem ref13_Same_pc (a b : QeaT) (fa : a.Few) (fb : b.Few) (pa : a.Plainly) (pb : b.Plainly) : PureC Tryd.prog G n_proctorref13_Same [qeaV a, qeaV b] (.bool (decide (a = b))) := by
  have l1 := fa.symbols
  have l2 := fa.nodes
  have l3 := fa.trans
  have hH := ref13_sameHead_pc (G := G) a b fa fb pa pb
  refine pc_proctorref13_Same (Runs.of fun Φ h => ?_)
  unfold c_proctorref13_Same
  have fin0 : ∀ heap, ¬ a = b → Φ ⟨149, [(4, .bool false)], heap⟩ := fun heap e => h _ ⟨_, _, rfl, rfl, fitB (by simp [e])⟩
  have fin1 : ∀ heap, a = b → Φ ⟨149, [(4, .bool true)], heap⟩ := fun heap e => h _ ⟨_, _, rfl, rfl, fitB (by simp [e])⟩
  clear h
  rw [same_iff] at fin0 fin1
  simp only [qeaV, declsV, quantsV, freesV, statesV, symsV, nodesV, transsV] at hH
  by_cases hc : headSame a b ∧ a.symbols.length = b.symbols.length ∧ a.nodes.length = b.nodes.length ∧ a.trans.length = b.trans.length
  · obtain ⟨c1, c2, c3, c4⟩ := hc
    rw [show decide (headSame a b) = true by simpa using c1] at hH
    (try (simp -implicitDefEqProofs only [go_sem, Nat.reduceAdd, Nat.reduceSub, Nat.reduceMul, Nat.reduceLT, Nat.reduceLeDiff, Nat.reduceEqDiff, Nat.reduceBEq, Int.reduceNeg, Int.reduceAdd, Int.reduceLT, Int.reduceLE, Int.reduceToNat, Int.reduceEq, Int.reduceNe, Int.reduceBEq, Int.reduceBNe, Int.reduceMul, Int.reduceSub, reduceIte, reduceCtorEq, qeaV, declsV, quantsV, freesV, statesV, symsV, nodesV, transsV, List.length_map, c2, c3, c4])); repeat' ((first | refine at_guard (fun hb => ?_) (fun hb => ?_) | refine ⟨fun hb => ?_, fun hb => ?_⟩ | refine at_call (hH) rfl rfl ?_ | fail) <;> (try (simp -implicitDefEqProofs only [go_sem, Nat.reduceAdd, Nat.reduceSub, Nat.reduceMul, Nat.reduceLT, Nat.reduceLeDiff, Nat.reduceEqDiff, Nat.reduceBEq, Int.reduceNeg, Int.reduceAdd, Int.reduceLT, Int.reduceLE, Int.reduceToNat, Int.reduceEq, Int.reduceNe, Int.reduceBEq, Int.reduceBNe, Int.reduceMul, Int.reduceSub, reduceIte, reduceCtorEq, qeaV, declsV, quantsV, freesV, statesV, symsV, nodesV, transsV, List.length_map, c2, c3, c4])))
    all_goals try (exfalso; clear fin0 fin1; simp at *; done)
    refine at_loop (fun n st => ∃ i : Nat, i + n = a.symbols.length ∧ st = ⟨149, [(2, .ref 2 0 0), (3, .ref 3 0 0), (5, iv i)], [(2, ⟨false, t_api_Qea, 9, [qeaV a]⟩), (3, ⟨false, t_api_Qea, 9, [qeaV b]⟩)]⟩ ∧ a.symbols.take i = b.symbols.take i) a.symbols.length ⟨0, by simp, rfl, rfl⟩ ?_
    rintro I hI n st ⟨i, hi, rfl, hno⟩
    simp -implicitDefEqProofs only [go_sem, Nat.reduceAdd, Nat.reduceSub, Nat.reduceMul, Nat.reduceLT, Nat.reduceLeDiff, Nat.reduceEqDiff, Nat.reduceBEq, Int.reduceNeg, Int.reduceAdd, Int.reduceLT, Int.reduceLE, Int.reduceToNat, Int.reduceEq, Int.reduceNe, Int.reduceBEq, Int.reduceBNe, Int.reduceMul, Int.reduceSub, reduceIte, reduceCtorEq, qeaV, declsV, quantsV, freesV, statesV, symsV, nodesV, transsV, List.length_map]
    refine ⟨fun hlt => ?_, fun hge => ?_⟩
    · have hlt' : i < a.symbols.length := by omega
      obtain ⟨x, hx, hm⟩ := at_some hlt'
      obtain ⟨y, hy, hm'⟩ := at_some (l := b.symbols) (i := i) (by omega)
      have hw := wrap_succ hlt' (by omega)
      have hbad : ¬ x = y → ¬ (headSame a b ∧ a.symbols = b.symbols ∧ a.nodes = b.nodes ∧ a.trans = b.trans) := fun hne e => ne_of_at hx hy hne e.2.1
      have hok : x = y → again I n ⟨149, [(2, .ref 2 0 0), (3, .ref 3 0 0), (5, iv (i + 1 : Nat))], [(2, ⟨false, t_api_Qea, 9, [qeaV a]⟩), (3, ⟨false, t_api_Qea, 9, [qeaV b]⟩)]⟩ := fun e => at_again (n - 1) (by omega) (hI _ _ ⟨i + 1, by omega, rfl, take_eq_succ hno hx (e ▸ hy)⟩)
      have hs := ref13_SameSymbol_pc (G := G) x y (by have := fa.args x hm; omega)
      simp only [symV, argsV] at hs
      by_cases hxy : x = y
      · have hok := hok hxy
        rw [show decide (x = y) = true by simpa using hxy] at hs
        (try (simp -implicitDefEqProofs only [go_sem, Nat.reduceAdd, Nat.reduceSub, Nat.reduceMul, Nat.reduceLT, Nat.reduceLeDiff, Nat.reduceEqDiff, Nat.reduceBEq, Int.reduceNeg, Int.reduceAdd, Int.reduceLT, Int.reduceLE, Int.reduceToNat, Int.reduceEq, Int.reduceNe, Int.reduceBEq, Int.reduceBNe, Int.reduceMul, Int.reduceSub, reduceIte, reduceCtorEq, aiaddr_map hx, aiaddr_map hy, symV, argsV, qeaV, declsV, quantsV, freesV, statesV, symsV, nodesV, transsV, List.length_map, hw])); repeat' ((first | refine at_guard (fun hb => ?_) (fun hb => ?_) | refine ⟨fun hb => ?_, fun hb => ?_⟩ | refine at_call (hs) rfl rfl ?_ | fail) <;> (try (simp -implicitDefEqProofs only [go_sem, Nat.reduceAdd, Nat.reduceSub, Nat.reduceMul, Nat.reduceLT, Nat.reduceLeDiff, Nat.reduceEqDiff, Nat.reduceBEq, Int.reduceNeg, Int.reduceAdd, Int.reduceLT, Int.reduceLE, Int.reduceToNat, Int.reduceEq, Int.reduceNe, Int.reduceBEq, Int.reduceBNe, Int.reduceMul, Int.reduceSub, reduceIte, reduceCtorEq, aiaddr_map hx, aiaddr_map hy, symV, argsV, qeaV, declsV, quantsV, freesV, statesV, symsV, nodesV, transsV, List.length_map, hw])))
        all_goals first | exact hok | (exfalso; clear fin0 fin1 hok; simp at hb; done)
      · have hbad := hbad hxy
        rw [show decide (x = y) = false by simpa using hxy] at hs
        (try (simp -implicitDefEqProofs only [go_sem, Nat.reduceAdd, Nat.reduceSub, Nat.reduceMul, Nat.reduceLT, Nat.reduceLeDiff, Nat.reduceEqDiff, Nat.reduceBEq, Int.reduceNeg, Int.reduceAdd, Int.reduceLT, Int.reduceLE, Int.reduceToNat, Int.reduceEq, Int.reduceNe, Int.reduceBEq, Int.reduceBNe, Int.reduceMul, Int.reduceSub, reduceIte, reduceCtorEq, aiaddr_map hx, aiaddr_map hy, symV, argsV, qeaV, declsV, quantsV, freesV, statesV, symsV, nodesV, transsV, List.length_map, hw])); repeat' ((first | refine at_guard (fun hb => ?_) (fun hb => ?_) | refine ⟨fun hb => ?_, fun hb => ?_⟩ | refine at_call (hs) rfl rfl ?_ | fail) <;> (try (simp -implicitDefEqProofs only [go_sem, Nat.reduceAdd, Nat.reduceSub, Nat.reduceMul, Nat.reduceLT, Nat.reduceLeDiff, Nat.reduceEqDiff, Nat.reduceBEq, Int.reduceNeg, Int.reduceAdd, Int.reduceLT, Int.reduceLE, Int.reduceToNat, Int.reduceEq, Int.reduceNe, Int.reduceBEq, Int.reduceBNe, Int.reduceMul, Int.reduceSub, reduceIte, reduceCtorEq, aiaddr_map hx, aiaddr_map hy, symV, argsV, qeaV, declsV, quantsV, freesV, statesV, symsV, nodesV, transsV, List.length_map, hw])))
        all_goals first | exact fin0 _ hbad | (exfalso; clear fin0 fin1 hok; simp at hb; done)
    · have e1 := take_eq_all hno (by omega) (by omega)
      clear hI hge hi hno
      try (simp -implicitDefEqProofs only [go_sem, Nat.reduceAdd, Nat.reduceSub, Nat.reduceMul, Nat.reduceLT, Nat.reduceLeDiff, Nat.reduceEqDiff, Nat.reduceBEq, Int.reduceNeg, Int.reduceAdd, Int.reduceLT, Int.reduceLE, Int.reduceToNat, Int.reduceEq, Int.reduceNe, Int.reduceBEq, Int.reduceBNe, Int.reduceMul, Int.reduceSub, reduceIte, reduceCtorEq])
      refine at_loop (fun n st => ∃ i : Nat, i + n = a.nodes.length ∧ st = ⟨149, [(2, .ref 2 0 0), (3, .ref 3 0 0), (6, iv i)], [(2, ⟨false, t_api_Qea, 9, [qeaV a]⟩), (3, ⟨false, t_api_Qea, 9, [qeaV b]⟩)]⟩ ∧ a.nodes.take i = b.nodes.take i) a.nodes.length ⟨0, by simp, rfl, rfl⟩ ?_
      rintro I hI n st ⟨i, hi, rfl, hno⟩
      simp -implicitDefEqProofs only [go_sem, Nat.reduceAdd, Nat.reduceSub, Nat.reduceMul, Nat.reduceLT, Nat.reduceLeDiff, Nat.reduceEqDiff, Nat.reduceBEq, Int.reduceNeg, Int.reduceAdd, Int.reduceLT, Int.reduceLE, Int.reduceToNat, Int.reduceEq, Int.reduceNe, Int.reduceBEq, Int.reduceBNe, Int.reduceMul, Int.reduceSub, reduceIte, reduceCtorEq, qeaV, declsV, quantsV, freesV, statesV, symsV, nodesV, transsV, List.length_map]
      refine ⟨fun hlt => ?_, fun hge => ?_⟩
      · have hlt' : i < a.nodes.length := by omega
        obtain ⟨x, hx, hm⟩ := at_some hlt'
        obtain ⟨y, hy, hm'⟩ := at_some (l := b.nodes) (i := i) (by omega)
        have hw := wrap_succ hlt' (by omega)
        have hbad : ¬ x = y → ¬ (headSame a b ∧ a.symbols = b.symbols ∧ a.nodes = b.nodes ∧ a.trans = b.trans) := fun hne e => ne_of_at hx hy hne e.2.2.1
        have hok : x = y → again I n ⟨149, [(2, .ref 2 0 0), (3, .ref 3 0 0), (6, iv (i + 1 : Nat))], [(2, ⟨false, t_api_Qea, 9, [qeaV a]⟩), (3, ⟨false, t_api_Qea, 9, [qeaV b]⟩)]⟩ := fun e => at_again (n - 1) (by omega) (hI _ _ ⟨i + 1, by omega, rfl, take_eq_succ hno hx (e ▸ hy)⟩)
        have heq := nodeEq x y
        (try (simp -implicitDefEqProofs only [go_sem, Nat.reduceAdd, Nat.reduceSub, Nat.reduceMul, Nat.reduceLT, Nat.reduceLeDiff, Nat.reduceEqDiff, Nat.reduceBEq, Int.reduceNeg, Int.reduceAdd, Int.reduceLT, Int.reduceLE, Int.reduceToNat, Int.reduceEq, Int.reduceNe, Int.reduceBEq, Int.reduceBNe, Int.reduceMul, Int.reduceSub, reduceIte, reduceCtorEq, aiaddr_map hx, aiaddr_map hy, nodeV, qeaV, declsV, quantsV, freesV, statesV, symsV, nodesV, transsV, List.length_map, hw])); repeat' ((first | refine at_guard (fun hb => ?_) (fun hb => ?_) | refine ⟨fun hb => ?_, fun hb => ?_⟩ | fail) <;> (try (simp -implicitDefEqProofs only [go_sem, Nat.reduceAdd, Nat.reduceSub, Nat.reduceMul, Nat.reduceLT, Nat.reduceLeDiff, Nat.reduceEqDiff, Nat.reduceBEq, Int.reduceNeg, Int.reduceAdd, Int.reduceLT, Int.reduceLE, Int.reduceToNat, Int.reduceEq, Int.reduceNe, Int.reduceBEq, Int.reduceBNe, Int.reduceMul, Int.reduceSub, reduceIte, reduceCtorEq, aiaddr_map hx, aiaddr_map hy, nodeV, qeaV, declsV, quantsV, freesV, statesV, symsV, nodesV, transsV, List.length_map, hw])))
        all_goals first
          | (refine hok ?_; rw [← beq_iff_eq (a := x), heq]; simpa using hb)
          | (refine fin0 _ (hbad ?_); rintro rfl; simp at hb; done)
      · have e2 := take_eq_all hno (by omega) (by omega)
        clear hI hge hi hno
        try (simp -implicitDefEqProofs only [go_sem, Nat.reduceAdd, Nat.reduceSub, Nat.reduceMul, Nat.reduceLT, Nat.reduceLeDiff, Nat.reduceEqDiff, Nat.reduceBEq, Int.reduceNeg, Int.reduceAdd, Int.reduceLT, Int.reduceLE, Int.reduceToNat, Int.reduceEq, Int.reduceNe, Int.reduceBEq, Int.reduceBNe, Int.reduceMul, Int.reduceSub, reduceIte, reduceCtorEq])
        refine at_loop (fun n st => ∃ i : Nat, i + n = a.trans.length ∧ st = ⟨149, [(2, .ref 2 0 0), (3, .ref 3 0 0), (7, iv i)], [(2, ⟨false, t_api_Qea, 9, [qeaV a]⟩), (3, ⟨false, t_api_Qea, 9, [qeaV b]⟩)]⟩ ∧ a.trans.take i = b.trans.take i) a.trans.length ⟨0, by simp, rfl, rfl⟩ ?_
        rintro I hI n st ⟨i, hi, rfl, hno⟩
        simp -implicitDefEqProofs only [go_sem, Nat.reduceAdd, Nat.reduceSub, Nat.reduceMul, Nat.reduceLT, Nat.reduceLeDiff, Nat.reduceEqDiff, Nat.reduceBEq, Int.reduceNeg, Int.reduceAdd, Int.reduceLT, Int.reduceLE, Int.reduceToNat, Int.reduceEq, Int.reduceNe, Int.reduceBEq, Int.reduceBNe, Int.reduceMul, Int.reduceSub, reduceIte, reduceCtorEq, qeaV, declsV, quantsV, freesV, statesV, symsV, nodesV, transsV, List.length_map]
        refine ⟨fun hlt => ?_, fun hge => ?_⟩
        · have hlt' : i < a.trans.length := by omega
          obtain ⟨x, hx, hm⟩ := at_some hlt'
          obtain ⟨y, hy, hm'⟩ := at_some (l := b.trans) (i := i) (by omega)
          have hw := wrap_succ hlt' (by omega)
          have hxs := fa.sets x hm
          have hbad : ¬ x = y → ¬ (headSame a b ∧ a.symbols = b.symbols ∧ a.nodes = b.nodes ∧ a.trans = b.trans) := fun hne e => ne_of_at hx hy hne e.2.2.2
          have hok : x = y → again I n ⟨149, [(2, .ref 2 0 0), (3, .ref 3 0 0), (7, iv (i + 1 : Nat))], [(2, ⟨false, t_api_Qea, 9, [qeaV a]⟩), (3, ⟨false, t_api_Qea, 9, [qeaV b]⟩)]⟩ := fun e => at_again (n - 1) (by omega) (hI _ _ ⟨i + 1, by omega, rfl, take_eq_succ hno hx (e ▸ hy)⟩)
          obtain ⟨x1, x2, x3, x4, xs⟩ := x
          obtain ⟨y1, y2, y3, y4, ys⟩ := y
          dsimp only at hxs
          by_cases hd : x1 = y1 ∧ x2 = y2 ∧ x3 = y3 ∧ x4 = y4 ∧ xs.length = ys.length
          · obtain ⟨rfl, rfl, rfl, rfl, hlen⟩ := hd
            (try (simp -implicitDefEqProofs only [go_sem, Nat.reduceAdd, Nat.reduceSub, Nat.reduceMul, Nat.reduceLT, Nat.reduceLeDiff, Nat.reduceEqDiff, Nat.reduceBEq, Int.reduceNeg, Int.reduceAdd, Int.reduceLT, Int.reduceLE, Int.reduceToNat, Int.reduceEq, Int.reduceNe, Int.reduceBEq, Int.reduceBNe, Int.reduceMul, Int.reduceSub, reduceIte, reduceCtorEq, aiaddr_map hx, aiaddr_map hy, transV, setsV, qeaV, declsV, quantsV, freesV, statesV, symsV, nodesV, transsV, List.length_map, hlen])); repeat' ((first | refine at_guard (fun hb => ?_) (fun hb => ?_) | refine ⟨fun hb => ?_, fun hb => ?_⟩ | fail) <;> (try (simp -implicitDefEqProofs only [go_sem, Nat.reduceAdd, Nat.reduceSub, Nat.reduceMul, Nat.reduceLT, Nat.reduceLeDiff, Nat.reduceEqDiff, Nat.reduceBEq, Int.reduceNeg, Int.reduceAdd, Int.reduceLT, Int.reduceLE, Int.reduceToNat, Int.reduceEq, Int.reduceNe, Int.reduceBEq, Int.reduceBNe, Int.reduceMul, Int.reduceSub, reduceIte, reduceCtorEq, aiaddr_map hx, aiaddr_map hy, transV, setsV, qeaV, declsV, quantsV, freesV, statesV, symsV, nodesV, transsV, List.length_map, hlen])))
            all_goals try (exfalso; clear fin0 fin1 hok hbad; simp at hb; done)
            refine at_loop (fun m st => ∃ k : Nat, k + m = xs.length ∧ st = ⟨149, [(2, .ref 2 0 0), (3, .ref 3 0 0), (7, iv i), (8, .ref 8 0 0), (9, .ref 9 0 0), (10, iv k)], [(2, ⟨false, t_api_Qea, 9, [qeaV a]⟩), (3, ⟨false, t_api_Qea, 9, [qeaV b]⟩), (8, ⟨false, t_api_Trans, 5, [transV ⟨x1, x2, x3, x4, xs⟩]⟩), (9, ⟨false, t_api_Trans, 5, [transV ⟨x1, x2, x3, x4, ys⟩]⟩)]⟩ ∧ xs.take k = ys.take k) xs.length ⟨0, by simp, rfl, rfl⟩ ?_
            rintro J hJ m st ⟨k, hk, rfl, hall⟩
            simp -implicitDefEqProofs only [go_sem, Nat.reduceAdd, Nat.reduceSub, Nat.reduceMul, Nat.reduceLT, Nat.reduceLeDiff, Nat.reduceEqDiff, Nat.reduceBEq, Int.reduceNeg, Int.reduceAdd, Int.reduceLT, Int.reduceLE, Int.reduceToNat, Int.reduceEq, Int.reduceNe, Int.reduceBEq, Int.reduceBNe, Int.reduceMul, Int.reduceSub, reduceIte, reduceCtorEq, transV, setsV, List.length_map, hw]
            refine ⟨fun hlt2 => ?_, fun hge2 => ?_⟩
            · have hlt2' : k < xs.length := by omega
              obtain ⟨u, hu, hum⟩ := at_some hlt2'
              obtain ⟨v, hv, hvm⟩ := at_some (l := ys) (i := k) (by omega)
              have hw2 := wrap_succ hlt2' (by omega)
              have heq := setEq u v
              have hgo : u = v → again J m ⟨149, [(2, .ref 2 0 0), (3, .ref 3 0 0), (7, iv i), (8, .ref 8 0 0), (9, .ref 9 0 0), (10, iv (k + 1 : Nat))], [(2, ⟨false, t_api_Qea, 9, [qeaV a]⟩), (3, ⟨false, t_api_Qea, 9, [qeaV b]⟩), (8, ⟨false, t_api_Trans, 5, [transV ⟨x1, x2, x3, x4, xs⟩]⟩), (9, ⟨false, t_api_Trans, 5, [transV ⟨x1, x2, x3, x4, ys⟩]⟩)]⟩ := fun huv => at_again (m - 1) (by omega) (hJ _ _ ⟨k + 1, by omega, rfl, take_eq_succ hall hu (huv ▸ hv)⟩)
              have hbd : ¬ u = v → ¬ (headSame a b ∧ a.symbols = b.symbols ∧ a.nodes = b.nodes ∧ a.trans = b.trans) := fun huv => hbad (fun e => ne_of_at hu hv huv (by simpa using e))
              clear hbad hok
              (try (simp -implicitDefEqProofs only [go_sem, Nat.reduceAdd, Nat.reduceSub, Nat.reduceMul, Nat.reduceLT, Nat.reduceLeDiff, Nat.reduceEqDiff, Nat.reduceBEq, Int.reduceNeg, Int.reduceAdd, Int.reduceLT, Int.reduceLE, Int.reduceToNat, Int.reduceEq, Int.reduceNe, Int.reduceBEq, Int.reduceBNe, Int.reduceMul, Int.reduceSub, reduceIte, reduceCtorEq, aiaddr_map hu, aiaddr_map hv, setV, transV, setsV, hw2, List.length_map])); repeat' ((first | refine at_guard (fun hb => ?_) (fun hb => ?_) | refine ⟨fun hb => ?_, fun hb => ?_⟩ | fail) <;> (try (simp -implicitDefEqProofs only [go_sem, Nat.reduceAdd, Nat.reduceSub, Nat.reduceMul, Nat.reduceLT, Nat.reduceLeDiff, Nat.reduceEqDiff, Nat.reduceBEq, Int.reduceNeg, Int.reduceAdd, Int.reduceLT, Int.reduceLE, Int.reduceToNat, Int.reduceEq, Int.reduceNe, Int.reduceBEq, Int.reduceBNe, Int.reduceMul, Int.reduceSub, reduceIte, reduceCtorEq, aiaddr_map hu, aiaddr_map hv, setV, transV, setsV, hw2, List.length_map])))
              all_goals first
                | (refine hgo ?_; rw [← beq_iff_eq (a := u), heq]; simpa using hb)
                | (refine fin0 _ (hbd ?_); rintro rfl; simp at hb; done)
            · exact hok (by rw [take_eq_all hall (by omega) (by omega)])
          · have hbad := hbad (fun e => hd (by simp at e; obtain ⟨h1, h2, h3, h4, h5⟩ := e; exact ⟨h1, h2, h3, h4, by rw [h5]⟩))
            (try (simp -implicitDefEqProofs only [go_sem, Nat.reduceAdd, Nat.reduceSub, Nat.reduceMul, Nat.reduceLT, Nat.reduceLeDiff, Nat.reduceEqDiff, Nat.reduceBEq, Int.reduceNeg, Int.reduceAdd, Int.reduceLT, Int.reduceLE, Int.reduceToNat, Int.reduceEq, Int.reduceNe, Int.reduceBEq, Int.reduceBNe, Int.reduceMul, Int.reduceSub, reduceIte, reduceCtorEq, aiaddr_map hx, aiaddr_map hy, transV, setsV, qeaV, declsV, quantsV, freesV, statesV, symsV, nodesV, transsV, List.length_map])); repeat' ((first | refine at_guard (fun hb => ?_) (fun hb => ?_) | refine ⟨fun hb => ?_, fun hb => ?_⟩ | fail) <;> (try (simp -implicitDefEqProofs only [go_sem, Nat.reduceAdd, Nat.reduceSub, Nat.reduceMul, Nat.reduceLT, Nat.reduceLeDiff, Nat.reduceEqDiff, Nat.reduceBEq, Int.reduceNeg, Int.reduceAdd, Int.reduceLT, Int.reduceLE, Int.reduceToNat, Int.reduceEq, Int.reduceNe, Int.reduceBEq, Int.reduceBNe, Int.reduceMul, Int.reduceSub, reduceIte, reduceCtorEq, aiaddr_map hx, aiaddr_map hy, transV, setsV, qeaV, declsV, quantsV, freesV, statesV, symsV, nodesV, transsV, List.length_map])))
            all_goals first | exact fin0 _ hbad | (exfalso; apply hd; clear fin0 fin1 hok hbad hd; simp at *; first | (simp_all; done) | omega)
        · have e3 := take_eq_all hno (by omega) (by omega)
          try (simp -implicitDefEqProofs only [go_sem, Nat.reduceAdd, Nat.reduceSub, Nat.reduceMul, Nat.reduceLT, Nat.reduceLeDiff, Nat.reduceEqDiff, Nat.reduceBEq, Int.reduceNeg, Int.reduceAdd, Int.reduceLT, Int.reduceLE, Int.reduceToNat, Int.reduceEq, Int.reduceNe, Int.reduceBEq, Int.reduceBNe, Int.reduceMul, Int.reduceSub, reduceIte, reduceCtorEq])
          exact fin1 _ ⟨c1, e1, e2, e3⟩
  · have hbad : ¬ (headSame a b ∧ a.symbols = b.symbols ∧ a.nodes = b.nodes ∧ a.trans = b.trans) := fun e => hc ⟨e.1, by rw [e.2.1], by rw [e.2.2.1], by rw [e.2.2.2]⟩
    by_cases hh : headSame a b
    · rw [show decide (headSame a b) = true by simpa using hh] at hH
      (try (simp -implicitDefEqProofs only [go_sem, Nat.reduceAdd, Nat.reduceSub, Nat.reduceMul, Nat.reduceLT, Nat.reduceLeDiff, Nat.reduceEqDiff, Nat.reduceBEq, Int.reduceNeg, Int.reduceAdd, Int.reduceLT, Int.reduceLE, Int.reduceToNat, Int.reduceEq, Int.reduceNe, Int.reduceBEq, Int.reduceBNe, Int.reduceMul, Int.reduceSub, reduceIte, reduceCtorEq, qeaV, declsV, quantsV, freesV, statesV, symsV, nodesV, transsV, List.length_map])); repeat' ((first | refine at_guard (fun hb => ?_) (fun hb => ?_) | refine ⟨fun hb => ?_, fun hb => ?_⟩ | refine at_call (hH) rfl rfl ?_ | fail) <;> (try (simp -implicitDefEqProofs only [go_sem, Nat.reduceAdd, Nat.reduceSub, Nat.reduceMul, Nat.reduceLT, Nat.reduceLeDiff, Nat.reduceEqDiff, Nat.reduceBEq, Int.reduceNeg, Int.reduceAdd, Int.reduceLT, Int.reduceLE, Int.reduceToNat, Int.reduceEq, Int.reduceNe, Int.reduceBEq, Int.reduceBNe, Int.reduceMul, Int.reduceSub, reduceIte, reduceCtorEq, qeaV, declsV, quantsV, freesV, statesV, symsV, nodesV, transsV, List.length_map])))
      all_goals first | exact fin0 _ hbad | (exfalso; apply hc; clear fin0 fin1 hbad hc hH; refine ⟨hh, ?_⟩; simp at *; omega)
    · rw [show decide (headSame a b) = false by simpa using hh] at hH
      (try (simp -implicitDefEqProofs only [go_sem, Nat.reduceAdd, Nat.reduceSub, Nat.reduceMul, Nat.reduceLT, Nat.reduceLeDiff, Nat.reduceEqDiff, Nat.reduceBEq, Int.reduceNeg, Int.reduceAdd, Int.reduceLT, Int.reduceLE, Int.reduceToNat, Int.reduceEq, Int.reduceNe, Int.reduceBEq, Int.reduceBNe, Int.reduceMul, Int.reduceSub, reduceIte, reduceCtorEq, qeaV, declsV, quantsV, freesV, statesV, symsV, nodesV, transsV, List.length_map])); repeat' ((first | refine at_guard (fun hb => ?_) (fun hb => ?_) | refine ⟨fun hb => ?_, fun hb => ?_⟩ | refine at_call (hH) rfl rfl ?_ | fail) <;> (try (simp -implicitDefEqProofs only [go_sem, Nat.reduceAdd, Nat.reduceSub, Nat.reduceMul, Nat.reduceLT, Nat.reduceLeDiff, Nat.reduceEqDiff, Nat.reduceBEq, Int.reduceNeg, Int.reduceAdd, Int.reduceLT, Int.reduceLE, Int.reduceToNat, Int.reduceEq, Int.reduceNe, Int.reduceBEq, Int.reduceBNe, Int.reduceMul, Int.reduceSub, reduceIte, reduceCtorEq, qeaV, declsV, quantsV, freesV, statesV, symsV, nodesV, transsV, List.length_map])))
      all_goals first | exact fin0 _ hbad | (exfalso; clear fin0 fin1; simp at *; done)
def declBad (d : DeclT) : Bool := d.types.any fun k => !(decide (1 ≤ k) && decide (k ≤ 3))
def badI (q : QeaT) : Int := idxF declBad q.decls
theorem law13_bad_pc (q : QeaT) (hq : q.Few) : PureC Tryd.prog G n_proctorlaw13_bad [qeaV q] (.tup [.bool (decide (0 ≤ badI q)), iv (if 0 ≤ badI q then badI q else 0)]) := by
  have hdl := hq.decls
  refine pc_proctorlaw13_bad (Runs.of fun Φ h => ?_)
  unfold c_proctorlaw13_bad
  have fin1 : ∀ (i : Nat) heap, badI q = i → Φ ⟨47, [(2, .bool true), (3, iv i)], heap⟩ := fun i heap e => h _ ⟨_, _, rfl, rfl, fit_eq (by rw [e]; simp)⟩
  have fin0 : ∀ heap, badI q = -1 → Φ ⟨47, [(2, .bool false), (3, iv 0)], heap⟩ := fun heap e => h _ ⟨_, _, rfl, rfl, fit_eq (by rw [e]; simp)⟩
  clear h
  unfold badI at fin0 fin1
  simp -implicitDefEqProofs only [go_sem, Nat.reduceAdd, Nat.reduceSub, Nat.reduceMul, Nat.reduceLT, Nat.reduceLeDiff, Nat.reduceEqDiff, Nat.reduceBEq, Int.reduceNeg, Int.reduceAdd, Int.reduceLT, Int.reduceLE, Int.reduceToNat, Int.reduceEq, Int.reduceNe, Int.reduceBEq, Int.reduceBNe, Int.reduceMul, Int.reduceSub, reduceIte, reduceCtorEq, qeaV, declsV, quantsV, freesV, statesV, symsV, nodesV, transsV, List.length_map]
  refine at_loop (fun n st => ∃ i : Nat, i + n = q.decls.length ∧ st = ⟨47, [(1, .ref 1 0 0), (4, iv i)], [(1, ⟨false, t_api_Qea, 9, [qeaV q]⟩)]⟩ ∧ ∀ j y, j < i → q.decls[j]? = some y → declBad y = false) q.decls.length ⟨0, by simp, rfl, fun j x hj => by omega⟩ ?_
  rintro I hI n st ⟨i, hi, rfl, hno⟩
  simp -implicitDefEqProofs only [go_sem, Nat.reduceAdd, Nat.reduceSub, Nat.reduceMul, Nat.reduceLT, Nat.reduceLeDiff, Nat.reduceEqDiff, Nat.reduceBEq, Int.reduceNeg, Int.reduceAdd, Int.reduceLT, Int.reduceLE, Int.reduceToNat, Int.reduceEq, Int.reduceNe, Int.reduceBEq, Int.reduceBNe, Int.reduceMul, Int.reduceSub, reduceIte, reduceCtorEq, qeaV, declsV, quantsV, freesV, statesV, symsV, nodesV, transsV, List.length_map]
  refine ⟨fun hlt => ?_, fun hge => ?_⟩
  · have hlt' : i < q.decls.length := by omega
    obtain ⟨d, hd, hm⟩ := at_some hlt'
    have hw := wrap_succ hlt' (by omega)
    have htl := hq.types d hm
    refine at_loop (fun m st => ∃ k : Nat, k + m = d.types.length ∧ st = ⟨47, [(1, .ref 1 0 0), (4, iv i), (5, iv k)], [(1, ⟨false, t_api_Qea, 9, [qeaV q]⟩)]⟩ ∧ ∀ j y, j < k → d.types[j]? = some y → (!(decide (1 ≤ y) && decide (y ≤ 3))) = false) d.types.length ⟨0, by simp, rfl, fun j x hj => by omega⟩ ?_
    rintro J hJ m st ⟨k, hk, rfl, hall⟩
    simp -implicitDefEqProofs only [go_sem, Nat.reduceAdd, Nat.reduceSub, Nat.reduceMul, Nat.reduceLT, Nat.reduceLeDiff, Nat.reduceEqDiff, Nat.reduceBEq, Int.reduceNeg, Int.reduceAdd, Int.reduceLT, Int.reduceLE, Int.reduceToNat, Int.reduceEq, Int.reduceNe, Int.reduceBEq, Int.reduceBNe, Int.reduceMul, Int.reduceSub, reduceIte, reduceCtorEq, aiaddr_map hd, declV, intsV, qeaV, declsV, quantsV, freesV, statesV, symsV, nodesV, transsV, List.length_map, hw]
    refine ⟨fun hlt2 => ?_, fun hge2 => ?_⟩
    · have hlt2' : k < d.types.length := by omega
      obtain ⟨t, ht, htm⟩ := at_some hlt2'
      have hw2 := wrap_succ hlt2' (by omega)
      have hgo : (!(decide (1 ≤ t) && decide (t ≤ 3))) = false → again J m ⟨47, [(1, .ref 1 0 0), (4, iv i), (5, iv (k + 1 : Nat))], [(1, ⟨false, t_api_Qea, 9, [qeaV q]⟩)]⟩ := fun hv => at_again (m - 1) (by omega) (hJ _ _ ⟨k + 1, by omega, rfl, fun j y hj hy => by
        by_cases e : j = k
        · subst e; rw [ht] at hy; cases hy; exact hv
        · exact hall j y (by omega) hy⟩)
      have hbd : (!(decide (1 ≤ t) && decide (t ≤ 3))) = true → idxF declBad q.decls = i := fun hv => idxF_at hd (List.any_eq_true.2 ⟨t, htm, hv⟩) hno
      clear hall hno
      (try (simp -implicitDefEqProofs only [go_sem, Nat.reduceAdd, Nat.reduceSub, Nat.reduceMul, Nat.reduceLT, Nat.reduceLeDiff, Nat.reduceEqDiff, Nat.reduceBEq, Int.reduceNeg, Int.reduceAdd, Int.reduceLT, Int.reduceLE, Int.reduceToNat, Int.reduceEq, Int.reduceNe, Int.reduceBEq, Int.reduceBNe, Int.reduceMul, Int.reduceSub, reduceIte, reduceCtorEq, aiaddr_map hd, aiaddr_map ht, declV, intsV, qeaV, declsV, quantsV, freesV, statesV, symsV, nodesV, transsV, List.length_map, hw2])); repeat' ((first | refine at_guard (fun hb => ?_) (fun hb => ?_) | refine ⟨fun hb => ?_, fun hb => ?_⟩ | fail) <;> (try (simp -implicitDefEqProofs only [go_sem, Nat.reduceAdd, Nat.reduceSub, Nat.reduceMul, Nat.reduceLT, Nat.reduceLeDiff, Nat.reduceEqDiff, Nat.reduceBEq, Int.reduceNeg, Int.reduceAdd, Int.reduceLT, Int.reduceLE, Int.reduceToNat, Int.reduceEq, Int.reduceNe, Int.reduceBEq, Int.reduceBNe, Int.reduceMul, Int.reduceSub, reduceIte, reduceCtorEq, aiaddr_map hd, aiaddr_map ht, declV, intsV, qeaV, declsV, quantsV, freesV, statesV, symsV, nodesV, transsV, List.length_map, hw2])))
      all_goals first | refine hgo ?_ | refine fin1 _ _ (hbd ?_)
      all_goals
        clear hgo hbd fin0 fin1 hI hJ
        simp at *
        omega
    · have hok : declBad d = false := by
        unfold declBad
        rw [List.any_eq_false]
        intro y hy
        obtain ⟨j, hj⟩ := List.getElem?_of_mem hy
        rw [hall j y (by have := (List.getElem?_eq_some_iff.1 hj).1; omega) hj]
        simp
      exact at_again (n - 1) (by omega) (hI _ _ ⟨i + 1, by omega, rfl, fun j y hj hy => by
        by_cases e : j = i
        · subst e; rw [hd] at hy; cases hy; exact hok
        · exact hno j y (by omega) hy⟩)
  · have hA : idxF declBad q.decls = -1 := idxF_none fun j y hj hy => hno j y (by omega) hy
    try (simp -implicitDefEqProofs only [go_sem, Nat.reduceAdd, Nat.reduceSub, Nat.reduceMul, Nat.reduceLT, Nat.reduceLeDiff, Nat.reduceEqDiff, Nat.reduceBEq, Int.reduceNeg, Int.reduceAdd, Int.reduceLT, Int.reduceLE, Int.reduceToNat, Int.reduceEq, Int.reduceNe, Int.reduceBEq, Int.reduceBNe, Int.reduceMul, Int.reduceSub, reduceIte, reduceCtorEq])
    exact fin0 _ hA
theorem plainly_of (q : QeaT) (hf : fewQ q = true) (hb : badI q < 0) : q.Plainly := by
  have hany : q.decls.any declBad = false := by
    rw [← idxF_any]
    unfold badI at hb
    simp
    omega
  refine ⟨fun d hd => ?_, fun d hd k hk => ?_⟩
  · unfold fewQ at hf
    simp only [Bool.and_eq_true] at hf
    obtain ⟨i, hi⟩ := List.getElem?_of_mem hd
    have := allI_true.1 hf.2.1 i d hi
    unfold fewDecl short at this
    simp only [Bool.and_eq_true, decide_eq_true_eq] at this
    omega
  · have h1 := List.any_eq_false.1 hany d hd
    unfold declBad at h1
    rw [Bool.not_eq_true, List.any_eq_false] at h1
    have h2 := h1 k hk
    unfold kOk
    simp at h2
    omega
theorem law13_CoreSame_pc (hG : words_global G) (a b : QeaT) : PureC Tryd.prog G n_proctorlaw13_CoreSame [qeaV a, qeaV b] (.bool true) := by
  have f1 := ref13_Few_pc (G := G) a
  have f2 := ref13_Few_pc (G := G) b
  have hw := law13_awake_pc hG
  refine pc_proctorlaw13_CoreSame (Runs.of fun Φ h => ?_)
  unfold c_proctorlaw13_CoreSame
  simp only [qeaV, declsV, quantsV, freesV, statesV, symsV, nodesV, transsV] at f1 f2
  cases h1 : fewQ a with
  | false =>
    rw [h1] at f1
    clear f2
    (try (simp -implicitDefEqProofs only [go_sem, Nat.reduceAdd, Nat.reduceSub, Nat.reduceMul, Nat.reduceLT, Nat.reduceLeDiff, Nat.reduceEqDiff, Nat.reduceBEq, Int.reduceNeg, Int.reduceAdd, Int.reduceLT, Int.reduceLE, Int.reduceToNat, Int.reduceEq, Int.reduceNe, Int.reduceBEq, Int.reduceBNe, Int.reduceMul, Int.reduceSub, reduceIte, reduceCtorEq, qeaV, declsV, quantsV, freesV, statesV, symsV, nodesV, transsV])); repeat' ((first | refine at_guard (fun hb => ?_) (fun hb => ?_) | refine ⟨fun hb => ?_, fun hb => ?_⟩ | refine at_call (f1) rfl rfl ?_ | refine at_call (hw) rfl rfl ?_ | fail) <;> (try (simp -implicitDefEqProofs only [go_sem, Nat.reduceAdd, Nat.reduceSub, Nat.reduceMul, Nat.reduceLT, Nat.reduceLeDiff, Nat.reduceEqDiff, Nat.reduceBEq, Int.reduceNeg, Int.reduceAdd, Int.reduceLT, Int.reduceLE, Int.reduceToNat, Int.reduceEq, Int.reduceNe, Int.reduceBEq, Int.reduceBNe, Int.reduceMul, Int.reduceSub, reduceIte, reduceCtorEq, qeaV, declsV, quantsV, freesV, statesV, symsV, nodesV, transsV])))
    all_goals (refine h _ ⟨_, _, rfl, rfl, fit_eq ?_⟩; clear h; first | rfl | simp_all)
  | true =>
    rw [h1] at f1
    cases h2 : fewQ b with
    | false =>
      rw [h2] at f2
      (try (simp -implicitDefEqProofs only [go_sem, Nat.reduceAdd, Nat.reduceSub, Nat.reduceMul, Nat.reduceLT, Nat.reduceLeDiff, Nat.reduceEqDiff, Nat.reduceBEq, Int.reduceNeg, Int.reduceAdd, Int.reduceLT, Int.reduceLE, Int.reduceToNat, Int.reduceEq, Int.reduceNe, Int.reduceBEq, Int.reduceBNe, Int.reduceMul, Int.reduceSub, reduceIte, reduceCtorEq, qeaV, declsV, quantsV, freesV, statesV, symsV, nodesV, transsV])); repeat' ((first | refine at_guard (fun hb => ?_) (fun hb => ?_) | refine ⟨fun hb => ?_, fun hb => ?_⟩ | refine at_call (f1) rfl rfl ?_ | refine at_call (f2) rfl rfl ?_ | refine at_call (hw) rfl rfl ?_ | fail) <;> (try (simp -implicitDefEqProofs only [go_sem, Nat.reduceAdd, Nat.reduceSub, Nat.reduceMul, Nat.reduceLT, Nat.reduceLeDiff, Nat.reduceEqDiff, Nat.reduceBEq, Int.reduceNeg, Int.reduceAdd, Int.reduceLT, Int.reduceLE, Int.reduceToNat, Int.reduceEq, Int.reduceNe, Int.reduceBEq, Int.reduceBNe, Int.reduceMul, Int.reduceSub, reduceIte, reduceCtorEq, qeaV, declsV, quantsV, freesV, statesV, symsV, nodesV, transsV])))
      all_goals (refine h _ ⟨_, _, rfl, rfl, fit_eq ?_⟩; clear h; first | rfl | simp_all)
    | true =>
      rw [h2] at f2
      have g1 := law13_bad_pc (G := G) a (few_of a h1)
      have g2 := law13_bad_pc (G := G) b (few_of b h2)
      simp only [qeaV, declsV, quantsV, freesV, statesV, symsV, nodesV, transsV] at g1 g2
      by_cases ha : 0 ≤ badI a
      · rw [if_pos ha, show decide (0 ≤ badI a) = true by simpa using ha] at g1
        (try (simp -implicitDefEqProofs only [go_sem, Nat.reduceAdd, Nat.reduceSub, Nat.reduceMul, Nat.reduceLT, Nat.reduceLeDiff, Nat.reduceEqDiff, Nat.reduceBEq, Int.reduceNeg, Int.reduceAdd, Int.reduceLT, Int.reduceLE, Int.reduceToNat, Int.reduceEq, Int.reduceNe, Int.reduceBEq, Int.reduceBNe, Int.reduceMul, Int.reduceSub, reduceIte, reduceCtorEq, qeaV, declsV, quantsV, freesV, statesV, symsV, nodesV, transsV])); repeat' ((first | refine at_guard (fun hb => ?_) (fun hb => ?_) | refine ⟨fun hb => ?_, fun hb => ?_⟩ | refine at_call (f1) rfl rfl ?_ | refine at_call (f2) rfl rfl ?_ | refine at_call (g1) rfl rfl ?_ | refine at_call (g2) rfl rfl ?_ | refine at_call (hw) rfl rfl ?_ | fail) <;> (try (simp -implicitDefEqProofs only [go_sem, Nat.reduceAdd, Nat.reduceSub, Nat.reduceMul, Nat.reduceLT, Nat.reduceLeDiff, Nat.reduceEqDiff, Nat.reduceBEq, Int.reduceNeg, Int.reduceAdd, Int.reduceLT, Int.reduceLE, Int.reduceToNat, Int.reduceEq, Int.reduceNe, Int.reduceBEq, Int.reduceBNe, Int.reduceMul, Int.reduceSub, reduceIte, reduceCtorEq, qeaV, declsV, quantsV, freesV, statesV, symsV, nodesV, transsV])))
        all_goals (refine h _ ⟨_, _, rfl, rfl, fit_eq ?_⟩; clear h; first | rfl | simp_all)
      · rw [if_neg ha, show decide (0 ≤ badI a) = false by simpa using ha] at g1
        by_cases hb : 0 ≤ badI b
        · rw [if_pos hb, show decide (0 ≤ badI b) = true by simpa using hb] at g2
          (try (simp -implicitDefEqProofs only [go_sem, Nat.reduceAdd, Nat.reduceSub, Nat.reduceMul, Nat.reduceLT, Nat.reduceLeDiff, Nat.reduceEqDiff, Nat.reduceBEq, Int.reduceNeg, Int.reduceAdd, Int.reduceLT, Int.reduceLE, Int.reduceToNat, Int.reduceEq, Int.reduceNe, Int.reduceBEq, Int.reduceBNe, Int.reduceMul, Int.reduceSub, reduceIte, reduceCtorEq, qeaV, declsV, quantsV, freesV, statesV, symsV, nodesV, transsV])); repeat' ((first | refine at_guard (fun hb => ?_) (fun hb => ?_) | refine ⟨fun hb => ?_, fun hb => ?_⟩ | refine at_call (f1) rfl rfl ?_ | refine at_call (f2) rfl rfl ?_ | refine at_call (g1) rfl rfl ?_ | refine at_call (g2) rfl rfl ?_ | refine at_call (hw) rfl rfl ?_ | fail) <;> (try (simp -implicitDefEqProofs only [go_sem, Nat.reduceAdd, Nat.reduceSub, Nat.reduceMul, Nat.reduceLT, Nat.reduceLeDiff, Nat.reduceEqDiff, Nat.reduceBEq, Int.reduceNeg, Int.reduceAdd, Int.reduceLT, Int.reduceLE, Int.reduceToNat, Int.reduceEq, Int.reduceNe, Int.reduceBEq, Int.reduceBNe, Int.reduceMul, Int.reduceSub, reduceIte, reduceCtorEq, qeaV, declsV, quantsV, freesV, statesV, symsV, nodesV, transsV])))
          all_goals (refine h _ ⟨_, _, rfl, rfl, fit_eq ?_⟩; clear h; first | rfl | simp_all)
        · rw [if_neg hb, show decide (0 ≤ badI b) = false by simpa using hb] at g2
          have s1 := core_Same_pc (G := G) a b (few_of a h1) (few_of b h2)
          have s2 := core_Same_pc (G := G) a a (few_of a h1) (few_of a h1)
          have s3 := ref13_Same_pc (G := G) a b (few_of a h1) (few_of b h2) (plainly_of a h1 (by omega)) (plainly_of b h2 (by omega))
          rw [show decide (a = a) = true by simp] at s2
          generalize decide (a = b) = v at *
          simp only [qeaV, declsV, quantsV, freesV, statesV, symsV, nodesV, transsV] at s1 s2 s3
          (try (simp -implicitDefEqProofs only [go_sem, Nat.reduceAdd, Nat.reduceSub, Nat.reduceMul, Nat.reduceLT, Nat.reduceLeDiff, Nat.reduceEqDiff, Nat.reduceBEq, Int.reduceNeg, Int.reduceAdd, Int.reduceLT, Int.reduceLE, Int.reduceToNat, Int.reduceEq, Int.reduceNe, Int.reduceBEq, Int.reduceBNe, Int.reduceMul, Int.reduceSub, reduceIte, reduceCtorEq, qeaV, declsV, quantsV, freesV, statesV, symsV, nodesV, transsV])); repeat' ((first | refine at_guard (fun hb => ?_) (fun hb => ?_) | refine ⟨fun hb => ?_, fun hb => ?_⟩ | refine at_call (f1) rfl rfl ?_ | refine at_call (f2) rfl rfl ?_ | refine at_call (g1) rfl rfl ?_ | refine at_call (g2) rfl rfl ?_ | refine at_call (hw) rfl rfl ?_ | refine at_call (s1) rfl rfl ?_ | refine at_call (s2) rfl rfl ?_ | refine at_call (s3) rfl rfl ?_ | fail) <;> (try (simp -implicitDefEqProofs only [go_sem, Nat.reduceAdd, Nat.reduceSub, Nat.reduceMul, Nat.reduceLT, Nat.reduceLeDiff, Nat.reduceEqDiff, Nat.reduceBEq, Int.reduceNeg, Int.reduceAdd, Int.reduceLT, Int.reduceLE, Int.reduceToNat, Int.reduceEq, Int.reduceNe, Int.reduceBEq, Int.reduceBNe, Int.reduceMul, Int.reduceSub, reduceIte, reduceCtorEq, qeaV, declsV, quantsV, freesV, statesV, symsV, nodesV, transsV])))
          all_goals (refine h _ ⟨_, _, rfl, rfl, fit_eq ?_⟩; clear h; first | rfl | simp_all)
end Go.Proofs.YtdfdiglnpekcpaaDoor.Ab
