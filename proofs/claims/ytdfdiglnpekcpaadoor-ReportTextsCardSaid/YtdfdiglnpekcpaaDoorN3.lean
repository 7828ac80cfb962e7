/-
  proctorref42.Text: what it hands back. No claim is proved here.
-/
import Derived.Test.YtdfdiglnpekcpaaDoorN2
namespace Go.Proofs.YtdfdiglnpekcpaaDoor.Ab
open Go
set_option linter.unusedSimpArgs false
set_option maxHeartbeats 4000000
theorem run_assocN {P : Program} {G : Nat → Option AV} {Φ : St → Prop} (a b c : AC) (κ : List Kt) (st : St) : run P G Φ (.seq a (.seq b c)) κ st = run P G Φ (.seq (.seq a b) c) κ st := by
  simp only [run_seq]
  unfold run
  congr 1
  funext e st'
  cases e
  · exact run_seq b c κ st'
  · rfl
  · rfl
abbrev nlS : Str := [10]
abbrev spS : Str := [32]
def whereS (p : Int) : Str := whereL.getD (p - 1).toNat []
/-- A report. -/
def headT (a b c : Str) : Str := [101, 118, 101, 110, 116, 115, 32] ++ a ++ [10, 116, 114, 117, 101, 32] ++ b ++ [10, 116, 117, 114, 110, 115, 32] ++ c ++ [10]
def sureT (su : Int) (t : Str) : Str := if 0 < su then [115, 117, 114, 101, 32] ++ t ++ [10] else []
def lastT (n : Int) (t : Str) : Str := if 0 < n then [108, 97, 115, 116, 32] ++ t ++ [10] else []
def endT (p : Int) (a b c : Str) : Str := if 1 ≤ p ∧ p ≤ 3 then [101, 110, 100, 101, 100, 32] ++ whereS p ++ [32] ++ a ++ [32] ++ b ++ [32] ++ c ++ [10] else []
def repT (l : List Int) (part err line col : Int) : Str :=
  headT (Lib.itoa l.length) (Lib.itoa (cntAt l l.length).tr) (Lib.itoa (cntAt l l.length).tu) ++ sureT (cntAt l l.length).su (Lib.itoa (cntAt l l.length).su) ++ lastT l.length (nameS (cntAt l l.length).la) ++ endT part (Lib.itoa err) (Lib.itoa line) (Lib.itoa col)
theorem cntAt_su (l : List Int) : ∀ i, 0 ≤ (cntAt l i).su ∧ (cntAt l i).su ≤ i
  | 0 => by simp [cntAt]
  | i + 1 => by
    have := cntAt_su l i
    simp only [cntAt]
    split <;> omega
theorem cntAt_la (l : List Int) (h14 : ∀ v ∈ l, 1 ≤ v ∧ v ≤ 4) (h : 0 < l.length) : 1 ≤ (cntAt l l.length).la ∧ (cntAt l l.length).la ≤ 4 := by
  obtain ⟨n, hn⟩ : ∃ n, l.length = n + 1 := ⟨l.length - 1, by omega⟩
  rw [hn]
  simp only [cntAt]
  have hx : l[n]? = some l[n] := List.getElem?_eq_getElem (by omega)
  rw [List.getD_eq_getElem?_getD, hx]
  exact h14 _ (List.getElem_mem _)
theorem ref42_Text_pc (l : List Int) (hl : l.length ≤ 200) (h14 : ∀ v ∈ l, 1 ≤ v ∧ v ≤ 4) (part err line col : Int) (h1 : i64 err) (h2 : i64 line) (h3 : i64 col) :
    PureC Tryd.prog G1 n_proctorref42_Text [ivs l, iv part, iv err, iv line, iv col] (.str (repT l part err line col)) := by
  have hO := ref42_Of_pc l (by omega) h14
  have b1 := cntAt_tr l l.length
  have b2 := cntAt_tu l l.length
  have b3 := cntAt_su l l.length
  have b4 := cntAt_la l h14
  refine pc_proctorref42_Text (Runs.of fun Φ h => ?_)
  unfold c_proctorref42_Text
  unfold repT at h
  generalize cntAt l l.length = c at *
  obtain ⟨tr, tu, su, la⟩ := c
  dsimp only at *
  have i0 : i64 (l.length : Int) := by unfold i64; omega
  have i1 : i64 tr := by unfold i64; omega
  have i2 : i64 tu := by unfold i64; omega
  have i3 : i64 su := by unfold i64; omega
  have c0 := ref42_text_pc _ i0
  have c1 := ref42_text_pc _ i1
  have c2 := ref42_text_pc _ i2
  have c3 := ref42_text_pc _ i3
  have c5 := ref42_text_pc _ h1
  have c6 := ref42_text_pc _ h2
  have c7 := ref42_text_pc _ h3
  have l0 := itoa_len i0
  have l1 := itoa_len i1
  have l2 := itoa_len i2
  have l3 := itoa_len i3
  have l5 := itoa_len h1
  have l6 := itoa_len h2
  have l7 := itoa_len h3
  have c4 := fun h => ref32_Name_pc la h
  have l4 := fun h => name_len la h
  replace hl : (l.length : Int) ≤ 200 := by omega
  replace b4 : 0 < (l.length : Int) → 1 ≤ la ∧ la ≤ 4 := fun h => b4 (by omega)
  unfold ivs cntV at hO
  dsimp only at hO
  unfold ivs
  generalize Lib.itoa (l.length : Int) = s0 at *
  generalize (l.length : Int) = n at *
  generalize Lib.itoa tr = s1 at *
  generalize Lib.itoa tu = s2 at *
  generalize Lib.itoa su = s3 at *
  generalize Lib.itoa err = s5 at *
  generalize Lib.itoa line = s6 at *
  generalize Lib.itoa col = s7 at *
  generalize nameS la = s4 at *
  have fin : ∀ s heap, s = headT s0 s1 s2 ++ sureT su s3 ++ lastT n s4 ++ endT part s5 s6 s7 → Φ ⟨77, [(10, .str s)], heap⟩ := fun s heap e => h _ ⟨_, _, rfl, rfl, fit_eq (by rw [e])⟩
  clear h
  have hp : part = 1 ∨ part = 2 ∨ part = 3 ∨ ¬ (1 ≤ part ∧ part ≤ 3) := by omega
  generalize hkE : ([101, 118, 101, 110, 116, 115, 32] : List UInt8) = kE
  have lkE : kE.length ≤ 7 := by rw [← hkE]; decide
  generalize hkT : ([10, 116, 114, 117, 101, 32] : List UInt8) = kT
  have lkT : kT.length ≤ 7 := by rw [← hkT]; decide
  generalize hkU : ([10, 116, 117, 114, 110, 115, 32] : List UInt8) = kU
  have lkU : kU.length ≤ 7 := by rw [← hkU]; decide
  generalize hkS : ([115, 117, 114, 101, 32] : List UInt8) = kS
  have lkS : kS.length ≤ 7 := by rw [← hkS]; decide
  generalize hkL : ([108, 97, 115, 116, 32] : List UInt8) = kL
  have lkL : kL.length ≤ 7 := by rw [← hkL]; decide
  generalize hkD : ([101, 110, 100, 101, 100, 32] : List UInt8) = kD
  have lkD : kD.length ≤ 7 := by rw [← hkD]; decide
  generalize hkN : ([10] : List UInt8) = kN
  have lkN : kN.length ≤ 7 := by rw [← hkN]; decide
  generalize hkB : ([32] : List UInt8) = kB
  have lkB : kB.length ≤ 7 := by rw [← hkB]; decide
  rw [run_assocN, run_assocN]
  refine at_cut (fun st => ∃ env heap s, st = ⟨77, env, heap⟩ ∧ s = headT s0 s1 s2 ∧ s.length ≤ 100 ∧ eget env 1 = iv part ∧ eget env 2 = iv err ∧ eget env 3 = iv line ∧ eget env 4 = iv col ∧ eget env 12 = .str s ∧ eget env 11 = .ref 11 0 0 ∧ heap = [(11, ⟨false, t_proctorref42_Count, 5, [.agg [iv n, iv tr, iv tu, iv su, iv la]]⟩)]) ?_ ?_
  · have a1 : abin .add (.str kE) (.str s0) = some (.str (kE ++ s0)) := abin_adds (by (try simp only [List.length_append]); omega)
    have a2 : abin .add (.str (kE ++ s0)) (.str kT) = some (.str ((kE ++ s0) ++ kT)) := abin_adds (by (try simp only [List.length_append]); omega)
    have a3 : abin .add (.str ((kE ++ s0) ++ kT)) (.str s1) = some (.str (((kE ++ s0) ++ kT) ++ s1)) := abin_adds (by (try simp only [List.length_append]); omega)
    have a4 : abin .add (.str (((kE ++ s0) ++ kT) ++ s1)) (.str kU) = some (.str ((((kE ++ s0) ++ kT) ++ s1) ++ kU)) := abin_adds (by (try simp only [List.length_append]); omega)
    have a5 : abin .add (.str ((((kE ++ s0) ++ kT) ++ s1) ++ kU)) (.str s2) = some (.str (((((kE ++ s0) ++ kT) ++ s1) ++ kU) ++ s2)) := abin_adds (by (try simp only [List.length_append]); omega)
    have a6 : abin .add (.str (((((kE ++ s0) ++ kT) ++ s1) ++ kU) ++ s2)) (.str kN) = some (.str ((((((kE ++ s0) ++ kT) ++ s1) ++ kU) ++ s2) ++ kN)) := abin_adds (by (try simp only [List.length_append]); omega)
    (try (simp -implicitDefEqProofs only [go_sem, Nat.reduceAdd, Nat.reduceSub, Nat.reduceMul, Nat.reduceLT, Nat.reduceLeDiff, Nat.reduceEqDiff, Nat.reduceBEq, Int.reduceNeg, Int.reduceAdd, Int.reduceLT, Int.reduceLE, Int.reduceToNat, Int.reduceEq, Int.reduceNe, Int.reduceBEq, Int.reduceBNe, Int.reduceMul, Int.reduceSub, reduceIte, reduceCtorEq, a1, a2, a3, a4, a5, a6])); repeat' ((first | refine at_guard (fun hb => ?_) (fun hb => ?_) | refine ⟨fun hb => ?_, fun hb => ?_⟩ | refine at_call (hO) rfl rfl ?_ | refine at_call (c0) rfl rfl ?_ | refine at_call (c1) rfl rfl ?_ | refine at_call (c2) rfl rfl ?_ | fail) <;> (try (simp -implicitDefEqProofs only [go_sem, Nat.reduceAdd, Nat.reduceSub, Nat.reduceMul, Nat.reduceLT, Nat.reduceLeDiff, Nat.reduceEqDiff, Nat.reduceBEq, Int.reduceNeg, Int.reduceAdd, Int.reduceLT, Int.reduceLE, Int.reduceToNat, Int.reduceEq, Int.reduceNe, Int.reduceBEq, Int.reduceBNe, Int.reduceMul, Int.reduceSub, reduceIte, reduceCtorEq, a1, a2, a3, a4, a5, a6])))
    refine ⟨_, _, ((((((kE ++ s0) ++ kT) ++ s1) ++ kU) ++ s2) ++ kN), rfl, ?_, ?_, rfl, rfl, rfl, rfl, rfl, rfl, rfl⟩
    · subst hkE hkT hkU hkN; rfl
    · simp only [List.length_append]; omega
  rintro st ⟨env, heap, s, rfl, es, ls, g1, g2, g3, g4, g12, g11, rfl⟩
  refine at_cut (fun st => ∃ env heap s, st = ⟨77, env, heap⟩ ∧ s = headT s0 s1 s2 ++ sureT su s3 ∧ s.length ≤ 140 ∧ eget env 1 = iv part ∧ eget env 2 = iv err ∧ eget env 3 = iv line ∧ eget env 4 = iv col ∧ eget env 12 = .str s ∧ eget env 11 = .ref 11 0 0 ∧ heap = [(11, ⟨false, t_proctorref42_Count, 5, [.agg [iv n, iv tr, iv tu, iv su, iv la]]⟩)]) ?_ ?_
  · have a1 : abin .add (.str s) (.str kS) = some (.str (s ++ kS)) := abin_adds (by (try simp only [List.length_append]); omega)
    have a2 : abin .add (.str (s ++ kS)) (.str s3) = some (.str ((s ++ kS) ++ s3)) := abin_adds (by (try simp only [List.length_append]); omega)
    have a3 : abin .add (.str ((s ++ kS) ++ s3)) (.str kN) = some (.str (((s ++ kS) ++ s3) ++ kN)) := abin_adds (by (try simp only [List.length_append]); omega)
    by_cases hs : 0 < su
    · (try (simp -implicitDefEqProofs only [go_sem, Nat.reduceAdd, Nat.reduceSub, Nat.reduceMul, Nat.reduceLT, Nat.reduceLeDiff, Nat.reduceEqDiff, Nat.reduceBEq, Int.reduceNeg, Int.reduceAdd, Int.reduceLT, Int.reduceLE, Int.reduceToNat, Int.reduceEq, Int.reduceNe, Int.reduceBEq, Int.reduceBNe, Int.reduceMul, Int.reduceSub, reduceIte, reduceCtorEq, a1, a2, a3, g1, g2, g3, g4, g11, g12, hs])); repeat' ((first | refine at_guard (fun hb => ?_) (fun hb => ?_) | refine ⟨fun hb => ?_, fun hb => ?_⟩ | refine at_call (c3) rfl rfl ?_ | fail) <;> (try (simp -implicitDefEqProofs only [go_sem, Nat.reduceAdd, Nat.reduceSub, Nat.reduceMul, Nat.reduceLT, Nat.reduceLeDiff, Nat.reduceEqDiff, Nat.reduceBEq, Int.reduceNeg, Int.reduceAdd, Int.reduceLT, Int.reduceLE, Int.reduceToNat, Int.reduceEq, Int.reduceNe, Int.reduceBEq, Int.reduceBNe, Int.reduceMul, Int.reduceSub, reduceIte, reduceCtorEq, a1, a2, a3, g1, g2, g3, g4, g11, g12, hs])))
      refine ⟨_, _, (((s ++ kS) ++ s3) ++ kN), rfl, ?_, ?_, rfl, rfl, rfl, rfl, rfl, rfl, rfl⟩
      · rw [es, sureT, if_pos hs]; subst hkS hkN; simp
      · simp only [List.length_append]; omega
    · (try (simp -implicitDefEqProofs only [go_sem, Nat.reduceAdd, Nat.reduceSub, Nat.reduceMul, Nat.reduceLT, Nat.reduceLeDiff, Nat.reduceEqDiff, Nat.reduceBEq, Int.reduceNeg, Int.reduceAdd, Int.reduceLT, Int.reduceLE, Int.reduceToNat, Int.reduceEq, Int.reduceNe, Int.reduceBEq, Int.reduceBNe, Int.reduceMul, Int.reduceSub, reduceIte, reduceCtorEq, g1, g2, g3, g4, g11, g12, hs])); repeat' ((first | refine at_guard (fun hb => ?_) (fun hb => ?_) | refine ⟨fun hb => ?_, fun hb => ?_⟩ | fail) <;> (try (simp -implicitDefEqProofs only [go_sem, Nat.reduceAdd, Nat.reduceSub, Nat.reduceMul, Nat.reduceLT, Nat.reduceLeDiff, Nat.reduceEqDiff, Nat.reduceBEq, Int.reduceNeg, Int.reduceAdd, Int.reduceLT, Int.reduceLE, Int.reduceToNat, Int.reduceEq, Int.reduceNe, Int.reduceBEq, Int.reduceBNe, Int.reduceMul, Int.reduceSub, reduceIte, reduceCtorEq, g1, g2, g3, g4, g11, g12, hs])))
      refine ⟨_, _, s, rfl, ?_, by omega, rfl, rfl, rfl, rfl, rfl, rfl, rfl⟩
      rw [es, sureT, if_neg hs, List.append_nil]
  clear es ls g1 g2 g3 g4 g12 g11
  rintro st ⟨env, heap, s, rfl, es, ls, g1, g2, g3, g4, g12, g11, rfl⟩
  refine at_cut (fun st => ∃ env heap s, st = ⟨77, env, heap⟩ ∧ s = headT s0 s1 s2 ++ sureT su s3 ++ lastT n s4 ∧ s.length ≤ 170 ∧ eget env 1 = iv part ∧ eget env 2 = iv err ∧ eget env 3 = iv line ∧ eget env 4 = iv col ∧ eget env 12 = .str s) ?_ ?_
  · by_cases hn : 0 < n
    · have c4 := c4 (b4 hn)
      have l4 := l4 (b4 hn)
      have a1 : abin .add (.str s) (.str kL) = some (.str (s ++ kL)) := abin_adds (by (try simp only [List.length_append]); omega)
      have a2 : abin .add (.str (s ++ kL)) (.str s4) = some (.str ((s ++ kL) ++ s4)) := abin_adds (by (try simp only [List.length_append]); omega)
      have a3 : abin .add (.str ((s ++ kL) ++ s4)) (.str kN) = some (.str (((s ++ kL) ++ s4) ++ kN)) := abin_adds (by (try simp only [List.length_append]); omega)
      (try (simp -implicitDefEqProofs only [go_sem, Nat.reduceAdd, Nat.reduceSub, Nat.reduceMul, Nat.reduceLT, Nat.reduceLeDiff, Nat.reduceEqDiff, Nat.reduceBEq, Int.reduceNeg, Int.reduceAdd, Int.reduceLT, Int.reduceLE, Int.reduceToNat, Int.reduceEq, Int.reduceNe, Int.reduceBEq, Int.reduceBNe, Int.reduceMul, Int.reduceSub, reduceIte, reduceCtorEq, a1, a2, a3, g1, g2, g3, g4, g11, g12, hn])); repeat' ((first | refine at_guard (fun hb => ?_) (fun hb => ?_) | refine ⟨fun hb => ?_, fun hb => ?_⟩ | refine at_call (c4) rfl rfl ?_ | fail) <;> (try (simp -implicitDefEqProofs only [go_sem, Nat.reduceAdd, Nat.reduceSub, Nat.reduceMul, Nat.reduceLT, Nat.reduceLeDiff, Nat.reduceEqDiff, Nat.reduceBEq, Int.reduceNeg, Int.reduceAdd, Int.reduceLT, Int.reduceLE, Int.reduceToNat, Int.reduceEq, Int.reduceNe, Int.reduceBEq, Int.reduceBNe, Int.reduceMul, Int.reduceSub, reduceIte, reduceCtorEq, a1, a2, a3, g1, g2, g3, g4, g11, g12, hn])))
      refine ⟨_, _, (((s ++ kL) ++ s4) ++ kN), rfl, ?_, ?_, rfl, rfl, rfl, rfl, rfl⟩
      · rw [es, lastT, if_pos hn]; subst hkL hkN; simp
      · simp only [List.length_append]; omega
    · (try (simp -implicitDefEqProofs only [go_sem, Nat.reduceAdd, Nat.reduceSub, Nat.reduceMul, Nat.reduceLT, Nat.reduceLeDiff, Nat.reduceEqDiff, Nat.reduceBEq, Int.reduceNeg, Int.reduceAdd, Int.reduceLT, Int.reduceLE, Int.reduceToNat, Int.reduceEq, Int.reduceNe, Int.reduceBEq, Int.reduceBNe, Int.reduceMul, Int.reduceSub, reduceIte, reduceCtorEq, g1, g2, g3, g4, g11, g12, hn])); repeat' ((first | refine at_guard (fun hb => ?_) (fun hb => ?_) | refine ⟨fun hb => ?_, fun hb => ?_⟩ | fail) <;> (try (simp -implicitDefEqProofs only [go_sem, Nat.reduceAdd, Nat.reduceSub, Nat.reduceMul, Nat.reduceLT, Nat.reduceLeDiff, Nat.reduceEqDiff, Nat.reduceBEq, Int.reduceNeg, Int.reduceAdd, Int.reduceLT, Int.reduceLE, Int.reduceToNat, Int.reduceEq, Int.reduceNe, Int.reduceBEq, Int.reduceBNe, Int.reduceMul, Int.reduceSub, reduceIte, reduceCtorEq, g1, g2, g3, g4, g11, g12, hn])))
      refine ⟨_, _, s, rfl, ?_, by omega, rfl, rfl, rfl, rfl, rfl⟩
      rw [es, lastT, if_neg hn, List.append_nil]
  clear es ls g1 g2 g3 g4 g12 g11
  rintro st ⟨env, heap, s, rfl, es, ls, g1, g2, g3, g4, g12⟩
  replace fin : ∀ t heap, t = s ++ endT part s5 s6 s7 → Φ ⟨77, [(10, .str t)], heap⟩ := fun t heap e => fin t heap (by rw [e, es])
  clear es
  rcases hp with rfl | rfl | rfl | hp
  · generalize hkW : ([116, 101, 120, 116] : List UInt8) = kW
    have lkW : kW.length ≤ 7 := by rw [← hkW]; decide
    have hw : abin .neq (.str kW) (.str []) = some (.bool true) := by rw [← hkW]; rfl
    have a1 : abin .add (.str s) (.str kD) = some (.str (s ++ kD)) := abin_adds (by (try simp only [List.length_append]); omega)
    have a2 : abin .add (.str (s ++ kD)) (.str kW) = some (.str ((s ++ kD) ++ kW)) := abin_adds (by (try simp only [List.length_append]); omega)
    have a3 : abin .add (.str ((s ++ kD) ++ kW)) (.str kB) = some (.str (((s ++ kD) ++ kW) ++ kB)) := abin_adds (by (try simp only [List.length_append]); omega)
    have a4 : abin .add (.str (((s ++ kD) ++ kW) ++ kB)) (.str s5) = some (.str ((((s ++ kD) ++ kW) ++ kB) ++ s5)) := abin_adds (by (try simp only [List.length_append]); omega)
    have a5 : abin .add (.str ((((s ++ kD) ++ kW) ++ kB) ++ s5)) (.str kB) = some (.str (((((s ++ kD) ++ kW) ++ kB) ++ s5) ++ kB)) := abin_adds (by (try simp only [List.length_append]); omega)
    have a6 : abin .add (.str (((((s ++ kD) ++ kW) ++ kB) ++ s5) ++ kB)) (.str s6) = some (.str ((((((s ++ kD) ++ kW) ++ kB) ++ s5) ++ kB) ++ s6)) := abin_adds (by (try simp only [List.length_append]); omega)
    have a7 : abin .add (.str ((((((s ++ kD) ++ kW) ++ kB) ++ s5) ++ kB) ++ s6)) (.str kB) = some (.str (((((((s ++ kD) ++ kW) ++ kB) ++ s5) ++ kB) ++ s6) ++ kB)) := abin_adds (by (try simp only [List.length_append]); omega)
    have a8 : abin .add (.str (((((((s ++ kD) ++ kW) ++ kB) ++ s5) ++ kB) ++ s6) ++ kB)) (.str s7) = some (.str ((((((((s ++ kD) ++ kW) ++ kB) ++ s5) ++ kB) ++ s6) ++ kB) ++ s7)) := abin_adds (by (try simp only [List.length_append]); omega)
    have a9 : abin .add (.str ((((((((s ++ kD) ++ kW) ++ kB) ++ s5) ++ kB) ++ s6) ++ kB) ++ s7)) (.str kN) = some (.str (((((((((s ++ kD) ++ kW) ++ kB) ++ s5) ++ kB) ++ s6) ++ kB) ++ s7) ++ kN)) := abin_adds (by (try simp only [List.length_append]); omega)
    (try (simp -implicitDefEqProofs only [go_sem, Nat.reduceAdd, Nat.reduceSub, Nat.reduceMul, Nat.reduceLT, Nat.reduceLeDiff, Nat.reduceEqDiff, Nat.reduceBEq, Int.reduceNeg, Int.reduceAdd, Int.reduceLT, Int.reduceLE, Int.reduceToNat, Int.reduceEq, Int.reduceNe, Int.reduceBEq, Int.reduceBNe, Int.reduceMul, Int.reduceSub, reduceIte, reduceCtorEq, a1, a2, a3, a4, a5, a6, a7, a8, a9, hw, g1, g2, g3, g4, g12])); repeat' ((first | refine at_guard (fun hb => ?_) (fun hb => ?_) | refine ⟨fun hb => ?_, fun hb => ?_⟩ | refine at_call (c5) rfl rfl ?_ | refine at_call (c6) rfl rfl ?_ | refine at_call (c7) rfl rfl ?_ | fail) <;> (try (simp -implicitDefEqProofs only [go_sem, Nat.reduceAdd, Nat.reduceSub, Nat.reduceMul, Nat.reduceLT, Nat.reduceLeDiff, Nat.reduceEqDiff, Nat.reduceBEq, Int.reduceNeg, Int.reduceAdd, Int.reduceLT, Int.reduceLE, Int.reduceToNat, Int.reduceEq, Int.reduceNe, Int.reduceBEq, Int.reduceBNe, Int.reduceMul, Int.reduceSub, reduceIte, reduceCtorEq, a1, a2, a3, a4, a5, a6, a7, a8, a9, hw, g1, g2, g3, g4, g12])))
    refine fin _ _ ?_
    subst hkW hkD hkB hkN
    simp [endT, whereS, whereL]
  · generalize hkW : ([108, 111, 103] : List UInt8) = kW
    have lkW : kW.length ≤ 7 := by rw [← hkW]; decide
    have hw : abin .neq (.str kW) (.str []) = some (.bool true) := by rw [← hkW]; rfl
    have a1 : abin .add (.str s) (.str kD) = some (.str (s ++ kD)) := abin_adds (by (try simp only [List.length_append]); omega)
    have a2 : abin .add (.str (s ++ kD)) (.str kW) = some (.str ((s ++ kD) ++ kW)) := abin_adds (by (try simp only [List.length_append]); omega)
    have a3 : abin .add (.str ((s ++ kD) ++ kW)) (.str kB) = some (.str (((s ++ kD) ++ kW) ++ kB)) := abin_adds (by (try simp only [List.length_append]); omega)
    have a4 : abin .add (.str (((s ++ kD) ++ kW) ++ kB)) (.str s5) = some (.str ((((s ++ kD) ++ kW) ++ kB) ++ s5)) := abin_adds (by (try simp only [List.length_append]); omega)
    have a5 : abin .add (.str ((((s ++ kD) ++ kW) ++ kB) ++ s5)) (.str kB) = some (.str (((((s ++ kD) ++ kW) ++ kB) ++ s5) ++ kB)) := abin_adds (by (try simp only [List.length_append]); omega)
    have a6 : abin .add (.str (((((s ++ kD) ++ kW) ++ kB) ++ s5) ++ kB)) (.str s6) = some (.str ((((((s ++ kD) ++ kW) ++ kB) ++ s5) ++ kB) ++ s6)) := abin_adds (by (try simp only [List.length_append]); omega)
    have a7 : abin .add (.str ((((((s ++ kD) ++ kW) ++ kB) ++ s5) ++ kB) ++ s6)) (.str kB) = some (.str (((((((s ++ kD) ++ kW) ++ kB) ++ s5) ++ kB) ++ s6) ++ kB)) := abin_adds (by (try simp only [List.length_append]); omega)
    have a8 : abin .add (.str (((((((s ++ kD) ++ kW) ++ kB) ++ s5) ++ kB) ++ s6) ++ kB)) (.str s7) = some (.str ((((((((s ++ kD) ++ kW) ++ kB) ++ s5) ++ kB) ++ s6) ++ kB) ++ s7)) := abin_adds (by (try simp only [List.length_append]); omega)
    have a9 : abin .add (.str ((((((((s ++ kD) ++ kW) ++ kB) ++ s5) ++ kB) ++ s6) ++ kB) ++ s7)) (.str kN) = some (.str (((((((((s ++ kD) ++ kW) ++ kB) ++ s5) ++ kB) ++ s6) ++ kB) ++ s7) ++ kN)) := abin_adds (by (try simp only [List.length_append]); omega)
    (try (simp -implicitDefEqProofs only [go_sem, Nat.reduceAdd, Nat.reduceSub, Nat.reduceMul, Nat.reduceLT, Nat.reduceLeDiff, Nat.reduceEqDiff, Nat.reduceBEq, Int.reduceNeg, Int.reduceAdd, Int.reduceLT, Int.reduceLE, Int.reduceToNat, Int.reduceEq, Int.reduceNe, Int.reduceBEq, Int.reduceBNe, Int.reduceMul, Int.reduceSub, reduceIte, reduceCtorEq, a1, a2, a3, a4, a5, a6, a7, a8, a9, hw, g1, g2, g3, g4, g12])); repeat' ((first | refine at_guard (fun hb => ?_) (fun hb => ?_) | refine ⟨fun hb => ?_, fun hb => ?_⟩ | refine at_call (c5) rfl rfl ?_ | refine at_call (c6) rfl rfl ?_ | refine at_call (c7) rfl rfl ?_ | fail) <;> (try (simp -implicitDefEqProofs only [go_sem, Nat.reduceAdd, Nat.reduceSub, Nat.reduceMul, Nat.reduceLT, Nat.reduceLeDiff, Nat.reduceEqDiff, Nat.reduceBEq, Int.reduceNeg, Int.reduceAdd, Int.reduceLT, Int.reduceLE, Int.reduceToNat, Int.reduceEq, Int.reduceNe, Int.reduceBEq, Int.reduceBNe, Int.reduceMul, Int.reduceSub, reduceIte, reduceCtorEq, a1, a2, a3, a4, a5, a6, a7, a8, a9, hw, g1, g2, g3, g4, g12])))
    refine fin _ _ ?_
    subst hkW hkD hkB hkN
    simp [endT, whereS, whereL]
  · generalize hkW : ([114, 117, 110] : List UInt8) = kW
    have lkW : kW.length ≤ 7 := by rw [← hkW]; decide
    have hw : abin .neq (.str kW) (.str []) = some (.bool true) := by rw [← hkW]; rfl
    have a1 : abin .add (.str s) (.str kD) = some (.str (s ++ kD)) := abin_adds (by (try simp only [List.length_append]); omega)
    have a2 : abin .add (.str (s ++ kD)) (.str kW) = some (.str ((s ++ kD) ++ kW)) := abin_adds (by (try simp only [List.length_append]); omega)
    have a3 : abin .add (.str ((s ++ kD) ++ kW)) (.str kB) = some (.str (((s ++ kD) ++ kW) ++ kB)) := abin_adds (by (try simp only [List.length_append]); omega)
    have a4 : abin .add (.str (((s ++ kD) ++ kW) ++ kB)) (.str s5) = some (.str ((((s ++ kD) ++ kW) ++ kB) ++ s5)) := abin_adds (by (try simp only [List.length_append]); omega)
    have a5 : abin .add (.str ((((s ++ kD) ++ kW) ++ kB) ++ s5)) (.str kB) = some (.str (((((s ++ kD) ++ kW) ++ kB) ++ s5) ++ kB)) := abin_adds (by (try simp only [List.length_append]); omega)
    have a6 : abin .add (.str (((((s ++ kD) ++ kW) ++ kB) ++ s5) ++ kB)) (.str s6) = some (.str ((((((s ++ kD) ++ kW) ++ kB) ++ s5) ++ kB) ++ s6)) := abin_adds (by (try simp only [List.length_append]); omega)
    have a7 : abin .add (.str ((((((s ++ kD) ++ kW) ++ kB) ++ s5) ++ kB) ++ s6)) (.str kB) = some (.str (((((((s ++ kD) ++ kW) ++ kB) ++ s5) ++ kB) ++ s6) ++ kB)) := abin_adds (by (try simp only [List.length_append]); omega)
    have a8 : abin .add (.str (((((((s ++ kD) ++ kW) ++ kB) ++ s5) ++ kB) ++ s6) ++ kB)) (.str s7) = some (.str ((((((((s ++ kD) ++ kW) ++ kB) ++ s5) ++ kB) ++ s6) ++ kB) ++ s7)) := abin_adds (by (try simp only [List.length_append]); omega)
    have a9 : abin .add (.str ((((((((s ++ kD) ++ kW) ++ kB) ++ s5) ++ kB) ++ s6) ++ kB) ++ s7)) (.str kN) = some (.str (((((((((s ++ kD) ++ kW) ++ kB) ++ s5) ++ kB) ++ s6) ++ kB) ++ s7) ++ kN)) := abin_adds (by (try simp only [List.length_append]); omega)
    (try (simp -implicitDefEqProofs only [go_sem, Nat.reduceAdd, Nat.reduceSub, Nat.reduceMul, Nat.reduceLT, Nat.reduceLeDiff, Nat.reduceEqDiff, Nat.reduceBEq, Int.reduceNeg, Int.reduceAdd, Int.reduceLT, Int.reduceLE, Int.reduceToNat, Int.reduceEq, Int.reduceNe, Int.reduceBEq, Int.reduceBNe, Int.reduceMul, Int.reduceSub, reduceIte, reduceCtorEq, a1, a2, a3, a4, a5, a6, a7, a8, a9, hw, g1, g2, g3, g4, g12])); repeat' ((first | refine at_guard (fun hb => ?_) (fun hb => ?_) | refine ⟨fun hb => ?_, fun hb => ?_⟩ | refine at_call (c5) rfl rfl ?_ | refine at_call (c6) rfl rfl ?_ | refine at_call (c7) rfl rfl ?_ | fail) <;> (try (simp -implicitDefEqProofs only [go_sem, Nat.reduceAdd, Nat.reduceSub, Nat.reduceMul, Nat.reduceLT, Nat.reduceLeDiff, Nat.reduceEqDiff, Nat.reduceBEq, Int.reduceNeg, Int.reduceAdd, Int.reduceLT, Int.reduceLE, Int.reduceToNat, Int.reduceEq, Int.reduceNe, Int.reduceBEq, Int.reduceBNe, Int.reduceMul, Int.reduceSub, reduceIte, reduceCtorEq, a1, a2, a3, a4, a5, a6, a7, a8, a9, hw, g1, g2, g3, g4, g12])))
    refine fin _ _ ?_
    subst hkW hkD hkB hkN
    simp [endT, whereS, whereL]
  · have p1 : (part == 1) = false := by simp; omega
    have p2 : (part == 2) = false := by simp; omega
    have p3 : (part == 3) = false := by simp; omega
    have hw : abin .neq (.str []) (.str []) = some (.bool false) := rfl
    (try (simp -implicitDefEqProofs only [go_sem, Nat.reduceAdd, Nat.reduceSub, Nat.reduceMul, Nat.reduceLT, Nat.reduceLeDiff, Nat.reduceEqDiff, Nat.reduceBEq, Int.reduceNeg, Int.reduceAdd, Int.reduceLT, Int.reduceLE, Int.reduceToNat, Int.reduceEq, Int.reduceNe, Int.reduceBEq, Int.reduceBNe, Int.reduceMul, Int.reduceSub, reduceIte, reduceCtorEq, p1, p2, p3, hw, g1, g2, g3, g4, g12])); repeat' ((first | refine at_guard (fun hb => ?_) (fun hb => ?_) | refine ⟨fun hb => ?_, fun hb => ?_⟩ | fail) <;> (try (simp -implicitDefEqProofs only [go_sem, Nat.reduceAdd, Nat.reduceSub, Nat.reduceMul, Nat.reduceLT, Nat.reduceLeDiff, Nat.reduceEqDiff, Nat.reduceBEq, Int.reduceNeg, Int.reduceAdd, Int.reduceLT, Int.reduceLE, Int.reduceToNat, Int.reduceEq, Int.reduceNe, Int.reduceBEq, Int.reduceBNe, Int.reduceMul, Int.reduceSub, reduceIte, reduceCtorEq, p1, p2, p3, hw, g1, g2, g3, g4, g12])))
    refine fin _ _ ?_
    rw [endT, if_neg hp, List.append_nil]
end Go.Proofs.YtdfdiglnpekcpaaDoor.Ab
