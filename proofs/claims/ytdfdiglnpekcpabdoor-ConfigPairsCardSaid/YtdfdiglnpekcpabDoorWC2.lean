/-
  proctorref18: sets of configurations; the law's own words. No claim is proved here.
-/
import Derived.Test.YtdfdiglnpekcpabDoorWC1
namespace Go.Proofs.YtdfdiglnpekcpabDoor.Ab
open Nat renaming reduceAdd → zq0, reduceSub → zq1, reduceMul → zq2, reduceLT → zq3, reduceLeDiff → zq4, reduceEqDiff → zq5, reduceBEq → zq6
open Int renaming reduceNeg → zq7, reduceAdd → zq8, reduceLT → zq9, reduceLE → zq10, reduceToNat → zq11, reduceEq → zq12, reduceNe → zq13, reduceBEq → zq14, reduceBNe → zq15, reduceMul → zq16, reduceSub → zq17
open Go Go.RowKit
set_option linter.unusedSimpArgs false
set_option maxHeartbeats 4000000
set_option maxRecDepth 100000
variable {G : Nat → Option AV}
theorem run_assocC {P : Program} {Φ : St → Prop} (a b c : AC) (κ : List Kt) (st : St) : run P G Φ (.seq a (.seq b c)) κ st = run P G Φ (.seq (.seq a b) c) κ st := by
  simp only [run_seq]
  unfold run
  congr 1
  funext e st'
  cases e
  · exact run_seq b c κ st'
  · rfl
  · rfl
theorem aslc_takeC {α : Type} {e : α → AV} {sz : Nat} {l : List α} {i : Nat} (hs : 0 < sz) (h : i ≤ l.length) : aslc sz (.seq sz (l.map e)) none (some (.int .i64 (i : Int))) = some (.seq sz ((l.take i).map e)) := by
  simp [aslc, hs, h, List.map_take]
theorem view_map {α : Type} {e : α → AV} {sz : Nat} {H : List (Nat × Box)} {i n : Nat} {ty : Nat} {l : List α} (h0 : 0 < sz) (hH : hget H i = some ⟨true, ty, sz, l.map e⟩) (hn : l.length = n) : view H (.arr i 0 n) = some (.seq sz (l.map e)) := by
  simp only [view, hH, List.drop_zero, List.length_map, hn]
  simp [h0, ← hn]
  exact List.take_of_length_le (by simp)
/-- A configuration of few and short values. -/
def CfgT.Sm (c : CfgT) : Prop := c.vals.length ≤ 1000 ∧ ∀ v ∈ c.vals, v.str.length < 9223372036854775807
def putAt (l : List CfgT) (c : CfgT) : Nat → Nat
  | 0 => 0
  | n + 1 => match l[n]? with
    | some x => if cfgLess c x = true then putAt l c n else n + 1
    | none => n + 1
theorem putAt_le (l : List CfgT) (c : CfgT) : ∀ n, putAt l c n ≤ n
  | 0 => Nat.le_refl _
  | n + 1 => by
    rw [putAt]
    split
    · split
      · have := putAt_le l c n; omega
      · exact Nat.le_refl _
    · exact Nat.le_refl _
def isAt (l : List CfgT) (c : CfgT) : Nat → Bool
  | 0 => false
  | n + 1 => match l[n]? with
    | some x => cfgOne x c
    | none => false
def putR (l : List CfgT) (c : CfgT) : List CfgT := if isAt l c (putAt l c l.length) = true then l else l.take (putAt l c l.length) ++ c :: l.drop (putAt l c l.length)
theorem putR_mem {l : List CfgT} {c x : CfgT} (h : x ∈ putR l c) : x ∈ l ∨ x = c := by
  unfold putR at h
  split at h
  · exact .inl h
  · simp only [List.mem_append, List.mem_cons] at h
    rcases h with h | h | h
    · exact .inl (List.mem_of_mem_take h)
    · exact .inr h
    · exact .inl (List.mem_of_mem_drop h)
theorem putR_len (l : List CfgT) (c : CfgT) : (putR l c).length ≤ l.length + 1 := by
  unfold putR
  split
  · omega
  · have := putAt_le l c l.length
    simp only [List.length_append, List.length_cons, List.length_take, List.length_drop]
    omega
theorem aslc_drop {α : Type} {e : α → AV} {sz : Nat} {l : List α} {i : Nat} (hs : 0 < sz) (h : i ≤ l.length) : aslc sz (.seq sz (l.map e)) (some (.int .i64 (i : Int))) none = some (.seq sz ((l.drop i).map e)) := by
  simp [aslc, hs, h, List.map_drop]
  rw [List.take_of_length_le (by simp)]
theorem ref18_Put_pc (l : List CfgT) (c : CfgT) (hl : l.length ≤ 1000) (hls : ∀ x ∈ l, x.Sm) (hc : c.Sm) : PureC Tryd.prog G n_proctorref18_Put [cfgsV l, cfgV c] (cfgsV (putR l c)) := by
  refine pc_proctorref18_Put (Runs.of fun Φ h => ?_)
  unfold c_proctorref18_Put
  dsimp only
  rw [run_assocC, run_assocC]
  refine at_cut (fun st => st = ⟨48, [(0, cfgsV l), (3, .ref 3 0 0), (5, iv (putAt l c l.length : Nat)), (19, .bool false)], [(3, ⟨false, t_api_Config, 2, [cfgV c]⟩), (4, ⟨true, t_api_Config, 2, []⟩)]⟩) ?_ ?_
  · simp -implicitDefEqProofs only [go_sem, zq0, zq1, zq2, zq3, zq4, zq5, zq6, zq7, zq8, zq9, zq10, zq11, zq12, zq13, zq14, zq15, zq16, zq17, reduceIte, reduceCtorEq, cfgsV, cfgV, List.length_map]
    refine at_loop (fun n st => st = ⟨48, [(0, cfgsV l), (3, .ref 3 0 0), (5, iv n)], [(3, ⟨false, t_api_Config, 2, [cfgV c]⟩), (4, ⟨true, t_api_Config, 2, []⟩)]⟩ ∧ n ≤ l.length ∧ putAt l c n = putAt l c l.length) l.length ⟨rfl, Nat.le_refl _, rfl⟩ ?_
    rintro I hI n st ⟨rfl, hn, hp⟩
    rw [← hp]
    cases n with
    | zero =>
      have e1 : ((0 : Int) < ((0 : Nat) : Int)) = False := by simp
      (try (simp -implicitDefEqProofs only [go_sem, zq0, zq1, zq2, zq3, zq4, zq5, zq6, zq7, zq8, zq9, zq10, zq11, zq12, zq13, zq14, zq15, zq16, zq17, reduceIte, reduceCtorEq, e1, decide_false, cfgV, cfgsV])); repeat' ((first | refine at_guard (fun hb => ?_) (fun hb => ?_) | refine ⟨fun hb => ?_, fun hb => ?_⟩ | fail) <;> (try (simp -implicitDefEqProofs only [go_sem, zq0, zq1, zq2, zq3, zq4, zq5, zq6, zq7, zq8, zq9, zq10, zq11, zq12, zq13, zq14, zq15, zq16, zq17, reduceIte, reduceCtorEq, e1, decide_false, cfgV, cfgsV])))
      try rfl
    | succ n =>
      obtain ⟨x, hx, hxm⟩ := at_some (l := l) (i := n) (by omega)
      have e1 : ((0 : Int) < ((n + 1 : Nat) : Int)) = True := by rw [eq_iff_iff]; exact ⟨fun _ => trivial, fun _ => by omega⟩
      have hw : IntKind.wrap .i64 (((n + 1 : Nat) : Int) - 1) = (n : Int) := by rw [wrap_i64 (by omega) (by omega)]; omega
      have hls := ref18_Less_pc (G := G) c x hc.2 hc.1 (hls x hxm).1
      have hps : putAt l c (n + 1) = if cfgLess c x = true then putAt l c n else n + 1 := by rw [putAt, hx]
      generalize cfgLess c x = z at *
      obtain ⟨xs, xl⟩ := x
      simp only [cfgV] at hls
      cases z
      · rw [if_neg (by decide)] at hps
        rw [hps]
        (try (simp -implicitDefEqProofs only [go_sem, zq0, zq1, zq2, zq3, zq4, zq5, zq6, zq7, zq8, zq9, zq10, zq11, zq12, zq13, zq14, zq15, zq16, zq17, reduceIte, reduceCtorEq, e1, hw, aiaddr_map hx, decide_true, cfgV, cfgsV])); repeat' ((first | refine at_guard (fun hb => ?_) (fun hb => ?_) | refine ⟨fun hb => ?_, fun hb => ?_⟩ | refine at_call (hls) rfl rfl ?_ | fail) <;> (try (simp -implicitDefEqProofs only [go_sem, zq0, zq1, zq2, zq3, zq4, zq5, zq6, zq7, zq8, zq9, zq10, zq11, zq12, zq13, zq14, zq15, zq16, zq17, reduceIte, reduceCtorEq, e1, hw, aiaddr_map hx, decide_true, cfgV, cfgsV])))
        try rfl
      · rw [if_pos rfl] at hps
        rw [hps] at hp
        (try (simp -implicitDefEqProofs only [go_sem, zq0, zq1, zq2, zq3, zq4, zq5, zq6, zq7, zq8, zq9, zq10, zq11, zq12, zq13, zq14, zq15, zq16, zq17, reduceIte, reduceCtorEq, e1, hw, aiaddr_map hx, decide_true, cfgV, cfgsV])); repeat' ((first | refine at_guard (fun hb => ?_) (fun hb => ?_) | refine ⟨fun hb => ?_, fun hb => ?_⟩ | refine at_call (hls) rfl rfl ?_ | fail) <;> (try (simp -implicitDefEqProofs only [go_sem, zq0, zq1, zq2, zq3, zq4, zq5, zq6, zq7, zq8, zq9, zq10, zq11, zq12, zq13, zq14, zq15, zq16, zq17, reduceIte, reduceCtorEq, e1, hw, aiaddr_map hx, decide_true, cfgV, cfgsV])))
        exact at_again n (by omega) (hI _ _ ⟨rfl, by omega, hp⟩)
  · rintro st hst
    subst hst
    have hple := putAt_le l c l.length
    unfold putR at h
    generalize putAt l c l.length = n at *
    refine at_cut (fun st => st = ⟨48, [(0, cfgsV l), (3, .ref 3 0 0), (5, iv n), (32, .bool false)], [(3, ⟨false, t_api_Config, 2, [cfgV c]⟩), (4, ⟨true, t_api_Config, 2, []⟩)]⟩ ∧ isAt l c n = false) ?_ ?_
    · cases n with
      | zero =>
        have e1 : ((0 : Int) < ((0 : Nat) : Int)) = False := by simp
        (try (simp -implicitDefEqProofs only [go_sem, zq0, zq1, zq2, zq3, zq4, zq5, zq6, zq7, zq8, zq9, zq10, zq11, zq12, zq13, zq14, zq15, zq16, zq17, reduceIte, reduceCtorEq, e1, decide_false, cfgV, cfgsV, List.length_map])); repeat' ((first | refine at_guard (fun hb => ?_) (fun hb => ?_) | refine ⟨fun hb => ?_, fun hb => ?_⟩ | fail) <;> (try (simp -implicitDefEqProofs only [go_sem, zq0, zq1, zq2, zq3, zq4, zq5, zq6, zq7, zq8, zq9, zq10, zq11, zq12, zq13, zq14, zq15, zq16, zq17, reduceIte, reduceCtorEq, e1, decide_false, cfgV, cfgsV, List.length_map])))
        first | rfl | exact ⟨rfl, rfl⟩
      | succ n =>
        obtain ⟨x, hx, hxm⟩ := at_some (l := l) (i := n) (by omega)
        have e1 : ((0 : Int) < ((n + 1 : Nat) : Int)) = True := by rw [eq_iff_iff]; exact ⟨fun _ => trivial, fun _ => by omega⟩
        have hw : IntKind.wrap .i64 (((n + 1 : Nat) : Int) - 1) = (n : Int) := by rw [wrap_i64 (by omega) (by omega)]; omega
        have ho := ref18_One_pc (G := G) x c (hls x hxm).2 hc.2 (hls x hxm).1 hc.1
        have his : isAt l c (n + 1) = cfgOne x c := by rw [isAt, hx]
        generalize cfgOne x c = z at *
        obtain ⟨xs, xl⟩ := x
        simp only [cfgV] at ho
        cases z
        · (try (simp -implicitDefEqProofs only [go_sem, zq0, zq1, zq2, zq3, zq4, zq5, zq6, zq7, zq8, zq9, zq10, zq11, zq12, zq13, zq14, zq15, zq16, zq17, reduceIte, reduceCtorEq, e1, hw, aiaddr_map hx, decide_true, cfgV, cfgsV])); repeat' ((first | refine at_guard (fun hb => ?_) (fun hb => ?_) | refine ⟨fun hb => ?_, fun hb => ?_⟩ | refine at_call (ho) rfl rfl ?_ | fail) <;> (try (simp -implicitDefEqProofs only [go_sem, zq0, zq1, zq2, zq3, zq4, zq5, zq6, zq7, zq8, zq9, zq10, zq11, zq12, zq13, zq14, zq15, zq16, zq17, reduceIte, reduceCtorEq, e1, hw, aiaddr_map hx, decide_true, cfgV, cfgsV])))
          first | exact his | exact ⟨rfl, his⟩
        · rw [his, if_pos rfl] at h
          (try (simp -implicitDefEqProofs only [go_sem, zq0, zq1, zq2, zq3, zq4, zq5, zq6, zq7, zq8, zq9, zq10, zq11, zq12, zq13, zq14, zq15, zq16, zq17, reduceIte, reduceCtorEq, e1, hw, aiaddr_map hx, decide_true, cfgV, cfgsV])); repeat' ((first | refine at_guard (fun hb => ?_) (fun hb => ?_) | refine ⟨fun hb => ?_, fun hb => ?_⟩ | refine at_call (ho) rfl rfl ?_ | fail) <;> (try (simp -implicitDefEqProofs only [go_sem, zq0, zq1, zq2, zq3, zq4, zq5, zq6, zq7, zq8, zq9, zq10, zq11, zq12, zq13, zq14, zq15, zq16, zq17, reduceIte, reduceCtorEq, e1, hw, aiaddr_map hx, decide_true, cfgV, cfgsV])))
          exact h _ ⟨_, _, rfl, rfl, .refl _⟩
    · rintro st ⟨rfl, hat⟩
      rw [hat, if_neg (by decide)] at h
      have hs1 := aslc_takeC (e := cfgV) (sz := 2) (l := l) (i := n) (by decide) hple
      have hs2 := aslc_drop (e := cfgV) (sz := 2) (l := l) (i := n) (by decide) hple
      have ht : (l.take n).length = n := by simp; omega
      have hb1 : n * 32 ≤ 140737488355328 := by omega
      have hb2 : (n + 1) * 32 ≤ 140737488355328 := by omega
      have hb3 : (n + 1 + (l.length - n)) * 32 ≤ 140737488355328 := by omega
      (try (simp -implicitDefEqProofs only [go_sem, zq0, zq1, zq2, zq3, zq4, zq5, zq6, zq7, zq8, zq9, zq10, zq11, zq12, zq13, zq14, zq15, zq16, zq17, reduceIte, reduceCtorEq, hs1, hs2, cfgV, cfgsV, List.length_map, List.length_append, List.length_drop, ht, hb1, hb2, hb3])); repeat' ((first | refine at_guard (fun hb => ?_) (fun hb => ?_) | refine ⟨fun hb => ?_, fun hb => ?_⟩ | fail) <;> (try (simp -implicitDefEqProofs only [go_sem, zq0, zq1, zq2, zq3, zq4, zq5, zq6, zq7, zq8, zq9, zq10, zq11, zq12, zq13, zq14, zq15, zq16, zq17, reduceIte, reduceCtorEq, hs1, hs2, cfgV, cfgsV, List.length_map, List.length_append, List.length_drop, ht, hb1, hb2, hb3])))
      exact h _ ⟨_, _, rfl, view_map (e := cfgV) (l := l.take n ++ c :: l.drop n) (by decide) (by simp [hget, cfgV]; rfl) (by simp; omega), .refl _⟩
def ofR (l : List CfgT) : List CfgT := l.foldl putR []
theorem ofR_succ {l : List CfgT} {i : Nat} {c : CfgT} (h : l[i]? = some c) : ofR (l.take (i + 1)) = putR (ofR (l.take i)) c := by
  rw [List.take_add_one, h]
  simp [ofR]
theorem ofR_mem {c : CfgT} : ∀ {l : List CfgT} {acc : List CfgT}, c ∈ l.foldl putR acc → c ∈ acc ∨ c ∈ l
  | [], acc, h => .inl h
  | x :: l, acc, h => by
    rcases ofR_mem (l := l) (acc := putR acc x) h with h | h
    · rcases putR_mem h with h | rfl
      · exact .inl h
      · exact .inr (by simp)
    · exact .inr (by simp [h])
theorem ofR_len : ∀ (l : List CfgT) (acc : List CfgT), (l.foldl putR acc).length ≤ acc.length + l.length
  | [], acc => by simp
  | x :: l, acc => by
    have h1 := ofR_len l (putR acc x)
    have h2 := putR_len acc x
    simp only [List.foldl_cons, List.length_cons]
    omega
theorem ref18_Of_pc (l : List CfgT) (hl : l.length ≤ 100) (hls : ∀ x ∈ l, x.Sm) : PureC Tryd.prog G n_proctorref18_Of [cfgsV l] (cfgsV (ofR l)) := by
  refine pc_proctorref18_Of (Runs.of fun Φ h => ?_)
  unfold c_proctorref18_Of
  simp -implicitDefEqProofs only [go_sem, zq0, zq1, zq2, zq3, zq4, zq5, zq6, zq7, zq8, zq9, zq10, zq11, zq12, zq13, zq14, zq15, zq16, zq17, reduceIte, reduceCtorEq, cfgsV]
  refine at_loop (fun n st => ∃ (i : Nat) (v : AV) (H : List (Nat × Box)), i + n = l.length ∧ st = ⟨18, [(0, cfgsV l), (3, v), (4, iv i)], H⟩ ∧ ((v = .arr 3 0 0 ∧ H = [(2, ⟨true, t_api_Config, 2, []⟩), (3, ⟨true, t_api_Config, 2, []⟩)] ∧ ofR (l.take i) = []) ∨ (v = cfgsV (ofR (l.take i))))) l.length ⟨0, _, _, by simp, rfl, .inl ⟨rfl, rfl, rfl⟩⟩ ?_
  rintro I hI n st ⟨i, v, H, hi, rfl, hv⟩
  simp -implicitDefEqProofs only [go_sem, zq0, zq1, zq2, zq3, zq4, zq5, zq6, zq7, zq8, zq9, zq10, zq11, zq12, zq13, zq14, zq15, zq16, zq17, reduceIte, reduceCtorEq, cfgsV, List.length_map]
  refine ⟨fun hlt => ?_, fun hge => ?_⟩
  · have hlt' : i < l.length := by omega
    obtain ⟨c, hc, hm⟩ := at_some hlt'
    have hw := wrap_succ hlt' (by omega)
    have hol : (ofR (l.take i)).length ≤ 1000 := by
      have := ofR_len (l.take i) []
      simp only [List.length_take, List.length_nil] at this
      unfold ofR
      omega
    have hp := ref18_Put_pc (G := G) (ofR (l.take i)) c hol (fun x hx => by
      rcases ofR_mem hx with h | h
      · cases h
      · exact hls x (List.mem_of_mem_take h)) (hls c hm)
    rw [← ofR_succ hc] at hp
    obtain ⟨cs, cl⟩ := c
    rcases hv with ⟨rfl, rfl, h0⟩ | rfl
    · rw [h0] at hp
      simp only [cfgsV, cfgV, List.map_nil] at hp
      (try (simp -implicitDefEqProofs only [go_sem, zq0, zq1, zq2, zq3, zq4, zq5, zq6, zq7, zq8, zq9, zq10, zq11, zq12, zq13, zq14, zq15, zq16, zq17, reduceIte, reduceCtorEq, aiaddr_map hc, hw, cfgV, cfgsV])); repeat' ((first | refine at_guard (fun hb => ?_) (fun hb => ?_) | refine ⟨fun hb => ?_, fun hb => ?_⟩ | refine at_call (hp) rfl rfl ?_ | fail) <;> (try (simp -implicitDefEqProofs only [go_sem, zq0, zq1, zq2, zq3, zq4, zq5, zq6, zq7, zq8, zq9, zq10, zq11, zq12, zq13, zq14, zq15, zq16, zq17, reduceIte, reduceCtorEq, aiaddr_map hc, hw, cfgV, cfgsV])))
      exact at_again (n - 1) (by omega) (hI _ _ ⟨i + 1, _, _, by omega, rfl, .inr rfl⟩)
    · simp only [cfgsV, cfgV] at hp
      (try (simp -implicitDefEqProofs only [go_sem, zq0, zq1, zq2, zq3, zq4, zq5, zq6, zq7, zq8, zq9, zq10, zq11, zq12, zq13, zq14, zq15, zq16, zq17, reduceIte, reduceCtorEq, aiaddr_map hc, hw, cfgV, cfgsV])); repeat' ((first | refine at_guard (fun hb => ?_) (fun hb => ?_) | refine ⟨fun hb => ?_, fun hb => ?_⟩ | refine at_call (hp) rfl rfl ?_ | fail) <;> (try (simp -implicitDefEqProofs only [go_sem, zq0, zq1, zq2, zq3, zq4, zq5, zq6, zq7, zq8, zq9, zq10, zq11, zq12, zq13, zq14, zq15, zq16, zq17, reduceIte, reduceCtorEq, aiaddr_map hc, hw, cfgV, cfgsV])))
      exact at_again (n - 1) (by omega) (hI _ _ ⟨i + 1, _, _, by omega, rfl, .inr rfl⟩)
  · rw [List.take_of_length_le (by omega)] at hv
    rcases hv with ⟨rfl, rfl, h0⟩ | rfl
    · rw [h0] at h
      (try (simp -implicitDefEqProofs only [go_sem, zq0, zq1, zq2, zq3, zq4, zq5, zq6, zq7, zq8, zq9, zq10, zq11, zq12, zq13, zq14, zq15, zq16, zq17, reduceIte, reduceCtorEq])); repeat' ((first | refine at_guard (fun hb => ?_) (fun hb => ?_) | refine ⟨fun hb => ?_, fun hb => ?_⟩ | fail) <;> (try (simp -implicitDefEqProofs only [go_sem, zq0, zq1, zq2, zq3, zq4, zq5, zq6, zq7, zq8, zq9, zq10, zq11, zq12, zq13, zq14, zq15, zq16, zq17, reduceIte, reduceCtorEq])))
      exact h _ ⟨_, _, rfl, rfl, .refl _⟩
    · (try (simp -implicitDefEqProofs only [go_sem, zq0, zq1, zq2, zq3, zq4, zq5, zq6, zq7, zq8, zq9, zq10, zq11, zq12, zq13, zq14, zq15, zq16, zq17, reduceIte, reduceCtorEq, cfgsV])); repeat' ((first | refine at_guard (fun hb => ?_) (fun hb => ?_) | refine ⟨fun hb => ?_, fun hb => ?_⟩ | fail) <;> (try (simp -implicitDefEqProofs only [go_sem, zq0, zq1, zq2, zq3, zq4, zq5, zq6, zq7, zq8, zq9, zq10, zq11, zq12, zq13, zq14, zq15, zq16, zq17, reduceIte, reduceCtorEq, cfgsV])))
      exact h _ ⟨_, _, rfl, rfl, .refl _⟩
theorem ref18_Same_pc (a b : List CfgT) (ha : ∀ x ∈ a, x.Sm) (hb : ∀ x ∈ b, x.Sm) (hl : a.length ≤ 1000) : PureC Tryd.prog G n_proctorref18_Same [cfgsV a, cfgsV b] (.bool (zipB cfgOne a b)) := by
  refine pc_proctorref18_Same (Runs.of fun Φ h => ?_)
  unfold c_proctorref18_Same
  by_cases hlk : a.length = b.length
  · have e0 : ((a.length : Int) != (b.length : Int)) = false := by simp [hlk]
    generalize hv : zipB cfgOne a b = v at *
    simp -implicitDefEqProofs only [go_sem, zq0, zq1, zq2, zq3, zq4, zq5, zq6, zq7, zq8, zq9, zq10, zq11, zq12, zq13, zq14, zq15, zq16, zq17, reduceIte, reduceCtorEq, cfgsV, List.length_map, e0]
    refine at_loop (fun n st => ∃ i : Nat, i + n = a.length ∧ st = ⟨27, [(0, cfgsV a), (1, cfgsV b), (5, iv i)], []⟩ ∧ zipB cfgOne (a.drop i) (b.drop i) = v) a.length ⟨0, by simp, rfl, hv⟩ ?_
    rintro I hI n st ⟨i, hi, rfl, hno⟩
    simp -implicitDefEqProofs only [go_sem, zq0, zq1, zq2, zq3, zq4, zq5, zq6, zq7, zq8, zq9, zq10, zq11, zq12, zq13, zq14, zq15, zq16, zq17, reduceIte, reduceCtorEq, cfgsV, List.length_map]
    refine ⟨fun hlt => ?_, fun hge => ?_⟩
    · have hlt' : i < a.length := by omega
      obtain ⟨x, hx, hm⟩ := at_some hlt'
      obtain ⟨y, hy, hm'⟩ := at_some (l := b) (i := i) (by omega)
      have hw := wrap_succ hlt' (by omega)
      have hc := ref18_One_pc (G := G) x y (ha x hm).2 (hb y hm').2 (ha x hm).1 (hb y hm').1
      rw [zipB_step hx hy] at hno
      obtain ⟨x1, x2⟩ := x
      obtain ⟨y1, y2⟩ := y
      simp only [cfgV] at hc
      generalize cfgOne ⟨x1, x2⟩ ⟨y1, y2⟩ = β at *
      cases β
      · rw [Bool.false_and] at hno
        subst hno
        (try (simp -implicitDefEqProofs only [go_sem, zq0, zq1, zq2, zq3, zq4, zq5, zq6, zq7, zq8, zq9, zq10, zq11, zq12, zq13, zq14, zq15, zq16, zq17, reduceIte, reduceCtorEq, aiaddr_map hx, aiaddr_map hy, hw, cfgV, cfgsV])); repeat' ((first | refine at_guard (fun hb => ?_) (fun hb => ?_) | refine ⟨fun hb => ?_, fun hb => ?_⟩ | refine at_call (hc) rfl rfl ?_ | fail) <;> (try (simp -implicitDefEqProofs only [go_sem, zq0, zq1, zq2, zq3, zq4, zq5, zq6, zq7, zq8, zq9, zq10, zq11, zq12, zq13, zq14, zq15, zq16, zq17, reduceIte, reduceCtorEq, aiaddr_map hx, aiaddr_map hy, hw, cfgV, cfgsV])))
        exact h _ ⟨_, _, rfl, rfl, .refl _⟩
      · rw [Bool.true_and] at hno
        (try (simp -implicitDefEqProofs only [go_sem, zq0, zq1, zq2, zq3, zq4, zq5, zq6, zq7, zq8, zq9, zq10, zq11, zq12, zq13, zq14, zq15, zq16, zq17, reduceIte, reduceCtorEq, aiaddr_map hx, aiaddr_map hy, hw, cfgV, cfgsV])); repeat' ((first | refine at_guard (fun hb => ?_) (fun hb => ?_) | refine ⟨fun hb => ?_, fun hb => ?_⟩ | refine at_call (hc) rfl rfl ?_ | fail) <;> (try (simp -implicitDefEqProofs only [go_sem, zq0, zq1, zq2, zq3, zq4, zq5, zq6, zq7, zq8, zq9, zq10, zq11, zq12, zq13, zq14, zq15, zq16, zq17, reduceIte, reduceCtorEq, aiaddr_map hx, aiaddr_map hy, hw, cfgV, cfgsV])))
        exact at_again (n - 1) (by omega) (hI _ _ ⟨i + 1, by omega, rfl, hno⟩)
    · rw [zipB_end (by omega) (by omega)] at hno
      subst hno
      exact h _ ⟨_, _, rfl, rfl, .refl _⟩
  · have hv := zipB_len (p := cfgOne) hlk
    rw [hv] at h
    have e0 : ((a.length : Int) != (b.length : Int)) = true := by simp; omega
    (try (simp -implicitDefEqProofs only [go_sem, zq0, zq1, zq2, zq3, zq4, zq5, zq6, zq7, zq8, zq9, zq10, zq11, zq12, zq13, zq14, zq15, zq16, zq17, reduceIte, reduceCtorEq, cfgsV, List.length_map, e0])); repeat' ((first | refine at_guard (fun hb => ?_) (fun hb => ?_) | refine ⟨fun hb => ?_, fun hb => ?_⟩ | fail) <;> (try (simp -implicitDefEqProofs only [go_sem, zq0, zq1, zq2, zq3, zq4, zq5, zq6, zq7, zq8, zq9, zq10, zq11, zq12, zq13, zq14, zq15, zq16, zq17, reduceIte, reduceCtorEq, cfgsV, List.length_map, e0])))
    exact h _ ⟨_, _, rfl, rfl, .refl _⟩
end Go.Proofs.YtdfdiglnpekcpabDoor.Ab
