/-
  proctorref13: expressions. core.trans, from the inside: whole. proctorref13.Kind. core.trans, from the inside: set. core.trans, from the inside: one, and all. core.trans. core, proctorref13: arguments, symbols. config, proctorref18: the order of configurations, and whether they are the same. proctorref18: sets of configurations; the law's own words. Keys of values: no two rows of values of one length have one key. key, config.Key: keys of values and of sets of configurations. No claim is proved here.
-/
import Derived.Test.YtjkdpahaingjjaaQD8
import Derived.Test.YtjkdpahaingjjaaQV5
import Derived.Test.YtjkdpahaingjjaaQV3
namespace Go.Proofs.Ytjkdpahaingjjaa.Ab
open Go
set_option linter.unusedSimpArgs false
set_option maxHeartbeats 4000000
variable {G : Nat → Option AV}
end Go.Proofs.Ytjkdpahaingjjaa.Ab
namespace Go.Proofs.Ytjkdpahaingjjaa.Ab
open Go
set_option linter.unusedSimpArgs false
set_option maxHeartbeats 4000000
variable {G : Nat → Option AV}
/-- Rows and variables that are there. -/
def subH (heap : List (Nat × Box)) : List (Nat × Box) → Prop
  | [] => True
  | (i, b) :: r => hget heap i = some b ∧ subH heap r
theorem subH.at {heap : List (Nat × Box)} : ∀ {H : List (Nat × Box)}, subH heap H → ∀ i b, hget H i = some b → hget heap i = some b
  | [], _, i, b, h => by simp [hget] at h
  | (j, c) :: r, hs, i, b, h => by
    simp only [hget] at h
    split at h
    · rename_i e; subst e; cases h; exact hs.1
    · exact hs.2.at i b h
end Go.Proofs.Ytjkdpahaingjjaa.Ab
namespace Go.Proofs.Ytjkdpahaingjjaa.Ab
open Go
set_option linter.unusedSimpArgs false
set_option maxHeartbeats 4000000
variable {G : Nat → Option AV}
end Go.Proofs.Ytjkdpahaingjjaa.Ab
namespace Go.Proofs.Ytjkdpahaingjjaa.Ab
open Go
set_option linter.unusedSimpArgs false
set_option maxHeartbeats 4000000
variable {G : Nat → Option AV}
def mid {α : Type} (l : List α) (a b : Int) : List α := (l.drop a.toNat).take (b.toNat - a.toNat)
end Go.Proofs.Ytjkdpahaingjjaa.Ab
namespace Go.Proofs.Ytjkdpahaingjjaa.Ab
open Go
set_option linter.unusedSimpArgs false
set_option maxHeartbeats 4000000
variable {G : Nat → Option AV}
end Go.Proofs.Ytjkdpahaingjjaa.Ab
namespace Go.Proofs.Ytjkdpahaingjjaa.Ab
open Go
set_option linter.unusedSimpArgs false
set_option maxHeartbeats 4000000
variable {G : Nat → Option AV}
end Go.Proofs.Ytjkdpahaingjjaa.Ab
namespace Go.Proofs.Ytjkdpahaingjjaa.Ab
open Go Go.RowKit
set_option linter.unusedSimpArgs false
set_option maxHeartbeats 4000000
set_option maxRecDepth 100000
variable {G : Nat → Option AV}
structure CfgT where
  state : Int
  vals : List Val
deriving DecidableEq
/-- A state's number is small. -/
def CfgT.St (c : CfgT) : Prop := 0 ≤ c.state ∧ c.state < 1000 ∧ c.vals.length ≤ 1000
end Go.Proofs.Ytjkdpahaingjjaa.Ab
namespace Go.Proofs.Ytjkdpahaingjjaa.Ab
open Go Go.RowKit
set_option linter.unusedSimpArgs false
set_option maxHeartbeats 4000000
set_option maxRecDepth 100000
variable {G : Nat → Option AV}
end Go.Proofs.Ytjkdpahaingjjaa.Ab
namespace Go.Proofs.Ytjkdpahaingjjaa.Ab
open Go
set_option linter.unusedSimpArgs false
/-- A number's bytes, the greatest first. -/
def beB (u : Nat) : Str := [UInt8.ofNat (u / 72057594037927936), UInt8.ofNat (u / 281474976710656), UInt8.ofNat (u / 1099511627776), UInt8.ofNat (u / 4294967296), UInt8.ofNat (u / 16777216), UInt8.ofNat (u / 65536), UInt8.ofNat (u / 256), UInt8.ofNat u]
def keyNum (n : Int) : Str := beB (n + 9223372036854775808).toNat
def keyTxt : Str → Str
  | [] => [0, 1]
  | c :: r => if c = 0 then 0 :: 255 :: keyTxt r else c :: keyTxt r
def keyOne (v : Val) : Str := UInt8.ofNat v.kind.toNat :: (if v.kind = 1 then keyNum v.int else if v.kind = 2 then keyTxt v.str else [if v.bool then 1 else 0])
def keyVs (l : List Val) : Str := l.flatMap keyOne
theorem beB_inj {u v : Nat} (hu : u < 18446744073709551616) (hv : v < 18446744073709551616) (h : beB u = beB v) : u = v := by
  unfold beB at h
  simp only [List.cons.injEq, and_true] at h
  obtain ⟨h1, h2, h3, h4, h5, h6, h7, h8⟩ := h
  have e : ∀ a b : Nat, UInt8.ofNat a = UInt8.ofNat b → a % 256 = b % 256 := fun a b h => by
    have := congrArg UInt8.toNat h
    simpa using this
  have := e _ _ h1; have := e _ _ h2; have := e _ _ h3; have := e _ _ h4; have := e _ _ h5; have := e _ _ h6; have := e _ _ h7; have := e _ _ h8
  omega
theorem keyNum_inj {n m : Int} (hn : i64 n) (hm : i64 m) (h : keyNum n = keyNum m) : n = m := by
  unfold i64 at hn hm
  have := beB_inj (u := (n + 9223372036854775808).toNat) (v := (m + 9223372036854775808).toNat) (by omega) (by omega) h
  omega
theorem keyTxt_inj : ∀ {s t r r' : Str}, keyTxt s ++ r = keyTxt t ++ r' → s = t ∧ r = r'
  | [], [], r, r', h => by simpa [keyTxt] using h
  | [], c :: t, r, r', h => by
    simp only [keyTxt] at h
    split at h
    · simp at h
    · rename_i hc
      simp only [List.cons_append, List.cons.injEq] at h
      exact absurd h.1.symm hc
  | c :: s, [], r, r', h => by
    simp only [keyTxt] at h
    split at h
    · simp at h
    · rename_i hc
      simp only [List.cons_append, List.cons.injEq] at h
      exact absurd h.1 hc
  | c :: s, d :: t, r, r', h => by
    simp only [keyTxt] at h
    by_cases hc : c = 0 <;> by_cases hd : d = 0
    · rw [if_pos hc, if_pos hd] at h
      simp only [List.cons_append, List.cons.injEq, true_and] at h
      obtain ⟨h1, h2⟩ := keyTxt_inj h
      exact ⟨by rw [hc, hd, h1], h2⟩
    · rw [if_pos hc, if_neg hd] at h
      simp only [List.cons_append, List.cons.injEq] at h
      exact absurd h.1.symm hd
    · rw [if_neg hc, if_pos hd] at h
      simp only [List.cons_append, List.cons.injEq] at h
      exact absurd h.1 hc
    · rw [if_neg hc, if_neg hd] at h
      simp only [List.cons_append, List.cons.injEq] at h
      obtain ⟨h1, h2⟩ := keyTxt_inj h.2
      exact ⟨by rw [h.1, h1], h2⟩
theorem keyOne_inj {v w : Val} (hv : v.ok = true) (hw : w.ok = true) (v64 : i64 v.int) (w64 : i64 w.int) {r r' : Str} (h : keyOne v ++ r = keyOne w ++ r') : v = w ∧ r = r' := by
  obtain ⟨k, n, s, b⟩ := v
  obtain ⟨k', n', s', b'⟩ := w
  unfold keyOne at h
  simp only [List.cons_append, List.cons.injEq] at h
  obtain ⟨h0, h⟩ := h
  have kk : ∀ {k : Int} {n s b}, (⟨k, n, s, b⟩ : Val).ok = true → k = 1 ∨ k = 2 ∨ k = 3 := by
    intro k n s b h
    unfold Val.ok at h
    dsimp only at h
    split at h
    · exact .inl ‹_›
    · split at h
      · exact .inr (.inl ‹_›)
      · simp only [Bool.and_eq_true, decide_eq_true_eq] at h
        exact .inr (.inr h.1)
  have hk : k = k' := by
    rcases kk hv with rfl | rfl | rfl <;> rcases kk hw with rfl | rfl | rfl <;> first | rfl | (exfalso; revert h0; decide)
  subst hk
  rcases kk hv with rfl | rfl | rfl
  · simp only [if_true] at h
    simp [Val.ok] at hv hw
    obtain ⟨h1, h2⟩ := List.append_inj h rfl
    have := keyNum_inj v64 w64 h1
    simp only at this
    exact ⟨by rw [hv.1, hv.2, hw.1, hw.2, this], h2⟩
  · simp only [show ¬ (2 : Int) = 1 by decide, if_false, if_true] at h
    simp [Val.ok] at hv hw
    obtain ⟨h1, h2⟩ := keyTxt_inj h
    exact ⟨by rw [hv.1, hv.2.1, hw.1, hw.2.1, h1], h2⟩
  · simp only [show ¬ (3 : Int) = 1 by decide, show ¬ (3 : Int) = 2 by decide, if_false] at h
    simp [Val.ok] at hv hw
    simp only [List.cons_append, List.nil_append, List.cons.injEq] at h
    refine ⟨?_, h.2⟩
    rw [hv.1, hv.2, hw.1, hw.2]
    have hb : b = b' := by
      have := h.1
      cases b <;> cases b' <;> first | rfl | simp at this
    rw [hb]
end Go.Proofs.Ytjkdpahaingjjaa.Ab
namespace Go.Proofs.Ytjkdpahaingjjaa.Ab
open Go Go.RowKit
set_option linter.unusedSimpArgs false
set_option maxHeartbeats 4000000
set_option maxRecDepth 100000
variable {G : Nat → Option AV}
def byV (c : UInt8) : AV := .int .u8 (c.toNat : Int)
def bytesV (l : Str) : AV := .seq 1 (l.map byV)
theorem asBytes_map : ∀ (l : Str), asBytes (l.map byV) = some l
  | [] => rfl
  | c :: l => by
    simp only [List.map_cons, byV, asBytes]
    rw [asBytes_map l]
    simp
theorem view_bytes {H : List (Nat × Box)} {i n : Nat} {ty : Nat} {out : Str} (hH : hget H i = some ⟨true, ty, 1, out.map byV⟩) (hn : out.length = n) : view H (.arr i 0 n) = some (bytesV out) := by
  simp only [view, hH, List.drop_zero, List.length_map, hn]
  simp [bytesV, ← hn]
  exact List.take_of_length_le (by simp)
/-- A text's bytes, without the end. -/
def escT : Str → Str
  | [] => []
  | c :: r => (if c = 0 then [0, 255] else [c]) ++ escT r
theorem escT_append : ∀ (a b : Str), escT (a ++ b) = escT a ++ escT b
  | [], b => rfl
  | c :: a, b => by rw [List.cons_append, escT, escT, escT_append a b, List.append_assoc]
theorem keyTxt_esc : ∀ (s : Str), keyTxt s = escT s ++ [0, 1]
  | [] => rfl
  | c :: r => by
    rw [keyTxt, escT, keyTxt_esc r]
    split <;> simp
theorem escT_len : ∀ (s : Str), (escT s).length ≤ 2 * s.length
  | [] => Nat.le_refl _
  | c :: r => by
    have := escT_len r
    rw [escT]
    split <;> simp <;> omega
theorem take_at {α : Type} {l : List α} {i : Nat} {x : α} (h : l[i]? = some x) : l.take (i + 1) = l.take i ++ [x] := by
  rw [List.take_add_one, h]; rfl
theorem key_text_pc (s : Str) (hs : s.length ≤ 1000000) : PureC Try.prog G n_key_text [.str s] (bytesV (keyTxt s)) := by
  refine pc_key_text (Runs.of fun Φ h => ?_)
  unfold c_key_text
  simp -implicitDefEqProofs only [go_sem, Nat.reduceAdd, Nat.reduceSub, Nat.reduceMul, Nat.reduceLT, Nat.reduceLeDiff, Nat.reduceEqDiff, Nat.reduceBEq, Int.reduceNeg, Int.reduceAdd, Int.reduceLT, Int.reduceLE, Int.reduceToNat, Int.reduceEq, Int.reduceNe, Int.reduceBEq, Int.reduceBNe, Int.reduceMul, Int.reduceSub, reduceIte, reduceCtorEq]
  refine at_loop (fun n st => ∃ (i : Nat) (m : Str), i + n = s.length ∧ st = ⟨27, [(0, .str s), (3, .arr 3 0 m.length), (6, iv s.length), (7, iv i)], [(2, ⟨true, t_uint8, 1, []⟩), (3, ⟨true, t_uint8, 1, m.map byV⟩)]⟩ ∧ m = escT (s.take i)) s.length ⟨0, [], by simp, rfl, rfl⟩ ?_
  rintro I hI n st ⟨i, m, hi, rfl, hm⟩
  have hml : m.length ≤ 2000000 := by
    have := escT_len (s.take i)
    rw [hm]
    simp only [List.length_take] at this
    omega
  simp -implicitDefEqProofs only [go_sem, Nat.reduceAdd, Nat.reduceSub, Nat.reduceMul, Nat.reduceLT, Nat.reduceLeDiff, Nat.reduceEqDiff, Nat.reduceBEq, Int.reduceNeg, Int.reduceAdd, Int.reduceLT, Int.reduceLE, Int.reduceToNat, Int.reduceEq, Int.reduceNe, Int.reduceBEq, Int.reduceBNe, Int.reduceMul, Int.reduceSub, reduceIte, reduceCtorEq, List.length_map]
  refine ⟨fun hlt => ?_, fun hge => ?_⟩
  · have hlt' : i < s.length := by omega
    obtain ⟨c, hc, _⟩ := at_some hlt'
    have hw := wrap_succ hlt' (by omega)
    have hnx : escT (s.take (i + 1)) = m ++ (if c = 0 then [0, 255] else [c]) := by rw [take_at hc, escT_append, ← hm, escT, escT]; simp
    have hb1 : m.length + 1 ≤ 140737488355328 := by omega
    have hb2 : m.length + 1 + 1 ≤ 140737488355328 := by omega
    have hm1 : m.map byV ++ [.int .u8 (c.toNat : Int)] = (m ++ [c]).map byV := by simp [byV]
    by_cases h0 : c = 0
    · subst h0
      rw [if_pos rfl] at hnx
      have e0 : (((0 : UInt8).toNat : Int) == 0) = true := rfl
      (try (simp -implicitDefEqProofs only [go_sem, Nat.reduceAdd, Nat.reduceSub, Nat.reduceMul, Nat.reduceLT, Nat.reduceLeDiff, Nat.reduceEqDiff, Nat.reduceBEq, Int.reduceNeg, Int.reduceAdd, Int.reduceLT, Int.reduceLE, Int.reduceToNat, Int.reduceEq, Int.reduceNe, Int.reduceBEq, Int.reduceBNe, Int.reduceMul, Int.reduceSub, reduceIte, reduceCtorEq, aidx_at hc, hw, e0, List.length_map, List.length_append, hb1, hb2, Nat.mul_one])); repeat' ((first | refine at_guard (fun hb => ?_) (fun hb => ?_) | refine ⟨fun hb => ?_, fun hb => ?_⟩ | fail) <;> (try (simp -implicitDefEqProofs only [go_sem, Nat.reduceAdd, Nat.reduceSub, Nat.reduceMul, Nat.reduceLT, Nat.reduceLeDiff, Nat.reduceEqDiff, Nat.reduceBEq, Int.reduceNeg, Int.reduceAdd, Int.reduceLT, Int.reduceLE, Int.reduceToNat, Int.reduceEq, Int.reduceNe, Int.reduceBEq, Int.reduceBNe, Int.reduceMul, Int.reduceSub, reduceIte, reduceCtorEq, aidx_at hc, hw, e0, List.length_map, List.length_append, hb1, hb2, Nat.mul_one])))
      refine at_again (n - 1) (by omega) (hI _ _ ⟨i + 1, m ++ [0, 255], by omega, ?_, hnx.symm⟩)
      simp [byV]
    · rw [if_neg h0] at hnx
      have e0 : ((c.toNat : Int) == 0) = false := by
        have : c.toNat ≠ 0 := fun e => h0 (UInt8.toNat_inj.1 e)
        simp; omega
      (try (simp -implicitDefEqProofs only [go_sem, Nat.reduceAdd, Nat.reduceSub, Nat.reduceMul, Nat.reduceLT, Nat.reduceLeDiff, Nat.reduceEqDiff, Nat.reduceBEq, Int.reduceNeg, Int.reduceAdd, Int.reduceLT, Int.reduceLE, Int.reduceToNat, Int.reduceEq, Int.reduceNe, Int.reduceBEq, Int.reduceBNe, Int.reduceMul, Int.reduceSub, reduceIte, reduceCtorEq, aidx_at hc, hw, e0, List.length_map, List.length_append, hb1, hb2, Nat.mul_one])); repeat' ((first | refine at_guard (fun hb => ?_) (fun hb => ?_) | refine ⟨fun hb => ?_, fun hb => ?_⟩ | fail) <;> (try (simp -implicitDefEqProofs only [go_sem, Nat.reduceAdd, Nat.reduceSub, Nat.reduceMul, Nat.reduceLT, Nat.reduceLeDiff, Nat.reduceEqDiff, Nat.reduceBEq, Int.reduceNeg, Int.reduceAdd, Int.reduceLT, Int.reduceLE, Int.reduceToNat, Int.reduceEq, Int.reduceNe, Int.reduceBEq, Int.reduceBNe, Int.reduceMul, Int.reduceSub, reduceIte, reduceCtorEq, aidx_at hc, hw, e0, List.length_map, List.length_append, hb1, hb2, Nat.mul_one])))
      refine at_again (n - 1) (by omega) (hI _ _ ⟨i + 1, m ++ [c], by omega, ?_, hnx.symm⟩)
      simp [byV]
  · rw [List.take_of_length_le (by omega)] at hm
    rw [keyTxt_esc, ← hm] at h
    have hb1 : m.length + 2 ≤ 140737488355328 := by omega
    have hb2 : m.length + 1 + 1 ≤ 140737488355328 := by omega
    (try (simp -implicitDefEqProofs only [go_sem, Nat.reduceAdd, Nat.reduceSub, Nat.reduceMul, Nat.reduceLT, Nat.reduceLeDiff, Nat.reduceEqDiff, Nat.reduceBEq, Int.reduceNeg, Int.reduceAdd, Int.reduceLT, Int.reduceLE, Int.reduceToNat, Int.reduceEq, Int.reduceNe, Int.reduceBEq, Int.reduceBNe, Int.reduceMul, Int.reduceSub, reduceIte, reduceCtorEq, List.length_map, List.length_append, hb1, hb2, Nat.mul_one])); repeat' ((first | refine at_guard (fun hb => ?_) (fun hb => ?_) | refine ⟨fun hb => ?_, fun hb => ?_⟩ | fail) <;> (try (simp -implicitDefEqProofs only [go_sem, Nat.reduceAdd, Nat.reduceSub, Nat.reduceMul, Nat.reduceLT, Nat.reduceLeDiff, Nat.reduceEqDiff, Nat.reduceBEq, Int.reduceNeg, Int.reduceAdd, Int.reduceLT, Int.reduceLE, Int.reduceToNat, Int.reduceEq, Int.reduceNe, Int.reduceBEq, Int.reduceBNe, Int.reduceMul, Int.reduceSub, reduceIte, reduceCtorEq, List.length_map, List.length_append, hb1, hb2, Nat.mul_one])))
    exact h _ ⟨_, _, rfl, view_bytes (out := m ++ [0, 1]) (by simp [hget, byV]; rfl) (by simp), .refl _⟩
end Go.Proofs.Ytjkdpahaingjjaa.Ab
