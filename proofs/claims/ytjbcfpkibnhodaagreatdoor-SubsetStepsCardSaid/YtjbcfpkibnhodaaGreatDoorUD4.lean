/-
  Names, in plain words: bytes, signs, words. strings, schema, proctorref07: names and declarations. No claim is proved here.
-/
import Derived.Test.YtjbcfpkibnhodaaGreatDoorUAcR0
import Derived.Test.YtjbcfpkibnhodaaGreatDoorUD2
namespace Go.Proofs.YtjbcfpkibnhodaaGreatDoor.Ab
open Go
def nb (c : UInt8) : Bool := c.toNat == 95 || (decide (48 ≤ c.toNat) && decide (c.toNat ≤ 57) || (decide (65 ≤ c.toNat) && decide (c.toNat ≤ 90) || decide (97 ≤ c.toNat) && decide (c.toNat ≤ 122)))
def digit (c : UInt8) : Bool := decide (48 ≤ c.toNat) && decide (c.toNat ≤ 57)
def speltOk (s : Str) : Bool := match s with
  | [] => false
  | c :: _ => decide (s.length ≤ 32) && (!digit c && s.all nb)
def wordsL : List Str := [[97, 99, 99, 101, 112, 116], [97, 108, 115, 111], [97, 110, 100], [98, 111, 111, 108], [100, 111], [101, 118, 101, 110, 116], [101, 120, 105, 115, 116, 115], [102, 97, 108, 115, 101], [102, 111, 114, 97, 108, 108], [102, 114, 101, 101], [105, 102], [105, 110, 116], [110, 101, 120, 116], [110, 111, 116], [111, 110], [111, 114], [113, 101, 97], [115, 107, 105, 112], [115, 116, 97, 114, 116], [115, 116, 114, 105, 110, 103], [116, 111], [116, 114, 117, 101]]
def nameOk (s : Str) : Bool := speltOk s && (!(wordsL.any fun x => s == x) && !(s == [95]))
def idxR (p : Nat → Bool) (s : Str) : Nat → Nat → Int
  | 0, _ => -1
  | n + 1, pos => if pos < s.length then (if p (adec s pos).1 then (pos : Int) else idxR p s n (pos + (adec s pos).2)) else -1
def oddR (c : Nat) : Bool := !(c == 95) && ((decide (c < 48) || decide (57 < c)) && ((decide (c < 65) || decide (90 < c)) && (decide (c < 97) || decide (122 < c))))
theorem get_at (s : Str) (p : Nat) (hp : p < s.length) : (⟨s.toArray⟩ : ByteArray).get! p = s[p] := by
  simp [ByteArray.get!, hp]
theorem adec_low (s : Str) (p : Nat) (hp : p < s.length) (h : s[p].toNat < 128) : adec s p = (s[p].toNat, 1) := by
  unfold adec Utf8.decode
  simp only [Nat.add_zero, get_at s p hp, h, if_true]
theorem adec_high (s : Str) (p : Nat) (hp : p < s.length) (h : ¬ s[p].toNat < 128) : 128 ≤ (adec s p).1 := by
  unfold adec Utf8.decode
  simp only [Nat.add_zero, get_at s p hp, h, if_false, Utf8.runeError]
  repeat' split
  all_goals first | omega | (simp only [ge_iff_le, Bool.and_eq_true, decide_eq_true_eq] at *; omega) | simp
theorem adec_wide (s : Str) (p : Nat) : 1 ≤ (adec s p).2 := by
  unfold adec Utf8.decode
  simp only
  repeat' split
  all_goals simp
theorem odd_byte {c : UInt8} (h : c.toNat < 128) : oddR c.toNat = !nb c := by
  rw [Bool.eq_iff_iff]
  simp only [oddR, nb, Bool.and_eq_true, Bool.or_eq_true, Bool.not_eq_true', decide_eq_true_eq, beq_eq_false_iff_ne, Bool.or_eq_false_iff, Bool.and_eq_false_imp, decide_eq_false_iff_not, ne_eq]
  omega
theorem odd_high {c : Nat} (h : 128 ≤ c) : oddR c = true := by
  simp only [oddR, Bool.and_eq_true, Bool.or_eq_true, Bool.not_eq_true', decide_eq_true_eq, beq_eq_false_iff_ne, ne_eq]
  omega
theorem nb_high {c : UInt8} (h : ¬ c.toNat < 128) : nb c = false := by
  simp only [nb, Bool.or_eq_false_iff, Bool.and_eq_false_imp, decide_eq_true_eq, decide_eq_false_iff_not, beq_eq_false_iff_ne, ne_eq]
  omega
theorem idxR_odd (s : Str) : ∀ n pos, s.length ≤ pos + n → (idxR oddR s (n + 1) pos < 0 ↔ (s.drop pos).all nb = true)
  | 0, pos, h => by
    have : ¬ pos < s.length := by omega
    simp [idxR, this, List.drop_of_length_le (show s.length ≤ pos by omega)]
  | n + 1, pos, h => by
    unfold idxR
    by_cases hp : pos < s.length
    · rw [if_pos hp, List.drop_eq_getElem_cons hp, List.all_cons]
      by_cases hl : s[pos].toNat < 128
      · rw [adec_low s pos hp hl]
        simp only [odd_byte hl]
        cases hn : nb s[pos]
        · simp
          try omega
        · simp only [Bool.not_true, Bool.false_eq_true, if_false, Bool.true_and]
          exact idxR_odd s n (pos + 1) (by omega)
      · rw [if_pos (odd_high (adec_high s pos hp hl)), nb_high hl]
        simp
        try omega
    · rw [if_neg hp, List.drop_of_length_le (by omega)]
      simp
end Go.Proofs.YtjbcfpkibnhodaaGreatDoor.Ab
namespace Go.Proofs.YtjbcfpkibnhodaaGreatDoor.Ab
open Go
set_option linter.unusedSimpArgs false
set_option maxHeartbeats 4000000
variable {G : Nat → Option AV}
theorem strings_indexFunc_pc (f : Nat) (caps : List AV) (hf : bodyB Tryz.prog f = true) (hcap : OkC caps) (p : Nat → Bool) (hp : ∀ r : Nat, PureC Tryz.prog G f (.int .i32 (r : Int) :: caps) (.bool (p r))) (s : Str) :
    PureC Tryz.prog G n_strings_indexFunc [.str s, .fn f caps, .bool true] (iv (idxR p s (s.length + 1) 0)) := by
  refine pc_strings_indexFunc (Runs.of fun Φ h => ?_)
  unfold c_strings_indexFunc
  simp -implicitDefEqProofs only [go_sem, hcap.purge]
  refine at_loop (fun n st => ∃ pos : Nat, s.length ≤ pos + n ∧ st = ⟨21, [(1, .fn f caps), (2, .bool true), (10, .ref 10 0 0)], [(10, ⟨true, 0, 0, [.str s, iv pos]⟩)]⟩ ∧ idxR p s (s.length + 1) 0 = idxR p s (n + 1) pos) s.length ⟨0, by omega, rfl, rfl⟩ ?_
  rintro I hI n st ⟨pos, hn, rfl, he⟩
  by_cases hlt : pos < s.length
  · obtain ⟨m, rfl⟩ : ∃ m, n = m + 1 := ⟨n - 1, by omega⟩
    have hw := adec_wide s pos
    simp -implicitDefEqProofs only [go_sem, anxt, hlt, hcap.purge]
    refine ⟨hf, at_call (hp (adec s pos).1) (by simp [viewC, flat, viewBs, viewB, viewK, hcap.viewBs]) rfl ?_⟩
    have hstep : idxR p s (m + 1 + 1) pos = if p (adec s pos).1 then (pos : Int) else idxR p s (m + 1) (pos + (adec s pos).2) := by rw [idxR, if_pos hlt]
    cases hpx : p (adec s pos).1
    · rw [hpx] at hstep
      simp -implicitDefEqProofs only [go_sem, hcap.purge]
      exact at_again m (by omega) (hI _ _ ⟨pos + (adec s pos).2, by omega, rfl, by rw [he, hstep]; rfl⟩)
    · rw [hpx] at hstep
      simp -implicitDefEqProofs only [go_sem, hcap.purge]
      exact h _ ⟨_, _, rfl, rfl, fitI (by rw [he, hstep]; rfl)⟩
  · simp -implicitDefEqProofs only [go_sem, anxt, hlt]
    exact h _ ⟨_, _, rfl, rfl, fitI (by rw [he, idxR, if_neg hlt])⟩
theorem strings_IndexFunc_pc (f : Nat) (caps : List AV) (hf : bodyB Tryz.prog f = true) (hcap : OkC caps) (p : Nat → Bool) (hp : ∀ r : Nat, PureC Tryz.prog G f (.int .i32 (r : Int) :: caps) (.bool (p r))) (s : Str) :
    PureC Tryz.prog G n_strings_IndexFunc [.str s, .fn f caps] (iv (idxR p s (s.length + 1) 0)) := by
  refine pc_strings_IndexFunc (Runs.of fun Φ h => ?_)
  unfold c_strings_IndexFunc
  simp -implicitDefEqProofs only [go_sem]
  refine at_call (strings_indexFunc_pc f caps hf hcap p hp s) (by simp [viewC, flat, viewBs, viewB, viewK, hcap.viewK]) rfl ?_
  simp -implicitDefEqProofs only [go_sem]
  exact h _ ⟨_, _, rfl, rfl, .refl _⟩
theorem schema_Spelt_1_pc (r : Nat) : PureC Tryz.prog G n_schema_Spelt_1 [.int .i32 (r : Int)] (.bool (oddR r)) := by
  refine pc_schema_Spelt_1 (Runs.of fun Φ h => ?_)
  unfold c_schema_Spelt_1
  repeat' (first | (simp -implicitDefEqProofs only [go_sem]) | refine at_guard (fun hb => ?_) (fun hb => ?_) | refine ⟨fun hb => ?_, fun hb => ?_⟩ | fail)
  all_goals
    refine h _ ⟨_, _, rfl, rfl, fitB ?_⟩
    clear h
    rw [Bool.eq_iff_iff]
    simp only [oddR, Bool.and_eq_true, Bool.or_eq_true, Bool.not_eq_true', decide_eq_true_eq, decide_eq_false_iff_not, beq_eq_false_iff_ne, ne_eq, bne_iff_ne, bne_eq_false_iff_eq, Bool.false_eq_true, Bool.true_eq_false, Bool.not_true, Bool.not_false, true_iff, false_iff, iff_true, iff_false] at *
    omega
theorem schema_Spelt_pc (s : Str) : PureC Tryz.prog G n_schema_Spelt [.str s] (.bool (speltOk s)) := by
  have hsp : 0 < s.length → (decide (idxR oddR s (s.length + 1) 0 < 0) = s.all nb) := fun _ => by
    rw [Bool.eq_iff_iff, decide_eq_true_eq, idxR_odd s s.length 0 (by omega)]; simp
  refine pc_schema_Spelt (Runs.of fun Φ h => ?_)
  unfold c_schema_Spelt
  cases s with
  | nil =>
    simp -implicitDefEqProofs only [go_sem]
    exact h _ ⟨_, _, rfl, rfl, .refl _⟩
  | cons c r =>
    have e0 : aidx (.str (c :: r)) (.int .i64 0) = some (.int .u8 c.toNat) := rfl
    have hsp' := hsp (by simp)
    repeat' (first | (simp -implicitDefEqProofs only [go_sem, e0, alen]) | refine at_guard (fun hb => ?_) (fun hb => ?_) | refine ⟨fun hb => ?_, fun hb => ?_⟩ | refine at_call (strings_IndexFunc_pc n_schema_Spelt_1 [] (by kernel_rfl) okC_nil oddR (fun r => schema_Spelt_1_pc r) (c :: r)) rfl rfl ?_ | fail)
    all_goals
      refine h _ ⟨_, _, rfl, rfl, fitB ?_⟩
      clear h
      have e1 : speltOk (c :: r) = (decide ((c :: r).length ≤ 32) && (!digit c && (c :: r).all nb)) := rfl
      simp only [List.length_cons] at hsp'
      try rw [hsp']
      clear hsp hsp' e0
      rw [e1]
      clear e1
      generalize (c :: r).all nb = A at *
      cases A <;> (rw [Bool.eq_iff_iff]; simp [digit] at *; try omega)
end Go.Proofs.YtjbcfpkibnhodaaGreatDoor.Ab
