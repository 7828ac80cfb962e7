/-
  Names, in plain words: bytes, signs, words. strings, schema, proctorref07: names and declarations. schema, proctorref07: declarations. No claim is proved here.
-/
import Derived.Test.YtjbcfpkibnhodaaGreatDoorWD2
namespace Go.Proofs.YtjbcfpkibnhodaaGreatDoor.Ab
open Go
def nb (c : UInt8) : Bool := c.toNat == 95 || (decide (48 ≤ c.toNat) && decide (c.toNat ≤ 57) || (decide (65 ≤ c.toNat) && decide (c.toNat ≤ 90) || decide (97 ≤ c.toNat) && decide (c.toNat ≤ 122)))
def digit (c : UInt8) : Bool := decide (48 ≤ c.toNat) && decide (c.toNat ≤ 57)
def speltOk (s : Str) : Bool := match s with
  | [] => false
  | c :: _ => decide (s.length ≤ 32) && (!digit c && s.all nb)
def wordsL : List Str := [[97, 99, 99, 101, 112, 116], [97, 108, 115, 111], [97, 110, 100], [98, 111, 111, 108], [100, 111], [101, 118, 101, 110, 116], [101, 120, 105, 115, 116, 115], [102, 97, 108, 115, 101], [102, 111, 114, 97, 108, 108], [102, 114, 101, 101], [105, 102], [105, 110, 116], [110, 101, 120, 116], [110, 111, 116], [111, 110], [111, 114], [113, 101, 97], [115, 107, 105, 112], [115, 116, 97, 114, 116], [115, 116, 114, 105, 110, 103], [116, 111], [116, 114, 117, 101]]
def nameOk (s : Str) : Bool := speltOk s && (!(wordsL.any fun x => s == x) && !(s == [95]))
def idxR (p : Nat → Bool) (s : Str) : Nat → Nat → Int
  | 0, _ => -1
  | n + 1, pos => if pos < s.length then (if p (adec s pos).1 then (pos : Int) else idxR p s n (pos + (adec s pos).2)) else -1
def oddR (c : Nat) : Bool := !(c == 95) && ((decide (c < 48) || decide (57 < c)) && ((decide (c < 65) || decide (90 < c)) && (decide (c < 97) || decide (122 < c))))
theorem get_at (s : Str) (p : Nat) (hp : p < s.length) : (⟨s.toArray⟩ : ByteArray).get! p = s[p] := by
  simp [ByteArray.get!, hp]
theorem adec_low (s : Str) (p : Nat) (hp : p < s.length) (h : s[p].toNat < 128) : adec s p = (s[p].toNat, 1) := by
  unfold adec Utf8.decode
  simp only [Nat.add_zero, get_at s p hp, h, if_true]
theorem adec_high (s : Str) (p : Nat) (hp : p < s.length) (h : ¬ s[p].toNat < 128) : 128 ≤ (adec s p).1 := by
  unfold adec Utf8.decode
  simp only [Nat.add_zero, get_at s p hp, h, if_false, Utf8.runeError]
  repeat' split
  all_goals first | omega | (simp only [ge_iff_le, Bool.and_eq_true, decide_eq_true_eq] at *; omega) | simp
theorem adec_wide (s : Str) (p : Nat) : 1 ≤ (adec s p).2 := by
  unfold adec Utf8.decode
  simp only
  repeat' split
  all_goals simp
theorem odd_byte {c : UInt8} (h : c.toNat < 128) : oddR c.toNat = !nb c := by
  rw [Bool.eq_iff_iff]
  simp only [oddR, nb, Bool.and_eq_true, Bool.or_eq_true, Bool.not_eq_true', decide_eq_true_eq, beq_eq_false_iff_ne, Bool.or_eq_false_iff, Bool.and_eq_false_imp, decide_eq_false_iff_not, ne_eq]
  omega
theorem odd_high {c : Nat} (h : 128 ≤ c) : oddR c = true := by
  simp only [oddR, Bool.and_eq_true, Bool.or_eq_true, Bool.not_eq_true', decide_eq_true_eq, beq_eq_false_iff_ne, ne_eq]
  omega
theorem nb_high {c : UInt8} (h : ¬ c.toNat < 128) : nb c = false := by
  simp only [nb, Bool.or_eq_false_iff, Bool.and_eq_false_imp, decide_eq_true_eq, decide_eq_false_iff_not, beq_eq_false_iff_ne, ne_eq]
  omega
theorem idxR_odd (s : Str) : ∀ n pos, s.length ≤ pos + n → (idxR oddR s (n + 1) pos < 0 ↔ (s.drop pos).all nb = true)
  | 0, pos, h => by
    have : ¬ pos < s.length := by omega
    simp [idxR, this, List.drop_of_length_le (show s.length ≤ pos by omega)]
  | n + 1, pos, h => by
    unfold idxR
    by_cases hp : pos < s.length
    · rw [if_pos hp, List.drop_eq_getElem_cons hp, List.all_cons]
      by_cases hl : s[pos].toNat < 128
      · rw [adec_low s pos hp hl]
        simp only [odd_byte hl]
        cases hn : nb s[pos]
        · simp
          try omega
        · simp only [Bool.not_true, Bool.false_eq_true, if_false, Bool.true_and]
          exact idxR_odd s n (pos + 1) (by omega)
      · rw [if_pos (odd_high (adec_high s pos hp hl)), nb_high hl]
        simp
        try omega
    · rw [if_neg hp, List.drop_of_length_le (by omega)]
      simp
end Go.Proofs.YtjbcfpkibnhodaaGreatDoor.Ab
namespace Go.Proofs.YtjbcfpkibnhodaaGreatDoor.Ab
open Go
set_option linter.unusedSimpArgs false
set_option maxHeartbeats 4000000
variable {G : Nat → Option AV}
theorem strings_indexFunc_pc (f : Nat) (caps : List AV) (hf : bodyB Tryz.prog f = true) (hcap : OkC caps) (p : Nat → Bool) (hp : ∀ r : Nat, P_ Tryz.prog G f (.int .i32 (r : Int) :: caps) (.bool (p r))) (s : Str) :
    P_ Tryz.prog G n_strings_indexFunc [.str s, .fn f caps, .bool true] (iv (idxR p s (s.length + 1) 0)) := by
  refine pc_strings_indexFunc (Runs.of fun Φ h => ?_)
  unfold c_strings_indexFunc
  simp -implicitDefEqProofs only [go_sem, hcap.purge]
  refine al_ (fun n st => ∃ pos : Nat, s.length ≤ pos + n ∧ st = ⟨21, [(1, .fn f caps), (2, .bool true), (10, .ref 10 0 0)], [(10, ⟨true, 0, 0, [.str s, iv pos]⟩)]⟩ ∧ idxR p s (s.length + 1) 0 = idxR p s (n + 1) pos) s.length ⟨0, by omega, rfl, rfl⟩ ?_
  rintro I hI n st ⟨pos, hn, rfl, he⟩
  by_cases hlt : pos < s.length
  · obtain ⟨m, rfl⟩ : ∃ m, n = m + 1 := ⟨n - 1, by omega⟩
    have hw := adec_wide s pos
    simp -implicitDefEqProofs only [go_sem, anxt, hlt, hcap.purge]
    refine ⟨hf, ac_ (hp (adec s pos).1) (by simp [viewC, flat, viewBs, viewB, viewK, hcap.viewBs]) rfl ?_⟩
    have hstep : idxR p s (m + 1 + 1) pos = if p (adec s pos).1 then (pos : Int) else idxR p s (m + 1) (pos + (adec s pos).2) := by rw [idxR, if_pos hlt]
    cases hpx : p (adec s pos).1
    · rw [hpx] at hstep
      simp -implicitDefEqProofs only [go_sem, hcap.purge]
      exact aa_ m (by omega) (hI _ _ ⟨pos + (adec s pos).2, by omega, rfl, by rw [he, hstep]; rfl⟩)
    · rw [hpx] at hstep
      simp -implicitDefEqProofs only [go_sem, hcap.purge]
      exact h _ ⟨_, _, rfl, rfl, fitI (by rw [he, hstep]; rfl)⟩
  · simp -implicitDefEqProofs only [go_sem, anxt, hlt]
    exact h _ ⟨_, _, rfl, rfl, fitI (by rw [he, idxR, if_neg hlt])⟩
theorem strings_IndexFunc_pc (f : Nat) (caps : List AV) (hf : bodyB Tryz.prog f = true) (hcap : OkC caps) (p : Nat → Bool) (hp : ∀ r : Nat, P_ Tryz.prog G f (.int .i32 (r : Int) :: caps) (.bool (p r))) (s : Str) :
    P_ Tryz.prog G n_strings_IndexFunc [.str s, .fn f caps] (iv (idxR p s (s.length + 1) 0)) := by
  refine pc_strings_IndexFunc (Runs.of fun Φ h => ?_)
  unfold c_strings_IndexFunc
  simp -implicitDefEqProofs only [go_sem]
  refine ac_ (strings_indexFunc_pc f caps hf hcap p hp s) (by simp [viewC, flat, viewBs, viewB, viewK, hcap.viewK]) rfl ?_
  simp -implicitDefEqProofs only [go_sem]
  exact h _ ⟨_, _, rfl, rfl, .refl _⟩
theorem schema_Spelt_1_pc (r : Nat) : P_ Tryz.prog G n_schema_Spelt_1 [.int .i32 (r : Int)] (.bool (oddR r)) := by
  refine pc_schema_Spelt_1 (Runs.of fun Φ h => ?_)
  unfold c_schema_Spelt_1
  repeat' (first | (simp -implicitDefEqProofs only [go_sem]) | refine ag_ (fun hb => ?_) (fun hb => ?_) | refine ⟨fun hb => ?_, fun hb => ?_⟩ | fail)
  all_goals
    refine h _ ⟨_, _, rfl, rfl, fitB ?_⟩
    clear h
    rw [Bool.eq_iff_iff]
    simp only [oddR, Bool.and_eq_true, Bool.or_eq_true, Bool.not_eq_true', decide_eq_true_eq, decide_eq_false_iff_not, beq_eq_false_iff_ne, ne_eq, bne_iff_ne, bne_eq_false_iff_eq, Bool.false_eq_true, Bool.true_eq_false, Bool.not_true, Bool.not_false, true_iff, false_iff, iff_true, iff_false] at *
    omega
theorem schema_Spelt_pc (s : Str) : P_ Tryz.prog G n_schema_Spelt [.str s] (.bool (speltOk s)) := by
  have hsp : 0 < s.length → (decide (idxR oddR s (s.length + 1) 0 < 0) = s.all nb) := fun _ => by
    rw [Bool.eq_iff_iff, decide_eq_true_eq, idxR_odd s s.length 0 (by omega)]; simp
  refine pc_schema_Spelt (Runs.of fun Φ h => ?_)
  unfold c_schema_Spelt
  cases s with
  | nil =>
    simp -implicitDefEqProofs only [go_sem]
    exact h _ ⟨_, _, rfl, rfl, .refl _⟩
  | cons c r =>
    have e0 : aidx (.str (c :: r)) (.int .i64 0) = some (.int .u8 c.toNat) := rfl
    have hsp' := hsp (by simp)
    repeat' (first | (simp -implicitDefEqProofs only [go_sem, e0, alen]) | refine ag_ (fun hb => ?_) (fun hb => ?_) | refine ⟨fun hb => ?_, fun hb => ?_⟩ | refine ac_ (strings_IndexFunc_pc n_schema_Spelt_1 [] (by kernel_rfl) okC_nil oddR (fun r => schema_Spelt_1_pc r) (c :: r)) rfl rfl ?_ | fail)
    all_goals
      refine h _ ⟨_, _, rfl, rfl, fitB ?_⟩
      clear h
      have e1 : speltOk (c :: r) = (decide ((c :: r).length ≤ 32) && (!digit c && (c :: r).all nb)) := rfl
      simp only [List.length_cons] at hsp'
      try rw [hsp']
      clear hsp hsp' e0
      rw [e1]
      clear e1
      generalize (c :: r).all nb = A at *
      cases A <;> (rw [Bool.eq_iff_iff]; simp [digit] at *; try omega)
end Go.Proofs.YtjbcfpkibnhodaaGreatDoor.Ab
namespace Go.Proofs.YtjbcfpkibnhodaaGreatDoor.Ab
open Go
set_option linter.unusedSimpArgs false
set_option maxHeartbeats 4000000
variable {G : Nat → Option AV}
def firstE {α : Type} (f : Nat → α → Int) : List α → Nat → Int × Int
  | [], _ => (0, -1)
  | x :: r, i => if f i x = 0 then firstE f r (i + 1) else (f i x, i)
theorem firstE_step {α : Type} {f : Nat → α → Int} {l : List α} {i : Nat} {x : α} (hx : l[i]? = some x) : firstE f (l.drop i) i = if f i x = 0 then firstE f (l.drop (i + 1)) (i + 1) else (f i x, i) := by
  obtain ⟨hlt, rfl⟩ := List.getElem?_eq_some_iff.1 hx
  rw [List.drop_eq_getElem_cons hlt, firstE]
theorem firstE_end {α : Type} {f : Nat → α → Int} {l : List α} {i : Nat} (h : l.length ≤ i) : firstE f (l.drop i) i = (0, -1) := by
  rw [List.drop_of_length_le h, firstE]
theorem okC_str (x : Str) : OkC [.eptr (.str x) 0] := ⟨fun _ => rfl, fun _ _ => rfl, fun _ => rfl, fun _ _ => rfl, fun _ => rfl, fun _ => rfl⟩
def wg_ (G : Nat → Option AV) : Prop := G 5 = some (.agg (wordsL.map AV.str))
theorem words_len : (wordsL.map AV.str).length = 22 := rfl
theorem words_all : (wordsL.map AV.str).all cell1 = true := rfl
theorem schema_Word_pc (hG : wg_ G) (s : Str) : P_ Tryz.prog G n_schema_Word [.str s] (.bool (speltOk s && wordsL.any fun x => s == x)) := by
  unfold wg_ at hG
  refine pc_schema_Word (Runs.of fun Φ h => ?_)
  unfold c_schema_Word
  repeat' (first | (simp -implicitDefEqProofs only [go_sem, hG, words_len, words_all]) | refine ag_ (fun hb => ?_) (fun hb => ?_) | refine ⟨fun hb => ?_, fun hb => ?_⟩ | refine ac_ (schema_Spelt_pc s) rfl rfl ?_ | refine ac_ (slices_Contains_string_string_pc wordsL s (by decide)) rfl rfl ?_ | fail)
  all_goals (refine h _ ⟨_, _, rfl, rfl, fe_ ?_⟩; clear h; first | rfl | simp_all)
theorem schema_Name_pc (hG : wg_ G) (s : Str) : P_ Tryz.prog G n_schema_Name [.str s] (.bool (nameOk s)) := by
  refine pc_schema_Name (Runs.of fun Φ h => ?_)
  unfold c_schema_Name
  repeat' (first | (simp -implicitDefEqProofs only [go_sem]) | refine ag_ (fun hb => ?_) (fun hb => ?_) | refine ⟨fun hb => ?_, fun hb => ?_⟩ | refine ac_ (schema_Spelt_pc s) rfl rfl ?_ | refine ac_ (schema_Word_pc hG s) rfl rfl ?_ | fail)
  all_goals (refine h _ ⟨_, _, rfl, rfl, fe_ ?_⟩; clear h; first | rfl | (simp_all [nameOk]; done) | (simp_all [nameOk]; exact fun hn => absurd rfl (hn _ ‹s ∈ wordsL›)))
theorem ref07_Words_pc : P_ Tryz.prog G n_proctorref07_Words [] (.seq 1 (wordsL.map AV.str)) := by
  refine pc_proctorref07_Words (Runs.of fun Φ h => ?_)
  unfold c_proctorref07_Words
  simp -implicitDefEqProofs only [go_sem]
  exact h _ ⟨_, _, rfl, rfl, .refl _⟩
theorem ref07_Find_pc (l : List DeclT) (hl : l.length < 9223372036854775807) (x : Str) : P_ Tryz.prog G n_proctorref07_Find [d_ l, .str x] (iv (idxF (fun d => d.name == x) l)) := by
  refine pc_proctorref07_Find (Runs.of fun Φ h => ?_)
  unfold c_proctorref07_Find
  simp -implicitDefEqProofs only [go_sem, d_, List.length_map]
  refine al_ (fun n st => ∃ i : Nat, i + n = l.length ∧ st = ⟨20, [(0, d_ l), (1, .str x), (5, iv i)], []⟩ ∧ ∀ j d, j < i → l[j]? = some d → (d.name == x) = false) l.length ⟨0, by simp, rfl, fun j x hj => by omega⟩ ?_
  rintro I hI n st ⟨i, hi, rfl, hno⟩
  simp -implicitDefEqProofs only [go_sem, d_, List.length_map]
  refine ⟨fun hlt => ?_, fun hge => ?_⟩
  · have hlt' : i < l.length := by omega
    obtain ⟨d, hd, hm⟩ := as10 hlt'
    have hw := ws_ hlt' (by omega)
    simp -implicitDefEqProofs only [go_sem, am_ hd, declV, intsV]
    refine ⟨fun hb => ?_, fun hb => ?_⟩
    · exact h _ ⟨_, _, rfl, rfl, fitI (idxF_at hd (by simpa using hb) hno).symm⟩
    · simp -implicitDefEqProofs only [go_sem, hw]
      exact aa_ (n - 1) (by omega) (hI _ _ ⟨i + 1, by omega, rfl, fun j y hj hy => by
        by_cases e : j = i
        · subst e; rw [hd] at hy; cases hy; simpa using hb
        · exact hno j y (by omega) hy⟩)
  · have : i = l.length := by omega
    subst this
    exact h _ ⟨_, _, rfl, rfl, fitI (idxF_none hno).symm⟩
def okAt (i : Nat) (c : UInt8) : Bool := nb c && !(decide (i = 0) && digit c)
theorem okAt_all (c : UInt8) (r : Str) : allI okAt (c :: r) = (!digit c && (c :: r).all nb) := by
  rw [Bool.eq_iff_iff, at10]
  simp only [okAt, Bool.and_eq_true, Bool.not_eq_true', Bool.and_eq_false_imp, decide_eq_true_eq, List.all_eq_true]
  constructor
  · intro h
    refine ⟨(h 0 c rfl).2 rfl, fun x hx => ?_⟩
    obtain ⟨i, hi⟩ := List.getElem?_of_mem hx
    exact (h i x hi).1
  · rintro ⟨h0, h1⟩ i x hx
    refine ⟨h1 x (List.mem_of_getElem? hx), fun e => ?_⟩
    subst e
    cases hx
    exact h0
theorem aidx_at {s : Str} {i : Nat} {c : UInt8} (h : s[i]? = some c) : aidx (.str s) (.int .i64 (i : Int)) = some (.int .u8 c.toNat) := by
  have h0 : ¬ (i : Int) < 0 := by omega
  simp [aidx, h]
theorem ref07_Spelt_pc (s : Str) : P_ Tryz.prog G n_proctorref07_Spelt [.str s] (.bool (speltOk s)) := by
  refine pc_proctorref07_Spelt (Runs.of fun Φ h => ?_)
  unfold c_proctorref07_Spelt
  cases s with
  | nil =>
    repeat' (first | (simp -implicitDefEqProofs only [go_sem]) | refine ag_ (fun hb => ?_) (fun hb => ?_) | refine ⟨fun hb => ?_, fun hb => ?_⟩ | fail)
    all_goals first | exact h _ ⟨_, _, rfl, rfl, .refl _⟩ | (exfalso; simp at *; done)
  | cons c r =>
    have hs : speltOk (c :: r) = (decide ((c :: r).length ≤ 32) && allI okAt (c :: r)) := by rw [okAt_all]; rfl
    generalize he : c :: r = s at *
    have h1 : 1 ≤ s.length := by rw [← he]; simp
    clear he
    repeat' (first | (simp -implicitDefEqProofs only [go_sem]) | refine ag_ (fun hb => ?_) (fun hb => ?_) | refine ⟨fun hb => ?_, fun hb => ?_⟩ | fail)
    all_goals try (exfalso; simp at *; omega)
    · exact h _ ⟨_, _, rfl, rfl, fitB (by rw [hs]; simp; omega)⟩
    · refine al_ (fun n st => ∃ i : Nat, i + n = s.length ∧ st = ⟨55, [(0, .str s), (3, iv i)], []⟩ ∧ ∀ j c, j < i → s[j]? = some c → okAt j c = true) s.length ⟨0, by simp, rfl, fun j x hj => by omega⟩ ?_
      rintro I hI n st ⟨i, hi, rfl, hno⟩
      simp -implicitDefEqProofs only [go_sem]
      refine ⟨fun hlt => ?_, fun hge => ?_⟩
      · have hlt' : i < s.length := by omega
        obtain ⟨d, hd, hm⟩ := as10 hlt'
        have hw := ws_ hlt' (by omega)
        have fin : okAt i d = true → again I n ⟨55, [(0, .str s), (3, iv (i + 1 : Nat))], []⟩ := fun hv => aa_ (n - 1) (by omega) (hI _ _ ⟨i + 1, by omega, rfl, fun j y hj hy => by
          by_cases e : j = i
          · subst e; rw [hd] at hy; cases hy; exact hv
          · exact hno j y (by omega) hy⟩)
        have bad : okAt i d = false → speltOk s = false := fun hv => by rw [hs, af_ hd hv]; simp
        repeat' (first | (simp -implicitDefEqProofs only [go_sem, aidx_at hd, hw]) | refine ag_ (fun hb => ?_) (fun hb => ?_) | refine ⟨fun hb => ?_, fun hb => ?_⟩ | fail)
        all_goals first | refine fin ?_ | refine h _ ⟨_, _, rfl, rfl, fitB (bad ?_).symm⟩
        all_goals
          clear fin bad h hI hs hno hd hm hw
          rw [Bool.eq_iff_iff]
          simp only [okAt, nb, digit, Bool.and_eq_true, Bool.or_eq_true, Bool.not_eq_true', Bool.and_eq_false_imp, Bool.or_eq_false_iff, decide_eq_true_eq, decide_eq_false_iff_not, beq_iff_eq, beq_eq_false_iff_ne, Bool.not_true, Bool.not_false, ne_eq, Bool.not_eq_false', Bool.false_eq_true, Bool.true_eq_false, true_iff, false_iff, iff_true, iff_false] at *
          omega
      · have : i = s.length := by omega
        subst this
        exact h _ ⟨_, _, rfl, rfl, fitB (by rw [hs, at10.2 fun i x hx => hno i x (List.getElem?_eq_some_iff.1 hx).1 hx]; simp; omega)⟩
theorem ref07_Name_pc (x : Str) : P_ Tryz.prog G npN_ [.str x] (.bool (nameOk x)) := by
  refine pc_proctorref07_Name (Runs.of fun Φ h => ?_)
  unfold c_proctorref07_Name
  simp -implicitDefEqProofs only [go_sem]
  refine ac_ ref07_Words_pc rfl rfl ?_
  simp -implicitDefEqProofs only [go_sem, List.length_map]
  refine al_ (fun n st => ∃ i : Nat, i + n = wordsL.length ∧ st = ⟨24, [(0, .str x), (3, .seq 1 (wordsL.map AV.str)), (4, iv i)], []⟩ ∧ ∀ j y, j < i → wordsL[j]? = some y → (y == x) = false) wordsL.length ⟨0, by simp, rfl, fun j x hj => by omega⟩ ?_
  rintro I hI n st ⟨i, hi, rfl, hno⟩
  simp -implicitDefEqProofs only [go_sem, List.length_map]
  refine ⟨fun hlt => ?_, fun hge => ?_⟩
  · have hlt' : i < wordsL.length := by omega
    obtain ⟨d, hd, hm⟩ := as10 hlt'
    have hw := ws_ hlt' (by decide)
    simp -implicitDefEqProofs only [go_sem, am_ hd]
    refine ⟨fun hb => ?_, fun hb => ?_⟩
    · refine h _ ⟨_, _, rfl, rfl, fitB ?_⟩
      have : (wordsL.any fun y => x == y) = true := List.any_eq_true.2 ⟨d, hm, by simp at hb; simp [hb]⟩
      simp [nameOk, this]
    · simp -implicitDefEqProofs only [go_sem, hw]
      exact aa_ (n - 1) (by omega) (hI _ _ ⟨i + 1, by omega, rfl, fun j y hj hy => by
        by_cases e : j = i
        · subst e; rw [hd] at hy; cases hy; simpa using hb
        · exact hno j y (by omega) hy⟩)
  · have : i = wordsL.length := by omega
    subst this
    have hany : (wordsL.any fun y => x == y) = false := by
      rw [List.any_eq_false]
      intro y hy
      obtain ⟨j, hj⟩ := List.getElem?_of_mem hy
      have := hno j y (List.getElem?_eq_some_iff.1 hj).1 hj
      intro e
      rw [eq_of_beq e] at this
      simp at this
    repeat' (first | (simp -implicitDefEqProofs only [go_sem]) | refine ag_ (fun hb => ?_) (fun hb => ?_) | refine ⟨fun hb => ?_, fun hb => ?_⟩ | refine ac_ (ref07_Spelt_pc x) rfl rfl ?_ | fail)
    all_goals (refine h _ ⟨_, _, rfl, rfl, fe_ ?_⟩; clear h; first | rfl | simp_all [nameOk, hany])
def declErr (l : List DeclT) (i : Nat) (d : DeclT) : Int :=
  if nameOk d.name = false then 11 else if idxF (fun e => e.name == d.name) l < i then 10 else if 8 < (d.types.length : Int) then 14 else if (d.types.any fun k => k_ k == []) = true then 8 else 0
def d10 (l : List DeclT) : Int × Int := if 32 < (l.length : Int) then (14, 32) else firstE (declErr l) l 0
theorem schema_Find_1_pc (d : DeclT) (x : Str) : P_ Tryz.prog G n_schema_Find_1 [declV d, .eptr (.str x) 0] (.bool (d.name == x)) := by
  refine pc_schema_Find_1 (Runs.of fun Φ h => ?_)
  unfold c_schema_Find_1
  repeat' (first | (simp -implicitDefEqProofs only [go_sem, declV, intsV]) | refine ag_ (fun hb => ?_) (fun hb => ?_) | refine ⟨fun hb => ?_, fun hb => ?_⟩ | fail)
  all_goals (refine h _ ⟨_, _, rfl, rfl, fe_ ?_⟩; clear h; first | rfl | simp_all)
theorem schema_Find_pc (l : List DeclT) (hl : l.length < 9223372036854775807) (x : Str) : P_ Tryz.prog G n_schema_Find [d_ l, .str x] (.tup [iv (max (idxF (fun d => d.name == x) l) 0), .bool (decide (0 ≤ idxF (fun d => d.name == x) l))]) := by
  refine pc_schema_Find (Runs.of fun Φ h => ?_)
  unfold c_schema_Find
  simp -implicitDefEqProofs only [go_sem, d_]
  refine ac_ (slices_IndexFunc_api_Decl_api_Decl_pc n_schema_Find_1 [.eptr (.str x) 0] (by kernel_rfl) (okC_str x) (fun d => d.name == x) l (fun d _ => schema_Find_1_pc d x) hl) rfl rfl ?_
  simp -implicitDefEqProofs only [go_sem]
  refine h _ ⟨_, _, rfl, rfl, fe_ ?_⟩
  congr 3
  rw [show (max (idxF (fun d => d.name == x) l) 0) = if 0 > idxF (fun d => d.name == x) l then 0 else idxF (fun d => d.name == x) l by split <;> omega]
theorem schema_one_1_pc (k : Int) : P_ Tryz.prog G n_schema_one_1 [iv k] (.bool (k_ k == [])) := by
  refine pc_schema_one_1 (Runs.of fun Φ h => ?_)
  unfold c_schema_one_1
  repeat' (first | (simp -implicitDefEqProofs only [go_sem]) | refine ag_ (fun hb => ?_) (fun hb => ?_) | refine ⟨fun hb => ?_, fun hb => ?_⟩ | refine ac_ (value_Name_pc k) rfl rfl ?_ | fail)
  all_goals (refine h _ ⟨_, _, rfl, rfl, fe_ ?_⟩; clear h; first | rfl | simp_all)
theorem schema_one_pc (hG : wg_ G) (l : List DeclT) (hl : l.length < 9223372036854775807) (i : Nat) (d : DeclT) (hd : l[i]? = some d) (ht : d.types.length < 9223372036854775807) : P_ Tryz.prog G n_schema_one [d_ l, iv i] (iv (declErr l i d)) := by
  refine pc_schema_one (Runs.of fun Φ h => ?_)
  unfold c_schema_one
  have hf0 : 0 ≤ idxF (fun e => e.name == d.name) l := by rw [← decide_eq_true_eq (p := 0 ≤ idxF (fun e => e.name == d.name) l), idxF_any, List.any_eq_true]; exact ⟨d, List.mem_of_getElem? hd, by simp⟩
  have hfm : max (idxF (fun e => e.name == d.name) l) 0 = idxF (fun e => e.name == d.name) l := by omega
  have hc := (slices_ContainsFunc_int_int_pc (G := G) n_schema_one_1 [] (by kernel_rfl) okC_nil (fun k => k_ k == []) d.types (fun k _ => schema_one_1_pc k) ht)
  repeat' (first | (simp -implicitDefEqProofs only [go_sem, am_ hd, declV, intsV, d_]) | refine ag_ (fun hb => ?_) (fun hb => ?_) | refine ⟨fun hb => ?_, fun hb => ?_⟩ | refine ac_ (schema_Find_pc l hl d.name) rfl rfl ?_ | refine ac_ (schema_Name_pc hG d.name) rfl rfl ?_ | refine ac_ (hc) rfl rfl ?_ | fail)
  all_goals
    refine h _ ⟨_, _, rfl, rfl, fitI ?_⟩
    try rw [hfm] at *
    clear h hc hfm hf0 hG
    try simp only [List.length_map] at *
    simp only [declErr]
    generalize (d.types.any fun k => k_ k == []) = B at *
    simp_all
    try ((repeat' split) <;> first | rfl | omega | (simp_all; done))
theorem schema_Check_pc (hG : wg_ G) (l : List DeclT) (hl : l.length < 9223372036854775807) (ht : ∀ d ∈ l, d.types.length < 9223372036854775807) : P_ Tryz.prog G n_schema_Check [d_ l] (.tup [iv (d10 l).2, iv (d10 l).1]) := by
  refine pc_schema_Check (Runs.of fun Φ h => ?_)
  unfold c_schema_Check
  repeat' (first | (simp -implicitDefEqProofs only [go_sem, d_, List.length_map]) | refine ag_ (fun hb => ?_) (fun hb => ?_) | refine ⟨fun hb => ?_, fun hb => ?_⟩ | fail)
  · exact h _ ⟨_, _, rfl, rfl, fe_ (by rw [d10, if_pos ‹_›])⟩
  · have he : d10 l = firstE (declErr l) l 0 := by rw [d10, if_neg hb]
    refine al_ (fun n st => ∃ i : Nat, i + n = l.length ∧ st = ⟨22, [(0, d_ l), (10, iv l.length), (11, iv i)], []⟩ ∧ d10 l = firstE (declErr l) (l.drop i) i) l.length ⟨0, by simp, rfl, he⟩ ?_
    rintro I hI n st ⟨i, hi, rfl, hno⟩
    simp -implicitDefEqProofs only [go_sem]
    refine ⟨fun hlt => ?_, fun hge => ?_⟩
    · have hlt' : i < l.length := by omega
      obtain ⟨d, hd, hm⟩ := as10 hlt'
      have hw := ws_ hlt' (by omega)
      rw [firstE_step hd] at hno
      repeat' (first | (simp -implicitDefEqProofs only [go_sem, hw]) | refine ag_ (fun hb => ?_) (fun hb => ?_) | refine ⟨fun hb => ?_, fun hb => ?_⟩ | refine ac_ (schema_one_pc hG l hl i d hd (ht d hm)) rfl rfl ?_ | fail)
      · rw [if_neg (by simpa using hb)] at hno
        exact h _ ⟨_, _, rfl, rfl, fe_ (by rw [hno])⟩
      · rw [if_pos (by simpa using hb)] at hno
        exact aa_ (n - 1) (by omega) (hI _ _ ⟨i + 1, by omega, rfl, hno⟩)
    · rw [firstE_end (by omega)] at hno
      exact h _ ⟨_, _, rfl, rfl, fe_ (by rw [hno])⟩
theorem kind_bad (k : Int) : (k_ k == []) = !(decide (1 ≤ k) && decide (k ≤ 3)) := by
  unfold k_
  split
  · subst k; rfl
  · split
    · subst k; rfl
    · split
      · subst k; rfl
      · rw [Bool.eq_iff_iff]; simp; omega
theorem ref07_Check_pc (l : List DeclT) (hl : l.length < 9223372036854775807) (ht : ∀ d ∈ l, d.types.length < 9223372036854775807) : P_ Tryz.prog G n_proctorref07_Check [d_ l] (.tup [iv (d10 l).1, iv (d10 l).2]) := by
  refine pc_proctorref07_Check (Runs.of fun Φ h => ?_)
  unfold c_proctorref07_Check
  repeat' (first | (simp -implicitDefEqProofs only [go_sem, d_, List.length_map]) | refine ag_ (fun hb => ?_) (fun hb => ?_) | refine ⟨fun hb => ?_, fun hb => ?_⟩ | fail)
  · exact h _ ⟨_, _, rfl, rfl, fe_ (by rw [d10, if_pos ‹_›])⟩
  · have he : d10 l = firstE (declErr l) l 0 := by rw [d10, if_neg hb]
    refine al_ (fun n st => ∃ i : Nat, i + n = l.length ∧ st = ⟨72, [(0, d_ l), (4, iv i)], []⟩ ∧ d10 l = firstE (declErr l) (l.drop i) i) l.length ⟨0, by simp, rfl, he⟩ ?_
    rintro I hI n st ⟨i, hi, rfl, hno⟩
    simp -implicitDefEqProofs only [go_sem, d_, List.length_map]
    refine ⟨fun hlt => ?_, fun hge => ?_⟩
    · have hlt' : i < l.length := by omega
      obtain ⟨d, hd, hm⟩ := as10 hlt'
      have hw := ws_ hlt' (by omega)
      rw [firstE_step hd] at hno
      repeat' (first | (simp -implicitDefEqProofs only [go_sem, hw, am_ hd, declV, intsV, List.length_map]) | refine ag_ (fun hb => ?_) (fun hb => ?_) | refine ⟨fun hb => ?_, fun hb => ?_⟩ | refine ac_ (ref07_Name_pc d.name) rfl rfl ?_ | refine ac_ (ref07_Find_pc l hl d.name) rfl rfl ?_ | fail)
      all_goals try (refine h _ ⟨_, _, rfl, rfl, fe_ ?_⟩; clear h hI; try rw [if_neg (by simp_all [declErr]; try ((repeat' split) <;> omega))] at hno; rw [hno]; simp_all [declErr]; try (repeat' split) <;> first | rfl | omega | (simp_all; done))
      have hT := ht d hm
      have hok : (declErr l i d = if (d.types.any fun k => k_ k == []) = true then 8 else 0) := by
        simp only [declErr]
        generalize (d.types.any fun k => k_ k == []) = B at *
        simp_all
        try ((repeat' split) <;> first | rfl | omega | (simp_all; done))
      refine al_ (fun m st => ∃ k : Nat, k + m = d.types.length ∧ st = ⟨72, [(0, d_ l), (4, iv i), (5, iv k)], []⟩ ∧ ∀ j t, j < k → d.types[j]? = some t → (k_ t == []) = false) d.types.length ⟨0, by simp, rfl, fun j x hj => by omega⟩ ?_
      rintro J hJ m st ⟨k, hk, rfl, hall⟩
      simp -implicitDefEqProofs only [go_sem, hw, am_ hd, declV, intsV, d_, List.length_map]
      refine ⟨fun hlt2 => ?_, fun hge2 => ?_⟩
      · obtain ⟨t, htt, htm⟩ := as10 (l := d.types) (i := k) (by omega)
        have hw2 := ws_ (i := k) (n := d.types.length) (by omega) (by omega)
        have bad : (k_ t == []) = true → d10 l = (8, (i : Int)) := fun hv => by
          have : (d.types.any fun k => k_ k == []) = true := List.any_eq_true.2 ⟨t, htm, hv⟩
          rw [this] at hok
          rw [hno, hok]; rfl
        have fin : (k_ t == []) = false → again J m ⟨72, [(0, d_ l), (4, iv i), (5, iv (k + 1 : Nat))], []⟩ := fun hv => aa_ (m - 1) (by omega) (hJ _ _ ⟨k + 1, by omega, rfl, fun j y hj hy => by
          by_cases e : j = k
          · subst e; rw [htt] at hy; cases hy; exact hv
          · exact hall j y (by omega) hy⟩)
        repeat' (first | (simp -implicitDefEqProofs only [go_sem, hw2, am_ hd, am_ htt, declV, intsV, d_, List.length_map]) | refine ag_ (fun hb => ?_) (fun hb => ?_) | refine ⟨fun hb => ?_, fun hb => ?_⟩ | fail)
        all_goals first | refine fin ?_ | (refine h _ ⟨_, _, rfl, rfl, fe_ ?_⟩; rw [bad])
        all_goals
          clear h hI hJ bad fin
          rw [kind_bad, Bool.eq_iff_iff]
          simp at *
          omega
      · rw [show (d.types.any fun k => k_ k == []) = false by
          rw [List.any_eq_false]
          intro y hy
          obtain ⟨j, hj⟩ := List.getElem?_of_mem hy
          rw [hall j y (by have := (List.getElem?_eq_some_iff.1 hj).1; omega) hj]
          simp] at hok
        rw [hok] at hno
        exact aa_ (n - 1) (by omega) (hI _ _ ⟨i + 1, by omega, rfl, by rw [hno]; rfl⟩)
    · rw [firstE_end (by omega)] at hno
      exact h _ ⟨_, _, rfl, rfl, fe_ (by rw [hno])⟩
end Go.Proofs.YtjbcfpkibnhodaaGreatDoor.Ab
