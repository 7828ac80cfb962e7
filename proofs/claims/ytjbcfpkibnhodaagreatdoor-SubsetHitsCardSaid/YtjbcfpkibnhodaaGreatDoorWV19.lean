/-
  binding.Same; proctorref05.Under, Fits. The order of bindings: total, of values that may be. The order of configurations: total, of values that may be; their sets, two ways. The law EvalFree. step: what a hit makes of a configuration may be. Where a guard begins, and guards without variables. The law SubsetSteps. How the arguments of the laws on sets of states are read. No claim is proved here.
-/
import Derived.Test.YtjbcfpkibnhodaaGreatDoorWRf5
namespace Go.Proofs.YtjbcfpkibnhodaaGreatDoor.Ab
open Go Go.RowKit
set_option linter.unusedSimpArgs false
set_option maxHeartbeats 4000000
set_option maxRecDepth 100000
variable {G : Nat → Option AV}
theorem ref05_Under_pc (a b : List SlotT) (ha : a.length < 9223372036854775807) (hb : b.length < 9223372036854775807) : P_ Tryz.prog G n_proctorref05_Under [s11 a, s11 b] (.bool (underR a b)) := by
  refine pc_proctorref05_Under (Runs.of fun Φ h => ?_)
  unfold c_proctorref05_Under
  have fin : ∀ β heap, β = underR a b → Φ ⟨35, [(4, .bool β)], heap⟩ := fun β heap e => h _ ⟨_, _, rfl, rfl, fitB e⟩
  clear h
  simp -implicitDefEqProofs only [go_sem, s11, List.length_map]
  refine al_ (fun n st => ∃ i : Nat, i + n = a.length ∧ st = ⟨35, [(0, .seq 5 (a.map slotV)), (1, .seq 5 (b.map slotV)), (5, iv i)], []⟩ ∧ ∀ j x, j < i → a[j]? = some x → underOne b x = true) a.length ⟨0, by simp, rfl, fun j x hj => by omega⟩ ?_
  rintro I hI n st ⟨i, hi, rfl, hno⟩
  simp -implicitDefEqProofs only [go_sem, List.length_map]
  refine ⟨fun hlt => ?_, fun hge => ?_⟩
  · have hlt' : i < a.length := by omega
    obtain ⟨x, hx, hxm⟩ := as10 hlt'
    have hw := ws_ hlt' (by omega)
    have hc := ref05_Get_pc (G := G) b hb x.var
    have hnext : underOne b x = true → again I n ⟨35, [(0, .seq 5 (a.map slotV)), (1, .seq 5 (b.map slotV)), (5, iv (i + 1 : Nat))], []⟩ := fun hv => aa_ (n - 1) (by omega) (hI _ _ ⟨i + 1, by omega, rfl, fun j y hj hy => by
      by_cases e : j = i
      · subst e; rw [hx] at hy; cases hy; exact hv
      · exact hno j y (by omega) hy⟩)
    have hbad : underOne b x = false → false = underR a b := fun hv => by
      symm
      unfold underR
      rw [List.all_eq_false]
      exact ⟨x, hxm, by rw [hv]; simp⟩
    unfold underOne at hnext hbad
    generalize underR a b = U at *
    generalize getR b x.var = r at *
    clear hno hI hxm
    obtain ⟨v1, ⟨k1, n1, s1, t1⟩⟩ := x
    obtain ⟨⟨k2, n2, s2, t2⟩, o2⟩ := r
    simp only [s11, vbt, valV] at hc hnext hbad
    cases o2
    · have hb' := fin false
      rw [Bool.false_and] at hbad
      repeat' (first | (simp -implicitDefEqProofs only [go_sem, am_ hx, slotV, valV, hw]) | refine ag_ (fun hb => ?_) (fun hb => ?_) | refine ⟨fun hb => ?_, fun hb => ?_⟩ | refine ac_ (hc) rfl rfl ?_ | fail)
      exact fin _ _ (hbad rfl)
    · have hxy : ((⟨k2, n2, s2, t2⟩ : Val) == ⟨k1, n1, s1, t1⟩) = (k2 == k1 && (n2 == n1 && (s2 == s1 && t2 == t1))) := val_beq _ _ _ _ _ _ _ _
      cases hE : ((⟨k2, n2, s2, t2⟩ : Val) == ⟨k1, n1, s1, t1⟩) with
      | true =>
        rw [hE] at hxy
        have := hnext (by simpa using hE)
        repeat' (first | (simp -implicitDefEqProofs only [go_sem, am_ hx, slotV, valV, hw, aeqA, aeqs, leafEq, andO, Bool.and_true, ← hxy, Bool.not_true]) | refine ag_ (fun hb => ?_) (fun hb => ?_) | refine ⟨fun hb => ?_, fun hb => ?_⟩ | refine ac_ (hc) rfl rfl ?_ | fail)
        exact this
      | false =>
        rw [hE] at hxy
        have := hbad (by simpa using hE)
        repeat' (first | (simp -implicitDefEqProofs only [go_sem, am_ hx, slotV, valV, hw, aeqA, aeqs, leafEq, andO, Bool.and_true, ← hxy, Bool.not_false]) | refine ag_ (fun hb => ?_) (fun hb => ?_) | refine ⟨fun hb => ?_, fun hb => ?_⟩ | refine ac_ (hc) rfl rfl ?_ | fail)
        exact fin _ _ this
  · repeat' (first | (simp -implicitDefEqProofs only [go_sem]) | refine ag_ (fun hb => ?_) (fun hb => ?_) | refine ⟨fun hb => ?_, fun hb => ?_⟩ | fail)
    refine fin _ _ ?_
    symm
    unfold underR
    rw [List.all_eq_true]
    intro x hx
    obtain ⟨j, hj⟩ := List.getElem?_of_mem hx
    exact hno j x (by have := (List.getElem?_eq_some_iff.1 hj).1; omega) hj
theorem ref05_Fits_pc (a b : List SlotT) (ha : a.length < 9223372036854775807) (hb : b.length < 9223372036854775807) : P_ Tryz.prog G n_proctorref05_Fits [s11 a, s11 b] (.bool (fitsB a b)) := by
  refine pc_proctorref05_Fits (Runs.of fun Φ h => ?_)
  unfold c_proctorref05_Fits
  have fin : ∀ β heap, β = fitsB a b → Φ ⟨34, [(4, .bool β)], heap⟩ := fun β heap e => h _ ⟨_, _, rfl, rfl, fitB e⟩
  clear h
  simp -implicitDefEqProofs only [go_sem, s11, List.length_map]
  refine al_ (fun n st => ∃ i : Nat, i + n = a.length ∧ st = ⟨34, [(0, .seq 5 (a.map slotV)), (1, .seq 5 (b.map slotV)), (5, iv i)], []⟩ ∧ ∀ j x, j < i → a[j]? = some x → fitsOne b x = true) a.length ⟨0, by simp, rfl, fun j x hj => by omega⟩ ?_
  rintro I hI n st ⟨i, hi, rfl, hno⟩
  simp -implicitDefEqProofs only [go_sem, List.length_map]
  refine ⟨fun hlt => ?_, fun hge => ?_⟩
  · have hlt' : i < a.length := by omega
    obtain ⟨x, hx, hxm⟩ := as10 hlt'
    have hw := ws_ hlt' (by omega)
    have hc := ref05_Get_pc (G := G) b hb x.var
    have hnext : fitsOne b x = true → again I n ⟨34, [(0, .seq 5 (a.map slotV)), (1, .seq 5 (b.map slotV)), (5, iv (i + 1 : Nat))], []⟩ := fun hv => aa_ (n - 1) (by omega) (hI _ _ ⟨i + 1, by omega, rfl, fun j y hj hy => by
      by_cases e : j = i
      · subst e; rw [hx] at hy; cases hy; exact hv
      · exact hno j y (by omega) hy⟩)
    have hbad : fitsOne b x = false → false = fitsB a b := fun hv => by
      symm
      unfold fitsB
      rw [List.all_eq_false]
      exact ⟨x, hxm, by rw [hv]; simp⟩
    unfold fitsOne at hnext hbad
    generalize fitsB a b = U at *
    generalize getR b x.var = r at *
    clear hno hI hxm
    obtain ⟨v1, ⟨k1, n1, s1, t1⟩⟩ := x
    obtain ⟨⟨k2, n2, s2, t2⟩, o2⟩ := r
    simp only [s11, vbt, valV] at hc hnext hbad
    cases o2
    · have := hnext (by simp)
      repeat' (first | (simp -implicitDefEqProofs only [go_sem, am_ hx, slotV, valV, hw]) | refine ag_ (fun hb => ?_) (fun hb => ?_) | refine ⟨fun hb => ?_, fun hb => ?_⟩ | refine ac_ (hc) rfl rfl ?_ | fail)
      exact this
    · have hxy : ((⟨k2, n2, s2, t2⟩ : Val) == ⟨k1, n1, s1, t1⟩) = (k2 == k1 && (n2 == n1 && (s2 == s1 && t2 == t1))) := val_beq _ _ _ _ _ _ _ _
      cases hE : ((⟨k2, n2, s2, t2⟩ : Val) == ⟨k1, n1, s1, t1⟩) with
      | true =>
        rw [hE] at hxy
        have := hnext (by simpa using hE)
        repeat' (first | (simp -implicitDefEqProofs only [go_sem, am_ hx, slotV, valV, hw, aeqA, aeqs, leafEq, andO, Bool.and_true, ← hxy, Bool.not_true]) | refine ag_ (fun hb => ?_) (fun hb => ?_) | refine ⟨fun hb => ?_, fun hb => ?_⟩ | refine ac_ (hc) rfl rfl ?_ | fail)
        exact this
      | false =>
        rw [hE] at hxy
        have := hbad (by simpa using hE)
        repeat' (first | (simp -implicitDefEqProofs only [go_sem, am_ hx, slotV, valV, hw, aeqA, aeqs, leafEq, andO, Bool.and_true, ← hxy, Bool.not_false]) | refine ag_ (fun hb => ?_) (fun hb => ?_) | refine ⟨fun hb => ?_, fun hb => ?_⟩ | refine ac_ (hc) rfl rfl ?_ | fail)
        exact fin _ _ this
  · repeat' (first | (simp -implicitDefEqProofs only [go_sem]) | refine ag_ (fun hb => ?_) (fun hb => ?_) | refine ⟨fun hb => ?_, fun hb => ?_⟩ | fail)
    refine fin _ _ ?_
    symm
    unfold fitsB
    rw [List.all_eq_true]
    intro x hx
    obtain ⟨j, hj⟩ := List.getElem?_of_mem hx
    exact hno j x (by have := (List.getElem?_eq_some_iff.1 hj).1; omega) hj
end Go.Proofs.YtjbcfpkibnhodaaGreatDoor.Ab
namespace Go.Proofs.YtjbcfpkibnhodaaGreatDoor.Ab
open Go
set_option linter.unusedSimpArgs false
theorem bl_irr : ∀ (s : Str), Op.bytesLess s s = false
  | [] => by simp [Op.bytesLess]
  | c :: s => by rw [bl_same]; exact bl_irr s
theorem bl_cons (x y : UInt8) (s t : Str) : Op.bytesLess (x :: s) (y :: t) = true ↔ x < y ∨ (x = y ∧ Op.bytesLess s t = true) := by
  by_cases h : x = y
  · subst h
    rw [bl_same]
    have : ¬ x < x := by
      rw [UInt8.lt_iff_toNat_lt]; omega
    simp [this]
  · rw [bl_ne h]
    simp [h]
theorem bl_trans : ∀ {s t u : Str}, Op.bytesLess s t = true → Op.bytesLess t u = true → Op.bytesLess s u = true
  | [], [], _, h, _ => by simp [Op.bytesLess] at h
  | [], _ :: _, [], _, h => by simp [Op.bytesLess] at h
  | [], _ :: _, _ :: _, _, _ => by simp [Op.bytesLess]
  | _ :: _, [], _, h, _ => by simp [Op.bytesLess] at h
  | _ :: _, _ :: _, [], _, h => by simp [Op.bytesLess] at h
  | x :: s, y :: t, z :: u, h1, h2 => by
    rw [bl_cons] at h1 h2 ⊢
    simp only [UInt8.lt_iff_toNat_lt] at *
    rcases h1 with h1 | ⟨rfl, h1⟩ <;> rcases h2 with h2 | ⟨rfl, h2⟩
    · exact .inl (by omega)
    · exact .inl h1
    · exact .inl h2
    · exact .inr ⟨rfl, bl_trans h1 h2⟩
theorem bl_tot : ∀ {s t : Str}, s ≠ t → Op.bytesLess s t = true ∨ Op.bytesLess t s = true
  | [], [], h => absurd rfl h
  | [], _ :: _, _ => .inl (by simp [Op.bytesLess])
  | _ :: _, [], _ => .inr (by simp [Op.bytesLess])
  | x :: s, y :: t, h => by
    rw [bl_cons, bl_cons]
    simp only [UInt8.lt_iff_toNat_lt]
    by_cases e : x = y
    · subst e
      rcases bl_tot (s := s) (t := t) (fun e => h (by rw [e])) with h | h
      · exact .inl (.inr ⟨rfl, h⟩)
      · exact .inr (.inr ⟨rfl, h⟩)
    · have : x.toNat ≠ y.toNat := fun h => e (UInt8.toNat_inj.1 h)
      rcases Nat.lt_or_gt_of_ne this with h | h
      · exact .inl (.inl h)
      · exact .inr (.inl h)
theorem lessV_irr (a : Val) : lessV a a = false := by
  unfold lessV
  simp only [not_true_eq_false, if_false]
  split
  · simp
  · split
    · exact bl_irr _
    · cases a.bool <;> rfl
theorem lessV_trans {a b c : Val} (h1 : lessV a b = true) (h2 : lessV b c = true) : lessV a c = true := by
  unfold lessV at *
  by_cases e1 : a.kind = b.kind
  · by_cases e2 : b.kind = c.kind
    · rw [if_neg (by simpa using e1)] at h1
      rw [if_neg (by simpa using e2)] at h2
      rw [if_neg (by simp [e1, e2])]
      rw [e1] at h1 ⊢
      split at h1
      · rename_i hk
        rw [if_pos hk] at h2 ⊢
        simp only [decide_eq_true_eq] at *
        omega
      · rename_i hk
        rw [if_neg hk] at h2 ⊢
        split at h1
        · rename_i hk2
          rw [if_pos hk2] at h2 ⊢
          exact bl_trans h1 h2
        · rename_i hk2
          rw [if_neg hk2] at h2 ⊢
          simp only [Bool.and_eq_true, Bool.not_eq_true'] at *
          rw [h1.2] at h2
          cases h2.1
    · rw [if_pos e2] at h2
      rw [if_pos (by rw [e1]; exact e2), e1]
      exact h2
  · rw [if_pos e1] at h1
    simp only [decide_eq_true_eq] at h1
    by_cases e2 : b.kind = c.kind
    · rw [if_pos (by rw [← e2]; exact e1), ← e2]
      simpa using h1
    · rw [if_pos e2] at h2
      simp only [decide_eq_true_eq] at h2
      rw [if_pos (by omega)]
      simp only [decide_eq_true_eq]
      omega
theorem lessV_tot {a b : Val} (ha : a.ok = true) (hb : b.ok = true) (h : a ≠ b) : lessV a b = true ∨ lessV b a = true := by
  obtain ⟨k, n, s, t⟩ := a
  obtain ⟨k', n', s', t'⟩ := b
  unfold lessV
  simp only
  by_cases e : k = k'
  · subst e
    simp only [not_true_eq_false, if_false]
    unfold Val.ok at ha hb
    simp only at ha hb
    by_cases k1 : k = 1
    · rw [if_pos k1] at ha hb ⊢
      rw [if_pos k1]
      simp only [Bool.and_eq_true, beq_iff_eq, Bool.not_eq_true'] at ha hb
      have : n ≠ n' := fun e => h (by rw [e, ha.1, ha.2, hb.1, hb.2])
      simp only [decide_eq_true_eq]
      omega
    · rw [if_neg k1] at ha hb ⊢
      rw [if_neg k1]
      by_cases k2 : k = 2
      · rw [if_pos k2] at ha hb ⊢
        rw [if_pos k2]
        simp only [Bool.and_eq_true, beq_iff_eq, Bool.not_eq_true'] at ha hb
        exact bl_tot fun e => h (by rw [e, ha.1, ha.2.1, hb.1, hb.2.1])
      · rw [if_neg k2] at ha hb ⊢
        rw [if_neg k2]
        simp only [Bool.and_eq_true, beq_iff_eq, decide_eq_true_eq] at ha hb
        have : t ≠ t' := fun e => h (by rw [e, ha.2.1, ha.2.2, hb.2.1, hb.2.2])
        cases t <;> cases t' <;> simp_all
  · rw [if_pos e, if_pos (fun e' => e e'.symm)]
    simp only [decide_eq_true_eq]
    omega
end Go.Proofs.YtjbcfpkibnhodaaGreatDoor.Ab
namespace Go.Proofs.YtjbcfpkibnhodaaGreatDoor.Ab
open Go
set_option linter.unusedSimpArgs false
theorem lessVs_cons (x y : Val) (l k : List Val) : lessVs (x :: l) (y :: k) = true ↔ lessV x y = true ∨ (x = y ∧ lessVs l k = true) := by
  rw [lessVs]
  by_cases e : x = y
  · subst e
    rw [if_neg (by simp), lessV_irr]
    simp
  · rw [if_pos e]
    simp [e]
theorem lessVsO_irr : ∀ (l : List Val), lessVs l l = false
  | [] => rfl
  | x :: l => by
    cases h : lessVs (x :: l) (x :: l) with
    | false => rfl
    | true =>
      rw [lessVs_cons, lessV_irr, lessVsO_irr l] at h
      simp at h
theorem lessVs_trans : ∀ {a b c : List Val}, lessVs a b = true → lessVs b c = true → lessVs a c = true
  | [], [], _, h, _ => by simp [lessVs] at h
  | [], _ :: _, [], _, h => by simp [lessVs] at h
  | [], _ :: _, _ :: _, _, _ => by simp [lessVs]
  | _ :: _, [], _, h, _ => by simp [lessVs] at h
  | _ :: _, _ :: _, [], _, h => by simp [lessVs] at h
  | x :: a, y :: b, z :: c, h1, h2 => by
    rw [lessVs_cons] at h1 h2 ⊢
    rcases h1 with h1 | ⟨rfl, h1⟩ <;> rcases h2 with h2 | ⟨rfl, h2⟩
    · exact .inl (lessV_trans h1 h2)
    · exact .inl h1
    · exact .inl h2
    · exact .inr ⟨rfl, lessVs_trans h1 h2⟩
def okVs (l : List Val) : Prop := ∀ v ∈ l, v.ok = true
theorem lessVs_tot : ∀ {a b : List Val}, okVs a → okVs b → a ≠ b → lessVs a b = true ∨ lessVs b a = true
  | [], [], _, _, h => absurd rfl h
  | [], _ :: _, _, _, _ => .inl rfl
  | _ :: _, [], _, _, _ => .inr rfl
  | x :: a, y :: b, ha, hb, h => by
    rw [lessVs_cons, lessVs_cons]
    by_cases e : x = y
    · subst e
      rcases lessVs_tot (a := a) (b := b) (fun s hs => ha s (by simp [hs])) (fun s hs => hb s (by simp [hs])) (fun e => h (by rw [e])) with h | h
      · exact .inl (.inr ⟨rfl, h⟩)
      · exact .inr (.inr ⟨rfl, h⟩)
    · rcases lessV_tot (ha x (by simp)) (hb y (by simp)) e with h | h
      · exact .inl (.inl h)
      · exact .inr (.inl h)
def okCfg (c : CfgT) : Prop := okVs c.vals
theorem cfgTO : TO cfgLess okCfg := by
  refine ⟨fun a => ?_, fun {a b c} h1 h2 => ?_, fun {a b} ha hb h => ?_⟩
  · unfold cfgLess
    rw [if_neg (by simp)]
    exact lessVsO_irr _
  · unfold cfgLess at *
    by_cases e1 : a.state = b.state
    · rw [if_neg (by simpa using e1)] at h1
      by_cases e2 : b.state = c.state
      · rw [if_neg (by simpa using e2)] at h2
        rw [if_neg (by simp [e1, e2])]
        exact lessVs_trans h1 h2
      · rw [if_pos e2] at h2
        rw [if_pos (by rw [e1]; exact e2), e1]
        exact h2
    · rw [if_pos e1] at h1
      simp only [decide_eq_true_eq] at h1
      by_cases e2 : b.state = c.state
      · rw [if_pos (by rw [← e2]; exact e1), ← e2]
        simpa using h1
      · rw [if_pos e2] at h2
        simp only [decide_eq_true_eq] at h2
        rw [if_pos (by omega)]
        simp only [decide_eq_true_eq]
        omega
  · unfold cfgLess
    by_cases e : a.state = b.state
    · rw [if_neg (by simpa using e), if_neg (by simpa using e.symm)]
      refine lessVs_tot ha hb fun e2 => h ?_
      obtain ⟨x, l⟩ := a
      obtain ⟨y, k⟩ := b
      simp only at e e2
      rw [e, e2]
    · rw [if_pos e, if_pos (fun e' => e e'.symm)]
      simp only [decide_eq_true_eq]
      omega
theorem putAt_go (l : List CfgT) (c : CfgT) : ∀ n, putAt l c n = goO cfgLess c l n
  | 0 => rfl
  | n + 1 => by
    rw [putAt, goO, putAt_go l c n]
    cases l[n]? <;> rfl
theorem isAt_is (l : List CfgT) (c : CfgT) (n : Nat) : isAt l c n = isO cfgLess l c n := by
  cases n with
  | zero => rfl
  | succ n =>
    rw [isAt, isO]
    cases l[n]? <;> rfl
theorem putR_eq (l : List CfgT) (c : CfgT) : putR l c = putO cfgLess l c := by
  unfold putR putO
  rw [putAt_go, isAt_is]
theorem ofR_eq (l : List CfgT) : ofR l = l.foldl (putO cfgLess) [] := by
  have : putR = putO cfgLess := by
    funext l c
    exact putR_eq l c
  unfold ofR
  rw [this]
def setC (l : List CfgT) : List CfgT := orderO cfgLess l
theorem setC_of {l : List CfgT} (h : ∀ c ∈ l, okCfg c) : setC l = ofR l := by
  rw [ofR_eq]
  exact cfgTO.order_puts h
end Go.Proofs.YtjbcfpkibnhodaaGreatDoor.Ab
namespace Go.Proofs.YtjbcfpkibnhodaaGreatDoor.Ab
open Go Go.RowKit
set_option linter.unusedSimpArgs false
set_option maxHeartbeats 4000000
set_option maxRecDepth 100000
variable {G : Nat → Option AV}
def freeStep (out : List Val) (s : SlotT) : List Val := if 0 ≤ s.var ∧ s.var < out.length then out.set s.var.toNat s.value else out
def freeR (l : List SlotT) (out : List Val) : List Val := l.foldl freeStep out
theorem freeStep_len (out : List Val) (s : SlotT) : (freeStep out s).length = out.length := by
  unfold freeStep
  split <;> simp
theorem freeR_len : ∀ (l : List SlotT) (out : List Val), (freeR l out).length = out.length
  | [], _ => rfl
  | s :: l, out => (freeR_len l (freeStep out s)).trans (freeStep_len out s)
theorem freeR_end {l : List SlotT} {i : Nat} {out : List Val} (h : l.length ≤ i) : freeR (l.drop i) out = out := by rw [List.drop_of_length_le h]; rfl
theorem freeR_go {l : List SlotT} {i : Nat} {out : List Val} {s : SlotT} (h : l[i]? = some s) : freeR (l.drop (i + 1)) (freeStep out s) = freeR (l.drop i) out := by rw [drop_at h]; rfl
theorem freeStep_in {out : List Val} {s : SlotT} {f : Nat} (h : s.var = f) (hf : f < out.length) : freeStep out s = out.set f s.value := by
  unfold freeStep
  rw [h, if_pos (by omega), Int.toNat_natCast]
theorem view_rowV {H : List (Nat × Box)} {i n : Nat} {ty : Nat} {out : List Val} (hH : hget H i = some ⟨true, ty, 4, out.map valV⟩) (hn : out.length = n) : view H (.arr i 0 n) = some (valsV out) := by
  simp only [view, hH, List.drop_zero, List.length_map, hn]
  simp [valsV, ← hn]
  exact List.take_of_length_le (by simp)
end Go.Proofs.YtjbcfpkibnhodaaGreatDoor.Ab
namespace Go.Proofs.YtjbcfpkibnhodaaGreatDoor.Ab
open Go
set_option linter.unusedSimpArgs false
structure HitT where
  symbol : Int
  bind : List SlotT
  frees : List SlotT
deriving DecidableEq
def hitV (h : HitT) : AV := .agg [iv h.symbol, s11 h.bind, s11 h.frees]
def hitsV (l : List HitT) : AV := .seq 3 (l.map hitV)
theorem fits_set {out : List Val} {l : List FreeT} {j : Nat} {f : FreeT} {v : Val} (h : fitsR out l = true) (hf : l[j]? = some f) (hv : v.ok = true) (hk : v.kind = f.init.kind) : fitsR (out.set j v) l = true := by
  obtain ⟨h1, h2⟩ := fitsR_at h
  refine fitsR_true (by simpa using h1) fun i x g hx hg => ?_
  rw [List.getElem?_set] at hx
  unfold fitOne
  split at hx
  · rename_i e
    subst e
    split at hx
    · cases hx
      rw [hf] at hg; cases hg
      simp [hv, hk]
    · cases hx
  · have := h2 i x g hx hg
    simp [this.1, this.2]
theorem i64_set {out : List Val} {j : Nat} {v : Val} (h : ∀ x ∈ out, i64 x.int) (hv : i64 v.int) : ∀ x ∈ out.set j v, i64 x.int := fun x hx => by
  rcases List.mem_or_eq_of_mem_set hx with h1 | h1
  · exact h x h1
  · rw [h1]; exact hv
def FreeOk (q : QeaT) (s : SlotT) : Prop := ∃ (j : Nat) (f : FreeT), s.var = j ∧ q.frees[j]? = some f ∧ s.value.ok = true ∧ s.value.kind = f.init.kind
theorem freeR_ok {q : QeaT} : ∀ (l : List SlotT) (out : List Val), fitsR out q.frees = true → (∀ x ∈ out, i64 x.int) → (∀ s ∈ l, FreeOk q s ∧ i64 s.value.int) → fitsR (freeR l out) q.frees = true ∧ ∀ x ∈ freeR l out, i64 x.int
  | [], out, h1, h2, _ => ⟨h1, h2⟩
  | s :: l, out, h1, h2, h3 => by
    obtain ⟨⟨j, f, e, hf, hv, hk⟩, h64⟩ := h3 s (by simp)
    have hj : j < out.length := by rw [(fitsR_at h1).1]; exact (List.getElem?_eq_some_iff.1 hf).1
    have hst : freeStep out s = out.set j s.value := freeStep_in e hj
    show fitsR (freeR l (freeStep out s)) q.frees = true ∧ ∀ x ∈ freeR l (freeStep out s), i64 x.int
    rw [hst]
    exact freeR_ok l _ (fits_set h1 hf hv hk) (i64_set h2 h64) fun s hs => h3 s (by simp [hs])
structure HitT.Ok (q : QeaT) (h : HitT) : Prop where
  bl : h.bind.length ≤ 1000000
  fl : h.frees.length ≤ 1000000
  bok : ∀ s ∈ h.bind, VOk s.value
  fok : ∀ s ∈ h.frees, FreeOk q s ∧ i64 s.value.int
structure CfgT.Ok (q : QeaT) (c : CfgT) : Prop where
  right : cfgR q c = true
  n64 : ∀ v ∈ c.vals, i64 v.int
theorem CfgT.Ok.st {q : QeaT} {c : CfgT} (h : c.Ok q) : 0 ≤ c.state ∧ c.state < q.states.length ∧ fitsR c.vals q.frees = true := by
  have := h.right
  unfold cfgR at this
  simp only [Bool.and_eq_true, decide_eq_true_eq] at this
  exact ⟨this.1, this.2.1, this.2.2⟩
theorem CfgT.Ok.vok {q : QeaT} {c : CfgT} (h : c.Ok q) : okCfg c := fun v hv => by
  obtain ⟨j, hj⟩ := List.getElem?_of_mem hv
  obtain ⟨a1, a2⟩ := fitsR_at h.st.2.2
  obtain ⟨f, hf, _⟩ := as10 (l := q.frees) (i := j) (by have := (List.getElem?_eq_some_iff.1 hj).1; omega)
  exact (a2 j v f hj hf).1
theorem fits_vok {vals : List Val} {l : List FreeT} (h : fitsR vals l = true) : ∀ v ∈ vals, v.ok = true := fun v hv => by
  obtain ⟨j, hj⟩ := List.getElem?_of_mem hv
  obtain ⟨a1, a2⟩ := fitsR_at h
  obtain ⟨f, hf, _⟩ := as10 (l := l) (i := j) (by have := (List.getElem?_eq_some_iff.1 hj).1; omega)
  exact (a2 j v f hj hf).1
structure QeaT.Good (q : QeaT) : Prop where
  right : rightR q = true
  n64 : ∀ x ∈ q.nodes, i64 x.value.int
  fl : q.frees.length ≤ 1000
  sl : q.states.length ≤ 1000
theorem env_hit {q : QeaT} {c : CfgT} {h : HitT} (hq : q.Good) (hc : c.Ok q) (hh : h.Ok q) : fitsR (freeR h.frees c.vals) q.frees = true ∧ Env q h.bind (freeR h.frees c.vals) := by
  obtain ⟨h1, h2⟩ := freeR_ok h.frees c.vals hc.st.2.2 hc.n64 hh.fok
  have hl := (fitsR_at h1).1
  exact ⟨h1, ⟨hh.bl, hh.bok, hl, fun v hv => ⟨fits_vok h1 v hv, h2 v hv⟩, by have := hq.fl; omega⟩⟩
def SetK (q : QeaT) (s : SetT) : Prop := ∃ (e f : Nat) (x : ExT) (fr : FreeT), s.expr = e ∧ s.free = f ∧ (exprs q)[e]? = some x ∧ ¬ x.kind = 0 ∧ q.frees[f]? = some fr ∧ x.kind = fr.init.kind
structure TransK (q : QeaT) (t : TransT) : Prop where
  from0 : 0 ≤ t.from_
  fromL : t.from_ < q.states.length
  to0 : 0 ≤ t.to_
  toL : t.to_ < q.states.length
  sym0 : 0 ≤ t.symbol
  symL : t.symbol < q.symbols.length
  guard : 0 ≤ t.guard → KindAt q t.guard.toNat
  sets : ∀ s ∈ t.sets, SetK q s
theorem transK {q : QeaT} (h : rightR q = true) {t : TransT} (ht : t ∈ q.trans) : TransK q t := by
  have hg := (trans_ok h ht).1
  unfold rightR transAll at h
  simp only [Bool.and_eq_true] at h
  obtain ⟨a, j, hs⟩ := allS_all h.2.1.1 t ht
  have hs : (transR q t a).2 = true := hs
  have rest : ∀ a1, (restR q t a a1).2 = true → ∀ s ∈ t.sets, SetK q s := fun a1 hr s hsm => by
    unfold restR at hr
    dsimp only at hr
    split at hr
    · rename_i hall
      obtain ⟨a2, k, hss⟩ := allS_all hall s hsm
      unfold s13 at hss
      split at hss
      · cases hss
      · rename_i f hf
        obtain ⟨m, hm, hfm⟩ := at?_some hf
        split at hss
        · cases hss
        · split at hss
          · rename_i hw
            obtain ⟨e, x, he, hx, hk, hk0⟩ := whole_kindE hw
            exact ⟨e, m, x, f, he, hm, hx, hk0, hfm, hk⟩
          · cases hss
    · cases hr
  unfold transR at hs
  split at hs
  · cases hs
  · rename_i hin
    simp only [Bool.and_eq_false_iff, not_or, Bool.not_eq_false] at hin
    unfold inR at hin
    simp only [Bool.and_eq_true, decide_eq_true_eq] at hin
    obtain ⟨⟨a1, a2⟩, ⟨b1, b2⟩, c1, c2⟩ := hin
    refine ⟨a1, a2, b1, b2, c1, c2, hg, ?_⟩
    split at hs
    · exact rest _ hs
    · split at hs
      · exact rest _ hs
      · cases hs
def errIn (e : Int) : Prop := e = 3 ∨ e = 6 ∨ e = 7 ∨ e = 8 ∨ e = 9
theorem setsR_ok {q : QeaT} {b : List SlotT} {vals : List Val} (hq : q.Good) (hf : fitsR vals q.frees = true) (hE : Env q b vals) : ∀ (l : List SetT), (∀ s ∈ l, SetK q s) → ∀ out, fitsR out q.frees = true → (∀ v ∈ out, i64 v.int) →
    ((setsR q b vals l out).2 = 0 ∧ fitsR (setsR q b vals l out).1 q.frees = true ∧ ∀ v ∈ (setsR q b vals l out).1, i64 v.int) ∨ ((setsR q b vals l out).1 = [] ∧ errIn (setsR q b vals l out).2)
  | [], _, out, h1, h2 => .inl ⟨rfl, h1, h2⟩
  | s :: l, hl, out, h1, h2 => by
    obtain ⟨e, f, x, fr, he, hfr, hx, hk0, hfq, hk⟩ := hl s (by simp)
    have hok := ev_ok (safe_of q hq.n64) hE e ⟨x, hx, hk0⟩
    have hkd := ev_kind (b := b) hf e x hx hk0
    rw [setsR, he, hfr, Int.toNat_natCast, Int.toNat_natCast]
    rcases hok with ⟨h0, hv⟩ | ⟨_, h0⟩
    · rw [if_neg (by simpa using h0)]
      exact setsR_ok hq hf hE l (fun s hs => hl s (by simp [hs])) _ (fits_set h1 hfq hv.1 (by rw [hkd h0, hk])) (i64_set h2 hv.2)
    · rw [if_pos (by omega)]
      exact .inr ⟨rfl, h0⟩
def fireR (q : QeaT) (c : CfgT) (t : TransT) (h : HitT) : CfgT × Bool × Int :=
  if ¬ (guardR q h.bind (freeR h.frees c.vals) t).2 = 0 ∨ (guardR q h.bind (freeR h.frees c.vals) t).1 = false then (⟨0, []⟩, false, (guardR q h.bind (freeR h.frees c.vals) t).2)
  else if (setsR q h.bind (freeR h.frees c.vals) t.sets (freeR h.frees c.vals)).2 = 0 then (⟨t.to_, (setsR q h.bind (freeR h.frees c.vals) t.sets (freeR h.frees c.vals)).1⟩, true, 0)
  else (⟨0, []⟩, false, (setsR q h.bind (freeR h.frees c.vals) t.sets (freeR h.frees c.vals)).2)
theorem guardR_ok {q : QeaT} {b : List SlotT} {vals : List Val} {t : TransT} (hq : q.Good) (hE : Env q b vals) (ht : TransK q t) : (guardR q b vals t).2 = 0 ∨ errIn (guardR q b vals t).2 := by
  unfold guardR
  split
  · exact .inl rfl
  · rcases ev_ok (safe_of q hq.n64) hE t.guard.toNat (ht.guard (by omega)) with ⟨h0, _⟩ | ⟨_, h0⟩
    · exact .inl h0
    · exact .inr h0
theorem fireR_ok {q : QeaT} {c : CfgT} {t : TransT} {h : HitT} (hq : q.Good) (ht : t ∈ q.trans) (hc : c.Ok q) (hh : h.Ok q) :
    ((fireR q c t h).2.2 = 0 ∨ errIn (fireR q c t h).2.2) ∧ ((fireR q c t h).2.1 = true → (fireR q c t h).2.2 = 0 ∧ (fireR q c t h).1.Ok q) := by
  obtain ⟨hf, hE⟩ := env_hit hq hc hh
  have tk := transK hq.right ht
  have hg := guardR_ok hq hE tk
  have hs := setsR_ok hq hf hE t.sets tk.sets (freeR h.frees c.vals) hf (freeR_ok h.frees c.vals hc.st.2.2 hc.n64 hh.fok).2
  unfold fireR
  split
  · exact ⟨hg, fun h => by cases h⟩
  · rcases hs with ⟨h0, h1, h2⟩ | ⟨_, h0⟩
    · rw [if_pos h0]
      refine ⟨.inl rfl, fun _ => ⟨rfl, ⟨?_, h2⟩⟩⟩
      unfold cfgR
      simp only [h1, Bool.and_true, Bool.and_eq_true, decide_eq_true_eq]
      exact ⟨tk.to0, tk.toL⟩
    · rw [if_neg (by unfold errIn at h0; omega)]
      exact ⟨.inr h0, fun h => by cases h⟩
end Go.Proofs.YtjbcfpkibnhodaaGreatDoor.Ab
namespace Go.Proofs.YtjbcfpkibnhodaaGreatDoor.Ab
open Go
set_option linter.unusedSimpArgs false
def fromStep (a : Int) (t : TransT) : Int := match t.sets.getLast? with | some s => s.expr + 1 | none => if 0 ≤ t.guard then t.guard + 1 else a
def fromR (l : List TransT) (i : Nat) : Int := (l.take i).foldl fromStep 0
theorem allS_sets {q : QeaT} {sets : List SetT} : ∀ {l : List SetT} {i : Nat} {a : Int}, (allS (s13 q (exprs q) sets) l i a).1 = true → (allS (s13 q (exprs q) sets) l i a).2 = match l.getLast? with | some s => s.expr + 1 | none => a
  | [], _, _, _ => rfl
  | s :: l, i, a, h => by
    rw [allS] at h ⊢
    split at h
    · rename_i hs
      rw [if_pos hs]
      have e : (s13 q (exprs q) sets a i s).2 = s.expr + 1 := by
        unfold s13 at hs ⊢
        split at hs
        · cases hs
        · split at hs
          · cases hs
          · split at hs
            · rename_i hn hw
              rw [if_neg hn, if_pos hw]
            · cases hs
      have := allS_sets h
      rw [e] at this ⊢
      rw [this]
      cases l with
      | nil => rfl
      | cons s' l => first | (rw [List.getLast?_cons_cons]; done) | (rw [List.getLast?_cons_cons]; simp [List.getLast?_cons])
    · cases h
theorem step_from {q : QeaT} {t : TransT} {a : Int} (h : (transR q t a).2 = true) : (transR q t a).1 = fromStep a t ∧ (0 ≤ t.guard → ∃ (g : Nat) (e : ExT), t.guard = g ∧ (exprs q)[g]? = some e ∧ e.kind = 3 ∧ e.from_ = a) ∧ (t.guard = -1 ∨ 0 ≤ t.guard) := by
  have rest : ∀ a1, (restR q t a a1).2 = true → (restR q t a a1).1 = match t.sets.getLast? with | some s => s.expr + 1 | none => a1 := fun a1 hr => by
    unfold restR at hr ⊢
    dsimp only at hr ⊢
    split at hr
    · rename_i hall
      rw [if_pos hall]
      exact allS_sets hall
    · cases hr
  unfold transR at h ⊢
  split at h
  · cases h
  · rename_i hin
    rw [if_neg hin]
    split at h
    · rename_i hg
      rw [if_pos hg]
      refine ⟨?_, fun h0 => by omega, .inl hg⟩
      rw [rest _ h]
      unfold fromStep
      rw [if_neg (by omega)]
    · rename_i hg
      rw [if_neg hg]
      split at h
      · rename_i hw
        rw [if_pos hw]
        obtain ⟨g, e, h1, h2, h3, h4⟩ := whole_kindE hw
        refine ⟨?_, fun _ => ⟨g, e, h1, h2, h3, ?_⟩, .inr (by omega)⟩
        · rw [rest _ h]
          unfold fromStep
          rw [if_pos (by omega)]
        · unfold wholeS at hw
          rw [h1, at?_nat h2] at hw
          simp only [Bool.and_eq_true, beq_iff_eq] at hw
          exact hw.2.2.2.1
      · cases h
theorem from_go {q : QeaT} : ∀ {l : List TransT} {i : Nat} {a : Int}, (allS (stepR q) l i a).1 = true → ∀ (k : Nat) (t : TransT), l[k]? = some t → (transR q t ((l.take k).foldl fromStep a)).2 = true
  | [], _, _, _, k, t, h => by simp at h
  | u :: l, i, a, h, k, t, ht => by
    rw [allS] at h
    split at h
    · rename_i hs
      have hs' : (transR q u a).2 = true := hs
      cases k with
      | zero => cases ht; exact hs'
      | succ k =>
        have h' := h
        rw [show (stepR q a i u).2 = (transR q u a).1 from rfl, (step_from hs').1] at h'
        simpa using from_go h' k t (by simpa using ht)
    · cases h
theorem guard_from {q : QeaT} (hr : rightR q = true) {k : Nat} {t : TransT} (ht : q.trans[k]? = some t) : (t.guard = -1 ∨ 0 ≤ t.guard) ∧ (0 ≤ t.guard → ∃ (g : Nat) (e : ExT), t.guard = g ∧ (exprs q)[g]? = some e ∧ e.kind = 3 ∧ e.from_ = fromR q.trans k) := by
  unfold rightR transAll at hr
  simp only [Bool.and_eq_true] at hr
  obtain ⟨_, h2, h3⟩ := step_from (from_go hr.2.1.1 k t ht)
  exact ⟨h3, h2⟩
end Go.Proofs.YtjbcfpkibnhodaaGreatDoor.Ab
namespace Go.Proofs.YtjbcfpkibnhodaaGreatDoor.Ab
open Go Go.RowKit
set_option linter.unusedSimpArgs false
set_option maxHeartbeats 4000000
set_option maxRecDepth 100000
variable {G : Nat → Option AV}
def plain28 (q : QeaT) : Bool := q.trans.all (fun t => t.guard == -1) && decide (q.frees.length = 0)
theorem plain28_eq {q : QeaT} (h : rightR q = true) : plain28 q = plainS q := by
  have hg : ∀ t ∈ q.trans, t.guard = -1 ∨ 0 ≤ t.guard := fun t ht => by
    obtain ⟨k, hk⟩ := List.getElem?_of_mem ht
    exact (guard_from h hk).1
  unfold plain28 plainS
  rw [Bool.eq_iff_iff]
  simp only [Bool.and_eq_true, List.all_eq_true, beq_iff_eq, decide_eq_true_eq, Bool.not_eq_true', List.any_eq_false]
  constructor
  · rintro ⟨h1, h2⟩
    exact ⟨by omega, fun t ht => by have := h1 t ht; omega⟩
  · rintro ⟨h1, h2⟩
    exact ⟨fun t ht => by have := h2 t ht; have := hg t ht; omega, by omega⟩
theorem mask_of {q : QeaT} (hf : fewQ q = true) (h : rightR q = true) : MaskQ q := by
  have hst := few_states hf
  have hstart : 0 ≤ q.start ∧ q.start < q.states.length := by
    unfold rightR topR at h
    simp only [Bool.and_eq_true, decide_eq_true_eq] at h
    exact ⟨h.1.2.2.1, h.1.2.2.2.1⟩
  unfold fewQ fewTop at hf
  simp only [Bool.and_eq_true, decide_eq_true_eq] at hf
  exact ⟨hst, by omega, by omega, fun t ht => ⟨(transK h ht).sym0, (transK h ht).symL⟩, fun t ht => ⟨(transK h ht).to0, (transK h ht).toL⟩, hstart⟩
theorem cfgN_fit (l : List Nat) : Fit2 (.seq 2 (l.map cfgN)) (cfgsV (l.map cfgC)) := by
  unfold cfgsV
  rw [List.map_map]
  refine .seq _ _ _ (by simp) (fun f hf => by obtain ⟨i, _, rfl⟩ := List.mem_map.1 hf; rfl) fun j a b ha hb => ?_
  rw [List.getElem?_map] at ha hb
  cases hj : l[j]? with
  | none => rw [hj] at ha; cases ha
  | some i =>
    rw [hj] at ha hb
    cases ha; cases hb
    refine .agg _ _ rfl fun j c d hc hd => ?_
    match j, hc, hd with
    | 0, hc, hd => cases hc; cases hd; exact .refl _
    | 1, hc, hd => cases hc; cases hd; exact .nil _
    | j + 2, hc, hd => cases hc
theorem zipB_refl {α : Type} {p : α → α → Bool} (h : ∀ x, p x x = true) : ∀ l : List α, zipB p l l = true
  | [] => rfl
  | x :: l => by rw [zipB, h x, zipB_refl h l]; rfl
end Go.Proofs.YtjbcfpkibnhodaaGreatDoor.Ab
namespace Go.Proofs.YtjbcfpkibnhodaaGreatDoor.Ab
open Go Go.ChangeShapes Go.WideShapes Go.RowKit
set_option linter.unusedSimpArgs false
set_option maxRecDepth 100000
theorem u32_wf {n : Int} (h : (Lit.int .u32 n).wf = true) : ∃ k : Nat, n = k ∧ k < 4294967296 := by
  simp [Lit.wf, IntKind.min, IntKind.max, IntKind.signed, IntKind.bits] at h
  exact ⟨n.toNat, by omega, by omega⟩
theorem rU32 : RdT Tryz.prog 40 1 fun cs => ∃ k : {k : Nat // k < 4294967296}, cs = [.int .u32 (k.1 : Int)] :=
  (rd_int (t := 40) (k := .u32) (by kernel_rfl) (by kernel_rfl)).mono (by
    rintro _ ⟨n, rfl, h⟩
    obtain ⟨k, rfl, hk⟩ := u32_wf h
    exact ⟨⟨k, hk⟩, rfl⟩)
end Go.Proofs.YtjbcfpkibnhodaaGreatDoor.Ab
