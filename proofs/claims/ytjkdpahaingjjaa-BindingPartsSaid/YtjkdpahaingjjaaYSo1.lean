/-
  The order of bindings: total, of values that may be. No claim is proved here.
-/
import Derived.Test.YtjkdpahaingjjaaYBq2
import Derived.Test.YtjkdpahaingjjaaYD8
namespace Go.Proofs.Ytjkdpahaingjjaa.Ab
open Go
set_option linter.unusedSimpArgs false
theorem bl_irr : ∀ (s : Str), Op.bytesLess s s = false
  | [] => by simp [Op.bytesLess]
  | c :: s => by rw [bl_same]; exact bl_irr s
theorem bl_cons (x y : UInt8) (s t : Str) : Op.bytesLess (x :: s) (y :: t) = true ↔ x < y ∨ (x = y ∧ Op.bytesLess s t = true) := by
  by_cases h : x = y
  · subst h
    rw [bl_same]
    have : ¬ x < x := by
      rw [UInt8.lt_iff_toNat_lt]; omega
    simp [this]
  · rw [bl_ne h]
    simp [h]
theorem bl_trans : ∀ {s t u : Str}, Op.bytesLess s t = true → Op.bytesLess t u = true → Op.bytesLess s u = true
  | [], [], _, h, _ => by simp [Op.bytesLess] at h
  | [], _ :: _, [], _, h => by simp [Op.bytesLess] at h
  | [], _ :: _, _ :: _, _, _ => by simp [Op.bytesLess]
  | _ :: _, [], _, h, _ => by simp [Op.bytesLess] at h
  | _ :: _, _ :: _, [], _, h => by simp [Op.bytesLess] at h
  | x :: s, y :: t, z :: u, h1, h2 => by
    rw [bl_cons] at h1 h2 ⊢
    simp only [UInt8.lt_iff_toNat_lt] at *
    rcases h1 with h1 | ⟨rfl, h1⟩ <;> rcases h2 with h2 | ⟨rfl, h2⟩
    · exact .inl (by omega)
    · exact .inl h1
    · exact .inl h2
    · exact .inr ⟨rfl, bl_trans h1 h2⟩
theorem bl_tot : ∀ {s t : Str}, s ≠ t → Op.bytesLess s t = true ∨ Op.bytesLess t s = true
  | [], [], h => absurd rfl h
  | [], _ :: _, _ => .inl (by simp [Op.bytesLess])
  | _ :: _, [], _ => .inr (by simp [Op.bytesLess])
  | x :: s, y :: t, h => by
    rw [bl_cons, bl_cons]
    simp only [UInt8.lt_iff_toNat_lt]
    by_cases e : x = y
    · subst e
      rcases bl_tot (s := s) (t := t) (fun e => h (by rw [e])) with h | h
      · exact .inl (.inr ⟨rfl, h⟩)
      · exact .inr (.inr ⟨rfl, h⟩)
    · have : x.toNat ≠ y.toNat := fun h => e (UInt8.toNat_inj.1 h)
      rcases Nat.lt_or_gt_of_ne this with h | h
      · exact .inl (.inl h)
      · exact .inr (.inl h)
theorem lessV_irr (a : Val) : lessV a a = false := by
  unfold lessV
  simp only [not_true_eq_false, if_false]
  split
  · simp
  · split
    · exact bl_irr _
    · cases a.bool <;> rfl
theorem lessV_trans {a b c : Val} (h1 : lessV a b = true) (h2 : lessV b c = true) : lessV a c = true := by
  unfold lessV at *
  by_cases e1 : a.kind = b.kind
  · by_cases e2 : b.kind = c.kind
    · rw [if_neg (by simpa using e1)] at h1
      rw [if_neg (by simpa using e2)] at h2
      rw [if_neg (by simp [e1, e2])]
      rw [e1] at h1 ⊢
      split at h1
      · rename_i hk
        rw [if_pos hk] at h2 ⊢
        simp only [decide_eq_true_eq] at *
        omega
      · rename_i hk
        rw [if_neg hk] at h2 ⊢
        split at h1
        · rename_i hk2
          rw [if_pos hk2] at h2 ⊢
          exact bl_trans h1 h2
        · rename_i hk2
          rw [if_neg hk2] at h2 ⊢
          simp only [Bool.and_eq_true, Bool.not_eq_true'] at *
          rw [h1.2] at h2
          cases h2.1
    · rw [if_pos e2] at h2
      rw [if_pos (by rw [e1]; exact e2), e1]
      exact h2
  · rw [if_pos e1] at h1
    simp only [decide_eq_true_eq] at h1
    by_cases e2 : b.kind = c.kind
    · rw [if_pos (by rw [← e2]; exact e1), ← e2]
      simpa using h1
    · rw [if_pos e2] at h2
      simp only [decide_eq_true_eq] at h2
      rw [if_pos (by omega)]
      simp only [decide_eq_true_eq]
      omega
theorem lessV_tot {a b : Val} (ha : a.ok = true) (hb : b.ok = true) (h : a ≠ b) : lessV a b = true ∨ lessV b a = true := by
  obtain ⟨k, n, s, t⟩ := a
  obtain ⟨k', n', s', t'⟩ := b
  unfold lessV
  simp only
  by_cases e : k = k'
  · subst e
    simp only [not_true_eq_false, if_false]
    unfold Val.ok at ha hb
    simp only at ha hb
    by_cases k1 : k = 1
    · rw [if_pos k1] at ha hb ⊢
      rw [if_pos k1]
      simp only [Bool.and_eq_true, beq_iff_eq, Bool.not_eq_true'] at ha hb
      have : n ≠ n' := fun e => h (by rw [e, ha.1, ha.2, hb.1, hb.2])
      simp only [decide_eq_true_eq]
      omega
    · rw [if_neg k1] at ha hb ⊢
      rw [if_neg k1]
      by_cases k2 : k = 2
      · rw [if_pos k2] at ha hb ⊢
        rw [if_pos k2]
        simp only [Bool.and_eq_true, beq_iff_eq, Bool.not_eq_true'] at ha hb
        exact bl_tot fun e => h (by rw [e, ha.1, ha.2.1, hb.1, hb.2.1])
      · rw [if_neg k2] at ha hb ⊢
        rw [if_neg k2]
        simp only [Bool.and_eq_true, beq_iff_eq, decide_eq_true_eq] at ha hb
        have : t ≠ t' := fun e => h (by rw [e, ha.2.1, ha.2.2, hb.2.1, hb.2.2])
        cases t <;> cases t' <;> simp_all
  · rw [if_pos e, if_pos (fun e' => e e'.symm)]
    simp only [decide_eq_true_eq]
    omega
def ltSl (x y : SlotT) : Bool := if ¬ x.var = y.var then decide (x.var < y.var) else lessV x.value y.value
theorem ltSl_irr (x : SlotT) : ltSl x x = false := by
  unfold ltSl
  simp only [not_true_eq_false, if_false]
  exact lessV_irr _
theorem ltSl_trans {x y z : SlotT} (h1 : ltSl x y = true) (h2 : ltSl y z = true) : ltSl x z = true := by
  unfold ltSl at *
  by_cases e1 : x.var = y.var
  · rw [if_neg (by simpa using e1)] at h1
    by_cases e2 : y.var = z.var
    · rw [if_neg (by simpa using e2)] at h2
      rw [if_neg (by simp [e1, e2])]
      exact lessV_trans h1 h2
    · rw [if_pos e2] at h2
      rw [if_pos (by rw [e1]; exact e2), e1]
      exact h2
  · rw [if_pos e1] at h1
    simp only [decide_eq_true_eq] at h1
    by_cases e2 : y.var = z.var
    · rw [if_pos (by rw [← e2]; exact e1), ← e2]
      simpa using h1
    · rw [if_pos e2] at h2
      simp only [decide_eq_true_eq] at h2
      rw [if_pos (by omega)]
      simp only [decide_eq_true_eq]
      omega
theorem ltSl_tot {x y : SlotT} (hx : x.value.ok = true) (hy : y.value.ok = true) (h : x ≠ y) : ltSl x y = true ∨ ltSl y x = true := by
  unfold ltSl
  by_cases e : x.var = y.var
  · rw [if_neg (by simpa using e), if_neg (by simpa using e.symm)]
    refine lessV_tot hx hy fun e2 => h ?_
    obtain ⟨a, b⟩ := x
    obtain ⟨c, d⟩ := y
    simp only at e e2
    rw [e, e2]
  · rw [if_pos e, if_pos (fun e' => e e'.symm)]
    simp only [decide_eq_true_eq]
    omega
theorem lessSl_cons (x y : SlotT) (l k : List SlotT) : lessSl (x :: l) (y :: k) = true ↔ ltSl x y = true ∨ (x = y ∧ lessSl l k = true) := by
  rw [lessSl]
  by_cases e : x = y
  · subst e
    rw [if_neg (by simp), if_neg (by simp), ltSl_irr]
    simp
  · unfold ltSl
    by_cases ev : x.var = y.var
    · have hv : ¬ x.value = y.value := fun e2 => e (by
        obtain ⟨a, b⟩ := x
        obtain ⟨c, d⟩ := y
        simp only at ev e2
        rw [ev, e2])
      rw [if_neg (by simpa using ev), if_pos hv]
      simp [e, ev]
    · rw [if_pos ev, if_pos ev]
      simp [e]
theorem lessSl_irr : ∀ (l : List SlotT), lessSl l l = false
  | [] => rfl
  | x :: l => by
    cases h : lessSl (x :: l) (x :: l) with
    | false => rfl
    | true =>
      rw [lessSl_cons, ltSl_irr, lessSl_irr l] at h
      simp at h
theorem lessSl_trans : ∀ {a b c : List SlotT}, lessSl a b = true → lessSl b c = true → lessSl a c = true
  | [], _, _, h, _ => by simp [lessSl] at h
  | _ :: _, [], _, h, _ => by simp [lessSl] at h
  | _ :: _, _ :: _, [], _, h => by simp [lessSl] at h
  | x :: a, y :: b, z :: c, h1, h2 => by
    rw [lessSl_cons] at h1 h2 ⊢
    rcases h1 with h1 | ⟨rfl, h1⟩ <;> rcases h2 with h2 | ⟨rfl, h2⟩
    · exact .inl (ltSl_trans h1 h2)
    · exact .inl h1
    · exact .inl h2
    · exact .inr ⟨rfl, lessSl_trans h1 h2⟩
def okL (l : List SlotT) : Prop := ∀ s ∈ l, s.value.ok = true
theorem lessSl_tot : ∀ {a b : List SlotT}, okL a → okL b → a.length = b.length → a ≠ b → lessSl a b = true ∨ lessSl b a = true
  | [], [], _, _, _, h => absurd rfl h
  | [], _ :: _, _, _, h, _ => by simp at h
  | _ :: _, [], _, _, h, _ => by simp at h
  | x :: a, y :: b, ha, hb, hl, h => by
    rw [lessSl_cons, lessSl_cons]
    by_cases e : x = y
    · subst e
      rcases lessSl_tot (a := a) (b := b) (fun s hs => ha s (by simp [hs])) (fun s hs => hb s (by simp [hs])) (by simpa using hl) (fun e => h (by rw [e])) with h | h
      · exact .inl (.inr ⟨rfl, h⟩)
      · exact .inr (.inr ⟨rfl, h⟩)
    · rcases ltSl_tot (ha x (by simp)) (hb y (by simp)) e with h | h
      · exact .inl (.inl h)
      · exact .inr (.inl h)
theorem lessB_irr (a : List SlotT) : lessB a a = false := by
  unfold lessB
  rw [if_neg (by simp)]
  exact lessSl_irr a
theorem lessB_trans {a b c : List SlotT} (h1 : lessB a b = true) (h2 : lessB b c = true) : lessB a c = true := by
  unfold lessB at *
  by_cases e1 : a.length = b.length
  · rw [if_neg (by simpa using e1)] at h1
    by_cases e2 : b.length = c.length
    · rw [if_neg (by simpa using e2)] at h2
      rw [if_neg (by simp [e1, e2])]
      exact lessSl_trans h1 h2
    · rw [if_pos e2] at h2
      rw [if_pos (by rw [e1]; exact e2), e1]
      exact h2
  · rw [if_pos e1] at h1
    simp only [decide_eq_true_eq] at h1
    by_cases e2 : b.length = c.length
    · rw [if_pos (by rw [← e2]; exact e1), ← e2]
      simpa using h1
    · rw [if_pos e2] at h2
      simp only [decide_eq_true_eq] at h2
      rw [if_pos (by omega)]
      simp only [decide_eq_true_eq]
      omega
theorem lessB_tot {a b : List SlotT} (ha : okL a) (hb : okL b) (h : a ≠ b) : lessB a b = true ∨ lessB b a = true := by
  unfold lessB
  by_cases e : a.length = b.length
  · rw [if_neg (by simpa using e), if_neg (by simpa using e.symm)]
    exact lessSl_tot ha hb e h
  · rw [if_pos e, if_pos (fun e' => e e'.symm)]
    simp only [decide_eq_true_eq]
    omega
theorem lessB_asy {a b : List SlotT} (h : lessB a b = true) : lessB b a = false := by
  cases h2 : lessB b a with
  | false => rfl
  | true =>
    have := lessB_trans h h2
    rw [lessB_irr] at this
    cases this
theorem lessB_ntrans {a b c : List SlotT} (ha : okL a) (hb : okL b) (_hc : okL c) (h1 : lessB a b = false) (h2 : lessB b c = false) : lessB a c = false := by
  cases h : lessB a c with
  | false => rfl
  | true =>
    exfalso
    by_cases e1 : a = b
    · subst e1; rw [h] at h2; cases h2
    · rcases lessB_tot ha hb e1 with h3 | h3
      · rw [h1] at h3; cases h3
      · have := lessB_trans h3 h
        rw [h2] at this; cases this
theorem sorted_uniq : ∀ {l k : List (List SlotT)}, l.Perm k → (∀ x ∈ l, okL x) → l.Pairwise (fun a b => lessB b a = false) → k.Pairwise (fun a b => lessB b a = false) → l = k
  | [], k, h, _, _, _ => (List.nil_perm.1 h).symm
  | a :: l, [], h, _, _, _ => by simp at h
  | a :: l, b :: k, h, ok, h1, h2 => by
    have hk : ∀ x ∈ b :: k, okL x := fun x hx => ok x (h.symm.subset hx)
    have e : a = b := by
      by_cases e : a = b
      · exact e
      · exfalso
        rw [List.pairwise_cons] at h1 h2
        have ha : a ∈ k := by
          rcases List.mem_cons.1 (h.subset (List.mem_cons_self ..)) with h | h
          · exact absurd h e
          · exact h
        have hb : b ∈ l := by
          rcases List.mem_cons.1 (h.symm.subset (List.mem_cons_self ..)) with h | h
          · exact absurd h.symm e
          · exact h
        rcases lessB_tot (ok a (by simp)) (hk b (by simp)) e with h3 | h3
        · rw [h2.1 a ha] at h3; cases h3
        · rw [h1.1 b hb] at h3; cases h3
    subst e
    rw [List.pairwise_cons] at h1 h2
    rw [sorted_uniq (List.Perm.cons_inv h) (fun x hx => ok x (by simp [hx])) h1.2 h2.2]
def insS (x : List SlotT) : List (List SlotT) → List (List SlotT)
  | [] => [x]
  | y :: l => if lessB y x then y :: insS x l else x :: y :: l
def sortB (l : List (List SlotT)) : List (List SlotT) := l.foldr insS []
theorem insS_perm (x : List SlotT) : ∀ l, (insS x l).Perm (x :: l)
  | [] => .refl _
  | y :: l => by
    rw [insS]
    split
    · exact ((insS_perm x l).cons y).trans (List.Perm.swap x y l)
    · exact .refl _
theorem insS_sorted {x : List SlotT} (hx : okL x) : ∀ {l : List (List SlotT)}, (∀ y ∈ l, okL y) → l.Pairwise (fun a b => lessB b a = false) → (insS x l).Pairwise fun a b => lessB b a = false
  | [], _, _ => by simp [insS]
  | y :: l, ok, h => by
    rw [List.pairwise_cons] at h
    rw [insS]
    split
    · rename_i hl
      rw [List.pairwise_cons]
      refine ⟨fun z hz => ?_, insS_sorted hx (fun z hz => ok z (by simp [hz])) h.2⟩
      rcases List.mem_cons.1 ((insS_perm x l).subset hz) with e | e
      · rw [e]; exact lessB_asy hl
      · exact h.1 z e
    · rename_i hl
      have hl : lessB y x = false := by simpa using hl
      rw [List.pairwise_cons, List.pairwise_cons]
      refine ⟨fun z hz => ?_, h⟩
      rcases List.mem_cons.1 hz with e | e
      · rw [e]; exact hl
      · exact lessB_ntrans (ok z (by simp [e])) (ok y (by simp)) hx (h.1 z e) hl
theorem sortB_perm : ∀ (l : List (List SlotT)), (sortB l).Perm l
  | [] => .refl _
  | x :: l => (insS_perm x (sortB l)).trans ((sortB_perm l).cons x)
theorem sortB_sorted : ∀ {l : List (List SlotT)}, (∀ x ∈ l, okL x) → (sortB l).Pairwise fun a b => lessB b a = false
  | [], _ => List.Pairwise.nil
  | x :: l, ok => insS_sorted (ok x (by simp)) (fun y hy => ok y (by simp [(sortB_perm l).subset hy])) (sortB_sorted fun y hy => ok y (by simp [hy]))
end Go.Proofs.Ytjkdpahaingjjaa.Ab
