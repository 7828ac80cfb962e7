/-
  The binding of slots is the document's: the law BindingOf. No claim is proved here.
-/
import Derived.Test.YtngjjiblmpjbjaaQBp2
import Derived.Test.YtngjjiblmpjbjaaQBl2
namespace Go.Proofs.Ytngjjiblmpjbjaa.Ab
open Go Go.RowKit
set_option linter.unusedSimpArgs false
variable {G : Nat → Option AV}
theorem ins_union {m : List SlotT} {s : SlotT} (h : Can m) (hs : goodS s) (hn : ∀ y ∈ m, y.var ≠ s.var) : insR m (findI m s.var) s = unionR m [s] := by
  obtain ⟨h1, h2⟩ := find_ok h hs.1 hs.2.1
  refine srt_ext ?_ (unionN_srt m [s] 8) fun x => ?_
  · unfold insR
    rw [List.pairwise_append, List.pairwise_cons]
    have hd : ∀ y ∈ m.drop (findI m s.var), s.var < y.var := fun y hy => by
      obtain ⟨j, hj⟩ := List.getElem?_of_mem hy
      rw [List.getElem?_drop] at hj
      have := h2 _ y (Nat.le_add_right _ _) hj
      have := hn y (List.mem_of_getElem? hj)
      omega
    have ht : ∀ y ∈ m.take (findI m s.var), y.var < s.var := fun y hy => by
      obtain ⟨j, hj⟩ := List.getElem?_of_mem hy
      rw [List.getElem?_take] at hj
      split at hj
      · exact h1 j y ‹_› hj
      · cases hj
    refine ⟨h.srt.sublist (List.take_sublist _ _), ⟨hd, h.srt.sublist (List.drop_sublist _ _)⟩, fun a ha b hb => ?_⟩
    have := ht a ha
    rcases List.mem_cons.1 hb with e | e
    · rw [e]; exact this
    · have := hd b e
      omega
  · rw [mem_union h hs]
    unfold insR
    rw [List.mem_append, List.mem_cons]
    have e : x ∈ m ↔ x ∈ m.take (findI m s.var) ∨ x ∈ m.drop (findI m s.var) := by rw [← List.mem_append, List.take_append_drop]
    constructor
    · rintro (hx | rfl | hx)
      · exact .inl (e.2 (.inl hx))
      · exact .inr ⟨rfl, hn⟩
      · exact .inl (e.2 (.inr hx))
    · rintro (hx | ⟨rfl, _⟩)
      · rcases e.1 hx with hx | hx
        · exact .inl hx
        · exact .inr (.inr hx)
      · exact .inr (.inl rfl)
theorem union_can {m : List SlotT} {s : SlotT} (h : Can m) (hs : goodS s) : Can (unionR m [s]) :=
  ⟨unionN_srt m [s] 8, fun x hx => by
    rcases (mem_union h hs).1 hx with hx | ⟨rfl, _⟩
    · exact h.good x hx
    · exact hs⟩
theorem union_same {m : List SlotT} {s : SlotT} (h : Can m) (hs : goodS s) (hm : s ∈ m) : unionR m [s] = m := by
  refine srt_ext (unionN_srt m [s] 8) h.srt fun x => ?_
  rw [mem_union h hs]
  exact ⟨fun hx => hx.elim id fun ⟨_, hn⟩ => absurd rfl (hn s hm), .inl⟩
theorem one_ok {s : SlotT} : bindOk [s] = true ↔ goodS s :=
  ⟨fun h => (can_of h).good s (by simp), fun h => can_ok ⟨by simp, fun x hx => by simp only [List.mem_singleton] at hx; rw [hx]; exact h⟩⟩
theorem badS_bad {m : List SlotT} {s : SlotT} (h : ¬ goodS s) : badS m s = true := by
  have : bindOk [s] = false := by
    cases hb : bindOk [s] with
    | false => rfl
    | true => exact absurd (one_ok.1 hb) h
  unfold badS
  rw [this]
  simp
theorem badS_good {m : List SlotT} {s : SlotT} (h : goodS s) : badS m s = ((getR m s.var).2 && !decide ((getR m s.var).1 = s.value)) := by
  have e1 : decide (s.var < 0) = false := by simpa using h.1
  have e2 : decide (7 < s.var) = false := by simpa using h.2.1
  unfold badS
  rw [one_ok.2 h, e1, e2]
  simp
theorem ofStep_mem {m m' : List SlotT} {s : SlotT} (h : ofStep m s = some m') : s ∈ m' ∧ ∀ x ∈ m, x ∈ m' := by
  unfold ofStep at h
  split at h
  · split at h
    · rename_i x hx
      split at h
      · rename_i e
        cases h
        exact ⟨by rw [← e]; exact List.mem_of_getElem? hx, fun _ h => h⟩
      · cases h
    · cases h
  · cases h
    unfold insR
    refine ⟨by simp, fun x hx => ?_⟩
    rw [← List.take_append_drop (findI m s.var) m] at hx
    rcases List.mem_append.1 hx with h | h
    · exact List.mem_append.2 (.inl h)
    · exact List.mem_append.2 (.inr (List.mem_cons.2 (.inr h)))
theorem ofGo_mem : ∀ {l m m' : List SlotT}, ofGo m l = some m' → ∀ x ∈ m, x ∈ m'
  | [], m, m', h, x, hx => by
    simp only [ofGo, Option.some.injEq] at h
    rw [← h]
    exact hx
  | s :: l, m, m', h, x, hx => by
    rw [ofGo] at h
    split at h
    · rename_i m1 h1
      exact ofGo_mem h x ((ofStep_mem h1).2 x hx)
    · cases h
def okO : Option (List SlotT) → Option (List SlotT)
  | some m => if bindOk m then some m else none
  | none => none
theorem of_main : ∀ (l m : List SlotT), Can m → okO (ofGo m l) = refGo m l
  | [], m, h => by
    rw [ofGo, refGo, okO, can_ok h]
    rfl
  | s :: l, m, h => by
    rw [ofGo, refGo]
    by_cases hs : goodS s
    · rw [badS_good hs]
      cases hb : findB m s.var with
      | true =>
        obtain ⟨y, hy, e⟩ := (findB_iff h hs.1 hs.2.1).1 hb
        have hym := List.mem_of_getElem? hy
        have hg := getR_some h hym
        rw [e] at hg
        unfold ofStep
        rw [hb, if_pos rfl, hy, hg]
        by_cases hys : y = s
        · subst hys
          simp only [if_true, decide_true, Bool.not_true, Bool.and_false, Bool.false_eq_true, if_false]
          rw [union_same h hs hym]
          exact of_main l m h
        · have hv : ¬ y.value = s.value := fun e2 => hys (by
            obtain ⟨a, b⟩ := y
            obtain ⟨c, d⟩ := s
            simp only at e e2
            rw [e, e2])
          simp only [hys, if_false, hv, decide_false, Bool.not_false, Bool.and_true, if_true]
          rfl
      | false =>
        have hn := findB_no h hs.1 hs.2.1 hb
        unfold ofStep
        rw [hb, if_neg (by simp), getR_none hn, ins_union h hs hn]
        simp only [Bool.false_and, Bool.false_eq_true, if_false]
        exact of_main l _ (union_can h hs)
    · rw [badS_bad hs, if_pos rfl]
      split
      · rename_i m1 h1
        cases h2 : ofGo m1 l with
        | none => rfl
        | some m2 =>
          have hm := ofGo_mem h2 s (ofStep_mem h1).1
          have : bindOk m2 = false := by
            cases hb : bindOk m2 with
            | false => rfl
            | true => exact absurd ((can_of hb).good s hm) hs
          rw [okO, this]
          rfl
      · rfl
theorem ofB_ref (l : List SlotT) : ofB l = refGo [] l := by
  rw [← of_main l [] ⟨List.Pairwise.nil, fun x hx => by cases hx⟩]
  unfold ofB okO
  rfl
theorem law05_BindingOf_pc (l : List SlotT) (v : Int) : PureC Try.prog G n_proctorlaw05_BindingOf [slotsV l, iv v] (.bool true) := law05_BindingOf_pc0 l v (ofB_ref l)
end Go.Proofs.Ytngjjiblmpjbjaa.Ab
