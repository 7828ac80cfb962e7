/-
  The law BindingOf, walked. The binding of slots is the document's: the law BindingOf. How the arguments of the laws on bindings are read. How the arguments of the laws on bindings are read: their numbers are of 64 bits. No claim is proved here.
-/
import Derived.Test.YtjkdpahaingjjaaQBp1
import Derived.Test.YtjkdpahaingjjaaQBp2
import Derived.Test.YtjkdpahaingjjaaQAbTrod
namespace Go.Proofs.Ytjkdpahaingjjaa.Ab
open Go Go.RowKit
set_option linter.unusedSimpArgs false
set_option maxHeartbeats 4000000
set_option maxRecDepth 100000
variable {G : Nat → Option AV}
end Go.Proofs.Ytjkdpahaingjjaa.Ab
namespace Go.Proofs.Ytjkdpahaingjjaa.Ab
open Go Go.RowKit
set_option linter.unusedSimpArgs false
variable {G : Nat → Option AV}
theorem ins_union {m : List SlotT} {s : SlotT} (h : Can m) (hs : goodS s) (hn : ∀ y ∈ m, y.var ≠ s.var) : insR m (findI m s.var) s = unionR m [s] := by
  obtain ⟨h1, h2⟩ := find_ok h hs.1 hs.2.1
  refine srt_ext ?_ (unionN_srt m [s] 8) fun x => ?_
  · unfold insR
    rw [List.pairwise_append, List.pairwise_cons]
    have hd : ∀ y ∈ m.drop (findI m s.var), s.var < y.var := fun y hy => by
      obtain ⟨j, hj⟩ := List.getElem?_of_mem hy
      rw [List.getElem?_drop] at hj
      have := h2 _ y (Nat.le_add_right _ _) hj
      have := hn y (List.mem_of_getElem? hj)
      omega
    have ht : ∀ y ∈ m.take (findI m s.var), y.var < s.var := fun y hy => by
      obtain ⟨j, hj⟩ := List.getElem?_of_mem hy
      rw [List.getElem?_take] at hj
      split at hj
      · exact h1 j y ‹_› hj
      · cases hj
    refine ⟨h.srt.sublist (List.take_sublist _ _), ⟨hd, h.srt.sublist (List.drop_sublist _ _)⟩, fun a ha b hb => ?_⟩
    have := ht a ha
    rcases List.mem_cons.1 hb with e | e
    · rw [e]; exact this
    · have := hd b e
      omega
  · rw [mem_union h hs]
    unfold insR
    rw [List.mem_append, List.mem_cons]
    have e : x ∈ m ↔ x ∈ m.take (findI m s.var) ∨ x ∈ m.drop (findI m s.var) := by rw [← List.mem_append, List.take_append_drop]
    constructor
    · rintro (hx | rfl | hx)
      · exact .inl (e.2 (.inl hx))
      · exact .inr ⟨rfl, hn⟩
      · exact .inl (e.2 (.inr hx))
    · rintro (hx | ⟨rfl, _⟩)
      · rcases e.1 hx with hx | hx
        · exact .inl hx
        · exact .inr (.inr hx)
      · exact .inr (.inl rfl)
theorem union_can {m : List SlotT} {s : SlotT} (h : Can m) (hs : goodS s) : Can (unionR m [s]) :=
  ⟨unionN_srt m [s] 8, fun x hx => by
    rcases (mem_union h hs).1 hx with hx | ⟨rfl, _⟩
    · exact h.good x hx
    · exact hs⟩
theorem union_same {m : List SlotT} {s : SlotT} (h : Can m) (hs : goodS s) (hm : s ∈ m) : unionR m [s] = m := by
  refine srt_ext (unionN_srt m [s] 8) h.srt fun x => ?_
  rw [mem_union h hs]
  exact ⟨fun hx => hx.elim id fun ⟨_, hn⟩ => absurd rfl (hn s hm), .inl⟩
theorem one_ok {s : SlotT} : bindOk [s] = true ↔ goodS s :=
  ⟨fun h => (can_of h).good s (by simp), fun h => can_ok ⟨by simp, fun x hx => by simp only [List.mem_singleton] at hx; rw [hx]; exact h⟩⟩
theorem badS_bad {m : List SlotT} {s : SlotT} (h : ¬ goodS s) : badS m s = true := by
  have : bindOk [s] = false := by
    cases hb : bindOk [s] with
    | false => rfl
    | true => exact absurd (one_ok.1 hb) h
  unfold badS
  rw [this]
  simp
theorem badS_good {m : List SlotT} {s : SlotT} (h : goodS s) : badS m s = ((getR m s.var).2 && !decide ((getR m s.var).1 = s.value)) := by
  have e1 : decide (s.var < 0) = false := by simpa using h.1
  have e2 : decide (7 < s.var) = false := by simpa using h.2.1
  unfold badS
  rw [one_ok.2 h, e1, e2]
  simp
theorem ofStep_mem {m m' : List SlotT} {s : SlotT} (h : ofStep m s = some m') : s ∈ m' ∧ ∀ x ∈ m, x ∈ m' := by
  unfold ofStep at h
  split at h
  · split at h
    · rename_i x hx
      split at h
      · rename_i e
        cases h
        exact ⟨by rw [← e]; exact List.mem_of_getElem? hx, fun _ h => h⟩
      · cases h
    · cases h
  · cases h
    unfold insR
    refine ⟨by simp, fun x hx => ?_⟩
    rw [← List.take_append_drop (findI m s.var) m] at hx
    rcases List.mem_append.1 hx with h | h
    · exact List.mem_append.2 (.inl h)
    · exact List.mem_append.2 (.inr (List.mem_cons.2 (.inr h)))
theorem ofGo_mem : ∀ {l m m' : List SlotT}, ofGo m l = some m' → ∀ x ∈ m, x ∈ m'
  | [], m, m', h, x, hx => by
    simp only [ofGo, Option.some.injEq] at h
    rw [← h]
    exact hx
  | s :: l, m, m', h, x, hx => by
    rw [ofGo] at h
    split at h
    · rename_i m1 h1
      exact ofGo_mem h x ((ofStep_mem h1).2 x hx)
    · cases h
def okO : Option (List SlotT) → Option (List SlotT)
  | some m => if bindOk m then some m else none
  | none => none
theorem of_main : ∀ (l m : List SlotT), Can m → okO (ofGo m l) = refGo m l
  | [], m, h => by
    rw [ofGo, refGo, okO, can_ok h]
    rfl
  | s :: l, m, h => by
    rw [ofGo, refGo]
    by_cases hs : goodS s
    · rw [badS_good hs]
      cases hb : findB m s.var with
      | true =>
        obtain ⟨y, hy, e⟩ := (findB_iff h hs.1 hs.2.1).1 hb
        have hym := List.mem_of_getElem? hy
        have hg := getR_some h hym
        rw [e] at hg
        unfold ofStep
        rw [hb, if_pos rfl, hy, hg]
        by_cases hys : y = s
        · subst hys
          simp only [if_true, decide_true, Bool.not_true, Bool.and_false, Bool.false_eq_true, if_false]
          rw [union_same h hs hym]
          exact of_main l m h
        · have hv : ¬ y.value = s.value := fun e2 => hys (by
            obtain ⟨a, b⟩ := y
            obtain ⟨c, d⟩ := s
            simp only at e e2
            rw [e, e2])
          simp only [hys, if_false, hv, decide_false, Bool.not_false, Bool.and_true, if_true]
          rfl
      | false =>
        have hn := findB_no h hs.1 hs.2.1 hb
        unfold ofStep
        rw [hb, if_neg (by simp), getR_none hn, ins_union h hs hn]
        simp only [Bool.false_and, Bool.false_eq_true, if_false]
        exact of_main l _ (union_can h hs)
    · rw [badS_bad hs, if_pos rfl]
      split
      · rename_i m1 h1
        cases h2 : ofGo m1 l with
        | none => rfl
        | some m2 =>
          have hm := ofGo_mem h2 s (ofStep_mem h1).1
          have : bindOk m2 = false := by
            cases hb : bindOk m2 with
            | false => rfl
            | true => exact absurd ((can_of hb).good s hm) hs
          rw [okO, this]
          rfl
      · rfl
theorem ofB_ref (l : List SlotT) : ofB l = refGo [] l := by
  rw [← of_main l [] ⟨List.Pairwise.nil, fun x hx => by cases hx⟩]
  unfold ofB okO
  rfl
end Go.Proofs.Ytjkdpahaingjjaa.Ab
namespace Go.Proofs.Ytjkdpahaingjjaa.Ab
open Go Go.ChangeShapes Go.WideShapes Go.RowKit
set_option linter.unusedSimpArgs false
set_option maxRecDepth 100000
theorem rInt {t : Nat} (ht : Try.prog.underlying t = some (.int .i64)) (hs : Try.prog.cellsOf t = 1) : RdT Try.prog t 1 fun cs => ∃ n : Int, cs = [iv n] :=
  (rd_int ht hs).mono (by rintro _ ⟨n, rfl, _⟩; exact ⟨n, rfl⟩)
end Go.Proofs.Ytjkdpahaingjjaa.Ab
namespace Go.Proofs.Ytjkdpahaingjjaa.Ab
open Go Go.ChangeShapes Go.WideShapes Go.RowKit
set_option linter.unusedSimpArgs false
set_option maxRecDepth 100000
theorem i64_wfB {n : Int} (h : (Lit.int .i64 n).wf = true) : i64 n := by
  simp [Lit.wf, IntKind.min, IntKind.max, IntKind.signed, IntKind.bits] at h
  exact ⟨h.1, by omega⟩
theorem rd_listB {α : Type} {f : α → AV} {Q : α → Prop} {t e sz : Nat} (ht : Try.prog.underlying t = some (.slice e)) (hs : Try.prog.cellsOf t = 1) (h : RdT Try.prog e sz fun cs => ∃ a : α, .agg cs = f a ∧ Q a) (h0 : 0 < sz) :
    RdT Try.prog t 1 fun cs => ∃ l : List α, cs = [.seq sz (l.map f)] ∧ l.length ≤ maxLen ∧ ∀ a ∈ l, Q a :=
  (rd_slice true ht hs h h0 (by intro h; cases h)).mono (by
    rintro _ ⟨es, rfl, hl, h⟩
    obtain ⟨l, rfl, hq⟩ := list_of' (f := f) (Q := Q) (fun x hx => by obtain ⟨_, ⟨o, e, q⟩, rfl⟩ := h x hx; exact ⟨o, e, q⟩)
    exact ⟨l, rfl, by simpa using hl, hq⟩)
theorem rValB : RdT Try.prog 38 4 fun cs => ∃ v : Val, cs = [iv v.kind, iv v.int, .str v.str, .bool v.bool] ∧ i64 v.int :=
  (rd_struct (t := 38) (fs := (Try.prog.fieldsOf 38)) (by kernel_rfl) (by kernel_rfl) (rdf_cons (f := (Try.prog.fieldsOf 38)[0]!) (rInt (by kernel_rfl) (by kernel_rfl)) (by kernel_rfl) rfl (rdf_cons (f := (Try.prog.fieldsOf 38)[1]!) (rd_int (by kernel_rfl) (by kernel_rfl)) (by kernel_rfl) rfl (rdf_cons (f := (Try.prog.fieldsOf 38)[2]!) (rd_str (by kernel_rfl) (by kernel_rfl)) (by kernel_rfl) rfl (rdf_cons (f := (Try.prog.fieldsOf 38)[3]!) (rd_bool (by kernel_rfl) (by kernel_rfl)) (by kernel_rfl) rfl (rdf_nil _)))))).mono (by
    rintro _ ⟨_, _, rfl, ⟨a, rfl⟩, _, _, rfl, ⟨b, rfl, hb⟩, _, _, rfl, ⟨c, rfl, _⟩, _, _, rfl, ⟨d, rfl⟩, rfl⟩
    exact ⟨⟨a, b, c, d⟩, rfl, i64_wfB hb⟩)
theorem rSlotB : RdT Try.prog 40 5 fun cs => ∃ a : SlotT, .agg cs = slotV a ∧ i64 a.value.int :=
  (rd_struct (t := 40) (fs := (Try.prog.fieldsOf 40)) (by kernel_rfl) (by kernel_rfl) (rdf_cons (f := (Try.prog.fieldsOf 40)[0]!) (rInt (by kernel_rfl) (by kernel_rfl)) (by kernel_rfl) rfl (rdf_cons (f := (Try.prog.fieldsOf 40)[1]!) rValB (by kernel_rfl) rfl (rdf_nil _)))).mono (by
    rintro _ ⟨_, _, rfl, ⟨a, rfl⟩, _, _, rfl, ⟨v, rfl, hv⟩, rfl⟩
    exact ⟨⟨a, v⟩, rfl, hv⟩)
/-- Slots as an argument holds them. -/
structure SlotsOk (l : List SlotT) : Prop where
  len : l.length ≤ maxLen
  n64 : ∀ s ∈ l, i64 s.value.int
theorem rSlotsB : RdT Try.prog 22 1 fun cs => ∃ l : {l : List SlotT // SlotsOk l}, cs = [slotsV l.1] :=
  (rd_listB (t := 22) (by kernel_rfl) (by kernel_rfl) rSlotB (by decide)).mono (by
    rintro _ ⟨l, rfl, h1, h2⟩
    exact ⟨⟨l, h1, h2⟩, rfl⟩)
end Go.Proofs.Ytjkdpahaingjjaa.Ab
