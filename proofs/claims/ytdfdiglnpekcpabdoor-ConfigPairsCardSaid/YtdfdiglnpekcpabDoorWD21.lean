/-
  Expressions: that the code's and the reference's are the same, where kinds are. Whole expressions: the code's and the reference's. No claim is proved here.
-/
import Derived.Test.YtdfdiglnpekcpabDoorWD9
import Derived.Test.YtdfdiglnpekcpabDoorWD14
namespace Go.Proofs.YtdfdiglnpekcpabDoor.Ab
open Go
set_option linter.unusedSimpArgs false
theorem exStep_eq (q : QeaT) (out : List ExT) (i : Nat) (x : NodeT) : exStep q out i x = match leafOf q i x with
    | some e => e
    | none => if x.op < 4 ∨ 16 < x.op ∨ ¬ x.value = v0 then e0 else if (bAt out ((i : Int) - 1)).kind = 0 then e0 else
      if x.op ≤ 5 then (if x.a = (i : Int) - 1 ∧ x.b = 0 then ⟨opKind x.op (bAt out ((i : Int) - 1)).kind (bAt out ((i : Int) - 1)).kind, (bAt out ((i : Int) - 1)).depth + 1, (bAt out ((i : Int) - 1)).from_⟩ else e0)
      else if x.b = (i : Int) - 1 ∧ x.a = (bAt out ((i : Int) - 1)).from_ - 1 then
        (if (bAt out x.a).kind = 0 then e0 else ⟨opKind x.op (bAt out x.a).kind (bAt out ((i : Int) - 1)).kind, max (bAt out x.a).depth (bAt out ((i : Int) - 1)).depth + 1, (bAt out x.a).from_⟩)
      else e0 := by
  unfold exStep
  cases leafOf q i x with
  | some e => rfl
  | none =>
    dsimp only
    split
    · rfl
    · unfold bAt
      cases at? out ((i : Int) - 1) with
      | none => rfl
      | some b =>
        cases at? out x.a <;> simp
structure QeaT.Kinds (q : QeaT) : Prop where
  quants : ∀ y ∈ q.quants, 1 ≤ y.type ∧ y.type ≤ 3
  frees : ∀ y ∈ q.frees, y.init.ok = true
theorem Val.ok_kind {v : Val} (h : v.ok = true) : 1 ≤ v.kind ∧ v.kind ≤ 3 := by
  unfold Val.ok at h
  split at h
  · omega
  · split at h
    · omega
    · simp at h; omega
theorem opKind_ne {op a b : Int} (ho : 6 ≤ op) (h : ¬ a = b) : opKind op a b = 0 := by
  have h' : ¬ b = a := fun e => h e.symm
  unfold opKind
  rw [if_neg (by omega), if_neg (by omega)]
  simp [h']
theorem opKind_range {op a b : Int} (ha : 1 ≤ a ∧ a ≤ 3) : 0 ≤ opKind op a b ∧ opKind op a b ≤ 3 := by
  unfold opKind
  repeat' split
  all_goals omega
def sameE (e b : ExT) : Prop := e.kind = b.kind ∧ (¬ e.kind = 0 → e = b) ∧ 0 ≤ e.kind ∧ e.kind ≤ 3
theorem sameE_zero : sameE e0 e0 := ⟨rfl, fun h => absurd rfl h, by simp, by simp⟩
theorem sameE_step {q : QeaT} (hk : q.Kinds) {o1 o2 : List ExT} (ho : ∀ n, sameE (bAt o1 n) (bAt o2 n)) (i : Nat) (x : NodeT) : sameE (exStep q o1 i x) (beStep q o2 i x) := by
  rw [exStep_eq]
  obtain ⟨op, na, mb, v⟩ := x
  unfold beStep leafOf
  dsimp only
  by_cases h1 : op = 1
  · subst h1
    simp only [if_pos]
    by_cases hc : na = 0 ∧ mb = 0 ∧ v.ok = true
    · rw [if_pos hc, if_pos hc]
      have := Val.ok_kind hc.2.2
      exact ⟨rfl, fun _ => rfl, by dsimp only; omega, by dsimp only; omega⟩
    · rw [if_neg hc, if_neg hc]
      exact sameE_zero
  rw [if_neg h1, if_neg h1]
  by_cases hv : v = v0
  · rw [if_neg (show ¬ ¬ v = v0 from not_not_intro hv)]
    by_cases h2 : op = 2
    · subst h2
      simp only [if_pos]
      by_cases hb : mb = 0
      · rw [if_pos hb, if_pos ⟨hb, hv⟩]
        cases hq : at? q.quants na with
        | none => exact sameE_zero
        | some y =>
          obtain ⟨j, _, hj⟩ := at?_some hq
          have := hk.quants y (List.mem_of_getElem? hj)
          exact ⟨rfl, fun _ => rfl, by dsimp only [Option.map]; omega, by dsimp only [Option.map]; omega⟩
      · rw [if_neg hb, if_neg (fun h => hb h.1)]
        exact sameE_zero
    rw [if_neg h2, if_neg h2]
    by_cases h3 : op = 3
    · subst h3
      simp only [if_pos]
      by_cases hb : mb = 0
      · rw [if_pos hb, if_pos ⟨hb, hv⟩]
        cases hq : at? q.frees na with
        | none => exact sameE_zero
        | some y =>
          obtain ⟨j, _, hj⟩ := at?_some hq
          have := Val.ok_kind (hk.frees y (List.mem_of_getElem? hj))
          exact ⟨rfl, fun _ => rfl, by dsimp only [Option.map]; omega, by dsimp only [Option.map]; omega⟩
      · rw [if_neg hb, if_neg (fun h => hb h.1)]
        exact sameE_zero
    rw [if_neg h3, if_neg h3]
    dsimp only
    by_cases hr : op < 4 ∨ 16 < op
    · rw [if_pos hr, if_pos (show op < 4 ∨ 16 < op ∨ ¬ v = v0 by omega)]
      exact sameE_zero
    rw [if_neg hr, if_neg (show ¬ (op < 4 ∨ 16 < op ∨ ¬ v = v0) by simp only [hv, not_true_eq_false, or_false]; exact hr)]
    obtain ⟨hb1, hb2, hb3, hb4⟩ := ho ((i : Int) - 1)
    by_cases hz : (bAt o1 ((i : Int) - 1)).kind = 0
    · rw [if_pos hz]
      have hz' : (bAt o2 ((i : Int) - 1)).kind = 0 := by omega
      rw [if_pos (Or.inl hz'), if_pos (Or.inl hz'), ite_self]
      exact sameE_zero
    · have hbe := hb2 hz
      rw [if_neg hz, hbe]
      rw [hbe] at hz hb3 hb4
      generalize bAt o2 ((i : Int) - 1) = b at *
      by_cases h5 : op ≤ 5
      · rw [if_pos h5, if_pos h5]
        by_cases hc : na = (i : Int) - 1 ∧ mb = 0
        · rw [if_pos hc, if_neg (by omega)]
          have := opKind_range (op := op) (a := b.kind) (b := b.kind) (by omega)
          rw [typeR_eq _ _ _ (by omega), if_pos rfl]
          exact ⟨rfl, fun _ => rfl, this.1, this.2⟩
        · rw [if_neg hc, if_pos (by omega)]
          exact sameE_zero
      · rw [if_neg h5, if_neg h5]
        by_cases hc : mb = (i : Int) - 1 ∧ na = b.from_ - 1
        · rw [if_pos hc, if_neg (show ¬ (b.kind = 0 ∨ ¬ mb = (i : Int) - 1 ∨ ¬ na = b.from_ - 1) by omega)]
          rw [hc.2]
          obtain ⟨ha1, ha2, ha3, ha4⟩ := ho (b.from_ - 1)
          by_cases hza : (bAt o1 (b.from_ - 1)).kind = 0
          · rw [if_pos hza]
            have hza' : (bAt o2 (b.from_ - 1)).kind = 0 := by omega
            rw [hza', show typeR op 0 b.kind = 0 from if_pos (by omega)]
            exact ⟨rfl, fun h => absurd rfl h, by simp, by simp⟩
          · have hae := ha2 hza
            rw [if_neg hza, hae]
            rw [hae] at hza ha3 ha4
            generalize bAt o2 (b.from_ - 1) = a at *
            have := opKind_range (op := op) (a := a.kind) (b := b.kind) (by omega)
            rw [typeR_eq _ _ _ (by omega), Int.max_comm b.depth]
            by_cases hab : a.kind = b.kind
            · rw [if_pos hab]
              exact ⟨rfl, fun _ => rfl, this.1, this.2⟩
            · rw [if_neg hab, opKind_ne (by omega) hab]
              exact ⟨rfl, fun _ => rfl, by simp, by simp⟩
        · rw [if_neg hc, if_pos (by omega)]
          exact sameE_zero
  · rw [if_pos hv]
    by_cases h2 : op = 2
    · rw [if_pos h2, if_neg (fun h => hv h.2)]
      dsimp only
      rw [if_pos (by omega)]
      exact sameE_zero
    · rw [if_neg h2]
      by_cases h3 : op = 3
      · rw [if_pos h3, if_neg (fun h => hv h.2)]
        dsimp only
        rw [if_pos (by omega)]
        exact sameE_zero
      · rw [if_neg h3]
        dsimp only
        rw [if_pos (Or.inr (Or.inr hv))]
        exact sameE_zero
theorem bAt_append {l : List ExT} {e : ExT} {n : Int} : bAt (l ++ [e]) n = if n = l.length then e else bAt l n := by
  unfold bAt at?
  split
  · rename_i h0
    rw [List.getElem?_append]
    split
    · rw [if_neg (by omega)]
    · split
      · rename_i h1; simp [h1]
      · rw [List.getElem?_eq_none (by simp; omega), List.getElem?_eq_none (by omega)]
  · rw [if_neg (by omega)]
theorem sameE_all {q : QeaT} (hk : q.Kinds) : ∀ n, n ≤ q.nodes.length → ∀ j, sameE (bAt (exL q n) j) (bAt (beL q n) j)
  | 0, _, j => by
    have : bAt ([] : List ExT) j = e0 := by unfold bAt at?; split <;> simp
    show sameE (bAt [] j) (bAt [] j)
    rw [this]
    exact sameE_zero
  | n + 1, h, j => by
    obtain ⟨x, hx, _⟩ := at_some (l := q.nodes) (i := n) (by omega)
    rw [exL_step hx, beL_step hx, bAt_append, bAt_append, exL_length q n (by omega), beL_length q n (by omega)]
    split
    · exact sameE_step hk (sameE_all hk n (by omega)) n x
    · exact sameE_all hk n (by omega) j
end Go.Proofs.YtdfdiglnpekcpabDoor.Ab
namespace Go.Proofs.YtdfdiglnpekcpabDoor.Ab
open Go
set_option linter.unusedSimpArgs false
theorem kind_whole {q : QeaT} (hk : q.Kinds) (a r k : Int) : wholeS (exprs q) a r k = ((kindR q a r).1 == k && (!(k == 0) && decide ((kindR q a r).2 ≤ 64))) := by
  have hs := sameE_all hk q.nodes.length (Nat.le_refl _) r
  have hz : ∀ b : Bool, ((0 : Int) == k && (!(k == 0) && b)) = false := fun b => by
    by_cases h : k = 0
    · subst h; simp
    · rw [show ((0 : Int) == k) = false by simp; omega, Bool.false_and]
  change sameE (bAt (exprs q) r) _ at hs
  unfold wholeS kindR
  cases he : at? (exprs q) r with
  | none =>
    have hb : bAt (exprs q) r = e0 := by unfold bAt; rw [he]; rfl
    rw [hb] at hs
    rw [if_pos (Or.inl hs.1.symm)]
    exact (hz _).symm
  | some e =>
    obtain ⟨j, rfl, hj⟩ := at?_some he
    have hok := exL_ok q q.nodes.length (Nat.le_refl _) j e hj
    have hb : bAt (exprs q) j = e := by unfold bAt; rw [he]; rfl
    rw [hb] at hs
    obtain ⟨h1, h2, h3, h4⟩ := hs
    by_cases hz0 : e.kind = 0
    · rw [if_pos (Or.inl (by omega))]
      dsimp only
      rw [hz, hz0]
      by_cases h : k = 0
      · subst h; simp
      · rw [show ((0 : Int) == k) = false by simp; omega]; simp
    · have hbe := h2 hz0
      rw [← hbe]
      by_cases hf : e.from_ = a
      · rw [if_neg (by simp [hz0, hf])]
        dsimp only
        rw [show decide (a ≤ (j : Int)) = true by simp; omega, hf]
        simp
      · rw [if_pos (Or.inr hf)]
        dsimp only
        rw [hz, show (e.from_ == a) = false by simp [hf]]
        simp
end Go.Proofs.YtdfdiglnpekcpabDoor.Ab
