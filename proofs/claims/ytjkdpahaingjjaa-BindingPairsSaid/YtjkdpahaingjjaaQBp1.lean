/-
  binding.Under, binding.Fits: the contracts; binding.Union. proctorlaw05.awake; the document's binding of slots. The binding of slots: the search's one is the document's. No claim is proved here.
-/
import Derived.Test.YtjkdpahaingjjaaQRf4
import Derived.Test.YtjkdpahaingjjaaQRf5
namespace Go.Proofs.Ytjkdpahaingjjaa.Ab
open Go Go.RowKit
set_option linter.unusedSimpArgs false
set_option maxHeartbeats 4000000
set_option maxRecDepth 100000
variable {G : Nat → Option AV}
theorem pure_bool2 {P : Program} {f : Nat} {c d : AV} {r : Bool} (h : ∀ (w : World) (F : Nat → Prop) (u v : Value), Good w F G → Rd w F noNames c u → Rd w F noNames d v → Calls P f #[u, v] w fun e w' => e = .returned (.bool r) ∧ Below w.heap.size w w') : PureC P G f [c, d] (.bool r) := by
  intro w F vs hg ha
  obtain ⟨hs, hr⟩ := ha
  obtain ⟨l⟩ := vs
  match l, hs with
  | [u, v], _ =>
    refine (h w F u v hg (hr 0 c u rfl rfl) (hr 1 d v rfl rfl)).mono ?_
    rintro e w' ⟨rfl, hb⟩
    exact ⟨_, F, rfl, fun b h => h, fun b h => .inl h, fun b h => Nat.lt_of_lt_of_le (hg.1 b h) hb.size, .bool _ _, hb⟩
theorem binding_Under_pc (a b : List SlotT) (ha : a.length ≤ 1000000) (hb : b.length ≤ 1000000) : PureC Try.prog G n_binding_Under [slotsV a, slotsV b] (.bool (underR a b)) :=
  pure_bool2 fun _ _ _ _ hg h1 h2 => Under_calls a b ha hb hg h1 h2
theorem binding_Fits_pc (a b : List SlotT) (ha : a.length ≤ 1000000) (hb : b.length ≤ 1000000) : PureC Try.prog G n_binding_Fits [slotsV a, slotsV b] (.bool (fitsB a b)) :=
  pure_bool2 fun _ _ _ _ hg h1 h2 => Fits_calls a b ha hb hg h1 h2
def unionB (a b : List SlotT) : Option (List SlotT) := if fitsB a b then ofB (a ++ b) else none
theorem binding_Union_pc (a b : List SlotT) (ha : a.length ≤ 100) (hb : b.length ≤ 100) : PureC Try.prog G n_binding_Union [slotsV a, slotsV b] (ofV (unionB a b)) := by
  have h1 := binding_Fits_pc (G := G) a b (by omega) (by omega)
  have h2 := concat_pc (G := G) a b (by omega) (by omega)
  have h3 := binding_Of_pc (G := G) (a ++ b) (by rw [List.length_append]; omega)
  refine pc_binding_Union (Runs.of fun Φ h => ?_)
  unfold c_binding_Union
  unfold unionB at h
  cases hf : fitsB a b with
  | false =>
    rw [hf] at h h1
    rw [if_neg (by simp)] at h
    simp only [slotsV] at h1
    (try (simp -implicitDefEqProofs only [go_sem, Nat.reduceAdd, Nat.reduceSub, Nat.reduceMul, Nat.reduceLT, Nat.reduceLeDiff, Nat.reduceEqDiff, Nat.reduceBEq, Int.reduceNeg, Int.reduceAdd, Int.reduceLT, Int.reduceLE, Int.reduceToNat, Int.reduceEq, Int.reduceNe, Int.reduceBEq, Int.reduceBNe, Int.reduceMul, Int.reduceSub, reduceIte, reduceCtorEq, slotsV])); repeat' ((first | refine at_guard (fun hb => ?_) (fun hb => ?_) | refine ⟨fun hb => ?_, fun hb => ?_⟩ | refine at_call (h1) rfl rfl ?_ | fail) <;> (try (simp -implicitDefEqProofs only [go_sem, Nat.reduceAdd, Nat.reduceSub, Nat.reduceMul, Nat.reduceLT, Nat.reduceLeDiff, Nat.reduceEqDiff, Nat.reduceBEq, Int.reduceNeg, Int.reduceAdd, Int.reduceLT, Int.reduceLE, Int.reduceToNat, Int.reduceEq, Int.reduceNe, Int.reduceBEq, Int.reduceBNe, Int.reduceMul, Int.reduceSub, reduceIte, reduceCtorEq, slotsV])))
    exact h _ ⟨_, _, rfl, rfl, .refl _⟩
  | true =>
    rw [hf] at h h1
    rw [if_pos rfl] at h
    generalize ofB (a ++ b) = o at *
    simp only [slotsV, ofV] at h1 h2 h3
    (try (simp -implicitDefEqProofs only [go_sem, Nat.reduceAdd, Nat.reduceSub, Nat.reduceMul, Nat.reduceLT, Nat.reduceLeDiff, Nat.reduceEqDiff, Nat.reduceBEq, Int.reduceNeg, Int.reduceAdd, Int.reduceLT, Int.reduceLE, Int.reduceToNat, Int.reduceEq, Int.reduceNe, Int.reduceBEq, Int.reduceBNe, Int.reduceMul, Int.reduceSub, reduceIte, reduceCtorEq, slotsV])); repeat' ((first | refine at_guard (fun hb => ?_) (fun hb => ?_) | refine ⟨fun hb => ?_, fun hb => ?_⟩ | refine at_call (h1) rfl rfl ?_ | refine at_call (h2) rfl rfl ?_ | refine at_call (h3) rfl rfl ?_ | fail) <;> (try (simp -implicitDefEqProofs only [go_sem, Nat.reduceAdd, Nat.reduceSub, Nat.reduceMul, Nat.reduceLT, Nat.reduceLeDiff, Nat.reduceEqDiff, Nat.reduceBEq, Int.reduceNeg, Int.reduceAdd, Int.reduceLT, Int.reduceLE, Int.reduceToNat, Int.reduceEq, Int.reduceNe, Int.reduceBEq, Int.reduceBNe, Int.reduceMul, Int.reduceSub, reduceIte, reduceCtorEq, slotsV])))
    exact h _ ⟨_, _, rfl, rfl, .refl _⟩
end Go.Proofs.Ytjkdpahaingjjaa.Ab
namespace Go.Proofs.Ytjkdpahaingjjaa.Ab
open Go Go.RowKit
set_option linter.unusedSimpArgs false
set_option maxHeartbeats 4000000
set_option maxRecDepth 100000
variable {G : Nat → Option AV}
def aB : List SlotT := [⟨0, ⟨1, 5, [], false⟩⟩]
def bB : List SlotT := [⟨0, ⟨1, 5, [], false⟩⟩, ⟨1, ⟨1, 6, [], false⟩⟩]
theorem law05_awake_pc : PureC Try.prog G n_proctorlaw05_awake [] (.bool true) := by
  have h1 := binding_Union_pc (G := G) aB bB (by decide) (by decide)
  rw [show unionB aB bB = some bB by decide +kernel] at h1
  have h2 := binding_Under_pc (G := G) aB bB (by decide) (by decide)
  rw [show underR aB bB = true by decide +kernel] at h2
  have h3 := binding_Right_pc (G := G) bB (by decide)
  rw [show bindOk bB = true by decide +kernel] at h3
  refine pc_proctorlaw05_awake (Runs.of fun Φ h => ?_)
  unfold c_proctorlaw05_awake
  simp only [slotsV, ofV, aB, bB, slotV, List.map_cons, List.map_nil, Option.getD_some, Option.isSome_some] at h1 h2 h3
  (try (simp -implicitDefEqProofs only [go_sem, Nat.reduceAdd, Nat.reduceSub, Nat.reduceMul, Nat.reduceLT, Nat.reduceLeDiff, Nat.reduceEqDiff, Nat.reduceBEq, Int.reduceNeg, Int.reduceAdd, Int.reduceLT, Int.reduceLE, Int.reduceToNat, Int.reduceEq, Int.reduceNe, Int.reduceBEq, Int.reduceBNe, Int.reduceMul, Int.reduceSub, reduceIte, reduceCtorEq])); repeat' ((first | refine at_guard (fun hb => ?_) (fun hb => ?_) | refine ⟨fun hb => ?_, fun hb => ?_⟩ | refine at_call (h1) rfl rfl ?_ | refine at_call (h2) rfl rfl ?_ | refine at_call (h3) rfl rfl ?_ | fail) <;> (try (simp -implicitDefEqProofs only [go_sem, Nat.reduceAdd, Nat.reduceSub, Nat.reduceMul, Nat.reduceLT, Nat.reduceLeDiff, Nat.reduceEqDiff, Nat.reduceBEq, Int.reduceNeg, Int.reduceAdd, Int.reduceLT, Int.reduceLE, Int.reduceToNat, Int.reduceEq, Int.reduceNe, Int.reduceBEq, Int.reduceBNe, Int.reduceMul, Int.reduceSub, reduceIte, reduceCtorEq])))
  all_goals first
    | exact h _ ⟨_, _, rfl, rfl, .refl _⟩
    | (exfalso; revert hb; decide)
def badS (m : List SlotT) (s : SlotT) : Bool := ((getR m s.var).2 && !decide ((getR m s.var).1 = s.value)) || (decide (s.var < 0) || (decide (7 < s.var) || !bindOk [s]))
def refGo : List SlotT → List SlotT → Option (List SlotT)
  | m, [] => some m
  | m, s :: l => if badS m s then none else refGo (unionR m [s]) l
end Go.Proofs.Ytjkdpahaingjjaa.Ab
namespace Go.Proofs.Ytjkdpahaingjjaa.Ab
open Go
set_option linter.unusedSimpArgs false
/-- A slot that may be. -/
def goodS (s : SlotT) : Prop := 0 ≤ s.var ∧ s.var ≤ 7 ∧ s.value.ok = true
/-- Rising variables, slots that may be. -/
structure Can (m : List SlotT) : Prop where
  srt : m.Pairwise fun a b => a.var < b.var
  good : ∀ s ∈ m, goodS s
theorem allI_iff {α : Type} {p : Nat → α → Bool} {l : List α} : allI p l = true ↔ ∀ i x, l[i]? = some x → p i x = true := allI_true
theorem can_of {m : List SlotT} (h : bindOk m = true) : Can m := by
  have h' := allI_iff.1 h
  have hg : ∀ i x, m[i]? = some x → goodS x := fun i x hx => by
    have := h' i x hx
    unfold slotOk at this
    simp only [Bool.and_eq_true, decide_eq_true_eq] at this
    exact ⟨this.1, this.2.1, this.2.2.1⟩
  refine ⟨?_, fun s hs => by obtain ⟨i, hi⟩ := List.getElem?_of_mem hs; exact hg i s hi⟩
  have step : ∀ i x y, m[i]? = some x → m[i + 1]? = some y → x.var < y.var := fun i x y hx hy => by
    have := h' (i + 1) y hy
    unfold slotOk at this
    simp only [Nat.add_sub_cancel, hx, Bool.and_eq_true, decide_eq_true_eq, Bool.or_eq_true, beq_iff_eq] at this
    rcases this.2.2.2 with h | h
    · omega
    · exact h
  have far : ∀ d i x y, m[i]? = some x → m[i + 1 + d]? = some y → x.var < y.var := fun d => by
    induction d with
    | zero => intro i x y hx hy; exact step i x y hx hy
    | succ d ih =>
      intro i x y hx hy
      have hl := (List.getElem?_eq_some_iff.1 hy).1
      obtain ⟨z, hz, _⟩ := at_some (l := m) (i := i + 1 + d) (by omega)
      have h1 := ih i x z hx hz
      have h2 := step (i + 1 + d) z y hz (by rw [show i + 1 + d + 1 = i + 1 + (d + 1) by omega]; exact hy)
      omega
  rw [List.pairwise_iff_getElem]
  intro i j hi hj hij
  exact far (j - i - 1) i m[i] m[j] (List.getElem?_eq_getElem hi) (by rw [show i + 1 + (j - i - 1) = j by omega]; exact List.getElem?_eq_getElem hj)
theorem can_ok {m : List SlotT} (h : Can m) : bindOk m = true := by
  refine allI_iff.2 fun i x hx => ?_
  obtain ⟨g1, g2, g3⟩ := h.good x (List.mem_of_getElem? hx)
  unfold slotOk
  simp only [Bool.and_eq_true, decide_eq_true_eq, Bool.or_eq_true, beq_iff_eq]
  refine ⟨g1, g2, g3, ?_⟩
  by_cases hi : i = 0
  · exact .inl hi
  · right
    have hl := (List.getElem?_eq_some_iff.1 hx).1
    obtain ⟨y, hy, _⟩ := at_some (l := m) (i := i - 1) (by omega)
    rw [hy]
    simp only [decide_eq_true_eq]
    have := (List.pairwise_iff_getElem.1 h.srt) (i - 1) i (by omega) hl (by omega)
    rw [(List.getElem?_eq_some_iff.1 hy).2, (List.getElem?_eq_some_iff.1 hx).2] at this
    exact this
/-- Two rising rows of the same slots are the same. -/
theorem srt_ext : ∀ {l k : List SlotT}, l.Pairwise (fun a b => a.var < b.var) → k.Pairwise (fun a b => a.var < b.var) → (∀ x, x ∈ l ↔ x ∈ k) → l = k
  | [], [], _, _, _ => rfl
  | [], y :: k, _, _, h => by have := (h y).2 (by simp); cases this
  | x :: l, [], _, _, h => by have := (h x).1 (by simp); cases this
  | x :: l, y :: k, hl, hk, h => by
    rw [List.pairwise_cons] at hl hk
    have hxy : x = y := by
      rcases List.mem_cons.1 ((h x).1 (by simp)) with e | e
      · exact e
      · rcases List.mem_cons.1 ((h y).2 (by simp)) with e2 | e2
        · exact e2.symm
        · have h1 := hk.1 x e
          have h2 := hl.1 y e2
          omega
    subst hxy
    rw [srt_ext hl.2 hk.2 fun z => ?_]
    constructor
    · intro hz
      rcases List.mem_cons.1 ((h z).1 (by simp [hz])) with e | e
      · subst e
        have := hl.1 z hz
        omega
      · exact e
    · intro hz
      rcases List.mem_cons.1 ((h z).2 (by simp [hz])) with e | e
      · subst e
        have := hk.1 z hz
        omega
      · exact e
theorem can_uniq {m : List SlotT} (h : Can m) {x y : SlotT} (hx : x ∈ m) (hy : y ∈ m) (e : x.var = y.var) : x = y := by
  obtain ⟨i, hi⟩ := List.getElem?_of_mem hx
  obtain ⟨j, hj⟩ := List.getElem?_of_mem hy
  obtain ⟨hi1, hi2⟩ := List.getElem?_eq_some_iff.1 hi
  obtain ⟨hj1, hj2⟩ := List.getElem?_eq_some_iff.1 hj
  rcases Nat.lt_trichotomy i j with hij | hij | hij
  · have := (List.pairwise_iff_getElem.1 h.srt) i j hi1 hj1 hij
    rw [hi2, hj2] at this
    omega
  · subst hij
    rw [hi] at hj
    cases hj
    rfl
  · have := (List.pairwise_iff_getElem.1 h.srt) j i hj1 hi1 hij
    rw [hi2, hj2] at this
    omega
theorem getR_some {m : List SlotT} (h : Can m) {x : SlotT} (hx : x ∈ m) : getR m x.var = (x.value, true) := by
  unfold getR
  split
  · rename_i s hs
    have h1 := List.mem_of_find?_eq_some hs
    have h2 := List.find?_some hs
    have := can_uniq h h1 hx (by simpa using h2)
    rw [this]
  · rename_i hn
    have := List.find?_eq_none.1 hn x hx
    simp at this
theorem getR_none {m : List SlotT} {v : Int} (h : ∀ x ∈ m, x.var ≠ v) : getR m v = (v0, false) := by
  unfold getR
  split
  · rename_i s hs
    have h1 := List.mem_of_find?_eq_some hs
    have h2 := List.find?_some hs
    exact absurd (by simpa using h2) (h s h1)
  · rfl
end Go.Proofs.Ytjkdpahaingjjaa.Ab
