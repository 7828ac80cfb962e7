/-
  binding.Under, binding.Fits: the contracts; binding.Union. proctorlaw05.awake; the document's binding of slots. The binding of slots: the search's one is the document's. The binding of slots: the search's one is the document's (the end). The law BindingOf, walked. The binding of slots is the document's: the law BindingOf. How the arguments of the laws on bindings are read. How the arguments of the laws on bindings are read: their numbers are of 64 bits. How lists of bindings are read. No claim is proved here.
-/
import Derived.Test.YtjkdpahaingjjaaZRf4
import Derived.Test.YtjkdpahaingjjaaZRf5
import Derived.Test.YtjkdpahaingjjaaZAbTrod
namespace Go.Proofs.Ytjkdpahaingjjaa.Ab
open Go Go.RowKit
set_option linter.unusedSimpArgs false
set_option maxHeartbeats 4000000
set_option maxRecDepth 100000
variable {G : Nat → Option AV}
theorem pure_bool2 {P : Program} {f : Nat} {c d : AV} {r : Bool} (h : ∀ (w : World) (F : Nat → Prop) (u v : Value), Good w F G → Rd w F noNames c u → Rd w F noNames d v → Calls P f #[u, v] w fun e w' => e = .returned (.bool r) ∧ Below w.heap.size w w') : PureC P G f [c, d] (.bool r) := by
  intro w F vs hg ha
  obtain ⟨hs, hr⟩ := ha
  obtain ⟨l⟩ := vs
  match l, hs with
  | [u, v], _ =>
    refine (h w F u v hg (hr 0 c u rfl rfl) (hr 1 d v rfl rfl)).mono ?_
    rintro e w' ⟨rfl, hb⟩
    exact ⟨_, F, rfl, fun b h => h, fun b h => .inl h, fun b h => Nat.lt_of_lt_of_le (hg.1 b h) hb.size, .bool _ _, hb⟩
theorem binding_Under_pc (a b : List SlotT) (ha : a.length ≤ 1000000) (hb : b.length ≤ 1000000) : PureC Try.prog G n_binding_Under [slotsV a, slotsV b] (.bool (underR a b)) :=
  pure_bool2 fun _ _ _ _ hg h1 h2 => Under_calls a b ha hb hg h1 h2
theorem binding_Fits_pc (a b : List SlotT) (ha : a.length ≤ 1000000) (hb : b.length ≤ 1000000) : PureC Try.prog G n_binding_Fits [slotsV a, slotsV b] (.bool (fitsB a b)) :=
  pure_bool2 fun _ _ _ _ hg h1 h2 => Fits_calls a b ha hb hg h1 h2
def unionB (a b : List SlotT) : Option (List SlotT) := if fitsB a b then ofB (a ++ b) else none
theorem binding_Union_pc (a b : List SlotT) (ha : a.length ≤ 100) (hb : b.length ≤ 100) : PureC Try.prog G n_binding_Union [slotsV a, slotsV b] (ofV (unionB a b)) := by
  have h1 := binding_Fits_pc (G := G) a b (by omega) (by omega)
  have h2 := concat_pc (G := G) a b (by omega) (by omega)
  have h3 := binding_Of_pc (G := G) (a ++ b) (by rw [List.length_append]; omega)
  refine pc_binding_Union (Runs.of fun Φ h => ?_)
  unfold c_binding_Union
  unfold unionB at h
  cases hf : fitsB a b with
  | false =>
    rw [hf] at h h1
    rw [if_neg (by simp)] at h
    simp only [slotsV] at h1
    (try (simp -implicitDefEqProofs only [go_sem, Nat.reduceAdd, Nat.reduceSub, Nat.reduceMul, Nat.reduceLT, Nat.reduceLeDiff, Nat.reduceEqDiff, Nat.reduceBEq, Int.reduceNeg, Int.reduceAdd, Int.reduceLT, Int.reduceLE, Int.reduceToNat, Int.reduceEq, Int.reduceNe, Int.reduceBEq, Int.reduceBNe, Int.reduceMul, Int.reduceSub, reduceIte, reduceCtorEq, slotsV])); repeat' ((first | refine at_guard (fun hb => ?_) (fun hb => ?_) | refine ⟨fun hb => ?_, fun hb => ?_⟩ | refine at_call (h1) rfl rfl ?_ | fail) <;> (try (simp -implicitDefEqProofs only [go_sem, Nat.reduceAdd, Nat.reduceSub, Nat.reduceMul, Nat.reduceLT, Nat.reduceLeDiff, Nat.reduceEqDiff, Nat.reduceBEq, Int.reduceNeg, Int.reduceAdd, Int.reduceLT, Int.reduceLE, Int.reduceToNat, Int.reduceEq, Int.reduceNe, Int.reduceBEq, Int.reduceBNe, Int.reduceMul, Int.reduceSub, reduceIte, reduceCtorEq, slotsV])))
    exact h _ ⟨_, _, rfl, rfl, .refl _⟩
  | true =>
    rw [hf] at h h1
    rw [if_pos rfl] at h
    generalize ofB (a ++ b) = o at *
    simp only [slotsV, ofV] at h1 h2 h3
    (try (simp -implicitDefEqProofs only [go_sem, Nat.reduceAdd, Nat.reduceSub, Nat.reduceMul, Nat.reduceLT, Nat.reduceLeDiff, Nat.reduceEqDiff, Nat.reduceBEq, Int.reduceNeg, Int.reduceAdd, Int.reduceLT, Int.reduceLE, Int.reduceToNat, Int.reduceEq, Int.reduceNe, Int.reduceBEq, Int.reduceBNe, Int.reduceMul, Int.reduceSub, reduceIte, reduceCtorEq, slotsV])); repeat' ((first | refine at_guard (fun hb => ?_) (fun hb => ?_) | refine ⟨fun hb => ?_, fun hb => ?_⟩ | refine at_call (h1) rfl rfl ?_ | refine at_call (h2) rfl rfl ?_ | refine at_call (h3) rfl rfl ?_ | fail) <;> (try (simp -implicitDefEqProofs only [go_sem, Nat.reduceAdd, Nat.reduceSub, Nat.reduceMul, Nat.reduceLT, Nat.reduceLeDiff, Nat.reduceEqDiff, Nat.reduceBEq, Int.reduceNeg, Int.reduceAdd, Int.reduceLT, Int.reduceLE, Int.reduceToNat, Int.reduceEq, Int.reduceNe, Int.reduceBEq, Int.reduceBNe, Int.reduceMul, Int.reduceSub, reduceIte, reduceCtorEq, slotsV])))
    exact h _ ⟨_, _, rfl, rfl, .refl _⟩
end Go.Proofs.Ytjkdpahaingjjaa.Ab
namespace Go.Proofs.Ytjkdpahaingjjaa.Ab
open Go Go.RowKit
set_option linter.unusedSimpArgs false
set_option maxHeartbeats 4000000
set_option maxRecDepth 100000
variable {G : Nat → Option AV}
def aB : List SlotT := [⟨0, ⟨1, 5, [], false⟩⟩]
def bB : List SlotT := [⟨0, ⟨1, 5, [], false⟩⟩, ⟨1, ⟨1, 6, [], false⟩⟩]
theorem law05_awake_pc : PureC Try.prog G n_proctorlaw05_awake [] (.bool true) := by
  have h1 := binding_Union_pc (G := G) aB bB (by decide) (by decide)
  rw [show unionB aB bB = some bB by decide +kernel] at h1
  have h2 := binding_Under_pc (G := G) aB bB (by decide) (by decide)
  rw [show underR aB bB = true by decide +kernel] at h2
  have h3 := binding_Right_pc (G := G) bB (by decide)
  rw [show bindOk bB = true by decide +kernel] at h3
  refine pc_proctorlaw05_awake (Runs.of fun Φ h => ?_)
  unfold c_proctorlaw05_awake
  simp only [slotsV, ofV, aB, bB, slotV, List.map_cons, List.map_nil, Option.getD_some, Option.isSome_some] at h1 h2 h3
  (try (simp -implicitDefEqProofs only [go_sem, Nat.reduceAdd, Nat.reduceSub, Nat.reduceMul, Nat.reduceLT, Nat.reduceLeDiff, Nat.reduceEqDiff, Nat.reduceBEq, Int.reduceNeg, Int.reduceAdd, Int.reduceLT, Int.reduceLE, Int.reduceToNat, Int.reduceEq, Int.reduceNe, Int.reduceBEq, Int.reduceBNe, Int.reduceMul, Int.reduceSub, reduceIte, reduceCtorEq])); repeat' ((first | refine at_guard (fun hb => ?_) (fun hb => ?_) | refine ⟨fun hb => ?_, fun hb => ?_⟩ | refine at_call (h1) rfl rfl ?_ | refine at_call (h2) rfl rfl ?_ | refine at_call (h3) rfl rfl ?_ | fail) <;> (try (simp -implicitDefEqProofs only [go_sem, Nat.reduceAdd, Nat.reduceSub, Nat.reduceMul, Nat.reduceLT, Nat.reduceLeDiff, Nat.reduceEqDiff, Nat.reduceBEq, Int.reduceNeg, Int.reduceAdd, Int.reduceLT, Int.reduceLE, Int.reduceToNat, Int.reduceEq, Int.reduceNe, Int.reduceBEq, Int.reduceBNe, Int.reduceMul, Int.reduceSub, reduceIte, reduceCtorEq])))
  all_goals first
    | exact h _ ⟨_, _, rfl, rfl, .refl _⟩
    | (exfalso; revert hb; decide)
end Go.Proofs.Ytjkdpahaingjjaa.Ab
namespace Go.Proofs.Ytjkdpahaingjjaa.Ab
open Go
set_option linter.unusedSimpArgs false
/-- A slot that may be. -/
def goodS (s : SlotT) : Prop := 0 ≤ s.var ∧ s.var ≤ 7 ∧ s.value.ok = true
/-- Rising variables, slots that may be. -/
structure Can (m : List SlotT) : Prop where
  srt : m.Pairwise fun a b => a.var < b.var
  good : ∀ s ∈ m, goodS s
theorem allI_iff {α : Type} {p : Nat → α → Bool} {l : List α} : allI p l = true ↔ ∀ i x, l[i]? = some x → p i x = true := allI_true
theorem can_of {m : List SlotT} (h : bindOk m = true) : Can m := by
  have h' := allI_iff.1 h
  have hg : ∀ i x, m[i]? = some x → goodS x := fun i x hx => by
    have := h' i x hx
    unfold slotOk at this
    simp only [Bool.and_eq_true, decide_eq_true_eq] at this
    exact ⟨this.1, this.2.1, this.2.2.1⟩
  refine ⟨?_, fun s hs => by obtain ⟨i, hi⟩ := List.getElem?_of_mem hs; exact hg i s hi⟩
  have step : ∀ i x y, m[i]? = some x → m[i + 1]? = some y → x.var < y.var := fun i x y hx hy => by
    have := h' (i + 1) y hy
    unfold slotOk at this
    simp only [Nat.add_sub_cancel, hx, Bool.and_eq_true, decide_eq_true_eq, Bool.or_eq_true, beq_iff_eq] at this
    rcases this.2.2.2 with h | h
    · omega
    · exact h
  have far : ∀ d i x y, m[i]? = some x → m[i + 1 + d]? = some y → x.var < y.var := fun d => by
    induction d with
    | zero => intro i x y hx hy; exact step i x y hx hy
    | succ d ih =>
      intro i x y hx hy
      have hl := (List.getElem?_eq_some_iff.1 hy).1
      obtain ⟨z, hz, _⟩ := at_some (l := m) (i := i + 1 + d) (by omega)
      have h1 := ih i x z hx hz
      have h2 := step (i + 1 + d) z y hz (by rw [show i + 1 + d + 1 = i + 1 + (d + 1) by omega]; exact hy)
      omega
  rw [List.pairwise_iff_getElem]
  intro i j hi hj hij
  exact far (j - i - 1) i m[i] m[j] (List.getElem?_eq_getElem hi) (by rw [show i + 1 + (j - i - 1) = j by omega]; exact List.getElem?_eq_getElem hj)
end Go.Proofs.Ytjkdpahaingjjaa.Ab
namespace Go.Proofs.Ytjkdpahaingjjaa.Ab
open Go
set_option linter.unusedSimpArgs false
end Go.Proofs.Ytjkdpahaingjjaa.Ab
namespace Go.Proofs.Ytjkdpahaingjjaa.Ab
open Go Go.RowKit
set_option linter.unusedSimpArgs false
set_option maxHeartbeats 4000000
set_option maxRecDepth 100000
variable {G : Nat → Option AV}
end Go.Proofs.Ytjkdpahaingjjaa.Ab
namespace Go.Proofs.Ytjkdpahaingjjaa.Ab
open Go Go.RowKit
set_option linter.unusedSimpArgs false
variable {G : Nat → Option AV}
end Go.Proofs.Ytjkdpahaingjjaa.Ab
namespace Go.Proofs.Ytjkdpahaingjjaa.Ab
open Go Go.ChangeShapes Go.WideShapes Go.RowKit
set_option linter.unusedSimpArgs false
set_option maxRecDepth 100000
theorem rInt {t : Nat} (ht : Try.prog.underlying t = some (.int .i64)) (hs : Try.prog.cellsOf t = 1) : RdT Try.prog t 1 fun cs => ∃ n : Int, cs = [iv n] :=
  (rd_int ht hs).mono (by rintro _ ⟨n, rfl, _⟩; exact ⟨n, rfl⟩)
theorem rStr {t : Nat} (ht : Try.prog.underlying t = some .string) (hs : Try.prog.cellsOf t = 1) : RdT Try.prog t 1 fun cs => ∃ s : Str, cs = [.str s] :=
  (rd_str ht hs).mono (by rintro _ ⟨n, rfl, _⟩; exact ⟨n, rfl⟩)
theorem rd_list {α : Type} {f : α → AV} {t e sz : Nat} (ht : Try.prog.underlying t = some (.slice e)) (hs : Try.prog.cellsOf t = 1) (h : RdT Try.prog e sz fun cs => ∃ a : α, .agg cs = f a) (h0 : 0 < sz) :
    RdT Try.prog t 1 fun cs => ∃ l : List α, cs = [.seq sz (l.map f)] ∧ l.length ≤ maxLen :=
  (rd_slice true ht hs h h0 (by intro h; cases h)).mono (by
    rintro _ ⟨es, rfl, hl, h⟩
    obtain ⟨l, rfl⟩ := list_of (f := f) (fun x hx => by obtain ⟨_, ⟨o, e⟩, rfl⟩ := h x hx; exact ⟨o, e⟩)
    exact ⟨l, rfl, by simpa using hl⟩)
theorem rValP : RdT Try.prog 38 4 fun cs => ∃ v : Val, cs = [iv v.kind, iv v.int, .str v.str, .bool v.bool] :=
  (rd_struct (t := 38) (fs := (Try.prog.fieldsOf 38)) (by kernel_rfl) (by kernel_rfl) (rdf_cons (f := (Try.prog.fieldsOf 38)[0]!) (rInt (by kernel_rfl) (by kernel_rfl)) (by kernel_rfl) rfl (rdf_cons (f := (Try.prog.fieldsOf 38)[1]!) (rInt (by kernel_rfl) (by kernel_rfl)) (by kernel_rfl) rfl (rdf_cons (f := (Try.prog.fieldsOf 38)[2]!) (rStr (by kernel_rfl) (by kernel_rfl)) (by kernel_rfl) rfl (rdf_cons (f := (Try.prog.fieldsOf 38)[3]!) (rd_bool (by kernel_rfl) (by kernel_rfl)) (by kernel_rfl) rfl (rdf_nil _)))))).mono (by
    rintro _ ⟨_, _, rfl, ⟨a, rfl⟩, _, _, rfl, ⟨b, rfl⟩, _, _, rfl, ⟨c, rfl⟩, _, _, rfl, ⟨d, rfl⟩, rfl⟩
    exact ⟨⟨a, b, c, d⟩, rfl⟩)
theorem rSlotP : RdT Try.prog 40 5 fun cs => ∃ a : SlotT, .agg cs = slotV a :=
  (rd_struct (t := 40) (fs := (Try.prog.fieldsOf 40)) (by kernel_rfl) (by kernel_rfl) (rdf_cons (f := (Try.prog.fieldsOf 40)[0]!) (rInt (by kernel_rfl) (by kernel_rfl)) (by kernel_rfl) rfl (rdf_cons (f := (Try.prog.fieldsOf 40)[1]!) rValP (by kernel_rfl) rfl (rdf_nil _)))).mono (by
    rintro _ ⟨_, _, rfl, ⟨a, rfl⟩, _, _, rfl, ⟨v, rfl⟩, rfl⟩
    exact ⟨⟨a, v⟩, rfl⟩)
theorem rSlotsP : RdT Try.prog 22 1 fun cs => ∃ l : List SlotT, cs = [slotsV l] :=
  (rd_list (t := 22) (by kernel_rfl) (by kernel_rfl) rSlotP (by decide)).mono (by
    rintro _ ⟨l, rfl, _⟩
    exact ⟨l, rfl⟩)
end Go.Proofs.Ytjkdpahaingjjaa.Ab
namespace Go.Proofs.Ytjkdpahaingjjaa.Ab
open Go Go.ChangeShapes Go.WideShapes Go.RowKit
set_option linter.unusedSimpArgs false
set_option maxRecDepth 100000
end Go.Proofs.Ytjkdpahaingjjaa.Ab
namespace Go.Proofs.Ytjkdpahaingjjaa.Ab
open Go Go.ChangeShapes Go.WideShapes Go.RowKit
set_option linter.unusedSimpArgs false
set_option maxRecDepth 100000
theorem rLists : RdT Try.prog 30 1 fun cs => ∃ l : List (List SlotT), cs = [.seq 1 (l.map slotsV)] :=
  (rd_slice false (t := 30) (by kernel_rfl) (by kernel_rfl) rSlotsP (by decide) (by rintro _ _ ⟨l, rfl⟩; exact ⟨_, rfl, rfl⟩)).mono (by
    rintro _ ⟨es, rfl, hl, h⟩
    obtain ⟨l, rfl⟩ := list_of (f := slotsV) (fun x hx => by obtain ⟨_, ⟨o, rfl⟩, rfl⟩ := h x hx; exact ⟨o, rfl⟩)
    exact ⟨l, rfl⟩)
end Go.Proofs.Ytjkdpahaingjjaa.Ab
