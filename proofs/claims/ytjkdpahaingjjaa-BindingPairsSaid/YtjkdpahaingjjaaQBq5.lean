/-
  binding.Key: a binding's key; no two bindings have one. Bindings that fit: both together. No claim is proved here.
-/
import Derived.Test.YtjkdpahaingjjaaQBq3
import Derived.Test.YtjkdpahaingjjaaQC4
import Derived.Test.YtjkdpahaingjjaaQBr2
import Derived.Test.YtjkdpahaingjjaaQBp1
namespace Go.Proofs.Ytjkdpahaingjjaa.Ab
open Go Go.RowKit
set_option linter.unusedSimpArgs false
set_option maxHeartbeats 4000000
set_option maxRecDepth 100000
variable {G : Nat → Option AV}
def keySl (s : SlotT) : Str := UInt8.ofNat (s.var + 16).toNat :: keyOne s.value
def keyB (l : List SlotT) : Str := l.flatMap keySl
/-- A slot with a key. -/
structure SlotT.Key (s : SlotT) : Prop where
  v0 : 0 ≤ s.var
  v7 : s.var ≤ 7
  ok : s.value.ok = true
  n64 : i64 s.value.int
  len : s.value.str.length ≤ 1000
theorem keyB_succ {l : List SlotT} {i : Nat} {s : SlotT} (h : l[i]? = some s) : keyB (l.take (i + 1)) = keyB (l.take i) ++ keySl s := by
  rw [take_at h]
  simp [keyB]
theorem keyB_len : ∀ (l : List SlotT), (∀ s ∈ l, s.value.str.length ≤ 1000) → (keyB l).length ≤ 2010 * l.length
  | [], _ => by simp [keyB]
  | s :: l, h => by
    have h1 := keyOne_len s.value
    have h2 := h s (by simp)
    have h3 := keyB_len l fun x hx => h x (by simp [hx])
    simp only [keyB, keySl, List.flatMap_cons, List.length_append, List.length_cons] at *
    omega
theorem keyB_inj : ∀ {a b : List SlotT}, (∀ s ∈ a, s.Key) → (∀ s ∈ b, s.Key) → keyB a = keyB b → a = b
  | [], [], _, _, _ => rfl
  | [], y :: b, _, _, h => by simp [keyB, keySl] at h
  | x :: a, [], _, _, h => by simp [keyB, keySl] at h
  | x :: a, y :: b, ha, hb, h => by
    have kx := ha x (by simp)
    have ky := hb y (by simp)
    simp only [keyB, keySl, List.flatMap_cons, List.cons_append, List.cons.injEq] at h
    obtain ⟨h0, h1⟩ := h
    have hv : x.var = y.var := by
      have := congrArg UInt8.toNat h0
      have := kx.v0; have := kx.v7; have := ky.v0; have := ky.v7
      simp at *
      omega
    obtain ⟨e1, e2⟩ := keyOne_inj kx.ok ky.ok kx.n64 ky.n64 h1
    have e3 := keyB_inj (a := a) (b := b) (fun s hs => ha s (by simp [hs])) (fun s hs => hb s (by simp [hs])) e2
    obtain ⟨v1, w1⟩ := x
    obtain ⟨v2, w2⟩ := y
    simp only at hv e1
    rw [hv, e1, e3]
theorem binding_Key_pc (l : List SlotT) (hl : l.length ≤ 1000) (hok : ∀ s ∈ l, s.Key) : PureC Try.prog G n_binding_Key [slotsV l] (.str (keyB l)) := by
  refine pc_binding_Key (Runs.of fun Φ h => ?_)
  unfold c_binding_Key
  simp -implicitDefEqProofs only [go_sem, Nat.reduceAdd, Nat.reduceSub, Nat.reduceMul, Nat.reduceLT, Nat.reduceLeDiff, Nat.reduceEqDiff, Nat.reduceBEq, Int.reduceNeg, Int.reduceAdd, Int.reduceLT, Int.reduceLE, Int.reduceToNat, Int.reduceEq, Int.reduceNe, Int.reduceBEq, Int.reduceBNe, Int.reduceMul, Int.reduceSub, reduceIte, reduceCtorEq, slotsV, List.length_map]
  refine at_loop (fun n st => ∃ (i : Nat) (m : Str), i + n = l.length ∧ st = ⟨27, [(3, .arr 3 0 m.length), (6, .seq 5 (l.map slotV)), (7, iv l.length), (8, iv i)], [(3, ⟨true, t_uint8, 1, m.map byV⟩)]⟩ ∧ m = keyB (l.take i)) l.length ⟨0, [], by simp, rfl, rfl⟩ ?_
  rintro I hI n st ⟨i, m, hi, rfl, hm⟩
  have hml : m.length ≤ 2010000 := by
    have := keyB_len (l.take i) fun v hv => (hok v (List.mem_of_mem_take hv)).len
    rw [hm]
    simp only [List.length_take] at this
    omega
  simp -implicitDefEqProofs only [go_sem, Nat.reduceAdd, Nat.reduceSub, Nat.reduceMul, Nat.reduceLT, Nat.reduceLeDiff, Nat.reduceEqDiff, Nat.reduceBEq, Int.reduceNeg, Int.reduceAdd, Int.reduceLT, Int.reduceLE, Int.reduceToNat, Int.reduceEq, Int.reduceNe, Int.reduceBEq, Int.reduceBNe, Int.reduceMul, Int.reduceSub, reduceIte, reduceCtorEq, List.length_map]
  refine ⟨fun hlt => ?_, fun hge => ?_⟩
  · have hlt' : i < l.length := by omega
    obtain ⟨s, hs, hsm⟩ := at_some hlt'
    have hw := wrap_succ hlt' (by omega)
    have hk := hok s hsm
    have h2 := key_Of_pc (G := G) [s.value] (by simp) (fun v hv => by simp only [List.mem_singleton] at hv; rw [hv]; exact ⟨hk.ok, hk.n64, hk.len⟩)
    rw [show keyVs [s.value] = keyOne s.value by simp [keyVs]] at h2
    have hkl := keyOne_len s.value
    have hsl := hk.len
    have hb1 : m.length + 1 ≤ 140737488355328 := by omega
    have hb2 : m.length + 1 + (keyOne s.value).length ≤ 140737488355328 := by omega
    have hnx := keyB_succ hs
    rw [← hm, keySl] at hnx
    have h0 := hk.v0
    have h7 := hk.v7
    have hw16 : IntKind.i64.wrap (s.var + 16) = s.var + 16 := wrap_i64 (by omega) (by omega)
    have hby : IntKind.u8.wrap (s.var + 16) = ((UInt8.ofNat (s.var + 16).toNat).toNat : Int) := by
      simp [IntKind.wrap, IntKind.bits, IntKind.signed]
      omega
    clear hk hkl hsl h0 h7
    generalize keyOne s.value = y at *
    obtain ⟨v, ⟨k, n', t, b⟩⟩ := s
    simp only [valsV, valV, List.map_cons, List.map_nil] at h2 hby hnx hw16
    generalize UInt8.ofNat (v + 16).toNat = z at *
    (try (simp -implicitDefEqProofs only [go_sem, Nat.reduceAdd, Nat.reduceSub, Nat.reduceMul, Nat.reduceLT, Nat.reduceLeDiff, Nat.reduceEqDiff, Nat.reduceBEq, Int.reduceNeg, Int.reduceAdd, Int.reduceLT, Int.reduceLE, Int.reduceToNat, Int.reduceEq, Int.reduceNe, Int.reduceBEq, Int.reduceBNe, Int.reduceMul, Int.reduceSub, reduceIte, reduceCtorEq, aiaddr_map hs, slotV, valV, bytesV, hw, hw16, hby, List.length_map, List.length_append, hb1, hb2, Nat.mul_one])); repeat' ((first | refine at_guard (fun hb => ?_) (fun hb => ?_) | refine ⟨fun hb => ?_, fun hb => ?_⟩ | refine at_call (h2) rfl rfl ?_ | refine at_lcall (h2) rfl rfl ?_ | (refine And.intro (a := lcallT ..) ?_ ?_) | fail) <;> (try (simp -implicitDefEqProofs only [go_sem, Nat.reduceAdd, Nat.reduceSub, Nat.reduceMul, Nat.reduceLT, Nat.reduceLeDiff, Nat.reduceEqDiff, Nat.reduceBEq, Int.reduceNeg, Int.reduceAdd, Int.reduceLT, Int.reduceLE, Int.reduceToNat, Int.reduceEq, Int.reduceNe, Int.reduceBEq, Int.reduceBNe, Int.reduceMul, Int.reduceSub, reduceIte, reduceCtorEq, aiaddr_map hs, slotV, valV, bytesV, hw, hw16, hby, List.length_map, List.length_append, hb1, hb2, Nat.mul_one])))
    all_goals
      refine at_again (n - 1) (by omega) (hI _ _ ⟨i + 1, m ++ z :: y, by omega, ?_, hnx.symm⟩)
      simp [byV]
      try omega
  · rw [List.take_of_length_le (by omega)] at hm
    subst hm
    have ht : List.take (keyB l).length ((keyB l).map byV) = (keyB l).map byV := List.take_of_length_le (by simp)
    generalize keyB l = ks at *
    (try (simp -implicitDefEqProofs only [go_sem, Nat.reduceAdd, Nat.reduceSub, Nat.reduceMul, Nat.reduceLT, Nat.reduceLeDiff, Nat.reduceEqDiff, Nat.reduceBEq, Int.reduceNeg, Int.reduceAdd, Int.reduceLT, Int.reduceLE, Int.reduceToNat, Int.reduceEq, Int.reduceNe, Int.reduceBEq, Int.reduceBNe, Int.reduceMul, Int.reduceSub, reduceIte, reduceCtorEq, ht, asBytes_map, Nat.le_refl, if_true, Option.map_some])); repeat' ((first | refine at_guard (fun hb => ?_) (fun hb => ?_) | refine ⟨fun hb => ?_, fun hb => ?_⟩ | fail) <;> (try (simp -implicitDefEqProofs only [go_sem, Nat.reduceAdd, Nat.reduceSub, Nat.reduceMul, Nat.reduceLT, Nat.reduceLeDiff, Nat.reduceEqDiff, Nat.reduceBEq, Int.reduceNeg, Int.reduceAdd, Int.reduceLT, Int.reduceLE, Int.reduceToNat, Int.reduceEq, Int.reduceNe, Int.reduceBEq, Int.reduceBNe, Int.reduceMul, Int.reduceSub, reduceIte, reduceCtorEq, ht, asBytes_map, Nat.le_refl, if_true, Option.map_some])))
    exact h _ ⟨_, _, rfl, rfl, .refl _⟩
end Go.Proofs.Ytjkdpahaingjjaa.Ab
namespace Go.Proofs.Ytjkdpahaingjjaa.Ab
open Go
set_option linter.unusedSimpArgs false
theorem fits_eq {a b : List SlotT} (hb : Can b) (h : fitsB a b = true) {x y : SlotT} (hx : x ∈ a) (hy : y ∈ b) (e : x.var = y.var) : x = y := by
  have := List.all_eq_true.1 h x hx
  unfold fitsOne at this
  have hg := getR_some hb hy
  rw [← e] at hg
  rw [hg] at this
  simp only [Bool.not_true, Bool.false_or, decide_eq_true_eq] at this
  obtain ⟨v1, w1⟩ := x
  obtain ⟨v2, w2⟩ := y
  simp only at e this
  rw [e, this]
theorem mem_unionR {a b : List SlotT} (ha : Can a) (hb : Can b) (h : fitsB a b = true) {x : SlotT} : x ∈ unionR a b ↔ x ∈ a ∨ x ∈ b := by
  show x ∈ unionN a b 8 ↔ _
  rw [mem_unionN]
  constructor
  · rintro ⟨v, hv, hx⟩
    unfold unionOne at hx
    split at hx
    · rename_i h1
      obtain ⟨y, hy, e1, e2⟩ := getR_yes2 h1
      simp only [List.mem_singleton] at hx
      left
      rw [hx, e2, ← e1]
      exact hy
    · split at hx
      · rename_i h2
        obtain ⟨y, hy, e1, e2⟩ := getR_yes2 h2
        simp only [List.mem_singleton] at hx
        right
        rw [hx, e2, ← e1]
        exact hy
      · cases hx
  · have key : ∀ y : SlotT, goodS y → ∃ v : Nat, v < 8 ∧ (v : Int) = y.var := fun y hy => ⟨y.var.toNat, by have := hy.1; have := hy.2.1; omega, by have := hy.1; omega⟩
    rintro (hx | hx)
    · obtain ⟨v, hv, e⟩ := key x (ha.good x hx)
      refine ⟨v, hv, ?_⟩
      unfold unionOne
      rw [e, getR_some ha hx]
      simp
    · obtain ⟨v, hv, e⟩ := key x (hb.good x hx)
      refine ⟨v, hv, ?_⟩
      unfold unionOne
      rw [e]
      by_cases hy : ∃ y ∈ a, y.var = x.var
      · obtain ⟨y, hy, e2⟩ := hy
        have : y = x := fits_eq hb h hy hx e2
        subst this
        rw [getR_some ha hy]
        simp
      · rw [getR_none fun y h e => hy ⟨y, h, e⟩, getR_some hb hx]
        simp
theorem refGo_ok : ∀ (l m : List SlotT), Can m → (∀ s ∈ l, goodS s) → (∀ x ∈ m ++ l, ∀ y ∈ m ++ l, x.var = y.var → x = y) → ∃ r, refGo m l = some r ∧ Can r ∧ ∀ x, x ∈ r ↔ x ∈ m ∨ x ∈ l
  | [], m, hm, _, _ => ⟨m, rfl, hm, fun x => by simp⟩
  | s :: l, m, hm, hg, hc => by
    have hs := hg s (by simp)
    have hbad : badS m s = false := by
      rw [badS_good hs]
      by_cases hy : ∃ y ∈ m, y.var = s.var
      · obtain ⟨y, hy, e⟩ := hy
        have : y = s := hc y (by simp [hy]) s (by simp) e
        subst this
        rw [getR_some hm hy]
        simp
      · rw [getR_none fun y h e => hy ⟨y, h, e⟩]
        simp
    have hmem : ∀ x, x ∈ unionR m [s] ↔ x ∈ m ∨ x = s := fun x => by
      rw [mem_union hm hs]
      constructor
      · rintro (h | ⟨h, _⟩)
        · exact .inl h
        · exact .inr h
      · rintro (h | rfl)
        · exact .inl h
        · by_cases hx : x ∈ m
          · exact .inl hx
          · exact .inr ⟨rfl, fun y hy e => hx (hc y (by simp [hy]) x (by simp) e ▸ hy)⟩
    obtain ⟨r, h1, h2, h3⟩ := refGo_ok l (unionR m [s]) (union_can hm hs) (fun x hx => hg x (by simp [hx])) (fun x hx y hy e => by
      have aux : ∀ z, z ∈ unionR m [s] ++ l → z ∈ m ++ s :: l := fun z hz => by
        rw [List.mem_append, hmem] at hz
        simp only [List.mem_append, List.mem_cons]
        rcases hz with (h | h) | h
        · exact .inl h
        · exact .inr (.inl h)
        · exact .inr (.inr h)
      exact hc x (aux x hx) y (aux y hy) e)
    refine ⟨r, by rw [refGo, hbad]; exact h1, h2, fun x => ?_⟩
    rw [h3, hmem, List.mem_cons]
    exact ⟨fun h => h.elim (fun h => h.elim .inl fun h => .inr (.inl h)) fun h => .inr (.inr h), fun h => h.elim (fun h => .inl (.inl h)) fun h => h.elim (fun h => .inl (.inr h)) .inr⟩
theorem unionB_fits {a b : List SlotT} (ha : Can a) (hb : Can b) (h : fitsB a b = true) : unionB a b = some (unionR a b) ∧ Can (unionR a b) := by
  obtain ⟨r, h1, h2, h3⟩ := refGo_ok (a ++ b) [] ⟨List.Pairwise.nil, fun x hx => by cases hx⟩ (fun s hs => by
    rcases List.mem_append.1 hs with h | h
    · exact ha.good s h
    · exact hb.good s h) (fun x hx y hy e => by
    rw [List.nil_append] at hx hy
    rcases List.mem_append.1 hx with h1 | h1 <;> rcases List.mem_append.1 hy with h2 | h2
    · exact can_uniq ha h1 h2 e
    · exact fits_eq hb h h1 h2 e
    · exact (fits_eq hb h h2 h1 e.symm).symm
    · exact can_uniq hb h1 h2 e)
  have e : r = unionR a b := srt_ext h2.srt (unionN_srt a b 8) fun x => by
    rw [h3, mem_unionR ha hb h]
    simp
  subst e
  refine ⟨?_, h2⟩
  unfold unionB
  rw [if_pos h, ofB_ref]
  exact h1
theorem under_can {a u : List SlotT} (hu : Can u) (h : ∀ x ∈ a, x ∈ u) : underR a u = true := by
  unfold underR
  rw [List.all_eq_true]
  intro x hx
  unfold underOne
  rw [getR_some hu (h x hx)]
  simp
end Go.Proofs.Ytjkdpahaingjjaa.Ab
