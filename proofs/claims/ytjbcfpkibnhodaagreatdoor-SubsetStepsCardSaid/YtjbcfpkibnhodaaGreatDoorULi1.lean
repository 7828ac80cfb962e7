/-
  subset.Next: to which states symbols lead, and what is known from then on. A row of the call's own is written no more. The example of chapter 28: awake. The law ConfigPairs. What an expression comes to has the expression's kind. A strict order, total at what is sound: rows in order, each once: two ways. binding, proctorref05: which may be; under, fits, union. binding.Under, walked. binding.Fits, walked. binding.Same; proctorref05.Under, Fits. The order of bindings: total, of values that may be. The order of configurations: total, of values that may be; their sets, two ways. The law EvalFree. step: what a hit makes of a configuration may be. Where a guard begins, and guards without variables. No claim is proved here.
-/
import Derived.Test.YtjbcfpkibnhodaaGreatDoorUSb7
import Derived.RangeFuncNested
import Derived.RangeFuncBound
import Derived.OwnWalkIn
import Derived.TacticsInMore
import Derived.LoopNIn
import Derived.LoopIn
namespace Go.Proofs.YtjbcfpkibnhodaaGreatDoor.Ab
open Go Go.RowKit
set_option linter.unusedSimpArgs false
set_option maxHeartbeats 4000000
set_option maxRecDepth 100000
variable {G : Nat → Option AV}
abbrev Known := List ((Nat × Nat) × Nat)
def findK (p : Nat × Nat) : Known → Nat → Option (Nat × AV)
  | [], _ => none
  | e :: r, i => if e.1 = p then some (i, .int .u32 (e.2 : Int)) else findK p r (i + 1)
theorem keyEq_pair (p e : Nat × Nat) : keyEq true [0, 0] (pairV p) (pairV e) = some (decide (e = p)) := by
  obtain ⟨a, b⟩ := p
  obtain ⟨c, d⟩ := e
  have e1 : ((a : Int) == (c : Int)) = decide (c = a) := by rw [Bool.eq_iff_iff, beq_iff_eq, decide_eq_true_eq]; omega
  have e2 : ((b : Int) == (d : Int)) = decide (d = b) := by rw [Bool.eq_iff_iff, beq_iff_eq, decide_eq_true_eq]; omega
  simp only [keyEq, pairV, isAggV, AV.cells, aeqs, leafEq, andO, if_true, and_self, e1, e2, Bool.and_true, Option.some.injEq]
  rw [Bool.eq_iff_iff]
  simp
theorem mfind_known (p : Nat × Nat) : ∀ (K : Known) (i : Nat), mfind true [0, 0] (pairV p) (K.map entV) i = some (findK p K i)
  | [], _ => rfl
  | e :: r, i => by
    rw [List.map_cons, entV, mfind, keyEq_pair, findK]
    by_cases h : e.1 = p
    · rw [if_pos h, decide_eq_true h]
    · rw [if_neg h, decide_eq_false h]
      exact mfind_known p r (i + 1)
def OkK (q : QeaT) (K : Known) : Prop := ∀ e ∈ K, e.2 = nextN q e.1.1 e.1.2
def keysK (K : Known) : List (Nat × Nat) := K.map (·.1)
def hasK (K : Known) (p : Nat × Nat) : Bool := (keysK K).any fun x => decide (x = p)
theorem find_none {p : Nat × Nat} : ∀ {K : Known} {i : Nat}, hasK K p = false → findK p K i = none
  | [], _, _ => rfl
  | e :: r, i, h => by
    unfold hasK keysK at h
    rw [List.map_cons, List.any_cons, Bool.or_eq_false_iff, decide_eq_false_iff_not] at h
    rw [findK, if_neg h.1]
    exact find_none h.2
theorem find_some {q : QeaT} {p : Nat × Nat} : ∀ {K : Known} {i : Nat}, OkK q K → hasK K p = true → ∃ j, findK p K i = some (j, .int .u32 (nextN q p.1 p.2 : Int))
  | [], _, _, h => by cases h
  | e :: r, i, hK, h => by
    unfold hasK keysK at h
    rw [List.map_cons, List.any_cons, Bool.or_eq_true, decide_eq_true_eq] at h
    rw [findK]
    by_cases he : e.1 = p
    · rw [if_pos he, hK e (by simp), he]
      exact ⟨i, rfl⟩
    · rw [if_neg he]
      exact find_some (fun x hx => hK x (by simp [hx])) (h.resolve_left he)
def stepN (q : QeaT) (p : Nat × Nat) : Nat := if p.2 = 0 then p.1 else nextN q p.1 p.2
def addK (q : QeaT) (K : Known) (p : Nat × Nat) : Known := if p.2 = 0 then K else if hasK K p = true then K else K ++ [(p, nextN q p.1 p.2)]
theorem addK_ok {q : QeaT} {K : Known} (h : OkK q K) (p : Nat × Nat) : OkK q (addK q K p) := by
  unfold addK
  split
  · exact h
  · split
    · exact h
    · intro e he
      rcases List.mem_append.1 he with he | he
      · exact h e he
      · obtain rfl := List.mem_singleton.1 he; rfl
theorem nextGo_lt {q : QeaT} (hq : MaskQ q) {m k : Nat} : ∀ (l : List StateT) (i a : Nat), i + l.length ≤ 32 → a < 4294967296 → nextGo q m k l i a < 4294967296
  | [], _, a, _, h => h
  | x :: l, i, a, hi, h => by
    rw [List.length_cons] at hi
    rw [nextGo]
    refine nextGo_lt hq l _ _ (by omega) ?_
    split
    · exact Nat.or_lt_two_pow (n := 32) h (stayN_lt hq k (by omega) x)
    · exact h
theorem nextN_lt {q : QeaT} (hq : MaskQ q) (m k : Nat) : nextN q m k < 4294967296 := nextGo_lt hq _ _ _ (by have := hq.states; omega) (by decide)
theorem own_and {q : QeaT} {m k : Nat} : ownN q (m, k) = (m &&& (2 ^ q.states.length - 1), k &&& (2 ^ q.symbols.length - 1)) := by
  unfold ownN
  rw [Nat.and_two_pow_sub_one_eq_mod, Nat.and_two_pow_sub_one_eq_mod]
theorem Auto_Next_hc (q : QeaT) (hq : MaskQ q) (K : Known) (hK : OkK q K) (m k : Nat) (hm : m < 4294967296) (hk : k < 18446744073709551616) :
    HeapC Tryz.prog G n_subset_Auto_Next [.ref 1001 0 0, .int .u32 (m : Int), .int .u64 (k : Int)] [(1001, autoBox q 1002), (1002, mapBox K)]
      (.int .u32 (stepN q (ownN q (m, k)) : Int)) [(1001, autoBox q 1002), (1002, mapBox (addK q K (ownN q (m, k))))] := by
  have hsl := hq.states
  have hkl := hq.symbols
  have g1 := band32 (a := m) (b := 2 ^ q.states.length - 1) hm (by have := pow32 (s := q.states.length) (by omega); omega)
  have g2 := band64 (a := k) (b := 2 ^ q.symbols.length - 1) hk (by have := pow64 (s := q.symbols.length) (by omega); omega)
  have hx : m &&& (2 ^ q.states.length - 1) < 4294967296 := Nat.lt_of_le_of_lt Nat.and_le_left hm
  have hy : k &&& (2 ^ q.symbols.length - 1) < 18446744073709551616 := Nat.lt_of_le_of_lt Nat.and_le_left hk
  refine hc_subset_Auto_Next (RunsH.of fun Φ h => ?_)
  unfold c_subset_Auto_Next
  rw [own_and] at h
  have fin : ∀ v heap, stepN q (m &&& (2 ^ q.states.length - 1), k &&& (2 ^ q.symbols.length - 1)) = v → subH heap [(1001, autoBox q 1002), (1002, mapBox (addK q K (m &&& (2 ^ q.states.length - 1), k &&& (2 ^ q.symbols.length - 1))))] → Φ ⟨59, [(6, .int .u32 (v : Int))], heap⟩ := fun v heap e1 e => h _ ⟨_, _, Weak.refl _, rfl, fit_eq (by rw [e1]; rfl), e.at⟩
  clear h
  unfold autoBox autoE mapBox at *
  generalize m &&& (2 ^ q.states.length - 1) = x at *
  generalize k &&& (2 ^ q.symbols.length - 1) = y at *
  generalize 2 ^ q.states.length - 1 = p at *
  generalize 2 ^ q.symbols.length - 1 = r at *
  have hfm := mfind_known (x, y) K 0
  by_cases h0 : y = 0
  · have e0 : ((y : Int) == 0) = true := by simp [h0]
    rw [addK, if_pos h0, stepN, if_pos h0] at fin
    repeat' (first | (simp -implicitDefEqProofs only [go_sem, g1, g2, e0, qeaV, declsV, quantsV, freesV, statesV, symsV, nodesV, transsV]) | refine at_guard (fun hb => ?_) (fun hb => ?_) | refine ⟨fun hb => ?_, fun hb => ?_⟩ | fail)
    exact fin _ _ rfl ⟨rfl, rfl, trivial⟩
  · have e0 : ((y : Int) == 0) = false := by simp; omega
    rw [addK, if_neg h0, stepN, if_neg h0] at fin
    cases hh : hasK K (x, y) with
    | true =>
      obtain ⟨j, hj⟩ := find_some (i := 0) hK hh
      rw [hj] at hfm
      rw [if_pos hh] at fin
      simp only [pairV] at hfm
      generalize nextN q x y = v at *
      repeat' (first | (simp -implicitDefEqProofs only [go_sem, g1, g2, e0, qeaV, declsV, quantsV, freesV, statesV, symsV, nodesV, transsV, hfm]) | refine at_guard (fun hb => ?_) (fun hb => ?_) | refine ⟨fun hb => ?_, fun hb => ?_⟩ | fail)
      exact fin _ _ rfl ⟨rfl, rfl, trivial⟩
    | false =>
      rw [find_none hh] at hfm
      rw [if_neg (by simp [hh])] at fin
      have hn := joint_Next_pc (G := G) q hq x y hx hy
      simp only [pairV] at hfm
      simp only [qeaV, declsV, quantsV, freesV, statesV, symsV, nodesV, transsV] at hn
      generalize nextN q x y = v at *
      simp only [List.map_append, List.map_cons, List.map_nil, entV, pairV] at fin
      repeat' (first | (simp -implicitDefEqProofs only [go_sem, g1, g2, e0, qeaV, declsV, quantsV, freesV, statesV, symsV, nodesV, transsV, hfm]) | refine at_guard (fun hb => ?_) (fun hb => ?_) | refine ⟨fun hb => ?_, fun hb => ?_⟩ | refine at_call (hn) rfl rfl ?_ | fail)
      exact fin _ _ rfl ⟨rfl, rfl, trivial⟩
end Go.Proofs.YtjbcfpkibnhodaaGreatDoor.Ab
namespace Go.Proofs.YtjbcfpkibnhodaaGreatDoor.Ab
open Go Go.RowKit
theorem weak_thaw {st : St} {i : Nat} {b : Box} (hi : hget st.heap i = some b) (hrow : b.row = true) : Weak st (st.thaw1 i) := fun _ _ _ _ ⟨nm, _, h⟩ => ⟨nm, _, h.thaw1 hi hrow⟩
end Go.Proofs.YtjbcfpkibnhodaaGreatDoor.Ab
namespace Go.Proofs.YtjbcfpkibnhodaaGreatDoor.Ab
open Go Go.RowKit
set_option linter.unusedSimpArgs false
set_option maxHeartbeats 4000000
set_option maxRecDepth 100000
variable {G : Nat → Option AV}
def qAw28 : QeaT := ⟨[113], [], [], [], [⟨[115], false, false⟩, ⟨[116], false, true⟩], 1, [], [], []⟩
theorem qAw28_mask : MaskQ qAw28 := ⟨by decide, by decide, by decide, by decide, by decide, by decide⟩
theorem law28_awake_pc (hG : words_global G) : PureC Tryz.prog G n_proctorlaw28_awake [] (.bool true) := by
  have hn := New_hc hG qAw28 (few_of _ (by decide)) (by decide) (by decide) (by decide)
  have hs := Auto_Start_pc (G := G) qAw28 (knownV []) (by decide) (by decide)
  rw [show ((2 ^ qAw28.start.toNat : Nat) : Int) = 2 by decide] at hs
  have hx := Auto_Next_hc (G := G) qAw28 qAw28_mask [] (by intro e he; cases he) 3 1 (by decide) (by decide)
  rw [show ownN qAw28 (3, 1) = (3, 0) by decide, show stepN qAw28 (3, 0) = 3 by decide, show addK qAw28 [] (3, 0) = [] by rfl] at hx
  rw [show ((3 : Nat) : Int) = 3 from rfl, show ((1 : Nat) : Int) = 1 from rfl] at hx
  have ha := Auto_Accepts_pc (G := G) qAw28 (knownV []) (by decide) 2 (by decide)
  rw [show accN qAw28 2 = true by decide, show ((2 : Nat) : Int) = 2 from rfl] at ha
  have hk := Auto_Known_pc (G := G) qAw28 []
  rw [show (([] : List ((Nat × Nat) × Nat)).length : Int) = 0 from rfl] at hk
  have hf : FitL [.agg [.str [113], .nils, .nils, .nils, .seq 3 [.agg [.str [115], .bool false, .bool false], .agg [.str [116], .bool false, .bool true]], iv 1, .nils, .nils, .nils]] [qeaV qAw28] := by
    refine ⟨.agg _ _ rfl fun j c d hc hd => ?_, trivial⟩
    match j, hc, hd with
    | 0, hc, hd => cases hc; cases hd; exact .refl _
    | 1, hc, hd => cases hc; cases hd; exact .nil _
    | 2, hc, hd => cases hc; cases hd; exact .nil _
    | 3, hc, hd => cases hc; cases hd; exact .nil _
    | 4, hc, hd => cases hc; cases hd; exact .refl _
    | 5, hc, hd => cases hc; cases hd; exact .refl _
    | 6, hc, hd => cases hc; cases hd; exact .nil _
    | 7, hc, hd => cases hc; cases hd; exact .nil _
    | 8, hc, hd => cases hc; cases hd; exact .nil _
    | j + 9, hc, hd => cases hc
  refine pc_proctorlaw28_awake fun c hc => Runs.of fun Φ h => ?_
  subst hc
  unfold c_proctorlaw28_awake
  simp only [autoBox, mapBox, List.map_nil] at hn hx
  repeat' (first | (simp -implicitDefEqProofs only [go_sem]) | refine at_guard (fun hb => ?_) (fun hb => ?_) | refine ⟨fun hb => ?_, fun hb => ?_⟩ | (refine at_weak _ (weak_thaw (i := 4) rfl rfl) (callX_heap [(27, 6), (12, 12)] hn hf rfl trivial rfl rfl rfl ?_)) | refine at_call (hs) rfl rfl ?_ | (refine at_callH [(1001, 6), (1002, 12)] hx rfl ⟨⟨_, _, rfl, rfl, rfl⟩, ⟨_, _, rfl, rfl, rfl⟩, trivial⟩ rfl rfl rfl ?_) | refine at_call (ha) rfl rfl ?_ | refine at_call (hk) rfl rfl ?_ | fail)
  exact h _ ⟨_, _, rfl, rfl, .refl _⟩
end Go.Proofs.YtjbcfpkibnhodaaGreatDoor.Ab
namespace Go.Proofs.YtjbcfpkibnhodaaGreatDoor.Ab
open Go Go.RowKit
set_option linter.unusedSimpArgs false
set_option maxHeartbeats 4000000
set_option maxRecDepth 100000
variable {G : Nat → Option AV}
theorem few_states {q : QeaT} (h : fewQ q = true) : q.states.length ≤ 12 := by
  unfold fewQ fewTop at h
  simp only [Bool.and_eq_true, decide_eq_true_eq] at h
  have := h.1.2.2.2.1
  omega
end Go.Proofs.YtjbcfpkibnhodaaGreatDoor.Ab
namespace Go.Proofs.YtjbcfpkibnhodaaGreatDoor.Ab
open Go
set_option linter.unusedSimpArgs false
theorem whole_kindE {q : QeaT} {a r k : Int} (h : wholeS (exprs q) a r k = true) : ∃ (i : Nat) (e : ExT), r = i ∧ (exprs q)[i]? = some e ∧ e.kind = k ∧ ¬ e.kind = 0 := by
  unfold wholeS at h
  split at h
  · cases h
  · rename_i e he
    obtain ⟨i, hi, hei⟩ := at?_some he
    simp only [Bool.and_eq_true, beq_iff_eq, Bool.not_eq_true', beq_eq_false_iff_ne, ne_eq, decide_eq_true_eq] at h
    exact ⟨i, e, hi, hei, h.2.1, by rw [h.2.1]; exact h.2.2.1⟩
end Go.Proofs.YtjbcfpkibnhodaaGreatDoor.Ab
namespace Go.Proofs.YtjbcfpkibnhodaaGreatDoor.Ab
open Go
set_option linter.unusedSimpArgs false
section
variable {α : Type} [DecidableEq α]
end
structure TO {α : Type} (lt : α → α → Bool) (ok : α → Prop) : Prop where
  irr : ∀ a, lt a a = false
  trans : ∀ {a b c}, lt a b = true → lt b c = true → lt a c = true
  tot : ∀ {a b}, ok a → ok b → a ≠ b → lt a b = true ∨ lt b a = true
section
variable {α : Type} {lt : α → α → Bool} {ok : α → Prop}
end
end Go.Proofs.YtjbcfpkibnhodaaGreatDoor.Ab
namespace Go.Proofs.YtjbcfpkibnhodaaGreatDoor.Ab
open Go
set_option linter.unusedSimpArgs false
set_option maxHeartbeats 4000000
set_option maxRecDepth 100000
variable {G : Nat → Option AV}
end Go.Proofs.YtjbcfpkibnhodaaGreatDoor.Ab
namespace Go.Proofs.YtjbcfpkibnhodaaGreatDoor.Ab
open Go Go.RowKit Go.Shelf
attribute [local go_sem] Oper.semAt_some
set_option linter.unusedSimpArgs false
set_option maxHeartbeats 4000000
set_option maxRecDepth 100000
variable {G : Nat → Option AV}
end Go.Proofs.YtjbcfpkibnhodaaGreatDoor.Ab
namespace Go.Proofs.YtjbcfpkibnhodaaGreatDoor.Ab
open Go Go.RowKit Go.Shelf
attribute [local go_sem] Oper.semAt_some
set_option linter.unusedSimpArgs false
set_option maxHeartbeats 4000000
set_option maxRecDepth 100000
variable {G : Nat → Option AV}
end Go.Proofs.YtjbcfpkibnhodaaGreatDoor.Ab
namespace Go.Proofs.YtjbcfpkibnhodaaGreatDoor.Ab
open Go Go.RowKit
set_option linter.unusedSimpArgs false
set_option maxHeartbeats 4000000
set_option maxRecDepth 100000
variable {G : Nat → Option AV}
end Go.Proofs.YtjbcfpkibnhodaaGreatDoor.Ab
namespace Go.Proofs.YtjbcfpkibnhodaaGreatDoor.Ab
open Go
set_option linter.unusedSimpArgs false
theorem bl_irr : ∀ (s : Str), Op.bytesLess s s = false
  | [] => by simp [Op.bytesLess]
  | c :: s => by rw [bl_same]; exact bl_irr s
theorem bl_cons (x y : UInt8) (s t : Str) : Op.bytesLess (x :: s) (y :: t) = true ↔ x < y ∨ (x = y ∧ Op.bytesLess s t = true) := by
  by_cases h : x = y
  · subst h
    rw [bl_same]
    have : ¬ x < x := by
      rw [UInt8.lt_iff_toNat_lt]; omega
    simp [this]
  · rw [bl_ne h]
    simp [h]
theorem bl_trans : ∀ {s t u : Str}, Op.bytesLess s t = true → Op.bytesLess t u = true → Op.bytesLess s u = true
  | [], [], _, h, _ => by simp [Op.bytesLess] at h
  | [], _ :: _, [], _, h => by simp [Op.bytesLess] at h
  | [], _ :: _, _ :: _, _, _ => by simp [Op.bytesLess]
  | _ :: _, [], _, h, _ => by simp [Op.bytesLess] at h
  | _ :: _, _ :: _, [], _, h => by simp [Op.bytesLess] at h
  | x :: s, y :: t, z :: u, h1, h2 => by
    rw [bl_cons] at h1 h2 ⊢
    simp only [UInt8.lt_iff_toNat_lt] at *
    rcases h1 with h1 | ⟨rfl, h1⟩ <;> rcases h2 with h2 | ⟨rfl, h2⟩
    · exact .inl (by omega)
    · exact .inl h1
    · exact .inl h2
    · exact .inr ⟨rfl, bl_trans h1 h2⟩
theorem bl_tot : ∀ {s t : Str}, s ≠ t → Op.bytesLess s t = true ∨ Op.bytesLess t s = true
  | [], [], h => absurd rfl h
  | [], _ :: _, _ => .inl (by simp [Op.bytesLess])
  | _ :: _, [], _ => .inr (by simp [Op.bytesLess])
  | x :: s, y :: t, h => by
    rw [bl_cons, bl_cons]
    simp only [UInt8.lt_iff_toNat_lt]
    by_cases e : x = y
    · subst e
      rcases bl_tot (s := s) (t := t) (fun e => h (by rw [e])) with h | h
      · exact .inl (.inr ⟨rfl, h⟩)
      · exact .inr (.inr ⟨rfl, h⟩)
    · have : x.toNat ≠ y.toNat := fun h => e (UInt8.toNat_inj.1 h)
      rcases Nat.lt_or_gt_of_ne this with h | h
      · exact .inl (.inl h)
      · exact .inr (.inl h)
theorem lessV_irr (a : Val) : lessV a a = false := by
  unfold lessV
  simp only [not_true_eq_false, if_false]
  split
  · simp
  · split
    · exact bl_irr _
    · cases a.bool <;> rfl
theorem lessV_trans {a b c : Val} (h1 : lessV a b = true) (h2 : lessV b c = true) : lessV a c = true := by
  unfold lessV at *
  by_cases e1 : a.kind = b.kind
  · by_cases e2 : b.kind = c.kind
    · rw [if_neg (by simpa using e1)] at h1
      rw [if_neg (by simpa using e2)] at h2
      rw [if_neg (by simp [e1, e2])]
      rw [e1] at h1 ⊢
      split at h1
      · rename_i hk
        rw [if_pos hk] at h2 ⊢
        simp only [decide_eq_true_eq] at *
        omega
      · rename_i hk
        rw [if_neg hk] at h2 ⊢
        split at h1
        · rename_i hk2
          rw [if_pos hk2] at h2 ⊢
          exact bl_trans h1 h2
        · rename_i hk2
          rw [if_neg hk2] at h2 ⊢
          simp only [Bool.and_eq_true, Bool.not_eq_true'] at *
          rw [h1.2] at h2
          cases h2.1
    · rw [if_pos e2] at h2
      rw [if_pos (by rw [e1]; exact e2), e1]
      exact h2
  · rw [if_pos e1] at h1
    simp only [decide_eq_true_eq] at h1
    by_cases e2 : b.kind = c.kind
    · rw [if_pos (by rw [← e2]; exact e1), ← e2]
      simpa using h1
    · rw [if_pos e2] at h2
      simp only [decide_eq_true_eq] at h2
      rw [if_pos (by omega)]
      simp only [decide_eq_true_eq]
      omega
theorem lessV_tot {a b : Val} (ha : a.ok = true) (hb : b.ok = true) (h : a ≠ b) : lessV a b = true ∨ lessV b a = true := by
  obtain ⟨k, n, s, t⟩ := a
  obtain ⟨k', n', s', t'⟩ := b
  unfold lessV
  simp only
  by_cases e : k = k'
  · subst e
    simp only [not_true_eq_false, if_false]
    unfold Val.ok at ha hb
    simp only at ha hb
    by_cases k1 : k = 1
    · rw [if_pos k1] at ha hb ⊢
      rw [if_pos k1]
      simp only [Bool.and_eq_true, beq_iff_eq, Bool.not_eq_true'] at ha hb
      have : n ≠ n' := fun e => h (by rw [e, ha.1, ha.2, hb.1, hb.2])
      simp only [decide_eq_true_eq]
      omega
    · rw [if_neg k1] at ha hb ⊢
      rw [if_neg k1]
      by_cases k2 : k = 2
      · rw [if_pos k2] at ha hb ⊢
        rw [if_pos k2]
        simp only [Bool.and_eq_true, beq_iff_eq, Bool.not_eq_true'] at ha hb
        exact bl_tot fun e => h (by rw [e, ha.1, ha.2.1, hb.1, hb.2.1])
      · rw [if_neg k2] at ha hb ⊢
        rw [if_neg k2]
        simp only [Bool.and_eq_true, beq_iff_eq, decide_eq_true_eq] at ha hb
        have : t ≠ t' := fun e => h (by rw [e, ha.2.1, ha.2.2, hb.2.1, hb.2.2])
        cases t <;> cases t' <;> simp_all
  · rw [if_pos e, if_pos (fun e' => e e'.symm)]
    simp only [decide_eq_true_eq]
    omega
end Go.Proofs.YtjbcfpkibnhodaaGreatDoor.Ab
namespace Go.Proofs.YtjbcfpkibnhodaaGreatDoor.Ab
open Go
set_option linter.unusedSimpArgs false
theorem lessVs_cons (x y : Val) (l k : List Val) : lessVs (x :: l) (y :: k) = true ↔ lessV x y = true ∨ (x = y ∧ lessVs l k = true) := by
  rw [lessVs]
  by_cases e : x = y
  · subst e
    rw [if_neg (by simp), lessV_irr]
    simp
  · rw [if_pos e]
    simp [e]
theorem lessVsO_irr : ∀ (l : List Val), lessVs l l = false
  | [] => rfl
  | x :: l => by
    cases h : lessVs (x :: l) (x :: l) with
    | false => rfl
    | true =>
      rw [lessVs_cons, lessV_irr, lessVsO_irr l] at h
      simp at h
theorem lessVs_trans : ∀ {a b c : List Val}, lessVs a b = true → lessVs b c = true → lessVs a c = true
  | [], [], _, h, _ => by simp [lessVs] at h
  | [], _ :: _, [], _, h => by simp [lessVs] at h
  | [], _ :: _, _ :: _, _, _ => by simp [lessVs]
  | _ :: _, [], _, h, _ => by simp [lessVs] at h
  | _ :: _, _ :: _, [], _, h => by simp [lessVs] at h
  | x :: a, y :: b, z :: c, h1, h2 => by
    rw [lessVs_cons] at h1 h2 ⊢
    rcases h1 with h1 | ⟨rfl, h1⟩ <;> rcases h2 with h2 | ⟨rfl, h2⟩
    · exact .inl (lessV_trans h1 h2)
    · exact .inl h1
    · exact .inl h2
    · exact .inr ⟨rfl, lessVs_trans h1 h2⟩
def okVs (l : List Val) : Prop := ∀ v ∈ l, v.ok = true
theorem lessVs_tot : ∀ {a b : List Val}, okVs a → okVs b → a ≠ b → lessVs a b = true ∨ lessVs b a = true
  | [], [], _, _, h => absurd rfl h
  | [], _ :: _, _, _, _ => .inl rfl
  | _ :: _, [], _, _, _ => .inr rfl
  | x :: a, y :: b, ha, hb, h => by
    rw [lessVs_cons, lessVs_cons]
    by_cases e : x = y
    · subst e
      rcases lessVs_tot (a := a) (b := b) (fun s hs => ha s (by simp [hs])) (fun s hs => hb s (by simp [hs])) (fun e => h (by rw [e])) with h | h
      · exact .inl (.inr ⟨rfl, h⟩)
      · exact .inr (.inr ⟨rfl, h⟩)
    · rcases lessV_tot (ha x (by simp)) (hb y (by simp)) e with h | h
      · exact .inl (.inl h)
      · exact .inr (.inl h)
def okCfg (c : CfgT) : Prop := okVs c.vals
theorem cfgTO : TO cfgLess okCfg := by
  refine ⟨fun a => ?_, fun {a b c} h1 h2 => ?_, fun {a b} ha hb h => ?_⟩
  · unfold cfgLess
    rw [if_neg (by simp)]
    exact lessVsO_irr _
  · unfold cfgLess at *
    by_cases e1 : a.state = b.state
    · rw [if_neg (by simpa using e1)] at h1
      by_cases e2 : b.state = c.state
      · rw [if_neg (by simpa using e2)] at h2
        rw [if_neg (by simp [e1, e2])]
        exact lessVs_trans h1 h2
      · rw [if_pos e2] at h2
        rw [if_pos (by rw [e1]; exact e2), e1]
        exact h2
    · rw [if_pos e1] at h1
      simp only [decide_eq_true_eq] at h1
      by_cases e2 : b.state = c.state
      · rw [if_pos (by rw [← e2]; exact e1), ← e2]
        simpa using h1
      · rw [if_pos e2] at h2
        simp only [decide_eq_true_eq] at h2
        rw [if_pos (by omega)]
        simp only [decide_eq_true_eq]
        omega
  · unfold cfgLess
    by_cases e : a.state = b.state
    · rw [if_neg (by simpa using e), if_neg (by simpa using e.symm)]
      refine lessVs_tot ha hb fun e2 => h ?_
      obtain ⟨x, l⟩ := a
      obtain ⟨y, k⟩ := b
      simp only at e e2
      rw [e, e2]
    · rw [if_pos e, if_pos (fun e' => e e'.symm)]
      simp only [decide_eq_true_eq]
      omega
end Go.Proofs.YtjbcfpkibnhodaaGreatDoor.Ab
namespace Go.Proofs.YtjbcfpkibnhodaaGreatDoor.Ab
open Go Go.RowKit
set_option linter.unusedSimpArgs false
set_option maxHeartbeats 4000000
set_option maxRecDepth 100000
variable {G : Nat → Option AV}
end Go.Proofs.YtjbcfpkibnhodaaGreatDoor.Ab
namespace Go.Proofs.YtjbcfpkibnhodaaGreatDoor.Ab
open Go
set_option linter.unusedSimpArgs false
structure HitT where
  symbol : Int
  bind : List SlotT
  frees : List SlotT
deriving DecidableEq
def FreeOk (q : QeaT) (s : SlotT) : Prop := ∃ (j : Nat) (f : FreeT), s.var = j ∧ q.frees[j]? = some f ∧ s.value.ok = true ∧ s.value.kind = f.init.kind
structure HitT.Ok (q : QeaT) (h : HitT) : Prop where
  bl : h.bind.length ≤ 1000000
  fl : h.frees.length ≤ 1000000
  bok : ∀ s ∈ h.bind, VOk s.value
  fok : ∀ s ∈ h.frees, FreeOk q s ∧ i64 s.value.int
structure CfgT.Ok (q : QeaT) (c : CfgT) : Prop where
  right : cfgR q c = true
  n64 : ∀ v ∈ c.vals, i64 v.int
theorem CfgT.Ok.st {q : QeaT} {c : CfgT} (h : c.Ok q) : 0 ≤ c.state ∧ c.state < q.states.length ∧ fitsR c.vals q.frees = true := by
  have := h.right
  unfold cfgR at this
  simp only [Bool.and_eq_true, decide_eq_true_eq] at this
  exact ⟨this.1, this.2.1, this.2.2⟩
structure QeaT.Good (q : QeaT) : Prop where
  right : rightR q = true
  n64 : ∀ x ∈ q.nodes, i64 x.value.int
  fl : q.frees.length ≤ 1000
  sl : q.states.length ≤ 1000
def SetK (q : QeaT) (s : SetT) : Prop := ∃ (e f : Nat) (x : ExT) (fr : FreeT), s.expr = e ∧ s.free = f ∧ (exprs q)[e]? = some x ∧ ¬ x.kind = 0 ∧ q.frees[f]? = some fr ∧ x.kind = fr.init.kind
structure TransK (q : QeaT) (t : TransT) : Prop where
  from0 : 0 ≤ t.from_
  fromL : t.from_ < q.states.length
  to0 : 0 ≤ t.to_
  toL : t.to_ < q.states.length
  sym0 : 0 ≤ t.symbol
  symL : t.symbol < q.symbols.length
  guard : 0 ≤ t.guard → KindAt q t.guard.toNat
  sets : ∀ s ∈ t.sets, SetK q s
theorem transK {q : QeaT} (h : rightR q = true) {t : TransT} (ht : t ∈ q.trans) : TransK q t := by
  have hg := (trans_ok h ht).1
  unfold rightR transAll at h
  simp only [Bool.and_eq_true] at h
  obtain ⟨a, j, hs⟩ := allS_all h.2.1.1 t ht
  have hs : (transR q t a).2 = true := hs
  have rest : ∀ a1, (restR q t a a1).2 = true → ∀ s ∈ t.sets, SetK q s := fun a1 hr s hsm => by
    unfold restR at hr
    dsimp only at hr
    split at hr
    · rename_i hall
      obtain ⟨a2, k, hss⟩ := allS_all hall s hsm
      unfold setStep at hss
      split at hss
      · cases hss
      · rename_i f hf
        obtain ⟨m, hm, hfm⟩ := at?_some hf
        split at hss
        · cases hss
        · split at hss
          · rename_i hw
            obtain ⟨e, x, he, hx, hk, hk0⟩ := whole_kindE hw
            exact ⟨e, m, x, f, he, hm, hx, hk0, hfm, hk⟩
          · cases hss
    · cases hr
  unfold transR at hs
  split at hs
  · cases hs
  · rename_i hin
    simp only [Bool.and_eq_false_iff, not_or, Bool.not_eq_false] at hin
    unfold inR at hin
    simp only [Bool.and_eq_true, decide_eq_true_eq] at hin
    obtain ⟨⟨a1, a2⟩, ⟨b1, b2⟩, c1, c2⟩ := hin
    refine ⟨a1, a2, b1, b2, c1, c2, hg, ?_⟩
    split at hs
    · exact rest _ hs
    · split at hs
      · exact rest _ hs
      · cases hs
end Go.Proofs.YtjbcfpkibnhodaaGreatDoor.Ab
namespace Go.Proofs.YtjbcfpkibnhodaaGreatDoor.Ab
open Go
set_option linter.unusedSimpArgs false
def fromStep (a : Int) (t : TransT) : Int := match t.sets.getLast? with | some s => s.expr + 1 | none => if 0 ≤ t.guard then t.guard + 1 else a
def fromR (l : List TransT) (i : Nat) : Int := (l.take i).foldl fromStep 0
theorem allS_sets {q : QeaT} {sets : List SetT} : ∀ {l : List SetT} {i : Nat} {a : Int}, (allS (setStep q (exprs q) sets) l i a).1 = true → (allS (setStep q (exprs q) sets) l i a).2 = match l.getLast? with | some s => s.expr + 1 | none => a
  | [], _, _, _ => rfl
  | s :: l, i, a, h => by
    rw [allS] at h ⊢
    split at h
    · rename_i hs
      rw [if_pos hs]
      have e : (setStep q (exprs q) sets a i s).2 = s.expr + 1 := by
        unfold setStep at hs ⊢
        split at hs
        · cases hs
        · split at hs
          · cases hs
          · split at hs
            · rename_i hn hw
              rw [if_neg hn, if_pos hw]
            · cases hs
      have := allS_sets h
      rw [e] at this ⊢
      rw [this]
      cases l with
      | nil => rfl
      | cons s' l => first | (rw [List.getLast?_cons_cons]; done) | (rw [List.getLast?_cons_cons]; simp [List.getLast?_cons])
    · cases h
theorem step_from {q : QeaT} {t : TransT} {a : Int} (h : (transR q t a).2 = true) : (transR q t a).1 = fromStep a t ∧ (0 ≤ t.guard → ∃ (g : Nat) (e : ExT), t.guard = g ∧ (exprs q)[g]? = some e ∧ e.kind = 3 ∧ e.from_ = a) ∧ (t.guard = -1 ∨ 0 ≤ t.guard) := by
  have rest : ∀ a1, (restR q t a a1).2 = true → (restR q t a a1).1 = match t.sets.getLast? with | some s => s.expr + 1 | none => a1 := fun a1 hr => by
    unfold restR at hr ⊢
    dsimp only at hr ⊢
    split at hr
    · rename_i hall
      rw [if_pos hall]
      exact allS_sets hall
    · cases hr
  unfold transR at h ⊢
  split at h
  · cases h
  · rename_i hin
    rw [if_neg hin]
    split at h
    · rename_i hg
      rw [if_pos hg]
      refine ⟨?_, fun h0 => by omega, .inl hg⟩
      rw [rest _ h]
      unfold fromStep
      rw [if_neg (by omega)]
    · rename_i hg
      rw [if_neg hg]
      split at h
      · rename_i hw
        rw [if_pos hw]
        obtain ⟨g, e, h1, h2, h3, h4⟩ := whole_kindE hw
        refine ⟨?_, fun _ => ⟨g, e, h1, h2, h3, ?_⟩, .inr (by omega)⟩
        · rw [rest _ h]
          unfold fromStep
          rw [if_pos (by omega)]
        · unfold wholeS at hw
          rw [h1, at?_nat h2] at hw
          simp only [Bool.and_eq_true, beq_iff_eq] at hw
          exact hw.2.2.2.1
      · cases h
theorem from_go {q : QeaT} : ∀ {l : List TransT} {i : Nat} {a : Int}, (allS (stepR q) l i a).1 = true → ∀ (k : Nat) (t : TransT), l[k]? = some t → (transR q t ((l.take k).foldl fromStep a)).2 = true
  | [], _, _, _, k, t, h => by simp at h
  | u :: l, i, a, h, k, t, ht => by
    rw [allS] at h
    split at h
    · rename_i hs
      have hs' : (transR q u a).2 = true := hs
      cases k with
      | zero => cases ht; exact hs'
      | succ k =>
        have h' := h
        rw [show (stepR q a i u).2 = (transR q u a).1 from rfl, (step_from hs').1] at h'
        simpa using from_go h' k t (by simpa using ht)
    · cases h
theorem guard_from {q : QeaT} (hr : rightR q = true) {k : Nat} {t : TransT} (ht : q.trans[k]? = some t) : (t.guard = -1 ∨ 0 ≤ t.guard) ∧ (0 ≤ t.guard → ∃ (g : Nat) (e : ExT), t.guard = g ∧ (exprs q)[g]? = some e ∧ e.kind = 3 ∧ e.from_ = fromR q.trans k) := by
  unfold rightR transAll at hr
  simp only [Bool.and_eq_true] at hr
  obtain ⟨_, h2, h3⟩ := step_from (from_go hr.2.1.1 k t ht)
  exact ⟨h3, h2⟩
end Go.Proofs.YtjbcfpkibnhodaaGreatDoor.Ab
