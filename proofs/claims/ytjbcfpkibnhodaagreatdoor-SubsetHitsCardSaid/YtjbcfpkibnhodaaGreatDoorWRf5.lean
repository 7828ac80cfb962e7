/-
  subset.Next: to which states symbols lead, and what is known from then on. A row of the call's own is written no more. The example of chapter 28: awake. The law ConfigPairs. What an expression comes to has the expression's kind. A strict order, total at what is sound: rows in order, each once: two ways. binding, proctorref05: which may be; under, fits, union. binding.Under, walked. binding.Fits, walked. No claim is proved here.
-/
import Derived.Test.YtjbcfpkibnhodaaGreatDoorWSb7
import Derived.Shelf.Spec.SlicesInsertGrow
import Derived.RangeFuncNested
import Derived.RangeFuncBound
import Derived.OwnWalkIn
import Derived.TacticsInMore
import Derived.LoopNIn
import Derived.LoopIn
namespace Go.Proofs.YtjbcfpkibnhodaaGreatDoor.Ab
open Go Go.RowKit
set_option linter.unusedSimpArgs false
set_option maxHeartbeats 4000000
set_option maxRecDepth 100000
variable {G : Nat → Option AV}
abbrev Known := List ((Nat × Nat) × Nat)
def findK (p : Nat × Nat) : Known → Nat → Option (Nat × AV)
  | [], _ => none
  | e :: r, i => if e.1 = p then some (i, .int .u32 (e.2 : Int)) else findK p r (i + 1)
theorem keyEq_pair (p e : Nat × Nat) : keyEq true [0, 0] (pairV p) (pairV e) = some (decide (e = p)) := by
  obtain ⟨a, b⟩ := p
  obtain ⟨c, d⟩ := e
  have e1 : ((a : Int) == (c : Int)) = decide (c = a) := by rw [Bool.eq_iff_iff, beq_iff_eq, decide_eq_true_eq]; omega
  have e2 : ((b : Int) == (d : Int)) = decide (d = b) := by rw [Bool.eq_iff_iff, beq_iff_eq, decide_eq_true_eq]; omega
  simp only [keyEq, pairV, isAggV, AV.cells, aeqs, leafEq, andO, if_true, and_self, e1, e2, Bool.and_true, Option.some.injEq]
  rw [Bool.eq_iff_iff]
  simp
theorem mfind_known (p : Nat × Nat) : ∀ (K : Known) (i : Nat), mfind true [0, 0] (pairV p) (K.map entV) i = some (findK p K i)
  | [], _ => rfl
  | e :: r, i => by
    rw [List.map_cons, entV, mfind, keyEq_pair, findK]
    by_cases h : e.1 = p
    · rw [if_pos h, decide_eq_true h]
    · rw [if_neg h, decide_eq_false h]
      exact mfind_known p r (i + 1)
def OkK (q : QeaT) (K : Known) : Prop := ∀ e ∈ K, e.2 = nextN q e.1.1 e.1.2
def keysK (K : Known) : List (Nat × Nat) := K.map (·.1)
def hasK (K : Known) (p : Nat × Nat) : Bool := (keysK K).any fun x => decide (x = p)
theorem find_none {p : Nat × Nat} : ∀ {K : Known} {i : Nat}, hasK K p = false → findK p K i = none
  | [], _, _ => rfl
  | e :: r, i, h => by
    unfold hasK keysK at h
    rw [List.map_cons, List.any_cons, Bool.or_eq_false_iff, decide_eq_false_iff_not] at h
    rw [findK, if_neg h.1]
    exact find_none h.2
theorem find_some {q : QeaT} {p : Nat × Nat} : ∀ {K : Known} {i : Nat}, OkK q K → hasK K p = true → ∃ j, findK p K i = some (j, .int .u32 (nextN q p.1 p.2 : Int))
  | [], _, _, h => by cases h
  | e :: r, i, hK, h => by
    unfold hasK keysK at h
    rw [List.map_cons, List.any_cons, Bool.or_eq_true, decide_eq_true_eq] at h
    rw [findK]
    by_cases he : e.1 = p
    · rw [if_pos he, hK e (by simp), he]
      exact ⟨i, rfl⟩
    · rw [if_neg he]
      exact find_some (fun x hx => hK x (by simp [hx])) (h.resolve_left he)
def stepN (q : QeaT) (p : Nat × Nat) : Nat := if p.2 = 0 then p.1 else nextN q p.1 p.2
def addK (q : QeaT) (K : Known) (p : Nat × Nat) : Known := if p.2 = 0 then K else if hasK K p = true then K else K ++ [(p, nextN q p.1 p.2)]
theorem nextGo_lt {q : QeaT} (hq : MaskQ q) {m k : Nat} : ∀ (l : List StateT) (i a : Nat), i + l.length ≤ 32 → a < 4294967296 → nextGo q m k l i a < 4294967296
  | [], _, a, _, h => h
  | x :: l, i, a, hi, h => by
    rw [List.length_cons] at hi
    rw [nextGo]
    refine nextGo_lt hq l _ _ (by omega) ?_
    split
    · exact Nat.or_lt_two_pow (n := 32) h (stayN_lt hq k (by omega) x)
    · exact h
theorem nextN_lt {q : QeaT} (hq : MaskQ q) (m k : Nat) : nextN q m k < 4294967296 := nextGo_lt hq _ _ _ (by have := hq.states; omega) (by decide)
theorem own_and {q : QeaT} {m k : Nat} : ownN q (m, k) = (m &&& (2 ^ q.states.length - 1), k &&& (2 ^ q.symbols.length - 1)) := by
  unfold ownN
  rw [Nat.and_two_pow_sub_one_eq_mod, Nat.and_two_pow_sub_one_eq_mod]
theorem Auto_Next_hc (q : QeaT) (hq : MaskQ q) (K : Known) (hK : OkK q K) (m k : Nat) (hm : m < 4294967296) (hk : k < 18446744073709551616) :
    HeapC Tryz.prog G n_subset_Auto_Next [.ref 1001 0 0, .int .u32 (m : Int), .int .u64 (k : Int)] [(1001, autoBox q 1002), (1002, mapBox K)]
      (.int .u32 (stepN q (ownN q (m, k)) : Int)) [(1001, autoBox q 1002), (1002, mapBox (addK q K (ownN q (m, k))))] := by
  have hsl := hq.states
  have hkl := hq.symbols
  have g1 := band32 (a := m) (b := 2 ^ q.states.length - 1) hm (by have := pow32 (s := q.states.length) (by omega); omega)
  have g2 := band64 (a := k) (b := 2 ^ q.symbols.length - 1) hk (by have := pow64 (s := q.symbols.length) (by omega); omega)
  have hx : m &&& (2 ^ q.states.length - 1) < 4294967296 := Nat.lt_of_le_of_lt Nat.and_le_left hm
  have hy : k &&& (2 ^ q.symbols.length - 1) < 18446744073709551616 := Nat.lt_of_le_of_lt Nat.and_le_left hk
  refine hc_subset_Auto_Next (RunsH.of fun Φ h => ?_)
  unfold csAN_
  rw [own_and] at h
  have fin : ∀ v heap, stepN q (m &&& (2 ^ q.states.length - 1), k &&& (2 ^ q.symbols.length - 1)) = v → subH heap [(1001, autoBox q 1002), (1002, mapBox (addK q K (m &&& (2 ^ q.states.length - 1), k &&& (2 ^ q.symbols.length - 1))))] → Φ ⟨59, [(6, .int .u32 (v : Int))], heap⟩ := fun v heap e1 e => h _ ⟨_, _, Weak.refl _, rfl, fe_ (by rw [e1]; rfl), e.at⟩
  clear h
  unfold autoBox autoE mapBox at *
  generalize m &&& (2 ^ q.states.length - 1) = x at *
  generalize k &&& (2 ^ q.symbols.length - 1) = y at *
  generalize 2 ^ q.states.length - 1 = p at *
  generalize 2 ^ q.symbols.length - 1 = r at *
  have hfm := mfind_known (x, y) K 0
  by_cases h0 : y = 0
  · have e0 : ((y : Int) == 0) = true := by simp [h0]
    rw [addK, if_pos h0, stepN, if_pos h0] at fin
    repeat' (first | (simp -implicitDefEqProofs only [go_sem, g1, g2, e0, qeaV, d_, q_, f_, s_, s10, n_, t_]) | refine ag_ (fun hb => ?_) (fun hb => ?_) | refine ⟨fun hb => ?_, fun hb => ?_⟩ | fail)
    exact fin _ _ rfl ⟨rfl, rfl, trivial⟩
  · have e0 : ((y : Int) == 0) = false := by simp; omega
    rw [addK, if_neg h0, stepN, if_neg h0] at fin
    cases hh : hasK K (x, y) with
    | true =>
      obtain ⟨j, hj⟩ := find_some (i := 0) hK hh
      rw [hj] at hfm
      rw [if_pos hh] at fin
      simp only [pairV] at hfm
      generalize nextN q x y = v at *
      repeat' (first | (simp -implicitDefEqProofs only [go_sem, g1, g2, e0, qeaV, d_, q_, f_, s_, s10, n_, t_, hfm]) | refine ag_ (fun hb => ?_) (fun hb => ?_) | refine ⟨fun hb => ?_, fun hb => ?_⟩ | fail)
      exact fin _ _ rfl ⟨rfl, rfl, trivial⟩
    | false =>
      rw [find_none hh] at hfm
      rw [if_neg (by simp [hh])] at fin
      have hn := joint_Next_pc (G := G) q hq x y hx hy
      simp only [pairV] at hfm
      simp only [qeaV, d_, q_, f_, s_, s10, n_, t_] at hn
      generalize nextN q x y = v at *
      simp only [List.map_append, List.map_cons, List.map_nil, entV, pairV] at fin
      repeat' (first | (simp -implicitDefEqProofs only [go_sem, g1, g2, e0, qeaV, d_, q_, f_, s_, s10, n_, t_, hfm]) | refine ag_ (fun hb => ?_) (fun hb => ?_) | refine ⟨fun hb => ?_, fun hb => ?_⟩ | refine ac_ (hn) rfl rfl ?_ | fail)
      exact fin _ _ rfl ⟨rfl, rfl, trivial⟩
end Go.Proofs.YtjbcfpkibnhodaaGreatDoor.Ab
namespace Go.Proofs.YtjbcfpkibnhodaaGreatDoor.Ab
open Go Go.RowKit
theorem weak_thaw {st : St} {i : Nat} {b : Box} (hi : hget st.heap i = some b) (hrow : b.row = true) : Weak st (st.thaw1 i) := fun _ _ _ _ ⟨nm, _, h⟩ => ⟨nm, _, h.thaw1 hi hrow⟩
end Go.Proofs.YtjbcfpkibnhodaaGreatDoor.Ab
namespace Go.Proofs.YtjbcfpkibnhodaaGreatDoor.Ab
open Go Go.RowKit
set_option linter.unusedSimpArgs false
set_option maxHeartbeats 4000000
set_option maxRecDepth 100000
variable {G : Nat → Option AV}
def qAw28 : QeaT := ⟨[113], [], [], [], [⟨[115], false, false⟩, ⟨[116], false, true⟩], 1, [], [], []⟩
theorem qAw28_mask : MaskQ qAw28 := ⟨by decide, by decide, by decide, by decide, by decide, by decide⟩
theorem law28_awake_pc (hG : wg_ G) : P_ Tryz.prog G np10 [] (.bool true) := by
  have hn := New_hc hG qAw28 (few_of _ (by decide)) (by decide) (by decide) (by decide)
  have hs := Auto_Start_pc (G := G) qAw28 (knownV []) (by decide) (by decide)
  rw [show ((2 ^ qAw28.start.toNat : Nat) : Int) = 2 by decide] at hs
  have hx := Auto_Next_hc (G := G) qAw28 qAw28_mask [] (by intro e he; cases he) 3 1 (by decide) (by decide)
  rw [show ownN qAw28 (3, 1) = (3, 0) by decide, show stepN qAw28 (3, 0) = 3 by decide, show addK qAw28 [] (3, 0) = [] by rfl] at hx
  rw [show ((3 : Nat) : Int) = 3 from rfl, show ((1 : Nat) : Int) = 1 from rfl] at hx
  have ha := Auto_Accepts_pc (G := G) qAw28 (knownV []) (by decide) 2 (by decide)
  rw [show accN qAw28 2 = true by decide, show ((2 : Nat) : Int) = 2 from rfl] at ha
  have hk := Auto_Known_pc (G := G) qAw28 []
  rw [show (([] : List ((Nat × Nat) × Nat)).length : Int) = 0 from rfl] at hk
  have hf : FitL [.agg [.str [113], .nils, .nils, .nils, .seq 3 [.agg [.str [115], .bool false, .bool false], .agg [.str [116], .bool false, .bool true]], iv 1, .nils, .nils, .nils]] [qeaV qAw28] := by
    refine ⟨.agg _ _ rfl fun j c d hc hd => ?_, trivial⟩
    match j, hc, hd with
    | 0, hc, hd => cases hc; cases hd; exact .refl _
    | 1, hc, hd => cases hc; cases hd; exact .nil _
    | 2, hc, hd => cases hc; cases hd; exact .nil _
    | 3, hc, hd => cases hc; cases hd; exact .nil _
    | 4, hc, hd => cases hc; cases hd; exact .refl _
    | 5, hc, hd => cases hc; cases hd; exact .refl _
    | 6, hc, hd => cases hc; cases hd; exact .nil _
    | 7, hc, hd => cases hc; cases hd; exact .nil _
    | 8, hc, hd => cases hc; cases hd; exact .nil _
    | j + 9, hc, hd => cases hc
  refine pc_proctorlaw28_awake fun c hc => Runs.of fun Φ h => ?_
  subst hc
  unfold cpa_
  simp only [autoBox, mapBox, List.map_nil] at hn hx
  repeat' (first | (simp -implicitDefEqProofs only [go_sem]) | refine ag_ (fun hb => ?_) (fun hb => ?_) | refine ⟨fun hb => ?_, fun hb => ?_⟩ | (refine at_weak _ (weak_thaw (i := 4) rfl rfl) (callX_heap [(27, 6), (12, 12)] hn hf rfl trivial rfl rfl rfl ?_)) | refine ac_ (hs) rfl rfl ?_ | (refine at_callH [(1001, 6), (1002, 12)] hx rfl ⟨⟨_, _, rfl, rfl, rfl⟩, ⟨_, _, rfl, rfl, rfl⟩, trivial⟩ rfl rfl rfl ?_) | refine ac_ (ha) rfl rfl ?_ | refine ac_ (hk) rfl rfl ?_ | fail)
  exact h _ ⟨_, _, rfl, rfl, .refl _⟩
end Go.Proofs.YtjbcfpkibnhodaaGreatDoor.Ab
namespace Go.Proofs.YtjbcfpkibnhodaaGreatDoor.Ab
open Go Go.RowKit
set_option linter.unusedSimpArgs false
set_option maxHeartbeats 4000000
set_option maxRecDepth 100000
variable {G : Nat → Option AV}
theorem few_states {q : QeaT} (h : fewQ q = true) : q.states.length ≤ 12 := by
  unfold fewQ fewTop at h
  simp only [Bool.and_eq_true, decide_eq_true_eq] at h
  have := h.1.2.2.2.1
  omega
end Go.Proofs.YtjbcfpkibnhodaaGreatDoor.Ab
namespace Go.Proofs.YtjbcfpkibnhodaaGreatDoor.Ab
open Go
set_option linter.unusedSimpArgs false
theorem textR_kind {s : Str} (h : (textR s).2 = 0) : (textR s).1.kind = 2 := by
  unfold textR at *
  split at h
  · simp at h
  · rename_i h1; rw [if_neg h1]
theorem opR_kind {op : Int} {a b : Val} (h : (opR op a b).2 = 0) : (opR op a b).1.kind = opKind op a.kind b.kind := by
  have hk0 : ¬ opKind op a.kind b.kind = 0 := fun e => by
    unfold opR at h
    split at h
    · simp at h
    · first | (rw [if_pos e] at h; simp at h; done) | (simp at h; done)
  have hop : ¬ (op < 4 ∨ 16 < op) := fun e => by
    unfold opR at h
    rw [if_pos e] at h
    simp at h
  have hcase : op = 4 ∨ op = 5 ∨ op = 6 ∨ op = 7 ∨ op = 8 ∨ op = 9 ∨ op = 10 ∨ op = 11 ∨ op = 12 ∨ op = 13 ∨ op = 14 ∨ op = 15 ∨ op = 16 := by omega
  unfold opR at h ⊢
  rw [if_neg hop, if_neg hk0] at h ⊢
  have num : ∀ (r : Int × Int), (if r.2 = 0 then ((⟨1, r.1, [], false⟩ : Val), (0 : Int)) else (v0, r.2)).2 = 0 → (if r.2 = 0 then ((⟨1, r.1, [], false⟩ : Val), (0 : Int)) else (v0, r.2)).1.kind = 1 := fun r hr => by
    by_cases h0 : r.2 = 0
    · rw [if_pos h0]
    · rw [if_neg h0] at hr; exact absurd hr h0
  unfold opKind at hk0 ⊢
  rcases hcase with rfl | rfl | rfl | rfl | rfl | rfl | rfl | rfl | rfl | rfl | rfl | rfl | rfl
  all_goals simp at hk0 h ⊢
  · exact hk0
  · split at h
    · omega
    · rw [if_neg (by omega)]
      rw [num _ h, if_pos hk0]
  · simp [hk0]
  · simp [hk0]
  · rw [if_pos (show (a.kind = 1 ∨ a.kind = 2) ∧ b.kind = a.kind from ⟨hk0.1, hk0.2.1⟩)]
    split at h
    · rename_i h2
      rw [if_pos h2, textR_kind h, h2]
    · rename_i h2
      rw [if_neg h2, num _ h]
      omega
  · rw [if_neg (by omega)] at h ⊢
    rw [num _ h, if_pos ⟨hk0.1, hk0.2.1⟩]; omega
  · rw [if_neg (by omega)] at h ⊢
    rw [num _ h, if_pos ⟨hk0.1, hk0.2.1⟩]; omega
  · rw [if_neg (by omega)] at h ⊢
    rw [num _ h, if_pos ⟨hk0.1, hk0.2.1⟩]; omega
  · rw [if_neg (by omega)] at h ⊢
    rw [num _ h, if_pos ⟨hk0.1, hk0.2.1⟩]; omega
  · simp [hk0]
  · simp [hk0]
  · simp [hk0]
  · simp [hk0]
theorem ev_kind {q : QeaT} {b : List SlotT} {vals : List Val} (hf : fitsR vals q.frees = true) : ∀ (i : Nat) (e : ExT), (exprs q)[i]? = some e → ¬ e.kind = 0 → (ev q b vals i).2 = 0 → (ev q b vals i).1.kind = e.kind := by
  intro i
  induction i using Nat.strongRecOn with
  | _ i ih =>
    intro e he hk h0
    have hlen := el_ q q.nodes.length (Nat.le_refl _)
    have hi : i < q.nodes.length := by
      have := (List.getElem?_eq_some_iff.1 he).1
      unfold exprs at this
      omega
    obtain ⟨x, hx, hm⟩ := as10 hi
    have hel := el_ q i (by omega)
    unfold exprs at he
    rw [exL_get hx _ hi (Nat.le_refl _)] at he
    simp only [Option.some.injEq] at he
    subst he
    have sub : ∀ (j : Nat) c, (exL q i)[j]? = some c → j < i ∧ (exprs q)[j]? = some c := fun j c h => ⟨by have := (List.getElem?_eq_some_iff.1 h).1; omega, exL_pre (by omega) h⟩
    rw [ev_at hx] at h0 ⊢
    unfold exStep at hk ⊢
    unfold evN at h0 ⊢
    cases hleaf : leafOf q i x with
    | some e =>
      unfold leafOf at hleaf
      by_cases h1 : x.op = 1
      · rw [if_pos h1] at hleaf
        rw [if_pos h1]
        split at hleaf
        · cases hleaf; rfl
        · cases hleaf
      rw [if_neg h1] at hleaf h0 ⊢
      by_cases h2 : x.op = 2
      · rw [if_pos h2] at hleaf h0 ⊢
        split at hleaf
        · obtain ⟨y, hy, rfl⟩ := Option.map_eq_some_iff.1 hleaf
          rw [hy] at h0 ⊢
          dsimp only at h0 ⊢
          unfold quantR at h0 ⊢
          split at h0
          · rename_i hg
            rw [if_pos hg]
            exact hg.2
          · simp at h0
        · cases hleaf
      rw [if_neg h2] at hleaf h0 ⊢
      by_cases h3 : x.op = 3
      · rw [if_pos h3] at hleaf h0 ⊢
        split at hleaf
        · obtain ⟨y, hy, rfl⟩ := Option.map_eq_some_iff.1 hleaf
          obtain ⟨f1, f2⟩ := fitsR_at hf
          obtain ⟨j, hj, hyj⟩ := at?_some hy
          obtain ⟨v, hv, _⟩ := as10 (l := vals) (i := j) (by have := (List.getElem?_eq_some_iff.1 hyj).1; omega)
          rw [hj, at?_nat hv] at h0 ⊢
          exact (f2 j v y hv hyj).2
        · cases hleaf
      rw [if_neg h3] at hleaf
      cases hleaf
    | none =>
      rw [hleaf] at hk
      dsimp only at hk ⊢
      split at hk
      · exact absurd rfl hk
      rename_i hop
      rw [if_neg hop]
      have hop4 : 4 ≤ x.op ∧ x.op ≤ 16 := by
        constructor
        · by_cases h : 4 ≤ x.op
          · exact h
          · exact absurd (.inl (by omega)) hop
        · by_cases h : x.op ≤ 16
          · exact h
          · exact absurd (.inr (.inl (by omega))) hop
      rw [if_neg (by omega), if_neg (by omega), if_neg (by omega)] at h0 ⊢
      cases hb : at? (exL q i) ((i : Int) - 1) with
      | none => rw [hb] at hk; exact absurd rfl hk
      | some bb =>
        rw [hb] at hk
        dsimp only at hk ⊢
        obtain ⟨j, hj, hbj⟩ := at?_some hb
        obtain ⟨hji, hbe⟩ := sub j bb hbj
        split at hk
        · exact absurd rfl hk
        rename_i hbk
        rw [if_neg hbk]
        have ihj := ih j hji bb hbe hbk
        split at hk
        · rename_i h5
          rw [if_pos h5]
          split at hk
          · rename_i hc
            rw [if_pos hc]
            have hxa : x.a = j := by omega
            rw [hxa] at h0 ⊢
            simp only [Int.toNat_natCast, if_pos hji] at h0 ⊢
            unfold evOp at h0 ⊢
            by_cases hr : (ev q b vals j).2 = 0
            · rw [if_neg (by simpa using hr), if_pos h5] at h0 ⊢
              rw [opR_kind h0, ihj hr]
              dsimp only
              have : x.op = 4 ∨ x.op = 5 := by omega
              rcases this with e | e <;> rw [e] <;> simp [opKind]
            · rw [if_pos hr] at h0
              exact absurd h0 hr
          · exact absurd rfl hk
        · rename_i h5
          rw [if_neg h5]
          split at hk
          · rename_i hc
            rw [if_pos hc]
            cases ha : at? (exL q i) x.a with
            | none => rw [ha] at hk; exact absurd rfl hk
            | some aa =>
              rw [ha] at hk
              dsimp only at hk ⊢
              split at hk
              · exact absurd rfl hk
              rename_i hak
              rw [if_neg hak]
              obtain ⟨k, hxk, hak'⟩ := at?_some ha
              obtain ⟨hki, hae⟩ := sub k aa hak'
              have ihk := ih k hki aa hae hak
              have hxb : x.b = j := by omega
              rw [hxk, hxb] at h0 ⊢
              simp only [Int.toNat_natCast, if_pos hji, if_pos hki] at h0 ⊢
              unfold evOp at h0 ⊢
              by_cases hr : (ev q b vals k).2 = 0
              · rw [if_neg (by simpa using hr), if_neg h5] at h0 ⊢
                by_cases hs : (x.op = 6 ∧ (ev q b vals k).1.bool = false) ∨ (x.op = 7 ∧ (ev q b vals k).1.bool = true)
                · rw [if_pos hs] at h0 ⊢
                  dsimp only at hk ⊢
                  rw [ihk hr]
                  have : x.op = 6 ∨ x.op = 7 := by omega
                  unfold opKind at hk ⊢
                  rcases this with e | e <;> (rw [e] at hk ⊢; simp at hk ⊢; simp [hk])
                · rw [if_neg hs] at h0 ⊢
                  by_cases hs2 : (ev q b vals j).2 = 0
                  · rw [if_neg (by simpa using hs2)] at h0 ⊢
                    rw [opR_kind h0, ihk hr, ihj hs2]
                  · rw [if_pos hs2] at h0
                    exact absurd h0 hs2
              · rw [if_pos hr] at h0
                exact absurd h0 hr
          · exact absurd rfl hk
theorem whole_kindE {q : QeaT} {a r k : Int} (h : wholeS (exprs q) a r k = true) : ∃ (i : Nat) (e : ExT), r = i ∧ (exprs q)[i]? = some e ∧ e.kind = k ∧ ¬ e.kind = 0 := by
  unfold wholeS at h
  split at h
  · cases h
  · rename_i e he
    obtain ⟨i, hi, hei⟩ := at?_some he
    simp only [Bool.and_eq_true, beq_iff_eq, Bool.not_eq_true', beq_eq_false_iff_ne, ne_eq, decide_eq_true_eq] at h
    exact ⟨i, e, hi, hei, h.2.1, by rw [h.2.1]; exact h.2.2.1⟩
end Go.Proofs.YtjbcfpkibnhodaaGreatDoor.Ab
namespace Go.Proofs.YtjbcfpkibnhodaaGreatDoor.Ab
open Go
set_option linter.unusedSimpArgs false
theorem od_some {α : Type} {l : List α} {i : Nat} (h : i < l.length) : ∃ x, l[i]? = some x ∧ x ∈ l := ⟨l[i], List.getElem?_eq_getElem h, List.getElem_mem h⟩
def compT {α : Type} [DecidableEq α] : α → List α → List α
  | _, [] => []
  | p, y :: r => if p = y then compT p r else y :: compT y r
def compA {α : Type} [DecidableEq α] : List α → List α
  | [] => []
  | x :: r => x :: compT x r
section
variable {α : Type} [DecidableEq α]
end
structure TO {α : Type} (lt : α → α → Bool) (ok : α → Prop) : Prop where
  irr : ∀ a, lt a a = false
  trans : ∀ {a b c}, lt a b = true → lt b c = true → lt a c = true
  tot : ∀ {a b}, ok a → ok b → a ≠ b → lt a b = true ∨ lt b a = true
section
variable {α : Type} {lt : α → α → Bool} {ok : α → Prop}
theorem TO.asy (T : TO lt ok) {a b : α} (h : lt a b = true) : lt b a = false := by
  cases h2 : lt b a with
  | false => rfl
  | true =>
    have := T.trans h h2
    rw [T.irr] at this
    cases this
theorem TO.ntrans [DecidableEq α] (T : TO lt ok) {a b c : α} (ha : ok a) (hb : ok b) (h1 : lt a b = false) (h2 : lt b c = false) : lt a c = false := by
  cases h : lt a c with
  | false => rfl
  | true =>
    exfalso
    by_cases e1 : a = b
    · subst e1; rw [h] at h2; cases h2
    · rcases T.tot ha hb e1 with h3 | h3
      · rw [h1] at h3; cases h3
      · have := T.trans h3 h
        rw [h2] at this; cases this
def insO (lt : α → α → Bool) (x : α) : List α → List α
  | [] => [x]
  | y :: l => if lt y x then y :: insO lt x l else x :: y :: l
def sortO (lt : α → α → Bool) (l : List α) : List α := l.foldr (insO lt) []
theorem insO_perm (lt : α → α → Bool) (x : α) : ∀ l, (insO lt x l).Perm (x :: l)
  | [] => .refl _
  | y :: l => by
    rw [insO]
    split
    · exact ((insO_perm lt x l).cons y).trans (List.Perm.swap x y l)
    · exact .refl _
theorem TO.insO_sorted [DecidableEq α] (T : TO lt ok) {x : α} (hx : ok x) : ∀ {l : List α}, (∀ y ∈ l, ok y) → l.Pairwise (fun a b => lt b a = false) → (insO lt x l).Pairwise fun a b => lt b a = false
  | [], _, _ => by simp [insO]
  | y :: l, hok, h => by
    rw [List.pairwise_cons] at h
    rw [insO]
    split
    · rename_i hl
      rw [List.pairwise_cons]
      refine ⟨fun z hz => ?_, T.insO_sorted hx (fun z hz => hok z (by simp [hz])) h.2⟩
      rcases List.mem_cons.1 ((insO_perm lt x l).subset hz) with e | e
      · rw [e]; exact T.asy hl
      · exact h.1 z e
    · rename_i hl
      have hl : lt y x = false := by simpa using hl
      rw [List.pairwise_cons, List.pairwise_cons]
      refine ⟨fun z hz => ?_, h⟩
      rcases List.mem_cons.1 hz with e | e
      · rw [e]; exact hl
      · exact T.ntrans (hok z (by simp [e])) (hok y (by simp)) (h.1 z e) hl
theorem sortO_perm (lt : α → α → Bool) : ∀ (l : List α), (sortO lt l).Perm l
  | [] => .refl _
  | x :: l => (insO_perm lt x (sortO lt l)).trans ((sortO_perm lt l).cons x)
theorem TO.sortO_sorted [DecidableEq α] (T : TO lt ok) : ∀ {l : List α}, (∀ x ∈ l, ok x) → (sortO lt l).Pairwise fun a b => lt b a = false
  | [], _ => List.Pairwise.nil
  | x :: l, hok => T.insO_sorted (hok x (by simp)) (fun y hy => hok y (by simp [(sortO_perm lt l).subset hy])) (T.sortO_sorted fun y hy => hok y (by simp [hy]))
theorem TO.strict_ext (T : TO lt ok) : ∀ {l k : List α}, l.Pairwise (fun a b => lt a b = true) → k.Pairwise (fun a b => lt a b = true) → (∀ x, x ∈ l ↔ x ∈ k) → l = k
  | [], [], _, _, _ => rfl
  | [], y :: k, _, _, h => by have := (h y).2 (by simp); cases this
  | x :: l, [], _, _, h => by have := (h x).1 (by simp); cases this
  | x :: l, y :: k, hl, hk, h => by
    rw [List.pairwise_cons] at hl hk
    have hxy : x = y := by
      rcases List.mem_cons.1 ((h x).1 (by simp)) with e | e
      · exact e
      · rcases List.mem_cons.1 ((h y).2 (by simp)) with e2 | e2
        · exact e2.symm
        · have h1 := hk.1 x e
          have h2 := hl.1 y e2
          rw [T.asy h1] at h2
          cases h2
    subst hxy
    rw [T.strict_ext hl.2 hk.2 fun z => ?_]
    constructor
    · intro hz
      rcases List.mem_cons.1 ((h z).1 (by simp [hz])) with e | e
      · subst e
        have := hl.1 z hz
        rw [T.irr] at this
        cases this
      · exact e
    · intro hz
      rcases List.mem_cons.1 ((h z).2 (by simp [hz])) with e | e
      · subst e
        have := hk.1 z hz
        rw [T.irr] at this
        cases this
      · exact e
theorem compO_memT [DecidableEq α] : ∀ (r : List α) (p x : α), x ∈ p :: compT p r ↔ x ∈ p :: r
  | [], p, x => by simp [compT]
  | y :: r, p, x => by
    rw [compT]
    by_cases e : p = y
    · subst e
      rw [if_pos rfl, compO_memT r p x]
      simp
    · rw [if_neg e, List.mem_cons, compO_memT r y x]
      simp
theorem compO_mem [DecidableEq α] (l : List α) (x : α) : x ∈ compA l ↔ x ∈ l := by
  cases l with
  | nil => simp [compA]
  | cons y r => exact compO_memT r y x
theorem TO.compT_strict [DecidableEq α] (T : TO lt ok) : ∀ (r : List α) (p : α), (∀ x ∈ p :: r, ok x) → (p :: r).Pairwise (fun a b => lt b a = false) → (p :: compT p r).Pairwise fun a b => lt a b = true
  | [], p, _, _ => by simp [compT]
  | y :: r, p, hok, h => by
    rw [List.pairwise_cons] at h
    rw [compT]
    by_cases e : p = y
    · subst e
      rw [if_pos rfl]
      exact T.compT_strict r p (fun x hx => hok x (List.mem_cons_of_mem _ hx)) h.2
    · rw [if_neg e]
      have h2 := T.compT_strict r y (fun x hx => hok x (List.mem_cons_of_mem _ hx)) h.2
      rw [List.pairwise_cons]
      refine ⟨fun z hz => ?_, h2⟩
      have hpy : lt p y = true := by
        rcases T.tot (hok p (by simp)) (hok y (by simp)) e with h3 | h3
        · exact h3
        · rw [h.1 y (by simp)] at h3; cases h3
      rcases List.mem_cons.1 hz with e2 | e2
      · rw [e2]; exact hpy
      · rw [List.pairwise_cons] at h2
        exact T.trans hpy (h2.1 z e2)
def orderO [DecidableEq α] (lt : α → α → Bool) (l : List α) : List α := compA (sortO lt l)
theorem TO.order_strict [DecidableEq α] (T : TO lt ok) {l : List α} (hok : ∀ x ∈ l, ok x) : (orderO lt l).Pairwise fun a b => lt a b = true := by
  unfold orderO
  have h := T.sortO_sorted hok
  have hp := sortO_perm lt l
  cases hs : sortO lt l with
  | nil => simp [compA]
  | cons y r =>
    rw [hs] at h hp
    exact T.compT_strict r y (fun x hx => hok x (hp.subset hx)) h
theorem orderO_mem [DecidableEq α] {l : List α} {x : α} : x ∈ orderO lt l ↔ x ∈ l := by
  unfold orderO
  rw [compO_mem]
  exact (sortO_perm lt l).mem_iff
def goO (lt : α → α → Bool) (b : α) (l : List α) : Nat → Nat
  | 0 => 0
  | n + 1 => match l[n]? with | some x => if lt b x then goO lt b l n else n + 1 | none => n + 1
theorem goO_le (lt : α → α → Bool) (b : α) (l : List α) : ∀ n, goO lt b l n ≤ n
  | 0 => Nat.le_refl _
  | n + 1 => by
    rw [goO]
    split
    · split
      · exact Nat.le_succ_of_le (goO_le lt b l n)
      · exact Nat.le_refl _
    · exact Nat.le_refl _
theorem goO_spec {b : α} {l : List α} : ∀ (n : Nat), n ≤ l.length → (∀ j x, goO lt b l n ≤ j → j < n → l[j]? = some x → lt b x = true) ∧ (∀ j x, j + 1 = goO lt b l n → l[j]? = some x → lt b x = false)
  | 0, _ => ⟨fun j x _ h => by omega, fun j x h => by simp [goO] at h⟩
  | n + 1, hn => by
    obtain ⟨y, hy, _⟩ := od_some (l := l) (i := n) (by omega)
    have he : goO lt b l (n + 1) = if lt b y then goO lt b l n else n + 1 := by rw [goO, hy]
    cases h : lt b y with
    | true =>
      rw [he, h, if_pos rfl]
      obtain ⟨h1, h2⟩ := goO_spec (b := b) (l := l) n (by omega)
      refine ⟨fun j x hj hjn hx => ?_, h2⟩
      by_cases e : j = n
      · subst e; rw [hy] at hx; cases hx; exact h
      · exact h1 j x hj (by omega) hx
    | false =>
      rw [he, h, if_neg (by simp)]
      refine ⟨fun j x hj hjn => by omega, fun j x hj hx => ?_⟩
      have : j = n := by omega
      subst this
      rw [hy] at hx; cases hx
      exact h
def isO (lt : α → α → Bool) (l : List α) (c : α) : Nat → Bool
  | 0 => false
  | n + 1 => match l[n]? with
    | some x => !lt x c && !lt c x
    | none => false
def putO (lt : α → α → Bool) (l : List α) (c : α) : List α := if isO lt l c (goO lt c l l.length) = true then l else l.take (goO lt c l l.length) ++ c :: l.drop (goO lt c l l.length)
theorem putO_memL {l : List α} {c x : α} (h : x ∈ putO lt l c) : x ∈ l ∨ x = c := by
  unfold putO at h
  split at h
  · exact .inl h
  · simp only [List.mem_append, List.mem_cons] at h
    rcases h with h | h | h
    · exact .inl (List.mem_of_mem_take h)
    · exact .inr h
    · exact .inl (List.mem_of_mem_drop h)
theorem TO.isO_eq [DecidableEq α] (T : TO lt ok) {l : List α} {c : α} {n : Nat} (hl : ∀ x ∈ l, ok x) (hc : ok c) (h : isO lt l c n = true) : c ∈ l := by
  cases n with
  | zero => cases h
  | succ n =>
    rw [isO] at h
    split at h
    · rename_i x hx
      have hm : x ∈ l := List.mem_of_getElem? hx
      by_cases e : x = c
      · rw [← e]; exact hm
      · simp only [Bool.and_eq_true, Bool.not_eq_true'] at h
        rcases T.tot (hl x hm) hc e with h3 | h3
        · rw [h.1] at h3; cases h3
        · rw [h.2] at h3; cases h3
    · cases h
theorem TO.putO_strict [DecidableEq α] (T : TO lt ok) {l : List α} {b : α} (hok : ∀ x ∈ l, ok x) (okb : ok b) (h : l.Pairwise fun a b => lt a b = true) : (putO lt l b).Pairwise (fun a b => lt a b = true) ∧ ∀ x, x ∈ putO lt l b ↔ x ∈ l ∨ x = b := by
  have hsub : ∀ {x}, x ∈ putO lt l b → x ∈ l ∨ x = b := putO_memL
  obtain ⟨h1, h2⟩ := goO_spec (lt := lt) (b := b) (l := l) l.length (Nat.le_refl _)
  have hle := goO_le lt b l l.length
  unfold putO at hsub ⊢
  by_cases his : isO lt l b (goO lt b l l.length) = true
  · rw [if_pos his]
    exact ⟨h, fun x => ⟨.inl, fun h2 => h2.elim id fun e => e ▸ T.isO_eq hok okb his⟩⟩
  · rw [if_neg his] at hsub ⊢
    have hne : ∀ z, l[goO lt b l l.length - 1]? = some z → 0 < goO lt b l l.length → z ≠ b := fun z hz h0 e => by
      apply his
      obtain ⟨k, hk⟩ : ∃ k, goO lt b l l.length = k + 1 := ⟨goO lt b l l.length - 1, by omega⟩
      rw [hk] at hz ⊢
      rw [isO]
      simp only [Nat.add_sub_cancel] at hz
      rw [hz]
      subst e
      simp [T.irr]
    generalize goO lt b l l.length = g at *
    have hd : ∀ y ∈ l.drop g, lt b y = true := fun y hy => by
      obtain ⟨j, hj⟩ := List.getElem?_of_mem hy
      rw [List.getElem?_drop] at hj
      exact h1 (g + j) y (by omega) (List.getElem?_eq_some_iff.1 hj).1 hj
    have ht : ∀ y ∈ l.take g, lt y b = true := fun y hy => by
      obtain ⟨j, hj⟩ := List.getElem?_of_mem hy
      rw [List.getElem?_take] at hj
      split at hj
      · rename_i hjg
        obtain ⟨z, hz, hzm⟩ := od_some (l := l) (i := g - 1) (by omega)
        have hzb := h2 (g - 1) z (by omega) hz
        have hzb2 : lt z b = true := by
          rcases T.tot (hok z hzm) okb (hne z hz (by omega)) with h3 | h3
          · exact h3
          · rw [hzb] at h3; cases h3
        by_cases e : j = g - 1
        · subst e
          rw [hz] at hj; cases hj
          exact hzb2
        · obtain ⟨a1, a2⟩ := List.getElem?_eq_some_iff.1 hj
          obtain ⟨b1, b2⟩ := List.getElem?_eq_some_iff.1 hz
          have := (List.pairwise_iff_getElem.1 h) j (g - 1) a1 b1 (by omega)
          rw [a2, b2] at this
          exact T.trans this hzb2
      · cases hj
    refine ⟨?_, fun x => ⟨hsub, fun hx => ?_⟩⟩
    · rw [List.pairwise_append, List.pairwise_cons]
      refine ⟨h.sublist (List.take_sublist _ _), ⟨hd, h.sublist (List.drop_sublist _ _)⟩, fun a ha c hc => ?_⟩
      rcases List.mem_cons.1 hc with e | e
      · rw [e]; exact ht a ha
      · exact T.trans (ht a ha) (hd c e)
    · have e : x ∈ l ↔ x ∈ l.take g ∨ x ∈ l.drop g := by rw [← List.mem_append, List.take_append_drop]
      rw [List.mem_append, List.mem_cons]
      rcases hx with hx | hx
      · rcases e.1 hx with hx | hx
        · exact .inl hx
        · exact .inr (.inr hx)
      · exact .inr (.inl hx)
theorem TO.puts_strict [DecidableEq α] (T : TO lt ok) : ∀ (m w : List α), (∀ x ∈ m, ok x) → (∀ x ∈ w, ok x) → w.Pairwise (fun a b => lt a b = true) → (m.foldl (putO lt) w).Pairwise (fun a b => lt a b = true) ∧ ∀ x, x ∈ m.foldl (putO lt) w ↔ x ∈ w ∨ x ∈ m
  | [], w, _, _, h => ⟨h, fun x => by simp⟩
  | b :: m, w, hm, hw, h => by
    obtain ⟨p1, p2⟩ := T.putO_strict hw (hm b (by simp)) h
    obtain ⟨h1, h2⟩ := T.puts_strict m (putO lt w b) (fun x hx => hm x (by simp [hx])) (fun x hx => ((p2 x).1 hx).elim (hw x) fun e => e ▸ hm b (by simp)) p1
    refine ⟨h1, fun x => ?_⟩
    rw [List.foldl_cons, h2, p2, List.mem_cons]
    exact ⟨fun h => h.elim (fun h => h.elim .inl fun h => .inr (.inl h)) fun h => .inr (.inr h), fun h => h.elim (fun h => .inl (.inl h)) fun h => h.elim (fun h => .inl (.inr h)) .inr⟩
theorem TO.order_puts [DecidableEq α] (T : TO lt ok) {m : List α} (hok : ∀ x ∈ m, ok x) : orderO lt m = m.foldl (putO lt) [] := by
  obtain ⟨h1, h2⟩ := T.puts_strict m [] hok (fun x h => by cases h) List.Pairwise.nil
  refine T.strict_ext (T.order_strict hok) h1 fun x => ?_
  rw [orderO_mem, h2]
  simp
end
end Go.Proofs.YtjbcfpkibnhodaaGreatDoor.Ab
namespace Go.Proofs.YtjbcfpkibnhodaaGreatDoor.Ab
open Go
set_option linter.unusedSimpArgs false
set_option maxHeartbeats 4000000
set_option maxRecDepth 100000
variable {G : Nat → Option AV}
theorem view_row {α : Type} {e : α → AV} {sz : Nat} {H : List (Nat × Box)} {i n : Nat} {ty : Nat} {l : List α} (h0 : 0 < sz) (hH : hget H i = some ⟨true, ty, sz, l.map e⟩) (hn : l.length = n) : view H (.arr i 0 n) = some (.seq sz (l.map e)) := by
  simp only [view, hH, List.drop_zero, List.length_map, hn]
  simp [h0, ← hn]
  exact List.take_of_length_le (by simp)
def unionOne (a b : List SlotT) (v : Nat) : List SlotT := if (getR a v).2 then [⟨v, (getR a v).1⟩] else if (getR b v).2 then [⟨v, (getR b v).1⟩] else []
def unionR (a b : List SlotT) : List SlotT := (List.range 8).flatMap (unionOne a b)
def unionN (a b : List SlotT) (n : Nat) : List SlotT := (List.range n).flatMap (unionOne a b)
theorem unionN_succ (a b : List SlotT) (n : Nat) : unionN a b (n + 1) = unionN a b n ++ unionOne a b n := by simp [unionN, List.range_succ]
theorem unionOne_len (a b : List SlotT) (v : Nat) : (unionOne a b v).length ≤ 1 := by
  unfold unionOne
  split
  · simp
  · split <;> simp
theorem unionN_len (a b : List SlotT) : ∀ n, (unionN a b n).length ≤ n
  | 0 => by simp [unionN]
  | n + 1 => by
    have h1 := unionN_len a b n
    have h2 := unionOne_len a b n
    rw [unionN_succ, List.length_append]
    omega
theorem ref05_Union_pc (a b : List SlotT) (ha : a.length < 9223372036854775807) (hb : b.length < 9223372036854775807) : P_ Tryz.prog G n_proctorref05_Union [s11 a, s11 b] (s11 (unionR a b)) := by
  refine pc_proctorref05_Union (Runs.of fun Φ h => ?_)
  unfold c_proctorref05_Union
  simp -implicitDefEqProofs only [go_sem, s11]
  refine al_ (fun n st => ∃ (i : Nat) (m : List SlotT), i + n = 8 ∧ st = ⟨42, [(0, .seq 5 (a.map slotV)), (1, .seq 5 (b.map slotV)), (5, .arr 5 0 m.length), (6, iv i)], [(4, ⟨true, ta10, 5, []⟩), (5, ⟨true, ta10, 5, m.map slotV⟩)]⟩ ∧ m = unionN a b i) 8 ⟨0, [], by simp, rfl, rfl⟩ ?_
  rintro I hI n st ⟨i, m, hi, rfl, hm⟩
  have hml : m.length ≤ 8 := by have := unionN_len a b i; rw [hm]; omega
  simp -implicitDefEqProofs only [go_sem]
  refine ⟨fun hlt => ?_, fun hge => ?_⟩
  · have hlt' : i < 8 := by omega
    have hw := ws_ hlt' (by omega)
    have h1 := ref05_Get_pc (G := G) a ha i
    have h2 := ref05_Get_pc (G := G) b hb i
    have hnx := unionN_succ a b i
    rw [← hm] at hnx
    unfold unionOne at hnx
    have hb1 : (m.length + 1) * 48 ≤ 140737488355328 := by omega
    generalize getR a i = x at *
    generalize getR b i = y at *
    obtain ⟨⟨k1, n1, s1, t1⟩, o1⟩ := x
    obtain ⟨⟨k2, n2, s2, t2⟩, o2⟩ := y
    simp only [s11, vbt, valV] at h1 h2
    cases o1
    · cases o2
      · simp only [Bool.false_eq_true, if_false, List.append_nil] at hnx
        repeat' (first | (simp -implicitDefEqProofs only [go_sem, hw]) | refine ag_ (fun hb => ?_) (fun hb => ?_) | refine ⟨fun hb => ?_, fun hb => ?_⟩ | refine ac_ (h1) rfl rfl ?_ | refine ac_ (h2) rfl rfl ?_ | fail)
        exact aa_ (n - 1) (by omega) (hI _ _ ⟨i + 1, m, by omega, rfl, hnx.symm⟩)
      · simp only [Bool.false_eq_true, if_false, if_true] at hnx
        repeat' (first | (simp -implicitDefEqProofs only [go_sem, hw, List.length_map, List.length_append, hb1]) | refine ag_ (fun hb => ?_) (fun hb => ?_) | refine ⟨fun hb => ?_, fun hb => ?_⟩ | refine ac_ (h1) rfl rfl ?_ | refine ac_ (h2) rfl rfl ?_ | fail)
        refine aa_ (n - 1) (by omega) (hI _ _ ⟨i + 1, m ++ [⟨i, ⟨k2, n2, s2, t2⟩⟩], by omega, ?_, hnx.symm⟩)
        simp [slotV]
    · simp only [if_true] at hnx
      repeat' (first | (simp -implicitDefEqProofs only [go_sem, hw, List.length_map, List.length_append, hb1]) | refine ag_ (fun hb => ?_) (fun hb => ?_) | refine ⟨fun hb => ?_, fun hb => ?_⟩ | refine ac_ (h1) rfl rfl ?_ | refine ac_ (h2) rfl rfl ?_ | fail)
      refine aa_ (n - 1) (by omega) (hI _ _ ⟨i + 1, m ++ [⟨i, ⟨k1, n1, s1, t1⟩⟩], by omega, ?_, hnx.symm⟩)
      simp [slotV]
  · have : i = 8 := by omega
    subst this
    have hm : m = unionR a b := hm
    subst hm
    repeat' (first | (simp -implicitDefEqProofs only [go_sem]) | refine ag_ (fun hb => ?_) (fun hb => ?_) | refine ⟨fun hb => ?_, fun hb => ?_⟩ | fail)
    exact h _ ⟨_, _, rfl, view_row (ty := ta10) (e := slotV) (by decide) (by simp [hget]) rfl, .refl _⟩
end Go.Proofs.YtjbcfpkibnhodaaGreatDoor.Ab
namespace Go.Proofs.YtjbcfpkibnhodaaGreatDoor.Ab
open Go Go.RowKit Go.Shelf
attribute [local go_sem] Oper.semAt_some
set_option linter.unusedSimpArgs false
set_option maxHeartbeats 4000000
set_option maxRecDepth 100000
variable {G : Nat → Option AV}
def underOne (b : List SlotT) (s : SlotT) : Bool := (getR b s.var).2 && decide ((getR b s.var).1 = s.value)
def underR (a b : List SlotT) : Bool := a.all (underOne b)
end Go.Proofs.YtjbcfpkibnhodaaGreatDoor.Ab
namespace Go.Proofs.YtjbcfpkibnhodaaGreatDoor.Ab
open Go Go.RowKit Go.Shelf
attribute [local go_sem] Oper.semAt_some
set_option linter.unusedSimpArgs false
set_option maxHeartbeats 4000000
set_option maxRecDepth 100000
variable {G : Nat → Option AV}
def fitsOne (b : List SlotT) (s : SlotT) : Bool := !(getR b s.var).2 || decide ((getR b s.var).1 = s.value)
def fitsB (a b : List SlotT) : Bool := a.all (fitsOne b)
end Go.Proofs.YtjbcfpkibnhodaaGreatDoor.Ab
