/-
  The reference's step, hit by hit, is the one by transitions: plain. What hits make of states of an automaton without free variables and guards: the reference's configurations are the bits' states. proctorlaw05.awake; the document's binding of slots. The binding of slots: the search's one is the document's (the end). proctorref08.Right; what hits of such an event are. subset.Hits; hits under a binding, of an automaton without free variables. No claim is proved here.
-/
import Derived.Test.YtjbcfpkibnhodaaGreatDoorWHt4
namespace Go.Proofs.YtjbcfpkibnhodaaGreatDoor.Ab
open Go
set_option linter.unusedSimpArgs false
def Rising (hits : List HitT) : Prop := hits.Pairwise fun a b => a.symbol < b.symbol
theorem worse_zero (a : Int) : worseR a 0 = a := by
  unfold worseR
  by_cases h : a = 0
  · rw [if_pos (.inl h), h]
  · rw [if_neg (by omega)]
theorem hFold_none {q : QeaT} {c : CfgT} {t : TransT} : ∀ {l : List HitT} (s : List CfgT × Int), (∀ h ∈ l, ¬ h.symbol = t.symbol) → l.foldl (hStep q c t) s = s
  | [], _, _ => rfl
  | x :: l, s, h => by
    rw [List.foldl_cons, hStep, if_neg (h x (by simp))]
    exact hFold_none s fun y hy => h y (by simp [hy])
theorem hFold_find {q : QeaT} {c : CfgT} {t : TransT} : ∀ {l : List HitT} (s : List CfgT × Int), Rising l → l.foldl (hStep q c t) s = match l.find? (fun h => h.symbol == t.symbol) with
    | some h => ((if (fireR q c t h).2.1 = true then putR s.1 (fireR q c t h).1 else s.1), worseR s.2 (fireR q c t h).2.2)
    | none => s
  | [], _, _ => rfl
  | x :: l, s, h => by
    obtain ⟨h1, h2⟩ := List.pairwise_cons.1 h
    rw [List.foldl_cons, List.find?_cons]
    by_cases hx : x.symbol = t.symbol
    · rw [show (x.symbol == t.symbol) = true by simpa using hx]
      rw [hFold_none _ fun y hy e => by have := h1 y hy; omega]
      rw [hStep, if_pos hx]
    · rw [show (x.symbol == t.symbol) = false by simpa using hx]
      rw [hStep, if_neg hx]
      exact hFold_find s h2
theorem tStep_eq {q : QeaT} {c : CfgT} {hits : List HitT} (hr : Rising hits) (s : List CfgT × Int) (t : TransT) : tStep q c hits s t = ((okT q c hits t).foldl putR s.1, (badT q c hits t).foldl worseR s.2) := by
  unfold tStep okT badT resT
  by_cases hf : t.from_ = c.state
  · rw [if_pos hf, if_pos hf, hFold_find s hr]
    cases hits.find? (fun h => h.symbol == t.symbol) with
    | none => rfl
    | some h =>
      simp only [Option.map_some]
      generalize fireR q c t h = r
      obtain ⟨n, b, e⟩ := r
      dsimp only
      by_cases he : e = 0
      · subst he
        rw [worse_zero]
        cases b <;> rfl
      · cases b <;> simp [he]
  · rw [if_neg hf, if_neg hf]
    rfl
theorem tFold_eq {q : QeaT} {c : CfgT} {hits : List HitT} (hr : Rising hits) : ∀ (l : List TransT) (s : List CfgT × Int), l.foldl (tStep q c hits) s = ((l.flatMap (okT q c hits)).foldl putR s.1, (l.flatMap (badT q c hits)).foldl worseR s.2)
  | [], _ => rfl
  | t :: l, s => by
    rw [List.foldl_cons, tFold_eq hr l, tStep_eq hr, List.flatMap_cons, List.flatMap_cons, List.foldl_append, List.foldl_append]
theorem ofR_nil {l : List CfgT} : ofR l = [] ↔ l = [] := by
  constructor
  · intro h
    rcases List.eq_nil_or_concat l with rfl | ⟨l', x, rfl⟩
    · rfl
    · exfalso
      unfold ofR at h
      rw [List.concat_eq_append, List.foldl_append] at h
      exact putR_ne _ _ h
  · intro h
    subst h
    rfl
theorem one19_eq {q : QeaT} {c : CfgT} {hits : List HitT} (hr : Rising hits) : one19 q c hits = oneQ q c hits := by
  have hS : one19S q c hits = (ofR (oksR q c hits), leastR (badsR q c hits)) := tFold_eq hr q.trans ([], 0)
  unfold one19 oneQ
  rw [hS]
  dsimp only
  by_cases h : leastR (badsR q c hits) = 0
  · have hn : ¬ ¬ leastR (badsR q c hits) = 0 := fun e => e h
    rw [if_neg hn, if_neg hn]
    by_cases h2 : oksR q c hits = [] ∧ nextAt q c = false
    · have h3 : ofR (oksR q c hits) = [] ∧ nextAt q c = false := ⟨ofR_nil.2 h2.1, h2.2⟩
      rw [if_pos h2, if_pos h3]
    · have h3 : ¬ (ofR (oksR q c hits) = [] ∧ nextAt q c = false) := fun e => h2 ⟨ofR_nil.1 e.1, e.2⟩
      rw [if_neg h2, if_neg h3]
  · rw [if_pos h, if_pos h]
theorem all19_eq {q : QeaT} {set : List CfgT} {hits : List HitT} (hr : Rising hits) : all19 q set hits = allQ q set hits := by
  have e : acc19 q hits = allAcc q hits := by
    funext s c
    unfold acc19 allAcc
    rw [one19_eq hr]
  unfold all19 allQ
  rw [e]
theorem fireR_plain {q : QeaT} {c : CfgT} {t : TransT} {h : HitT} (hg : t.guard < 0) (hs : t.sets = []) (hf : c.vals = []) : fireR q c t h = (⟨t.to_, []⟩, true, 0) := by
  have hfr : ∀ (l : List SlotT), freeR l [] = [] := fun l => List.eq_nil_of_length_eq_zero (freeR_len l [])
  unfold fireR guardR
  rw [if_pos hg, hf, hfr, hs]
  simp [setsR]
end Go.Proofs.YtjbcfpkibnhodaaGreatDoor.Ab
namespace Go.Proofs.YtjbcfpkibnhodaaGreatDoor.Ab
open Go
set_option linter.unusedSimpArgs false
structure PlainQ (q : QeaT) : Prop where
  good : q.Good
  mask : MaskQ q
  frees : q.frees = []
  guard : ∀ t ∈ q.trans, t.guard < 0
def maskStep (a : Nat) (h : HitT) : Nat := a ||| 2 ^ h.symbol.toNat
def maskH (hits : List HitT) : Nat := hits.foldl maskStep 0
theorem mask_go : ∀ (l : List HitT) (a i : Nat), (l.foldl maskStep a).testBit i = (a.testBit i || l.any fun h => decide (h.symbol.toNat = i))
  | [], a, i => by simp
  | h :: l, a, i => by
    rw [List.foldl_cons, mask_go l, maskStep, Nat.testBit_or, Nat.testBit_two_pow, List.any_cons, Bool.or_assoc]
theorem mask_bit (hits : List HitT) (i : Nat) : (maskH hits).testBit i = true ↔ ∃ h ∈ hits, h.symbol.toNat = i := by
  unfold maskH
  rw [mask_go]
  simp
theorem to_go {k i : Nat} : ∀ (l : List TransT) (a j : Nat), (l.foldl (toF k i) a).testBit j = true ↔ a.testBit j = true ∨ ∃ t ∈ l, t.from_ = (i : Int) ∧ k.testBit t.symbol.toNat = true ∧ t.to_.toNat = j
  | [], a, j => by simp
  | t :: l, a, j => by
    rw [List.foldl_cons, to_go l]
    have e : (toF k i a t).testBit j = true ↔ a.testBit j = true ∨ (t.from_ = (i : Int) ∧ k.testBit t.symbol.toNat = true ∧ t.to_.toNat = j) := by
      unfold toF
      split
      · rename_i h
        rw [Nat.testBit_or, Nat.testBit_two_pow, Bool.or_eq_true, decide_eq_true_eq]
        exact ⟨fun h1 => h1.imp id fun h2 => ⟨h.1, h.2, h2⟩, fun h1 => h1.imp id fun h2 => h2.2.2⟩
      · rename_i h
        exact ⟨.inl, fun h1 => h1.elim id fun h2 => absurd ⟨h2.1, h2.2.1⟩ h⟩
    rw [e]
    simp only [List.mem_cons, exists_eq_or_imp, or_assoc]
theorem to_bit {q : QeaT} {k i j : Nat} : (toN q k i).testBit j = true ↔ ∃ t ∈ q.trans, t.from_ = (i : Int) ∧ k.testBit t.symbol.toNat = true ∧ t.to_.toNat = j := by
  unfold toN
  rw [to_go]
  simp
theorem next_go {q : QeaT} {m k : Nat} : ∀ (l : List StateT) (i a j : Nat), (nextGo q m k l i a).testBit j = true ↔ a.testBit j = true ∨ ∃ d x, l[d]? = some x ∧ m.testBit (i + d) = true ∧ (stayN q k (i + d) x).testBit j = true
  | [], i, a, j => by simp [nextGo]
  | x :: l, i, a, j => by
    rw [nextGo, next_go l]
    have e : (if m.testBit i = true then a ||| stayN q k i x else a).testBit j = true ↔ a.testBit j = true ∨ (m.testBit i = true ∧ (stayN q k i x).testBit j = true) := by
      split
      · rename_i h
        rw [Nat.testBit_or, Bool.or_eq_true]
        exact ⟨fun h1 => h1.imp id fun h2 => ⟨h, h2⟩, fun h1 => h1.imp id fun h2 => h2.2⟩
      · rename_i h
        exact ⟨.inl, fun h1 => h1.elim id fun h2 => absurd h2.1 h⟩
    rw [e, or_assoc]
    refine or_congr Iff.rfl ⟨fun h => ?_, fun ⟨d, y, hd, h1, h2⟩ => ?_⟩
    · rcases h with h | ⟨d, y, hd, h1, h2⟩
      · exact ⟨0, x, rfl, h.1, h.2⟩
      · exact ⟨d + 1, y, by simpa using hd, by rw [show i + (d + 1) = i + 1 + d by omega]; exact h1, by rw [show i + (d + 1) = i + 1 + d by omega]; exact h2⟩
    · cases d with
      | zero => simp at hd; subst hd; exact .inl ⟨h1, h2⟩
      | succ d => exact .inr ⟨d, y, by simpa using hd, by rw [show i + 1 + d = i + (d + 1) by omega]; exact h1, by rw [show i + 1 + d = i + (d + 1) by omega]; exact h2⟩
theorem next_bit {q : QeaT} {m k j : Nat} : (nextN q m k).testBit j = true ↔ ∃ i x, q.states[i]? = some x ∧ m.testBit i = true ∧ (stayN q k i x).testBit j = true := by
  unfold nextN
  rw [next_go]
  simp
theorem setN_mem {n m i : Nat} : i ∈ setN n m ↔ i < n ∧ m.testBit i = true := by
  unfold setN
  rw [List.mem_filter, List.mem_range]
section
variable {q : QeaT} {hits : List HitT}
theorem PlainQ.sets (hq : PlainQ q) {t : TransT} (ht : t ∈ q.trans) : t.sets = [] := by
  cases hs : t.sets with
  | nil => rfl
  | cons s l =>
    obtain ⟨e, f, x, fr, _, _, _, _, hf, _⟩ := (transK hq.good.right ht).sets s (by rw [hs]; simp)
    rw [hq.frees] at hf
    cases hf
theorem PlainQ.cfg (hq : PlainQ q) {i : Nat} (hi : i < q.states.length) : (cfgC i).Ok q := by
  refine ⟨?_, fun v hv => by cases hv⟩
  unfold cfgR cfgC
  rw [hq.frees]
  simp only [Bool.and_eq_true, decide_eq_true_eq]
  exact ⟨by omega, by omega, rfl⟩
theorem oks_plain (hq : PlainQ q) (i : Nat) (x : CfgT) : x ∈ oksR q (cfgC i) hits ↔ ∃ t ∈ q.trans, t.from_ = (i : Int) ∧ (∃ h ∈ hits, h.symbol = t.symbol) ∧ x = ⟨t.to_, []⟩ := by
  unfold oksR
  rw [List.mem_flatMap]
  refine exists_congr fun t => and_congr_right fun ht => ?_
  unfold okT resT
  by_cases hf : t.from_ = (i : Int)
  · rw [if_pos (by exact hf)]
    cases hh : hits.find? (fun h => h.symbol == t.symbol) with
    | none =>
      simp only [Option.map_none, List.not_mem_nil, false_iff]
      rintro ⟨_, ⟨h, hm, he⟩, _⟩
      have := List.find?_eq_none.1 hh h hm
      simp [he] at this
    | some h =>
      have hm := List.mem_of_find?_eq_some hh
      have he := List.find?_some hh
      simp only [Option.map_some]
      rw [fireR_plain (hq.guard t ht) (hq.sets ht) rfl]
      simp only [List.mem_singleton]
      exact ⟨fun e => ⟨hf, ⟨h, hm, by simpa using he⟩, e⟩, fun e => e.2.2⟩
  · rw [if_neg (by exact hf)]
    simp only [List.not_mem_nil, false_iff]
    exact fun e => hf e.1
theorem bads_plain (hq : PlainQ q) (i : Nat) : badsR q (cfgC i) hits = [] := by
  unfold badsR
  rw [List.flatMap_eq_nil_iff]
  intro t ht
  unfold badT resT
  split
  · rename_i r he
    split at he
    · cases hh : hits.find? (fun h => h.symbol == t.symbol) with
      | none => rw [hh] at he; cases he
      | some h =>
        rw [hh, Option.map_some, fireR_plain (hq.guard t ht) (hq.sets ht) rfl] at he
        cases he
        rfl
    · cases he
  · rfl
theorem made_plain (hq : PlainQ q) (hsy : ∀ h ∈ hits, 0 ≤ h.symbol) {i : Nat} {x : StateT} (hx : q.states[i]? = some x) (y : CfgT) : y ∈ (madeR q (cfgC i) hits).1 ↔ ∃ j, (stayN q (maskH hits) i x).testBit j = true ∧ y = cfgC j := by
  have hil := (List.getElem?_eq_some_iff.1 hx).1
  have hto : ∀ j, (toN q (maskH hits) i).testBit j = true ↔ ∃ t ∈ q.trans, t.from_ = (i : Int) ∧ (∃ h ∈ hits, h.symbol = t.symbol) ∧ t.to_.toNat = j := fun j => by
    rw [to_bit]
    refine exists_congr fun t => and_congr_right fun ht => and_congr_right fun _ => and_congr_left fun _ => ?_
    rw [mask_bit]
    refine exists_congr fun h => and_congr_right fun hm => ?_
    have := hsy h hm
    have := (hq.mask.sym t ht).1
    omega
  have hnx : nextAt q (cfgC i) = x.next := by
    unfold nextAt cfgC
    rw [at?_nat hx]
  have h0 : toN q (maskH hits) i = 0 ↔ oksR q (cfgC i) hits = [] := by
    constructor
    · intro h
      rw [List.eq_nil_iff_forall_not_mem]
      intro y hy
      obtain ⟨t, ht, hf, hh, _⟩ := (oks_plain hq i y).1 hy
      have := (hto t.to_.toNat).2 ⟨t, ht, hf, hh, rfl⟩
      rw [h] at this
      simp at this
    · intro h
      apply Nat.eq_of_testBit_eq
      intro j
      rw [Nat.zero_testBit, Bool.eq_false_iff]
      intro hb
      obtain ⟨t, ht, hf, hh, _⟩ := (hto j).1 hb
      have := (oks_plain (hits := hits) hq i ⟨t.to_, []⟩).2 ⟨t, ht, hf, hh, rfl⟩
      rw [h] at this
      cases this
  unfold madeR stayN
  rw [bads_plain hq, hnx]
  by_cases hc : oksR q (cfgC i) hits = [] ∧ x.next = false
  · rw [if_pos ⟨hc.1, rfl, hc.2⟩, if_pos ⟨h0.2 hc.1, hc.2⟩]
    simp only [List.mem_singleton, Nat.testBit_two_pow, decide_eq_true_eq]
    exact ⟨fun e => ⟨i, rfl, e⟩, fun ⟨j, e1, e2⟩ => by rw [e2, ← e1]⟩
  · rw [if_neg fun e => hc ⟨e.1, e.2.2⟩, if_neg fun e => hc ⟨h0.1 e.1, e.2⟩]
    dsimp only
    rw [oks_plain hq]
    constructor
    · rintro ⟨t, ht, hf, hh, e⟩
      refine ⟨t.to_.toNat, (hto _).2 ⟨t, ht, hf, hh, rfl⟩, ?_⟩
      have := (hq.mask.to_ t ht).1
      rw [e]
      unfold cfgC
      congr 1
      omega
    · rintro ⟨j, hj, e⟩
      obtain ⟨t, ht, hf, hh, ej⟩ := (hto j).1 hj
      refine ⟨t, ht, hf, hh, ?_⟩
      have := (hq.mask.to_ t ht).1
      rw [e]
      unfold cfgC
      congr 1
      omega
theorem setN_strict (n m : Nat) : ((setN n m).map cfgC).Pairwise fun a b => cfgLess a b = true := by
  rw [List.pairwise_map]
  unfold setN
  refine List.Pairwise.filter _ (List.Pairwise.imp ?_ List.pairwise_lt_range)
  intro a b h
  unfold cfgLess cfgC
  rw [if_pos (by simp; omega)]
  simpa using h
theorem all_plain (hq : PlainQ q) (hh : HitsOk q hits) (hsy : ∀ h ∈ hits, 0 ≤ h.symbol) (m : Nat) : allQ q ((setN q.states.length m).map cfgC) hits = ((setN q.states.length (nextN q m (maskH hits))).map cfgC, 0) := by
  have hset : ∀ c ∈ (setN q.states.length m).map cfgC, c.Ok q := fun c hc => by
    obtain ⟨i, hi, rfl⟩ := List.mem_map.1 hc
    exact hq.cfg (setN_mem.1 hi).1
  obtain ⟨g1, g2, g3, g4⟩ := allAcc_go hq.good hh _ hset ([], 0) (fun x h => by cases h) List.Pairwise.nil (Int.le_refl _)
  have hb : ∀ c ∈ (setN q.states.length m).map cfgC, (madeR q c hits).2 = [] := fun c hc => by
    obtain ⟨i, hi, rfl⟩ := List.mem_map.1 hc
    unfold madeR
    rw [bads_plain hq]
    split <;> rfl
  have hb0 : (((setN q.states.length m).map cfgC).flatMap fun c => (madeR q c hits).2) = [] := by
    rw [List.flatMap_eq_nil_iff]
    exact hb
  rw [hb0] at g1
  have hz : ∀ c ∈ (setN q.states.length m).map cfgC, (oneQ q c hits).2 = 0 := fun c hc => by
    rw [(oneQ_made hq.good (hset c hc) hh).1, hb c hc]
    rfl
  have hR : (((setN q.states.length m).map cfgC).foldl (allAcc q hits) ([], 0)).1 = (setN q.states.length (nextN q m (maskH hits))).map cfgC := by
    refine cfgTO.strict_ext g2 (setN_strict _ _) fun x => ?_
    rw [g4 hz x]
    simp only [List.not_mem_nil, false_or, List.mem_flatMap, List.mem_map]
    constructor
    · rintro ⟨c, ⟨i, hi, rfl⟩, hx⟩
      obtain ⟨hil, him⟩ := setN_mem.1 hi
      obtain ⟨s, hs, _⟩ := as10 hil
      obtain ⟨j, hj, rfl⟩ := (made_plain hq hsy hs x).1 hx
      have hok := (made_ok hq.good (hset (cfgC i) (List.mem_map.2 ⟨i, hi, rfl⟩)) hh).1 _ hx
      have hjl := hok.st.2.1
      refine ⟨j, setN_mem.2 ⟨?_, next_bit.2 ⟨i, s, hs, him, hj⟩⟩, rfl⟩
      unfold cfgC at hjl
      dsimp only at hjl
      omega
    · rintro ⟨j, hj, rfl⟩
      obtain ⟨_, hjn⟩ := setN_mem.1 hj
      obtain ⟨i, s, hs, him, hst⟩ := next_bit.1 hjn
      have hil := (List.getElem?_eq_some_iff.1 hs).1
      exact ⟨cfgC i, ⟨i, setN_mem.2 ⟨hil, him⟩, rfl⟩, (made_plain hq hsy hs _).2 ⟨j, hst, rfl⟩⟩
  unfold allQ
  dsimp only
  rw [show (((setN q.states.length m).map cfgC).foldl (allAcc q hits) ([], 0)).2 = 0 from g1, hR]
  rw [if_neg (by simp), if_neg]
  have := setN_len q.states.length (nextN q m (maskH hits))
  have := hq.mask.states
  rw [List.length_map]
  omega
end
end Go.Proofs.YtjbcfpkibnhodaaGreatDoor.Ab
namespace Go.Proofs.YtjbcfpkibnhodaaGreatDoor.Ab
open Go Go.RowKit
set_option linter.unusedSimpArgs false
set_option maxHeartbeats 4000000
set_option maxRecDepth 100000
variable {G : Nat → Option AV}
end Go.Proofs.YtjbcfpkibnhodaaGreatDoor.Ab
namespace Go.Proofs.YtjbcfpkibnhodaaGreatDoor.Ab
open Go
set_option linter.unusedSimpArgs false
theorem getR_yes2 {m : List SlotT} {v : Int} (h : (getR m v).2 = true) : ∃ y ∈ m, y.var = v ∧ (getR m v).1 = y.value := by
  unfold getR at h ⊢
  split at h
  · rename_i s hs
    refine ⟨s, List.mem_of_find?_eq_some hs, by simpa using List.find?_some hs, rfl⟩
  · cases h
end Go.Proofs.YtjbcfpkibnhodaaGreatDoor.Ab
namespace Go.Proofs.YtjbcfpkibnhodaaGreatDoor.Ab
open Go Go.RowKit
set_option linter.unusedSimpArgs false
set_option maxHeartbeats 4000000
set_option maxRecDepth 100000
variable {G : Nat → Option AV}
def evGo : List Val → List Int → Bool
  | v :: vs, t :: ts => v.kind == t && (v.ok && evGo vs ts)
  | _, _ => true
def evR (l : List DeclT) (e : EvT) : Bool := match at? l (idxF (fun d => d.name == e.name) l) with
  | none => false
  | some d => d.types.length == e.args.length && evGo e.args d.types
theorem evGo_at {vs : List Val} {ts : List Int} {i : Nat} {v : Val} {t : Int} (hv : vs[i]? = some v) (ht : ts[i]? = some t) : evGo (vs.drop i) (ts.drop i) = (v.kind == t && (v.ok && evGo (vs.drop (i + 1)) (ts.drop (i + 1)))) := by
  rw [dropC_at hv, dropC_at ht, evGo]
theorem evGo_end {vs : List Val} {ts : List Int} {i : Nat} (h : vs.length ≤ i) : evGo (vs.drop i) (ts.drop i) = true := by
  rw [List.drop_eq_nil_of_le h]
  cases ts.drop i <;> rfl
theorem evGo_all : ∀ {vs : List Val} {ts : List Int}, evGo vs ts = true → vs.length = ts.length → ∀ v ∈ vs, v.ok = true
  | [], _, _, _ => fun v h => by cases h
  | v :: vs, [], _, hl => by cases hl
  | v :: vs, t :: ts, h, hl => fun x hx => by
    rw [evGo, Bool.and_eq_true, Bool.and_eq_true] at h
    rcases List.mem_cons.1 hx with rfl | hx
    · exact h.2.1
    · exact evGo_all h.2.2 (by simpa using hl) x hx
theorem ref08_Right_pc (l : List DeclT) (e : EvT) (hl : l.length ≤ 1000000) (hd : ∀ d ∈ l, d.types.length ≤ 1000000) : P_ Tryz.prog G n_proctorref08_Right [d_ l, eventV e] (.bool (evR l e)) := by
  have h1 := ref07_Find_pc (G := G) l (by omega) e.name
  refine pc_proctorref08_Right (Runs.of fun Φ h => ?_)
  unfold c_proctorref08_Right
  have fin : ∀ b heap, evR l e = b → Φ ⟨56, [(4, .bool b)], heap⟩ := fun b heap e => h _ ⟨_, _, rfl, rfl, fitB e.symm⟩
  clear h
  have hR : evR l e = match at? l (idxF (fun d => d.name == e.name) l) with
    | none => false
    | some d => d.types.length == e.args.length && evGo e.args d.types := rfl
  generalize evR l e = R at *
  obtain ⟨en, ea⟩ := e
  dsimp only at h1 hR
  generalize hidx : idxF (fun d => d.name == en) l = idx at *
  simp only [d_] at h1
  cases ha : at? l idx with
  | none =>
    rw [ha] at hR
    have hneg : idx < 0 := by
      rcases at?_none ha with h | h
      · exact h
      · exfalso
        rw [← hidx] at h
        unfold idxF at h
        split at h
        · rename_i k hk
          rw [List.findIdx?_eq_some_iff_getElem] at hk
          have := hk.1
          omega
        · omega
    have e1 : (idx < 0) = True := by simp; exact hneg
    repeat' (first | (simp -implicitDefEqProofs only [go_sem, eventV, d_, e1, decide_true]) | refine ag_ (fun hb => ?_) (fun hb => ?_) | refine ⟨fun hb => ?_, fun hb => ?_⟩ | refine ac_ (h1) rfl rfl ?_ | fail)
    exact fin _ _ hR
  | some d =>
    obtain ⟨j, rfl, hj⟩ := at?_some ha
    have hdl := hd d (List.mem_of_getElem? hj)
    rw [ha] at hR
    dsimp only at hR
    obtain ⟨dn, dt⟩ := d
    dsimp only at hR hdl
    have e1 : ((j : Int) < 0) = False := by simp
    by_cases hln : dt.length = ea.length
    · rw [show (dt.length == ea.length) = true by simpa using hln, Bool.true_and] at hR
      have e2 : ((dt.length : Int) != (ea.length : Int)) = false := by simp; omega
      repeat' (first | (simp -implicitDefEqProofs only [go_sem, eventV, d_, e1, decide_false, am_ hj, declV, intsV, List.length_map, e2]) | refine ag_ (fun hb => ?_) (fun hb => ?_) | refine ⟨fun hb => ?_, fun hb => ?_⟩ | refine ac_ (h1) rfl rfl ?_ | fail)
      refine al_ (fun n st => ∃ i : Nat, i + n = ea.length ∧ st = ⟨56, [(0, d_ l), (3, .ref 3 0 0), (5, iv j), (6, iv i)], [(3, ⟨false, t_api_Event, 2, [eventV ⟨en, ea⟩]⟩)]⟩ ∧ evGo (ea.drop i) (dt.drop i) = R) ea.length ⟨0, by simp, rfl, hR.symm⟩ ?_
      rintro I hI n st ⟨i, hi, rfl, hgo⟩
      by_cases hlt' : i < ea.length
      · obtain ⟨v, hv, _⟩ := as10 hlt'
        obtain ⟨t, ht, _⟩ := as10 (l := dt) (i := i) (by omega)
        have hw := ws_ hlt' (by omega)
        have hlt : ((i : Int) < (ea.length : Int)) = True := by simp; exact hlt'
        rw [evGo_at hv ht] at hgo
        have h3 := ref03_Right_pc (G := G) v
        obtain ⟨v1, v2, v3, v4⟩ := v
        generalize (⟨v1, v2, v3, v4⟩ : Val).ok = ok at *
        dsimp only at hgo
        simp only [valV] at h3
        by_cases hk : v1 = t
        · rw [show (v1 == t) = true by simpa using hk, Bool.true_and] at hgo
          have e3 : (v1 != t) = false := by simp [hk]
          cases ok
          · rw [Bool.false_and] at hgo
            repeat' (first | (simp -implicitDefEqProofs only [go_sem, eventV, d_, List.length_map, hlt, decide_true, am_ hj, am_ hv, am_ ht, declV, intsV, valV, e3, hw]) | refine ag_ (fun hb => ?_) (fun hb => ?_) | refine ⟨fun hb => ?_, fun hb => ?_⟩ | refine ac_ (h3) rfl rfl ?_ | fail)
            exact fin _ _ hgo.symm
          · rw [Bool.true_and] at hgo
            repeat' (first | (simp -implicitDefEqProofs only [go_sem, eventV, d_, List.length_map, hlt, decide_true, am_ hj, am_ hv, am_ ht, declV, intsV, valV, e3, hw]) | refine ag_ (fun hb => ?_) (fun hb => ?_) | refine ⟨fun hb => ?_, fun hb => ?_⟩ | refine ac_ (h3) rfl rfl ?_ | fail)
            exact aa_ (n - 1) (by omega) (hI _ _ ⟨i + 1, by omega, rfl, hgo⟩)
        · rw [show (v1 == t) = false by simpa using hk, Bool.false_and] at hgo
          have e3 : (v1 != t) = true := by simp [hk]
          repeat' (first | (simp -implicitDefEqProofs only [go_sem, eventV, d_, List.length_map, hlt, decide_true, am_ hj, am_ hv, am_ ht, declV, intsV, valV, e3, hw]) | refine ag_ (fun hb => ?_) (fun hb => ?_) | refine ⟨fun hb => ?_, fun hb => ?_⟩ | refine ac_ (h3) rfl rfl ?_ | fail)
          exact fin _ _ hgo.symm
      · have hlt : ((i : Int) < (ea.length : Int)) = False := by simp; omega
        rw [evGo_end (by omega)] at hgo
        repeat' (first | (simp -implicitDefEqProofs only [go_sem, eventV, d_, List.length_map, hlt, decide_false]) | refine ag_ (fun hb => ?_) (fun hb => ?_) | refine ⟨fun hb => ?_, fun hb => ?_⟩ | fail)
        exact fin _ _ hgo.symm
    · rw [show (dt.length == ea.length) = false by simpa using hln, Bool.false_and] at hR
      have e2 : ((dt.length : Int) != (ea.length : Int)) = true := by simp; omega
      repeat' (first | (simp -implicitDefEqProofs only [go_sem, eventV, d_, e1, decide_false, am_ hj, declV, intsV, List.length_map, e2]) | refine ag_ (fun hb => ?_) (fun hb => ?_) | refine ⟨fun hb => ?_, fun hb => ?_⟩ | refine ac_ (h1) rfl rfl ?_ | fail)
      exact fin _ _ hR
theorem evR_ok {l : List DeclT} {e : EvT} (h : evR l e = true) : ∀ v ∈ e.args, v.ok = true := by
  unfold evR at h
  split at h
  · cases h
  · rw [Bool.and_eq_true, beq_iff_eq] at h
    exact evGo_all h.2 h.1.symm
theorem union_vals {a b : List SlotT} {s : SlotT} (h : s ∈ unionR a b) : ∃ x, (x ∈ a ∨ x ∈ b) ∧ x.value = s.value ∧ x.var = s.var := by
  unfold unionR at h
  obtain ⟨v, _, h⟩ := List.mem_flatMap.1 h
  unfold unionOne at h
  split at h
  · rename_i ha
    obtain rfl := List.mem_singleton.1 h
    obtain ⟨y, hy, h1, h2⟩ := getR_yes2 ha
    exact ⟨y, .inl hy, h2.symm, h1⟩
  · split at h
    · rename_i hb
      obtain rfl := List.mem_singleton.1 h
      obtain ⟨y, hy, h1, h2⟩ := getR_yes2 hb
      exact ⟨y, .inr hy, h2.symm, h1⟩
    · cases h
theorem putS_mem {l : List SlotT} {s x : SlotT} (h : x ∈ putS l s) : x ∈ l ∨ x = s := by
  unfold putS at h
  simp only [List.mem_append, List.mem_cons] at h
  rcases h with h | h | h
  · exact .inl (List.mem_of_mem_take h)
  · exact .inr h
  · exact .inl (List.mem_of_mem_drop h)
theorem hitArg_adds {a : ArgT} {v : Val} {b f : List SlotT} {r : List SlotT × List SlotT} (h : hitArg a v b f = some r) : (∀ s ∈ r.1, (∃ x ∈ b, x.value = s.value ∧ x.var = s.var) ∨ (a.kind = 2 ∧ s.value = v ∧ s.var = a.n)) ∧ (∀ s ∈ r.2, s ∈ f ∨ (a.kind = 3 ∧ s = ⟨a.n, v⟩)) ∧ (¬ a.kind = 3 → r.2 = f) := by
  have keep : ∀ s ∈ b, (∃ x ∈ b, x.value = s.value ∧ x.var = s.var) ∨ (a.kind = 2 ∧ s.value = v ∧ s.var = a.n) := fun s hs => .inl ⟨s, hs, rfl, rfl⟩
  unfold hitArg at h
  split at h
  · split at h
    · cases h; exact ⟨keep, fun s hs => .inl hs, fun _ => rfl⟩
    · cases h
  split at h
  · rename_i hk
    split at h
    · cases h
      refine ⟨fun s hs => ?_, fun s hs => .inl hs, fun _ => rfl⟩
      obtain ⟨x, hx, h1, h2⟩ := union_vals hs
      rcases hx with hx | hx
      · exact .inl ⟨x, hx, h1, h2⟩
      · obtain rfl := List.mem_singleton.1 hx
        exact .inr ⟨hk, h1.symm, h2.symm⟩
    · cases h
  split at h
  · rename_i hk
    split at h
    · split at h
      · cases h; exact ⟨keep, fun s hs => .inl hs, fun _ => rfl⟩
      · cases h
    · cases h
      exact ⟨keep, fun s hs => (putS_mem hs).imp id fun e => ⟨hk, e⟩, fun h => absurd hk h⟩
  · cases h; exact ⟨keep, fun s hs => .inl hs, fun _ => rfl⟩
theorem hitGo_adds : ∀ {al : List ArgT} {vs : List Val} {b f : List SlotT} {r : List SlotT × List SlotT}, hitGo al vs b f = some r → b.length ≤ 8 →
    r.1.length ≤ 8 ∧ r.2.length ≤ f.length + al.length ∧ (∀ s ∈ r.1, (∃ x ∈ b, x.value = s.value ∧ x.var = s.var) ∨ ∃ (i : Nat) (a : ArgT) (v : Val), al[i]? = some a ∧ vs[i]? = some v ∧ a.kind = 2 ∧ s.value = v ∧ s.var = a.n) ∧
      (∀ s ∈ r.2, s ∈ f ∨ ∃ (i : Nat) (a : ArgT) (v : Val), al[i]? = some a ∧ vs[i]? = some v ∧ a.kind = 3 ∧ s = ⟨a.n, v⟩)
  | [], _, b, f, r, h, hb => by
    have h : some (b, f) = some r := h
    cases h
    exact ⟨hb, by simp, fun s hs => .inl ⟨s, hs, rfl, rfl⟩, fun s hs => .inl hs⟩
  | a :: al, [], b, f, r, h, hb => by
    have h : some (b, f) = some r := h
    cases h
    exact ⟨hb, by dsimp only; omega, fun s hs => .inl ⟨s, hs, rfl, rfl⟩, fun s hs => .inl hs⟩
  | a :: al, v :: vs, b, f, r, h, hb => by
    rw [hitGo] at h
    split at h
    · rename_i p hp
      obtain ⟨l1, l2⟩ := hitArg_len hp hb
      obtain ⟨a1, a2, _⟩ := hitArg_adds hp
      obtain ⟨g1, g2, g3, g4⟩ := hitGo_adds h l1
      refine ⟨g1, by rw [List.length_cons]; omega, fun s hs => ?_, fun s hs => ?_⟩
      · rcases g3 s hs with ⟨x, hx, e1, e2⟩ | ⟨i, a', v', h1, h2, h3, h4, h5⟩
        · rcases a1 x hx with ⟨y, hy, f1, f2⟩ | ⟨hk, f1, f2⟩
          · exact .inl ⟨y, hy, f1.trans e1, f2.trans e2⟩
          · exact .inr ⟨0, a, v, rfl, rfl, hk, e1.symm.trans f1, e2.symm.trans f2⟩
        · exact .inr ⟨i + 1, a', v', by simpa using h1, by simpa using h2, h3, h4, h5⟩
      · rcases g4 s hs with hs | ⟨i, a', v', h1, h2, h3, h4⟩
        · rcases a2 s hs with hs | ⟨hk, e⟩
          · exact .inl hs
          · exact .inr ⟨0, a, v, rfl, rfl, hk, e⟩
        · exact .inr ⟨i + 1, a', v', by simpa using h1, by simpa using h2, h3, h4⟩
    · cases h
theorem hit_parts {q : QeaT} {e : EvT} {s : Nat} {h : HitT} (hh : hitR q e s = some h) : h.symbol = (s : Int) ∧ s < q.symbols.length ∧ ∃ x d, q.symbols[s]? = some x ∧ at? q.decls x.event = some d ∧ d.name = e.name ∧ x.args.length = e.args.length ∧ hitGo x.args e.args [] [] = some (h.bind, h.frees) := by
  unfold hitR at hh
  split at hh
  · cases hh
  · rename_i x hx
    split at hh
    · cases hh
    · rename_i d hd
      split at hh
      · rename_i hc
        obtain ⟨r, hr, rfl⟩ := Option.map_eq_some_iff.1 hh
        exact ⟨rfl, (List.getElem?_eq_some_iff.1 hx).1, x, d, hx, hd, hc.1, hc.2, hr⟩
      · cases hh
theorem allHits_mem {q : QeaT} {e : EvT} {n : Nat} {h : HitT} (hm : h ∈ a_ q e n) : ∃ s, s < n ∧ hitR q e s = some h := by
  unfold a_ at hm
  obtain ⟨s, hs, he⟩ := List.mem_filterMap.1 hm
  exact ⟨s, List.mem_range.1 hs, he⟩
theorem allHits_rising (q : QeaT) (e : EvT) (n : Nat) : Rising (a_ q e n) := by
  induction n with
  | zero => exact List.Pairwise.nil
  | succ n ih =>
    rw [allHits_succ]
    unfold Rising
    rw [List.pairwise_append]
    refine ⟨ih, ?_, fun a ha b hb => ?_⟩
    · cases hitR q e n <;> simp
    · obtain ⟨s, hs, he⟩ := allHits_mem ha
      have h1 := (hit_parts he).1
      have h2 := (hit_parts (Option.mem_toList.1 hb)).1
      omega
theorem under_rising {l : List HitT} (h : Rising l) (b : List SlotT) : Rising (u_ l b) := List.Pairwise.filter _ h
end Go.Proofs.YtjbcfpkibnhodaaGreatDoor.Ab
namespace Go.Proofs.YtjbcfpkibnhodaaGreatDoor.Ab
open Go Go.RowKit
set_option linter.unusedSimpArgs false
set_option maxHeartbeats 4000000
set_option maxRecDepth 100000
variable {G : Nat → Option AV}
theorem Auto_Hits_hc (q : QeaT) (hq : MaskQ q) (K : Known) (hK : OkK q K) (m : Nat) (hm : m < 4294967296) (l : List HitT) (hl : l.length ≤ 1000) (hsy : ∀ h ∈ l, 0 ≤ h.symbol ∧ h.symbol < 64) :
    HeapC Tryz.prog G n_subset_Auto_Hits [.ref 1001 0 0, .int .u32 (m : Int), hitsV l] [(1001, autoBox q 1002), (1002, mapBox K)]
      (.int .u32 (stepN q (ownN q (m, maskH l)) : Int)) [(1001, autoBox q 1002), (1002, mapBox (addK q K (ownN q (m, maskH l))))] := by
  refine hc_subset_Auto_Hits (RunsH.of fun Φ h => ?_)
  unfold csAH_
  have fin : ∀ v heap, stepN q (ownN q (m, maskH l)) = v → subH heap [(1001, autoBox q 1002), (1002, mapBox (addK q K (ownN q (m, maskH l))))] → Φ ⟨35, [(6, .int .u32 (v : Int))], heap⟩ := fun v heap e1 e => h _ ⟨_, _, Weak.refl _, rfl, fe_ (by rw [e1]; rfl), e.at⟩
  clear h
  generalize hk : maskH l = k at *
  unfold maskH at hk
  simp -implicitDefEqProofs only [go_sem, hitsV, List.length_map]
  refine al_ (fun n st => ∃ i a : Nat, i + n = l.length ∧ a < 18446744073709551616 ∧ (l.drop i).foldl maskStep a = k ∧ st = ⟨35, [(0, .ref 1001 0 0), (1, .int .u32 (m : Int)), (7, .int .u64 (a : Int)), (10, .seq 3 (l.map hitV)), (11, iv l.length), (12, iv i)], [(1001, autoBox q 1002), (1002, mapBox K)]⟩) l.length ⟨0, 0, by simp, by decide, hk, rfl⟩ ?_
  rintro I hI n st ⟨i, a, hi, ha, hgo, rfl⟩
  by_cases hlt' : i < l.length
  · obtain ⟨x, hx, hxm⟩ := as10 hlt'
    have hw := ws_ hlt' (by omega)
    have hlt : ((i : Int) < (l.length : Int)) = True := by simp; exact hlt'
    rw [dropC_at hx, List.foldl_cons, maskStep] at hgo
    obtain ⟨s0, s1⟩ := hsy x hxm
    obtain ⟨xs, xb, xf⟩ := x
    dsimp only at s0 s1 hgo
    obtain ⟨s, rfl⟩ := Int.eq_ofNat_of_zero_le s0
    rw [Int.toNat_natCast] at hgo
    have g1 := shl64 (s := s) (by omega)
    have g2 := u64_nat (m := s) (by omega)
    have g3 := bor64 ha (pow64 (s := s) (by omega))
    have g4 : a ||| 2 ^ s < 18446744073709551616 := Nat.or_lt_two_pow (n := 64) ha (pow64 (by omega))
    have e1 : ((0 : Int) ≤ (s : Int)) = True := by simp
    have e2 : ((s : Int) < 64) = True := by simp; omega
    generalize a ||| 2 ^ s = a' at *
    generalize 2 ^ s = p at *
    have hnx := hI (n - 1) _ ⟨i + 1, a', by omega, g4, hgo, rfl⟩
    clear hI hgo fin
    unfold autoBox mapBox at hnx ⊢
    repeat' (first | (simp -implicitDefEqProofs only [go_sem, hlt, decide_true, am_ hx, hitV, s11, e1, e2, g1, g2, g3, hw]) | refine ag_ (fun hb => ?_) (fun hb => ?_) | refine ⟨fun hb => ?_, fun hb => ?_⟩ | fail)
    exact aa_ (n - 1) (by omega) hnx
  · have hlt : ((i : Int) < (l.length : Int)) = False := by simp; omega
    rw [List.drop_eq_nil_of_le (by omega), List.foldl_nil] at hgo
    subst hgo
    have hnx := Auto_Next_hc (G := G) q hq K hK m a hm ha
    clear hI
    generalize ownN q (m, a) = p at *
    generalize stepN q p = r at *
    generalize addK q K p = K' at *
    repeat' (first | (simp -implicitDefEqProofs only [go_sem, hlt, decide_false]) | refine ag_ (fun hb => ?_) (fun hb => ?_) | refine ⟨fun hb => ?_, fun hb => ?_⟩ | (refine at_callH [(1001, 1001), (1002, 1002)] hnx rfl ⟨⟨_, _, rfl, rfl, rfl⟩, ⟨_, _, rfl, rfl, rfl⟩, trivial⟩ rfl rfl rfl ?_) | fail)
    exact fin _ _ rfl ⟨rfl, rfl, trivial⟩
theorem syms_ok {q : QeaT} (hf : fewQ q = true) (h : rightR q = true) : SymsOk q := by
  have hs := (right_parts h).2.2
  have hl : q.symbols.length ≤ 12 := (mask_of hf h).symbols
  refine ⟨by omega, fun x hx => ?_⟩
  obtain ⟨i, hi⟩ := List.getElem?_of_mem hx
  have h1 := at10.1 hs i x hi
  unfold symR symS at h1
  rw [Bool.and_eq_true] at h1
  have h2 := h1.1
  refine ⟨?_, ?_⟩
  · split at h2
    · cases h2
    · rename_i d hd; exact ⟨d, hd⟩
  · unfold fewQ at hf
    simp only [Bool.and_eq_true] at hf
    have h3 := at10.1 hf.2.2.1 i x hi
    unfold fewSym at h3
    simp only [Bool.and_eq_true, decide_eq_true_eq] at h3
    omega
theorem sets_few {q : QeaT} (hf : fewQ q = true) : q.trans.length ≤ 12 ∧ ∀ t ∈ q.trans, t.sets.length ≤ 1000000 := by
  have hfew := few_of q hf
  unfold fewQ fewTop at hf
  simp only [Bool.and_eq_true, decide_eq_true_eq] at hf
  exact ⟨by omega, hfew.sets⟩
theorem plain_of {q : QeaT} (hf : fewQ q = true) (h : rightR q = true) (hp : plain28 q = true) (h64 : ∀ x ∈ q.nodes, i64 x.value.int) : PlainQ q := by
  have hst := few_states hf
  unfold plain28 at hp
  rw [Bool.and_eq_true, decide_eq_true_eq, List.all_eq_true] at hp
  refine ⟨⟨h, h64, by omega, by omega⟩, mask_of hf h, List.eq_nil_of_length_eq_zero hp.2, fun t ht => ?_⟩
  have := hp.1 t ht
  rw [beq_iff_eq] at this
  omega
theorem hits_plain {q : QeaT} {e : EvT} {b : List SlotT} (hq : PlainQ q) (he : evR q.decls e = true) (he64 : ∀ v ∈ e.args, i64 v.int) : HitsOk q (u_ (a_ q e q.symbols.length) b) ∧ Rising (u_ (a_ q e q.symbols.length) b) ∧
    (u_ (a_ q e q.symbols.length) b).length ≤ 12 ∧ (∀ h ∈ a_ q e q.symbols.length, h.bind.length ≤ 8) ∧ ∀ h ∈ u_ (a_ q e q.symbols.length) b, 0 ≤ h.symbol ∧ h.symbol < q.symbols.length := by
  have hl : (u_ (a_ q e q.symbols.length) b).length ≤ 12 := by
    have h1 := List.length_filter_le (fun h : HitT => underR h.bind b) (a_ q e q.symbols.length)
    have h2 := allHits_len q e q.symbols.length
    have := hq.mask.symbols
    unfold u_
    omega
  have hparts : ∀ h ∈ a_ q e q.symbols.length, h.Ok q ∧ h.bind.length ≤ 8 ∧ 0 ≤ h.symbol ∧ h.symbol < q.symbols.length := fun h hm => by
    obtain ⟨s, _, hs⟩ := allHits_mem hm
    obtain ⟨h1, h2, x, d, hx, hd, hn, hln, hgo⟩ := hit_parts hs
    obtain ⟨g1, g2, g3, g4⟩ := hitGo_adds hgo (by simp)
    have hsy := at10.1 (right_parts hq.good.right).2.2 s x hx
    have hfr : h.frees = [] := by
      rw [List.eq_nil_iff_forall_not_mem]
      intro y hy
      rcases g4 y hy with hz | ⟨i, a, v, ha, _, hk, _⟩
      · cases hz
      · unfold symR symS at hsy
        rw [Bool.and_eq_true, hd] at hsy
        obtain ⟨t, _, hat⟩ := zipB_mem hsy.1 a (List.mem_of_getElem? ha)
        unfold argS at hat
        rw [if_neg (by omega), if_neg (by omega), if_pos hk, hq.frees] at hat
        unfold at? at hat
        split at hat
        · cases hat
        · rename_i y hy
          split at hy <;> simp at hy
    refine ⟨⟨by dsimp only at g1; omega, by rw [hfr]; simp, fun s hs => ?_, fun s hs => by rw [hfr] at hs; cases hs⟩, g1, by omega, by omega⟩
    rcases g3 s hs with ⟨z, hz, _⟩ | ⟨i, a, v, _, hv, _, hval, _⟩
    · cases hz
    · rw [hval]
      have hvm := List.mem_of_getElem? hv
      exact ⟨evR_ok he v hvm, he64 v hvm⟩
  have hun : ∀ h ∈ u_ (a_ q e q.symbols.length) b, h ∈ a_ q e q.symbols.length := fun h hm => (List.mem_filter.1 hm).1
  exact ⟨⟨fun h hm => (hparts h (hun h hm)).1, by omega⟩, under_rising (allHits_rising q e _) b, hl, fun h hm => (hparts h hm).2.1, fun h hm => (hparts h (hun h hm)).2.2⟩
end Go.Proofs.YtjbcfpkibnhodaaGreatDoor.Ab
