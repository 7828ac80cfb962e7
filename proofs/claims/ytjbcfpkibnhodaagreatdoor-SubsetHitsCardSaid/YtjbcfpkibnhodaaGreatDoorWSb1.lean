/-
  proctorref18: sets of configurations; the law's own words. proctorref18.Right, config.Right; what the law asks of its arguments. key.one, key.Of, config.Key. proctorref04.Key: a value's key. Texts of values, in plain words; proctorref01.Text, proctorref02.Quote, proctorref03.Text. The library's texts, by the shelf's contracts: strings.Join, strconv.FormatInt, strings.Builder; quote.one, quote.Quote. quote.one, quote.Quote. num.Text, value.Text, core.Symbol: a symbol's text. The law CoreSymbols: plain part. The law CoreSymbols; how its automaton is read. How an automaton is read whose symbols' numbers are numbers. config.Start, States, Text and the reference's, proctorref04.Keys. Sets of states and of symbols as bits; joint.Next, proctorref22.Next: to which states symbols lead. No claim is proved here.
-/
import Derived.Test.YtjbcfpkibnhodaaGreatDoorWC1
import Derived.Laws.CopyOwn
import Derived.Shelf.Strings.Builder2
import Derived.Shelf.Strconv.Itoa3
import Derived.Lib.AppendIntMem
namespace Go.Proofs.YtjbcfpkibnhodaaGreatDoor.Ab
open Go Go.RowKit
set_option linter.unusedSimpArgs false
set_option maxHeartbeats 4000000
set_option maxRecDepth 100000
variable {G : Nat → Option AV}
theorem run_assocC {P : Program} {Φ : St → Prop} (a b c : AC) (κ : List Kt) (st : St) : run P G Φ (.seq a (.seq b c)) κ st = run P G Φ (.seq (.seq a b) c) κ st := by
  simp only [run_seq]
  unfold run
  congr 1
  funext e st'
  cases e
  · exact run_seq b c κ st'
  · rfl
  · rfl
theorem aslc_takeC {α : Type} {e : α → AV} {sz : Nat} {l : List α} {i : Nat} (hs : 0 < sz) (h : i ≤ l.length) : aslc sz (.seq sz (l.map e)) none (some (.int .i64 (i : Int))) = some (.seq sz ((l.take i).map e)) := by
  simp [aslc, hs, h, List.map_take]
theorem view_map {α : Type} {e : α → AV} {sz : Nat} {H : List (Nat × Box)} {i n : Nat} {ty : Nat} {l : List α} (h0 : 0 < sz) (hH : hget H i = some ⟨true, ty, sz, l.map e⟩) (hn : l.length = n) : view H (.arr i 0 n) = some (.seq sz (l.map e)) := by
  simp only [view, hH, List.drop_zero, List.length_map, hn]
  simp [h0, ← hn]
  exact List.take_of_length_le (by simp)
def CfgT.Sm (c : CfgT) : Prop := c.vals.length ≤ 1000 ∧ ∀ v ∈ c.vals, v.str.length < 9223372036854775807
def putAt (l : List CfgT) (c : CfgT) : Nat → Nat
  | 0 => 0
  | n + 1 => match l[n]? with
    | some x => if cfgLess c x = true then putAt l c n else n + 1
    | none => n + 1
theorem putAt_le (l : List CfgT) (c : CfgT) : ∀ n, putAt l c n ≤ n
  | 0 => Nat.le_refl _
  | n + 1 => by
    rw [putAt]
    split
    · split
      · have := putAt_le l c n; omega
      · exact Nat.le_refl _
    · exact Nat.le_refl _
def isAt (l : List CfgT) (c : CfgT) : Nat → Bool
  | 0 => false
  | n + 1 => match l[n]? with
    | some x => cfgOne x c
    | none => false
def putR (l : List CfgT) (c : CfgT) : List CfgT := if isAt l c (putAt l c l.length) = true then l else l.take (putAt l c l.length) ++ c :: l.drop (putAt l c l.length)
theorem putR_mem {l : List CfgT} {c x : CfgT} (h : x ∈ putR l c) : x ∈ l ∨ x = c := by
  unfold putR at h
  split at h
  · exact .inl h
  · simp only [List.mem_append, List.mem_cons] at h
    rcases h with h | h | h
    · exact .inl (List.mem_of_mem_take h)
    · exact .inr h
    · exact .inl (List.mem_of_mem_drop h)
theorem putR_len (l : List CfgT) (c : CfgT) : (putR l c).length ≤ l.length + 1 := by
  unfold putR
  split
  · omega
  · have := putAt_le l c l.length
    simp only [List.length_append, List.length_cons, List.length_take, List.length_drop]
    omega
theorem aslc_drop {α : Type} {e : α → AV} {sz : Nat} {l : List α} {i : Nat} (hs : 0 < sz) (h : i ≤ l.length) : aslc sz (.seq sz (l.map e)) (some (.int .i64 (i : Int))) none = some (.seq sz ((l.drop i).map e)) := by
  simp [aslc, hs, h, List.map_drop]
  rw [List.take_of_length_le (by simp)]
theorem ref18_Put_pc (l : List CfgT) (c : CfgT) (hl : l.length ≤ 1000000) (hls : ∀ x ∈ l, x.Sm) (hc : c.Sm) : P_ Tryz.prog G n_proctorref18_Put [cfgsV l, cfgV c] (cfgsV (putR l c)) := by
  refine pc_proctorref18_Put (Runs.of fun Φ h => ?_)
  unfold c_proctorref18_Put
  dsimp only
  rw [run_assocC, run_assocC]
  refine at_cut (fun st => st = ⟨48, [(0, cfgsV l), (3, .ref 3 0 0), (5, iv (putAt l c l.length : Nat)), (19, .bool false)], [(3, ⟨false, taC_, 2, [cfgV c]⟩), (4, ⟨true, taC_, 2, []⟩)]⟩) ?_ ?_
  · simp -implicitDefEqProofs only [go_sem, cfgsV, cfgV, List.length_map]
    refine al_ (fun n st => st = ⟨48, [(0, cfgsV l), (3, .ref 3 0 0), (5, iv n)], [(3, ⟨false, taC_, 2, [cfgV c]⟩), (4, ⟨true, taC_, 2, []⟩)]⟩ ∧ n ≤ l.length ∧ putAt l c n = putAt l c l.length) l.length ⟨rfl, Nat.le_refl _, rfl⟩ ?_
    rintro I hI n st ⟨rfl, hn, hp⟩
    rw [← hp]
    cases n with
    | zero =>
      have e1 : ((0 : Int) < ((0 : Nat) : Int)) = False := by simp
      repeat' (first | (simp -implicitDefEqProofs only [go_sem, e1, decide_false, cfgV, cfgsV]) | refine ag_ (fun hb => ?_) (fun hb => ?_) | refine ⟨fun hb => ?_, fun hb => ?_⟩ | fail)
      try rfl
    | succ n =>
      obtain ⟨x, hx, hxm⟩ := as10 (l := l) (i := n) (by omega)
      have e1 : ((0 : Int) < ((n + 1 : Nat) : Int)) = True := by rw [eq_iff_iff]; exact ⟨fun _ => trivial, fun _ => by omega⟩
      have hw : IntKind.wrap .i64 (((n + 1 : Nat) : Int) - 1) = (n : Int) := by rw [wi_ (by omega) (by omega)]; omega
      have hls := ref18_Less_pc (G := G) c x hc.2 hc.1 (hls x hxm).1
      have hps : putAt l c (n + 1) = if cfgLess c x = true then putAt l c n else n + 1 := by rw [putAt, hx]
      generalize cfgLess c x = z at *
      obtain ⟨xs, xl⟩ := x
      simp only [cfgV] at hls
      cases z
      · rw [if_neg (by decide)] at hps
        rw [hps]
        repeat' (first | (simp -implicitDefEqProofs only [go_sem, e1, hw, am_ hx, decide_true, cfgV, cfgsV]) | refine ag_ (fun hb => ?_) (fun hb => ?_) | refine ⟨fun hb => ?_, fun hb => ?_⟩ | refine ac_ (hls) rfl rfl ?_ | fail)
        try rfl
      · rw [if_pos rfl] at hps
        rw [hps] at hp
        repeat' (first | (simp -implicitDefEqProofs only [go_sem, e1, hw, am_ hx, decide_true, cfgV, cfgsV]) | refine ag_ (fun hb => ?_) (fun hb => ?_) | refine ⟨fun hb => ?_, fun hb => ?_⟩ | refine ac_ (hls) rfl rfl ?_ | fail)
        exact aa_ n (by omega) (hI _ _ ⟨rfl, by omega, hp⟩)
  · rintro st hst
    subst hst
    have hple := putAt_le l c l.length
    unfold putR at h
    generalize putAt l c l.length = n at *
    refine at_cut (fun st => st = ⟨48, [(0, cfgsV l), (3, .ref 3 0 0), (5, iv n), (32, .bool false)], [(3, ⟨false, taC_, 2, [cfgV c]⟩), (4, ⟨true, taC_, 2, []⟩)]⟩ ∧ isAt l c n = false) ?_ ?_
    · cases n with
      | zero =>
        have e1 : ((0 : Int) < ((0 : Nat) : Int)) = False := by simp
        repeat' (first | (simp -implicitDefEqProofs only [go_sem, e1, decide_false, cfgV, cfgsV, List.length_map]) | refine ag_ (fun hb => ?_) (fun hb => ?_) | refine ⟨fun hb => ?_, fun hb => ?_⟩ | fail)
        first | rfl | exact ⟨rfl, rfl⟩
      | succ n =>
        obtain ⟨x, hx, hxm⟩ := as10 (l := l) (i := n) (by omega)
        have e1 : ((0 : Int) < ((n + 1 : Nat) : Int)) = True := by rw [eq_iff_iff]; exact ⟨fun _ => trivial, fun _ => by omega⟩
        have hw : IntKind.wrap .i64 (((n + 1 : Nat) : Int) - 1) = (n : Int) := by rw [wi_ (by omega) (by omega)]; omega
        have ho := ref18_One_pc (G := G) x c (hls x hxm).2 hc.2 (hls x hxm).1 hc.1
        have his : isAt l c (n + 1) = cfgOne x c := by rw [isAt, hx]
        generalize cfgOne x c = z at *
        obtain ⟨xs, xl⟩ := x
        simp only [cfgV] at ho
        cases z
        · repeat' (first | (simp -implicitDefEqProofs only [go_sem, e1, hw, am_ hx, decide_true, cfgV, cfgsV]) | refine ag_ (fun hb => ?_) (fun hb => ?_) | refine ⟨fun hb => ?_, fun hb => ?_⟩ | refine ac_ (ho) rfl rfl ?_ | fail)
          first | exact his | exact ⟨rfl, his⟩
        · rw [his, if_pos rfl] at h
          repeat' (first | (simp -implicitDefEqProofs only [go_sem, e1, hw, am_ hx, decide_true, cfgV, cfgsV]) | refine ag_ (fun hb => ?_) (fun hb => ?_) | refine ⟨fun hb => ?_, fun hb => ?_⟩ | refine ac_ (ho) rfl rfl ?_ | fail)
          exact h _ ⟨_, _, rfl, rfl, .refl _⟩
    · rintro st ⟨rfl, hat⟩
      rw [hat, if_neg (by decide)] at h
      have hs1 := aslc_takeC (e := cfgV) (sz := 2) (l := l) (i := n) (by decide) hple
      have hs2 := aslc_drop (e := cfgV) (sz := 2) (l := l) (i := n) (by decide) hple
      have ht : (l.take n).length = n := by simp; omega
      have hb1 : n * 32 ≤ 140737488355328 := by omega
      have hb2 : (n + 1) * 32 ≤ 140737488355328 := by omega
      have hb3 : (n + 1 + (l.length - n)) * 32 ≤ 140737488355328 := by omega
      repeat' (first | (simp -implicitDefEqProofs only [go_sem, hs1, hs2, cfgV, cfgsV, List.length_map, List.length_append, List.length_drop, ht, hb1, hb2, hb3]) | refine ag_ (fun hb => ?_) (fun hb => ?_) | refine ⟨fun hb => ?_, fun hb => ?_⟩ | fail)
      exact h _ ⟨_, _, rfl, view_map (e := cfgV) (l := l.take n ++ c :: l.drop n) (by decide) (by simp [hget, cfgV]; rfl) (by simp; omega), .refl _⟩
def ofR (l : List CfgT) : List CfgT := l.foldl putR []
theorem ref18_Same_pc (a b : List CfgT) (ha : ∀ x ∈ a, x.Sm) (hb : ∀ x ∈ b, x.Sm) (hl : a.length ≤ 1000) : P_ Tryz.prog G n_proctorref18_Same [cfgsV a, cfgsV b] (.bool (zipB cfgOne a b)) := by
  refine pc_proctorref18_Same (Runs.of fun Φ h => ?_)
  unfold c_proctorref18_Same
  by_cases hlk : a.length = b.length
  · have e0 : ((a.length : Int) != (b.length : Int)) = false := by simp [hlk]
    generalize hv : zipB cfgOne a b = v at *
    simp -implicitDefEqProofs only [go_sem, cfgsV, List.length_map, e0]
    refine al_ (fun n st => ∃ i : Nat, i + n = a.length ∧ st = ⟨27, [(0, cfgsV a), (1, cfgsV b), (5, iv i)], []⟩ ∧ zipB cfgOne (a.drop i) (b.drop i) = v) a.length ⟨0, by simp, rfl, hv⟩ ?_
    rintro I hI n st ⟨i, hi, rfl, hno⟩
    simp -implicitDefEqProofs only [go_sem, cfgsV, List.length_map]
    refine ⟨fun hlt => ?_, fun hge => ?_⟩
    · have hlt' : i < a.length := by omega
      obtain ⟨x, hx, hm⟩ := as10 hlt'
      obtain ⟨y, hy, hm'⟩ := as10 (l := b) (i := i) (by omega)
      have hw := ws_ hlt' (by omega)
      have hc := ref18_One_pc (G := G) x y (ha x hm).2 (hb y hm').2 (ha x hm).1 (hb y hm').1
      rw [zipB_step hx hy] at hno
      obtain ⟨x1, x2⟩ := x
      obtain ⟨y1, y2⟩ := y
      simp only [cfgV] at hc
      generalize cfgOne ⟨x1, x2⟩ ⟨y1, y2⟩ = β at *
      cases β
      · rw [Bool.false_and] at hno
        subst hno
        repeat' (first | (simp -implicitDefEqProofs only [go_sem, am_ hx, am_ hy, hw, cfgV, cfgsV]) | refine ag_ (fun hb => ?_) (fun hb => ?_) | refine ⟨fun hb => ?_, fun hb => ?_⟩ | refine ac_ (hc) rfl rfl ?_ | fail)
        exact h _ ⟨_, _, rfl, rfl, .refl _⟩
      · rw [Bool.true_and] at hno
        repeat' (first | (simp -implicitDefEqProofs only [go_sem, am_ hx, am_ hy, hw, cfgV, cfgsV]) | refine ag_ (fun hb => ?_) (fun hb => ?_) | refine ⟨fun hb => ?_, fun hb => ?_⟩ | refine ac_ (hc) rfl rfl ?_ | fail)
        exact aa_ (n - 1) (by omega) (hI _ _ ⟨i + 1, by omega, rfl, hno⟩)
    · rw [zipB_end (by omega) (by omega)] at hno
      subst hno
      exact h _ ⟨_, _, rfl, rfl, .refl _⟩
  · have hv := zipB_len (p := cfgOne) hlk
    rw [hv] at h
    have e0 : ((a.length : Int) != (b.length : Int)) = true := by simp; omega
    repeat' (first | (simp -implicitDefEqProofs only [go_sem, cfgsV, List.length_map, e0]) | refine ag_ (fun hb => ?_) (fun hb => ?_) | refine ⟨fun hb => ?_, fun hb => ?_⟩ | fail)
    exact h _ ⟨_, _, rfl, rfl, .refl _⟩
end Go.Proofs.YtjbcfpkibnhodaaGreatDoor.Ab
namespace Go.Proofs.YtjbcfpkibnhodaaGreatDoor.Ab
open Go Go.RowKit
set_option linter.unusedSimpArgs false
set_option maxHeartbeats 4000000
set_option maxRecDepth 100000
variable {G : Nat → Option AV}
def cfgR (q : QeaT) (c : CfgT) : Bool := decide (0 ≤ c.state) && (decide (c.state < q.states.length) && fitsR c.vals q.frees)
end Go.Proofs.YtjbcfpkibnhodaaGreatDoor.Ab
namespace Go.Proofs.YtjbcfpkibnhodaaGreatDoor.Ab
open Go Go.RowKit
set_option linter.unusedSimpArgs false
set_option maxHeartbeats 4000000
set_option maxRecDepth 100000
variable {G : Nat → Option AV}
theorem ok_kind {v : Val} (h : v.ok = true) : v.kind = 1 ∨ v.kind = 2 ∨ v.kind = 3 := by
  unfold Val.ok at h
  split at h
  · exact .inl ‹_›
  · split at h
    · exact .inr (.inl ‹_›)
    · simp only [Bool.and_eq_true, decide_eq_true_eq] at h
      exact .inr (.inr h.1)
end Go.Proofs.YtjbcfpkibnhodaaGreatDoor.Ab
namespace Go.Proofs.YtjbcfpkibnhodaaGreatDoor.Ab
open Go Go.RowKit
set_option linter.unusedSimpArgs false
set_option maxHeartbeats 4000000
set_option maxRecDepth 100000
variable {G : Nat → Option AV}
theorem u64_nat {m : Nat} (h : m < 18446744073709551616) : IntKind.u64.wrap (m : Int) = (m : Int) := by
  simp [IntKind.wrap, IntKind.bits, IntKind.signed]
  omega
end Go.Proofs.YtjbcfpkibnhodaaGreatDoor.Ab
namespace Go.Proofs.YtjbcfpkibnhodaaGreatDoor.Ab
set_option linter.unusedSimpArgs false
open Go
set_option maxHeartbeats 4000000
variable {G : Nat → Option AV}
end Go.Proofs.YtjbcfpkibnhodaaGreatDoor.Ab
namespace Go.Proofs.YtjbcfpkibnhodaaGreatDoor.Ab
set_option linter.unusedSimpArgs false
open Go Go.RowKit
variable {G : Nat → Option AV} {P : Program}
end Go.Proofs.YtjbcfpkibnhodaaGreatDoor.Ab
namespace Go.Proofs.YtjbcfpkibnhodaaGreatDoor.Ab
set_option linter.unusedSimpArgs false
open Go Go.RowKit
variable {G : Nat → Option AV}
end Go.Proofs.YtjbcfpkibnhodaaGreatDoor.Ab
namespace Go.Proofs.YtjbcfpkibnhodaaGreatDoor.Ab
set_option linter.unusedSimpArgs false
open Go
set_option maxHeartbeats 4000000
variable {G : Nat → Option AV}
end Go.Proofs.YtjbcfpkibnhodaaGreatDoor.Ab
namespace Go.Proofs.YtjbcfpkibnhodaaGreatDoor.Ab
set_option linter.unusedSimpArgs false
open Go
set_option maxHeartbeats 4000000
variable {G : Nat → Option AV}
theorem right_parts {q : QeaT} (h : rightR q = true) : headR q = true ∧ (allS (stepR q) q.trans 0 0).1 = true ∧ allI (symR q) q.symbols = true := by
  unfold rightR topR transAll symbolsR at h
  simp only [Bool.and_eq_true] at h
  exact ⟨h.1.2.2.2.2, h.2.1.1, h.2.2.2.1⟩
end Go.Proofs.YtjbcfpkibnhodaaGreatDoor.Ab
namespace Go.Proofs.YtjbcfpkibnhodaaGreatDoor.Ab
set_option linter.unusedSimpArgs false
open Go
set_option maxHeartbeats 4000000
variable {G : Nat → Option AV}
end Go.Proofs.YtjbcfpkibnhodaaGreatDoor.Ab
namespace Go.Proofs.YtjbcfpkibnhodaaGreatDoor.Ab
set_option linter.unusedSimpArgs false
open Go Go.ChangeShapes Go.WideShapes Go.RowKit
set_option maxRecDepth 100000
end Go.Proofs.YtjbcfpkibnhodaaGreatDoor.Ab
namespace Go.Proofs.YtjbcfpkibnhodaaGreatDoor.Ab
open Go Go.RowKit
set_option linter.unusedSimpArgs false
set_option maxHeartbeats 4000000
set_option maxRecDepth 100000
variable {G : Nat → Option AV}
theorem bor32 {a b : Nat} (ha : a < 4294967296) (hb : b < 4294967296) : abin .or (.int .u32 (a : Int)) (.int .u32 (b : Int)) = some (.int .u32 ((a ||| b : Nat) : Int)) := by
  have h : a ||| b < 4294967296 := Nat.or_lt_two_pow (n := 32) ha hb
  have e : (BitVec.ofInt 32 (a : Int) ||| BitVec.ofInt 32 (b : Int)).toNat = a ||| b := by
    rw [BitVec.ofInt_natCast, BitVec.ofInt_natCast, BitVec.toNat_or, BitVec.toNat_ofNat, BitVec.toNat_ofNat, Nat.mod_eq_of_lt ha, Nat.mod_eq_of_lt hb]
  rw [abin_or]
  unfold bOr
  rw [show IntKind.u32.bits = 32 from rfl, e]
  generalize a ||| b = m at *
  simp [IntKind.wrap, IntKind.bits, IntKind.signed]
  omega
theorem shl32 {s : Nat} (hs : s < 32) : abin .shl (.int .u32 1) (.int .u64 (s : Int)) = some (.int .u32 ((2 ^ s : Nat) : Int)) := by
  have h2 : (2 : Nat) ^ s < 4294967296 := Nat.lt_of_lt_of_le (Nat.pow_lt_pow_right (by decide) hs) (Nat.le_refl (2 ^ 32))
  show (if (s : Int) < 0 then none else some (AV.int .u32 (bShl .u32 1 s))) = _
  rw [if_neg (by omega)]
  unfold bShl
  rw [show IntKind.u32.bits = 32 from rfl, Int.toNat_natCast, Nat.min_eq_left (by omega), Int.one_mul]
  have e : ((2 : Int) ^ s) = ((2 ^ s : Nat) : Int) := by simp
  rw [e]
  generalize 2 ^ s = m at *
  simp [IntKind.wrap, IntKind.bits, IntKind.signed]
  omega
theorem dropC_at {α : Type} {l : List α} {i : Nat} {x : α} (hx : l[i]? = some x) : l.drop i = x :: l.drop (i + 1) := by
  obtain ⟨h1, rfl⟩ := List.getElem?_eq_some_iff.1 hx
  exact List.drop_eq_getElem_cons h1
end Go.Proofs.YtjbcfpkibnhodaaGreatDoor.Ab
namespace Go.Proofs.YtjbcfpkibnhodaaGreatDoor.Ab
open Go Go.RowKit
set_option linter.unusedSimpArgs false
set_option maxHeartbeats 4000000
set_option maxRecDepth 100000
variable {G : Nat → Option AV}
theorem band32 {a b : Nat} (ha : a < 4294967296) (hb : b < 4294967296) : abin .and (.int .u32 (a : Int)) (.int .u32 (b : Int)) = some (.int .u32 ((a &&& b : Nat) : Int)) := by
  have h : a &&& b < 4294967296 := Nat.lt_of_le_of_lt Nat.and_le_left ha
  have e : (BitVec.ofInt 32 (a : Int) &&& BitVec.ofInt 32 (b : Int)).toNat = a &&& b := by
    rw [BitVec.ofInt_natCast, BitVec.ofInt_natCast, BitVec.toNat_and, BitVec.toNat_ofNat, BitVec.toNat_ofNat, Nat.mod_eq_of_lt ha, Nat.mod_eq_of_lt hb]
  rw [abin_and]
  unfold bAnd
  rw [show IntKind.u32.bits = 32 from rfl, e]
  generalize a &&& b = m at *
  simp [IntKind.wrap, IntKind.bits, IntKind.signed]
  omega
theorem band64 {a b : Nat} (ha : a < 18446744073709551616) (hb : b < 18446744073709551616) : abin .and (.int .u64 (a : Int)) (.int .u64 (b : Int)) = some (.int .u64 ((a &&& b : Nat) : Int)) := by
  have h : a &&& b < 18446744073709551616 := Nat.lt_of_le_of_lt Nat.and_le_left ha
  have e : (BitVec.ofInt 64 (a : Int) &&& BitVec.ofInt 64 (b : Int)).toNat = a &&& b := by
    rw [BitVec.ofInt_natCast, BitVec.ofInt_natCast, BitVec.toNat_and, BitVec.toNat_ofNat, BitVec.toNat_ofNat, Nat.mod_eq_of_lt ha, Nat.mod_eq_of_lt hb]
  rw [abin_and]
  unfold bAnd
  rw [show IntKind.u64.bits = 64 from rfl, e]
  generalize a &&& b = m at *
  simp [IntKind.wrap, IntKind.bits, IntKind.signed]
  omega
theorem bor64 {a b : Nat} (ha : a < 18446744073709551616) (hb : b < 18446744073709551616) : abin .or (.int .u64 (a : Int)) (.int .u64 (b : Int)) = some (.int .u64 ((a ||| b : Nat) : Int)) := by
  have h : a ||| b < 18446744073709551616 := Nat.or_lt_two_pow (n := 64) ha hb
  have e : (BitVec.ofInt 64 (a : Int) ||| BitVec.ofInt 64 (b : Int)).toNat = a ||| b := by
    rw [BitVec.ofInt_natCast, BitVec.ofInt_natCast, BitVec.toNat_or, BitVec.toNat_ofNat, BitVec.toNat_ofNat, Nat.mod_eq_of_lt ha, Nat.mod_eq_of_lt hb]
  rw [abin_or]
  unfold bOr
  rw [show IntKind.u64.bits = 64 from rfl, e]
  generalize a ||| b = m at *
  simp [IntKind.wrap, IntKind.bits, IntKind.signed]
  omega
theorem pow32 {s : Nat} (hs : s < 32) : 2 ^ s < 4294967296 := Nat.lt_of_lt_of_le (Nat.pow_lt_pow_right (by decide) hs) (Nat.le_refl (2 ^ 32))
theorem pow64 {s : Nat} (hs : s < 64) : 2 ^ s < 18446744073709551616 := Nat.lt_of_lt_of_le (Nat.pow_lt_pow_right (by decide) hs) (Nat.le_refl (2 ^ 64))
theorem shl64 {s : Nat} (hs : s < 64) : abin .shl (.int .u64 1) (.int .u64 (s : Int)) = some (.int .u64 ((2 ^ s : Nat) : Int)) := by
  have h2 := pow64 hs
  show (if (s : Int) < 0 then none else some (AV.int .u64 (bShl .u64 1 s))) = _
  rw [if_neg (by omega)]
  unfold bShl
  rw [show IntKind.u64.bits = 64 from rfl, Int.toNat_natCast, Nat.min_eq_left (by omega), Int.one_mul]
  have e : ((2 : Int) ^ s) = ((2 ^ s : Nat) : Int) := by simp
  rw [e]
  generalize 2 ^ s = m at *
  simp [IntKind.wrap, IntKind.bits, IntKind.signed]
  omega
theorem fdiv_nat (a b : Nat) : (a : Int).fdiv (b : Int) = ((a / b : Nat) : Int) := by
  rw [Int.fdiv_eq_ediv_of_nonneg _ (by omega)]
  rfl
theorem shr32 {a s : Nat} (hs : s < 32) : abin .shr (.int .u32 (a : Int)) (.int .u64 (s : Int)) = some (.int .u32 ((a / 2 ^ s : Nat) : Int)) := by
  show (if (s : Int) < 0 then none else some (AV.int .u32 (bShr .u32 a s))) = _
  rw [if_neg (by omega)]
  unfold bShr
  rw [show IntKind.u32.bits = 32 from rfl, Int.toNat_natCast, Nat.min_eq_left (by omega)]
  have e : ((2 : Int) ^ s) = ((2 ^ s : Nat) : Int) := by simp
  rw [e, fdiv_nat]
theorem rem2 {k : IntKind} (a : Nat) : abin .rem (.int k (a : Int)) (.int k 2) = some (.int k ((a % 2 : Nat) : Int)) := by
  rw [abin_rem _ _ _ (by decide)]
  have : (a : Int).tmod 2 = ((a % 2 : Nat) : Int) := by
    rw [Int.tmod_eq_emod_of_nonneg (by omega)]
    simp
  rw [this]
theorem and_bit (m s : Nat) : m &&& 2 ^ s = if m.testBit s = true then 2 ^ s else 0 := by
  apply Nat.eq_of_testBit_eq
  intro i
  rw [Nat.testBit_and, Nat.testBit_two_pow]
  by_cases h : s = i
  · subst h
    cases hm : m.testBit s <;> simp [Nat.testBit_two_pow]
  · cases hm : m.testBit s <;> simp [Nat.testBit_two_pow, h]
theorem div_bit (m s : Nat) : m / 2 ^ s % 2 = if m.testBit s = true then 1 else 0 := by
  rw [Nat.testBit_eq_decide_div_mod_eq]
  generalize m / 2 ^ s = x
  rcases Nat.mod_two_eq_zero_or_one x with h | h <;> simp [h]
structure BitF (m s : Nat) (β : Bool) : Prop where
  a32 : m < 4294967296 → s < 32 → abin .and (.int .u32 (m : Int)) (.int .u32 ((2 ^ s : Nat) : Int)) = some (.int .u32 (if β then ((2 ^ s : Nat) : Int) else 0))
  a64 : m < 18446744073709551616 → s < 64 → abin .and (.int .u64 (m : Int)) (.int .u64 ((2 ^ s : Nat) : Int)) = some (.int .u64 (if β then ((2 ^ s : Nat) : Int) else 0))
  r32 : abin .rem (.int .u32 ((m / 2 ^ s : Nat) : Int)) (.int .u32 2) = some (.int .u32 (if β then 1 else 0))
  r64 : abin .rem (.int .u64 ((m / 2 ^ s : Nat) : Int)) (.int .u64 2) = some (.int .u64 (if β then 1 else 0))
theorem bitF {m s : Nat} {β : Bool} (h : m.testBit s = β) : BitF m s β :=
  ⟨fun h1 h2 => by rw [band32 h1 (pow32 h2), and_bit, h]; cases β <;> rfl, fun h1 h2 => by rw [band64 h1 (pow64 h2), and_bit, h]; cases β <;> rfl, by rw [rem2, div_bit, h]; cases β <;> rfl, by rw [rem2, div_bit, h]; cases β <;> rfl⟩
def toF (k i : Nat) (a : Nat) (t : TransT) : Nat := if t.from_ = (i : Int) ∧ k.testBit t.symbol.toNat = true then a ||| 2 ^ t.to_.toNat else a
def toN (q : QeaT) (k i : Nat) : Nat := q.trans.foldl (toF k i) 0
def stayN (q : QeaT) (k i : Nat) (x : StateT) : Nat := if toN q k i = 0 ∧ x.next = false then 2 ^ i else toN q k i
def nextGo (q : QeaT) (m k : Nat) : List StateT → Nat → Nat → Nat
  | [], _, a => a
  | x :: l, i, a => nextGo q m k l (i + 1) (if m.testBit i = true then a ||| stayN q k i x else a)
def nextN (q : QeaT) (m k : Nat) : Nat := nextGo q m k q.states 0 0
structure MaskQ (q : QeaT) : Prop where
  states : q.states.length ≤ 12
  symbols : q.symbols.length ≤ 12
  trans : q.trans.length ≤ 12
  sym : ∀ t ∈ q.trans, 0 ≤ t.symbol ∧ t.symbol < q.symbols.length
  to_ : ∀ t ∈ q.trans, 0 ≤ t.to_ ∧ t.to_ < q.states.length
  start : 0 ≤ q.start ∧ q.start < q.states.length
theorem toF_lt {k i a : Nat} {t : TransT} (ha : a < 4294967296) (ht : t.to_.toNat < 32) : toF k i a t < 4294967296 := by
  unfold toF
  split
  · exact Nat.or_lt_two_pow (n := 32) ha (pow32 ht)
  · exact ha
theorem toN_lt {q : QeaT} (hq : MaskQ q) (k i : Nat) : toN q k i < 4294967296 := by
  unfold toN
  have : ∀ (l : List TransT) (a : Nat), (∀ t ∈ l, t.to_.toNat < 32) → a < 4294967296 → l.foldl (toF k i) a < 4294967296 := by
    intro l
    induction l with
    | nil => intro a _ h; exact h
    | cons t l ih => intro a ht h; exact ih _ (fun x hx => ht x (by simp [hx])) (toF_lt h (ht t (by simp)))
  refine this _ _ (fun t ht => ?_) (by decide)
  have := hq.to_ t ht
  have := hq.states
  omega
theorem stayN_lt {q : QeaT} (hq : MaskQ q) (k : Nat) {i : Nat} (hi : i < 32) (x : StateT) : stayN q k i x < 4294967296 := by
  unfold stayN
  split
  · exact pow32 hi
  · exact toN_lt hq k i
theorem joint_Next_pc (q : QeaT) (hq : MaskQ q) (m k : Nat) (hm : m < 4294967296) (hk : k < 18446744073709551616) : P_ Tryz.prog G n_joint_Next [qeaV q, .int .u32 (m : Int), .int .u64 (k : Int)] (.int .u32 (nextN q m k : Int)) := by
  have hsl := hq.states
  have htl := hq.trans
  refine pc_joint_Next (Runs.of fun Φ h => ?_)
  unfold c_joint_Next
  generalize hr : nextN q m k = r at *
  unfold nextN at hr
  simp -implicitDefEqProofs only [go_sem, qeaV, d_, q_, f_, s_, s10, n_, t_, List.length_map]
  refine al_ (fun n st => ∃ i a : Nat, i + n = q.states.length ∧ a < 4294967296 ∧ nextGo q m k (q.states.drop i) i a = r ∧ st = ⟨69, [(1, .int .u32 (m : Int)), (2, .int .u64 (k : Int)), (3, .ref 3 0 0), (7, .int .u32 (a : Int)), (14, .seq 3 (q.states.map stateV)), (15, iv q.states.length), (16, iv i)], [(3, ⟨false, taQ_, 9, [qeaV q]⟩)]⟩) q.states.length ⟨0, 0, by simp, by decide, hr, by simp [qeaV, d_, q_, f_, s_, s10, n_, t_]; rfl⟩ ?_
  rintro I hI n st ⟨i, a, hi, ha, hgo, rfl⟩
  simp -implicitDefEqProofs only [go_sem, qeaV, d_, q_, f_, s_, s10, n_, t_, List.length_map]
  refine ⟨fun hlt => ?_, fun hge => ?_⟩
  · have hlt' : i < q.states.length := by omega
    obtain ⟨x, hx, _⟩ := as10 hlt'
    have hw := ws_ hlt' (by omega)
    rw [dropC_at hx, nextGo] at hgo
    have hs1 := shl32 (s := i) (by omega)
    have hs3 := u64_nat (m := i) (by omega)
    have hp := pow32 (s := i) (by omega)
    cases hβ : m.testBit i with
    | false =>
      have hb := (bitF hβ).a32 hm (by omega)
      simp only [hβ, Bool.false_eq_true, if_false] at hgo hb
      generalize 2 ^ i = p at *
      obtain ⟨xn, x1, x2⟩ := x
      repeat' (first | (simp -implicitDefEqProofs only [go_sem, qeaV, d_, q_, f_, s_, s10, n_, t_, am_ hx, stateV, hw, hs1, hs3, hb]) | refine ag_ (fun hb => ?_) (fun hb => ?_) | refine ⟨fun hb => ?_, fun hb => ?_⟩ | fail)
      exact aa_ (n - 1) (by omega) (hI _ _ ⟨i + 1, a, by omega, ha, hgo, by simp [qeaV, d_, q_, f_, s_, s10, n_, t_]⟩)
    | true =>
      have hb := (bitF hβ).a32 hm (by omega)
      simp only [hβ, if_true] at hgo hb
      have hlt2 := stayN_lt hq k (i := i) (by omega) x
      have hor := Nat.or_lt_two_pow (n := 32) ha hlt2
      have hor2 := bor32 ha hlt2
      have hpp : 0 < 2 ^ i := Nat.two_pow_pos i
      have hstay : stayN q k i x = if toN q k i = 0 ∧ x.next = false then 2 ^ i else toN q k i := rfl
      have htn : q.trans.foldl (toF k i) 0 = toN q k i := rfl
      generalize 2 ^ i = p at *
      generalize stayN q k i x = sy at *
      generalize toN q k i = tn at *
      have hne : ((p : Int) == 0) = false := by simp; omega
      obtain ⟨xn, x1, x2⟩ := x
      repeat' (first | (simp -implicitDefEqProofs only [go_sem, qeaV, d_, q_, f_, s_, s10, n_, t_, am_ hx, stateV, hw, hs1, hs3, hb, hne]) | refine ag_ (fun hb => ?_) (fun hb => ?_) | refine ⟨fun hb => ?_, fun hb => ?_⟩ | fail)
      refine al_ (fun n' st => ∃ j b : Nat, j + n' = q.trans.length ∧ b < 4294967296 ∧ (q.trans.drop j).foldl (toF k i) b = tn ∧ st = ⟨69, [(1, .int .u32 (m : Int)), (2, .int .u64 (k : Int)), (3, .ref 3 0 0), (7, .int .u32 (a : Int)), (8, iv i), (9, .ref 9 0 0), (10, .int .u32 (b : Int)), (14, .seq 3 (q.states.map stateV)), (15, iv q.states.length), (16, iv i), (28, .seq 5 (q.trans.map t11)), (29, iv q.trans.length), (30, iv j)], [(3, ⟨false, taQ_, 9, [qeaV q]⟩), (9, ⟨false, t_api_State, 3, [stateV ⟨xn, x1, x2⟩]⟩)]⟩) q.trans.length ⟨0, 0, by simp, by decide, htn, by simp [qeaV, d_, q_, f_, s_, s10, n_, t_, stateV]; rfl⟩ ?_
      rintro I' hI' n' st ⟨j, b, hj, hbl, hgo2, rfl⟩
      simp -implicitDefEqProofs only [go_sem, qeaV, d_, q_, f_, s_, s10, n_, t_, List.length_map]
      refine ⟨fun hlt => ?_, fun hge => ?_⟩
      · have hlt2' : j < q.trans.length := by omega
        obtain ⟨t, ht, htm⟩ := as10 hlt2'
        have hw2 := ws_ hlt2' (by omega)
        rw [dropC_at ht, List.foldl_cons] at hgo2
        obtain ⟨t0, t1⟩ := hq.to_ t htm
        obtain ⟨y0, y1⟩ := hq.sym t htm
        have hyl := hq.symbols
        have hbn := toF_lt (k := k) (i := i) (a := b) (t := t) hbl (by omega)
        unfold toF at hgo2 hbn
        obtain ⟨tf, ts, tt, tg, tsets⟩ := t
        simp only at t0 t1 y0 y1 hgo2 hbn
        obtain ⟨u, rfl⟩ := Int.eq_ofNat_of_zero_le t0
        obtain ⟨v, rfl⟩ := Int.eq_ofNat_of_zero_le y0
        simp only [Int.toNat_natCast] at hgo2 hbn
        by_cases hf : tf = (i : Int)
        · have hfe : (tf == (i : Int)) = true := by simp [hf]
          have g1 := shl64 (s := v) (by omega)
          have g2 := u64_nat (m := v) (by omega)
          cases hγ : k.testBit v with
          | false =>
            have g3 := (bitF hγ).a64 hk (by omega)
            simp only [Bool.false_eq_true, if_false] at g3
            rw [if_neg (by rw [hγ]; simp)] at hgo2
            generalize 2 ^ v = pv at *
            repeat' (first | (simp -implicitDefEqProofs only [go_sem, qeaV, d_, q_, f_, s_, s10, n_, t_, am_ ht, t11, setsV, hw2, hfe, g1, g2, g3]) | refine ag_ (fun hb => ?_) (fun hb => ?_) | refine ⟨fun hb => ?_, fun hb => ?_⟩ | fail)
            exact aa_ (n' - 1) (by omega) (hI' _ _ ⟨j + 1, b, by omega, hbl, hgo2, by simp [qeaV, d_, q_, f_, s_, s10, n_, t_, stateV]; rfl⟩)
          | true =>
            have g3 := (bitF hγ).a64 hk (by omega)
            simp only [if_true] at g3
            rw [if_pos ⟨hf, hγ⟩] at hgo2 hbn
            have hvp : 0 < 2 ^ v := Nat.two_pow_pos v
            have g4 := shl32 (s := u) (by omega)
            have g5 := u64_nat (m := u) (by omega)
            have g6 := bor32 hbl (pow32 (s := u) (by omega))
            generalize 2 ^ v = pv at *
            generalize 2 ^ u = pu at *
            generalize b ||| pu = bu at *
            have hvn : ((pv : Int) != 0) = true := by simp; omega
            repeat' (first | (simp -implicitDefEqProofs only [go_sem, qeaV, d_, q_, f_, s_, s10, n_, t_, am_ ht, t11, setsV, hw2, hfe, g1, g2, g3, hvn, g4, g5, g6]) | refine ag_ (fun hb => ?_) (fun hb => ?_) | refine ⟨fun hb => ?_, fun hb => ?_⟩ | fail)
            exact aa_ (n' - 1) (by omega) (hI' _ _ ⟨j + 1, bu, by omega, hbn, hgo2, by simp [qeaV, d_, q_, f_, s_, s10, n_, t_, stateV]; rfl⟩)
        · have hfe : (tf == (i : Int)) = false := by simp [hf]
          rw [if_neg (fun e => hf e.1)] at hgo2
          repeat' (first | (simp -implicitDefEqProofs only [go_sem, qeaV, d_, q_, f_, s_, s10, n_, t_, am_ ht, t11, setsV, hw2, hfe]) | refine ag_ (fun hb => ?_) (fun hb => ?_) | refine ⟨fun hb => ?_, fun hb => ?_⟩ | fail)
          exact aa_ (n' - 1) (by omega) (hI' _ _ ⟨j + 1, b, by omega, hbl, hgo2, by simp [qeaV, d_, q_, f_, s_, s10, n_, t_, stateV]; rfl⟩)
      · rw [List.drop_eq_nil_of_le (by omega)] at hgo2
        simp only [List.foldl_nil] at hgo2
        subst hgo2
        by_cases h0 : b = 0
        · have h0e : ((b : Int) == 0) = true := by simp [h0]
          cases x1
          · rw [if_pos ⟨h0, rfl⟩] at hstay
            rw [hstay] at hgo hor hor2
            generalize a ||| p = ap at *
            repeat' (first | (simp -implicitDefEqProofs only [go_sem, qeaV, d_, q_, f_, s_, s10, n_, t_, stateV, hw, h0e, hs1, hs3, hor2]) | refine ag_ (fun hb => ?_) (fun hb => ?_) | refine ⟨fun hb => ?_, fun hb => ?_⟩ | fail)
            exact aa_ (n - 1) (by omega) (hI _ _ ⟨i + 1, ap, by omega, hor, hgo, by simp [qeaV, d_, q_, f_, s_, s10, n_, t_]⟩)
          · rw [if_neg (by simp)] at hstay
            rw [hstay] at hgo hor hor2
            generalize a ||| b = ap at *
            repeat' (first | (simp -implicitDefEqProofs only [go_sem, qeaV, d_, q_, f_, s_, s10, n_, t_, stateV, hw, h0e, hor2]) | refine ag_ (fun hb => ?_) (fun hb => ?_) | refine ⟨fun hb => ?_, fun hb => ?_⟩ | fail)
            exact aa_ (n - 1) (by omega) (hI _ _ ⟨i + 1, ap, by omega, hor, hgo, by simp [qeaV, d_, q_, f_, s_, s10, n_, t_]⟩)
        · have h0e : ((b : Int) == 0) = false := by simp; omega
          rw [if_neg (fun e => h0 e.1)] at hstay
          rw [hstay] at hgo hor hor2
          generalize a ||| b = ap at *
          repeat' (first | (simp -implicitDefEqProofs only [go_sem, qeaV, d_, q_, f_, s_, s10, n_, t_, stateV, hw, h0e, hor2]) | refine ag_ (fun hb => ?_) (fun hb => ?_) | refine ⟨fun hb => ?_, fun hb => ?_⟩ | fail)
          exact aa_ (n - 1) (by omega) (hI _ _ ⟨i + 1, ap, by omega, hor, hgo, by simp [qeaV, d_, q_, f_, s_, s10, n_, t_]⟩)
  · rw [List.drop_eq_nil_of_le (by omega), nextGo] at hgo
    subst hgo
    repeat' (first | (simp -implicitDefEqProofs only [go_sem]) | refine ag_ (fun hb => ?_) (fun hb => ?_) | refine ⟨fun hb => ?_, fun hb => ?_⟩ | fail)
    exact h _ ⟨_, _, rfl, rfl, .refl _⟩
end Go.Proofs.YtjbcfpkibnhodaaGreatDoor.Ab
