/-
  binding.Under, binding.Fits: the contracts; binding.Union. proctorlaw05.awake; the document's binding of slots. The binding of slots: the search's one is the document's. The binding of slots: the search's one is the document's (the end). The law BindingOf, walked. The binding of slots is the document's: the law BindingOf. How the arguments of the laws on bindings are read. How the arguments of the laws on bindings are read: their numbers are of 64 bits. How lists of numbers are read. proctorref13: expressions. core.trans, from the inside: whole. proctorref13.Kind. core.trans, from the inside: set. core.trans, from the inside: one, and all. core.trans. core, proctorref13: arguments, symbols. config, proctorref18: the order of configurations, and whether they are the same. proctorref18: sets of configurations; the law's own words. Keys of values: no two rows of values of one length have one key. key, config.Key: keys of values and of sets of configurations. No claim is proved here.
-/
import Derived.Test.YtjkdpahaingjjaaYRf4
import Derived.Test.YtjkdpahaingjjaaYRf5
import Derived.Test.YtjkdpahaingjjaaYAbTrod
import Derived.Test.YtjkdpahaingjjaaYD8
import Derived.Test.YtjkdpahaingjjaaYV5
namespace Go.Proofs.Ytjkdpahaingjjaa.Ab
open Go Go.RowKit
set_option linter.unusedSimpArgs false
set_option maxHeartbeats 4000000
set_option maxRecDepth 100000
variable {G : Nat → Option AV}
theorem pure_bool2 {P : Program} {f : Nat} {c d : AV} {r : Bool} (h : ∀ (w : World) (F : Nat → Prop) (u v : Value), Good w F G → Rd w F noNames c u → Rd w F noNames d v → Calls P f #[u, v] w fun e w' => e = .returned (.bool r) ∧ Below w.heap.size w w') : PureC P G f [c, d] (.bool r) := by
  intro w F vs hg ha
  obtain ⟨hs, hr⟩ := ha
  obtain ⟨l⟩ := vs
  match l, hs with
  | [u, v], _ =>
    refine (h w F u v hg (hr 0 c u rfl rfl) (hr 1 d v rfl rfl)).mono ?_
    rintro e w' ⟨rfl, hb⟩
    exact ⟨_, F, rfl, fun b h => h, fun b h => .inl h, fun b h => Nat.lt_of_lt_of_le (hg.1 b h) hb.size, .bool _ _, hb⟩
theorem binding_Under_pc (a b : List SlotT) (ha : a.length ≤ 1000000) (hb : b.length ≤ 1000000) : PureC Try.prog G n_binding_Under [slotsV a, slotsV b] (.bool (underR a b)) :=
  pure_bool2 fun _ _ _ _ hg h1 h2 => Under_calls a b ha hb hg h1 h2
theorem binding_Fits_pc (a b : List SlotT) (ha : a.length ≤ 1000000) (hb : b.length ≤ 1000000) : PureC Try.prog G n_binding_Fits [slotsV a, slotsV b] (.bool (fitsB a b)) :=
  pure_bool2 fun _ _ _ _ hg h1 h2 => Fits_calls a b ha hb hg h1 h2
def unionB (a b : List SlotT) : Option (List SlotT) := if fitsB a b then ofB (a ++ b) else none
theorem binding_Union_pc (a b : List SlotT) (ha : a.length ≤ 100) (hb : b.length ≤ 100) : PureC Try.prog G n_binding_Union [slotsV a, slotsV b] (ofV (unionB a b)) := by
  have h1 := binding_Fits_pc (G := G) a b (by omega) (by omega)
  have h2 := concat_pc (G := G) a b (by omega) (by omega)
  have h3 := binding_Of_pc (G := G) (a ++ b) (by rw [List.length_append]; omega)
  refine pc_binding_Union (Runs.of fun Φ h => ?_)
  unfold c_binding_Union
  unfold unionB at h
  cases hf : fitsB a b with
  | false =>
    rw [hf] at h h1
    rw [if_neg (by simp)] at h
    simp only [slotsV] at h1
    (try (simp -implicitDefEqProofs only [go_sem, Nat.reduceAdd, Nat.reduceSub, Nat.reduceMul, Nat.reduceLT, Nat.reduceLeDiff, Nat.reduceEqDiff, Nat.reduceBEq, Int.reduceNeg, Int.reduceAdd, Int.reduceLT, Int.reduceLE, Int.reduceToNat, Int.reduceEq, Int.reduceNe, Int.reduceBEq, Int.reduceBNe, Int.reduceMul, Int.reduceSub, reduceIte, reduceCtorEq, slotsV])); repeat' ((first | refine at_guard (fun hb => ?_) (fun hb => ?_) | refine ⟨fun hb => ?_, fun hb => ?_⟩ | refine at_call (h1) rfl rfl ?_ | fail) <;> (try (simp -implicitDefEqProofs only [go_sem, Nat.reduceAdd, Nat.reduceSub, Nat.reduceMul, Nat.reduceLT, Nat.reduceLeDiff, Nat.reduceEqDiff, Nat.reduceBEq, Int.reduceNeg, Int.reduceAdd, Int.reduceLT, Int.reduceLE, Int.reduceToNat, Int.reduceEq, Int.reduceNe, Int.reduceBEq, Int.reduceBNe, Int.reduceMul, Int.reduceSub, reduceIte, reduceCtorEq, slotsV])))
    exact h _ ⟨_, _, rfl, rfl, .refl _⟩
  | true =>
    rw [hf] at h h1
    rw [if_pos rfl] at h
    generalize ofB (a ++ b) = o at *
    simp only [slotsV, ofV] at h1 h2 h3
    (try (simp -implicitDefEqProofs only [go_sem, Nat.reduceAdd, Nat.reduceSub, Nat.reduceMul, Nat.reduceLT, Nat.reduceLeDiff, Nat.reduceEqDiff, Nat.reduceBEq, Int.reduceNeg, Int.reduceAdd, Int.reduceLT, Int.reduceLE, Int.reduceToNat, Int.reduceEq, Int.reduceNe, Int.reduceBEq, Int.reduceBNe, Int.reduceMul, Int.reduceSub, reduceIte, reduceCtorEq, slotsV])); repeat' ((first | refine at_guard (fun hb => ?_) (fun hb => ?_) | refine ⟨fun hb => ?_, fun hb => ?_⟩ | refine at_call (h1) rfl rfl ?_ | refine at_call (h2) rfl rfl ?_ | refine at_call (h3) rfl rfl ?_ | fail) <;> (try (simp -implicitDefEqProofs only [go_sem, Nat.reduceAdd, Nat.reduceSub, Nat.reduceMul, Nat.reduceLT, Nat.reduceLeDiff, Nat.reduceEqDiff, Nat.reduceBEq, Int.reduceNeg, Int.reduceAdd, Int.reduceLT, Int.reduceLE, Int.reduceToNat, Int.reduceEq, Int.reduceNe, Int.reduceBEq, Int.reduceBNe, Int.reduceMul, Int.reduceSub, reduceIte, reduceCtorEq, slotsV])))
    exact h _ ⟨_, _, rfl, rfl, .refl _⟩
end Go.Proofs.Ytjkdpahaingjjaa.Ab
namespace Go.Proofs.Ytjkdpahaingjjaa.Ab
open Go Go.RowKit
set_option linter.unusedSimpArgs false
set_option maxHeartbeats 4000000
set_option maxRecDepth 100000
variable {G : Nat → Option AV}
def aB : List SlotT := [⟨0, ⟨1, 5, [], false⟩⟩]
def bB : List SlotT := [⟨0, ⟨1, 5, [], false⟩⟩, ⟨1, ⟨1, 6, [], false⟩⟩]
theorem law05_awake_pc : PureC Try.prog G n_proctorlaw05_awake [] (.bool true) := by
  have h1 := binding_Union_pc (G := G) aB bB (by decide) (by decide)
  rw [show unionB aB bB = some bB by decide +kernel] at h1
  have h2 := binding_Under_pc (G := G) aB bB (by decide) (by decide)
  rw [show underR aB bB = true by decide +kernel] at h2
  have h3 := binding_Right_pc (G := G) bB (by decide)
  rw [show bindOk bB = true by decide +kernel] at h3
  refine pc_proctorlaw05_awake (Runs.of fun Φ h => ?_)
  unfold c_proctorlaw05_awake
  simp only [slotsV, ofV, aB, bB, slotV, List.map_cons, List.map_nil, Option.getD_some, Option.isSome_some] at h1 h2 h3
  (try (simp -implicitDefEqProofs only [go_sem, Nat.reduceAdd, Nat.reduceSub, Nat.reduceMul, Nat.reduceLT, Nat.reduceLeDiff, Nat.reduceEqDiff, Nat.reduceBEq, Int.reduceNeg, Int.reduceAdd, Int.reduceLT, Int.reduceLE, Int.reduceToNat, Int.reduceEq, Int.reduceNe, Int.reduceBEq, Int.reduceBNe, Int.reduceMul, Int.reduceSub, reduceIte, reduceCtorEq])); repeat' ((first | refine at_guard (fun hb => ?_) (fun hb => ?_) | refine ⟨fun hb => ?_, fun hb => ?_⟩ | refine at_call (h1) rfl rfl ?_ | refine at_call (h2) rfl rfl ?_ | refine at_call (h3) rfl rfl ?_ | fail) <;> (try (simp -implicitDefEqProofs only [go_sem, Nat.reduceAdd, Nat.reduceSub, Nat.reduceMul, Nat.reduceLT, Nat.reduceLeDiff, Nat.reduceEqDiff, Nat.reduceBEq, Int.reduceNeg, Int.reduceAdd, Int.reduceLT, Int.reduceLE, Int.reduceToNat, Int.reduceEq, Int.reduceNe, Int.reduceBEq, Int.reduceBNe, Int.reduceMul, Int.reduceSub, reduceIte, reduceCtorEq])))
  all_goals first
    | exact h _ ⟨_, _, rfl, rfl, .refl _⟩
    | (exfalso; revert hb; decide)
end Go.Proofs.Ytjkdpahaingjjaa.Ab
namespace Go.Proofs.Ytjkdpahaingjjaa.Ab
open Go
set_option linter.unusedSimpArgs false
/-- A slot that may be. -/
def goodS (s : SlotT) : Prop := 0 ≤ s.var ∧ s.var ≤ 7 ∧ s.value.ok = true
/-- Rising variables, slots that may be. -/
structure Can (m : List SlotT) : Prop where
  srt : m.Pairwise fun a b => a.var < b.var
  good : ∀ s ∈ m, goodS s
theorem allI_iff {α : Type} {p : Nat → α → Bool} {l : List α} : allI p l = true ↔ ∀ i x, l[i]? = some x → p i x = true := allI_true
theorem can_of {m : List SlotT} (h : bindOk m = true) : Can m := by
  have h' := allI_iff.1 h
  have hg : ∀ i x, m[i]? = some x → goodS x := fun i x hx => by
    have := h' i x hx
    unfold slotOk at this
    simp only [Bool.and_eq_true, decide_eq_true_eq] at this
    exact ⟨this.1, this.2.1, this.2.2.1⟩
  refine ⟨?_, fun s hs => by obtain ⟨i, hi⟩ := List.getElem?_of_mem hs; exact hg i s hi⟩
  have step : ∀ i x y, m[i]? = some x → m[i + 1]? = some y → x.var < y.var := fun i x y hx hy => by
    have := h' (i + 1) y hy
    unfold slotOk at this
    simp only [Nat.add_sub_cancel, hx, Bool.and_eq_true, decide_eq_true_eq, Bool.or_eq_true, beq_iff_eq] at this
    rcases this.2.2.2 with h | h
    · omega
    · exact h
  have far : ∀ d i x y, m[i]? = some x → m[i + 1 + d]? = some y → x.var < y.var := fun d => by
    induction d with
    | zero => intro i x y hx hy; exact step i x y hx hy
    | succ d ih =>
      intro i x y hx hy
      have hl := (List.getElem?_eq_some_iff.1 hy).1
      obtain ⟨z, hz, _⟩ := at_some (l := m) (i := i + 1 + d) (by omega)
      have h1 := ih i x z hx hz
      have h2 := step (i + 1 + d) z y hz (by rw [show i + 1 + d + 1 = i + 1 + (d + 1) by omega]; exact hy)
      omega
  rw [List.pairwise_iff_getElem]
  intro i j hi hj hij
  exact far (j - i - 1) i m[i] m[j] (List.getElem?_eq_getElem hi) (by rw [show i + 1 + (j - i - 1) = j by omega]; exact List.getElem?_eq_getElem hj)
end Go.Proofs.Ytjkdpahaingjjaa.Ab
namespace Go.Proofs.Ytjkdpahaingjjaa.Ab
open Go
set_option linter.unusedSimpArgs false
end Go.Proofs.Ytjkdpahaingjjaa.Ab
namespace Go.Proofs.Ytjkdpahaingjjaa.Ab
open Go Go.RowKit
set_option linter.unusedSimpArgs false
set_option maxHeartbeats 4000000
set_option maxRecDepth 100000
variable {G : Nat → Option AV}
end Go.Proofs.Ytjkdpahaingjjaa.Ab
namespace Go.Proofs.Ytjkdpahaingjjaa.Ab
open Go Go.RowKit
set_option linter.unusedSimpArgs false
variable {G : Nat → Option AV}
end Go.Proofs.Ytjkdpahaingjjaa.Ab
namespace Go.Proofs.Ytjkdpahaingjjaa.Ab
open Go Go.ChangeShapes Go.WideShapes Go.RowKit
set_option linter.unusedSimpArgs false
set_option maxRecDepth 100000
theorem rInt {t : Nat} (ht : Try.prog.underlying t = some (.int .i64)) (hs : Try.prog.cellsOf t = 1) : RdT Try.prog t 1 fun cs => ∃ n : Int, cs = [iv n] :=
  (rd_int ht hs).mono (by rintro _ ⟨n, rfl, _⟩; exact ⟨n, rfl⟩)
end Go.Proofs.Ytjkdpahaingjjaa.Ab
namespace Go.Proofs.Ytjkdpahaingjjaa.Ab
open Go Go.ChangeShapes Go.WideShapes Go.RowKit
set_option linter.unusedSimpArgs false
set_option maxRecDepth 100000
theorem i64_wfB {n : Int} (h : (Lit.int .i64 n).wf = true) : i64 n := by
  simp [Lit.wf, IntKind.min, IntKind.max, IntKind.signed, IntKind.bits] at h
  exact ⟨h.1, by omega⟩
theorem rd_listB {α : Type} {f : α → AV} {Q : α → Prop} {t e sz : Nat} (ht : Try.prog.underlying t = some (.slice e)) (hs : Try.prog.cellsOf t = 1) (h : RdT Try.prog e sz fun cs => ∃ a : α, .agg cs = f a ∧ Q a) (h0 : 0 < sz) :
    RdT Try.prog t 1 fun cs => ∃ l : List α, cs = [.seq sz (l.map f)] ∧ l.length ≤ maxLen ∧ ∀ a ∈ l, Q a :=
  (rd_slice true ht hs h h0 (by intro h; cases h)).mono (by
    rintro _ ⟨es, rfl, hl, h⟩
    obtain ⟨l, rfl, hq⟩ := list_of' (f := f) (Q := Q) (fun x hx => by obtain ⟨_, ⟨o, e, q⟩, rfl⟩ := h x hx; exact ⟨o, e, q⟩)
    exact ⟨l, rfl, by simpa using hl, hq⟩)
theorem rValB : RdT Try.prog 38 4 fun cs => ∃ v : Val, cs = [iv v.kind, iv v.int, .str v.str, .bool v.bool] ∧ i64 v.int :=
  (rd_struct (t := 38) (fs := (Try.prog.fieldsOf 38)) (by kernel_rfl) (by kernel_rfl) (rdf_cons (f := (Try.prog.fieldsOf 38)[0]!) (rInt (by kernel_rfl) (by kernel_rfl)) (by kernel_rfl) rfl (rdf_cons (f := (Try.prog.fieldsOf 38)[1]!) (rd_int (by kernel_rfl) (by kernel_rfl)) (by kernel_rfl) rfl (rdf_cons (f := (Try.prog.fieldsOf 38)[2]!) (rd_str (by kernel_rfl) (by kernel_rfl)) (by kernel_rfl) rfl (rdf_cons (f := (Try.prog.fieldsOf 38)[3]!) (rd_bool (by kernel_rfl) (by kernel_rfl)) (by kernel_rfl) rfl (rdf_nil _)))))).mono (by
    rintro _ ⟨_, _, rfl, ⟨a, rfl⟩, _, _, rfl, ⟨b, rfl, hb⟩, _, _, rfl, ⟨c, rfl, _⟩, _, _, rfl, ⟨d, rfl⟩, rfl⟩
    exact ⟨⟨a, b, c, d⟩, rfl, i64_wfB hb⟩)
theorem rSlotB : RdT Try.prog 40 5 fun cs => ∃ a : SlotT, .agg cs = slotV a ∧ i64 a.value.int :=
  (rd_struct (t := 40) (fs := (Try.prog.fieldsOf 40)) (by kernel_rfl) (by kernel_rfl) (rdf_cons (f := (Try.prog.fieldsOf 40)[0]!) (rInt (by kernel_rfl) (by kernel_rfl)) (by kernel_rfl) rfl (rdf_cons (f := (Try.prog.fieldsOf 40)[1]!) rValB (by kernel_rfl) rfl (rdf_nil _)))).mono (by
    rintro _ ⟨_, _, rfl, ⟨a, rfl⟩, _, _, rfl, ⟨v, rfl, hv⟩, rfl⟩
    exact ⟨⟨a, v⟩, rfl, hv⟩)
/-- Slots as an argument holds them. -/
structure SlotsOk (l : List SlotT) : Prop where
  len : l.length ≤ maxLen
  n64 : ∀ s ∈ l, i64 s.value.int
theorem rSlotsB : RdT Try.prog 22 1 fun cs => ∃ l : {l : List SlotT // SlotsOk l}, cs = [slotsV l.1] :=
  (rd_listB (t := 22) (by kernel_rfl) (by kernel_rfl) rSlotB (by decide)).mono (by
    rintro _ ⟨l, rfl, h1, h2⟩
    exact ⟨⟨l, h1, h2⟩, rfl⟩)
end Go.Proofs.Ytjkdpahaingjjaa.Ab
namespace Go.Proofs.Ytjkdpahaingjjaa.Ab
open Go Go.ChangeShapes Go.WideShapes Go.RowKit
set_option linter.unusedSimpArgs false
set_option maxRecDepth 100000
theorem rIntsP : RdT Try.prog 35 1 fun cs => ∃ l : List Int, cs = [.seq 1 (l.map iv)] :=
  (rd_slice false (t := 35) (by kernel_rfl) (by kernel_rfl) (rInt (t := 3) (by kernel_rfl) (by kernel_rfl)) (by decide) (by rintro _ _ ⟨l, rfl⟩; exact ⟨_, rfl, rfl⟩)).mono (by
    rintro _ ⟨es, rfl, hl, h⟩
    obtain ⟨l, rfl⟩ := list_of (f := iv) (fun x hx => by obtain ⟨_, ⟨o, rfl⟩, rfl⟩ := h x hx; exact ⟨o, rfl⟩)
    exact ⟨l, rfl⟩)
end Go.Proofs.Ytjkdpahaingjjaa.Ab
namespace Go.Proofs.Ytjkdpahaingjjaa.Ab
open Go
set_option linter.unusedSimpArgs false
set_option maxHeartbeats 4000000
variable {G : Nat → Option AV}
end Go.Proofs.Ytjkdpahaingjjaa.Ab
namespace Go.Proofs.Ytjkdpahaingjjaa.Ab
open Go
set_option linter.unusedSimpArgs false
set_option maxHeartbeats 4000000
variable {G : Nat → Option AV}
/-- Rows and variables that are there. -/
def subH (heap : List (Nat × Box)) : List (Nat × Box) → Prop
  | [] => True
  | (i, b) :: r => hget heap i = some b ∧ subH heap r
theorem subH.at {heap : List (Nat × Box)} : ∀ {H : List (Nat × Box)}, subH heap H → ∀ i b, hget H i = some b → hget heap i = some b
  | [], _, i, b, h => by simp [hget] at h
  | (j, c) :: r, hs, i, b, h => by
    simp only [hget] at h
    split at h
    · rename_i e; subst e; cases h; exact hs.1
    · exact hs.2.at i b h
end Go.Proofs.Ytjkdpahaingjjaa.Ab
namespace Go.Proofs.Ytjkdpahaingjjaa.Ab
open Go
set_option linter.unusedSimpArgs false
set_option maxHeartbeats 4000000
variable {G : Nat → Option AV}
end Go.Proofs.Ytjkdpahaingjjaa.Ab
namespace Go.Proofs.Ytjkdpahaingjjaa.Ab
open Go
set_option linter.unusedSimpArgs false
set_option maxHeartbeats 4000000
variable {G : Nat → Option AV}
def mid {α : Type} (l : List α) (a b : Int) : List α := (l.drop a.toNat).take (b.toNat - a.toNat)
end Go.Proofs.Ytjkdpahaingjjaa.Ab
namespace Go.Proofs.Ytjkdpahaingjjaa.Ab
open Go
set_option linter.unusedSimpArgs false
set_option maxHeartbeats 4000000
variable {G : Nat → Option AV}
end Go.Proofs.Ytjkdpahaingjjaa.Ab
namespace Go.Proofs.Ytjkdpahaingjjaa.Ab
open Go
set_option linter.unusedSimpArgs false
set_option maxHeartbeats 4000000
variable {G : Nat → Option AV}
end Go.Proofs.Ytjkdpahaingjjaa.Ab
namespace Go.Proofs.Ytjkdpahaingjjaa.Ab
open Go Go.RowKit
set_option linter.unusedSimpArgs false
set_option maxHeartbeats 4000000
set_option maxRecDepth 100000
variable {G : Nat → Option AV}
structure CfgT where
  state : Int
  vals : List Val
deriving DecidableEq
/-- A state's number is small. -/
def CfgT.St (c : CfgT) : Prop := 0 ≤ c.state ∧ c.state < 1000 ∧ c.vals.length ≤ 1000
end Go.Proofs.Ytjkdpahaingjjaa.Ab
namespace Go.Proofs.Ytjkdpahaingjjaa.Ab
open Go Go.RowKit
set_option linter.unusedSimpArgs false
set_option maxHeartbeats 4000000
set_option maxRecDepth 100000
variable {G : Nat → Option AV}
end Go.Proofs.Ytjkdpahaingjjaa.Ab
namespace Go.Proofs.Ytjkdpahaingjjaa.Ab
open Go
set_option linter.unusedSimpArgs false
/-- A number's bytes, the greatest first. -/
def beB (u : Nat) : Str := [UInt8.ofNat (u / 72057594037927936), UInt8.ofNat (u / 281474976710656), UInt8.ofNat (u / 1099511627776), UInt8.ofNat (u / 4294967296), UInt8.ofNat (u / 16777216), UInt8.ofNat (u / 65536), UInt8.ofNat (u / 256), UInt8.ofNat u]
def keyNum (n : Int) : Str := beB (n + 9223372036854775808).toNat
def keyTxt : Str → Str
  | [] => [0, 1]
  | c :: r => if c = 0 then 0 :: 255 :: keyTxt r else c :: keyTxt r
def keyOne (v : Val) : Str := UInt8.ofNat v.kind.toNat :: (if v.kind = 1 then keyNum v.int else if v.kind = 2 then keyTxt v.str else [if v.bool then 1 else 0])
def keyVs (l : List Val) : Str := l.flatMap keyOne
end Go.Proofs.Ytjkdpahaingjjaa.Ab
namespace Go.Proofs.Ytjkdpahaingjjaa.Ab
open Go Go.RowKit
set_option linter.unusedSimpArgs false
set_option maxHeartbeats 4000000
set_option maxRecDepth 100000
variable {G : Nat → Option AV}
def byV (c : UInt8) : AV := .int .u8 (c.toNat : Int)
def bytesV (l : Str) : AV := .seq 1 (l.map byV)
theorem asBytes_map : ∀ (l : Str), asBytes (l.map byV) = some l
  | [] => rfl
  | c :: l => by
    simp only [List.map_cons, byV, asBytes]
    rw [asBytes_map l]
    simp
theorem view_bytes {H : List (Nat × Box)} {i n : Nat} {ty : Nat} {out : Str} (hH : hget H i = some ⟨true, ty, 1, out.map byV⟩) (hn : out.length = n) : view H (.arr i 0 n) = some (bytesV out) := by
  simp only [view, hH, List.drop_zero, List.length_map, hn]
  simp [bytesV, ← hn]
  exact List.take_of_length_le (by simp)
/-- A text's bytes, without the end. -/
def escT : Str → Str
  | [] => []
  | c :: r => (if c = 0 then [0, 255] else [c]) ++ escT r
theorem escT_append : ∀ (a b : Str), escT (a ++ b) = escT a ++ escT b
  | [], b => rfl
  | c :: a, b => by rw [List.cons_append, escT, escT, escT_append a b, List.append_assoc]
theorem keyTxt_esc : ∀ (s : Str), keyTxt s = escT s ++ [0, 1]
  | [] => rfl
  | c :: r => by
    rw [keyTxt, escT, keyTxt_esc r]
    split <;> simp
theorem escT_len : ∀ (s : Str), (escT s).length ≤ 2 * s.length
  | [] => Nat.le_refl _
  | c :: r => by
    have := escT_len r
    rw [escT]
    split <;> simp <;> omega
theorem take_at {α : Type} {l : List α} {i : Nat} {x : α} (h : l[i]? = some x) : l.take (i + 1) = l.take i ++ [x] := by
  rw [List.take_add_one, h]; rfl
theorem key_text_pc (s : Str) (hs : s.length ≤ 1000000) : PureC Try.prog G n_key_text [.str s] (bytesV (keyTxt s)) := by
  refine pc_key_text (Runs.of fun Φ h => ?_)
  unfold c_key_text
  simp -implicitDefEqProofs only [go_sem, Nat.reduceAdd, Nat.reduceSub, Nat.reduceMul, Nat.reduceLT, Nat.reduceLeDiff, Nat.reduceEqDiff, Nat.reduceBEq, Int.reduceNeg, Int.reduceAdd, Int.reduceLT, Int.reduceLE, Int.reduceToNat, Int.reduceEq, Int.reduceNe, Int.reduceBEq, Int.reduceBNe, Int.reduceMul, Int.reduceSub, reduceIte, reduceCtorEq]
  refine at_loop (fun n st => ∃ (i : Nat) (m : Str), i + n = s.length ∧ st = ⟨27, [(0, .str s), (3, .arr 3 0 m.length), (6, iv s.length), (7, iv i)], [(2, ⟨true, t_uint8, 1, []⟩), (3, ⟨true, t_uint8, 1, m.map byV⟩)]⟩ ∧ m = escT (s.take i)) s.length ⟨0, [], by simp, rfl, rfl⟩ ?_
  rintro I hI n st ⟨i, m, hi, rfl, hm⟩
  have hml : m.length ≤ 2000000 := by
    have := escT_len (s.take i)
    rw [hm]
    simp only [List.length_take] at this
    omega
  simp -implicitDefEqProofs only [go_sem, Nat.reduceAdd, Nat.reduceSub, Nat.reduceMul, Nat.reduceLT, Nat.reduceLeDiff, Nat.reduceEqDiff, Nat.reduceBEq, Int.reduceNeg, Int.reduceAdd, Int.reduceLT, Int.reduceLE, Int.reduceToNat, Int.reduceEq, Int.reduceNe, Int.reduceBEq, Int.reduceBNe, Int.reduceMul, Int.reduceSub, reduceIte, reduceCtorEq, List.length_map]
  refine ⟨fun hlt => ?_, fun hge => ?_⟩
  · have hlt' : i < s.length := by omega
    obtain ⟨c, hc, _⟩ := at_some hlt'
    have hw := wrap_succ hlt' (by omega)
    have hnx : escT (s.take (i + 1)) = m ++ (if c = 0 then [0, 255] else [c]) := by rw [take_at hc, escT_append, ← hm, escT, escT]; simp
    have hb1 : m.length + 1 ≤ 140737488355328 := by omega
    have hb2 : m.length + 1 + 1 ≤ 140737488355328 := by omega
    have hm1 : m.map byV ++ [.int .u8 (c.toNat : Int)] = (m ++ [c]).map byV := by simp [byV]
    by_cases h0 : c = 0
    · subst h0
      rw [if_pos rfl] at hnx
      have e0 : (((0 : UInt8).toNat : Int) == 0) = true := rfl
      (try (simp -implicitDefEqProofs only [go_sem, Nat.reduceAdd, Nat.reduceSub, Nat.reduceMul, Nat.reduceLT, Nat.reduceLeDiff, Nat.reduceEqDiff, Nat.reduceBEq, Int.reduceNeg, Int.reduceAdd, Int.reduceLT, Int.reduceLE, Int.reduceToNat, Int.reduceEq, Int.reduceNe, Int.reduceBEq, Int.reduceBNe, Int.reduceMul, Int.reduceSub, reduceIte, reduceCtorEq, aidx_at hc, hw, e0, List.length_map, List.length_append, hb1, hb2, Nat.mul_one])); repeat' ((first | refine at_guard (fun hb => ?_) (fun hb => ?_) | refine ⟨fun hb => ?_, fun hb => ?_⟩ | fail) <;> (try (simp -implicitDefEqProofs only [go_sem, Nat.reduceAdd, Nat.reduceSub, Nat.reduceMul, Nat.reduceLT, Nat.reduceLeDiff, Nat.reduceEqDiff, Nat.reduceBEq, Int.reduceNeg, Int.reduceAdd, Int.reduceLT, Int.reduceLE, Int.reduceToNat, Int.reduceEq, Int.reduceNe, Int.reduceBEq, Int.reduceBNe, Int.reduceMul, Int.reduceSub, reduceIte, reduceCtorEq, aidx_at hc, hw, e0, List.length_map, List.length_append, hb1, hb2, Nat.mul_one])))
      refine at_again (n - 1) (by omega) (hI _ _ ⟨i + 1, m ++ [0, 255], by omega, ?_, hnx.symm⟩)
      simp [byV]
    · rw [if_neg h0] at hnx
      have e0 : ((c.toNat : Int) == 0) = false := by
        have : c.toNat ≠ 0 := fun e => h0 (UInt8.toNat_inj.1 e)
        simp; omega
      (try (simp -implicitDefEqProofs only [go_sem, Nat.reduceAdd, Nat.reduceSub, Nat.reduceMul, Nat.reduceLT, Nat.reduceLeDiff, Nat.reduceEqDiff, Nat.reduceBEq, Int.reduceNeg, Int.reduceAdd, Int.reduceLT, Int.reduceLE, Int.reduceToNat, Int.reduceEq, Int.reduceNe, Int.reduceBEq, Int.reduceBNe, Int.reduceMul, Int.reduceSub, reduceIte, reduceCtorEq, aidx_at hc, hw, e0, List.length_map, List.length_append, hb1, hb2, Nat.mul_one])); repeat' ((first | refine at_guard (fun hb => ?_) (fun hb => ?_) | refine ⟨fun hb => ?_, fun hb => ?_⟩ | fail) <;> (try (simp -implicitDefEqProofs only [go_sem, Nat.reduceAdd, Nat.reduceSub, Nat.reduceMul, Nat.reduceLT, Nat.reduceLeDiff, Nat.reduceEqDiff, Nat.reduceBEq, Int.reduceNeg, Int.reduceAdd, Int.reduceLT, Int.reduceLE, Int.reduceToNat, Int.reduceEq, Int.reduceNe, Int.reduceBEq, Int.reduceBNe, Int.reduceMul, Int.reduceSub, reduceIte, reduceCtorEq, aidx_at hc, hw, e0, List.length_map, List.length_append, hb1, hb2, Nat.mul_one])))
      refine at_again (n - 1) (by omega) (hI _ _ ⟨i + 1, m ++ [c], by omega, ?_, hnx.symm⟩)
      simp [byV]
  · rw [List.take_of_length_le (by omega)] at hm
    rw [keyTxt_esc, ← hm] at h
    have hb1 : m.length + 2 ≤ 140737488355328 := by omega
    have hb2 : m.length + 1 + 1 ≤ 140737488355328 := by omega
    (try (simp -implicitDefEqProofs only [go_sem, Nat.reduceAdd, Nat.reduceSub, Nat.reduceMul, Nat.reduceLT, Nat.reduceLeDiff, Nat.reduceEqDiff, Nat.reduceBEq, Int.reduceNeg, Int.reduceAdd, Int.reduceLT, Int.reduceLE, Int.reduceToNat, Int.reduceEq, Int.reduceNe, Int.reduceBEq, Int.reduceBNe, Int.reduceMul, Int.reduceSub, reduceIte, reduceCtorEq, List.length_map, List.length_append, hb1, hb2, Nat.mul_one])); repeat' ((first | refine at_guard (fun hb => ?_) (fun hb => ?_) | refine ⟨fun hb => ?_, fun hb => ?_⟩ | fail) <;> (try (simp -implicitDefEqProofs only [go_sem, Nat.reduceAdd, Nat.reduceSub, Nat.reduceMul, Nat.reduceLT, Nat.reduceLeDiff, Nat.reduceEqDiff, Nat.reduceBEq, Int.reduceNeg, Int.reduceAdd, Int.reduceLT, Int.reduceLE, Int.reduceToNat, Int.reduceEq, Int.reduceNe, Int.reduceBEq, Int.reduceBNe, Int.reduceMul, Int.reduceSub, reduceIte, reduceCtorEq, List.length_map, List.length_append, hb1, hb2, Nat.mul_one])))
    exact h _ ⟨_, _, rfl, view_bytes (out := m ++ [0, 1]) (by simp [hget, byV]; rfl) (by simp), .refl _⟩
end Go.Proofs.Ytjkdpahaingjjaa.Ab
