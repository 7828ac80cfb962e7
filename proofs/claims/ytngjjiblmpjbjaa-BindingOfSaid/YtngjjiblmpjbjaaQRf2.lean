/-
  binding.both and what it ranges over: the pieces. No claim is proved here.
-/
import Derived.Test.YtngjjiblmpjbjaaQGr1
import Derived.Test.YtngjjiblmpjbjaaQRf1
import Derived.RangeFuncNested
import Derived.RangeFuncBound
import Derived.RangeFuncCalls
import Derived.RangeFuncLeaves
import Derived.OwnWalkIn
import Derived.TacticsInMore
import Derived.LoopNIn
import Derived.LoopIn
namespace Go.Proofs.Ytngjjiblmpjbjaa.Ab
open Go Go.RowKit
set_option linter.unusedSimpArgs false
set_option maxHeartbeats 4000000
set_option maxRecDepth 100000
variable {G : Nat → Option AV}
/-- A list of slots, as it lies in memory. -/
def SlotsAt (w : World) (a : List SlotT) (base : Option Addr) : Prop :=
  a = [] ∨ ∃ g o, base = some ⟨g, o, none⟩ ∧ g < w.heap.size ∧ ∀ (k : Nat) x, a[k]? = some x → w.cell? ⟨g, o + k * 5, none⟩ = some (.int .i64 x.var) ∧ w.cell? ⟨g, o + k * 5 + 1, none⟩ = some (.int .i64 x.value.kind) ∧
    w.cell? ⟨g, o + k * 5 + 2, none⟩ = some (.int .i64 x.value.int) ∧ w.cell? ⟨g, o + k * 5 + 3, none⟩ = some (.string ⟨x.value.str.toArray⟩) ∧ w.cell? ⟨g, o + k * 5 + 4, none⟩ = some (.bool x.value.bool)
theorem rd_slots {w : World} {F : Nat → Prop} (hF : ∀ b, F b → b < w.heap.size) {a : List SlotT} {v : Value} (h : Rd w F noNames (slotsV a) v) : ∃ base cap, v = .slice base a.length cap ∧ SlotsAt w a base := by
  generalize hz : slotsV a = z at h
  unfold slotsV at hz
  cases h with
  | seq0 _ _ base cap =>
    simp only [AV.seq.injEq, List.map_eq_nil_iff, true_and] at hz
    obtain ⟨_, rfl⟩ := hz
    exact ⟨base, cap, rfl, .inl rfl⟩
  | seq _ sz es g o cap u h0 hFg hc hm hs hw h1 h =>
    simp only [AV.seq.injEq] at hz
    obtain ⟨rfl, rfl⟩ := hz
    refine ⟨some ⟨g, o, none⟩, cap, by rw [List.length_map], .inr ⟨g, o, rfl, hF g hFg, fun k x hx => ?_⟩⟩
    have hkl := (List.getElem?_eq_some_iff.1 hx).1
    have key : ∀ (j : Nat) c, (slotV x).cells[j]? = some c → ∀ v, (slotCells x)[j]? = some v → w.cell? ⟨g, o + k * 5 + j, none⟩ = some v := fun j c hc v hv => by
      have hj := slot_lt hc
      have e1 := hw (k * 5 + j) (by rw [List.length_map]; omega)
      have e2 := slot_rd hc (h k (slotV x) j c (by rw [List.getElem?_map, hx]; rfl) hc)
      rw [hv] at e2
      rw [show o + k * 5 + j = o + (k * 5 + j) by omega, e1, ← e2]
    exact ⟨key 0 _ rfl _ rfl, key 1 _ rfl _ rfl, key 2 _ rfl _ rfl, key 3 _ rfl _ rfl, key 4 _ rfl _ rfl⟩
  | _ => cases hz
theorem SlotsAt.below {w w' : World} {a : List SlotT} {base : Option Addr} (h : SlotsAt w a base) (hb : Below w.heap.size w w') : SlotsAt w' a base := by
  rcases h with h | ⟨g, o, e, hg, h⟩
  · exact .inl h
  · refine .inr ⟨g, o, e, Nat.lt_of_lt_of_le hg hb.size, fun k x hx => ?_⟩
    have e : ∀ o', w'.cell? ⟨g, o', none⟩ = w.cell? ⟨g, o', none⟩ := fun o' => World.cell?_of_block (w := w) (hb.block g hg)
    obtain ⟨h1, h2, h3, h4, h5⟩ := h k x hx
    exact ⟨(e _).trans h1, (e _).trans h2, (e _).trans h3, (e _).trans h4, (e _).trans h5⟩
def valC (v : Val) : Value := .agg #[.int .i64 v.kind, .int .i64 v.int, .string ⟨v.str.toArray⟩, .bool v.bool]
/-- binding.Get, in the kit's words. -/
theorem get_calls (b : List SlotT) (hb : b.length < 9223372036854775807) {w w' : World} {F : Nat → Prop} {v : Value} (hg : Good w F G) (h : Rd w F noNames (slotsV b) v) (hw : Below w.heap.size w w') (x : Int) :
    Calls Try.prog n_binding_Get #[v, .int .i64 x] w' fun e w2 => e = .returned (.tuple #[valC (getR b x).1, .bool (getR b x).2]) ∧ Below w'.heap.size w' w2 := by
  have hg' : Good w' F G := hg.mono (fun b hb => hw.block b (hg.1 b hb)) (fun _ h => h) (fun b hb => Nat.lt_of_lt_of_le (hg.1 b hb) hw.size)
  have h' : Rd w' F noNames (slotsV b) v := h.mono (fun b hb => hw.block b (hg.1 b hb)) fun _ h => h
  refine ((binding_Get_pc (G := G) b hb x) w' F #[v, .int .i64 x] hg' ⟨rfl, fun j c u hc hu => ?_⟩).mono ?_
  · match j, hc, hu with
    | 0, hc, hu => cases hc; cases hu; exact h'
    | 1, hc, hu => cases hc; cases hu; exact .int _ _ _
  · rintro e w2 ⟨r, F', rfl, _, _, _, hr, hb2⟩
    refine ⟨?_, hb2⟩
    generalize getR b x = z at *
    obtain ⟨⟨k, n, s, t⟩, o⟩ := z
    unfold vbt valV at hr
    cases hr with
    | tup _ _ us hl h2 =>
    match us, hl with
    | [u0, u1], _ =>
      have a0 := h2 0 _ u0 rfl rfl
      have a1 := h2 1 _ u1 rfl rfl
      cases a1
      cases a0 with
      | agg _ _ us hl h3 =>
      match us, hl with
      | [p0, p1, p2, p3], _ =>
        have c0 := h3 0 _ p0 rfl rfl
        have c1 := h3 1 _ p1 rfl rfl
        have c2 := h3 2 _ p2 rfl rfl
        have c3 := h3 3 _ p3 rfl rfl
        cases c0
        cases c1
        cases c2
        cases c3
        rfl
theorem both_calls (ba bb : Option Addr) (na ca nb cb : Nat) (w : World) : Calls Try.prog 20 #[.slice ba na ca, .slice bb nb cb] w fun e w' => e = .returned (.func (.func 29) #[] #[.pointer (some ⟨w.heap.size, 0, none⟩), .pointer (some ⟨w.heap.size + 1, 0, none⟩)]) ∧ w' = (w.alloc (.cells #[.slice ba na ca] 22)).alloc (.cells #[.slice bb nb cb] 22) := by
  go_enter Try.func20, Try.ntmps20
  go_wp2
  go_ret
  exact ⟨rfl, rfl⟩
end Go.Proofs.Ytngjjiblmpjbjaa.Ab
