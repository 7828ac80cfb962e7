/-
  A range over a function, walked: the loop's record, and one round. binding.both and what it ranges over: the pieces. No claim is proved here.
-/
import Derived.RangeFuncRecord
import Derived.RangeFuncMany
import Derived.Below
import Derived.Test.YtjkdpahaingjjaaYGr1
import Derived.RangeFuncNested
import Derived.RangeFuncBound
import Derived.RangeFuncCalls
import Derived.RangeFuncLeaves
import Derived.OwnWalkIn
import Derived.TacticsInMore
import Derived.LoopNIn
import Derived.LoopIn
namespace Go.Proofs.Ytjkdpahaingjjaa.Ab
open Go Go.RowKit
set_option maxHeartbeats 1000000
variable {F : Fence} {n : Nat} {P : Program}
/-- The record of a loop. -/
def rfRec (fn : FuncId) (tmps : Array Value) (ps : Array Tmp) (assign body : Code) (D : Nat) (st : LoopState) (pe : Option Code) : Loop :=
  { state := st, pending := pe, fn, tmps := tmps, params := ps, assign, body, defers := D }
/-- The statement: the record is laid, the function is called. -/
theorem rf_enter {g : Operand} {ps : Array Tmp} {assign body : Code} {Q : Exit → Act → World → Prop} {a : Act} {w : World} (hro : F.round = none) (h1 : 1 ≤ n)
    {gf : Nat} {lb : Array Value} (hg : a.eval g = .func (.func gf) #[] lb) (hF : F.fn gf) (eg : ∀ args w, (callFunc gf args).run P w = .ok (.enter gf args) w)
    (H : ∀ fn, F.fn fn → ∀ mk, mk = rfRec fn a.tmps ps assign body w.heap.size → ∀ W1, (w.alloc (.deferred (some []))).alloc (.loop (mk .ready none)) = W1 → CallsIn F (n - 1) P gf (#[.func (.yield (w.heap.size + 1)) #[] #[]] ++ lb) W1
      (rangePost F n P (w.heap.size + 1) Q { a with defers := [{ target := .collected w.heap.size, args := #[] }] ++ a.defers })) :
    (Code.rangeFunc g ps assign body).wpIn F n P Q a w := by
  refine wpIn_rangeFunc ?_
  intro fn hfn
  rw [hro]
  obtain ⟨W1, hW1⟩ : ∃ W1, (w.alloc (.deferred (some []))).alloc (.loop (rfRec fn a.tmps ps assign body w.heap.size .ready none)) = W1 := ⟨_, rfl⟩
  have h2 : (Instr.enterLoop fn a.tmps ps assign body none).run P w = .ok (w.heap.size + 1, [{ target := .collected w.heap.size, args := #[] }]) W1 := by
    rw [← hW1]
    exact run_enterLoop_outer _ _ _ _ _
  have h3 : (resolve a.eval (rangeCall g (w.heap.size + 1)) 0).run P W1 = .ok { target := .fn (.func gf) lb, args := #[.func (.yield (w.heap.size + 1)) #[] #[]] } W1 := by
    simp only [resolve, hg]
    simp [go_sem]
  have h4 : (invoke (.fn (.func gf) lb) #[.func (.yield (w.heap.size + 1)) #[] #[]]).run P W1 = .ok (.enter gf (#[.func (.yield (w.heap.size + 1)) #[] #[]] ++ lb)) W1 := by
    simp [invoke, go_sem, eg]
  have h5 := H fn hfn _ rfl W1 hW1
  clear H hW1
  refine ⟨w.heap.size + 1, [{ target := .collected w.heap.size, args := #[] }], W1, { target := .fn (.func gf) lb, args := #[.func (.yield (w.heap.size + 1)) #[] #[]] }, W1, gf, #[.func (.yield (w.heap.size + 1)) #[] #[]] ++ lb, W1, ?_, ?_, ?_, ?_, fun _ => h1, ?_⟩
  · exact h2
  · exact h3
  · intro f' hf'
    simp [Target.leads] at hf'
    subst hf'
    exact hF
  · exact h4
  · exact h5
/-- A round's end: it goes on, or the function returns. -/
def roundEnd (l : Nat) (o : Obj) (J Jx : World → Prop) : Exit → Act → World → Prop
  | .normal, _, w => w.heap[l]? = some o ∧ J w
  | .ret, _, w => w.heap[l]? = some o ∧ Jx w
  | _, _, _ => False
theorem rf_round2 {m l : Nat} {fn : FuncId} {tmps : Array Value} {ps : Array Tmp} {assign body : Code} {D : Nat} {args : Array Value} {W : World} (J Jx : World → Prop)
    (hl : W.heap[l]? = some (.loop (rfRec fn tmps ps assign body D .ready none))) (hs : args.size = ps.size)
    (hwalk : assign.wpIn (Fence.wide.inRound l) m P (Exit.then (fun a₁ w₁ => w₁.heap[l]? = some (.loop (rfRec fn tmps ps assign body D .ready none)) ∧
      body.wpIn (Fence.wide.inRound l) m P (roundEnd l (.loop (rfRec fn tmps ps assign body D .busy none)) J Jx) a₁ (w₁.putObj l (.loop (rfRec fn tmps ps assign body D .busy none)))) (fun _ _ _ => False))
      { tmps := (ps.zip args).foldl (fun t (p, v) => t.setIfInBounds p v) tmps, defers := [] } W) :
    YieldAt Fence.wide m P l args W fun e W' => (e = .returned (.bool true) ∧ ∃ w, J w ∧ W' = w.putObj l (.loop (rfRec fn tmps ps assign body D .ready none))) ∨
      (e = .returned (.bool false) ∧ ∃ w, Jx w ∧ W' = w.putObj l (.loop (rfRec fn tmps ps assign body D .done (some .ret)))) := by
  refine ⟨fn, _, assign, body, run_yield hl hs, roundIn_of_wpIn trivial (wpIn_mono hwalk fun e a₁ w₁ h => ?_)⟩
  cases e with
  | normal =>
    obtain ⟨h1, h2⟩ := h
    refine ⟨_, run_beginRound h1 rfl, wpIn_mono h2 fun e a2 w2 h => ?_⟩
    cases e with
    | normal => exact ⟨_, _, run_endRound none h.1, .inl ⟨rfl, w2, h.2, rfl⟩⟩
    | ret => exact ⟨_, _, run_endRound (some .ret) h.1, .inr ⟨rfl, w2, h.2, rfl⟩⟩
    | exit _ => exact h.elim
    | goto _ => exact h.elim
    | panic _ => exact h.elim
    | outgrown => exact h.elim
  | exit _ => exact h.elim
  | ret => exact h.elim
  | goto _ => exact h.elim
  | panic _ => exact h.elim
  | outgrown => exact h.elim
theorem round_world {W W2 : World} {l : Nat} {o o1 sb : Obj} (hl : W.heap[l]? = some o) (hW2 : (W.alloc sb).putObj l o1 = W2) :
    W2.heap[l]? = some o1 ∧ W2.heap[W.heap.size]? = some sb ∧ (∀ k, k ≠ l → k < W.heap.size → W2.heap[k]? = W.heap[k]?) ∧ W2.heap.size = W.heap.size + 1 ∧ W2.os = W.os ∧ W2.tape = W.tape ∧ W2.output = W.output := by
  have hll := (Array.getElem?_eq_some_iff.1 hl).1
  subst hW2
  refine ⟨World.putObj_heap_same (by simp; omega), ?_, fun k hk hkl => ?_, by simp, rfl, rfl, rfl⟩
  · rw [World.putObj_heap_other (by omega)]
    exact World.alloc_heap_new W sb
  · rw [World.putObj_heap_other hk]
    exact Below.heap_alloc W sb k hkl
end Go.Proofs.Ytjkdpahaingjjaa.Ab
namespace Go.Proofs.Ytjkdpahaingjjaa.Ab
open Go Go.RowKit
set_option linter.unusedSimpArgs false
set_option maxHeartbeats 4000000
set_option maxRecDepth 100000
variable {G : Nat → Option AV}
/-- A list of slots, as it lies in memory. -/
def SlotsAt (w : World) (a : List SlotT) (base : Option Addr) : Prop :=
  a = [] ∨ ∃ g o, base = some ⟨g, o, none⟩ ∧ g < w.heap.size ∧ ∀ (k : Nat) x, a[k]? = some x → w.cell? ⟨g, o + k * 5, none⟩ = some (.int .i64 x.var) ∧ w.cell? ⟨g, o + k * 5 + 1, none⟩ = some (.int .i64 x.value.kind) ∧
    w.cell? ⟨g, o + k * 5 + 2, none⟩ = some (.int .i64 x.value.int) ∧ w.cell? ⟨g, o + k * 5 + 3, none⟩ = some (.string ⟨x.value.str.toArray⟩) ∧ w.cell? ⟨g, o + k * 5 + 4, none⟩ = some (.bool x.value.bool)
theorem rd_slots {w : World} {F : Nat → Prop} (hF : ∀ b, F b → b < w.heap.size) {a : List SlotT} {v : Value} (h : Rd w F noNames (slotsV a) v) : ∃ base cap, v = .slice base a.length cap ∧ SlotsAt w a base := by
  generalize hz : slotsV a = z at h
  unfold slotsV at hz
  cases h with
  | seq0 _ _ base cap =>
    simp only [AV.seq.injEq, List.map_eq_nil_iff, true_and] at hz
    obtain ⟨_, rfl⟩ := hz
    exact ⟨base, cap, rfl, .inl rfl⟩
  | seq _ sz es g o cap u h0 hFg hc hm hs hw h1 h =>
    simp only [AV.seq.injEq] at hz
    obtain ⟨rfl, rfl⟩ := hz
    refine ⟨some ⟨g, o, none⟩, cap, by rw [List.length_map], .inr ⟨g, o, rfl, hF g hFg, fun k x hx => ?_⟩⟩
    have hkl := (List.getElem?_eq_some_iff.1 hx).1
    have key : ∀ (j : Nat) c, (slotV x).cells[j]? = some c → ∀ v, (slotCells x)[j]? = some v → w.cell? ⟨g, o + k * 5 + j, none⟩ = some v := fun j c hc v hv => by
      have hj := slot_lt hc
      have e1 := hw (k * 5 + j) (by rw [List.length_map]; omega)
      have e2 := slot_rd hc (h k (slotV x) j c (by rw [List.getElem?_map, hx]; rfl) hc)
      rw [hv] at e2
      rw [show o + k * 5 + j = o + (k * 5 + j) by omega, e1, ← e2]
    exact ⟨key 0 _ rfl _ rfl, key 1 _ rfl _ rfl, key 2 _ rfl _ rfl, key 3 _ rfl _ rfl, key 4 _ rfl _ rfl⟩
  | _ => cases hz
theorem SlotsAt.below {w w' : World} {a : List SlotT} {base : Option Addr} (h : SlotsAt w a base) (hb : Below w.heap.size w w') : SlotsAt w' a base := by
  rcases h with h | ⟨g, o, e, hg, h⟩
  · exact .inl h
  · refine .inr ⟨g, o, e, Nat.lt_of_lt_of_le hg hb.size, fun k x hx => ?_⟩
    have e : ∀ o', w'.cell? ⟨g, o', none⟩ = w.cell? ⟨g, o', none⟩ := fun o' => World.cell?_of_block (w := w) (hb.block g hg)
    obtain ⟨h1, h2, h3, h4, h5⟩ := h k x hx
    exact ⟨(e _).trans h1, (e _).trans h2, (e _).trans h3, (e _).trans h4, (e _).trans h5⟩
def valC (v : Val) : Value := .agg #[.int .i64 v.kind, .int .i64 v.int, .string ⟨v.str.toArray⟩, .bool v.bool]
/-- binding.Get, in the kit's words. -/
theorem get_calls (b : List SlotT) (hb : b.length < 9223372036854775807) {w w' : World} {F : Nat → Prop} {v : Value} (hg : Good w F G) (h : Rd w F noNames (slotsV b) v) (hw : Below w.heap.size w w') (x : Int) :
    Calls Try.prog n_binding_Get #[v, .int .i64 x] w' fun e w2 => e = .returned (.tuple #[valC (getR b x).1, .bool (getR b x).2]) ∧ Below w'.heap.size w' w2 := by
  have hg' : Good w' F G := hg.mono (fun b hb => hw.block b (hg.1 b hb)) (fun _ h => h) (fun b hb => Nat.lt_of_lt_of_le (hg.1 b hb) hw.size)
  have h' : Rd w' F noNames (slotsV b) v := h.mono (fun b hb => hw.block b (hg.1 b hb)) fun _ h => h
  refine ((binding_Get_pc (G := G) b hb x) w' F #[v, .int .i64 x] hg' ⟨rfl, fun j c u hc hu => ?_⟩).mono ?_
  · match j, hc, hu with
    | 0, hc, hu => cases hc; cases hu; exact h'
    | 1, hc, hu => cases hc; cases hu; exact .int _ _ _
  · rintro e w2 ⟨r, F', rfl, _, _, _, hr, hb2⟩
    refine ⟨?_, hb2⟩
    generalize getR b x = z at *
    obtain ⟨⟨k, n, s, t⟩, o⟩ := z
    unfold vbt valV at hr
    cases hr with
    | tup _ _ us hl h2 =>
    match us, hl with
    | [u0, u1], _ =>
      have a0 := h2 0 _ u0 rfl rfl
      have a1 := h2 1 _ u1 rfl rfl
      cases a1
      cases a0 with
      | agg _ _ us hl h3 =>
      match us, hl with
      | [p0, p1, p2, p3], _ =>
        have c0 := h3 0 _ p0 rfl rfl
        have c1 := h3 1 _ p1 rfl rfl
        have c2 := h3 2 _ p2 rfl rfl
        have c3 := h3 3 _ p3 rfl rfl
        cases c0
        cases c1
        cases c2
        cases c3
        rfl
theorem both_calls (ba bb : Option Addr) (na ca nb cb : Nat) (w : World) : Calls Try.prog 31 #[.slice ba na ca, .slice bb nb cb] w fun e w' => e = .returned (.func (.func 49) #[] #[.pointer (some ⟨w.heap.size, 0, none⟩), .pointer (some ⟨w.heap.size + 1, 0, none⟩)]) ∧ w' = (w.alloc (.cells #[.slice ba na ca] 22)).alloc (.cells #[.slice bb nb cb] 22) := by
  go_enter Try.func31, Try.ntmps31
  go_wp2
  go_ret
  exact ⟨rfl, rfl⟩
end Go.Proofs.Ytjkdpahaingjjaa.Ab
