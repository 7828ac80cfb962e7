/-
  A range over a function, walked: the loop's record, and one round. No claim is proved here.
-/
import Derived.RangeFuncRecord
import Derived.RangeFuncMany
import Derived.Below
namespace Go.Proofs.Ytngjjiblmpjbjaa.Ab
open Go Go.RowKit
set_option maxHeartbeats 1000000
variable {F : Fence} {n : Nat} {P : Program}
/-- The record of a loop. -/
def rfRec (fn : FuncId) (tmps : Array Value) (ps : Array Tmp) (assign body : Code) (D : Nat) (st : LoopState) (pe : Option Code) : Loop :=
  { state := st, pending := pe, fn, tmps := tmps, params := ps, assign, body, defers := D }
/-- The statement: the record is laid, the function is called. -/
theorem rf_enter {g : Operand} {ps : Array Tmp} {assign body : Code} {Q : Exit → Act → World → Prop} {a : Act} {w : World} (hro : F.round = none) (h1 : 1 ≤ n)
    {gf : Nat} {lb : Array Value} (hg : a.eval g = .func (.func gf) #[] lb) (hF : F.fn gf) (eg : ∀ args w, (callFunc gf args).run P w = .ok (.enter gf args) w)
    (H : ∀ fn, F.fn fn → ∀ mk, mk = rfRec fn a.tmps ps assign body w.heap.size → ∀ W1, (w.alloc (.deferred (some []))).alloc (.loop (mk .ready none)) = W1 → CallsIn F (n - 1) P gf (#[.func (.yield (w.heap.size + 1)) #[] #[]] ++ lb) W1
      (rangePost F n P (w.heap.size + 1) Q { a with defers := [{ target := .collected w.heap.size, args := #[] }] ++ a.defers })) :
    (Code.rangeFunc g ps assign body).wpIn F n P Q a w := by
  refine wpIn_rangeFunc ?_
  intro fn hfn
  rw [hro]
  obtain ⟨W1, hW1⟩ : ∃ W1, (w.alloc (.deferred (some []))).alloc (.loop (rfRec fn a.tmps ps assign body w.heap.size .ready none)) = W1 := ⟨_, rfl⟩
  have h2 : (Instr.enterLoop fn a.tmps ps assign body none).run P w = .ok (w.heap.size + 1, [{ target := .collected w.heap.size, args := #[] }]) W1 := by
    rw [← hW1]
    exact run_enterLoop_outer _ _ _ _ _
  have h3 : (resolve a.eval (rangeCall g (w.heap.size + 1)) 0).run P W1 = .ok { target := .fn (.func gf) lb, args := #[.func (.yield (w.heap.size + 1)) #[] #[]] } W1 := by
    simp only [resolve, hg]
    simp [go_sem]
  have h4 : (invoke (.fn (.func gf) lb) #[.func (.yield (w.heap.size + 1)) #[] #[]]).run P W1 = .ok (.enter gf (#[.func (.yield (w.heap.size + 1)) #[] #[]] ++ lb)) W1 := by
    simp [invoke, go_sem, eg]
  have h5 := H fn hfn _ rfl W1 hW1
  clear H hW1
  refine ⟨w.heap.size + 1, [{ target := .collected w.heap.size, args := #[] }], W1, { target := .fn (.func gf) lb, args := #[.func (.yield (w.heap.size + 1)) #[] #[]] }, W1, gf, #[.func (.yield (w.heap.size + 1)) #[] #[]] ++ lb, W1, ?_, ?_, ?_, ?_, fun _ => h1, ?_⟩
  · exact h2
  · exact h3
  · intro f' hf'
    simp [Target.leads] at hf'
    subst hf'
    exact hF
  · exact h4
  · exact h5
/-- A round's end: it goes on, or the function returns. -/
def roundEnd (l : Nat) (o : Obj) (J Jx : World → Prop) : Exit → Act → World → Prop
  | .normal, _, w => w.heap[l]? = some o ∧ J w
  | .ret, _, w => w.heap[l]? = some o ∧ Jx w
  | _, _, _ => False
theorem rf_round2 {m l : Nat} {fn : FuncId} {tmps : Array Value} {ps : Array Tmp} {assign body : Code} {D : Nat} {args : Array Value} {W : World} (J Jx : World → Prop)
    (hl : W.heap[l]? = some (.loop (rfRec fn tmps ps assign body D .ready none))) (hs : args.size = ps.size)
    (hwalk : assign.wpIn (Fence.wide.inRound l) m P (Exit.then (fun a₁ w₁ => w₁.heap[l]? = some (.loop (rfRec fn tmps ps assign body D .ready none)) ∧
      body.wpIn (Fence.wide.inRound l) m P (roundEnd l (.loop (rfRec fn tmps ps assign body D .busy none)) J Jx) a₁ (w₁.putObj l (.loop (rfRec fn tmps ps assign body D .busy none)))) (fun _ _ _ => False))
      { tmps := (ps.zip args).foldl (fun t (p, v) => t.setIfInBounds p v) tmps, defers := [] } W) :
    YieldAt Fence.wide m P l args W fun e W' => (e = .returned (.bool true) ∧ ∃ w, J w ∧ W' = w.putObj l (.loop (rfRec fn tmps ps assign body D .ready none))) ∨
      (e = .returned (.bool false) ∧ ∃ w, Jx w ∧ W' = w.putObj l (.loop (rfRec fn tmps ps assign body D .done (some .ret)))) := by
  refine ⟨fn, _, assign, body, run_yield hl hs, roundIn_of_wpIn trivial (wpIn_mono hwalk fun e a₁ w₁ h => ?_)⟩
  cases e with
  | normal =>
    obtain ⟨h1, h2⟩ := h
    refine ⟨_, run_beginRound h1 rfl, wpIn_mono h2 fun e a2 w2 h => ?_⟩
    cases e with
    | normal => exact ⟨_, _, run_endRound none h.1, .inl ⟨rfl, w2, h.2, rfl⟩⟩
    | ret => exact ⟨_, _, run_endRound (some .ret) h.1, .inr ⟨rfl, w2, h.2, rfl⟩⟩
    | exit _ => exact h.elim
    | goto _ => exact h.elim
    | panic _ => exact h.elim
    | outgrown => exact h.elim
  | exit _ => exact h.elim
  | ret => exact h.elim
  | goto _ => exact h.elim
  | panic _ => exact h.elim
  | outgrown => exact h.elim
theorem round_world {W W2 : World} {l : Nat} {o o1 sb : Obj} (hl : W.heap[l]? = some o) (hW2 : (W.alloc sb).putObj l o1 = W2) :
    W2.heap[l]? = some o1 ∧ W2.heap[W.heap.size]? = some sb ∧ (∀ k, k ≠ l → k < W.heap.size → W2.heap[k]? = W.heap[k]?) ∧ W2.heap.size = W.heap.size + 1 ∧ W2.os = W.os ∧ W2.tape = W.tape ∧ W2.output = W.output := by
  have hll := (Array.getElem?_eq_some_iff.1 hl).1
  subst hW2
  refine ⟨World.putObj_heap_same (by simp; omega), ?_, fun k hk hkl => ?_, by simp, rfl, rfl, rfl⟩
  · rw [World.putObj_heap_other (by omega)]
    exact World.alloc_heap_new W sb
  · rw [World.putObj_heap_other hk]
    exact Below.heap_alloc W sb k hkl
end Go.Proofs.Ytngjjiblmpjbjaa.Ab
