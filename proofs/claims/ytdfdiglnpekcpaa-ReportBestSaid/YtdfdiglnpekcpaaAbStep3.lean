/-
  New variables and rows, stores and appends: what the model's run gives is what the abstract operation says. No claim is proved here.
-/
import Derived.Test.YtdfdiglnpekcpaaAbStep2
namespace Go.Proofs.Ytdfdiglnpekcpaa.Ab
open Go Go.RowKit

section
variable {P : Program} {G : Nat → Option AV} {C : Ctx} {nm : Names} {F : Nat → Prop} {st st' : St} {a : Act} {w : World} {o : Oper}

theorem Kept.alloc (h : Kept C w) (ob : Obj) : Kept C (w.alloc ob) :=
  ⟨h.os, h.tape, h.output, by have := h.size; simp; omega, fun b hb hL => (Below.heap_alloc w ob b (Nat.lt_of_lt_of_le hb h.size)).trans (h.block b hb hL)⟩

theorem zeroIs_spec {t : Nat} {z : AV} (h : zeroIs P t z = true) : ∃ v, (∀ w : World, (zeroValue t).run P w = .ok v w) ∧ repV z v = true ∧ ∃ i, P.info? t = some i ∧ i.zero = some v := by
  unfold zeroIs at h
  split at h
  · rename_i i hi
    split at h
    · rename_i v hv
      exact ⟨v, fun w => by simp [zeroValue, typeInfo, hi, hv], h, i, hi, hv⟩
    · cases h
  · cases h

/-- Cells of known values lie one by one. -/
theorem cells_known {c : AV} {v : Value} {n : Nat} (h : Rd w F nm c v) (hf : fits c n = true) :
    v.cells.size = n ∧ ∀ (j : Nat) x, c.cells[j]? = some x → ∃ u, v.cells[j]? = some u ∧ u.oneCell' = true ∧ Rd w F nm x u := by
  obtain ⟨h1, h2, h3⟩ := fits_spec hf
  refine ⟨by rw [← h.cells_len h1, h2], fun j x hx => ?_⟩
  obtain ⟨u, hu, hr⟩ := h.cell_at h1 hx
  exact ⟨u, hu, hr.oneCell (h3 x (List.mem_of_getElem? hx)), hr⟩

/-- A new block that holds a row or a variable. -/
theorem new_step (h : RelX G C nm F st a w) {d : Nat} (hd : o.dst = some d) {b : Box} {c : AV} {v : Value} {cs : Array Value} {cap : Nat} (hsz : 0 < b.sz) (hcs : cs.size = cap * b.sz) (hcap : cap ≤ maxLen) (hlen : b.es.length ≤ cap)
    (hfit : ∀ e ∈ b.es, e.cells.length = b.sz)
    (hes : ∀ (k : Nat) e (j : Nat) x, b.es[k]? = some e → e.cells[j]? = some x → ∃ u, cs[k * b.sz + j]? = some u ∧ u.oneCell' = true ∧ ∀ m, Rd w F (if b.row then noNames else upd nm d m) x u)
    (hv : Rd (w.alloc (.cells cs b.ty)) F (upd nm d (some ⟨w.heap.size, b.sz, cap, b.ty⟩)) c v)
    (hr : (execOp a.eval o).run P w = .ok (.value v) (w.alloc (.cells cs b.ty)))
    (hp : st.new (some d) b c = some st') : StepR P G C o a w st' := by
  have hup : ∀ k, k < w.heap.size → (w.alloc (.cells cs b.ty)).heap[k]? = w.heap[k]? := fun k hk => Below.heap_alloc w _ k hk
  have hb : ∀ k, F k → (w.alloc (.cells cs b.ty)).heap[k]? = w.heap[k]? := fun k hk => hup k (h.good.1 k hk)
  refine .inl ⟨_, _, hr, upd nm d (some ⟨w.heap.size, b.sz, cap, b.ty⟩), F, ?_⟩
  rw [hd]
  refine h.new (m := some ⟨w.heap.size, b.sz, cap, b.ty⟩) hp (h.keep.alloc _) hup (by simp) (fun m' hm => by cases hm; exact Nat.le_refl _) hv ?_
  refine .inr ⟨⟨w.heap.size, b.sz, cap, b.ty⟩, if_pos rfl, rfl, rfl, hsz, cs, heap_alloc_new w _, hcs, hlen, hcap, hfit, fun k e j x he hx => ?_⟩
  obtain ⟨u, hu, hu1, hrd⟩ := hes k e j x he hx
  refine ⟨u, hu, hu1, ?_⟩
  have := hrd (some ⟨w.heap.size, b.sz, cap, b.ty⟩)
  exact this.mono hb fun _ h => h

/-- A new variable. -/
theorem var_step (h : RelX G C nm F st a w) {d : Nat} (hd : o.dst = some d) {ty sz : Nat} {c : AV} {v : Value} (hsz : 0 < sz) (hv : ∀ m, Rd w F (upd nm d m) c v) (hf : fits c sz = true)
    (hr : (execOp a.eval o).run P w = .ok (.value (.pointer (some ⟨w.heap.size, 0, none⟩))) (w.alloc (.cells v.cells ty)))
    (hp : st.new (some d) ⟨false, ty, sz, [c]⟩ (.ref d 0 0) = some st') : StepR P G C o a w st' := by
  obtain ⟨hs, _⟩ := cells_known (hv none) hf
  refine new_step (cap := 1) h hd hsz (by simp [hs]) (by simp [maxLen]) (by simp) (fun e he => ?_) (fun k e j x he hx => ?_) ?_ hr hp
  · simp only [List.mem_singleton] at he
    subst he
    exact (fits_spec hf).2.1
  · match k, he with
    | 0, he =>
      simp only [List.getElem?_cons_zero, Option.some.injEq] at he
      subst he
      obtain ⟨u, hu, hu1, _⟩ := (cells_known (hv none) hf).2 j x hx
      refine ⟨u, by simpa using hu, hu1, fun m => ?_⟩
      obtain ⟨u', hu', _, hr'⟩ := (cells_known (hv m) hf).2 j x hx
      rw [hu] at hu'
      cases hu'
      simpa using hr'
    | k + 1, he => simp at he
  · have := Rd.ref (w := w.alloc (.cells v.cells ty)) (F := F) (upd nm d (some ⟨w.heap.size, sz, 1, ty⟩)) d 0 0 ⟨w.heap.size, sz, 1, ty⟩ (if_pos rfl)
    simpa using this

theorem alloc_step (h : RelX G C nm F st a w) {e ty sz : Nat} {z : AV} (ho : o.op = .alloc e) (hc : chkOp P (.alloc e) (.alloc ty sz z) = true) (he : evalOp G o.dst (.alloc ty sz z) st = some st') : StepR P G C o a w st' := by
  simp only [chkOp, Bool.and_eq_true, beq_iff_eq, decide_eq_true_eq] at hc
  obtain ⟨⟨⟨rfl, hz⟩, hf⟩, hsz⟩ := hc
  obtain ⟨v, hrun, hrep, _⟩ := zeroIs_spec hz
  simp only [evalOp] at he
  split at he
  · rename_i d hd
    refine var_step h hd hsz (fun m => repV_rd hrep) hf ?_ he
    simp only [execOp, ho, Instr.alloc, Sem.run_bind, hrun, Result.andThen_ok, newVar, newRow, run_newObj, Sem.run_pure]
    rfl
  · cases he

theorem box_step (h : RelX G C nm F st a w) {e ty sz : Nat} {x : Operand} {y : Opd} (ho : o.op = .box e x) (hc : chkOp P (.box e x) (.box ty sz y) = true) (he : evalOp G o.dst (.box ty sz y) st = some st') : StepR P G C o a w st' := by
  simp only [chkOp, Bool.and_eq_true, beq_iff_eq, decide_eq_true_eq] at hc
  obtain ⟨⟨rfl, hx⟩, hsz⟩ := hc
  have hrd := h.opd hx
  simp only [evalOp] at he
  split at he
  · rename_i d hd
    split at he
    · rename_i hf
      refine var_step h hd hsz (v := a.eval x) (fun m => hrd.purge fun j hj => if_neg hj) hf ?_ he
      simp only [execOp, ho, Instr.box, Sem.run_bind, Result.andThen_ok, newVar, newRow, run_newObj, Sem.run_pure]
      rfl
    · cases he
  · cases he
end
end Go.Proofs.Ytdfdiglnpekcpaa.Ab
