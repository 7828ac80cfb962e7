/-
  Operations that make a value and leave the world alone: what the model's run gives is what the abstract operation says. No claim is proved here.
-/
import Derived.Test.YtdfdiglnpekcpaaAbChk
import Derived.Laws.StructEq
import Derived.Laws.Concat
namespace Go.Proofs.Ytdfdiglnpekcpaa.Ab
open Go Go.RowKit

/-- The operation is carried out, and what is there then is what the state says. -/
def StepR (P : Program) (G : Nat → Option AV) (C : Ctx) (o : Oper) (a : Act) (w : World) (st' : St) : Prop :=
  (∃ v w', (execOp a.eval o).run P w = .ok (.value v) w' ∧ Rel G C st' (a.put o.dst v) w') ∨
  (∃ w', (execOp a.eval o).run P w = .ok .skip w' ∧ Rel G C st' (a.put o.dst undef) w')

section
variable {P : Program} {G : Nat → Option AV} {C : Ctx} {nm : Names} {F : Nat → Prop} {st st' : St} {a : Act} {w : World} {o : Oper}

theorem val_step (h : RelX G C nm F st a w) {c : AV} {v : Value} (hr : (execOp a.eval o).run P w = .ok (.value v) w) (hv : Rd w F nm c v) (hp : st.put o.dst c = some st') : StepR P G C o a w st' :=
  .inl ⟨v, w, hr, nm, F, h.put hv hp⟩

theorem bind_put {x : Option AV} {d : Option Nat} (h : x.bind (st.put d) = some st') : ∃ c, x = some c ∧ st.put d c = some st' := by
  cases x with
  | none => cases h
  | some c => exact ⟨c, rfl, h⟩

/-! ### Arithmetic -/
theorem abin_sound {op : BinOp} {x y c : AV} {u v : Value} (hx : Rd w F nm x u) (hy : Rd w F nm y v) (h : abin op x y = some c) (t : TypeId) (ex ey : Operand) :
    ∃ r, ((do eqGuard op t ex ey u v; binOp op t u v : Sem Value)).run P w = .ok r w ∧ Rd w F nm c r := by
  cases x <;> cases y <;> simp only [abin, reduceCtorEq] at h
  case int.int k n k' m =>
    cases hx; cases hy
    have hg : (eqGuard op t ex ey (.int k n) (.int k' m)).run P w = .ok () w := by cases op <;> simp [eqGuard]
    simp only [Sem.run_bind, hg, Result.andThen_ok]
    cases op <;> simp only [Option.ite_none_right_eq_some, Option.ite_none_left_eq_some, Option.some.injEq] at h
    case shl => obtain ⟨h0, rfl⟩ := h; exact ⟨_, by simp [binOp, Op.shift, h0, bShl], .int _ _ _⟩
    case shr => obtain ⟨h0, rfl⟩ := h; exact ⟨_, by simp [binOp, Op.shift, h0, bShr], .int _ _ _⟩
    case quo => obtain ⟨⟨rfl, h0⟩, rfl⟩ := h; exact ⟨_, by simp [binOp, Op.intDiv, h0], .int _ _ _⟩
    case rem => obtain ⟨⟨rfl, h0⟩, rfl⟩ := h; exact ⟨_, by simp [binOp, Op.intDiv, h0], .int _ _ _⟩
    case and => obtain ⟨rfl, rfl⟩ := h; exact ⟨_, by simp only [binOp, ne_eq, not_true_eq_false, if_false]; rfl, .int _ _ _⟩
    case or => obtain ⟨rfl, rfl⟩ := h; exact ⟨_, by simp only [binOp, ne_eq, not_true_eq_false, if_false]; rfl, .int _ _ _⟩
    case xor => obtain ⟨rfl, rfl⟩ := h; exact ⟨_, by simp only [binOp, ne_eq, not_true_eq_false, if_false]; rfl, .int _ _ _⟩
    case andNot => obtain ⟨rfl, rfl⟩ := h; exact ⟨_, by simp only [binOp, ne_eq, not_true_eq_false, if_false]; rfl, .int _ _ _⟩
    all_goals
      obtain ⟨rfl, rfl⟩ := h
      first
        | exact ⟨_, by simp [binOp, Op.intArith], .int _ _ _⟩
        | exact ⟨_, by simp [binOp, Op.intCmp], .bool _ _⟩
  case str.str s s' =>
    cases hx; cases hy
    have hg : (eqGuard op t ex ey (.string ⟨s.toArray⟩) (.string ⟨s'.toArray⟩)).run P w = .ok () w := by cases op <;> simp [eqGuard]
    simp only [Sem.run_bind, hg, Result.andThen_ok]
    cases op <;> simp only [Option.ite_none_right_eq_some, Option.some.injEq, reduceCtorEq] at h
    case add =>
      obtain ⟨h0, rfl⟩ := h
      refine ⟨.string (⟨s.toArray⟩ ++ ⟨s'.toArray⟩), ?_, ?_⟩
      · rw [binOp_string_add]
        exact run_string_add_sum w _ _ (by simpa [ByteArray.size] using h0)
      · have e : (⟨s.toArray⟩ ++ ⟨s'.toArray⟩ : ByteArray) = ⟨(s ++ s').toArray⟩ := by
          apply ByteArray.ext
          simp [ByteArray.data_append]
        rw [e]
        exact .str _ _
    all_goals
      subst h
      exact ⟨_, by simp [binOp, Op.stringOp], .bool _ _⟩

theorem aeqB_sound {neg : Bool} {x y c : AV} {u v : Value} (hx : Rd w F nm x u) (hy : Rd w F nm y v) (h : aeqB neg x y = some c) {t : TypeId} (ht : P.underlying t = some .bool) (ex ey : Operand) :
    ∃ r, ((do eqGuard (if neg then .neq else .eql) t ex ey u v; binOp (if neg then .neq else .eql) t u v : Sem Value)).run P w = .ok r w ∧ Rd w F nm c r := by
  cases x <;> cases y <;> simp only [aeqB, reduceCtorEq, Option.some.injEq] at h
  subst h
  cases hx; cases hy
  rename_i x y
  have he : (Op.equal t (.bool x) (.bool y)).run P w = .ok (x == y) w := run_equalIn_bool' w 9999 t x y ht
  refine ⟨_, ?_, .bool _ _⟩
  cases neg <;> simp [eqGuard, binOp, he]

theorem equal_ptr_nil (w : World) {t e : TypeId} (ht : P.underlying t = some (.pointer e)) (b : Option Addr) : (Op.equal t (.pointer b) (.pointer none)).run P w = .ok b.isNone w := by
  show (Op.equalIn (9999 + 1) t (.pointer b) (.pointer none)).run P w = _
  unfold Op.equalIn
  cases b <;> simp only [Sem.run_bind, run_underlying ht, Result.andThen_ok] <;> rfl
theorem binOp_ptr_nil (w : World) {t e : TypeId} (ht : P.underlying t = some (.pointer e)) (b : Option Addr) (neg : Bool) (ex ey : Operand) :
    ((do eqGuard (if neg then .neq else .eql) t ex ey (.pointer b) (.pointer none); binOp (if neg then .neq else .eql) t (.pointer b) (.pointer none) : Sem Value)).run P w = .ok (.bool (if neg then !b.isNone else b.isNone)) w := by
  cases neg
  · simp only [Bool.false_eq_true, if_false, Sem.run_bind]
    have e1 : (eqGuard .eql t ex ey (.pointer b) (.pointer none)).run P w = .ok () w := rfl
    have e2 : binOp .eql t (.pointer b) (.pointer none) = (do pure (.bool (← Op.equal t (.pointer b) (.pointer none)))) := rfl
    rw [e1, e2]
    simp only [Result.andThen_ok, Sem.run_bind, equal_ptr_nil w ht, Sem.run_pure]
  · simp only [if_true, Sem.run_bind]
    have e1 : (eqGuard .neq t ex ey (.pointer b) (.pointer none)).run P w = .ok () w := rfl
    have e2 : binOp .neq t (.pointer b) (.pointer none) = (do pure (.bool (!(← Op.equal t (.pointer b) (.pointer none))))) := rfl
    rw [e1, e2]
    simp only [Result.andThen_ok, Sem.run_bind, equal_ptr_nil w ht, Sem.run_pure]
theorem aeqP_sound {neg : Bool} {x y c : AV} {u v : Value} (hx : Rd w F nm x u) (hy : Rd w F nm y v) (h : aeqP neg x y = some c) {t e : TypeId} (ht : P.underlying t = some (.pointer e)) (ex ey : Operand) :
    ∃ r, ((do eqGuard (if neg then .neq else .eql) t ex ey u v; binOp (if neg then .neq else .eql) t u v : Sem Value)).run P w = .ok r w ∧ Rd w F nm c r := by
  cases x <;> cases y <;> simp only [aeqP, reduceCtorEq, Option.some.injEq] at h
  all_goals
    subst h
    cases hx; cases hy
    refine ⟨_, binOp_ptr_nil w ht _ neg ex ey, ?_⟩
    cases neg <;> exact .bool _ _

theorem aun_sound {op : UnOp} {x c : AV} {u : Value} (hx : Rd w F nm x u) (h : aun op x = some c) : ∃ r, (Op.unary op u).run P w = .ok r w ∧ Rd w F nm c r := by
  cases x <;> simp only [aun, reduceCtorEq] at h
  case bool b =>
    cases hx
    cases op <;> simp only [Option.some.injEq, reduceCtorEq] at h
    subst h
    exact ⟨_, by simp [Op.unary], .bool _ _⟩
  case int k n =>
    cases hx
    cases op <;> simp only [Option.some.injEq, reduceCtorEq] at h
    subst h
    exact ⟨_, by simp [Op.unary, Op.intArith], .int _ _ _⟩
end
end Go.Proofs.Ytdfdiglnpekcpaa.Ab
