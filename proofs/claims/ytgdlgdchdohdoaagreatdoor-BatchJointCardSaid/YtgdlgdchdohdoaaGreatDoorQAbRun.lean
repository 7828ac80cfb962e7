/-
  Running abstract code step by step: rules for the simplifier, and what is asked at a call, a test, a loop. No claim is proved here.
-/
import Derived.Test.YtgdlgdchdohdoaaGreatDoorQAbFun
namespace Go.Proofs.YtgdlgdchdohdoaaGreatDoor.Ab
open Go Go.RowKit
/-- What is left to be done. -/
inductive Kt where
  | code (a : AC)
  | blk (id : Nat)
  | lp (I : Nat → St → Prop) (n : Nat) (kt kb : List Nat)
  | cut (S : St → Prop)
section
variable (P : Program) (G : Nat → Option AV) (Φ : St → Prop)
def den : List Kt → AE → St → Prop
  | [], e, st => match e with | .exit _ => False | _ => Φ st
  | .code a :: κ, e, st => match e with | .normal => awp P G a (den κ) st | e => den κ e st
  | .blk id :: κ, e, st => match e with | .exit j => if j = id then den κ .normal st else den κ (.exit j) st | e => den κ e st
  | .lp I n kt kb :: κ, e, st => match e with | .normal => ∃ m, m < n ∧ ∃ st0, Weak (st.trim kt kb) st0 ∧ I m st0 | e => den κ e st
  | .cut S :: κ, e, st => match e with | .normal => S st | e => den κ e st
def run (a : AC) (κ : List Kt) (st : St) : Prop := awp P G a (den P G Φ κ) st
def pop (κ : List Kt) (st : St) : Prop := den P G Φ κ .normal st
def unw (κ : List Kt) (id : Nat) (st : St) : Prop := den P G Φ κ (.exit id) st
def runO (q : Bool) (os : List AO) (kt : List Nat) (κ : List Kt) (st : St) : Prop := opsP P G q os st fun st' => den P G Φ κ .normal { st' with env := st'.trimE kt }
def runOO (q : Bool) (os : List AO) (kt : List Nat) (κ : List Kt) : Option St → Prop
  | some st => runO P G Φ q os kt κ st
  | none => False
def callK (q : Bool) (f : Nat) (args : List AV) (src : Option Opd × List Opd) (d : Option Nat) (st : St) (os : List AO) (kt : List Nat) (κ : List Kt) : Prop :=
  callS P G q f args src d st fun st' => runO P G Φ q os kt κ st'
def callF (q : Bool) (f : AV) (args : List AV) (src : Option Opd × List Opd) (d : Option Nat) (st : St) (os : List AO) (kt : List Nat) (κ : List Kt) : Prop :=
  match f with
  | .fn f caps => bodyB P f = true ∧ callK P G Φ q f (args ++ caps) src d st os kt κ
  | _ => False
def callKB (q : Bool) (f : Nat) (args : List AV) (src : Option Opd × List Opd) (d : Option Nat) (st : St) (os : List AO) (kt : List Nat) (κ : List Kt) : Prop :=
  callS P G false f args src d st fun st' => runO P G Φ q os kt κ st'
def callFB (q : Bool) (f : AV) (args : List AV) (src : Option Opd × List Opd) (d : Option Nat) (st : St) (os : List AO) (kt : List Nat) (κ : List Kt) : Prop :=
  match f with
  | .fn f caps => bodyB P (fnN f) = true ∧ callKB P G Φ q (fnN f) (fnA f caps args) src d st os kt κ
  | _ => False
def grd (q : Bool) (v : AV) (t : Nat) (want : Bool) (d : Option Nat) (op : AOp) (os : List AO) (kt : List Nat) (κ : List Kt) (st : St) : Prop :=
  match v with
  | .bool b => (b = want → runO P G Φ q (⟨d, op, none⟩ :: os) kt κ (st.know t want)) ∧ (b = (!want) → runOO P G Φ q os kt κ ((st.know t (!want)).put d .undef))
  | .undef => runOO P G Φ q os kt κ (st.put d .undef)
  | _ => False
/-- A region that makes a variable and writes it: its other operations three times: the variable is made behind all; ahead of all; written ahead of all. -/
def phD (ops : List AO) (k s : Nat) (_ktm kt : List Nat) (κ : List Kt) (d : Nat) (stn1 stn2 : St) : Prop :=
  agreeL d stn1 stn2 (dstsA ((ops.set k dumO).set s dumO)) ∧ pop P G Φ κ ⟨stn2.N, stn2.trimE kt, stn2.heap⟩
def phE (ops : List AO) (k s : Nat) (ktm kt : List Nat) (κ : List Kt) (d : Nat) (st1 stn1 : St) : Option St → Prop
  | some stS => runO P G Φ true ((ops.set k dumO).set s dumO) ktm [.cut (phD P G Φ ops k s ktm kt κ d stn1)] ⟨st1.N, st1.env, stS.heap⟩
  | none => False
def phC (ops : List AO) (k s : Nat) (ktm kt : List Nat) (κ : List Kt) (d : Nat) (p x : Opd) (n : Nat) (st1 stn stn1 : St) : Prop :=
  agreeL d stn stn1 (dstsA ((ops.set k dumO).set s dumO)) ∧ phE P G Φ ops k s ktm kt κ d st1 stn1 (evalOp G none (.store p x n) stn1)
def phB (ops : List AO) (k s : Nat) (ktm kt : List Nat) (κ : List Kt) (d : Nat) (p x : Opd) (n : Nat) (st1 stn : St) : Prop :=
  runO P G Φ true ((ops.set k dumO).set s dumO) ktm [.cut (phC P G Φ ops k s ktm kt κ d p x n st1 stn)] st1
def phO (ops : List AO) (k s : Nat) (ktm kt : List Nat) (κ : List Kt) (d : Nat) (p x : Opd) (n : Nat) (st : St) : Option St → Prop
  | some st1 => runO P G Φ true ((ops.set k dumO).set s dumO) ktm [.cut (phB P G Φ ops k s ktm kt κ d p x n st1)] st
  | none => False
def phA (ops : List AO) (k s : Nat) (ktm kt : List Nat) (κ : List Kt) (st : St) : Option AO → Option AO → Prop
  | some ⟨some d, .alloc ty sz z, none⟩, some ⟨none, .store p x n, none⟩ => phO P G Φ ops k s ktm kt κ d p x n st (evalOp G (some d) (.alloc ty sz z) st)
  | _, _ => False
/-- A region that draws its order, stage by stage. -/
def stg (ops : List AO) (ktm kt : List Nat) (κ : List Kt) (ls : List Nat) (ph : List (List Nat × List Nat)) (st : St) : Prop :=
  stagesP P G ops ktm (fun X => den P G Φ κ .normal { X with env := X.trimE kt }) ls ph st
def stgO (ops : List AO) (ktm kt : List Nat) (κ : List Kt) (ls : List Nat) (ph : List (List Nat × List Nat)) : Option St → Prop
  | some Y => stg P G Φ ops ktm kt κ ls ph Y
  | none => False
def stgL (ops : List AO) (ktm kt : List Nat) (κ : List Kt) (ls : List Nat) (ph : List (List Nat × List Nat)) (X : St) : Option AO → Prop
  | some ⟨d, op, none⟩ => stgO P G Φ ops ktm kt κ ls ph (evalOp G d op X)
  | _ => False
/-- A region that draws its order, in any of the orders that there may be. -/
def stgT (ops : List AO) (ktm kt : List Nat) (κ : List Kt) (tr : DT) (X : St) : Prop :=
  treeP P G ops ktm (fun X => den P G Φ κ .normal { X with env := X.trimE kt }) tr X
def cutB (ops : List AO) (ktm kt : List Nat) (κ : List Kt) (l : List Nat) (sub : DT) (X0 X1 : St) : Prop := agreeC X0 X1 (dstsA (selC ops l)) ∧ stgT P G Φ ops ktm kt κ sub X0
def cutA (ops : List AO) (ktm kt : List Nat) (κ : List Kt) (l : List Nat) (sub : DT) (X0 : St) : Prop := runO P G Φ true (selC ops l) ktm [.cut (cutB P G Φ ops ktm kt κ l sub X0)] X0
def lstT (ops : List AO) (ktm kt : List Nat) (κ : List Kt) (f l : List Nat) (sub : DT) : Option St → Prop
  | some Y => runO P G Φ true (selC ops f) ktm [.cut (cutA P G Φ ops ktm kt κ l sub)] Y
  | none => False
def lcallT (ops : List AO) (ktm kt : List Nat) (κ : List Kt) (f l : List Nat) (sub : DT) (g : Nat) (args : List AV) (d : Option Nat) (X : St) : Prop := callX P G false g args d X fun Y => lstT P G Φ ops ktm kt κ f l sub (some Y)
def lstK (ops : List AO) (ktm kt : List Nat) (κ : List Kt) (f l : List Nat) (sub : DT) (X : St) : Option AO → Prop
  | some ⟨d, .callB g xs, none⟩ => lcallT P G Φ ops ktm kt κ f l sub g (evs G X xs) d X
  | some ⟨d, op, none⟩ => lstT P G Φ ops ktm kt κ f l sub (evalOp G d op X)
  | _ => False
def selO (ops : List AO) (is : List Nat) : Option AO → List AO
  | some x => x :: selC ops is
  | none => selC ops is
def tst (v : AV) (a b : AC) (κ : List Kt) (st : St) : Prop :=
  match v with
  | .bool β => (β = true → run P G Φ a κ st) ∧ (β = false → run P G Φ b κ st)
  | _ => False
def enter (kt kb : List Nat) (a : AC) (κ : List Kt) (st : St) : Prop :=
  ∃ (I : Nat → St → Prop) (n : Nat), (∃ st0, Weak (st.trim kt kb) st0 ∧ I n st0) ∧ ∀ n st, I n st → run P G Φ a (.lp I n kt kb :: κ) st
def again (I : Nat → St → Prop) (n : Nat) (st : St) : Prop := ∃ m, m < n ∧ ∃ st0, Weak st st0 ∧ I m st0
end
section
variable {P : Program} {G : Nat → Option AV} {Φ : St → Prop} {q : Bool}
theorem run_skip (κ : List Kt) (st : St) : run P G Φ .skip κ st = pop P G Φ κ st := rfl
theorem run_reg (ops : List AO) (kt : List Nat) (κ : List Kt) (st : St) : run P G Φ (.reg ops kt) κ st = runO P G Φ false ops kt κ st := rfl
theorem run_dreg (ops : List AO) (kt : List Nat) (κ : List Kt) (st : St) : run P G Φ (.dreg ops kt) κ st = runO P G Φ true ops kt κ st := rfl
theorem phD_eq (ops : List AO) (k s : Nat) (ktm kt : List Nat) (κ : List Kt) (d : Nat) (stn1 stn2 : St) : phD P G Φ ops k s ktm kt κ d stn1 stn2 = (agreeL d stn1 stn2 (dstsA ((ops.set k dumO).set s dumO)) ∧ pop P G Φ κ ⟨stn2.N, stn2.trimE kt, stn2.heap⟩) := rfl
theorem phE_some (ops : List AO) (k s : Nat) (ktm kt : List Nat) (κ : List Kt) (d : Nat) (st1 stn1 stS : St) : phE P G Φ ops k s ktm kt κ d st1 stn1 (some stS) = runO P G Φ true ((ops.set k dumO).set s dumO) ktm [.cut (phD P G Φ ops k s ktm kt κ d stn1)] ⟨st1.N, st1.env, stS.heap⟩ := rfl
theorem phC_eq (ops : List AO) (k s : Nat) (ktm kt : List Nat) (κ : List Kt) (d : Nat) (p x : Opd) (n : Nat) (st1 stn stn1 : St) : phC P G Φ ops k s ktm kt κ d p x n st1 stn stn1 = (agreeL d stn stn1 (dstsA ((ops.set k dumO).set s dumO)) ∧ phE P G Φ ops k s ktm kt κ d st1 stn1 (evalOp G none (.store p x n) stn1)) := rfl
theorem phB_eq (ops : List AO) (k s : Nat) (ktm kt : List Nat) (κ : List Kt) (d : Nat) (p x : Opd) (n : Nat) (st1 stn : St) : phB P G Φ ops k s ktm kt κ d p x n st1 stn = runO P G Φ true ((ops.set k dumO).set s dumO) ktm [.cut (phC P G Φ ops k s ktm kt κ d p x n st1 stn)] st1 := rfl
theorem phO_some (ops : List AO) (k s : Nat) (ktm kt : List Nat) (κ : List Kt) (d : Nat) (p x : Opd) (n : Nat) (st st1 : St) : phO P G Φ ops k s ktm kt κ d p x n st (some st1) = runO P G Φ true ((ops.set k dumO).set s dumO) ktm [.cut (phB P G Φ ops k s ktm kt κ d p x n st1)] st := rfl
theorem phA_some (ops : List AO) (k s : Nat) (ktm kt : List Nat) (κ : List Kt) (st : St) (d ty sz : Nat) (z : AV) (p x : Opd) (n : Nat) : phA P G Φ ops k s ktm kt κ st (some ⟨some d, .alloc ty sz z, none⟩) (some ⟨none, .store p x n, none⟩) = phO P G Φ ops k s ktm kt κ d p x n st (evalOp G (some d) (.alloc ty sz z) st) := rfl
theorem run_dregA (ops : List AO) (k s : Nat) (ktm kt : List Nat) (κ : List Kt) (st : St) : run P G Φ (.dregA ops k s ktm kt) κ st = phA P G Φ ops k s ktm kt κ st (ops[k]?) (ops[s]?) := by
  have E : ∀ (d : Nat) (st1 stn1 : St) (p x : Opd) (n : Nat), phE P G Φ ops k s ktm kt κ d st1 stn1 (evalOp G none (.store p x n) stn1) ↔ ∃ stS, evalOp G none (.store p x n) stn1 = some stS ∧ runO P G Φ true ((ops.set k dumO).set s dumO) ktm [.cut (phD P G Φ ops k s ktm kt κ d stn1)] ⟨st1.N, st1.env, stS.heap⟩ := fun d st1 stn1 p x n => by
    cases h : evalOp G none (.store p x n) stn1 with
    | none => exact ⟨fun h => h.elim, fun ⟨_, h, _⟩ => by cases h⟩
    | some stS => exact ⟨fun h => ⟨stS, rfl, h⟩, fun ⟨_, h1, h2⟩ => by cases h1; exact h2⟩
  apply propext
  constructor
  · rintro ⟨d, ty, sz, z, p, x, n, st1, h1, h2, h3, h4⟩
    rw [h1, h2, phA_some, h3]
    exact opsP_mono h4 fun stn h5 => opsP_mono h5 fun stn1 h6 => ⟨h6.1, (E _ _ _ _ _ _).2 h6.2⟩
  · intro h
    unfold phA at h
    split at h
    · rename_i d ty sz z p x n hk hs
      unfold phO at h
      split at h
      · rename_i st1 h2
        exact ⟨d, ty, sz, z, p, x, n, st1, hk, hs, h2, opsP_mono h fun stn h5 => opsP_mono h5 fun stn1 h6 => ⟨h6.1, (E _ _ _ _ _ _).1 h6.2⟩⟩
      · exact h.elim
    · exact h.elim
theorem aslcH_seq (H : List (Nat × Box)) (z sz : Nat) (es : List AV) (lo hi : Option AV) : aslcH H z (.seq sz es) lo hi = aslc z (.seq sz es) lo hi := rfl
theorem aslcH_str (H : List (Nat × Box)) (z : Nat) (s : List UInt8) (lo hi : Option AV) : aslcH H z (.str s) lo hi = aslc z (.str s) lo hi := rfl
theorem aslcH_arr (H : List (Nat × Box)) (z i k n : Nat) (lo hi : Option AV) : aslcH H z (.arr i k n) lo hi = match hget H i with
    | some b => if b.sz = z ∧ 0 < z then match lo.getD (.int .i64 0), hi.getD (.int .i64 n) with
      | .int _ l, .int _ h => if 0 ≤ l ∧ l ≤ h ∧ h ≤ n then some (.arr i (k + l.toNat) (h.toNat - l.toNat)) else none
      | _, _ => none
      else none
    | none => none := rfl
theorem selC_nil (ops : List AO) : selC ops [] = [] := rfl
theorem selC_cons (ops : List AO) (i : Nat) (is : List Nat) : selC ops (i :: is) = selO ops is (ops[i]?) := rfl
theorem selO_some (ops : List AO) (is : List Nat) (x : AO) : selO ops is (some x) = x :: selC ops is := rfl
theorem agreeC_nil (X X' : St) : agreeC X X' [] = True := rfl
theorem agreeC_cons (X X' : St) (t : Nat) (ts : List Nat) : agreeC X X' (t :: ts) = (eget X'.env t = eget X.env t ∧ agreeC X X' ts) := rfl
theorem run_dregC (ops : List AO) (ls sa sb : List Nat) (ph : List (List Nat × List Nat)) (ktm kt : List Nat) (κ : List Kt) (st : St) : run P G Φ (.dregC ops ls sa sb ph ktm kt) κ st = stg P G Φ ops ktm kt κ ls ph st := rfl
theorem stg_nil (ops : List AO) (ktm kt : List Nat) (κ : List Kt) (f l : List Nat) (r : List (List Nat × List Nat)) (st : St) : stg P G Φ ops ktm kt κ [] ((f, l) :: r) st =
    runO P G Φ true (selC ops f) ktm [.cut fun X => runO P G Φ true (selC ops l) ktm [.cut fun X1 => agreeC X X1 (dstsA (selC ops l)) ∧ pop P G Φ κ ⟨X.N, X.trimE kt, X.heap⟩] X] st := rfl
theorem stg_cons (ops : List AO) (ktm kt : List Nat) (κ : List Kt) (c : Nat) (ls f l : List Nat) (r : List (List Nat × List Nat)) (st : St) : stg P G Φ ops ktm kt κ (c :: ls) ((f, l) :: r) st =
    runO P G Φ true (selC ops f) ktm [.cut fun X => runO P G Φ true (selC ops l) ktm [.cut fun X1 => agreeC X X1 (dstsA (selC ops l)) ∧ stgL P G Φ ops ktm kt κ ls r X (ops[c]?)] X] st := by
  have E : ∀ X : St, (∃ d op Y, ops[c]? = some ⟨d, op, none⟩ ∧ evalOp G d op X = some Y ∧ stagesP P G ops ktm (fun X => den P G Φ κ .normal { X with env := X.trimE kt }) ls r Y) = stgL P G Φ ops ktm kt κ ls r X (ops[c]?) := fun X => by
    apply propext
    generalize ops[c]? = y
    constructor
    · rintro ⟨d, op, Y, rfl, h1, h2⟩
      show stgO P G Φ ops ktm kt κ ls r (evalOp G d op X)
      rw [h1]
      exact h2
    · intro h
      unfold stgL at h
      split at h
      · rename_i d op
        unfold stgO at h
        split at h
        · rename_i Y hY
          exact ⟨d, op, Y, rfl, hY, h⟩
        · exact h.elim
      · exact h.elim
  unfold stg
  simp only [stagesP, E]
  rfl
theorem run_dregT (ops : List AO) (ls : List Nat) (en fb : List (List Nat)) (f0 : List Nat) (tr : DT) (ktm kt : List Nat) (κ : List Kt) (st : St) : run P G Φ (.dregT ops ls en fb f0 tr ktm kt) κ st = runO P G Φ true (selC ops f0) ktm [.cut (stgT P G Φ ops ktm kt κ tr)] st := rfl
theorem stgT_fin (ops : List AO) (ktm kt : List Nat) (κ : List Kt) (X : St) : stgT P G Φ ops ktm kt κ .fin X = pop P G Φ κ ⟨X.N, X.trimE kt, X.heap⟩ := rfl
theorem stgT_nil (ops : List AO) (ktm kt : List Nat) (κ : List Kt) (X : St) : stgT P G Φ ops ktm kt κ .nil X = True := rfl
theorem lstT_some (ops : List AO) (ktm kt : List Nat) (κ : List Kt) (f l : List Nat) (sub : DT) (Y : St) : lstT P G Φ ops ktm kt κ f l sub (some Y) = runO P G Φ true (selC ops f) ktm [.cut (cutA P G Φ ops ktm kt κ l sub)] Y := rfl
theorem cutA_eq (ops : List AO) (ktm kt : List Nat) (κ : List Kt) (l : List Nat) (sub : DT) (X0 : St) : cutA P G Φ ops ktm kt κ l sub X0 = runO P G Φ true (selC ops l) ktm [.cut (cutB P G Φ ops ktm kt κ l sub X0)] X0 := rfl
theorem cutB_eq (ops : List AO) (ktm kt : List Nat) (κ : List Kt) (l : List Nat) (sub : DT) (X0 X1 : St) : cutB P G Φ ops ktm kt κ l sub X0 X1 = (agreeC X0 X1 (dstsA (selC ops l)) ∧ stgT P G Φ ops ktm kt κ sub X0) := rfl
theorem lstK_callB (ops : List AO) (ktm kt : List Nat) (κ : List Kt) (f l : List Nat) (sub : DT) (X : St) (d : Option Nat) (g : Nat) (xs : List Opd) : lstK P G Φ ops ktm kt κ f l sub X (some ⟨d, .callB g xs, none⟩) = lcallT P G Φ ops ktm kt κ f l sub g (evs G X xs) d X := rfl
theorem lstK_nilrow (ops : List AO) (ktm kt : List Nat) (κ : List Kt) (f l : List Nat) (sub : DT) (X : St) (d : Option Nat) (a b : Nat) : lstK P G Φ ops ktm kt κ f l sub X (some ⟨d, .nilrow a b, none⟩) = lstT P G Φ ops ktm kt κ f l sub (evalOp G d (.nilrow a b) X) := rfl
theorem lstK_alloc (ops : List AO) (ktm kt : List Nat) (κ : List Kt) (f l : List Nat) (sub : DT) (X : St) (d : Option Nat) (a b : Nat) (z : AV) : lstK P G Φ ops ktm kt κ f l sub X (some ⟨d, .alloc a b z, none⟩) = lstT P G Φ ops ktm kt κ f l sub (evalOp G d (.alloc a b z) X) := rfl
theorem lstK_box (ops : List AO) (ktm kt : List Nat) (κ : List Kt) (f l : List Nat) (sub : DT) (X : St) (d : Option Nat) (a b : Nat) (z : Opd) : lstK P G Φ ops ktm kt κ f l sub X (some ⟨d, .box a b z, none⟩) = lstT P G Φ ops ktm kt κ f l sub (evalOp G d (.box a b z) X) := rfl
theorem lstK_mkrow (ops : List AO) (ktm kt : List Nat) (κ : List Kt) (f l : List Nat) (sub : DT) (X : St) (d : Option Nat) (a b n : Nat) (z : AV) (ps : List (Nat × Opd)) : lstK P G Φ ops ktm kt κ f l sub X (some ⟨d, .mkrow a b n z ps, none⟩) = lstT P G Φ ops ktm kt κ f l sub (evalOp G d (.mkrow a b n z ps) X) := rfl
theorem lstK_store (ops : List AO) (ktm kt : List Nat) (κ : List Kt) (f l : List Nat) (sub : DT) (X : St) (d : Option Nat) (p x : Opd) (n : Nat) : lstK P G Φ ops ktm kt κ f l sub X (some ⟨d, .store p x n, none⟩) = lstT P G Φ ops ktm kt κ f l sub (evalOp G d (.store p x n) X) := rfl
theorem lstK_app (ops : List AO) (ktm kt : List Nat) (κ : List Kt) (f l : List Nat) (sub : DT) (X : St) (d : Option Nat) (a b c : Nat) (x y : Opd) : lstK P G Φ ops ktm kt κ f l sub X (some ⟨d, .app a b c x y, none⟩) = lstT P G Φ ops ktm kt κ f l sub (evalOp G d (.app a b c x y) X) := rfl
theorem stgT_next (ops : List AO) (ktm kt : List Nat) (κ : List Kt) (c : Nat) (f l : List Nat) (sub rest : DT) (X : St) : stgT P G Φ ops ktm kt κ (.next c f l sub rest) X = (lstK P G Φ ops ktm kt κ f l sub X (ops[c]?) ∧ stgT P G Φ ops ktm kt κ rest X) := by
  have E : ∀ y : Option St, (∃ Y, y = some Y ∧ lstT P G Φ ops ktm kt κ f l sub (some Y)) = lstT P G Φ ops ktm kt κ f l sub y := fun y => by
    apply propext
    cases y with
    | none => exact ⟨(fun ⟨_, h, _⟩ => by cases h), (fun h => h.elim)⟩
    | some Y => exact ⟨(fun ⟨_, h1, h2⟩ => by cases h1; exact h2), (fun h => ⟨Y, rfl, h⟩)⟩
  have E2 : ∀ o : Option AO, lstepP P G o X (fun Y => lstT P G Φ ops ktm kt κ f l sub (some Y)) = lstK P G Φ ops ktm kt κ f l sub X o := fun o => by
    cases o with
    | none => rfl
    | some x =>
      obtain ⟨d, op, g⟩ := x
      cases g with
      | some g => cases op <;> rfl
      | none =>
        cases op
        case callB => rfl
        all_goals exact E _
  rw [← E2]
  rfl
theorem stgL_some (ops : List AO) (ktm kt : List Nat) (κ : List Kt) (ls : List Nat) (ph : List (List Nat × List Nat)) (X : St) (d : Option Nat) (op : AOp) : stgL P G Φ ops ktm kt κ ls ph X (some ⟨d, op, none⟩) = stgO P G Φ ops ktm kt κ ls ph (evalOp G d op X) := rfl
theorem stgO_some (ops : List AO) (ktm kt : List Nat) (κ : List Kt) (ls : List Nat) (ph : List (List Nat × List Nat)) (Y : St) : stgO P G Φ ops ktm kt κ ls ph (some Y) = stg P G Φ ops ktm kt κ ls ph Y := rfl
theorem run_seq (a b : AC) (κ : List Kt) (st : St) : run P G Φ (.seq a b) κ st = run P G Φ a (.code b :: κ) st := by
  unfold run
  rw [awp]
  congr 1
theorem run_cond (c : Opd) (a b : AC) (κ : List Kt) (st : St) : run P G Φ (.cond c a b) κ st = tst P G Φ (st.ev G c) a b κ st := by
  unfold run
  rw [awp]
  unfold tst run
  generalize st.ev G c = v
  cases v <;> rfl
theorem run_block (id : Nat) (a : AC) (κ : List Kt) (st : St) : run P G Φ (.block id a) κ st = run P G Φ a (.blk id :: κ) st := by
  unfold run
  rw [awp]
  congr 1
theorem run_loop (kt kb : List Nat) (a : AC) (κ : List Kt) (st : St) : run P G Φ (.loop kt kb a) κ st = enter P G Φ kt kb a κ st := by
  unfold run
  rw [awp]
  unfold enter run
  rfl
theorem run_exit (id : Nat) (κ : List Kt) (st : St) : run P G Φ (.exit id) κ st = unw P G Φ κ id st := rfl
theorem run_ret (κ : List Kt) (st : St) : run P G Φ .ret κ st = Φ st := by
  show den P G Φ κ .ret st = Φ st
  induction κ with
  | nil => rfl
  | cons k κ ih => cases k <;> exact ih
theorem pop_nil (st : St) : pop P G Φ [] st = Φ st := rfl
theorem pop_code (a : AC) (κ : List Kt) (st : St) : pop P G Φ (.code a :: κ) st = run P G Φ a κ st := rfl
theorem pop_blk (id : Nat) (κ : List Kt) (st : St) : pop P G Φ (.blk id :: κ) st = pop P G Φ κ st := rfl
theorem pop_lp (I : Nat → St → Prop) (n : Nat) (kt kb : List Nat) (κ : List Kt) (st : St) : pop P G Φ (.lp I n kt kb :: κ) st = again I n (st.trim kt kb) := rfl
theorem unw_code (a : AC) (κ : List Kt) (id : Nat) (st : St) : unw P G Φ (.code a :: κ) id st = unw P G Φ κ id st := rfl
theorem unw_blk (id j : Nat) (κ : List Kt) (st : St) : unw P G Φ (.blk id :: κ) j st = if j = id then pop P G Φ κ st else unw P G Φ κ j st := rfl
theorem pop_cut (S : St → Prop) (κ : List Kt) (st : St) : pop P G Φ (.cut S :: κ) st = S st := rfl
theorem unw_cut (S : St → Prop) (κ : List Kt) (id : Nat) (st : St) : unw P G Φ (.cut S :: κ) id st = unw P G Φ κ id st := rfl
theorem unw_lp (I : Nat → St → Prop) (n : Nat) (kt kb : List Nat) (κ : List Kt) (id : Nat) (st : St) : unw P G Φ (.lp I n kt kb :: κ) id st = unw P G Φ κ id st := rfl
theorem runO_nil (kt : List Nat) (κ : List Kt) (st : St) : runO P G Φ q [] kt κ st = pop P G Φ κ ⟨st.N, st.trimE kt, st.heap⟩ := rfl
theorem runO_call (d : Option Nat) (f : Nat) (xs : List Opd) (os : List AO) (kt : List Nat) (κ : List Kt) (st : St) : runO P G Φ q (⟨d, .call f xs, none⟩ :: os) kt κ st = callK P G Φ q f (evs G st xs) (none, xs) d st os kt κ := rfl
theorem runO_callv (d : Option Nat) (f : Opd) (xs : List Opd) (os : List AO) (kt : List Nat) (κ : List Kt) (st : St) : runO P G Φ q (⟨d, .callv f xs, none⟩ :: os) kt κ st = callF P G Φ q (st.ev G f) (evs G st xs) (some f, xs) d st os kt κ := by
  show opsP P G _ _ _ _ = _
  simp only [opsP, opP, stepP, callF]
  generalize st.ev G f = v
  cases v <;> rfl
/-- A call that does more, in a region that draws its order. -/
theorem runO_callB (d : Option Nat) (f : Nat) (xs : List Opd) (os : List AO) (kt : List Nat) (κ : List Kt) (st : St) : runO P G Φ q (⟨d, .callB f xs, none⟩ :: os) kt κ st = callKB P G Φ q f (evs G st xs) (none, xs) d st os kt κ := rfl
theorem runO_callvB (d : Option Nat) (f : Opd) (xs : List Opd) (os : List AO) (kt : List Nat) (κ : List Kt) (st : St) : runO P G Φ q (⟨d, .callvB f xs, none⟩ :: os) kt κ st = callFB P G Φ q (st.ev G f) (evs G st xs) (some f, xs) d st os kt κ := by
  show opsP P G _ _ _ _ = _
  simp only [opsP, opP, stepP, callFB]
  generalize st.ev G f = v
  cases v <;> rfl
theorem callFB_fn (f : Nat) (caps args : List AV) (src : Option Opd × List Opd) (d : Option Nat) (st : St) (os : List AO) (kt : List Nat) (κ : List Kt) : callFB P G Φ q (.fn f caps) args src d st os kt κ = (bodyB P (fnN f) = true ∧ callKB P G Φ q (fnN f) (fnA f caps args) src d st os kt κ) := rfl
theorem runO_op (d : Option Nat) (op : AOp) (os : List AO) (kt : List Nat) (κ : List Kt) (st : St) (h : (match op with | .call .. => false | .callv .. => false | .callB .. => false | .callvB .. => false | _ => true) = true) : runO P G Φ q (⟨d, op, none⟩ :: os) kt κ st = runOO P G Φ q os kt κ (evalOp G d op st) := by
  show opsP P G _ _ _ _ = _
  cases op <;> first
    | (simp at h; done)
    | (simp only [opsP, opP, stepP]
       generalize evalOp G d _ st = r
       cases r <;> rfl)
theorem runO_grd (d : Option Nat) (op : AOp) (t : Nat) (want : Bool) (os : List AO) (kt : List Nat) (κ : List Kt) (st : St) : runO P G Φ q (⟨d, op, some (t, want)⟩ :: os) kt κ st = grd P G Φ q (eget st.env t) t want d op os kt κ st := by
  show opsP P G _ _ _ _ = _
  simp only [opsP, opP, St.get, grd]
  generalize eget st.env t = v
  have e : ∀ (st : St), skipP d st (fun st' => opsP P G q os st' fun st' => den P G Φ κ .normal { st' with env := st'.trimE kt }) = runOO P G Φ q os kt κ (st.put d .undef) := fun st => by
    unfold skipP
    generalize st.put d .undef = r
    cases r <;> rfl
  cases v <;> first | rfl | exact e st | (simp only [e]; rfl)
theorem runOO_some (os : List AO) (kt : List Nat) (κ : List Kt) (st : St) : runOO P G Φ q os kt κ (some st) = runO P G Φ q os kt κ st := rfl
theorem tst_bool (β : Bool) (a b : AC) (κ : List Kt) (st : St) : tst P G Φ (.bool β) a b κ st = ((β = true → run P G Φ a κ st) ∧ (β = false → run P G Φ b κ st)) := rfl
theorem tst_true (a b : AC) (κ : List Kt) (st : St) : tst P G Φ (.bool true) a b κ st = run P G Φ a κ st := by simp [tst]
theorem tst_false (a b : AC) (κ : List Kt) (st : St) : tst P G Φ (.bool false) a b κ st = run P G Φ b κ st := by simp [tst]
theorem grd_undef (t : Nat) (want : Bool) (d : Option Nat) (op : AOp) (os : List AO) (kt : List Nat) (κ : List Kt) (st : St) : grd P G Φ q .undef t want d op os kt κ st = runOO P G Φ q os kt κ (st.put d .undef) := rfl
theorem grd_same (t : Nat) (b : Bool) (d : Option Nat) (op : AOp) (os : List AO) (kt : List Nat) (κ : List Kt) (st : St) : grd P G Φ q (.bool b) t b d op os kt κ st = runO P G Φ q (⟨d, op, none⟩ :: os) kt κ (st.know t b) := by cases b <;> simp [grd]
theorem grd_tf (t : Nat) (d : Option Nat) (op : AOp) (os : List AO) (kt : List Nat) (κ : List Kt) (st : St) : grd P G Φ q (.bool true) t false d op os kt κ st = runOO P G Φ q os kt κ ((st.know t true).put d .undef) := by simp [grd]
theorem grd_ft (t : Nat) (d : Option Nat) (op : AOp) (os : List AO) (kt : List Nat) (κ : List Kt) (st : St) : grd P G Φ q (.bool false) t true d op os kt κ st = runOO P G Φ q os kt κ ((st.know t false).put d .undef) := by simp [grd]
theorem callF_fn (f : Nat) (caps args : List AV) (src : Option Opd × List Opd) (d : Option Nat) (st : St) (os : List AO) (kt : List Nat) (κ : List Kt) : callF P G Φ q (.fn f caps) args src d st os kt κ = (bodyB P f = true ∧ callK P G Φ q f (args ++ caps) src d st os kt κ) := rfl
/-- At a call: what is handed over, the contract, the state behind it. -/
theorem at_call_fit {f : Nat} {args : List AV} {src : Option Opd × List Opd} {d : Option Nat} {st : St} {os : List AO} {kt : List Nat} {κ : List Kt} {args' vargs : List AV} {r : AV} (hc : PureC P G f args' r) (hv : viewC r st.heap args = some vargs) (hf : FitL vargs args') {st' : St} (hp : (behind st args r).put d r = some st')
    (h : runO P G Φ q os kt κ st') (hq : q = true → quietR args r = true := by first | (intro _; rfl) | (intro h; cases h)) : callK P G Φ q f args src d st os kt κ := .inl (.inl (.inl ⟨vargs, args', r, st', hv, hf, hc, hp, hq, h⟩))
theorem at_call {f : Nat} {args : List AV} {src : Option Opd × List Opd} {d : Option Nat} {st : St} {os : List AO} {kt : List Nat} {κ : List Kt} {args' : List AV} {r : AV} (hc : PureC P G f args' r) (hv : viewC r st.heap args = some args') {st' : St} (hp : (behind st args r).put d r = some st')
    (h : runO P G Φ q os kt κ st') (hq : q = true → quietR args r = true := by first | (intro _; rfl) | (intro h; cases h)) : callK P G Φ q f args src d st os kt κ := at_call_fit hc hv (FitL.refl _) hp h hq
/-- At a guard that is not settled. -/
theorem at_guard {b want : Bool} {t : Nat} {d : Option Nat} {op : AOp} {os : List AO} {kt : List Nat} {κ : List Kt} {st : St} (h1 : b = want → runO P G Φ q (⟨d, op, none⟩ :: os) kt κ (st.know t want)) (h2 : b = (!want) → runOO P G Φ q os kt κ ((st.know t (!want)).put d .undef)) : grd P G Φ q (.bool b) t want d op os kt κ st := ⟨h1, h2⟩
/-- At a loop: what holds at the head of each round, and a number that falls. -/
theorem at_loop {kt kb : List Nat} {a : AC} {κ : List Kt} {st : St} (I0 : Nat → St → Prop) (n : Nat) (h0 : I0 n (st.trim kt kb)) (h : ∀ I : Nat → St → Prop, (∀ n st, I0 n st → I n st) → ∀ n st, I0 n st → run P G Φ a (.lp I n kt kb :: κ) st) : enter P G Φ kt kb a κ st := ⟨I0, n, ⟨_, Weak.refl _, h0⟩, fun n st hi => h I0 (fun _ _ h => h) n st hi⟩
theorem at_again {I : Nat → St → Prop} {n : Nat} {st : St} (m : Nat) (hm : m < n) (h : I m st) : again I n st := ⟨m, hm, st, Weak.refl st, h⟩
end
theorem wrap_i64 {e : Int} (h1 : -9223372036854775808 ≤ e) (h2 : e ≤ 9223372036854775807) : IntKind.i64.wrap e = e := by
  have e1 : (2 : Int) ^ IntKind.i64.bits = 18446744073709551616 := rfl
  have e2 : (2 : Int) ^ (IntKind.i64.bits - 1) = 9223372036854775808 := rfl
  have e3 : IntKind.i64.signed = true := rfl
  unfold IntKind.wrap
  simp only [e1, e2, e3, Bool.true_and, decide_eq_true_eq]
  split <;> omega
section
variable (k : IntKind) (a b : Int)
theorem abin_add : abin .add (.int k a) (.int k b) = some (.int k (k.wrap (a + b))) := by simp [abin]
theorem abin_sub : abin .sub (.int k a) (.int k b) = some (.int k (k.wrap (a - b))) := by simp [abin]
theorem abin_mul : abin .mul (.int k a) (.int k b) = some (.int k (k.wrap (a * b))) := by simp [abin]
theorem abin_quo (h : b ≠ 0) : abin .quo (.int k a) (.int k b) = some (.int k (k.wrap (a.tdiv b))) := by simp [abin, h]
theorem abin_rem (h : b ≠ 0) : abin .rem (.int k a) (.int k b) = some (.int k (a.tmod b)) := by simp [abin, h]
theorem abin_and : abin .and (.int k a) (.int k b) = some (.int k (bAnd k a b)) := by show (if k = k then _ else _) = _; rw [if_pos rfl]
theorem abin_or : abin .or (.int k a) (.int k b) = some (.int k (bOr k a b)) := by show (if k = k then _ else _) = _; rw [if_pos rfl]
theorem abin_xor : abin .xor (.int k a) (.int k b) = some (.int k (bXor k a b)) := by show (if k = k then _ else _) = _; rw [if_pos rfl]
theorem abin_shl (k' : IntKind) (h : ¬ b < 0) : abin .shl (.int k a) (.int k' b) = some (.int k (bShl k a b)) := by simp [abin, h]
theorem abin_shr (k' : IntKind) (h : ¬ b < 0) : abin .shr (.int k a) (.int k' b) = some (.int k (bShr k a b)) := by simp [abin, h]
theorem abin_eql : abin .eql (.int k a) (.int k b) = some (.bool (a == b)) := by simp [abin]
theorem abin_neq : abin .neq (.int k a) (.int k b) = some (.bool (a != b)) := by simp [abin]
theorem abin_lss : abin .lss (.int k a) (.int k b) = some (.bool (decide (a < b))) := by simp [abin]
theorem abin_leq : abin .leq (.int k a) (.int k b) = some (.bool (decide (a ≤ b))) := by simp [abin]
theorem abin_gtr : abin .gtr (.int k a) (.int k b) = some (.bool (decide (b < a))) := by simp [abin]
theorem abin_geq : abin .geq (.int k a) (.int k b) = some (.bool (decide (b ≤ a))) := by simp [abin]
theorem abin_seql (s t : List UInt8) : abin .eql (.str s) (.str t) = some (.bool (s == t)) := by simp [abin]
theorem abin_sneq (s t : List UInt8) : abin .neq (.str s) (.str t) = some (.bool (!(s == t))) := by simp [abin]
theorem abin_slss (s t : List UInt8) : abin .lss (.str s) (.str t) = some (.bool (Op.bytesLess s t)) := by simp [abin]
theorem abin_sleq (s t : List UInt8) : abin .leq (.str s) (.str t) = some (.bool (Op.bytesLess s t || s == t)) := by simp [abin]
theorem abin_sgtr (s t : List UInt8) : abin .gtr (.str s) (.str t) = some (.bool (!(Op.bytesLess s t || s == t))) := by simp [abin]
theorem abin_sgeq (s t : List UInt8) : abin .geq (.str s) (.str t) = some (.bool (!(Op.bytesLess s t))) := by simp [abin]
theorem aiaddr_seq {H : List (Nat × Box)} {sz : Nat} {es : List AV} {e : AV} {n : Int} (h0 : 0 ≤ n) (h : es[n.toNat]? = some e) : aiaddr H sz (.seq sz es) (.int k n) = some (.eptr e 0) := by simp [aiaddr, h0, h]
theorem aidx_str {s : List UInt8} {e : UInt8} {n : Int} (h0 : 0 ≤ n) (h : s[n.toNat]? = some e) : aidx (.str s) (.int k n) = some (.int .u8 e.toNat) := by simp [aidx, h0, h]
end
theorem put_some (st : St) (d : Nat) (v : AV) (h : d < st.N) : st.put (some d) v = some { st with env := (d, v) :: st.env } := by simp [St.put, h]
theorem put_none (st : St) (v : AV) : st.put none v = some st := rfl
theorem new_some (st : St) (d : Nat) (b : Box) (v : AV) (h : d < st.N) : st.new (some d) b v = some ⟨st.N, (d, v) :: purgeE d st.env, (d, b) :: purgeH d st.heap⟩ := by simp [St.new, h]
theorem RunsH.of {P : Program} {G : Nat → Option AV} {A : AFun} {args : List AV} {H H' : List (Nat × Box)} {r : AV} (h : ∀ Φ : St → Prop, (∀ st, HandsH A r H' st → Φ st) → run P G Φ A.body [] ⟨A.N, argEnv 0 args, H⟩) : RunsH P G A args H r H' := by
  have := h (HandsH A r H') (fun _ h => h)
  unfold run at this
  unfold RunsH
  have e : den P G (HandsH A r H') [] = PostH A r H' := by
    funext e st
    cases e <;> rfl
  rw [e] at this
  exact this
theorem RunsN.of {P : Program} {G : Nat → Option AV} {A : AFun} {args : List AV} {r : AV} (h : ∀ Φ : St → Prop, (∀ st, HandsN A r st → Φ st) → run P G Φ A.body [] ⟨A.N, argEnv 0 args, []⟩) : RunsN P G A args r := by
  have := h (HandsN A r) (fun _ h => h)
  unfold run at this
  unfold RunsN
  have e : den P G (HandsN A r) [] = PostN A r := by
    funext e st
    cases e <;> rfl
  rw [e] at this
  exact this
/-- A function's run, whatever is asked at its end. -/
theorem Runs.of {P : Program} {G : Nat → Option AV} {A : AFun} {args : List AV} {r : AV} (h : ∀ Φ : St → Prop, (∀ st, Hands A r st → Φ st) → run P G Φ A.body [] ⟨A.N, argEnv 0 args, []⟩) : Runs P G A args r := by
  have := h (Hands A r) (fun _ h => h)
  unfold run at this
  unfold Runs
  have e : den P G (Hands A r) [] = Post A r := by
    funext e st
    cases e <;> rfl
  rw [e] at this
  exact this
attribute [go_sem] false_and and_false or_false false_or or_true true_or Bool.and_false Bool.false_and Bool.or_false Bool.false_or Bool.true_or Bool.or_true Nat.add_zero Nat.zero_add Int.toNat_natCast Int.toNat_zero Int.natCast_nonneg and_self and_true true_and ne_eq not_false_eq_true not_true_eq_false List.length_cons List.length_nil List.drop_zero List.drop_succ_cons List.take_succ_cons List.take_zero List.all_cons List.all_nil List.getElem?_cons_zero List.getElem?_cons_succ List.set_cons_zero List.nil_append List.cons_append List.append_nil Option.bind_some Option.map_some Option.some.injEq Option.getD_some Option.getD_none Option.map_none Bool.and_self Bool.and_true Bool.true_and Bool.not_true beq_true beq_false Bool.true_beq Bool.false_beq bne_self_eq_false Bool.not_false Bool.false_eq_true if_true if_false forall_const true_implies false_implies implies_true beq_self_eq_true BEq.rfl decide_true decide_false decide_eq_true_eq decide_eq_false_iff_not Bool.and_eq_true List.map_cons List.map_nil List.zip_cons_cons List.zip_nil_left List.zip_nil_right List.replicate_succ List.replicate_zero List.set_cons_succ
attribute [go_sem] run_dregT stgT_fin stgT_nil stgT_next lstT_some cutA_eq cutB_eq lstK_callB lstK_nilrow lstK_alloc lstK_box lstK_mkrow lstK_store lstK_app selC_nil selC_cons selO_some agreeC_nil agreeC_cons run_dregC stg_nil stg_cons stgL_some stgO_some run_dregA phA_some phO_some phB_eq phC_eq phD_eq phE_some dumO dstsA agreeL run_skip run_reg run_dreg run_seq run_cond run_block run_loop run_exit run_ret pop_nil pop_code pop_blk pop_lp pop_cut unw_code unw_blk unw_lp unw_cut runO_nil runO_call runO_callv runO_callB runO_callvB callFB_fn runO_op runO_grd runOO_some tst_true tst_false tst_bool grd_undef grd_same grd_tf grd_ft callF_fn
  put_some put_none new_some eget hget hset purge purge.go purgeE purgeH purgeB St.ev evs evalOp abin_add abin_sub abin_mul abin_quo abin_rem abin_and abin_or abin_xor abin_shl abin_shr abin_eql abin_neq abin_lss abin_leq abin_gtr abin_geq abin_seql abin_sneq abin_slss abin_sleq abin_sgtr abin_sgeq
  amlen amget amput mres keyEq keyOk mfind isAggV aslcH_arr aslcH_seq aslcH_str aclr aslcG amx asBytes ab2s aiaddrA aidxA clean clean.go arng aeqA aeqB aeqP aeqI aeqs leafEq andO aun aconv apick alen aext anchk afld afldN afaddr hcells aload aloadN astore fits cell1 reCell setSeg AV.cells abuild St.trimE St.trimH St.trim foreign happ St.know rowParts news aapp argEnv
  St.thaws St.thaw1 thaw thaw.go thawE thawH thawB view view.go viewAll viewC viewBs viewB viewK viewK.go rowsOf rowsOf.go rowsAll behind afterH rowNames isVar ours theirs purges purgesE purgesB restH memb takeL renO renO.go renB look flat flat.go resVs one aidx_str aiaddr_seq
end Go.Proofs.YtgdlgdchdohdoaaGreatDoor.Ab
