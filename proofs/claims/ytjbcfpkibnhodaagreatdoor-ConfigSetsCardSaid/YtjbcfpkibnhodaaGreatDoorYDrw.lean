/-
  A call draws no fewer numbers than were drawn ahead of it: any run of the machine. No claim is proved here.
-/
import GoSem.Step
import Derived.RunT
import Derived.RunNT
import Derived.Calls
namespace Go.Proofs.YtjbcfpkibnhodaaGreatDoor.Drw
set_option linter.unusedSimpArgs false
open Go
def rw {α : Type} : Result α → World
  | .ok _ w => w
  | .halt _ w => w
theorem ask_le {α : Type} : ∀ (a : Ask α) (w : World), w.drawn ≤ (w.ask a).2.drawn := by
  intro a
  induction a with
  | done a => intro w; exact Nat.le_refl _
  | ask what range k ih =>
    intro w
    unfold World.ask
    simp only []
    split
    · exact ih _ _
    · exact Nat.le_trans (Nat.le_succ _) (ih _ { w with drawn := w.drawn + 1 })
theorem sys_le (w : World) (c : Sys) : w.drawn ≤ (w.sys c).2.drawn := by
  have := ask_le (Kernel.perform c w.os) w
  unfold World.sys
  split
  · exact Nat.le_refl _
  · rename_i h; rw [h] at this; exact this
theorem viewStore_eq {p : Program} {w : World} {at_ : Addr} {u : TypeId} {k : Addr} {v : Value} {b : Bool} {r : World × List Addr} (h : w.viewStore p at_ u k v b = .ok r) : r.1.drawn = w.drawn := by
  unfold World.viewStore at h
  simp only [bind, Except.bind, pure, Except.pure, throw, throwThe, MonadExceptOf.throw] at h
  repeat' split at h
  all_goals first
    | (cases h; done)
    | (cases h; rfl)
theorem farStore_eq {p : Program} {w : World} {a : Addr} {v : Value} {b : Bool} {r : World × List Addr} (h : w.farStore p a v b = .ok r) : r.1.drawn = w.drawn := by
  unfold World.farStore at h
  repeat' split at h
  all_goals first
    | (cases h; done)
    | (cases h; rename_i h; exact viewStore_eq h)
theorem freeze_eq (w : World) (a : Addr) (n : Nat) : (w.freeze a n).drawn = w.drawn := by
  unfold World.freeze
  split <;> rfl
theorem run_le {α : Type} (p : Program) (s : Sem α) : ∀ w : World, w.drawn ≤ (rw (s.run p w)).drawn := by
  induction s with
  | pure a => intro w; exact Nat.le_refl _
  | load m a k ih =>
    intro w
    unfold Sem.run
    split
    · exact ih _ _
    · split
      · exact ih _ _
      · exact Nat.le_refl _
  | store m a v k ih =>
    intro w
    cases v <;> simp only [Sem.run] <;> repeat' split
    all_goals first
      | exact Nat.le_refl _
      | exact ih (w.setCell _ _)
      | (rename_i h; have := farStore_eq h; rw [← this]; exact ih _)
  | new o k ih => intro w; exact ih _ { w with heap := w.heap.push o }
  | shape r k ih => intro w; exact ih _ _
  | freeze a n k ih =>
    intro w
    have := ih (w.freeze a n)
    rw [freeze_eq] at this
    exact this
  | frozen a k ih => intro w; exact ih _ _
  | getObj r k ih =>
    intro w
    unfold Sem.run
    split
    · exact Nat.le_refl _
    · exact ih _ _
    · exact Nat.le_refl _
  | setObj r o k ih =>
    intro w
    unfold Sem.run
    split
    · exact Nat.le_refl _
    · exact ih { w with heap := w.heap.setIfInBounds r o }
    · exact Nat.le_refl _
  | choose q k ih =>
    intro w
    unfold Sem.run
    split
    · exact ih _ _
    · exact Nat.le_trans (Nat.le_succ _) (ih _ { w with drawn := w.drawn + 1 })
  | sys c k ih =>
    intro w
    unfold Sem.run
    exact Nat.le_trans (sys_le w c) (ih _ _)
  | program k ih => intro w; exact ih _ _
  | mark m k ih => intro w; exact ih _
  | halt h => intro w; exact Nat.le_refl _
theorem ok_le {α : Type} {p : Program} {s : Sem α} {w w' : World} {a : α} (h : s.run p w = .ok a w') : w.drawn ≤ w'.drawn := by have := run_le p s w; rw [h] at this; exact this
theorem halt_le {α : Type} {p : Program} {s : Sem α} {w w' : World} {a : Halt} (h : s.run p w = .halt a w') : w.drawn ≤ w'.drawn := by have := run_le p s w; rw [h] at this; exact this
def gw : GStep → World
  | .go _ w _ => w
  | .comm _ _ _ _ w _ => w
  | .spawn _ _ w _ => w
  | .count _ w _ => w
  | .timer _ _ w _ => w
  | .alone _ _ w _ => w
  | .newcoro _ _ _ w _ => w
  | .coroswitch _ _ _ w _ => w
  | .collect _ w _ => w
  | .watch _ w _ => w
  | .ended _ w _ => w
theorem gw_after (es : Array Event) (s : GStep) : gw (s.after es) = gw s := by cases s <;> rfl
theorem runT_le {α : Type} (p : Program) (s : Sem α) (w : World) (es : Array Event) : w.drawn ≤ (rw (s.runT p w es).1).drawn := by
  rw [Sem.runT_fst]; exact run_le p s w
theorem okT_le {α : Type} {p : Program} {s : Sem α} {w w' : World} {es : Array Event} {a : α} (h : (s.runT p w es).1 = .ok a w') : w.drawn ≤ w'.drawn := by have := runT_le p s w es; rw [h] at this; exact this
theorem haltT_le {α : Type} {p : Program} {s : Sem α} {w w' : World} {es : Array Event} {a : Halt} (h : (s.runT p w es).1 = .halt a w') : w.drawn ≤ w'.drawn := by have := runT_le p s w es; rw [h] at this; exact this
theorem gw_ite {c : Prop} [Decidable c] {a b : GStep} {w : World} (ha : w.drawn ≤ (gw a).drawn) (hb : w.drawn ≤ (gw b).drawn) : w.drawn ≤ (gw (if c then a else b)).drawn := by split <;> assumption
theorem endWith_le (w : World) (fd : Nat) (t : ByteArray) (o : Outcome) : w.drawn ≤ (gw (endWith w fd t o)).drawn := by
  have := sys_le w (.write fd t)
  unfold endWith
  generalize w.sys (.write fd t) = R at *
  obtain ⟨r, w'⟩ := R
  cases r
  all_goals first
    | exact this
    | exact gw_ite this this
theorem endPrinting_le (p : Program) (fr : Frame) (v : Value) (w : World) : w.drawn ≤ (gw (endPrinting p fr v w)).drawn := by
  unfold endPrinting
  simp only []
  repeat' split
  all_goals exact Nat.le_refl _
theorem endFatal_le (p : Program) (fr : Frame) (cs : List Frame) (d : Option Dying) (m : String) (w : World) : w.drawn ≤ (gw (endFatal p fr cs d m w)).drawn := by
  unfold endFatal
  simp only []
  repeat' split
  all_goals
    rename_i h
    first
      | exact ok_le h
      | exact halt_le h
theorem writeOn_le (p : Program) (fr : Frame) (d : Dying) (f : Fatal) (w : World) : w.drawn ≤ (gw (writeOn p fr d f w)).drawn := by
  unfold writeOn
  simp only []
  split
  · exact Nat.le_refl _
  · split
    all_goals
      rename_i h
      first
        | exact okT_le (congrArg Prod.fst h)
        | exact haltT_le (congrArg Prod.fst h)
theorem die_le (p : Program) (fr : Frame) (d : Dying) (w : World) : w.drawn ≤ (gw (die p fr d w)).drawn := by
  unfold die
  simp only []
  repeat' split
  all_goals first
    | exact writeOn_le _ _ _ _ _
    | exact endWith_le _ _ _ _
    | exact Nat.le_refl _
    | (rename_i h; exact ok_le h)
    | (rename_i h; exact halt_le h)
    | (rw [gw_after]; repeat' split)
  all_goals first
    | (rename_i h; exact okT_le h)
    | (rename_i h; exact haltT_le h)
    | (rename_i h; exact Nat.le_trans (haltT_le h) (endPrinting_le _ _ _ _))
    | exact Nat.le_refl _
theorem early_le (p : Program) (fr : Frame) (cs : List Frame) (d : Option Dying) (g : Nat) (w : World) : w.drawn ≤ (gw (early p fr cs d g w)).drawn := by
  unfold early
  simp only []
  repeat' split
  all_goals first
    | exact Nat.le_refl _
    | (rename_i h; have := ok_le h; exact this)
    | (rename_i h; exact halt_le h)
    | (rename_i h _; have := ok_le h; exact this)
    | (rename_i h _ _; have := ok_le h; exact this)
    | (rename_i h _ _ _; have := ok_le h; exact this)
    | (rename_i h _ _ _ _; have := ok_le h; exact this)
    | (rename_i h _ _ _ _ _; have := ok_le h; exact this)
    | (rename_i h _ _ _ _ _ _; have := ok_le h; exact this)
    | (rename_i h _ _ _ _ _ _ _; have := ok_le h; exact this)
    | (rename_i h _ _ _ _ _ _ _ _; have := ok_le h; exact this)
    | (rename_i h _ _ _ _ _ _ _ _ _; have := ok_le h; exact this)
theorem doReturn_le (p : Program) (main : Bool) (fr : Frame) (cs : List Frame) (d : Option Dying) (v : Value) (w : World) : w.drawn ≤ (gw (doReturn p main fr cs d v w)).drawn := by
  unfold doReturn
  simp only []
  repeat' split
  all_goals exact Nat.le_refl _
theorem callDeferred_le (p : Program) (fr : Frame) (cs : List Frame) (dy : Option Dying) (d : Deferred) (w : World) : w.drawn ≤ (gw (callDeferred p fr cs dy d w)).drawn := by
  unfold callDeferred
  refine gw_ite ?_ ?_
  · exact Nat.le_refl _
  · rw [gw_after]
    have key := runT_le p (invoke d.target d.args) w #[]
    generalize (invoke d.target d.args).runT p w #[] = R at *
    obtain ⟨r, es⟩ := R
    simp only at key ⊢
    repeat' split
    all_goals first
      | exact key
      | exact Nat.le_trans key (endFatal_le _ _ _ _ _ _)
theorem unwind_le (p : Program) (main : Bool) (fr : Frame) (cs : List Frame) (dy : Option Dying) (w : World) : w.drawn ≤ (gw (unwind p main fr cs dy w)).drawn := by
  unfold unwind
  split
  · rename_i block _ _ _
    have key := fun b => runT_le p (Instr.takeDeferred b) w #[]
    simp only []
    rw [gw_after]
    split
    · rename_i h; exact okT_le h
    · rename_i h; exact haltT_le h
  · exact callDeferred_le _ _ _ _ _ _
  · split
    · exact Nat.le_refl _
    · refine gw_ite (Nat.le_refl _) ?_
      split
      · exact Nat.le_refl _
      · split
        · refine gw_ite (Nat.le_refl _) ?_
          split
          · rename_i h; exact ok_le h
          · rename_i h; exact halt_le h
          · rename_i h; exact halt_le h
        · split
          · exact endPrinting_le _ _ _ _
          · exact Nat.le_refl _
    · split
      · exact doReturn_le _ _ _ _ _ _ _
      · simp only []
        rw [gw_after]
        split
        · rename_i h; exact Nat.le_trans (okT_le h) (doReturn_le _ _ _ _ _ _ _)
        · rename_i h; exact haltT_le h
        · rename_i h; exact haltT_le h
theorem apply_le (p : Program) (fr : Frame) (cs : List Frame) (dy : Option Dying) (s : Sem Next) (w : World) (l : Bool) : w.drawn ≤ (gw (stepG.apply p l fr cs dy s w)).drawn := by
  unfold stepG.apply
  simp only []
  rw [gw_after]
  have key : w.drawn ≤ (rw (if l = true then s.runT p w #[] else (s.run p w, #[])).1).drawn := by
    split
    · exact runT_le p s w #[]
    · exact run_le p s w
  generalize (if l = true then s.runT p w #[] else (s.run p w, #[])) = R at *
  obtain ⟨r, es⟩ := R
  simp only at key ⊢
  repeat' split
  all_goals first
    | exact key
    | exact Nat.le_trans key (endFatal_le _ _ _ _ _ _)
    | exact Nat.le_trans key (early_le _ _ _ _ _ _)
theorem oper_le (p : Program) (fr : Frame) (cs : List Frame) (dy : Option Dying) (w : World) (l : Bool) : w.drawn ≤ (gw (stepG.oper p l fr cs dy w)).drawn := by
  unfold stepG.oper
  split
  · exact Nat.le_refl _
  · split <;> exact apply_le _ _ _ _ _ _ _
theorem gw_elim {α : Type} {o : Option α} {a : GStep} {f : α → GStep} {w : World} (ha : w.drawn ≤ (gw a).drawn) (hb : ∀ x, w.drawn ≤ (gw (f x)).drawn) : w.drawn ≤ (gw (o.elim a f)).drawn := by
  cases o
  · exact ha
  · exact hb _
theorem exec_le (p : Program) (main : Bool) (fr : Frame) (cs : List Frame) (dy : Option Dying) (w : World) (l : Bool) : w.drawn ≤ (gw (stepG.exec p main l fr cs dy w)).drawn := by
  have lv : ∀ (c : Prop) [Decidable c] (jump : Option Code), w.drawn ≤ (gw (match fr.roundOf with
      | none => if c then GStep.go { frame := { fr with mode := .returning }, callers := cs, status := .running, dying := dy } w else .ended (.stuck "exit, goto: no such block or label" (fr.pos p)) w
      | some l =>
        GStep.after (seen p fr.fn ((Instr.endRound l jump).runT p w #[]).2) (match ((Instr.endRound l jump).runT p w #[]).1 with
        | .ok v w => doReturn p main fr cs dy v w
        | .halt _ w => .ended (.stuck "range over a function: no such loop" (fr.pos p)) w))).drawn := fun c _ jump => by
    split
    · refine gw_ite (Nat.le_refl _) (Nat.le_refl _)
    · rw [gw_after]
      split
      · rename_i h; exact Nat.le_trans (okT_le h) (doReturn_le _ _ _ _ _ _ _)
      · rename_i h; exact haltT_le h
  unfold stepG.exec
  simp only []
  split
  all_goals first
    | exact Nat.le_refl _
    | exact lv _ _
    | exact apply_le _ _ _ _ _ _ _
    | exact gw_elim (lv _ _) fun _ => Nat.le_refl _
    | exact gw_elim (Nat.le_refl _) fun _ => apply_le _ _ _ _ _ _ _
    | skip
  · split <;> exact Nat.le_refl _
  · rw [gw_after]
    split
    · rename_i h; exact Nat.le_trans (okT_le h) (apply_le _ _ _ _ _ _ _)
    · rename_i h; exact haltT_le h
  · rw [gw_after]
    split
    · rename_i h; exact okT_le h
    · rename_i h; exact haltT_le h
    · rename_i h; exact haltT_le h
  · refine gw_ite (Nat.le_refl _) ?_
    split
    · rename_i h; exact ok_le h
    · rename_i h; exact halt_le h
  · exact gw_ite (oper_le _ _ _ _ _ _) (Nat.le_refl _)
theorem stepG_le (p : Program) (main : Bool) (g : Goroutine) (w : World) (l : Bool) : w.drawn ≤ (gw (stepG p main g w l)).drawn := by
  unfold stepG
  simp only []
  split
  · exact die_le _ _ _ _
  · exact exec_le _ _ _ _ _ _ _
  · exact unwind_le _ _ _ _ _ _
theorem waitingAt_le {rest : Rest} {cases : Array CommCase} {w w' : World} (h : waitingAt rest cases w = some w') : w'.drawn = w.drawn := by
  unfold waitingAt at h
  repeat' split at h
  all_goals first
    | (cases h; done)
    | (cases h; rfl)
theorem communicate_le (p : Program) (rest : Rest) (gs : Array Goroutine) (i : Nat) (g : Goroutine) (cases : Array CommCase) (blocking : Bool)
    (shape : CommShape) (w : World) (m' : Machine) (h : (communicate p rest gs i g cases blocking shape w).1 = .next m') : w.drawn ≤ m'.world.drawn := by
  unfold communicate at h
  simp only [] at h
  repeat' first
    | (simp at h; done)
    | (simp only [Stepped.next.injEq] at h; subst h; exact Nat.le_refl _)
    | (simp only [Stepped.next.injEq] at h; subst h; rename_i h; exact Nat.le_of_eq (waitingAt_le h).symm)
    | split at h
  all_goals
    simp only [Stepped.next.injEq] at h
    subst h
    first
      | (have h1 := ok_le ‹Sem.run p _ w = Result.ok _ _›; exact h1)
      | (have h1 := ok_le ‹Sem.run p _ w = Result.ok _ _›; have h2 := halt_le ‹Sem.run p _ _ = Result.halt _ _›; exact Nat.le_trans h1 h2)
      | (have h1 := ok_le ‹Sem.run p _ w = Result.ok _ _›; have h2 := ok_le ‹Sem.run p (choose (.extern "which waiting goroutine is the partner" _)) _ = Result.ok _ _›; exact Nat.le_trans h1 h2)
theorem look_le (p : Program) (gs : Array Goroutine) (rest : Rest) (w : World) (m' : Machine)
    (h : look p gs rest w = .next m') : w.drawn ≤ m'.world.drawn := by
  unfold look at h
  simp only [] at h
  repeat' first
    | (simp at h; done)
    | (simp only [Stepped.next.injEq] at h; subst h; exact Nat.le_refl _)
    | split at h
  all_goals
    simp only [Stepped.next.injEq] at h
    subst h
    have h1 := ok_le ‹Sem.run p _ w = Result.ok _ _›
    exact h1
theorem drain_le (w : World) (c : Nat) : (drain w c).2.drawn = w.drawn := by
  unfold drain
  split <;> rfl
theorem retime_le (m : Machine) (k : Nat) (t : Timer) (a b : Nat) : (retime m k t a b).2.world.drawn = m.world.drawn := by
  unfold retime
  simp only []
  split
  · exact drain_le _ _
  · rfl
theorem opened_le {m m1 : Machine} {var : Addr} (h : timerOp.opened m var = some m1) : m1.world.drawn = m.world.drawn := by
  unfold timerOp.opened at h
  repeat' split at h
  all_goals first
    | (cases h; done)
    | (cases h; rfl)
theorem named_le {m m' : Machine} {var : Addr} {f : Nat → Timer → Value × Machine} {v : Value} {n : Nat} (hf : ∀ k t, (f k t).2.world.drawn = n) (h : timerOp.named m var f = .ok (v, m')) : m'.world.drawn = n := by
  unfold timerOp.named at h
  split at h
  · have h' := congrArg Prod.snd (Except.ok.inj h)
    rw [← show _ = m' from h']
    exact hf _ _
  · cases h
theorem timerOp_le {m m' : Machine} {op : TimerOp} {v : Value} (h : timerOp m op = .ok (v, m')) : m'.world.drawn = m.world.drawn := by
  unfold timerOp at h
  repeat' split at h
  all_goals first
    | (cases h; done)
    | (cases h; rfl)
    | exact named_le (fun k t => retime_le _ _ _ _ _) h
    | (rename_i h1; exact named_le (fun k t => (retime_le _ _ _ _ _).trans (opened_le h1)) h)
theorem runT_le' (p : Program) (m m' : Machine) (i : Nat) (b : Bool) (h : (Go.runT p m i b).1 = .next m') : m.world.drawn ≤ m'.world.drawn := by
  simp only [Go.runT] at h
  have key := stepG_le p (i == 0) (m.gs.swapAt! i { (default : Goroutine) with status := .finished }).1 m.world b
  revert h
  generalize m.gs.swapAt! _ _ = gg at *
  generalize stepG p _ gg.1 m.world b = s at *
  intro h
  cases s <;> simp only [gw] at key <;> simp only [] at h
  all_goals first
    | (simp at h; done)
    | (have := communicate_le _ _ _ _ _ _ _ _ _ _ h; exact Nat.le_trans key this)
    | (have := look_le _ _ _ _ _ h; exact Nat.le_trans key this)
    | (simp only [Stepped.next.injEq] at h; subst h; exact key)
    | (repeat' first
        | (simp at h; done)
        | (simp only [Stepped.next.injEq] at h; subst h; exact key)
        | split at h)
  all_goals
    first
      | (cases ‹endThrow _ _ _ = GStep.go _ _ _›; simp only [Stepped.next.injEq] at h; subst h; exact key)
      | (have h1 := timerOp_le ‹timerOp _ _ = Except.ok _›; simp only [Stepped.next.injEq] at h; subst h; exact Nat.le_trans key (Nat.le_of_eq h1.symm))
theorem serve_le (p : Program) (m m' : Machine) (k : Nat) (h : serve p m k = .next m') : m.world.drawn ≤ m'.world.drawn := by
  unfold serve at h
  simp only [] at h
  repeat' first
    | (simp at h; done)
    | (simp only [Stepped.next.injEq] at h; subst h; exact Nat.le_refl _)
    | split at h
theorem askOn_le (p : Program) (m m' : Machine) (ops : Array MemOp) (h : askOn p m = .machine (.next m') ops) : m.world.drawn ≤ m'.world.drawn := by
  unfold askOn at h
  simp only [] at h
  repeat' first
    | (simp at h; done)
    | (simp only [Move.machine.injEq] at h; have := serve_le _ _ _ _ h.1; have h1 := ok_le ‹Sem.run p _ m.world = Result.ok _ _›; exact Nat.le_trans h1 this)
    | split at h
  all_goals
    simp only [Move.machine.injEq, Stepped.next.injEq, Move.goroutine.injEq] at h
    obtain ⟨rfl, _⟩ := h
    have h1 := ok_le ‹Sem.run p _ m.world = Result.ok _ _›
    first
      | exact h1
      | (have hc := ok_le ‹Sem.run p (choose (.extern "clock.wait" _)) _ = Result.ok _ _›
         have h1 := Nat.le_trans h1 hc
         first
           | exact h1
           | (have hs := ok_le ‹Sem.run p (choose (.sched _)) _ = Result.ok _ _›
              have h1 := Nat.le_trans h1 hs
              first
                | exact h1
                | (have hl := ok_le ‹Sem.run p (choose (.extern "sched.slice" 65536)) _ = Result.ok _ _›
                   exact Nat.le_trans h1 hl)))
      | (have hs := ok_le ‹Sem.run p (choose (.sched _)) _ = Result.ok _ _›
         have h1 := Nat.le_trans h1 hs
         first
           | exact h1
           | (have hl := ok_le ‹Sem.run p (choose (.extern "sched.slice" 65536)) _ = Result.ok _ _›
              exact Nat.le_trans h1 hl))
theorem askOn_go (p : Program) (m m' : Machine) (i : Nat) (h : askOn p m = .goroutine m' i) : m.world.drawn ≤ m'.world.drawn := by
  unfold askOn at h
  simp only [] at h
  repeat' first
    | (simp at h; done)
    | split at h
  all_goals
    simp only [Move.machine.injEq, Stepped.next.injEq, Move.goroutine.injEq] at h
    obtain ⟨rfl, _⟩ := h
    have h1 := ok_le ‹Sem.run p _ m.world = Result.ok _ _›
    first
      | exact h1
      | (have hc := ok_le ‹Sem.run p (choose (.extern "clock.wait" _)) _ = Result.ok _ _›
         have h1 := Nat.le_trans h1 hc
         first
           | exact h1
           | (have hs := ok_le ‹Sem.run p (choose (.sched _)) _ = Result.ok _ _›
              have h1 := Nat.le_trans h1 hs
              first
                | exact h1
                | (have hl := ok_le ‹Sem.run p (choose (.extern "sched.slice" 65536)) _ = Result.ok _ _›
                   exact Nat.le_trans h1 hl)))
      | (have hs := ok_le ‹Sem.run p (choose (.sched _)) _ = Result.ok _ _›
         have h1 := Nat.le_trans h1 hs
         first
           | exact h1
           | (have hl := ok_le ‹Sem.run p (choose (.extern "sched.slice" 65536)) _ = Result.ok _ _›
              exact Nat.le_trans h1 hl))
theorem ask_le' (p : Program) (m m' : Machine) (h : (∃ i, ask p m = .goroutine m' i) ∨ ∃ ops, ask p m = .machine (.next m') ops) : m.world.drawn ≤ m'.world.drawn := by
  have key : ∀ m1 : Machine, m.world.drawn ≤ m1.world.drawn → ((∃ i, askOn p m1 = .goroutine m' i) ∨ ∃ ops, askOn p m1 = .machine (.next m') ops) → m.world.drawn ≤ m'.world.drawn := fun m1 h1 h => by
    rcases h with ⟨i, h⟩ | ⟨ops, h⟩
    · exact Nat.le_trans h1 (askOn_go p m1 m' i h)
    · exact Nat.le_trans h1 (askOn_le p m1 m' ops h)
  unfold ask at h
  split at h
  · split at h
    · rcases h with ⟨i, h⟩ | ⟨ops, h⟩ <;> simp at h
    · rename_i hr
      have h1 := ok_le hr
      split at h
      · rename_i hl
        exact key _ (Nat.le_trans h1 (look_le _ _ _ _ _ hl)) h
      · rename_i hl
        rcases h with ⟨i, h⟩ | ⟨ops, h⟩
        · simp at h
        · simp only [Move.machine.injEq] at h
          exact Nat.le_trans h1 (look_le _ _ _ _ _ h.1)
    · exact key _ (ok_le ‹Sem.run p _ _ = Result.ok _ _›) h
  · exact key m (Nat.le_refl _) h
theorem move_le (p : Program) (m m' : Machine) (h : (∃ i, move p m = .goroutine m' i) ∨ ∃ ops, move p m = .machine (.next m') ops) : m.world.drawn ≤ m'.world.drawn := by
  unfold move at h
  split at h
  · split at h
    · rcases h with ⟨i, h⟩ | ⟨ops, h⟩
      · simp only [Move.goroutine.injEq] at h
        rw [← h.1]
        exact Nat.le_refl _
      · simp at h
    · rcases h with ⟨i, h⟩ | ⟨ops, h⟩ <;> simp at h
  · split at h
    · split at h
      · rcases h with ⟨i, h⟩ | ⟨ops, h⟩
        · simp only [Move.goroutine.injEq] at h
          rw [← h.1]
          exact Nat.le_refl _
        · simp at h
      · exact ask_le' p { m with rest := { m.rest with slice := none } } m' h
    · exact ask_le' p m m' h
theorem step_le (p : Program) (m m' : Machine) (h : step p m = .next m') : m.world.drawn ≤ m'.world.drawn := by
  unfold step stepT at h
  cases hm : move p m with
  | goroutine m1 i =>
    rw [hm] at h
    exact Nat.le_trans (move_le p m m1 (.inl ⟨i, hm⟩)) (runT_le' p m1 m' i true h)
  | machine s ops =>
    rw [hm] at h
    simp only at h
    subst h
    exact move_le p m m' (.inr ⟨ops, hm⟩)
theorem runN_le (p : Program) : ∀ (n : Nat) (m m' : Machine), runN p n m = .next m' → m.world.drawn ≤ m'.world.drawn
  | 0, m, m', h => by
    simp only [runN, Stepped.next.injEq] at h
    subst h
    exact Nat.le_refl _
  | n + 1, m, m', h => by
    rw [runN] at h
    split at h
    · rename_i h1
      exact Nat.le_trans (step_le p m _ h1) (runN_le p n _ m' h)
    · rename_i h1
      exact absurd h (h1 m')
theorem steps_le {p : Program} {m m' : Machine} (h : Steps p m m') : m.world.drawn ≤ m'.world.drawn := by
  obtain ⟨n, h⟩ := h
  exact runN_le p n m m' h
theorem calls_drawn {P : Program} {f : FuncId} {args : Array Value} {w : World} {R : Ending → World → Prop} (h : Calls P f args w R) (ho : ∀ w', ¬ R .outgrown w') : Calls P f args w fun e w' => R e w' ∧ w.drawn ≤ w'.drawn := by
  intro cs
  obtain ⟨e, w', fr, h1, h2, h3⟩ := h cs
  refine ⟨e, w', fr, ⟨h1, ?_⟩, h2, h3⟩
  cases e with
  | returned v => exact steps_le h2
  | panicked c => exact steps_le h2
  | outgrown => exact absurd h1 (ho w')
end Go.Proofs.YtjbcfpkibnhodaaGreatDoor.Drw
