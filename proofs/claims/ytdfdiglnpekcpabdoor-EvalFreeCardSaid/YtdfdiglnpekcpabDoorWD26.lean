/-
  slices.Clone: a row of its own. eval.Sets, proctorref16.Sets. proctorref13: expressions. core.trans, from the inside: whole. proctorref13.Kind. core.trans, from the inside: set. core.trans, from the inside: one, and all. core.trans. core, proctorref13: arguments, symbols. proctorref13: symbols. core.symbols. proctorref13.symbol. proctorref13.symbols. core, proctorref13: names; few; Plain. core.head, proctorref13.names. Expressions: that the code's and the reference's are the same, where kinds are. Whole expressions: the code's and the reference's. proctorref13.trans. Which automata may be: that the code's and the reference's answers are the same. proctorref13.Few. core.Right, proctorref13.Right; the law CoreRight, awake. No claim is proved here.
-/
import Derived.Test.YtdfdiglnpekcpabDoorWK6
import Derived.Deep.Cut
import Derived.Outline
import Derived.WalkSpells
import Derived.Test.YtdfdiglnpekcpabDoorWV9
import Derived.Test.YtdfdiglnpekcpabDoorWD8
namespace Go.Proofs.YtdfdiglnpekcpabDoor.Ab
open Go Go.RowKit
set_option linter.unusedSimpArgs false
set_option maxHeartbeats 4000000
set_option maxRecDepth 100000
variable {G : Nat → Option AV}
theorem clone_nil (w : World) (cap : Nat) : Calls Tryd.prog 48 #[.slice none 0 cap] w fun e w' => e = .returned (.slice none 0 0) ∧ w' = w := by
  have hq := fun (w : World) => Lib.run_eql_slice_nil (P := Tryd.prog) w 37 46 none 0 cap 0 0 Tryd.underlying37
  go_enter Tryd.func48, Tryd.ntmps48
  go_wp2
  go_ret
  exact ⟨rfl, rfl⟩
theorem clone_hc (vals : List Val) (hl : vals.length ≤ 1000000) : HeapC Tryd.prog G n_slices_Clone_api_Value_api_Value [valsV vals] [] (.arr 1000 0 vals.length) [(1000, ⟨true, t_api_Value, 4, vals.map valV⟩)] := by
  intro w F nm vs hg ha hB
  obtain ⟨hs, hr⟩ := ha
  obtain ⟨l⟩ := vs
  match l, hs with
  | [v], _ =>
    have h0 := hr 0 _ v rfl rfl
    clear hr
    have key : (∃ cap, v = .slice none 0 cap ∧ vals = []) ∨ ∃ a n cap, v = .slice (some a) n cap := by
      generalize hz : valsV vals = z at h0
      unfold valsV at hz
      cases h0 with
      | seq0 _ _ a cap =>
        cases a with
        | none => simp only [AV.seq.injEq, List.map_eq_nil_iff, true_and] at hz; exact .inl ⟨cap, rfl, hz.2⟩
        | some a => exact .inr ⟨a, 0, cap, rfl⟩
      | seq => exact .inr ⟨_, _, _, rfl⟩
      | _ => cases hz
    rcases key with ⟨cap, rfl, rfl⟩ | ⟨a, n, cap, rfl⟩
    · refine (clone_nil w cap).mono ?_
      rintro e w' ⟨rfl, rfl⟩
      refine ⟨_, F, fun _ => none, rfl, fun _ h => h, fun _ h => .inl h, hg.1, .arrN _ _, ⟨fun i b hi => ?_, fun i j b c m m' _ _ h1 => (by cases h1), fun i b m _ h1 => (by cases h1)⟩, fun i b hi => (by simp [hget] at hi), fun k hk => ?_, ⟨rfl, rfl, rfl, Nat.le_refl _⟩, fun _ _ _ => rfl⟩
      · simp only [hget] at hi
        split at hi
        · cases hi
          exact .inl ⟨rfl, rfl, rfl, by decide⟩
        · cases hi
      · obtain ⟨i, b, m, _, h1, _⟩ := hk
        cases h1
    · have hq := fun (w : World) => Lib.run_eql_slice_nil (P := Tryd.prog) w 37 46 (some a) n cap 0 0 Tryd.underlying37
      have hL : (List.map valV vals).length = vals.length := by simp
      have hrun : run Tryd.prog G (fun _ => False) (.reg [⟨some 5, .mkrow t_api_Value 4 0 (.agg [.int .i64 0, .int .i64 0, .str [], .bool false]) [], none⟩, ⟨some 6, .mov (.t 0), none⟩, ⟨some 7, .app t_api_Value 4 40 (.t 5) (.t 6), none⟩, ⟨some 2, .mov (.t 7), none⟩] [2])
          [.cut fun st => st = ⟨8, [(2, .arr 5 0 vals.length)], [(5, ⟨true, t_api_Value, 4, vals.map valV⟩)]⟩] ⟨8, [(0, valsV vals)], []⟩ := by
        have hb : vals.length * 40 ≤ 140737488355328 := by omega
        (try (simp -implicitDefEqProofs only [go_sem, Nat.reduceAdd, Nat.reduceSub, Nat.reduceMul, Nat.reduceLT, Nat.reduceLeDiff, Nat.reduceEqDiff, Nat.reduceBEq, Int.reduceNeg, Int.reduceAdd, Int.reduceLT, Int.reduceLE, Int.reduceToNat, Int.reduceEq, Int.reduceNe, Int.reduceBEq, Int.reduceBNe, Int.reduceMul, Int.reduceSub, reduceIte, reduceCtorEq, valsV, List.length_map, hb])); repeat' ((first | refine at_guard (fun hb => ?_) (fun hb => ?_) | refine ⟨fun hb => ?_, fun hb => ?_⟩ | fail) <;> (try (simp -implicitDefEqProofs only [go_sem, Nat.reduceAdd, Nat.reduceSub, Nat.reduceMul, Nat.reduceLT, Nat.reduceLeDiff, Nat.reduceEqDiff, Nat.reduceBEq, Int.reduceNeg, Int.reduceAdd, Int.reduceLT, Int.reduceLE, Int.reduceToNat, Int.reduceEq, Int.reduceNe, Int.reduceBEq, Int.reduceBNe, Int.reduceMul, Int.reduceSub, reduceIte, reduceCtorEq, valsV, List.length_map, hb])))
      have hrel : Rel G ⟨w, F, fun _ => False, fun _ => False, nm⟩ ⟨8, [(0, valsV vals)], []⟩ { tmps := #[.slice (some a) n cap, undef, .slice none 0 0, .slice (some a) n cap, .bool false, undef, undef, undef], defers := [] } w := by
        refine ⟨nm, F, rfl, rfl, fun t => ?_, fun i b hi => by simp [hget] at hi, fun i j b c m m' hi => by simp [hget] at hi, fun i b m hi => by simp [hget] at hi, fun i b m hi => by simp [hget] at hi, hg, fun _ h => h, fun _ h => .inl h, ⟨rfl, rfl, rfl, Nat.le_refl _, fun _ _ _ => rfl⟩, fun _ h => h.elim⟩
        simp only [St.get, eget]
        split
        · rename_i e; subst e; exact h0
        · exact .top _ _
      go_enter Tryd.func48, Tryd.ntmps48
      go_upto_region 3 with (fail)
      rename_i K hK
      refine wp_mono (awp_sound _ _ _ _ _ _ (by kernel_rfl) hrun hrel) (fun e a' w' hq => ?_)
      cases e with
      | normal =>
        obtain ⟨st', hst, nm1, F1, hx⟩ := hq
        have hst : st' = ⟨8, [(2, .arr 5 0 vals.length)], [(5, ⟨true, t_api_Value, 4, vals.map valV⟩)]⟩ := hst
        subst hst
        refine hK _ _ (wp_ret (bodyPost_ret (results_tmp rfl _ _ _) hx.df ?_))
        have hv := hx.env 2
        refine ⟨_, F1, fun i => if i = 1000 then nm1 5 else none, rfl, hx.f0, fun b hb => ?_, hx.good.1, ?_, ⟨fun i b hi => ?_, fun i j b c m m' hi hj _ _ _ => ?_, fun i b m hi hm => ?_⟩, fun i b hi => (by simp [hget] at hi), fun k hk => ?_, ⟨hx.keep.os, hx.keep.tape, hx.keep.output, hx.keep.size⟩, fun k hk _ => hx.keep.block k hk (fun h => h)⟩
        · rcases hx.fb b hb with h | h | h
          · exact .inl h
          · exact .inr (.inl h)
          · exact h.elim
        · have hv : Rd w' F1 nm1 (.arr 5 0 vals.length) (a'.tmps.getD 2 undef) := hv
          generalize a'.tmps.getD 2 undef = z at hv ⊢
          generalize hk : vals.length = k at hv ⊢
          cases hv with
          | arr _ _ _ _ m hi hn hp => exact .arr _ _ _ _ m (by simp [hi]) hn hp
          | arrE _ _ _ _ _ h => omega
          | arrN => exact .arrN _ _
        · simp only [hget] at hi
          split at hi
          · rename_i e; subst e; cases hi
            rcases hx.box 5 _ rfl with ⟨h1, h2, h3, h4⟩ | ⟨m, hm, hli⟩
            · exact .inl ⟨by simp [h1], h2, h3, h4⟩
            · refine .inr ⟨m, by simp [hm], ?_⟩
              rcases hli with hli | hli
              · exact .inl hli
              · exact .inr hli
          · cases hi
        · simp only [hget] at hi hj
          split at hi
          · split at hj
            · rename_i e1 e2; rw [← e1, ← e2]
            · cases hj
          · cases hi
        · simp only [hget] at hi
          split at hi
          · rename_i e; subst e
            simp only [if_true] at hm
            exact hx.fr 5 _ m rfl hm
          · cases hi
        · obtain ⟨i, b, m, hi, hm, rfl⟩ := hk
          simp only [hget] at hi
          split at hi
          · rename_i e; subst e
            simp only [if_true] at hm
            rcases hx.own 5 _ m rfl hm with h | h
            · exact .inl h
            · exact h.elim
          · cases hi
      | exit i => obtain ⟨st', h1, _⟩ := hq; exact (h1 : False).elim
      | ret => obtain ⟨st', h1, _⟩ := hq; exact (h1 : False).elim
      | goto l => exact hq.elim
      | panic ch => exact hq.elim
      | outgrown => exact hq.elim
end Go.Proofs.YtdfdiglnpekcpabDoor.Ab
namespace Go.Proofs.YtdfdiglnpekcpabDoor.Ab
open Go Go.RowKit
set_option linter.unusedSimpArgs false
set_option maxHeartbeats 4000000
set_option maxRecDepth 100000
variable {G : Nat → Option AV}
theorem aiaddr_row {H : List (Nat × Box)} {i n f : Nat} {b : Box} (h : hget H i = some b) (hs : b.sz = 4) (hf : f < n) : aiaddr H 4 (.arr i 0 n) (.int .i64 (f : Int)) = some (.ref i f 0) := by
  rw [aiaddr_arr hf, h]
  simp [hs]
end Go.Proofs.YtdfdiglnpekcpabDoor.Ab
namespace Go.Proofs.YtdfdiglnpekcpabDoor.Ab
open Go
set_option linter.unusedSimpArgs false
set_option maxHeartbeats 4000000
variable {G : Nat → Option AV}
end Go.Proofs.YtdfdiglnpekcpabDoor.Ab
namespace Go.Proofs.YtdfdiglnpekcpabDoor.Ab
open Go
set_option linter.unusedSimpArgs false
set_option maxHeartbeats 4000000
variable {G : Nat → Option AV}
/-- Rows and variables that are there. -/
def subH (heap : List (Nat × Box)) : List (Nat × Box) → Prop
  | [] => True
  | (i, b) :: r => hget heap i = some b ∧ subH heap r
theorem subH.at {heap : List (Nat × Box)} : ∀ {H : List (Nat × Box)}, subH heap H → ∀ i b, hget H i = some b → hget heap i = some b
  | [], _, i, b, h => by simp [hget] at h
  | (j, c) :: r, hs, i, b, h => by
    simp only [hget] at h
    split at h
    · rename_i e; subst e; cases h; exact hs.1
    · exact hs.2.at i b h
end Go.Proofs.YtdfdiglnpekcpabDoor.Ab
namespace Go.Proofs.YtdfdiglnpekcpabDoor.Ab
open Go
set_option linter.unusedSimpArgs false
set_option maxHeartbeats 4000000
variable {G : Nat → Option AV}
end Go.Proofs.YtdfdiglnpekcpabDoor.Ab
namespace Go.Proofs.YtdfdiglnpekcpabDoor.Ab
open Go
set_option linter.unusedSimpArgs false
set_option maxHeartbeats 4000000
variable {G : Nat → Option AV}
def mid {α : Type} (l : List α) (a b : Int) : List α := (l.drop a.toNat).take (b.toNat - a.toNat)
end Go.Proofs.YtdfdiglnpekcpabDoor.Ab
namespace Go.Proofs.YtdfdiglnpekcpabDoor.Ab
open Go
set_option linter.unusedSimpArgs false
set_option maxHeartbeats 4000000
variable {G : Nat → Option AV}
end Go.Proofs.YtdfdiglnpekcpabDoor.Ab
namespace Go.Proofs.YtdfdiglnpekcpabDoor.Ab
open Go
set_option linter.unusedSimpArgs false
set_option maxHeartbeats 4000000
variable {G : Nat → Option AV}
end Go.Proofs.YtdfdiglnpekcpabDoor.Ab
namespace Go.Proofs.YtdfdiglnpekcpabDoor.Ab
open Go
set_option linter.unusedSimpArgs false
set_option maxHeartbeats 4000000
variable {G : Nat → Option AV}
end Go.Proofs.YtdfdiglnpekcpabDoor.Ab
namespace Go.Proofs.YtdfdiglnpekcpabDoor.Ab
open Go
set_option linter.unusedSimpArgs false
set_option maxHeartbeats 4000000
variable {G : Nat → Option AV}
end Go.Proofs.YtdfdiglnpekcpabDoor.Ab
namespace Go.Proofs.YtdfdiglnpekcpabDoor.Ab
open Go
set_option linter.unusedSimpArgs false
set_option maxHeartbeats 4000000
variable {G : Nat → Option AV}
end Go.Proofs.YtdfdiglnpekcpabDoor.Ab
namespace Go.Proofs.YtdfdiglnpekcpabDoor.Ab
open Go
set_option linter.unusedSimpArgs false
set_option maxHeartbeats 4000000
variable {G : Nat → Option AV}
end Go.Proofs.YtdfdiglnpekcpabDoor.Ab
namespace Go.Proofs.YtdfdiglnpekcpabDoor.Ab
open Go
set_option linter.unusedSimpArgs false
set_option maxHeartbeats 4000000
variable {G : Nat → Option AV}
end Go.Proofs.YtdfdiglnpekcpabDoor.Ab
namespace Go.Proofs.YtdfdiglnpekcpabDoor.Ab
open Go
set_option linter.unusedSimpArgs false
set_option maxHeartbeats 4000000
variable {G : Nat → Option AV}
/-- The names of variables, and of states. -/
def QeaT.vars (q : QeaT) : List Str := q.quants.map (·.name) ++ q.frees.map (·.name)
end Go.Proofs.YtdfdiglnpekcpabDoor.Ab
namespace Go.Proofs.YtdfdiglnpekcpabDoor.Ab
open Go
set_option linter.unusedSimpArgs false
end Go.Proofs.YtdfdiglnpekcpabDoor.Ab
namespace Go.Proofs.YtdfdiglnpekcpabDoor.Ab
open Go
set_option linter.unusedSimpArgs false
end Go.Proofs.YtdfdiglnpekcpabDoor.Ab
namespace Go.Proofs.YtdfdiglnpekcpabDoor.Ab
open Go
set_option linter.unusedSimpArgs false
set_option maxHeartbeats 4000000
variable {G : Nat → Option AV}
end Go.Proofs.YtdfdiglnpekcpabDoor.Ab
namespace Go.Proofs.YtdfdiglnpekcpabDoor.Ab
open Go
set_option linter.unusedSimpArgs false
end Go.Proofs.YtdfdiglnpekcpabDoor.Ab
namespace Go.Proofs.YtdfdiglnpekcpabDoor.Ab
open Go
set_option linter.unusedSimpArgs false
set_option maxHeartbeats 4000000
variable {G : Nat → Option AV}
end Go.Proofs.YtdfdiglnpekcpabDoor.Ab
namespace Go.Proofs.YtdfdiglnpekcpabDoor.Ab
open Go
set_option linter.unusedSimpArgs false
set_option maxHeartbeats 4000000
variable {G : Nat → Option AV}
end Go.Proofs.YtdfdiglnpekcpabDoor.Ab
