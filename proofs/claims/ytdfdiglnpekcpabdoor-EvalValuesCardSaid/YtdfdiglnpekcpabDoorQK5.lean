/-
  eval.frame.run, errors.As, errors.Is, errno: contracts. No claim is proved here.
-/
import Derived.Test.YtdfdiglnpekcpabDoorQV8
import Derived.Test.YtdfdiglnpekcpabDoorQK4
import Derived.Laws.Rows
import Derived.Deep.Heap
namespace Go.Proofs.YtdfdiglnpekcpabDoor.Ab
open Go Go.RowKit
set_option linter.unusedSimpArgs false
set_option maxHeartbeats 4000000
set_option maxRecDepth 100000
variable {G : Nat → Option AV}
theorem good_below {w w' : World} {F : Nat → Prop} (hg : Good w F G) {n : Nat} (hn : w.heap.size ≤ n) (hb : Below n w w') : Good w' F G :=
  hg.mono (fun b h => hb.block b (Nat.lt_of_lt_of_le (hg.1 b h) hn)) (fun _ h => h) fun b h => Nat.lt_of_lt_of_le (hg.1 b h) hb.size
theorem argsR_below {w w' : World} {F : Nat → Prop} {args : List AV} {vs : Array Value} (hg : Good w F G) {n : Nat} (hn : w.heap.size ≤ n) (hb : Below n w w') (h : ArgsR w F args vs) : ArgsR w' F args vs :=
  ⟨h.1, fun j c u hc hu => (h.2 j c u hc hu).mono (fun b hF => hb.block b (Nat.lt_of_lt_of_le (hg.1 b hF) hn)) fun _ h => h⟩
/-- Of a walk that hands back a value without pointers. -/
theorem PureC.of_calls {P : Program} {f : Nat} {args : List AV} {r : AV} (h : ∀ (w : World) (F : Nat → Prop) (vs : Array Value), Good w F G → ArgsR w F args vs → ∃ v, (∀ W F nm, Rd W F nm r v) ∧ Calls P f vs w fun e w' => e = .returned v ∧ Below w.heap.size w w') : PureC P G f args r := by
  intro w F vs hg ha
  obtain ⟨v, hr, hc⟩ := h w F vs hg ha
  refine hc.mono ?_
  rintro e w' ⟨rfl, hb⟩
  exact ⟨v, F, rfl, fun _ h => h, fun _ h => .inl h, fun b h => Nat.lt_of_lt_of_le (hg.1 b h) hb.size, hr _ _ _, hb⟩
theorem rd_tup2 {a b : AV} {x y : Value} {W : World} {F : Nat → Prop} {nm : Names} (h1 : Rd W F nm a x) (h2 : Rd W F nm b y) : Rd W F nm (.tup [a, b]) (.tuple #[x, y]) := by
  refine Rd.tup _ [_, _] [_, _] rfl fun j c u hc hu => ?_
  match j, hc, hu with
  | 0, hc, hu => cases hc; cases hu; exact h1
  | 1, hc, hu => cases hc; cases hu; exact h2
theorem rd_val_mk (v : Val) (W : World) (F : Nat → Prop) (nm : Names) : Rd W F nm (valV v) (.agg #[.int .i64 v.kind, .int .i64 v.int, .string ⟨v.str.toArray⟩, .bool v.bool]) := by
  refine Rd.agg _ [_, _, _, _] [_, _, _, _] rfl fun j c u hc hu => ?_
  match j, hc, hu with
  | 0, hc, hu => cases hc; cases hu; exact .int _ _ _
  | 1, hc, hu => cases hc; cases hu; exact .int _ _ _
  | 2, hc, hu => cases hc; cases hu; exact .str _ _
  | 3, hc, hu => cases hc; cases hu; exact .bool _ _
theorem run_pc {q : QeaT} {b : List SlotT} {vals : List Val} {i : Nat} (h : NodeC G q b vals i) :
    ((ev q b vals i).2 = 0 → PureC Tryd.prog G n_eval_frame_run [frameV q b vals, iv i] (.tup [valV (ev q b vals i).1, .nili])) ∧
    (¬ (ev q b vals i).2 = 0 → ∃ a, PureC Tryd.prog G n_eval_frame_run [frameV q b vals, iv i] (.tup [valV v0, wrongV a (ev q b vals i).2])) := by
  refine ⟨fun h0 => ?_, fun h0 => ?_⟩
  · have hn := h.1 h0
    generalize (ev q b vals i).1 = v at *
    refine PureC.of_calls fun w F vs hg ha => ⟨_, fun W F nm => rd_tup2 (rd_val_mk v W F nm) (.nili _), ?_⟩
    obtain ⟨x, y, rfl, h1, h2⟩ := argsR_two ha
    cases h2
    obtain ⟨us, rfl, hl, hr⟩ := rd_agg h1
    match us, hl with
    | [u0, u1, u2, u3, u4, u5, u6, u7, u8, u9, u10], _ =>
      refine run_walk_ok u0 u1 u2 u3 u4 u5 u6 u7 u8 u9 u10 i w v.kind v.int ⟨v.str.toArray⟩ v.bool fun W hb => ?_
      refine (hn W F _ (good_below hg (Nat.le_refl _) hb) (argsR_below hg (Nat.le_refl _) hb ha)).mono ?_
      rintro e w' ⟨v', F', rfl, _, _, _, hrd, hb'⟩
      obtain rfl := rd_val hrd
      exact ⟨rfl, hb'⟩
  · obtain ⟨a, hn⟩ := h.2 h0
    generalize (ev q b vals i).2 = e at *
    refine ⟨a, PureC.of_calls fun w F vs hg ha => ⟨_, fun W F nm => rd_tup2 (rd_val_mk v0 W F nm) (rd_wrong W F nm a e), ?_⟩⟩
    obtain ⟨x, y, rfl, h1, h2⟩ := argsR_two ha
    cases h2
    obtain ⟨us, rfl, hl, hr⟩ := rd_agg h1
    match us, hl with
    | [u0, u1, u2, u3, u4, u5, u6, u7, u8, u9, u10], _ =>
      refine run_walk_err u0 u1 u2 u3 u4 u5 u6 u7 u8 u9 u10 i w a e fun W hb => ?_
      refine (hn W F _ (good_below hg (Nat.le_refl _) hb) (argsR_below hg (Nat.le_refl _) hb ha)).mono ?_
      rintro ev w' ⟨v', rfl, hrd, hb'⟩
      have := hrd W F noNames
      cases this with
      | iface _ _ _ u h =>
        obtain ⟨us, rfl, hl, hr⟩ := rd_agg h
        match us, hl with
        | [p, r], _ =>
          have h0 := hr 0 _ p rfl rfl
          have h1 := hr 1 _ r rfl rfl
          cases h0
          cases h1 with
          | iface _ _ _ z hz =>
            cases hz
            exact ⟨rfl, hb'⟩
/-- What the variable that errors.As writes holds. -/
def wrongH (c : AV) : List (Nat × Box) := [(1003, ⟨false, t_eval_wrong, 2, [c]⟩)]
def errG (G : Nat → Option AV) : Prop := G 0 = some (.iface 205 (.agg [.rawp 7 92]))
theorem err_cell {w : World} {F : Nat → Prop} (hg : Good w F G) (h : errG G) : w.cell? ⟨0, 0, none⟩ = some (.iface tRt (rtp tErr)) := by
  obtain ⟨h1, _⟩ := hg.2 0 _ h
  cases h1 with
  | eptr _ _ _ _ _ u hF hw h1 h =>
    have e1 := hw 0 (by simp [AV.cells])
    have e2 := h 0 _ rfl
    generalize u 0 = z at *
    cases e2 with
    | iface _ _ _ y hy =>
      obtain ⟨us, rfl, hl, hr⟩ := rd_agg hy
      match us, hl with
      | [x], _ =>
        have h0 := hr 0 _ x rfl rfl
        cases h0
        simpa using e1
theorem as_nil_hc (c : AV) : HeapC Tryd.prog G n_errors_As [.nili, .iface t_Peval_wrong (.ref 1003 0 0)] (wrongH c) (.bool false) (wrongH c) := by
  intro w F nm vs hg ha hB
  obtain ⟨hs, hr⟩ := ha
  obtain ⟨l⟩ := vs
  match l, hs with
  | [x, y], _ =>
    have h0 := hr 0 _ x rfl rfl
    cases h0
    refine (as_nil y w).mono ?_
    rintro e w' ⟨rfl, rfl⟩
    exact ⟨_, F, nm, rfl, fun _ h => h, fun _ h => .inl h, hg.1, .bool _ _, hB, fun i b hi hr => ⟨rfl, fun b' hb' => by rw [hi] at hb'; cases hb'; exact hr⟩, fun k hk => .inr hk, ⟨rfl, rfl, rfl, Nat.le_refl _⟩, fun _ _ _ => rfl⟩
theorem as_hit_hc (hG : errG G) (a e : Int) : HeapC Tryd.prog G n_errors_As [wrongV a e, .iface t_Peval_wrong (.ref 1003 0 0)] (wrongH (.agg [iv 0, .nili])) (.bool true) (wrongH (.agg [iv a, .iface t_api_Errno (iv e)])) := by
  intro w F nm vs hg ha hB
  obtain ⟨hs, hr⟩ := ha
  obtain ⟨l⟩ := vs
  match l, hs with
  | [x, y], _ =>
    have h0 := hr 0 _ x rfl rfl
    have h1 := hr 1 _ y rfl rfl
    clear hr hs
    cases h0 with
    | iface _ _ _ u hu =>
      obtain ⟨us, rfl, hl, hr⟩ := rd_agg hu
      match us, hl with
      | [p, r], _ =>
        have g0 := hr 0 _ p rfl rfl
        have g1 := hr 1 _ r rfl rfl
        clear hr hu
        cases g0
        cases g1 with
        | iface _ _ _ z hz =>
          cases hz
          cases h1 with
          | iface _ _ _ z hz =>
            cases hz with
            | ref _ _ _ _ m hi =>
              rcases hB.box 1003 _ rfl with ⟨hn, _⟩ | ⟨m', hm', hlies⟩
              · rw [hi] at hn; cases hn
              · rw [hi] at hm'
                cases hm'
                obtain ⟨k1, k2, k3, cs, k4, k5, k6, k7, k8, k9⟩ := hlies.v (by simp)
                have k1' : m.sz = 2 := k1
                have k2' : m.ty = t_eval_wrong := k2
                obtain ⟨u0, c0, _, _⟩ := k9 0 _ 0 (iv 0) rfl rfl
                obtain ⟨u1, c1, _, _⟩ := k9 0 _ 1 .nili rfl rfl
                rw [k1'] at c0 c1 k5
                simp only [Nat.zero_mul, Nat.zero_add] at c0 c1 ⊢
                have hlt := (Array.getElem?_eq_some_iff.1 k4).1
                have d0 : w.cell? ⟨m.g, 0, none⟩ = some u0 := by simp [World.cell?, k4, c0]
                have d1 : w.cell? ⟨m.g, 1, none⟩ = some u1 := by simp [World.cell?, k4, c1]
                have f0 : w.frozen? ⟨m.g, 0, none⟩ = false := by simp [World.frozen?, k4]
                have f1 : w.frozen? ⟨m.g, 1, none⟩ = false := by simp [World.frozen?, k4]
                refine (as_hit m.g (.int .i64 a) (.iface tE (.int .i64 e)) u0 u1 w rfl rfl (err_cell hg hG) d0 d1 f0 f1).mono ?_
                rintro ev w' ⟨rfl, rfl⟩
                have hb : Below w.heap.size w ((asWorld w m.g (.int .i64 a) (.iface tE (.int .i64 e))).alloc (.cells #[.int .i64 a, .iface tE (.int .i64 e)] tW)) :=
                  ((((Below.refl _ _).alloc (Nat.le_refl _) _).alloc (by simp) _).alloc (by simp; omega) _).alloc (by simp; omega) _
                generalize ((asWorld w m.g (.int .i64 a) (.iface tE (.int .i64 e))).alloc (.cells #[.int .i64 a, .iface tE (.int .i64 e)] tW)) = W at *
                have e4 : W.heap[m.g]? = some (.cells cs m.ty (0, 0)) := by rw [hb.block _ hlt]; exact k4
                have s1 := heap_setCell_same W m.g 0 cs m.ty (.int .i64 a) e4
                have s2 := heap_setCell_same _ m.g 1 _ m.ty (.iface tE (.int .i64 e)) s1
                have hcs : 2 ≤ cs.size := by
                  have := (Array.getElem?_eq_some_iff.1 c1).1
                  omega
                have hc0 : 0 < cs.size := by omega
                have hc1 : 1 < cs.size := by omega
                have q0 : ((cs.setIfInBounds 0 (.int .i64 a)).setIfInBounds 1 (.iface tE (.int .i64 e)))[0 * 2 + 0]? = some (.int .i64 a) := by
                  rw [show 0 * 2 + 0 = 0 from rfl, Array.getElem?_setIfInBounds_ne (by decide), Array.getElem?_setIfInBounds_self_of_lt hc0]
                have q1 : ((cs.setIfInBounds 0 (.int .i64 a)).setIfInBounds 1 (.iface tE (.int .i64 e)))[0 * 2 + 1]? = some (.iface tE (.int .i64 e)) := by
                  rw [show 0 * 2 + 1 = 1 from rfl, Array.getElem?_setIfInBounds_self_of_lt (by simpa using hc1)]
                have old : ∀ k, k < w.heap.size → k ≠ m.g → ((W.setCell ⟨m.g, 0, none⟩ (.int .i64 a)).setCell ⟨m.g, 1, none⟩ (.iface tE (.int .i64 e))).heap[k]? = w.heap[k]? := fun k hk hne => by
                  rw [heap_setCell_other _ _ _ _ hne, heap_setCell_other _ _ _ _ hne, hb.block _ hk]
                have hFg : ∀ b, F b → b ≠ m.g := fun b hF e => hB.fr 1003 _ m rfl hi (e ▸ hF)
                refine ⟨_, F, nm, rfl, fun _ h => h, fun _ h => .inl h, fun b hF => ?_, .bool _ _, ⟨fun i bx hix => ?_, fun i j b c m1 m2 hi1 hj1 h1 h2 h3 => ?_, fun i bx m1 hi1 h1 => ?_⟩, fun i bx hix hrow => ⟨rfl, fun b' hb' => ?_⟩, fun k hk => ?_, ⟨hb.os, hb.tape, hb.output, ?_⟩, fun k hk hO => ?_⟩
                · have := hg.1 b hF
                  have := hb.size
                  simp only [World.setCell, Array.size_modify]
                  omega
                · simp only [wrongH, hget] at hix
                  split at hix
                  · rename_i e3; subst e3
                    cases hix
                    refine .inr ⟨m, hi, .inl ⟨k1', k2, by simp, _, s2, by simpa [k1'] using k5, k6, k7, fun e he => ?_, fun k e j c he hc => ?_⟩⟩
                    · simp only [List.mem_singleton] at he
                      subst he; rfl
                    · match k, he with
                      | 0, he =>
                        cases he
                        rw [k1']
                        match j, hc with
                        | 0, hc => cases hc; exact ⟨.int .i64 a, q0, rfl, .int _ _ _⟩
                        | 1, hc => cases hc; exact ⟨.iface tE (.int .i64 e), q1, rfl, .iface _ _ _ _ (.int _ _ _)⟩
                  · cases hix
                · simp only [wrongH, hget] at hi1 hj1
                  split at hi1
                  · split at hj1
                    · rename_i e1 e2; rw [← e1, ← e2]
                    · cases hj1
                  · cases hi1
                · simp only [wrongH, hget] at hi1
                  split at hi1
                  · rename_i e1; subst e1
                    rw [hi] at h1; cases h1
                    exact hB.fr 1003 _ m rfl hi
                  · cases hi1
                · simp only [wrongH, hget] at hb'
                  split at hb'
                  · cases hb'; rfl
                  · cases hb'
                · obtain ⟨i, bx, m1, hi1, h1, h2⟩ := hk
                  simp only [wrongH, hget] at hi1
                  split at hi1
                  · rename_i e1; subst e1
                    exact .inr ⟨1003, _, m1, rfl, h1, h2⟩
                  · cases hi1
                · simp only [World.setCell, Array.size_modify]
                  exact hb.size
                · exact old k hk fun e => hO ⟨1003, _, m, rfl, hi, e.symm⟩
end Go.Proofs.YtdfdiglnpekcpabDoor.Ab
