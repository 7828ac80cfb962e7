/-
  core.trans, from the inside: one, and all. core.trans. No claim is proved here.
-/
import Derived.Test.YtjbcfpkibnhodaaGreatDoorUD11
namespace Go.Proofs.YtjbcfpkibnhodaaGreatDoor.Ab
open Go
set_option linter.unusedSimpArgs false
set_option maxHeartbeats 4000000
variable {G : Nat → Option AV}
theorem core_all_api_Node_pc (f : Nat) (caps : List AV) (hf : bodyB Tryz.prog f = true) (hcap : OkC caps) (p : Nat → NodeT → Bool) (l : List NodeT) (hp : ∀ (i : Nat) x, l[i]? = some x → PureC Tryz.prog G f (iv i :: nodeV x :: caps) (.bool (p i x))) (hl : l.length < 9223372036854775807) :
    PureC Tryz.prog G n_core_all_api_Node [.seq 7 (l.map nodeV), .fn f caps] (.bool (allI p l)) := by
  refine pc_core_all_api_Node (Runs.of fun Φ h => ?_)
  unfold c_core_all_api_Node
  simp -implicitDefEqProofs only [go_sem, List.length_map]
  refine at_loop (fun n st => ∃ i : Nat, i + n = l.length ∧ st = ⟨20, [(1, .fn f caps), (7, .seq 7 (l.map nodeV)), (8, iv l.length), (9, iv i)], []⟩ ∧ ∀ j x, j < i → l[j]? = some x → p j x = true) l.length ⟨0, by simp, rfl, fun j x hj => by omega⟩ ?_
  rintro I hI n st ⟨i, hi, rfl, hno⟩
  simp -implicitDefEqProofs only [go_sem]
  refine ⟨fun hlt => ?_, fun hge => ?_⟩
  · have hlt' : i < l.length := by omega
    obtain ⟨x, hx, hm⟩ := at_some hlt'
    have hw := wrap_succ hlt' (by omega)
    simp -implicitDefEqProofs only [go_sem, aiaddr_map hx, hcap.purge, nodeV]
    refine ⟨hf, at_call (hp i x hx) (by simp [viewC, flat, viewBs, viewB, viewK, viewK.go, hcap.viewBs, nodeV]) rfl ?_⟩
    cases hpx : p i x
    · simp -implicitDefEqProofs only [go_sem, hcap.purge]
      exact h _ ⟨_, _, rfl, rfl, fitB (allI_false hx hpx).symm⟩
    · simp -implicitDefEqProofs only [go_sem, hw, hcap.purge]
      exact at_again (n - 1) (by omega) (hI _ _ ⟨i + 1, by omega, rfl, fun j y hj hy => by
        by_cases e : j = i
        · subst e; rw [hx] at hy; cases hy; exact hpx
        · exact hno j y (by omega) hy⟩)
  · have : i = l.length := by omega
    subst this
    exact h _ ⟨_, _, rfl, rfl, fitB (allI_true.2 fun i x hx => hno i x (List.getElem?_eq_some_iff.1 hx).1 hx).symm⟩
theorem aslc_mid {α : Type} {e : α → AV} {sz : Nat} {l : List α} {a b : Int} (hs : 0 < sz) (h0 : 0 ≤ a) (h1 : a ≤ b) (h2 : b ≤ l.length) : aslc sz (.seq sz (l.map e)) (some (.int .i64 a)) (some (.int .i64 b)) = some (.seq sz (((l.drop a.toNat).take (b.toNat - a.toNat)).map e)) := by
  simp [aslc, hs, h0, h1, h2, List.map_take, List.map_drop]
def mid {α : Type} (l : List α) (a b : Int) : List α := (l.drop a.toNat).take (b.toNat - a.toNat)
def inR (n : Int) (k : Nat) : Bool := decide (0 ≤ n) && decide (n < k)
def oneRest (q : QeaT) (l : List ExT) (st : SymT → Int → Bool) (t : TransT) (from_ at_ : Int) : Bool × Int :=
  let r := allS (setStep q l t.sets) t.sets 0 at_
  (r.1 && (match at? q.symbols t.symbol with | some s => (mid q.nodes from_ r.2).all fun x => !(x.op == 2) || st s x.a | none => false), r.2)
def oneStep (q : QeaT) (l : List ExT) (st : SymT → Int → Bool) (at_ : Int) (t : TransT) : Bool × Int :=
  if (inR t.from_ q.states.length && (inR t.to_ q.states.length && inR t.symbol q.symbols.length)) = false then (false, at_)
  else if t.guard = -1 then oneRest q l st t at_ at_
  else if wholeS l at_ t.guard 3 = true then oneRest q l st t at_ (t.guard + 1) else (false, at_)
theorem wholeS_le {l : List ExT} {a r k : Int} (h : wholeS l a r k = true) : a ≤ r + 1 ∧ r + 1 ≤ l.length := by
  unfold wholeS at h
  split at h
  · cases h
  · rename_i e he
    obtain ⟨j, rfl, hj⟩ := at?_some he
    have := (List.getElem?_eq_some_iff.1 hj).1
    simp at h
    omega
theorem setStep_le {q : QeaT} {l : List ExT} {sets : List SetT} {a : Int} {i : Nat} {s : SetT} (ha : a ≤ l.length) : a ≤ (setStep q l sets a i s).2 ∧ (setStep q l sets a i s).2 ≤ l.length := by
  unfold setStep
  repeat' split
  all_goals first | exact ⟨Int.le_refl _, ha⟩ | exact wholeS_le ‹_›
theorem allS_le {q : QeaT} {l : List ExT} {sets : List SetT} : ∀ {r : List SetT} {i : Nat} {a : Int}, a ≤ l.length → a ≤ (allS (setStep q l sets) r i a).2 ∧ (allS (setStep q l sets) r i a).2 ≤ l.length
  | [], _, a, h => ⟨Int.le_refl _, h⟩
  | x :: r, i, a, h => by
    have h1 := setStep_le (q := q) (sets := sets) (i := i) (s := x) h
    rw [allS]
    split
    · have := allS_le (q := q) (sets := sets) (r := r) (i := i + 1) h1.2
      omega
    · exact h1
theorem oneStep_le {q : QeaT} {l : List ExT} {st : SymT → Int → Bool} {a : Int} {t : TransT} (ha : 0 ≤ a) (hl : a ≤ l.length) : 0 ≤ (oneStep q l st a t).2 ∧ (oneStep q l st a t).2 ≤ l.length := by
  unfold oneStep oneRest
  split
  · exact ⟨ha, hl⟩
  · split
    · have := allS_le (q := q) (sets := t.sets) (r := t.sets) (i := 0) hl
      dsimp only
      omega
    · split
      · rename_i hw
        have h1 := wholeS_le hw
        have := allS_le (q := q) (sets := t.sets) (r := t.sets) (i := 0) h1.2
        dsimp only
        omega
      · exact ⟨ha, hl⟩
theorem okC_qt (q : QeaT) (t : TransT) : OkC [.eptr (qeaV q) 0, .eptr (transV t) 0] := ⟨fun _ => rfl, fun _ _ => rfl, fun _ => rfl, fun _ _ => rfl, fun _ => rfl, fun _ => rfl⟩
theorem core_trans_2_hc (q : QeaT) (l : List ExT) (hl : l.length ≤ 1000000) (hn : l.length = q.nodes.length) (hs : ∀ s ∈ q.symbols, s.args.length < 9223372036854775807) (t : TransT) (ht : t.sets.length < 9223372036854775807) (at_ : Int) (ha : 0 ≤ at_) (hal : at_ ≤ l.length) (i : Int) :
    HeapC Tryz.prog G n_core_trans_2 [iv i, transV t, .ref 1004 0 0, .ref 1001 0 0, .ref 1005 0 0] [atBox at_, exBox l, whBox, qBox q]
      (.bool (oneStep q l standsS at_ t).1) [atBox (oneStep q l standsS at_ t).2, exBox l, whBox, qBox q] := by
  refine HeapC.of_runs Tryz.func198 k_core_trans_2 rfl (by rfl) (RunsH.of fun Φ h => ?_)
  unfold c_core_trans_2
  have fin : ∀ b A heap, oneStep q l standsS at_ t = (b, A) → subH heap [atBox A, exBox l, whBox, qBox q] → Φ ⟨74, [(7, .bool b)], heap⟩ := fun b A heap hw e => h _ ⟨_, _, Weak.refl _, rfl, fitB (by rw [hw]), by rw [hw]; exact e.at⟩
  clear h
  have hset := fun (a : Int) (h : 0 ≤ a) => core_all_api_Set_hc (G := G) q l hl t ht a h
  have hwh := core_trans_1_hc (G := G) l hl at_ t.guard 3 ha
  simp only [atBox, exBox] at hwh
  by_cases hc : (inR t.from_ q.states.length && (inR t.to_ q.states.length && inR t.symbol q.symbols.length)) = false
  · have hr : oneStep q l standsS at_ t = (false, at_) := by rw [oneStep, if_pos hc]
    have fin' : Φ ⟨74, [(7, .bool false)], _⟩ := fin _ _ ((6, ⟨false, t_api_Trans, 5, [transV t]⟩) :: [atBox at_, exBox l, whBox, qBox q]) hr ⟨rfl, rfl, rfl, rfl, trivial⟩
    obtain ⟨t1, t2, t3, t4, sets⟩ := t
    dsimp only at *
    simp only [inR, Bool.and_eq_false_imp, decide_eq_true_eq, decide_eq_false_iff_not, Bool.and_eq_true] at hc
    repeat' (first | (simp -implicitDefEqProofs only [go_sem, atBox, exBox, whBox, qBox, transV, setsV, qeaV, declsV, quantsV, freesV, statesV, symsV, nodesV, transsV, List.length_map]) | refine at_guard (fun hb => ?_) (fun hb => ?_) | refine ⟨fun hb => ?_, fun hb => ?_⟩ | (refine ⟨by kernel_rfl, at_callH [(1004, 1004), (1003, 1003)] hwh rfl ⟨⟨_, _, rfl, rfl, rfl⟩, ⟨_, _, rfl, rfl, rfl⟩, trivial⟩ rfl rfl rfl ?_⟩) | fail)
    all_goals first | exact fin' | (exfalso; simp at *; omega)
  · have hin : inR t.from_ q.states.length = true ∧ inR t.to_ q.states.length = true ∧ inR t.symbol q.symbols.length = true := by
      rw [Bool.not_eq_false] at hc
      simpa only [Bool.and_eq_true] using hc
    obtain ⟨hi1, hi2, hi3⟩ := hin
    obtain ⟨s, hsy⟩ : ∃ s, at? q.symbols t.symbol = some s := by
      cases h : at? q.symbols t.symbol with
      | some s => exact ⟨s, rfl⟩
      | none =>
        exfalso
        have := at?_none h
        simp [inR] at hi3
        omega
    have hsl : s.args.length < 9223372036854775807 := by
      obtain ⟨j, _, hj⟩ := at?_some hsy
      exact hs s (List.mem_of_getElem? hj)
    simp only [inR, Bool.and_eq_true, decide_eq_true_eq] at hi1 hi2 hi3
    have key : ∀ a1 : Int, 0 ≤ a1 → at_ ≤ a1 → a1 ≤ l.length → oneStep q l standsS at_ t = oneRest q l standsS t at_ a1 → ∀ b A, allS (setStep q l t.sets) t.sets 0 a1 = (b, A) →
        at_ ≤ A ∧ A ≤ q.nodes.length ∧ (b = false → oneStep q l standsS at_ t = (false, A)) ∧ (b = true → oneStep q l standsS at_ t = (allI (fun _ (x : NodeT) => !(x.op == 2) || standsS s x.a) (mid q.nodes at_ A), A)) := by
      intro a1 h1 h2 h3 he b A hb
      have := allS_le (q := q) (sets := t.sets) (r := t.sets) (i := 0) h3
      rw [hb] at this
      rw [he, oneRest, hb, hsy, allI_const]
      dsimp only at *
      refine ⟨by omega, by omega, ?_, ?_⟩
      · rintro rfl; rfl
      · rintro rfl; rfl
    have hall := fun A : Int => core_all_api_Node_pc (G := G) n_core_trans_2_2 [.eptr (qeaV q) 0, .eptr (transV t) 0] (by kernel_rfl) (okC_qt q t) (fun _ x => !(x.op == 2) || standsS s x.a) (mid q.nodes at_ A) (fun i x _ => core_trans_2_2_pc q t s hsy hsl i x) (by simp [mid]; omega)
    by_cases hg : t.guard = -1
    · have he : oneStep q l standsS at_ t = oneRest q l standsS t at_ at_ := by rw [oneStep, if_neg hc, if_pos hg]
      have key := key at_ ha (Int.le_refl _) hal he
      have hset := hset at_ ha
      generalize allS (setStep q l t.sets) t.sets 0 at_ = r at *
      obtain ⟨b, A⟩ := r
      obtain ⟨k1, k2, k3, k4⟩ := key b A rfl
      have hall := hall A
      have hmid := aslc_mid (e := nodeV) (sz := 7) (l := q.nodes) (a := at_) (b := A) (by omega) ha k1 k2
      obtain ⟨t1, t2, t3, t4, sets⟩ := t
      dsimp only at *
      subst hg
      simp only [atBox, exBox, whBox, qBox, tBox, transV, setsV, qeaV, declsV, quantsV, freesV, statesV, symsV, nodesV, transsV] at hset hall
      repeat' (first | (simp -implicitDefEqProofs only [go_sem, atBox, exBox, whBox, qBox, transV, setsV, qeaV, declsV, quantsV, freesV, statesV, symsV, nodesV, transsV, List.length_map, hmid]) | refine at_guard (fun hb => ?_) (fun hb => ?_) | refine ⟨fun hb => ?_, fun hb => ?_⟩ | (refine at_callH [(1004, 1004), (1003, 1003), (1005, 1005), (1001, 1001), (1006, 6)] hset rfl ⟨⟨_, _, rfl, rfl, rfl⟩, ⟨_, _, rfl, rfl, rfl⟩, ⟨_, _, rfl, rfl, rfl⟩, ⟨_, _, rfl, rfl, rfl⟩, ⟨_, _, rfl, rfl, rfl⟩, trivial⟩ rfl rfl rfl ?_) | refine at_call (hall) rfl rfl ?_ | fail)
      all_goals first | exact fin _ _ _ (k4 (by simpa using hb)) ⟨rfl, rfl, rfl, rfl, trivial⟩ | exact fin _ _ _ (k3 (by simpa using hb)) ⟨rfl, rfl, rfl, rfl, trivial⟩ | (exfalso; simp at *; omega)
    · cases hw : wholeS l at_ t.guard 3 with
      | false =>
        have he : oneStep q l standsS at_ t = (false, at_) := by rw [oneStep, if_neg hc, if_neg hg, hw]; rfl
        have fin' : ∀ heap, subH heap [atBox at_, exBox l, whBox, qBox q] → Φ ⟨74, [(7, .bool false)], heap⟩ := fun heap => fin _ _ _ he
        rw [hw] at hwh
        clear hset hall key fin
        obtain ⟨t1, t2, t3, t4, sets⟩ := t
        dsimp only at *
        repeat' (first | (simp -implicitDefEqProofs only [go_sem, atBox, exBox, whBox, qBox, transV, setsV, qeaV, declsV, quantsV, freesV, statesV, symsV, nodesV, transsV, List.length_map]) | refine at_guard (fun hb => ?_) (fun hb => ?_) | refine ⟨fun hb => ?_, fun hb => ?_⟩ | (refine ⟨by kernel_rfl, at_callH [(1004, 1004), (1003, 1003)] hwh rfl ⟨⟨_, _, rfl, rfl, rfl⟩, ⟨_, _, rfl, rfl, rfl⟩, trivial⟩ rfl rfl rfl ?_⟩) | fail)
        all_goals first | exact fin' _ ⟨rfl, rfl, rfl, rfl, trivial⟩ | (exfalso; simp at *; omega)
      | true =>
        have hwl := wholeS_le hw
        have hwp := wholeS_pos ha hw
        have he : oneStep q l standsS at_ t = oneRest q l standsS t at_ (t.guard + 1) := by rw [oneStep, if_neg hc, if_neg hg, if_pos hw]
        have key := key (t.guard + 1) hwp hwl.1 hwl.2 he
        have hset := hset (t.guard + 1) hwp
        rw [hw] at hwh
        generalize allS (setStep q l t.sets) t.sets 0 (t.guard + 1) = r at *
        obtain ⟨b, A⟩ := r
        obtain ⟨k1, k2, k3, k4⟩ := key b A rfl
        have hall := hall A
        have hmid := aslc_mid (e := nodeV) (sz := 7) (l := q.nodes) (a := at_) (b := A) (by omega) ha k1 k2
        obtain ⟨t1, t2, t3, t4, sets⟩ := t
        dsimp only at *
        simp only [atBox, exBox, whBox, qBox, tBox, transV, setsV, qeaV, declsV, quantsV, freesV, statesV, symsV, nodesV, transsV] at hset hall
        repeat' (first | (simp -implicitDefEqProofs only [go_sem, atBox, exBox, whBox, qBox, transV, setsV, qeaV, declsV, quantsV, freesV, statesV, symsV, nodesV, transsV, List.length_map, hmid]) | refine at_guard (fun hb => ?_) (fun hb => ?_) | refine ⟨fun hb => ?_, fun hb => ?_⟩ | (refine ⟨by kernel_rfl, at_callH [(1004, 1004), (1003, 1003)] hwh rfl ⟨⟨_, _, rfl, rfl, rfl⟩, ⟨_, _, rfl, rfl, rfl⟩, trivial⟩ rfl rfl rfl ?_⟩) | (refine at_callH [(1004, 1004), (1003, 1003), (1005, 1005), (1001, 1001), (1006, 6)] hset rfl ⟨⟨_, _, rfl, rfl, rfl⟩, ⟨_, _, rfl, rfl, rfl⟩, ⟨_, _, rfl, rfl, rfl⟩, ⟨_, _, rfl, rfl, rfl⟩, ⟨_, _, rfl, rfl, rfl⟩, trivial⟩ rfl rfl rfl ?_) | refine at_call (hall) rfl rfl ?_ | fail)
        all_goals first | exact fin _ _ _ (k4 (by simpa using hb)) ⟨rfl, rfl, rfl, rfl, trivial⟩ | exact fin _ _ _ (k3 (by simpa using hb)) ⟨rfl, rfl, rfl, rfl, trivial⟩ | (exfalso; simp at *; omega)
end Go.Proofs.YtjbcfpkibnhodaaGreatDoor.Ab
namespace Go.Proofs.YtjbcfpkibnhodaaGreatDoor.Ab
open Go
set_option linter.unusedSimpArgs false
set_option maxHeartbeats 4000000
variable {G : Nat → Option AV}
structure QeaT.Few (q : QeaT) : Prop where
  decls : q.decls.length ≤ 1000000
  types : ∀ d ∈ q.decls, d.types.length ≤ 1000000
  quants : q.quants.length ≤ 1000000
  frees : q.frees.length ≤ 1000000
  states : q.states.length ≤ 1000000
  symbols : q.symbols.length ≤ 1000000
  args : ∀ s ∈ q.symbols, s.args.length ≤ 1000000
  nodes : q.nodes.length ≤ 1000000
  trans : q.trans.length ≤ 1000000
  sets : ∀ t ∈ q.trans, t.sets.length ≤ 1000000
theorem core_all_api_Trans_hc (q : QeaT) (l : List ExT) (hq : q.Few) (hn : l.length = q.nodes.length) :
    HeapC Tryz.prog G n_core_all_api_Trans [transsV q.trans, .fn n_core_trans_2 [.ref 1004 0 0, .ref 1001 0 0, .ref 1005 0 0]] [atBox 0, exBox l, whBox, qBox q]
      (.bool (allS (fun a _ t => oneStep q l standsS a t) q.trans 0 0).1) [atBox (allS (fun a _ t => oneStep q l standsS a t) q.trans 0 0).2, exBox l, whBox, qBox q] := by
  have htl := hq.trans
  refine HeapC.of_runs Tryz.func205 k_core_all_api_Trans rfl (by rfl) (RunsH.of fun Φ h => ?_)
  unfold c_core_all_api_Trans
  have fin : ∀ b A heap, allS (fun a _ t => oneStep q l standsS a t) q.trans 0 0 = (b, A) → subH heap [atBox A, exBox l, whBox, qBox q] → Φ ⟨20, [(4, .bool b)], heap⟩ := fun b A heap hw e => h _ ⟨_, _, Weak.refl _, rfl, fitB (by rw [hw]), by rw [hw]; exact e.at⟩
  clear h
  simp -implicitDefEqProofs only [go_sem, List.length_map, atBox, exBox, whBox, qBox, qeaV, declsV, quantsV, freesV, statesV, symsV, nodesV, transsV]
  refine at_loop (fun n st => ∃ (i : Nat) (a : Int), i + n = q.trans.length ∧ st = ⟨20, [(1, .fn n_core_trans_2 [.ref 1004 0 0, .ref 1001 0 0, .ref 1005 0 0]), (7, transsV q.trans), (8, iv q.trans.length), (9, iv i)], [atBox a, exBox l, whBox, qBox q]⟩ ∧ 0 ≤ a ∧ a ≤ l.length ∧ allS (fun a _ t => oneStep q l standsS a t) q.trans 0 0 = allS (fun a _ t => oneStep q l standsS a t) (q.trans.drop i) i a) q.trans.length ⟨0, 0, by simp, rfl, by omega, by omega, rfl⟩ ?_
  rintro I hI n st ⟨i, a, hi, rfl, hpos, hle, he⟩
  simp -implicitDefEqProofs only [go_sem, List.length_map, atBox, exBox, whBox, qBox, qeaV, declsV, quantsV, freesV, statesV, symsV, nodesV, transsV]
  refine ⟨fun hlt => ?_, fun hge => ?_⟩
  · have hlt' : i < q.trans.length := by omega
    obtain ⟨x, hx, hm⟩ := at_some hlt'
    have hw := wrap_succ hlt' (by omega)
    have hc := core_trans_2_hc (G := G) q l (by have := hq.nodes; omega) hn (fun s hs => by have := hq.args s hs; omega) x (by have := hq.sets x hm; omega) a hpos hle i
    have hsp := oneStep_le (q := q) (st := standsS) (t := x) hpos hle
    rw [allS_step hx] at he
    simp only [atBox, exBox, whBox, qBox, transV, setsV, qeaV, declsV, quantsV, freesV, statesV, symsV, nodesV, transsV] at hc
    try dsimp only at he
    generalize hb : oneStep q l standsS a x = b at *
    obtain ⟨b, A⟩ := b
    dsimp only at *
    have fin1 : b = true → again I n ⟨20, [(1, .fn n_core_trans_2 [.ref 1004 0 0, .ref 1001 0 0, .ref 1005 0 0]), (7, transsV q.trans), (8, iv q.trans.length), (9, iv (i + 1 : Nat))], [atBox A, exBox l, whBox, qBox q]⟩ := fun hb => by
      rw [if_pos hb] at he
      exact at_again (n - 1) (by omega) (hI _ _ ⟨i + 1, A, by omega, rfl, hsp.1, hsp.2, he⟩)
    have fin0 : ∀ heap, b = false → subH heap [atBox A, exBox l, whBox, qBox q] → Φ ⟨20, [(4, .bool false)], heap⟩ := fun heap hb hs => by
      rw [if_neg (by simp [hb])] at he
      exact fin _ _ _ he hs
    repeat' (first | (simp -implicitDefEqProofs only [go_sem, aiaddr_map hx, transV, setsV, hw]) | refine at_guard (fun hb => ?_) (fun hb => ?_) | refine ⟨fun hb => ?_, fun hb => ?_⟩ | (refine ⟨by kernel_rfl, at_callH [(1004, 1004), (1003, 1003), (1005, 1005), (1001, 1001)] hc rfl ⟨⟨_, _, rfl, rfl, rfl⟩, ⟨_, _, rfl, rfl, rfl⟩, ⟨_, _, rfl, rfl, rfl⟩, ⟨_, _, rfl, rfl, rfl⟩, trivial⟩ rfl rfl rfl ?_⟩) | fail)
    all_goals first | exact fin0 _ (by simpa using hb) ⟨rfl, rfl, rfl, rfl, trivial⟩ | exact fin1 (by simpa using hb)
  · rw [allS_end (by omega)] at he
    exact fin _ _ _ he ⟨rfl, rfl, rfl, rfl, trivial⟩
def transC (q : QeaT) (l : List ExT) (st : SymT → Int → Bool) : Bool :=
  let r := allS (fun a _ t => oneStep q l st a t) q.trans 0 0
  r.1 && r.2 == (l.length : Int)
theorem core_trans_pc (q : QeaT) (hq : q.Few) : PureC Tryz.prog G n_core_trans [qeaV q] (.bool (transC q (exprs q) standsS)) := by
  have hln : (exprs q).length = q.nodes.length := exL_length q _ (by omega)
  have hex := core_exprs_pc (G := G) q hq.nodes
  have hall := core_all_api_Trans_hc (G := G) q (exprs q) hq hln
  unfold transC
  generalize allS (fun a _ t => oneStep q (exprs q) standsS a t) q.trans 0 0 = r at *
  obtain ⟨b, A⟩ := r
  refine pc_core_trans (Runs.of fun Φ h => ?_)
  unfold c_core_trans
  dsimp only at *
  simp only [atBox, exBox, whBox, qBox, qeaV, declsV, quantsV, freesV, statesV, symsV, nodesV, transsV] at hall hex
  repeat' (first | (simp -implicitDefEqProofs only [go_sem, qeaV, declsV, quantsV, freesV, statesV, symsV, nodesV, transsV, List.length_map]) | refine at_guard (fun hb => ?_) (fun hb => ?_) | refine ⟨fun hb => ?_, fun hb => ?_⟩ | refine at_call (hex) rfl rfl ?_ | (refine at_callH [(1004, 4), (1003, 3), (1005, 5), (1001, 1)] hall rfl ⟨⟨_, _, rfl, rfl, rfl⟩, ⟨_, _, rfl, rfl, rfl⟩, ⟨_, _, rfl, rfl, rfl⟩, ⟨_, _, rfl, rfl, rfl⟩, trivial⟩ rfl rfl rfl ?_) | fail)
  all_goals (refine h _ ⟨_, _, rfl, rfl, fitB ?_⟩; clear h; simp_all)
end Go.Proofs.YtjbcfpkibnhodaaGreatDoor.Ab
