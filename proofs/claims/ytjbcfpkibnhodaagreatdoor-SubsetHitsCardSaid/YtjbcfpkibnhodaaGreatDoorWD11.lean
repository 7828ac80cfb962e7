/-
  core.trans, from the inside: whole. proctorref13.Kind. core.trans, from the inside: set. No claim is proved here.
-/
import Derived.Test.YtjbcfpkibnhodaaGreatDoorWD9
namespace Go.Proofs.YtjbcfpkibnhodaaGreatDoor.Ab
open Go
set_option linter.unusedSimpArgs false
set_option maxHeartbeats 4000000
variable {G : Nat → Option AV}
def subH (heap : List (Nat × Box)) : List (Nat × Box) → Prop
  | [] => True
  | (i, b) :: r => hget heap i = some b ∧ subH heap r
theorem subH.at {heap : List (Nat × Box)} : ∀ {H : List (Nat × Box)}, subH heap H → ∀ i b, hget H i = some b → hget heap i = some b
  | [], _, i, b, h => by simp [hget] at h
  | (j, c) :: r, hs, i, b, h => by
    simp only [hget] at h
    split at h
    · rename_i e; subst e; cases h; exact hs.1
    · exact hs.2.at i b h
def kindR (q : QeaT) (at_ root : Int) : Int × Int :=
  if (bAt (beL q q.nodes.length) root).kind = 0 ∨ ¬ (bAt (beL q q.nodes.length) root).from_ = at_ then (0, 0) else ((bAt (beL q q.nodes.length) root).kind, (bAt (beL q q.nodes.length) root).depth)
theorem ref13_Kind_pc (q : QeaT) (hl : q.nodes.length ≤ 1000000) (at_ root : Int) : P_ Tryz.prog G n_proctorref13_Kind [qeaV q, iv at_, iv root] (.tup [iv (kindR q at_ root).1, iv (kindR q at_ root).2]) := by
  have hb := ref13_below_pc (G := G) q hl (root.toNat + 1) root (by omega)
  unfold kindR
  generalize bAt (beL q q.nodes.length) root = b at *
  refine pc_proctorref13_Kind (Runs.of fun Φ h => ?_)
  unfold c_proctorref13_Kind
  simp only [ex3, qeaV, d_, q_, f_, s_, s10, n_, t_] at hb
  repeat' (first | (simp -implicitDefEqProofs only [go_sem, qeaV, d_, q_, f_, s_, s10, n_, t_]) | refine ag_ (fun hb => ?_) (fun hb => ?_) | refine ⟨fun hb => ?_, fun hb => ?_⟩ | refine ac_ (hb) rfl rfl ?_ | fail)
  all_goals (refine h _ ⟨_, _, rfl, rfl, fe_ ?_⟩; clear h; simp_all)
def wholeS (l : List ExT) (at_ root kind : Int) : Bool :=
  match at? l root with
  | none => false
  | some e => decide (at_ ≤ root) && (e.kind == kind && (!(kind == 0) && (e.from_ == at_ && decide (e.depth ≤ 64))))
def atBox (n : Int) : Nat × Box := (1004, ⟨false, t_int, 1, [iv n]⟩)
def exBox (l : List ExT) : Nat × Box := (1003, ⟨false, t_Score_expr, 1, [.seq 3 (l.map exV)]⟩)
theorem core_trans_1_hc (l : List ExT) (hl : l.length ≤ 1000000) (at_ root kind : Int) (ha : 0 ≤ at_) :
    HeapC Tryz.prog G n_core_trans_1 [iv root, iv kind, .ref 1004 0 0, .ref 1003 0 0] [atBox at_, exBox l] (.bool (wholeS l at_ root kind)) [atBox (if wholeS l at_ root kind = true then root + 1 else at_), exBox l] := by
  refine HeapC.of_runs Tryz.func197 k_core_trans_1 rfl (by rfl) (RunsH.of fun Φ h => ?_)
  unfold c_core_trans_1
  have fin0 : wholeS l at_ root kind = false → Φ ⟨48, [(6, .bool false)], [atBox at_, exBox l]⟩ := fun hw => h _ ⟨_, _, Weak.refl _, rfl, fitB hw.symm, fun i b hb => by rw [hw] at hb; exact hb⟩
  have fin1 : wholeS l at_ root kind = true → Φ ⟨48, [(6, .bool true)], [atBox (root + 1), exBox l]⟩ := fun hw => h _ ⟨_, _, Weak.refl _, rfl, fitB hw.symm, fun i b hb => by rw [hw] at hb; exact hb⟩
  clear h
  cases hr : at? l root with
  | none =>
    have hw : wholeS l at_ root kind = false := by simp [wholeS, hr]
    have hn := at?_none hr
    repeat' (first | (simp -implicitDefEqProofs only [go_sem, atBox, exBox, List.length_map]) | refine ag_ (fun hb => ?_) (fun hb => ?_) | refine ⟨fun hb => ?_, fun hb => ?_⟩ | fail)
    all_goals first | exact fin0 hw | (exfalso; simp at *; omega)
  | some e =>
    obtain ⟨i, rfl, hi⟩ := at?_some hr
    have hlt := (List.getElem?_eq_some_iff.1 hi).1
    have hww := ws_ hlt (by omega)
    unfold wholeS at fin0 fin1
    rw [hr] at fin0 fin1
    repeat' (first | (simp -implicitDefEqProofs only [go_sem, atBox, exBox, List.length_map, am_ hi, exV, hww]) | refine ag_ (fun hb => ?_) (fun hb => ?_) | refine ⟨fun hb => ?_, fun hb => ?_⟩ | fail)
    all_goals first | refine fin0 ?_ | refine fin1 ?_
    all_goals
      clear fin0 fin1 hww
      try rw [Bool.eq_iff_iff]
      simp at *
      try omega
def s12 (s : SymT) (v : Int) : Bool := s.args.any fun x => (⟨2, v, v0⟩ : ArgT) == x
theorem core_Stands_pc (s : SymT) (hs : s.args.length < 9223372036854775807) (v : Int) : P_ Tryz.prog G n_core_Stands [symV s, iv v] (.bool (s12 s v)) := by
  refine pc_core_Stands (Runs.of fun Φ h => ?_)
  unfold c_core_Stands
  have hc := slices_Contains_api_Arg_api_Arg_pc (G := G) s.args ⟨2, v, v0⟩ hs
  simp only [argV] at hc
  repeat' (first | (simp -implicitDefEqProofs only [go_sem, symV, argsV]) | refine ag_ (fun hb => ?_) (fun hb => ?_) | refine ⟨fun hb => ?_, fun hb => ?_⟩ | refine ac_ (hc) rfl rfl ?_ | fail)
  all_goals (refine h _ ⟨_, _, rfl, rfl, fe_ ?_⟩; clear h; first | rfl | simp_all [s12])
theorem core_trans_2_2_pc (q : QeaT) (t : TransT) (s : SymT) (hs : at? q.symbols t.symbol = some s) (hl : s.args.length < 9223372036854775807) (i : Int) (x : NodeT) : P_ Tryz.prog G n_core_trans_2_2 [iv i, nodeV x, .eptr (qeaV q) 0, .eptr (t11 t) 0] (.bool (!(x.op == 2) || s12 s x.a)) := by
  obtain ⟨j, hj, hsj⟩ := at?_some hs
  obtain ⟨t1, t2, t3, t4, t5⟩ := t
  dsimp only at hj
  subst hj
  refine pc_core_trans_2_2 (Runs.of fun Φ h => ?_)
  unfold c_core_trans_2_2
  have hc := core_Stands_pc (G := G) s hl x.a
  simp only [symV, argsV] at hc
  repeat' (first | (simp -implicitDefEqProofs only [go_sem, nodeV, t11, setsV, symV, argsV, qeaV, d_, q_, f_, s_, s10, n_, t_, am_ hsj]) | refine ag_ (fun hb => ?_) (fun hb => ?_) | refine ⟨fun hb => ?_, fun hb => ?_⟩ | refine ac_ (hc) rfl rfl ?_ | fail)
  all_goals (refine h _ ⟨_, _, rfl, rfl, fe_ ?_⟩; clear h; first | rfl | simp_all)
theorem core_trans_2_1_1_pc (x s : SetT) : P_ Tryz.prog G n_core_trans_2_1_1 [setV x, .eptr (setV s) 0] (.bool (x.free == s.free)) := by
  refine pc_core_trans_2_1_1 (Runs.of fun Φ h => ?_)
  unfold c_core_trans_2_1_1
  repeat' (first | (simp -implicitDefEqProofs only [go_sem, setV]) | refine ag_ (fun hb => ?_) (fun hb => ?_) | refine ⟨fun hb => ?_, fun hb => ?_⟩ | fail)
  all_goals (refine h _ ⟨_, _, rfl, rfl, fe_ ?_⟩; clear h; first | rfl | simp_all)
theorem okC_set (s : SetT) : OkC [.eptr (setV s) 0] := ⟨fun _ => rfl, fun _ _ => rfl, fun _ => rfl, fun _ _ => rfl, fun _ => rfl, fun _ => rfl⟩
end Go.Proofs.YtjbcfpkibnhodaaGreatDoor.Ab
namespace Go.Proofs.YtjbcfpkibnhodaaGreatDoor.Ab
open Go
set_option linter.unusedSimpArgs false
set_option maxHeartbeats 4000000
variable {G : Nat → Option AV}
def qBox (q : QeaT) : Nat × Box := (1001, ⟨false, taQ_, 9, [qeaV q]⟩)
def whBox : Nat × Box := (1005, ⟨false, t_func_int_int_bool, 1, [.fn n_core_trans_1 [.ref 1004 0 0, .ref 1003 0 0]]⟩)
def tBox (t : TransT) : Nat × Box := (1006, ⟨false, taT_, 5, [t11 t]⟩)
def s13 (q : QeaT) (l : List ExT) (sets : List SetT) (at_ : Int) (i : Nat) (s : SetT) : Bool × Int :=
  match at? q.frees s.free with
  | none => (false, at_)
  | some f => if ((sets.take i).any fun x => x.free == s.free) = true then (false, at_) else if wholeS l at_ s.expr f.init.kind = true then (true, s.expr + 1) else (false, at_)
theorem aslc_take {α : Type} {e : α → AV} {sz : Nat} {l : List α} {i : Nat} (hs : 0 < sz) (h : i ≤ l.length) : aslc sz (.seq sz (l.map e)) none (some (.int .i64 (i : Int))) = some (.seq sz ((l.take i).map e)) := by
  simp [aslc, hs, h, List.map_take]
theorem core_trans_2_1_hc (q : QeaT) (l : List ExT) (hl : l.length ≤ 1000000) (t : TransT) (ht : t.sets.length < 9223372036854775807) (at_ : Int) (ha : 0 ≤ at_) (i : Nat) (s : SetT) (hs : t.sets[i]? = some s) :
    HeapC Tryz.prog G n_core_trans_2_1 [iv i, setV s, .ref 1006 0 0, .ref 1001 0 0, .ref 1005 0 0] [atBox at_, exBox l, whBox, qBox q, tBox t]
      (.bool (s13 q l t.sets at_ i s).1) [atBox (s13 q l t.sets at_ i s).2, exBox l, whBox, qBox q, tBox t] := by
  refine HeapC.of_runs Tryz.func199 k_core_trans_2_1 rfl (by rfl) (RunsH.of fun Φ h => ?_)
  unfold c_core_trans_2_1
  have hit := (List.getElem?_eq_some_iff.1 hs).1
  have hle : (i : Int) ≤ (t.sets.length : Int) := by omega
  have hc := slices_ContainsFunc_api_Set_api_Set_pc (G := G) n_core_trans_2_1_1 [.eptr (setV s) 0] (by kernel_rfl) (okC_set s) (fun x => x.free == s.free) (t.sets.take i) (fun x _ => core_trans_2_1_1_pc x s) (by simp; omega)
  obtain ⟨t1, t2, t3, t4, sets⟩ := t
  dsimp only at *
  obtain ⟨fr, ex⟩ := s
  dsimp only at *
  have fin : ∀ b A heap, s13 q l sets at_ i ⟨fr, ex⟩ = (b, A) → subH heap [atBox A, exBox l, whBox, qBox q, tBox ⟨t1, t2, t3, t4, sets⟩] → Φ ⟨44, [(7, .bool b)], heap⟩ := fun b A heap hw e => h _ ⟨_, _, Weak.refl _, rfl, fitB (by rw [hw]), by rw [hw]; exact e.at⟩
  clear h
  simp only [setV] at hc
  have hsl := aslc_take (e := setV) (sz := 2) (by omega) (show i ≤ sets.length by omega)
  cases hf : at? q.frees fr with
  | none =>
    have hn := at?_none hf
    have hr : s13 q l sets at_ i ⟨fr, ex⟩ = (false, at_) := by simp [s13, hf]
    repeat' (first | (simp -implicitDefEqProofs only [go_sem, atBox, exBox, whBox, qBox, tBox, t11, setsV, setV, qeaV, d_, q_, f_, s_, s10, n_, t_, List.length_map, hsl]) | refine ag_ (fun hb => ?_) (fun hb => ?_) | refine ⟨fun hb => ?_, fun hb => ?_⟩ | refine ac_ (hc) rfl rfl ?_ | fail)
    all_goals first | exact fin _ _ _ hr ⟨rfl, rfl, rfl, rfl, rfl, trivial⟩ | (exfalso; simp at *; omega)
  | some e =>
    obtain ⟨j, rfl, hj⟩ := at?_some hf
    have hjt := (List.getElem?_eq_some_iff.1 hj).1
    have hr : s13 q l sets at_ i ⟨j, ex⟩ = if ((sets.take i).any fun x => x.free == j) = true then (false, at_) else if wholeS l at_ ex e.init.kind = true then (true, ex + 1) else (false, at_) := by simp [s13, hf]
    have hwh := core_trans_1_hc (G := G) l hl at_ ex e.init.kind ha
    simp only [atBox, exBox] at hwh
    repeat' (first | (simp -implicitDefEqProofs only [go_sem, atBox, exBox, whBox, qBox, tBox, t11, setsV, setV, qeaV, d_, q_, f_, s_, s10, n_, t_, List.length_map, hsl, am_ hj, freeV]) | refine ag_ (fun hb => ?_) (fun hb => ?_) | refine ⟨fun hb => ?_, fun hb => ?_⟩ | refine ac_ (hc) rfl rfl ?_ | (refine ⟨by kernel_rfl, at_callKB_heap [(1004, 1004), (1003, 1003)] hwh rfl ⟨⟨_, _, rfl, rfl, rfl⟩, ⟨_, _, rfl, rfl, rfl⟩, trivial⟩ rfl rfl rfl ?_⟩) | fail)
    all_goals first | (exfalso; simp at *; omega) | (refine fin _ _ _ ?_ ⟨rfl, rfl, rfl, rfl, rfl, trivial⟩)
    all_goals
      rw [hr]
      clear hr hwh fin hc
      generalize wholeS l at_ ex e.init.kind = w at *
      generalize ((sets.take i).any fun x => x.free == (j : Int)) = a at *
      cases w <;> cases a <;> simp_all
def allS {α σ : Type} (step : σ → Nat → α → Bool × σ) : List α → Nat → σ → Bool × σ
  | [], _, s => (true, s)
  | x :: r, i, s => if (step s i x).1 = true then allS step r (i + 1) (step s i x).2 else (false, (step s i x).2)
theorem allS_step {α σ : Type} {step : σ → Nat → α → Bool × σ} {l : List α} {i : Nat} {x : α} (hx : l[i]? = some x) (s : σ) : allS step (l.drop i) i s = if (step s i x).1 = true then allS step (l.drop (i + 1)) (i + 1) (step s i x).2 else (false, (step s i x).2) := by
  obtain ⟨hlt, rfl⟩ := List.getElem?_eq_some_iff.1 hx
  rw [List.drop_eq_getElem_cons hlt, allS]
theorem allS_end {α σ : Type} {step : σ → Nat → α → Bool × σ} {l : List α} {i : Nat} (h : l.length ≤ i) (s : σ) : allS step (l.drop i) i s = (true, s) := by
  rw [List.drop_of_length_le h, allS]
theorem wholeS_pos {l : List ExT} {a r k : Int} (ha : 0 ≤ a) (h : wholeS l a r k = true) : 0 ≤ r + 1 := by
  unfold wholeS at h
  split at h
  · cases h
  · simp at h; omega
theorem setStep_pos {q : QeaT} {l : List ExT} {sets : List SetT} {a : Int} {i : Nat} {s : SetT} (ha : 0 ≤ a) : 0 ≤ (s13 q l sets a i s).2 := by
  unfold s13
  repeat' split
  all_goals first | exact ha | exact wholeS_pos ha ‹_›
theorem core_all_api_Set_hc (q : QeaT) (l : List ExT) (hl : l.length ≤ 1000000) (t : TransT) (ht : t.sets.length < 9223372036854775807) (at_ : Int) (ha : 0 ≤ at_) :
    HeapC Tryz.prog G n_core_all_api_Set [setsV t.sets, .fn n_core_trans_2_1 [.ref 1006 0 0, .ref 1001 0 0, .ref 1005 0 0]] [atBox at_, exBox l, whBox, qBox q, tBox t]
      (.bool (allS (s13 q l t.sets) t.sets 0 at_).1) [atBox (allS (s13 q l t.sets) t.sets 0 at_).2, exBox l, whBox, qBox q, tBox t] := by
  refine HeapC.of_runs Tryz.func201 k_core_all_api_Set rfl (by rfl) (RunsH.of fun Φ h => ?_)
  unfold c_core_all_api_Set
  have fin : ∀ b A heap, allS (s13 q l t.sets) t.sets 0 at_ = (b, A) → subH heap [atBox A, exBox l, whBox, qBox q, tBox t] → Φ ⟨20, [(4, .bool b)], heap⟩ := fun b A heap hw e => h _ ⟨_, _, Weak.refl _, rfl, fitB (by rw [hw]), by rw [hw]; exact e.at⟩
  clear h
  have hbx : tBox t = (1006, ⟨false, taT_, 5, [.agg [iv t.from_, iv t.symbol, iv t.to_, iv t.guard, .seq 2 (t.sets.map setV)]]⟩) := rfl
  simp -implicitDefEqProofs only [go_sem, setsV, List.length_map, atBox, exBox, whBox, qBox, hbx, qeaV, d_, q_, f_, s_, s10, n_, t_]
  refine al_ (fun n st => ∃ (i : Nat) (a : Int), i + n = t.sets.length ∧ st = ⟨20, [(1, .fn n_core_trans_2_1 [.ref 1006 0 0, .ref 1001 0 0, .ref 1005 0 0]), (7, setsV t.sets), (8, iv t.sets.length), (9, iv i)], [atBox a, exBox l, whBox, qBox q, tBox t]⟩ ∧ 0 ≤ a ∧ allS (s13 q l t.sets) t.sets 0 at_ = allS (s13 q l t.sets) (t.sets.drop i) i a) t.sets.length ⟨0, at_, by simp, rfl, ha, rfl⟩ ?_
  rintro I hI n st ⟨i, a, hi, rfl, hpos, he⟩
  simp -implicitDefEqProofs only [go_sem, setsV, List.length_map, atBox, exBox, whBox, qBox, hbx, qeaV, d_, q_, f_, s_, s10, n_, t_]
  refine ⟨fun hlt => ?_, fun hge => ?_⟩
  · have hlt' : i < t.sets.length := by omega
    obtain ⟨x, hx, hm⟩ := as10 hlt'
    have hw := ws_ hlt' (by omega)
    have hc := core_trans_2_1_hc (G := G) q l hl t ht a hpos i x hx
    have hsp := setStep_pos (q := q) (l := l) (sets := t.sets) (i := i) (s := x) hpos
    rw [allS_step hx] at he
    simp only [atBox, exBox, whBox, qBox, hbx, setV, qeaV, d_, q_, f_, s_, s10, n_, t_] at hc
    generalize hb : s13 q l t.sets a i x = b at *
    obtain ⟨b, A⟩ := b
    dsimp only at *
    have fin1 : b = true → again I n ⟨20, [(1, .fn n_core_trans_2_1 [.ref 1006 0 0, .ref 1001 0 0, .ref 1005 0 0]), (7, setsV t.sets), (8, iv t.sets.length), (9, iv (i + 1 : Nat))], [atBox A, exBox l, whBox, qBox q, tBox t]⟩ := fun hb => by
      rw [if_pos hb] at he
      exact aa_ (n - 1) (by omega) (hI _ _ ⟨i + 1, A, by omega, rfl, hsp, he⟩)
    have fin0 : ∀ heap, b = false → subH heap [atBox A, exBox l, whBox, qBox q, tBox t] → Φ ⟨20, [(4, .bool false)], heap⟩ := fun heap hb hs => by
      rw [if_neg (by simp [hb])] at he
      exact fin _ _ _ he hs
    repeat' (first | (simp -implicitDefEqProofs only [go_sem, am_ hx, setV, hw]) | refine ag_ (fun hb => ?_) (fun hb => ?_) | refine ⟨fun hb => ?_, fun hb => ?_⟩ | (refine ⟨by kernel_rfl, at_callH [(1004, 1004), (1003, 1003), (1005, 1005), (1001, 1001), (1006, 1006)] hc rfl ⟨⟨_, _, rfl, rfl, rfl⟩, ⟨_, _, rfl, rfl, rfl⟩, ⟨_, _, rfl, rfl, rfl⟩, ⟨_, _, rfl, rfl, rfl⟩, ⟨_, _, rfl, rfl, rfl⟩, trivial⟩ rfl rfl rfl ?_⟩) | fail)
    all_goals first | exact fin0 _ (by simpa using hb) ⟨rfl, rfl, rfl, rfl, rfl, trivial⟩ | exact fin1 (by simpa using hb)
  · rw [allS_end (by omega)] at he
    exact fin _ _ _ he ⟨rfl, rfl, rfl, rfl, rfl, trivial⟩
end Go.Proofs.YtjbcfpkibnhodaaGreatDoor.Ab
