/-
  core.trans, from the inside: one, and all. core.trans. No claim is proved here.
-/
import Derived.Test.YtjbcfpkibnhodaaGreatDoorWD11
namespace Go.Proofs.YtjbcfpkibnhodaaGreatDoor.Ab
open Go
set_option linter.unusedSimpArgs false
set_option maxHeartbeats 4000000
variable {G : Nat → Option AV}
theorem core_all_api_Node_pc (f : Nat) (caps : List AV) (hf : bodyB Tryz.prog f = true) (hcap : OkC caps) (p : Nat → NodeT → Bool) (l : List NodeT) (hp : ∀ (i : Nat) x, l[i]? = some x → P_ Tryz.prog G f (iv i :: nodeV x :: caps) (.bool (p i x))) (hl : l.length < 9223372036854775807) :
    P_ Tryz.prog G n_core_all_api_Node [.seq 7 (l.map nodeV), .fn f caps] (.bool (allI p l)) := by
  refine pc_core_all_api_Node (Runs.of fun Φ h => ?_)
  unfold c_core_all_api_Node
  simp -implicitDefEqProofs only [go_sem, List.length_map]
  refine al_ (fun n st => ∃ i : Nat, i + n = l.length ∧ st = ⟨20, [(1, .fn f caps), (7, .seq 7 (l.map nodeV)), (8, iv l.length), (9, iv i)], []⟩ ∧ ∀ j x, j < i → l[j]? = some x → p j x = true) l.length ⟨0, by simp, rfl, fun j x hj => by omega⟩ ?_
  rintro I hI n st ⟨i, hi, rfl, hno⟩
  simp -implicitDefEqProofs only [go_sem]
  refine ⟨fun hlt => ?_, fun hge => ?_⟩
  · have hlt' : i < l.length := by omega
    obtain ⟨x, hx, hm⟩ := as10 hlt'
    have hw := ws_ hlt' (by omega)
    simp -implicitDefEqProofs only [go_sem, am_ hx, hcap.purge, nodeV]
    refine ⟨hf, ac_ (hp i x hx) (by simp [viewC, flat, viewBs, viewB, viewK, viewK.go, hcap.viewBs, nodeV]) rfl ?_⟩
    cases hpx : p i x
    · simp -implicitDefEqProofs only [go_sem, hcap.purge]
      exact h _ ⟨_, _, rfl, rfl, fitB (af_ hx hpx).symm⟩
    · simp -implicitDefEqProofs only [go_sem, hw, hcap.purge]
      exact aa_ (n - 1) (by omega) (hI _ _ ⟨i + 1, by omega, rfl, fun j y hj hy => by
        by_cases e : j = i
        · subst e; rw [hx] at hy; cases hy; exact hpx
        · exact hno j y (by omega) hy⟩)
  · have : i = l.length := by omega
    subst this
    exact h _ ⟨_, _, rfl, rfl, fitB (at10.2 fun i x hx => hno i x (List.getElem?_eq_some_iff.1 hx).1 hx).symm⟩
theorem aslc_mid {α : Type} {e : α → AV} {sz : Nat} {l : List α} {a b : Int} (hs : 0 < sz) (h0 : 0 ≤ a) (h1 : a ≤ b) (h2 : b ≤ l.length) : aslc sz (.seq sz (l.map e)) (some (.int .i64 a)) (some (.int .i64 b)) = some (.seq sz (((l.drop a.toNat).take (b.toNat - a.toNat)).map e)) := by
  simp [aslc, hs, h0, h1, h2, List.map_take, List.map_drop]
def mid {α : Type} (l : List α) (a b : Int) : List α := (l.drop a.toNat).take (b.toNat - a.toNat)
def inR (n : Int) (k : Nat) : Bool := decide (0 ≤ n) && decide (n < k)
def oneRest (q : QeaT) (l : List ExT) (st : SymT → Int → Bool) (t : TransT) (from_ at_ : Int) : Bool × Int :=
  let r := allS (s13 q l t.sets) t.sets 0 at_
  (r.1 && (match at? q.symbols t.symbol with | some s => (mid q.nodes from_ r.2).all fun x => !(x.op == 2) || st s x.a | none => false), r.2)
def o_ (q : QeaT) (l : List ExT) (st : SymT → Int → Bool) (at_ : Int) (t : TransT) : Bool × Int :=
  if (inR t.from_ q.states.length && (inR t.to_ q.states.length && inR t.symbol q.symbols.length)) = false then (false, at_)
  else if t.guard = -1 then oneRest q l st t at_ at_
  else if wholeS l at_ t.guard 3 = true then oneRest q l st t at_ (t.guard + 1) else (false, at_)
theorem wholeS_le {l : List ExT} {a r k : Int} (h : wholeS l a r k = true) : a ≤ r + 1 ∧ r + 1 ≤ l.length := by
  unfold wholeS at h
  split at h
  · cases h
  · rename_i e he
    obtain ⟨j, rfl, hj⟩ := at?_some he
    have := (List.getElem?_eq_some_iff.1 hj).1
    simp at h
    omega
theorem setStep_le {q : QeaT} {l : List ExT} {sets : List SetT} {a : Int} {i : Nat} {s : SetT} (ha : a ≤ l.length) : a ≤ (s13 q l sets a i s).2 ∧ (s13 q l sets a i s).2 ≤ l.length := by
  unfold s13
  repeat' split
  all_goals first | exact ⟨Int.le_refl _, ha⟩ | exact wholeS_le ‹_›
theorem allS_le {q : QeaT} {l : List ExT} {sets : List SetT} : ∀ {r : List SetT} {i : Nat} {a : Int}, a ≤ l.length → a ≤ (allS (s13 q l sets) r i a).2 ∧ (allS (s13 q l sets) r i a).2 ≤ l.length
  | [], _, a, h => ⟨Int.le_refl _, h⟩
  | x :: r, i, a, h => by
    have h1 := setStep_le (q := q) (sets := sets) (i := i) (s := x) h
    rw [allS]
    split
    · have := allS_le (q := q) (sets := sets) (r := r) (i := i + 1) h1.2
      omega
    · exact h1
theorem oneStep_le {q : QeaT} {l : List ExT} {st : SymT → Int → Bool} {a : Int} {t : TransT} (ha : 0 ≤ a) (hl : a ≤ l.length) : 0 ≤ (o_ q l st a t).2 ∧ (o_ q l st a t).2 ≤ l.length := by
  unfold o_ oneRest
  split
  · exact ⟨ha, hl⟩
  · split
    · have := allS_le (q := q) (sets := t.sets) (r := t.sets) (i := 0) hl
      dsimp only
      omega
    · split
      · rename_i hw
        have h1 := wholeS_le hw
        have := allS_le (q := q) (sets := t.sets) (r := t.sets) (i := 0) h1.2
        dsimp only
        omega
      · exact ⟨ha, hl⟩
theorem okC_qt (q : QeaT) (t : TransT) : OkC [.eptr (qeaV q) 0, .eptr (t11 t) 0] := ⟨fun _ => rfl, fun _ _ => rfl, fun _ => rfl, fun _ _ => rfl, fun _ => rfl, fun _ => rfl⟩
theorem core_trans_2_hc (q : QeaT) (l : List ExT) (hl : l.length ≤ 1000000) (hn : l.length = q.nodes.length) (hs : ∀ s ∈ q.symbols, s.args.length < 9223372036854775807) (t : TransT) (ht : t.sets.length < 9223372036854775807) (at_ : Int) (ha : 0 ≤ at_) (hal : at_ ≤ l.length) (i : Int) :
    HeapC Tryz.prog G n_core_trans_2 [iv i, t11 t, .ref 1004 0 0, .ref 1001 0 0, .ref 1005 0 0] [atBox at_, exBox l, whBox, qBox q]
      (.bool (o_ q l s12 at_ t).1) [atBox (o_ q l s12 at_ t).2, exBox l, whBox, qBox q] := by
  refine HeapC.of_runs Tryz.func198 k_core_trans_2 rfl (by rfl) (RunsH.of fun Φ h => ?_)
  unfold c_core_trans_2
  have fin : ∀ b A heap, o_ q l s12 at_ t = (b, A) → subH heap [atBox A, exBox l, whBox, qBox q] → Φ ⟨74, [(7, .bool b)], heap⟩ := fun b A heap hw e => h _ ⟨_, _, Weak.refl _, rfl, fitB (by rw [hw]), by rw [hw]; exact e.at⟩
  clear h
  have hset := fun (a : Int) (h : 0 ≤ a) => core_all_api_Set_hc (G := G) q l hl t ht a h
  have hwh := core_trans_1_hc (G := G) l hl at_ t.guard 3 ha
  simp only [atBox, exBox] at hwh
  by_cases hc : (inR t.from_ q.states.length && (inR t.to_ q.states.length && inR t.symbol q.symbols.length)) = false
  · have hr : o_ q l s12 at_ t = (false, at_) := by rw [o_, if_pos hc]
    have fin' : Φ ⟨74, [(7, .bool false)], _⟩ := fin _ _ ((6, ⟨false, taT_, 5, [t11 t]⟩) :: [atBox at_, exBox l, whBox, qBox q]) hr ⟨rfl, rfl, rfl, rfl, trivial⟩
    obtain ⟨t1, t2, t3, t4, sets⟩ := t
    dsimp only at *
    simp only [inR, Bool.and_eq_false_imp, decide_eq_true_eq, decide_eq_false_iff_not, Bool.and_eq_true] at hc
    repeat' (first | (simp -implicitDefEqProofs only [go_sem, atBox, exBox, whBox, qBox, t11, setsV, qeaV, d_, q_, f_, s_, s10, n_, t_, List.length_map]) | refine ag_ (fun hb => ?_) (fun hb => ?_) | refine ⟨fun hb => ?_, fun hb => ?_⟩ | (refine ⟨by kernel_rfl, at_callH [(1004, 1004), (1003, 1003)] hwh rfl ⟨⟨_, _, rfl, rfl, rfl⟩, ⟨_, _, rfl, rfl, rfl⟩, trivial⟩ rfl rfl rfl ?_⟩) | fail)
    all_goals first | exact fin' | (exfalso; simp at *; omega)
  · have hin : inR t.from_ q.states.length = true ∧ inR t.to_ q.states.length = true ∧ inR t.symbol q.symbols.length = true := by
      rw [Bool.not_eq_false] at hc
      simpa only [Bool.and_eq_true] using hc
    obtain ⟨hi1, hi2, hi3⟩ := hin
    obtain ⟨s, hsy⟩ : ∃ s, at? q.symbols t.symbol = some s := by
      cases h : at? q.symbols t.symbol with
      | some s => exact ⟨s, rfl⟩
      | none =>
        exfalso
        have := at?_none h
        simp [inR] at hi3
        omega
    have hsl : s.args.length < 9223372036854775807 := by
      obtain ⟨j, _, hj⟩ := at?_some hsy
      exact hs s (List.mem_of_getElem? hj)
    simp only [inR, Bool.and_eq_true, decide_eq_true_eq] at hi1 hi2 hi3
    have key : ∀ a1 : Int, 0 ≤ a1 → at_ ≤ a1 → a1 ≤ l.length → o_ q l s12 at_ t = oneRest q l s12 t at_ a1 → ∀ b A, allS (s13 q l t.sets) t.sets 0 a1 = (b, A) →
        at_ ≤ A ∧ A ≤ q.nodes.length ∧ (b = false → o_ q l s12 at_ t = (false, A)) ∧ (b = true → o_ q l s12 at_ t = (allI (fun _ (x : NodeT) => !(x.op == 2) || s12 s x.a) (mid q.nodes at_ A), A)) := by
      intro a1 h1 h2 h3 he b A hb
      have := allS_le (q := q) (sets := t.sets) (r := t.sets) (i := 0) h3
      rw [hb] at this
      rw [he, oneRest, hb, hsy, allI_const]
      dsimp only at *
      refine ⟨by omega, by omega, ?_, ?_⟩
      · rintro rfl; rfl
      · rintro rfl; rfl
    have hall := fun A : Int => core_all_api_Node_pc (G := G) n_core_trans_2_2 [.eptr (qeaV q) 0, .eptr (t11 t) 0] (by kernel_rfl) (okC_qt q t) (fun _ x => !(x.op == 2) || s12 s x.a) (mid q.nodes at_ A) (fun i x _ => core_trans_2_2_pc q t s hsy hsl i x) (by simp [mid]; omega)
    by_cases hg : t.guard = -1
    · have he : o_ q l s12 at_ t = oneRest q l s12 t at_ at_ := by rw [o_, if_neg hc, if_pos hg]
      have key := key at_ ha (Int.le_refl _) hal he
      have hset := hset at_ ha
      generalize allS (s13 q l t.sets) t.sets 0 at_ = r at *
      obtain ⟨b, A⟩ := r
      obtain ⟨k1, k2, k3, k4⟩ := key b A rfl
      have hall := hall A
      have hmid := aslc_mid (e := nodeV) (sz := 7) (l := q.nodes) (a := at_) (b := A) (by omega) ha k1 k2
      obtain ⟨t1, t2, t3, t4, sets⟩ := t
      dsimp only at *
      subst hg
      simp only [atBox, exBox, whBox, qBox, tBox, t11, setsV, qeaV, d_, q_, f_, s_, s10, n_, t_] at hset hall
      repeat' (first | (simp -implicitDefEqProofs only [go_sem, atBox, exBox, whBox, qBox, t11, setsV, qeaV, d_, q_, f_, s_, s10, n_, t_, List.length_map, hmid]) | refine ag_ (fun hb => ?_) (fun hb => ?_) | refine ⟨fun hb => ?_, fun hb => ?_⟩ | (refine at_callH [(1004, 1004), (1003, 1003), (1005, 1005), (1001, 1001), (1006, 6)] hset rfl ⟨⟨_, _, rfl, rfl, rfl⟩, ⟨_, _, rfl, rfl, rfl⟩, ⟨_, _, rfl, rfl, rfl⟩, ⟨_, _, rfl, rfl, rfl⟩, ⟨_, _, rfl, rfl, rfl⟩, trivial⟩ rfl rfl rfl ?_) | refine ac_ (hall) rfl rfl ?_ | fail)
      all_goals first | exact fin _ _ _ (k4 (by simpa using hb)) ⟨rfl, rfl, rfl, rfl, trivial⟩ | exact fin _ _ _ (k3 (by simpa using hb)) ⟨rfl, rfl, rfl, rfl, trivial⟩ | (exfalso; simp at *; omega)
    · cases hw : wholeS l at_ t.guard 3 with
      | false =>
        have he : o_ q l s12 at_ t = (false, at_) := by rw [o_, if_neg hc, if_neg hg, hw]; rfl
        have fin' : ∀ heap, subH heap [atBox at_, exBox l, whBox, qBox q] → Φ ⟨74, [(7, .bool false)], heap⟩ := fun heap => fin _ _ _ he
        rw [hw] at hwh
        clear hset hall key fin
        obtain ⟨t1, t2, t3, t4, sets⟩ := t
        dsimp only at *
        repeat' (first | (simp -implicitDefEqProofs only [go_sem, atBox, exBox, whBox, qBox, t11, setsV, qeaV, d_, q_, f_, s_, s10, n_, t_, List.length_map]) | refine ag_ (fun hb => ?_) (fun hb => ?_) | refine ⟨fun hb => ?_, fun hb => ?_⟩ | (refine ⟨by kernel_rfl, at_callH [(1004, 1004), (1003, 1003)] hwh rfl ⟨⟨_, _, rfl, rfl, rfl⟩, ⟨_, _, rfl, rfl, rfl⟩, trivial⟩ rfl rfl rfl ?_⟩) | fail)
        all_goals first | exact fin' _ ⟨rfl, rfl, rfl, rfl, trivial⟩ | (exfalso; simp at *; omega)
      | true =>
        have hwl := wholeS_le hw
        have hwp := wholeS_pos ha hw
        have he : o_ q l s12 at_ t = oneRest q l s12 t at_ (t.guard + 1) := by rw [o_, if_neg hc, if_neg hg, if_pos hw]
        have key := key (t.guard + 1) hwp hwl.1 hwl.2 he
        have hset := hset (t.guard + 1) hwp
        rw [hw] at hwh
        generalize allS (s13 q l t.sets) t.sets 0 (t.guard + 1) = r at *
        obtain ⟨b, A⟩ := r
        obtain ⟨k1, k2, k3, k4⟩ := key b A rfl
        have hall := hall A
        have hmid := aslc_mid (e := nodeV) (sz := 7) (l := q.nodes) (a := at_) (b := A) (by omega) ha k1 k2
        obtain ⟨t1, t2, t3, t4, sets⟩ := t
        dsimp only at *
        simp only [atBox, exBox, whBox, qBox, tBox, t11, setsV, qeaV, d_, q_, f_, s_, s10, n_, t_] at hset hall
        repeat' (first | (simp -implicitDefEqProofs only [go_sem, atBox, exBox, whBox, qBox, t11, setsV, qeaV, d_, q_, f_, s_, s10, n_, t_, List.length_map, hmid]) | refine ag_ (fun hb => ?_) (fun hb => ?_) | refine ⟨fun hb => ?_, fun hb => ?_⟩ | (refine ⟨by kernel_rfl, at_callH [(1004, 1004), (1003, 1003)] hwh rfl ⟨⟨_, _, rfl, rfl, rfl⟩, ⟨_, _, rfl, rfl, rfl⟩, trivial⟩ rfl rfl rfl ?_⟩) | (refine at_callH [(1004, 1004), (1003, 1003), (1005, 1005), (1001, 1001), (1006, 6)] hset rfl ⟨⟨_, _, rfl, rfl, rfl⟩, ⟨_, _, rfl, rfl, rfl⟩, ⟨_, _, rfl, rfl, rfl⟩, ⟨_, _, rfl, rfl, rfl⟩, ⟨_, _, rfl, rfl, rfl⟩, trivial⟩ rfl rfl rfl ?_) | refine ac_ (hall) rfl rfl ?_ | fail)
        all_goals first | exact fin _ _ _ (k4 (by simpa using hb)) ⟨rfl, rfl, rfl, rfl, trivial⟩ | exact fin _ _ _ (k3 (by simpa using hb)) ⟨rfl, rfl, rfl, rfl, trivial⟩ | (exfalso; simp at *; omega)
end Go.Proofs.YtjbcfpkibnhodaaGreatDoor.Ab
namespace Go.Proofs.YtjbcfpkibnhodaaGreatDoor.Ab
open Go
set_option linter.unusedSimpArgs false
set_option maxHeartbeats 4000000
variable {G : Nat → Option AV}
structure QeaT.Few (q : QeaT) : Prop where
  decls : q.decls.length ≤ 1000000
  types : ∀ d ∈ q.decls, d.types.length ≤ 1000000
  quants : q.quants.length ≤ 1000000
  frees : q.frees.length ≤ 1000000
  states : q.states.length ≤ 1000000
  symbols : q.symbols.length ≤ 1000000
  args : ∀ s ∈ q.symbols, s.args.length ≤ 1000000
  nodes : q.nodes.length ≤ 1000000
  trans : q.trans.length ≤ 1000000
  sets : ∀ t ∈ q.trans, t.sets.length ≤ 1000000
theorem core_all_api_Trans_hc (q : QeaT) (l : List ExT) (hq : q.Few) (hn : l.length = q.nodes.length) :
    HeapC Tryz.prog G n_core_all_api_Trans [t_ q.trans, .fn n_core_trans_2 [.ref 1004 0 0, .ref 1001 0 0, .ref 1005 0 0]] [atBox 0, exBox l, whBox, qBox q]
      (.bool (allS (fun a _ t => o_ q l s12 a t) q.trans 0 0).1) [atBox (allS (fun a _ t => o_ q l s12 a t) q.trans 0 0).2, exBox l, whBox, qBox q] := by
  have htl := hq.trans
  refine HeapC.of_runs Tryz.func205 k_core_all_api_Trans rfl (by rfl) (RunsH.of fun Φ h => ?_)
  unfold c_core_all_api_Trans
  have fin : ∀ b A heap, allS (fun a _ t => o_ q l s12 a t) q.trans 0 0 = (b, A) → subH heap [atBox A, exBox l, whBox, qBox q] → Φ ⟨20, [(4, .bool b)], heap⟩ := fun b A heap hw e => h _ ⟨_, _, Weak.refl _, rfl, fitB (by rw [hw]), by rw [hw]; exact e.at⟩
  clear h
  simp -implicitDefEqProofs only [go_sem, List.length_map, atBox, exBox, whBox, qBox, qeaV, d_, q_, f_, s_, s10, n_, t_]
  refine al_ (fun n st => ∃ (i : Nat) (a : Int), i + n = q.trans.length ∧ st = ⟨20, [(1, .fn n_core_trans_2 [.ref 1004 0 0, .ref 1001 0 0, .ref 1005 0 0]), (7, t_ q.trans), (8, iv q.trans.length), (9, iv i)], [atBox a, exBox l, whBox, qBox q]⟩ ∧ 0 ≤ a ∧ a ≤ l.length ∧ allS (fun a _ t => o_ q l s12 a t) q.trans 0 0 = allS (fun a _ t => o_ q l s12 a t) (q.trans.drop i) i a) q.trans.length ⟨0, 0, by simp, rfl, by omega, by omega, rfl⟩ ?_
  rintro I hI n st ⟨i, a, hi, rfl, hpos, hle, he⟩
  simp -implicitDefEqProofs only [go_sem, List.length_map, atBox, exBox, whBox, qBox, qeaV, d_, q_, f_, s_, s10, n_, t_]
  refine ⟨fun hlt => ?_, fun hge => ?_⟩
  · have hlt' : i < q.trans.length := by omega
    obtain ⟨x, hx, hm⟩ := as10 hlt'
    have hw := ws_ hlt' (by omega)
    have hc := core_trans_2_hc (G := G) q l (by have := hq.nodes; omega) hn (fun s hs => by have := hq.args s hs; omega) x (by have := hq.sets x hm; omega) a hpos hle i
    have hsp := oneStep_le (q := q) (st := s12) (t := x) hpos hle
    rw [allS_step hx] at he
    simp only [atBox, exBox, whBox, qBox, t11, setsV, qeaV, d_, q_, f_, s_, s10, n_, t_] at hc
    try dsimp only at he
    generalize hb : o_ q l s12 a x = b at *
    obtain ⟨b, A⟩ := b
    dsimp only at *
    have fin1 : b = true → again I n ⟨20, [(1, .fn n_core_trans_2 [.ref 1004 0 0, .ref 1001 0 0, .ref 1005 0 0]), (7, t_ q.trans), (8, iv q.trans.length), (9, iv (i + 1 : Nat))], [atBox A, exBox l, whBox, qBox q]⟩ := fun hb => by
      rw [if_pos hb] at he
      exact aa_ (n - 1) (by omega) (hI _ _ ⟨i + 1, A, by omega, rfl, hsp.1, hsp.2, he⟩)
    have fin0 : ∀ heap, b = false → subH heap [atBox A, exBox l, whBox, qBox q] → Φ ⟨20, [(4, .bool false)], heap⟩ := fun heap hb hs => by
      rw [if_neg (by simp [hb])] at he
      exact fin _ _ _ he hs
    repeat' (first | (simp -implicitDefEqProofs only [go_sem, am_ hx, t11, setsV, hw]) | refine ag_ (fun hb => ?_) (fun hb => ?_) | refine ⟨fun hb => ?_, fun hb => ?_⟩ | (refine ⟨by kernel_rfl, at_callH [(1004, 1004), (1003, 1003), (1005, 1005), (1001, 1001)] hc rfl ⟨⟨_, _, rfl, rfl, rfl⟩, ⟨_, _, rfl, rfl, rfl⟩, ⟨_, _, rfl, rfl, rfl⟩, ⟨_, _, rfl, rfl, rfl⟩, trivial⟩ rfl rfl rfl ?_⟩) | fail)
    all_goals first | exact fin0 _ (by simpa using hb) ⟨rfl, rfl, rfl, rfl, trivial⟩ | exact fin1 (by simpa using hb)
  · rw [allS_end (by omega)] at he
    exact fin _ _ _ he ⟨rfl, rfl, rfl, rfl, trivial⟩
def transC (q : QeaT) (l : List ExT) (st : SymT → Int → Bool) : Bool :=
  let r := allS (fun a _ t => o_ q l st a t) q.trans 0 0
  r.1 && r.2 == (l.length : Int)
theorem core_trans_pc (q : QeaT) (hq : q.Few) : P_ Tryz.prog G n_core_trans [qeaV q] (.bool (transC q (exprs q) s12)) := by
  have hln : (exprs q).length = q.nodes.length := el_ q _ (by omega)
  have hex := core_exprs_pc (G := G) q hq.nodes
  have hall := core_all_api_Trans_hc (G := G) q (exprs q) hq hln
  unfold transC
  generalize allS (fun a _ t => o_ q (exprs q) s12 a t) q.trans 0 0 = r at *
  obtain ⟨b, A⟩ := r
  refine pc_core_trans (Runs.of fun Φ h => ?_)
  unfold c_core_trans
  dsimp only at *
  simp only [atBox, exBox, whBox, qBox, qeaV, d_, q_, f_, s_, s10, n_, t_] at hall hex
  repeat' (first | (simp -implicitDefEqProofs only [go_sem, qeaV, d_, q_, f_, s_, s10, n_, t_, List.length_map]) | refine ag_ (fun hb => ?_) (fun hb => ?_) | refine ⟨fun hb => ?_, fun hb => ?_⟩ | refine ac_ (hex) rfl rfl ?_ | (refine at_callH [(1004, 4), (1003, 3), (1005, 5), (1001, 1)] hall rfl ⟨⟨_, _, rfl, rfl, rfl⟩, ⟨_, _, rfl, rfl, rfl⟩, ⟨_, _, rfl, rfl, rfl⟩, ⟨_, _, rfl, rfl, rfl⟩, trivial⟩ rfl rfl rfl ?_) | fail)
  all_goals (refine h _ ⟨_, _, rfl, rfl, fitB ?_⟩; clear h; simp_all)
end Go.Proofs.YtjbcfpkibnhodaaGreatDoor.Ab
