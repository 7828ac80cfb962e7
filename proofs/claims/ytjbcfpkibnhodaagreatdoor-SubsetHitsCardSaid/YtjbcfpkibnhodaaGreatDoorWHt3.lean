/-
  How an event is read. proctorref17.All, Under. step: what hits make of configurations and of sets: two ways. proctorref19: free, worse, fired. No claim is proved here.
-/
import Derived.Test.YtjbcfpkibnhodaaGreatDoorWHt1
namespace Go.Proofs.YtjbcfpkibnhodaaGreatDoor.Ab
open Go Go.ChangeShapes Go.WideShapes Go.RowKit
set_option linter.unusedSimpArgs false
set_option maxRecDepth 100000
theorem rEvent : RdT Tryz.prog 72 2 fun cs => ∃ e : {e : EvT // ∀ v ∈ e.args, i64 v.int}, .agg cs = eventV e.1 :=
  (rd_struct (t := 72) (fs := (Tryz.prog.fieldsOf 72)) (by kernel_rfl) (by kernel_rfl) (rc_ (f := (Tryz.prog.fieldsOf 72)[0]!) (rStr (by kernel_rfl) (by kernel_rfl)) (by kernel_rfl) rfl (rc_ (f := (Tryz.prog.fieldsOf 72)[1]!) rVals (by kernel_rfl) rfl (rdf_nil _)))).mono (by
    rintro _ ⟨_, _, rfl, ⟨a, rfl⟩, _, _, rfl, ⟨⟨l, hl⟩, rfl⟩, rfl⟩
    exact ⟨⟨⟨a, l⟩, hl⟩, rfl⟩)
end Go.Proofs.YtjbcfpkibnhodaaGreatDoor.Ab
namespace Go.Proofs.YtjbcfpkibnhodaaGreatDoor.Ab
open Go Go.RowKit
set_option linter.unusedSimpArgs false
set_option maxHeartbeats 4000000
set_option maxRecDepth 100000
variable {G : Nat → Option AV}
def a_ (q : QeaT) (e : EvT) (n : Nat) : List HitT := (List.range n).filterMap (hitR q e)
theorem allHits_succ (q : QeaT) (e : EvT) (n : Nat) : a_ q e (n + 1) = a_ q e n ++ (hitR q e n).toList := by
  unfold a_
  rw [List.range_succ, List.filterMap_append]
  cases h : hitR q e n <;> simp [h]
theorem allHits_len (q : QeaT) (e : EvT) (n : Nat) : (a_ q e n).length ≤ n := by
  have := List.length_filterMap_le (hitR q e) (List.range n)
  rw [List.length_range] at this
  exact this
theorem filter_takeH {p : HitT → Bool} {l : List HitT} {i : Nat} {x : HitT} (h : l[i]? = some x) : (l.take (i + 1)).filter p = (l.take i).filter p ++ if p x then [x] else [] := by
  rw [List.take_add_one, h, List.filter_append]
  cases hp : p x <;> simp [hp]
structure SymsOk (q : QeaT) : Prop where
  len : q.symbols.length ≤ 1000
  ok : ∀ x ∈ q.symbols, (∃ d, at? q.decls x.event = some d) ∧ x.args.length ≤ 100
theorem ref17_All_pc (q : QeaT) (e : EvT) (hq : SymsOk q) (hel : e.args.length ≤ 1000000) : P_ Tryz.prog G n_proctorref17_All [qeaV q, eventV e] (hitsV (a_ q e q.symbols.length)) := by
  have hsl := hq.len
  refine pc_proctorref17_All (Runs.of fun Φ h => ?_)
  unfold c_proctorref17_All
  simp -implicitDefEqProofs only [go_sem, qeaV, d_, q_, f_, s_, s10, n_, t_, eventV]
  refine al_ (fun n st => ∃ (i : Nat) (m : List HitT), i + n = q.symbols.length ∧ st = ⟨29, [(2, .ref 2 0 0), (3, .ref 3 0 0), (5, .arr 5 0 m.length), (6, iv i)], [(2, ⟨false, taQ_, 9, [qeaV q]⟩), (3, ⟨false, t_api_Event, 2, [eventV e]⟩), (4, ⟨true, taH_, 3, []⟩), (5, ⟨true, taH_, 3, m.map hitV⟩)]⟩ ∧ m = a_ q e i) q.symbols.length ⟨0, [], by simp, rfl, rfl⟩ ?_
  rintro I hI n st ⟨i, m, hi, rfl, hm⟩
  have hml : m.length ≤ i := by rw [hm]; exact allHits_len q e i
  simp -implicitDefEqProofs only [go_sem, qeaV, d_, q_, f_, s_, s10, n_, t_, eventV, List.length_map]
  refine ⟨fun hlt => ?_, fun hge => ?_⟩
  · have hlt' : i < q.symbols.length := by omega
    obtain ⟨x, hx, hxm⟩ := as10 hlt'
    have hw := ws_ hlt' (by omega)
    obtain ⟨⟨d, hd⟩, hal⟩ := hq.ok x hxm
    have hc := ref17_Hit_pc (G := G) q e i x d hx hd hal hel
    have hnx := allHits_succ q e i
    rw [← hm] at hnx
    have hb1 : (m.length + 1) * 56 ≤ 140737488355328 := by omega
    generalize hitR q e i = r at *
    cases r with
    | none =>
      rw [show m ++ (none : Option HitT).toList = m by simp] at hnx
      simp only [hitRV, qeaV, d_, q_, f_, s_, s10, n_, t_, eventV] at hc
      repeat' (first | (simp -implicitDefEqProofs only [go_sem, qeaV, d_, q_, f_, s_, s10, n_, t_, eventV, hw, List.length_map]) | refine ag_ (fun hb => ?_) (fun hb => ?_) | refine ⟨fun hb => ?_, fun hb => ?_⟩ | refine ac_ (hc) rfl rfl ?_ | fail)
      exact aa_ (n - 1) (by omega) (hI _ _ ⟨i + 1, m, by omega, rfl, hnx.symm⟩)
    | some y =>
      obtain ⟨y1, y2, y3⟩ := y
      rw [show m ++ (some (⟨y1, y2, y3⟩ : HitT)).toList = m ++ [⟨y1, y2, y3⟩] by simp] at hnx
      simp only [hitRV, hitV, s11, qeaV, d_, q_, f_, s_, s10, n_, t_, eventV] at hc
      repeat' (first | (simp -implicitDefEqProofs only [go_sem, qeaV, d_, q_, f_, s_, s10, n_, t_, eventV, hw, List.length_map, hb1]) | refine ag_ (fun hb => ?_) (fun hb => ?_) | refine ⟨fun hb => ?_, fun hb => ?_⟩ | refine ac_ (hc) rfl rfl ?_ | fail)
      refine aa_ (n - 1) (by omega) (hI _ _ ⟨i + 1, m ++ [⟨y1, y2, y3⟩], by omega, ?_, hnx.symm⟩)
      simp [qeaV, d_, q_, f_, s_, s10, n_, t_, eventV, hitV, s11]
  · have hi' : i = q.symbols.length := by omega
    subst hi'
    rw [← hm] at h
    clear hI hm
    repeat' (first | (simp -implicitDefEqProofs only [go_sem]) | refine ag_ (fun hb => ?_) (fun hb => ?_) | refine ⟨fun hb => ?_, fun hb => ?_⟩ | fail)
    exact h _ ⟨_, _, rfl, view_map (e := hitV) (l := m) (ty := taH_) (by decide) (by simp [hget]) rfl, .refl _⟩
def u_ (l : List HitT) (b : List SlotT) : List HitT := l.filter fun h => underR h.bind b
theorem ref17_Under_pc (l : List HitT) (b : List SlotT) (hl : l.length ≤ 1000) (hbl : ∀ h ∈ l, h.bind.length ≤ 1000000) (hb : b.length ≤ 1000000) : P_ Tryz.prog G n_proctorref17_Under [hitsV l, s11 b] (hitsV (u_ l b)) := by
  refine pc_proctorref17_Under (Runs.of fun Φ h => ?_)
  unfold c_proctorref17_Under
  simp -implicitDefEqProofs only [go_sem, hitsV, s11]
  refine al_ (fun n st => ∃ (i : Nat) (m : List HitT), i + n = l.length ∧ st = ⟨28, [(0, hitsV l), (1, s11 b), (5, .arr 5 0 m.length), (6, iv i)], [(4, ⟨true, taH_, 3, []⟩), (5, ⟨true, taH_, 3, m.map hitV⟩)]⟩ ∧ m = (l.take i).filter (fun h => underR h.bind b)) l.length ⟨0, [], by simp, rfl, rfl⟩ ?_
  rintro I hI n st ⟨i, m, hi, rfl, hm⟩
  have hml : m.length ≤ i := by
    have : m.length ≤ (l.take i).length := by rw [hm]; exact List.length_filter_le _ _
    rw [List.length_take] at this
    omega
  simp -implicitDefEqProofs only [go_sem, hitsV, s11, List.length_map]
  refine ⟨fun hlt => ?_, fun hge => ?_⟩
  · have hlt' : i < l.length := by omega
    obtain ⟨x, hx, hxm⟩ := as10 hlt'
    have hw := ws_ hlt' (by omega)
    have hc := ref05_Under_pc (G := G) x.bind b (by have := hbl x hxm; omega) (by omega)
    have hnx := filter_takeH (p := fun h : HitT => underR h.bind b) hx
    rw [← hm] at hnx
    have hb1 : (m.length + 1) * 56 ≤ 140737488355328 := by omega
    generalize underR x.bind b = z at *
    obtain ⟨x1, x2, x3⟩ := x
    simp only [s11] at hc
    cases z
    · rw [if_neg (by simp), List.append_nil] at hnx
      repeat' (first | (simp -implicitDefEqProofs only [go_sem, am_ hx, hitV, s11, hw, List.length_map]) | refine ag_ (fun hb => ?_) (fun hb => ?_) | refine ⟨fun hb => ?_, fun hb => ?_⟩ | refine ac_ (hc) rfl rfl ?_ | fail)
      exact aa_ (n - 1) (by omega) (hI _ _ ⟨i + 1, m, by omega, rfl, hnx.symm⟩)
    · rw [if_pos rfl] at hnx
      repeat' (first | (simp -implicitDefEqProofs only [go_sem, am_ hx, hitV, s11, hw, List.length_map, hb1]) | refine ag_ (fun hb => ?_) (fun hb => ?_) | refine ⟨fun hb => ?_, fun hb => ?_⟩ | refine ac_ (hc) rfl rfl ?_ | fail)
      refine aa_ (n - 1) (by omega) (hI _ _ ⟨i + 1, m ++ [⟨x1, x2, x3⟩], by omega, ?_, hnx.symm⟩)
      simp [hitsV, hitV, s11]
  · rw [List.take_of_length_le (by omega)] at hm
    unfold u_ at h
    rw [← hm] at h
    clear hI hm
    repeat' (first | (simp -implicitDefEqProofs only [go_sem]) | refine ag_ (fun hb => ?_) (fun hb => ?_) | refine ⟨fun hb => ?_, fun hb => ?_⟩ | fail)
    exact h _ ⟨_, _, rfl, view_map (e := hitV) (l := m) (ty := taH_) (by decide) (by simp [hget]) rfl, .refl _⟩
end Go.Proofs.YtjbcfpkibnhodaaGreatDoor.Ab
namespace Go.Proofs.YtjbcfpkibnhodaaGreatDoor.Ab
open Go
set_option linter.unusedSimpArgs false
def worseR (a b : Int) : Int := if a = 0 ∨ (¬ b = 0 ∧ b < a) then b else a
def leastR (l : List Int) : Int := l.foldl worseR 0
theorem worse_go : ∀ (l : List Int) (a : Int), (∀ x ∈ l, 0 < x) → 0 ≤ a → (l.foldl worseR a = a ∨ l.foldl worseR a ∈ l) ∧ (∀ x ∈ l, l.foldl worseR a ≤ x) ∧ (¬ a = 0 → l.foldl worseR a ≤ a) ∧ (l.foldl worseR a = 0 → a = 0 ∧ l = [])
  | [], a, _, _ => ⟨.inl rfl, (fun x h => by cases h), fun _ => Int.le_refl _, fun h => ⟨h, rfl⟩⟩
  | x :: l, a, h, ha => by
    have hx := h x (by simp)
    have hw : 0 ≤ worseR a x := by unfold worseR; split <;> omega
    have hw0 : ¬ worseR a x = 0 := by unfold worseR; split <;> omega
    have hwx : worseR a x ≤ x := by unfold worseR; split <;> omega
    have hwa : ¬ a = 0 → worseR a x ≤ a := by unfold worseR; split <;> omega
    have hwe : worseR a x = a ∨ worseR a x = x := by unfold worseR; split <;> simp
    obtain ⟨h1, h2, h3, h4⟩ := worse_go l (worseR a x) (fun y hy => h y (by simp [hy])) hw
    rw [List.foldl_cons]
    refine ⟨?_, fun y hy => ?_, fun h0 => Int.le_trans (h3 hw0) (hwa h0), fun h0 => absurd (h4 h0).1 hw0⟩
    · rcases h1 with h1 | h1
      · rw [h1]
        rcases hwe with e | e
        · exact .inl e
        · exact .inr (by simp [e])
      · exact .inr (by simp [h1])
    · rcases List.mem_cons.1 hy with e | e
      · subst e; exact Int.le_trans (h3 hw0) hwx
      · exact h2 y e
theorem least_zero {l : List Int} (h : ∀ x ∈ l, 0 < x) : leastR l = 0 ↔ l = [] :=
  ⟨fun e => ((worse_go l 0 h (Int.le_refl _)).2.2.2 e).2, fun e => by rw [e]; rfl⟩
theorem least_mem {l : List Int} (h : ∀ x ∈ l, 0 < x) (h0 : l ≠ []) : leastR l ∈ l := by
  rcases (worse_go l 0 h (Int.le_refl _)).1 with h1 | h1
  · exact absurd ((least_zero h).1 h1) h0
  · exact h1
theorem worse_least {l : List Int} (a : Int) (h : ∀ x ∈ l, 0 < x) (ha : 0 ≤ a) : l.foldl worseR a = worseR a (leastR l) := by
  obtain ⟨a1, a2, a3, a4⟩ := worse_go l a h ha
  obtain ⟨b1, b2, _, b4⟩ := worse_go l 0 h (Int.le_refl _)
  cases l with
  | nil =>
    show a = worseR a 0
    unfold worseR
    split <;> omega
  | cons x r =>
    have hb0 : ¬ leastR (x :: r) = 0 := fun e => by have := (b4 e).2; cases this
    have hbm : leastR (x :: r) ∈ x :: r := by
      rcases b1 with e | e
      · exact absurd e hb0
      · exact e
    have hb2 : ∀ y ∈ x :: r, leastR (x :: r) ≤ y := b2
    have hab := a2 _ hbm
    have hpos := h _ hbm
    generalize leastR (x :: r) = m at *
    rw [show worseR a m = if a = 0 ∨ (¬ m = 0 ∧ m < a) then m else a from rfl]
    by_cases h0 : a = 0
    · rw [if_pos (.inl h0)]
      rcases a1 with e | e
      · exact absurd (a4 (by rw [e]; exact h0)).2 (by simp)
      · exact Int.le_antisymm hab (hb2 _ e)
    · by_cases hm : m < a
      · rw [if_pos (.inr ⟨by omega, hm⟩)]
        rcases a1 with e | e
        · rw [e] at hab; omega
        · exact Int.le_antisymm hab (hb2 _ e)
      · rw [if_neg (by omega)]
        have := a3 h0
        rcases a1 with e | e
        · exact e
        · have h5 := hb2 _ e
          exact Int.le_antisymm (by omega) (by omega)
def resT (q : QeaT) (c : CfgT) (hits : List HitT) (t : TransT) : Option (CfgT × Bool × Int) := if t.from_ = c.state then (hits.find? fun h => h.symbol == t.symbol).map (fireR q c t) else none
def okT (q : QeaT) (c : CfgT) (hits : List HitT) (t : TransT) : List CfgT := match resT q c hits t with | some (n, true, _) => [n] | _ => []
def badT (q : QeaT) (c : CfgT) (hits : List HitT) (t : TransT) : List Int := match resT q c hits t with | some (_, _, e) => if e = 0 then [] else [e] | none => []
def nextAt (q : QeaT) (c : CfgT) : Bool := match at? q.states c.state with | some s => s.next | none => false
def oksR (q : QeaT) (c : CfgT) (hits : List HitT) : List CfgT := q.trans.flatMap (okT q c hits)
def badsR (q : QeaT) (c : CfgT) (hits : List HitT) : List Int := q.trans.flatMap (badT q c hits)
def madeR (q : QeaT) (c : CfgT) (hits : List HitT) : List CfgT × List Int :=
  if oksR q c hits = [] ∧ badsR q c hits = [] ∧ nextAt q c = false then ([c], []) else (oksR q c hits, badsR q c hits)
def oneQ (q : QeaT) (c : CfgT) (hits : List HitT) : List CfgT × Int :=
  if ¬ leastR (badsR q c hits) = 0 then ([], leastR (badsR q c hits)) else if oksR q c hits = [] ∧ nextAt q c = false then ([c], 0) else (ofR (oksR q c hits), 0)
def allAcc (q : QeaT) (hits : List HitT) (s : List CfgT × Int) (c : CfgT) : List CfgT × Int := ((oneQ q c hits).1.foldl putR s.1, worseR s.2 (oneQ q c hits).2)
def allQ (q : QeaT) (set : List CfgT) (hits : List HitT) : List CfgT × Int :=
  let s := set.foldl (allAcc q hits) ([], 0)
  if ¬ s.2 = 0 then ([], s.2) else if 256 < s.1.length then ([], 14) else (s.1, 0)
structure HitsOk (q : QeaT) (hits : List HitT) : Prop where
  ok : ∀ h ∈ hits, h.Ok q
  len : hits.length ≤ 1000
theorem resT_ok {q : QeaT} {c : CfgT} {hits : List HitT} {t : TransT} {r : CfgT × Bool × Int} (hq : q.Good) (ht : t ∈ q.trans) (hc : c.Ok q) (hh : HitsOk q hits) (h : resT q c hits t = some r) : (r.2.2 = 0 ∨ errIn r.2.2) ∧ (r.2.1 = true → r.2.2 = 0 ∧ r.1.Ok q) := by
  unfold resT at h
  split at h
  · obtain ⟨x, hx, rfl⟩ := Option.map_eq_some_iff.1 h
    exact fireR_ok hq ht hc (hh.ok x (List.mem_of_find?_eq_some hx))
  · cases h
theorem oks_ok {q : QeaT} {c : CfgT} {hits : List HitT} (hq : q.Good) (hc : c.Ok q) (hh : HitsOk q hits) : ∀ x ∈ oksR q c hits, x.Ok q := fun x hx => by
  obtain ⟨t, ht, hx⟩ := List.mem_flatMap.1 hx
  unfold okT at hx
  split at hx
  · rename_i n e hr
    obtain rfl := List.mem_singleton.1 hx
    exact ((resT_ok hq ht hc hh hr).2 rfl).2
  · cases hx
theorem bads_ok {q : QeaT} {c : CfgT} {hits : List HitT} (hq : q.Good) (hc : c.Ok q) (hh : HitsOk q hits) : ∀ x ∈ badsR q c hits, errIn x := fun x hx => by
  obtain ⟨t, ht, hx⟩ := List.mem_flatMap.1 hx
  unfold badT at hx
  split at hx
  · rename_i n b e hr
    split at hx
    · cases hx
    · rename_i h0
      obtain rfl := List.mem_singleton.1 hx
      exact (resT_ok hq ht hc hh hr).1.resolve_left h0
  · cases hx
theorem errIn.pos {x : Int} (h : errIn x) : 0 < x := by unfold errIn at h; omega
theorem made_ok {q : QeaT} {c : CfgT} {hits : List HitT} (hq : q.Good) (hc : c.Ok q) (hh : HitsOk q hits) : (∀ x ∈ (madeR q c hits).1, x.Ok q) ∧ ∀ x ∈ (madeR q c hits).2, errIn x := by
  unfold madeR
  split
  · exact ⟨fun x hx => by obtain rfl := List.mem_singleton.1 hx; exact hc, fun x hx => by cases hx⟩
  · exact ⟨oks_ok hq hc hh, bads_ok hq hc hh⟩
theorem oneQ_made {q : QeaT} {c : CfgT} {hits : List HitT} (hq : q.Good) (hc : c.Ok q) (hh : HitsOk q hits) : (oneQ q c hits).2 = leastR (madeR q c hits).2 ∧ (leastR (madeR q c hits).2 = 0 → ∀ x, x ∈ (oneQ q c hits).1 ↔ x ∈ (madeR q c hits).1) := by
  have hok := oks_ok hq hc hh
  have hbad := bads_ok hq hc hh
  have hz := least_zero (l := badsR q c hits) fun x hx => (hbad x hx).pos
  unfold oneQ
  by_cases h0 : leastR (badsR q c hits) = 0
  · have hb := hz.1 h0
    rw [if_neg (show ¬ ¬ leastR (badsR q c hits) = 0 by simpa using h0)]
    by_cases hn : oksR q c hits = [] ∧ nextAt q c = false
    · have hm : madeR q c hits = ([c], []) := by unfold madeR; exact if_pos ⟨hn.1, hb, hn.2⟩
      rw [hm, if_pos hn]
      exact ⟨rfl, fun _ x => Iff.rfl⟩
    · have hm : madeR q c hits = (oksR q c hits, badsR q c hits) := by unfold madeR; exact if_neg fun h => hn ⟨h.1, h.2.2⟩
      rw [hm, if_neg hn]
      refine ⟨h0.symm, fun _ x => ?_⟩
      dsimp only
      rw [← setC_of fun x hx => (hok x hx).vok]
      exact orderO_mem
  · have hb : ¬ badsR q c hits = [] := fun e => h0 (hz.2 e)
    have hm : madeR q c hits = (oksR q c hits, badsR q c hits) := by unfold madeR; exact if_neg fun h => hb h.2.1
    rw [hm, if_pos h0]
    exact ⟨rfl, fun h => absurd h h0⟩
theorem oneQ_ok {q : QeaT} {c : CfgT} {hits : List HitT} (hq : q.Good) (hc : c.Ok q) (hh : HitsOk q hits) : ∀ x ∈ (oneQ q c hits).1, x.Ok q := fun x hx => by
  have hok := oks_ok hq hc hh
  unfold oneQ at hx
  split at hx
  · cases hx
  · split at hx
    · obtain rfl := List.mem_singleton.1 hx; exact hc
    · rw [← setC_of fun x hx => (hok x hx).vok] at hx
      exact hok x (orderO_mem.1 hx)
theorem allAcc_go {q : QeaT} {hits : List HitT} (hq : q.Good) (hh : HitsOk q hits) : ∀ (set : List CfgT), (∀ c ∈ set, c.Ok q) → ∀ (s : List CfgT × Int), (∀ x ∈ s.1, x.Ok q) → s.1.Pairwise (fun a b => cfgLess a b = true) → 0 ≤ s.2 →
    (set.foldl (allAcc q hits) s).2 = (set.flatMap fun c => (madeR q c hits).2).foldl worseR s.2 ∧ (set.foldl (allAcc q hits) s).1.Pairwise (fun a b => cfgLess a b = true) ∧ (∀ x ∈ (set.foldl (allAcc q hits) s).1, x.Ok q) ∧
      ((∀ c ∈ set, (oneQ q c hits).2 = 0) → ∀ x, x ∈ (set.foldl (allAcc q hits) s).1 ↔ x ∈ s.1 ∨ x ∈ set.flatMap fun c => (madeR q c hits).1)
  | [], _, s, h1, h2, _ => ⟨rfl, h2, h1, fun _ x => by simp⟩
  | c :: set, hs, s, h1, h2, h3 => by
    have hc := hs c (by simp)
    have hone := oneQ_ok hq hc hh
    obtain ⟨m1, m2⟩ := oneQ_made hq hc hh
    have hmb := (made_ok hq hc hh).2
    have hput : ∀ (m w : List CfgT), m.foldl putR w = m.foldl (putO cfgLess) w := fun m w => by
      have : putR = putO cfgLess := by funext l c; exact putR_eq l c
      rw [this]
    obtain ⟨p1, p2⟩ := cfgTO.puts_strict (oneQ q c hits).1 s.1 (fun x hx => (hone x hx).vok) (fun x hx => (h1 x hx).vok) h2
    rw [← hput] at p1 p2
    have hok2 : ∀ x ∈ (allAcc q hits s c).1, x.Ok q := fun x hx => ((p2 x).1 hx).elim (h1 x) (hone x)
    have h0 : 0 ≤ (allAcc q hits s c).2 := by
      unfold allAcc worseR
      have : 0 ≤ (oneQ q c hits).2 := by
        rw [m1]
        by_cases hne : (madeR q c hits).2 = []
        · rw [hne]; simp [leastR]
        · have := (hmb _ (least_mem (fun x hx => (hmb x hx).pos) hne)).pos
          omega
      dsimp only
      split <;> omega
    obtain ⟨g1, g2, g3, g4⟩ := allAcc_go hq hh set (fun c hc => hs c (by simp [hc])) (allAcc q hits s c) hok2 p1 h0
    rw [List.foldl_cons]
    refine ⟨?_, g2, g3, fun hz x => ?_⟩
    · rw [g1, List.flatMap_cons, List.foldl_append, worse_least s.2 (fun x hx => (hmb x hx).pos) h3, ← m1]
      rfl
    · rw [g4 (fun c hc => hz c (by simp [hc])) x, List.flatMap_cons, List.mem_append]
      have e : x ∈ (allAcc q hits s c).1 ↔ x ∈ s.1 ∨ x ∈ (oneQ q c hits).1 := p2 x
      rw [e, m2 (by rw [← m1]; exact hz c (by simp)) x, or_assoc]
end Go.Proofs.YtjbcfpkibnhodaaGreatDoor.Ab
namespace Go.Proofs.YtjbcfpkibnhodaaGreatDoor.Ab
open Go Go.RowKit
set_option linter.unusedSimpArgs false
set_option maxHeartbeats 4000000
set_option maxRecDepth 100000
variable {G : Nat → Option AV}
theorem ref19_worse_pc (a b : Int) : P_ Tryz.prog G n_proctorref19_worse [iv a, iv b] (iv (worseR a b)) := by
  refine pc_proctorref19_worse (Runs.of fun Φ h => ?_)
  unfold c_proctorref19_worse
  unfold worseR at h
  by_cases h1 : a = 0
  · rw [if_pos (.inl h1)] at h
    have e1 : (a == 0) = true := by simp [h1]
    repeat' (first | (simp -implicitDefEqProofs only [go_sem, e1]) | refine ag_ (fun hb => ?_) (fun hb => ?_) | refine ⟨fun hb => ?_, fun hb => ?_⟩ | fail)
    exact h _ ⟨_, _, rfl, rfl, .refl _⟩
  · have e1 : (a == 0) = false := by simp [h1]
    by_cases h2 : b = 0
    · rw [if_neg (by omega)] at h
      have e2 : (b != 0) = false := by simp [h2]
      repeat' (first | (simp -implicitDefEqProofs only [go_sem, e1, e2]) | refine ag_ (fun hb => ?_) (fun hb => ?_) | refine ⟨fun hb => ?_, fun hb => ?_⟩ | fail)
      exact h _ ⟨_, _, rfl, rfl, .refl _⟩
    · have e2 : (b != 0) = true := by simp [h2]
      by_cases h3 : b < a
      · rw [if_pos (.inr ⟨h2, h3⟩)] at h
        have e3 : (b < a) = True := by simp; exact h3
        repeat' (first | (simp -implicitDefEqProofs only [go_sem, e1, e2, e3, decide_true]) | refine ag_ (fun hb => ?_) (fun hb => ?_) | refine ⟨fun hb => ?_, fun hb => ?_⟩ | fail)
        exact h _ ⟨_, _, rfl, rfl, .refl _⟩
      · rw [if_neg (by omega)] at h
        have e3 : (b < a) = False := by simp; omega
        repeat' (first | (simp -implicitDefEqProofs only [go_sem, e1, e2, e3, decide_false]) | refine ag_ (fun hb => ?_) (fun hb => ?_) | refine ⟨fun hb => ?_, fun hb => ?_⟩ | fail)
        exact h _ ⟨_, _, rfl, rfl, .refl _⟩
theorem ref19_free_pc (vals : List Val) (l : List SlotT) (hv : vals.length ≤ 1000000) (hl : l.length ≤ 1000000) (hin : ∀ s ∈ l, ∃ f : Nat, s.var = f ∧ f < vals.length) : P_ Tryz.prog G n_proctorref19_free [valsV vals, s11 l] (valsV (freeR l vals)) := by
  have hb : vals.length * 40 ≤ 140737488355328 := by omega
  refine pc_proctorref19_free (Runs.of fun Φ h => ?_)
  unfold c_proctorref19_free
  repeat' (first | (simp -implicitDefEqProofs only [go_sem, valsV, s11, List.length_map, hb]) | refine ag_ (fun hb => ?_) (fun hb => ?_) | refine ⟨fun hb => ?_, fun hb => ?_⟩ | fail)
  refine al_ (fun n st => ∃ (i : Nat) (out : List Val), i + n = l.length ∧ st = ⟨29, [(1, .seq 5 (l.map slotV)), (5, .arr 7 0 vals.length), (6, iv i)], [(4, ⟨true, taV_, 4, []⟩), (7, ⟨true, taV_, 4, out.map valV⟩)]⟩ ∧ out.length = vals.length ∧ freeR (l.drop i) out = freeR l vals) l.length ⟨0, vals, by simp, rfl, rfl, rfl⟩ ?_
  rintro I hI n st ⟨i, out, hi, rfl, hol, hno⟩
  rw [← hno] at h
  simp -implicitDefEqProofs only [go_sem, List.length_map]
  refine ⟨fun hlt => ?_, fun hge => ?_⟩
  · have hlt' : i < l.length := by omega
    obtain ⟨s, hx, hxm⟩ := as10 hlt'
    have hw := ws_ hlt' (by omega)
    have hgo := freeR_go (out := out) hx
    obtain ⟨f, hf, hfn⟩ := hin s hxm
    have hst := freeStep_in hf (by omega : f < out.length)
    obtain ⟨sv, ⟨k, m, str, bt⟩⟩ := s
    dsimp only at hf hst
    subst hf
    rw [hst] at hgo
    obtain ⟨old, hold, _⟩ := as10 (l := out) (i := f) (by omega)
    obtain ⟨o1, o2, o3, o4⟩ := old
    have hes : (List.map valV out)[f]? = some (.agg [iv o1, iv o2, .str o3, .bool o4]) := by rw [List.getElem?_map, hold]; rfl
    have hset : (List.map valV out).set f (.agg [iv k, iv m, .str str, .bool bt]) = List.map valV (out.set f ⟨k, m, str, bt⟩) := by rw [List.map_set]; rfl
    have hai : ∀ H : List (Nat × Box), hget H 7 = some ⟨true, taV_, 4, out.map valV⟩ → aiaddr H 4 (.arr 7 0 vals.length) (iv f) = some (.ref 7 f 0) := fun H hH => aiaddr_row hH rfl hfn
    repeat' (first | (simp -implicitDefEqProofs only [go_sem, am_ hx, slotV, hw, hes, hset, hai]) | refine ag_ (fun hb => ?_) (fun hb => ?_) | refine ⟨fun hb => ?_, fun hb => ?_⟩ | fail)
    exact aa_ (n - 1) (by omega) (hI _ _ ⟨i + 1, _, by omega, rfl, by simp [hol], by rw [hgo, hno]⟩)
  · rw [freeR_end (by omega)] at h
    have hview : ∀ H : List (Nat × Box), hget H 7 = some ⟨true, taV_, 4, out.map valV⟩ → view H (.arr 7 0 vals.length) = some (valsV out) := fun H hH => view_rowV hH hol
    repeat' (first | (simp -implicitDefEqProofs only [go_sem]) | refine ag_ (fun hb => ?_) (fun hb => ?_) | refine ⟨fun hb => ?_, fun hb => ?_⟩ | fail)
    exact h _ ⟨_, _, rfl, hview _ rfl, .refl _⟩
def fireRV (r : CfgT × Bool × Int) : AV := if r.2.1 = true then .tup [cfgV r.1, .bool true, iv r.2.2] else .tup [.agg [iv 0, .nils], .bool false, iv r.2.2]
theorem ref19_fired_pc {q : QeaT} {c : CfgT} {h : HitT} (hq : q.Good) (hc : c.Ok q) (hh : h.Ok q) (j : Nat) (t : TransT) (ht : q.trans[j]? = some t) (hsl : t.sets.length ≤ 1000000) : P_ Tryz.prog G n_proctorref19_fired [qeaV q, iv j, cfgV c, hitV h] (fireRV (fireR q c t h)) := by
  have htm := List.mem_of_getElem? ht
  obtain ⟨hf, hE⟩ := env_hit hq hc hh
  have tk := transK hq.right htm
  have hS := safe_of q hq.n64
  have hlen := (fitsR_at hf).1
  have hcl : c.vals.length = q.frees.length := (fitsR_at hc.st.2.2).1
  have hfl := hq.fl
  have h1 := ref19_free_pc (G := G) c.vals h.frees (by omega) hh.fl fun s hs => by
    obtain ⟨⟨f, fr, e, hfr, _⟩, _⟩ := hh.fok s hs
    exact ⟨f, e, by have := (List.getElem?_eq_some_iff.1 hfr).1; omega⟩
  have h2 := ref16_Guard_pc (G := G) hS hE j t ht tk.guard
  have h3 := ref16_Sets_pc (G := G) hS hE j t ht (fun s hs => by
    obtain ⟨e, f, x, fr, he, hfr, hx, hk0, hfq, _⟩ := tk.sets s hs
    exact ⟨e, f, he, hfr, ⟨x, hx, hk0⟩, by have := (List.getElem?_eq_some_iff.1 hfq).1; omega⟩) hsl
  refine pc_proctorref19_fired (Runs.of fun Φ hh => ?_)
  unfold c_proctorref19_fired
  have fin0 : ∀ e heap, fireR q c t h = (⟨0, []⟩, false, e) → hget heap 8 = some ⟨false, taC_, 2, [.agg [iv 0, .nils]]⟩ → Φ ⟨58, [(8, .ref 8 0 0), (9, .bool false), (10, iv e)], heap⟩ := fun e heap e1 e2 => hh _ ⟨[.agg [iv 0, .nils], .bool false, iv e], _, by simp [resVs, aloadN, hcells, e2, eget, c_proctorref19_fired, AV.cells], rfl, fe_ (by rw [e1]; rfl)⟩
  have fin1 : ∀ s vs heap, fireR q c t h = (⟨s, vs⟩, true, 0) → hget heap 8 = some ⟨false, taC_, 2, [.agg [iv s, valsV vs]]⟩ → Φ ⟨58, [(8, .ref 8 0 0), (9, .bool true), (10, iv 0)], heap⟩ := fun s vs heap e1 e2 => hh _ ⟨[.agg [iv s, valsV vs], .bool true, iv 0], _, by simp [resVs, aloadN, hcells, e2, eget, c_proctorref19_fired, AV.cells], rfl, fe_ (by rw [e1]; rfl)⟩
  clear hh
  have hR : fireR q c t h = fireR q c t h := rfl
  conv at hR => rhs; unfold fireR
  clear hlen hE hf hcl
  generalize fireR q c t h = R at *
  obtain ⟨cs, cv⟩ := c
  obtain ⟨hs, hb, hfr⟩ := h
  obtain ⟨t1, t2, t3, t4, sets⟩ := t
  dsimp only at *
  generalize freeR hfr cv = vals at *
  generalize guardR q hb vals ⟨t1, t2, t3, t4, sets⟩ = g at *
  generalize setsR q hb vals sets vals = r at *
  obtain ⟨gb, ge⟩ := g
  obtain ⟨rv, re⟩ := r
  dsimp only at *
  simp only [valsV, s11, qeaV, d_, q_, f_, s_, s10, n_, t_] at h1 h2 h3
  by_cases hge : ge = 0
  · subst hge
    cases gb
    · rw [if_pos (.inr rfl)] at hR
      repeat' (first | (simp -implicitDefEqProofs only [go_sem, qeaV, d_, q_, f_, s_, s10, n_, t_, cfgV, hitV, s11, valsV]) | refine ag_ (fun hb => ?_) (fun hb => ?_) | refine ⟨fun hb => ?_, fun hb => ?_⟩ | refine ac_ (h1) rfl rfl ?_ | refine ac_ (h2) rfl rfl ?_ | fail)
      exact fin0 _ _ hR rfl
    · rw [if_neg (by simp)] at hR
      by_cases hre : re = 0
      · subst hre
        rw [if_pos rfl] at hR
        repeat' (first | (simp -implicitDefEqProofs only [go_sem, qeaV, d_, q_, f_, s_, s10, n_, t_, cfgV, hitV, s11, valsV, am_ ht, t11, setsV]) | refine ag_ (fun hb => ?_) (fun hb => ?_) | refine ⟨fun hb => ?_, fun hb => ?_⟩ | refine ac_ (h1) rfl rfl ?_ | refine ac_ (h2) rfl rfl ?_ | refine ac_ (h3) rfl rfl ?_ | fail)
        exact fin1 _ _ _ hR rfl
      · rw [if_neg hre] at hR
        have e1 : (re != 0) = true := by simp [hre]
        repeat' (first | (simp -implicitDefEqProofs only [go_sem, qeaV, d_, q_, f_, s_, s10, n_, t_, cfgV, hitV, s11, valsV, e1]) | refine ag_ (fun hb => ?_) (fun hb => ?_) | refine ⟨fun hb => ?_, fun hb => ?_⟩ | refine ac_ (h1) rfl rfl ?_ | refine ac_ (h2) rfl rfl ?_ | refine ac_ (h3) rfl rfl ?_ | fail)
        exact fin0 _ _ hR rfl
  · rw [if_pos (.inl hge)] at hR
    have e1 : (ge != 0) = true := by simp [hge]
    repeat' (first | (simp -implicitDefEqProofs only [go_sem, qeaV, d_, q_, f_, s_, s10, n_, t_, cfgV, hitV, s11, valsV, e1]) | refine ag_ (fun hb => ?_) (fun hb => ?_) | refine ⟨fun hb => ?_, fun hb => ?_⟩ | refine ac_ (h1) rfl rfl ?_ | refine ac_ (h2) rfl rfl ?_ | fail)
    exact fin0 _ _ hR rfl
end Go.Proofs.YtjbcfpkibnhodaaGreatDoor.Ab
