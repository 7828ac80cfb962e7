/-
  proctorref19: One, All. No claim is proved here.
-/
import Derived.Test.YtjbcfpkibnhodaaGreatDoorWHt3
namespace Go.Proofs.YtjbcfpkibnhodaaGreatDoor.Ab
open Go Go.RowKit
set_option linter.unusedSimpArgs false
set_option maxHeartbeats 4000000
set_option maxRecDepth 100000
variable {G : Nat → Option AV}
def hStep (q : QeaT) (c : CfgT) (t : TransT) (s : List CfgT × Int) (h : HitT) : List CfgT × Int :=
  if h.symbol = t.symbol then ((if (fireR q c t h).2.1 = true then putR s.1 (fireR q c t h).1 else s.1), worseR s.2 (fireR q c t h).2.2) else s
def tStep (q : QeaT) (c : CfgT) (hits : List HitT) (s : List CfgT × Int) (t : TransT) : List CfgT × Int := if t.from_ = c.state then hits.foldl (hStep q c t) s else s
def one19S (q : QeaT) (c : CfgT) (hits : List HitT) : List CfgT × Int := q.trans.foldl (tStep q c hits) ([], 0)
def one19 (q : QeaT) (c : CfgT) (hits : List HitT) : List CfgT × Int :=
  if ¬ (one19S q c hits).2 = 0 then ([], (one19S q c hits).2) else if (one19S q c hits).1 = [] ∧ nextAt q c = false then ([c], 0) else ((one19S q c hits).1, 0)
def o8 (out : List CfgT) : AV := if out = [] then .arr 8 0 0 else cfgsV out
def h8 (out : List CfgT) : List (Nat × Box) := if out = [] then [(8, ⟨true, taC_, 2, []⟩)] else []
theorem o8_nil : o8 [] = .arr 8 0 0 := rfl
theorem h8_nil : h8 [] = [(8, ⟨true, taC_, 2, []⟩)] := rfl
theorem o8_ne {out : List CfgT} (h : out ≠ []) : o8 out = .seq 2 (out.map cfgV) := if_neg h
theorem h8_ne {out : List CfgT} (h : out ≠ []) : h8 out = [] := if_neg h
theorem putR_ne (l : List CfgT) (c : CfgT) : putR l c ≠ [] := by
  unfold putR
  split
  · intro h
    subst h
    rename_i hat
    cases hat
  · simp
theorem CfgT.Ok.sm {q : QeaT} {c : CfgT} (hq : q.Good) (h : c.Ok q) : c.Sm := by
  have hl := (fitsR_at h.st.2.2).1
  have hf := hq.fl
  refine ⟨by omega, fun v hv => ?_⟩
  have hk := h.vok v hv
  unfold Val.ok at hk
  split at hk
  · simp only [Bool.and_eq_true, beq_iff_eq] at hk
    rw [hk.1]
    decide
  · split at hk
    · simp only [Bool.and_eq_true, decide_eq_true_eq] at hk
      omega
    · simp only [Bool.and_eq_true, beq_iff_eq] at hk
      rw [hk.2.2]
      decide
theorem ref19_One_pc {q : QeaT} {c : CfgT} {hits : List HitT} (hq : q.Good) (hc : c.Ok q) (hh : HitsOk q hits) (htl : q.trans.length ≤ 12) (hhl : hits.length ≤ 12) (hsl : ∀ t ∈ q.trans, t.sets.length ≤ 1000000) :
    P_ Tryz.prog G n_proctorref19_One [qeaV q, cfgV c, hitsV hits] (.tup [cfgsV (one19 q c hits).1, iv (one19 q c hits).2]) := by
  have hcs := hc.st
  obtain ⟨sj, hsj⟩ : ∃ j : Nat, c.state = j := ⟨c.state.toNat, by omega⟩
  obtain ⟨sx, hsx, _⟩ := as10 (l := q.states) (i := sj) (by omega)
  have hnext : nextAt q c = sx.next := by unfold nextAt; rw [hsj, at?_nat hsx]
  refine pc_proctorref19_One (Runs.of fun Φ h => ?_)
  unfold c_proctorref19_One
  have hfire := fun (j : Nat) (t : TransT) (ht : q.trans[j]? = some t) (x : HitT) (hx : x ∈ hits) => ref19_fired_pc (G := G) hq hc (hh.ok x hx) j t ht (hsl t (List.mem_of_getElem? ht))
  have hfok := fun (t : TransT) (ht : t ∈ q.trans) (x : HitT) (hx : x ∈ hits) => fireR_ok hq ht hc (hh.ok x hx)
  have hO : one19 q c hits = if ¬ (one19S q c hits).2 = 0 then ([], (one19S q c hits).2) else if (one19S q c hits).1 = [] ∧ sx.next = false then ([c], 0) else ((one19S q c hits).1, 0) := by unfold one19; rw [hnext]
  have hcsm := hc.sm hq
  generalize one19 q c hits = O at *
  generalize hS : one19S q c hits = S at *
  unfold one19S at hS
  obtain ⟨cst, cv⟩ := c
  dsimp only at hsj
  subst hsj
  simp -implicitDefEqProofs only [go_sem, qeaV, d_, q_, f_, s_, s10, n_, t_, cfgV, hitsV, List.length_map]
  refine al_ (fun n st => ∃ (i : Nat) (out : List CfgT) (bad : Int), i + n = q.trans.length ∧ st = ⟨89, [(2, hitsV hits), (3, .ref 3 0 0), (4, .ref 4 0 0), (8, o8 out), (9, iv bad), (10, iv i)], (3, ⟨false, taQ_, 9, [qeaV q]⟩) :: (4, ⟨false, taC_, 2, [cfgV ⟨(sj : Int), cv⟩]⟩) :: (6, ⟨true, taC_, 2, []⟩) :: h8 out⟩ ∧ (q.trans.drop i).foldl (tStep q ⟨(sj : Int), cv⟩ hits) (out, bad) = S ∧ out.length ≤ 12 * i ∧ ∀ x ∈ out, x.Ok q) q.trans.length ⟨0, [], 0, by simp, rfl, hS, by simp, fun x hx => by cases hx⟩ ?_
  rintro I hI n st ⟨i, out, bad, hi, rfl, hgo, hol, hok⟩
  have hnextI : ∀ out' bad' , i < q.trans.length → (q.trans.drop (i + 1)).foldl (tStep q ⟨(sj : Int), cv⟩ hits) (out', bad') = S → out'.length ≤ 12 * (i + 1) → (∀ x ∈ out', x.Ok q) → again I n ⟨89, [(2, hitsV hits), (3, .ref 3 0 0), (4, .ref 4 0 0), (8, o8 out'), (9, iv bad'), (10, iv (i + 1 : Nat))], (3, ⟨false, taQ_, 9, [qeaV q]⟩) :: (4, ⟨false, taC_, 2, [cfgV ⟨(sj : Int), cv⟩]⟩) :: (6, ⟨true, taC_, 2, []⟩) :: h8 out'⟩ := fun out' bad' hlt h1 h2 h3 => aa_ (n - 1) (by omega) (hI _ _ ⟨i + 1, out', bad', by omega, rfl, h1, h2, h3⟩)
  clear hI
  by_cases hlt' : i < q.trans.length
  · obtain ⟨t, ht, htm⟩ := as10 hlt'
    have hw := ws_ hlt' (by omega)
    have hlt : ((i : Int) < (q.trans.length : Int)) = True := by simp; exact hlt'
    rw [dropC_at ht, List.foldl_cons] at hgo
    have hnextI := fun out' bad' => hnextI out' bad' hlt'
    clear h
    obtain ⟨tf, ts, tt, tg, tsets⟩ := t
    by_cases hf : tf = (sj : Int)
    · have hfe : (tf != (sj : Int)) = false := by simp [hf]
      rw [tStep, if_pos (by exact hf)] at hgo
      repeat' (first | (simp -implicitDefEqProofs only [go_sem, qeaV, d_, q_, f_, s_, s10, n_, t_, cfgV, hitsV, List.length_map, hlt, decide_true, am_ ht, t11, setsV, hfe, hw]) | refine ag_ (fun hb => ?_) (fun hb => ?_) | refine ⟨fun hb => ?_, fun hb => ?_⟩ | fail)
      refine al_ (fun n' st => ∃ (k : Nat) (out' : List CfgT) (bad' : Int), k + n' = hits.length ∧ st = ⟨89, [(2, hitsV hits), (3, .ref 3 0 0), (4, .ref 4 0 0), (8, o8 out'), (9, iv bad'), (10, iv i), (11, iv k)], (3, ⟨false, taQ_, 9, [qeaV q]⟩) :: (4, ⟨false, taC_, 2, [cfgV ⟨(sj : Int), cv⟩]⟩) :: (6, ⟨true, taC_, 2, []⟩) :: h8 out'⟩ ∧ (hits.drop k).foldl (hStep q ⟨(sj : Int), cv⟩ ⟨tf, ts, tt, tg, tsets⟩) (out', bad') = hits.foldl (hStep q ⟨(sj : Int), cv⟩ ⟨tf, ts, tt, tg, tsets⟩) (out, bad) ∧ out'.length ≤ 12 * i + k ∧ ∀ x ∈ out', x.Ok q) hits.length ⟨0, out, bad, by simp, by
        by_cases ho : out = []
        · subst ho; rfl
        · simp only [o8_ne ho, h8_ne ho]; rfl, rfl, by omega, hok⟩ ?_
      rintro J hJ n' st ⟨k, out', bad', hk, rfl, hgo', hol', hok'⟩
      have hnextJ : ∀ out2 bad2, k < hits.length → (hits.drop (k + 1)).foldl (hStep q ⟨(sj : Int), cv⟩ ⟨tf, ts, tt, tg, tsets⟩) (out2, bad2) = hits.foldl (hStep q ⟨(sj : Int), cv⟩ ⟨tf, ts, tt, tg, tsets⟩) (out, bad) → out2.length ≤ 12 * i + (k + 1) → (∀ x ∈ out2, x.Ok q) → again J n' ⟨89, [(2, hitsV hits), (3, .ref 3 0 0), (4, .ref 4 0 0), (8, o8 out2), (9, iv bad2), (10, iv i), (11, iv (k + 1 : Nat))], (3, ⟨false, taQ_, 9, [qeaV q]⟩) :: (4, ⟨false, taC_, 2, [cfgV ⟨(sj : Int), cv⟩]⟩) :: (6, ⟨true, taC_, 2, []⟩) :: h8 out2⟩ := fun out2 bad2 hlt h1 h2 h3 => aa_ (n' - 1) (by omega) (hJ _ _ ⟨k + 1, out2, bad2, by omega, rfl, h1, h2, h3⟩)
      clear hJ
      by_cases hlk : k < hits.length
      · obtain ⟨x, hx, hxm⟩ := as10 hlk
        have hwk := ws_ hlk (by omega)
        have hltk : ((k : Int) < (hits.length : Int)) = True := by simp; exact hlk
        rw [dropC_at hx, List.foldl_cons] at hgo'
        have hnextJ := fun out2 bad2 => hnextJ out2 bad2 hlk
        have hfc := hfire i ⟨tf, ts, tt, tg, tsets⟩ ht x hxm
        have hfo := hfok ⟨tf, ts, tt, tg, tsets⟩ htm x hxm
        have hwo := fun e => ref19_worse_pc (G := G) bad' e
        have hput := fun (c' : CfgT) (h' : c'.Sm) => ref18_Put_pc (G := G) out' c' (by omega) (fun y hy => (hok' y hy).sm hq) h'
        rw [hStep] at hgo'
        obtain ⟨xs, xb, xf⟩ := x
        dsimp only at hgo'
        clear hnextI hgo hfire hfok
        by_cases hsy : xs = ts
        · rw [if_pos hsy] at hgo'
          have hse : (xs != ts) = false := by simp [hsy]
          generalize fireR q ⟨(sj : Int), cv⟩ ⟨tf, ts, tt, tg, tsets⟩ ⟨xs, xb, xf⟩ = r at *
          obtain ⟨⟨rs, rv⟩, rb, re⟩ := r
          have hwo := hwo re
          dsimp only at hfo hgo'
          generalize worseR bad' re = wr at *
          cases rb with
          | true =>
            rw [if_pos rfl] at hgo'
            obtain ⟨he0, hrok⟩ := hfo.2 rfl
            have hput := hput _ (hrok.sm hq)
            have hpl := putR_len out' ⟨rs, rv⟩
            have hpm : ∀ y ∈ putR out' ⟨rs, rv⟩, y.Ok q := fun y hy => (putR_mem hy).elim (hok' y) fun e => e ▸ hrok
            have hnx := hnextJ _ _ hgo' (by omega) hpm
            have hne := putR_ne out' ⟨rs, rv⟩
            simp only [o8_ne hne, h8_ne hne] at hnx
            generalize putR out' ⟨rs, rv⟩ = pr at *
            simp only [fireRV, if_true, qeaV, d_, q_, f_, s_, s10, n_, t_, cfgV, hitV, s11, cfgsV] at hfc hput
            clear hgo' hpm hne hfo hrok
            by_cases ho : out' = []
            · subst ho
              simp only [o8_nil, h8_nil, List.map_nil] at hput ⊢
              repeat' (first | (simp -implicitDefEqProofs only [go_sem, qeaV, d_, q_, f_, s_, s10, n_, t_, cfgV, hitsV, hitV, s11, List.length_map, hltk, decide_true, am_ ht, am_ hx, t11, setsV, hse, hwk]) | refine ag_ (fun hb => ?_) (fun hb => ?_) | refine ⟨fun hb => ?_, fun hb => ?_⟩ | refine ac_ (hfc) rfl rfl ?_ | refine ac_ (hwo) rfl rfl ?_ | refine ac_ (hput) rfl rfl ?_ | fail)
              exact hnx
            · simp only [o8_ne ho, h8_ne ho]
              repeat' (first | (simp -implicitDefEqProofs only [go_sem, qeaV, d_, q_, f_, s_, s10, n_, t_, cfgV, hitsV, hitV, s11, List.length_map, hltk, decide_true, am_ ht, am_ hx, t11, setsV, hse, hwk]) | refine ag_ (fun hb => ?_) (fun hb => ?_) | refine ⟨fun hb => ?_, fun hb => ?_⟩ | refine ac_ (hfc) rfl rfl ?_ | refine ac_ (hwo) rfl rfl ?_ | refine ac_ (hput) rfl rfl ?_ | fail)
              exact hnx
          | false =>
            rw [if_neg (by simp)] at hgo'
            have hnx := hnextJ _ _ hgo' (by omega) hok'
            simp only [fireRV, Bool.false_eq_true, if_false, qeaV, d_, q_, f_, s_, s10, n_, t_, cfgV, hitV, s11] at hfc
            clear hgo' hput hfo
            by_cases ho : out' = []
            · subst ho
              simp only [o8_nil, h8_nil] at hnx ⊢
              repeat' (first | (simp -implicitDefEqProofs only [go_sem, qeaV, d_, q_, f_, s_, s10, n_, t_, cfgV, hitsV, hitV, s11, List.length_map, hltk, decide_true, am_ ht, am_ hx, t11, setsV, hse, hwk]) | refine ag_ (fun hb => ?_) (fun hb => ?_) | refine ⟨fun hb => ?_, fun hb => ?_⟩ | refine ac_ (hfc) rfl rfl ?_ | refine ac_ (hwo) rfl rfl ?_ | fail)
              exact hnx
            · simp only [o8_ne ho, h8_ne ho] at hnx ⊢
              repeat' (first | (simp -implicitDefEqProofs only [go_sem, qeaV, d_, q_, f_, s_, s10, n_, t_, cfgV, hitsV, hitV, s11, List.length_map, hltk, decide_true, am_ ht, am_ hx, t11, setsV, hse, hwk]) | refine ag_ (fun hb => ?_) (fun hb => ?_) | refine ⟨fun hb => ?_, fun hb => ?_⟩ | refine ac_ (hfc) rfl rfl ?_ | refine ac_ (hwo) rfl rfl ?_ | fail)
              exact hnx
        · rw [if_neg hsy] at hgo'
          have hse : (xs != ts) = true := by simp [hsy]
          have hnx := hnextJ _ _ hgo' (by omega) hok'
          clear hgo' hput hfo hfc hwo
          by_cases ho : out' = []
          · subst ho
            simp only [o8_nil, h8_nil] at hnx ⊢
            repeat' (first | (simp -implicitDefEqProofs only [go_sem, qeaV, d_, q_, f_, s_, s10, n_, t_, cfgV, hitsV, hitV, s11, List.length_map, hltk, decide_true, am_ ht, am_ hx, t11, setsV, hse, hwk]) | refine ag_ (fun hb => ?_) (fun hb => ?_) | refine ⟨fun hb => ?_, fun hb => ?_⟩ | fail)
            exact hnx
          · simp only [o8_ne ho, h8_ne ho] at hnx ⊢
            repeat' (first | (simp -implicitDefEqProofs only [go_sem, qeaV, d_, q_, f_, s_, s10, n_, t_, cfgV, hitsV, hitV, s11, List.length_map, hltk, decide_true, am_ ht, am_ hx, t11, setsV, hse, hwk]) | refine ag_ (fun hb => ?_) (fun hb => ?_) | refine ⟨fun hb => ?_, fun hb => ?_⟩ | fail)
            exact hnx
      · have hltk : ((k : Int) < (hits.length : Int)) = False := by simp; omega
        rw [List.drop_eq_nil_of_le (by omega), List.foldl_nil] at hgo'
        rw [← hgo'] at hgo
        have hnx := hnextI _ _ hgo (by omega) hok'
        clear hgo' hgo hnextJ hnextI hfire hfok
        by_cases ho : out' = []
        · subst ho
          simp only [o8_nil, h8_nil] at hnx ⊢
          repeat' (first | (simp -implicitDefEqProofs only [go_sem, qeaV, d_, q_, f_, s_, s10, n_, t_, cfgV, hitsV, List.length_map, hltk, decide_false, hw]) | refine ag_ (fun hb => ?_) (fun hb => ?_) | refine ⟨fun hb => ?_, fun hb => ?_⟩ | fail)
          exact hnx
        · simp only [o8_ne ho, h8_ne ho] at hnx ⊢
          repeat' (first | (simp -implicitDefEqProofs only [go_sem, qeaV, d_, q_, f_, s_, s10, n_, t_, cfgV, hitsV, List.length_map, hltk, decide_false, hw]) | refine ag_ (fun hb => ?_) (fun hb => ?_) | refine ⟨fun hb => ?_, fun hb => ?_⟩ | fail)
          exact hnx
    · have hfe : (tf != (sj : Int)) = true := by simp [hf]
      rw [tStep, if_neg (by exact hf)] at hgo
      have hnx := hnextI out bad hgo (by omega) hok
      by_cases ho : out = []
      · subst ho
        simp only [o8_nil, h8_nil] at hnx ⊢
        repeat' (first | (simp -implicitDefEqProofs only [go_sem, qeaV, d_, q_, f_, s_, s10, n_, t_, cfgV, hitsV, List.length_map, hlt, decide_true, am_ ht, t11, setsV, hfe, hw]) | refine ag_ (fun hb => ?_) (fun hb => ?_) | refine ⟨fun hb => ?_, fun hb => ?_⟩ | fail)
        exact hnx
      · simp only [o8_ne ho, h8_ne ho] at hnx ⊢
        repeat' (first | (simp -implicitDefEqProofs only [go_sem, qeaV, d_, q_, f_, s_, s10, n_, t_, cfgV, hitsV, List.length_map, hlt, decide_true, am_ ht, t11, setsV, hfe, hw]) | refine ag_ (fun hb => ?_) (fun hb => ?_) | refine ⟨fun hb => ?_, fun hb => ?_⟩ | fail)
        exact hnx
  · have hlt : ((i : Int) < (q.trans.length : Int)) = False := by simp; omega
    rw [List.drop_eq_nil_of_le (by omega), List.foldl_nil] at hgo
    subst hgo
    dsimp only at hO
    clear hnextI hfire hfok
    have hz0 : ((0 : Nat) : Int) = 0 := rfl
    by_cases hb : bad = 0
    · subst hb
      rw [if_neg (by simp)] at hO
      by_cases ho : out = []
      · subst ho
        simp only [o8_nil, h8_nil]
        obtain ⟨sxn, sx1, sx2⟩ := sx
        dsimp only at hO
        cases sx1
        · rw [if_pos ⟨rfl, rfl⟩] at hO
          subst hO
          repeat' (first | (simp -implicitDefEqProofs only [go_sem, qeaV, d_, q_, f_, s_, s10, n_, t_, cfgV, hitsV, List.length_map, hlt, decide_false, am_ hsx, stateV, hz0]) | refine ag_ (fun hb => ?_) (fun hb => ?_) | refine ⟨fun hb => ?_, fun hb => ?_⟩ | fail)
          exact h _ ⟨_, _, rfl, rfl, .refl _⟩
        · rw [if_neg (by simp)] at hO
          subst hO
          repeat' (first | (simp -implicitDefEqProofs only [go_sem, qeaV, d_, q_, f_, s_, s10, n_, t_, cfgV, hitsV, List.length_map, hlt, decide_false, am_ hsx, stateV, hz0]) | refine ag_ (fun hb => ?_) (fun hb => ?_) | refine ⟨fun hb => ?_, fun hb => ?_⟩ | fail)
          exact h _ ⟨_, _, rfl, rfl, .refl _⟩
      · rw [if_neg (fun e => ho e.1)] at hO
        subst hO
        have hl0 : ((out.length : Int) == 0) = false := by
          have : out.length ≠ 0 := fun e => ho (List.eq_nil_of_length_eq_zero e)
          simp
          omega
        simp only [o8_ne ho, h8_ne ho]
        repeat' (first | (simp -implicitDefEqProofs only [go_sem, qeaV, d_, q_, f_, s_, s10, n_, t_, cfgV, hitsV, List.length_map, hlt, decide_false, hl0]) | refine ag_ (fun hb => ?_) (fun hb => ?_) | refine ⟨fun hb => ?_, fun hb => ?_⟩ | fail)
        exact h _ ⟨_, _, rfl, rfl, .refl _⟩
    · rw [if_pos hb] at hO
      subst hO
      have hb0 : (bad != 0) = true := by simp [hb]
      by_cases ho : out = []
      · subst ho
        simp only [o8_nil, h8_nil]
        repeat' (first | (simp -implicitDefEqProofs only [go_sem, qeaV, d_, q_, f_, s_, s10, n_, t_, cfgV, hitsV, List.length_map, hlt, decide_false, hb0]) | refine ag_ (fun hb => ?_) (fun hb => ?_) | refine ⟨fun hb => ?_, fun hb => ?_⟩ | fail)
        exact h _ ⟨_, _, rfl, rfl, .refl _⟩
      · simp only [o8_ne ho, h8_ne ho]
        repeat' (first | (simp -implicitDefEqProofs only [go_sem, qeaV, d_, q_, f_, s_, s10, n_, t_, cfgV, hitsV, List.length_map, hlt, decide_false, hb0]) | refine ag_ (fun hb => ?_) (fun hb => ?_) | refine ⟨fun hb => ?_, fun hb => ?_⟩ | fail)
        exact h _ ⟨_, _, rfl, rfl, .refl _⟩
def acc19 (q : QeaT) (hits : List HitT) (s : List CfgT × Int) (c : CfgT) : List CfgT × Int := ((one19 q c hits).1.foldl putR s.1, worseR s.2 (one19 q c hits).2)
def all19 (q : QeaT) (set : List CfgT) (hits : List HitT) : List CfgT × Int :=
  let s := set.foldl (acc19 q hits) ([], 0)
  if ¬ s.2 = 0 then ([], s.2) else if 256 < s.1.length then ([], 14) else (s.1, 0)
theorem hFold_ok {q : QeaT} {c : CfgT} {t : TransT} (hq : q.Good) (hc : c.Ok q) (ht : t ∈ q.trans) : ∀ (l : List HitT), (∀ h ∈ l, h.Ok q) → ∀ (s : List CfgT × Int), (∀ x ∈ s.1, x.Ok q) →
    (∀ x ∈ (l.foldl (hStep q c t) s).1, x.Ok q) ∧ (l.foldl (hStep q c t) s).1.length ≤ s.1.length + l.length
  | [], _, s, h => ⟨h, Nat.le_refl _⟩
  | x :: l, hl, s, h => by
    have hf := fireR_ok hq ht hc (hl x (by simp))
    have hs : (∀ y ∈ (hStep q c t s x).1, y.Ok q) ∧ (hStep q c t s x).1.length ≤ s.1.length + 1 := by
      unfold hStep
      split
      · dsimp only
        split
        · rename_i hb
          refine ⟨fun y hy => (putR_mem hy).elim (h y) fun e => ?_, putR_len _ _⟩
          rw [e]
          exact (hf.2 hb).2
        · exact ⟨h, by omega⟩
      · exact ⟨h, by omega⟩
    obtain ⟨g1, g2⟩ := hFold_ok hq hc ht l (fun y hy => hl y (by simp [hy])) _ hs.1
    rw [List.foldl_cons, List.length_cons]
    exact ⟨g1, by omega⟩
theorem tFold_ok {q : QeaT} {c : CfgT} {hits : List HitT} (hq : q.Good) (hc : c.Ok q) (hh : HitsOk q hits) (hhl : hits.length ≤ 12) : ∀ (l : List TransT), (∀ t ∈ l, t ∈ q.trans) → ∀ (s : List CfgT × Int), (∀ x ∈ s.1, x.Ok q) →
    (∀ x ∈ (l.foldl (tStep q c hits) s).1, x.Ok q) ∧ (l.foldl (tStep q c hits) s).1.length ≤ s.1.length + 12 * l.length
  | [], _, s, h => ⟨h, Nat.le_refl _⟩
  | t :: l, hl, s, h => by
    have hs : (∀ y ∈ (tStep q c hits s t).1, y.Ok q) ∧ (tStep q c hits s t).1.length ≤ s.1.length + 12 := by
      unfold tStep
      split
      · obtain ⟨g1, g2⟩ := hFold_ok hq hc (hl t (by simp)) hits hh.ok s h
        exact ⟨g1, by omega⟩
      · exact ⟨h, by omega⟩
    obtain ⟨g1, g2⟩ := tFold_ok hq hc hh hhl l (fun y hy => hl y (by simp [hy])) _ hs.1
    rw [List.foldl_cons, List.length_cons]
    exact ⟨g1, by omega⟩
theorem one19_ok {q : QeaT} {c : CfgT} {hits : List HitT} (hq : q.Good) (hc : c.Ok q) (hh : HitsOk q hits) (hhl : hits.length ≤ 12) (htl : q.trans.length ≤ 12) : (∀ x ∈ (one19 q c hits).1, x.Ok q) ∧ (one19 q c hits).1.length ≤ 150 := by
  obtain ⟨g1, g2⟩ := tFold_ok hq hc hh hhl q.trans (fun t h => h) ([], 0) (fun x h => by cases h)
  unfold one19 one19S
  split
  · exact ⟨fun x h => (by cases h), by simp⟩
  · split
    · exact ⟨fun x h => (List.mem_singleton.1 h) ▸ hc, by simp⟩
    · simp only [List.length_nil] at g2
      exact ⟨g1, by dsimp only; omega⟩
theorem ref19_All_pc {q : QeaT} {set : List CfgT} {hits : List HitT} (hq : q.Good) (hs : ∀ c ∈ set, c.Ok q) (hh : HitsOk q hits) (htl : q.trans.length ≤ 12) (hhl : hits.length ≤ 12) (hsl : ∀ t ∈ q.trans, t.sets.length ≤ 1000000) (hset : set.length ≤ 1000) :
    P_ Tryz.prog G n_proctorref19_All [qeaV q, cfgsV set, hitsV hits] (.tup [cfgsV (all19 q set hits).1, iv (all19 q set hits).2]) := by
  refine pc_proctorref19_All (Runs.of fun Φ h => ?_)
  unfold c_proctorref19_All
  have hone := fun (c : CfgT) (hc : c ∈ set) => ref19_One_pc (G := G) hq (hs c hc) hh htl hhl hsl
  have hook := fun (c : CfgT) (hc : c ∈ set) => one19_ok hq (hs c hc) hh hhl htl
  unfold all19 at h
  dsimp only at h
  generalize hS : set.foldl (acc19 q hits) ([], 0) = S at *
  simp -implicitDefEqProofs only [go_sem, qeaV, d_, q_, f_, s_, s10, n_, t_, cfgsV, hitsV, List.length_map]
  refine at_loopW (fun n st => ∃ (i : Nat) (out : List CfgT) (bad : Int), i + n = set.length ∧ st = ⟨56, [(1, cfgsV set), (2, hitsV hits), (3, .ref 3 0 0), (8, cfgsV out), (9, iv bad), (10, iv i)], [(3, ⟨false, taQ_, 9, [qeaV q]⟩), (6, ⟨true, taC_, 2, []⟩)]⟩ ∧ (set.drop i).foldl (acc19 q hits) (out, bad) = S ∧ out.length ≤ 200 * i ∧ ∀ x ∈ out, x.Ok q) set.length
    ⟨56, [(1, cfgsV set), (2, hitsV hits), (3, .ref 3 0 0), (8, cfgsV []), (9, iv 0), (10, iv 0)], [(3, ⟨false, taQ_, 9, [qeaV q]⟩), (6, ⟨true, taC_, 2, []⟩)]⟩ (weak_thaw (i := 8) rfl rfl) ⟨0, [], 0, by simp, rfl, hS, by simp, fun x hx => by cases hx⟩ ?_
  rintro I hI n st ⟨i, out, bad, hi, rfl, hgo, hol, hok⟩
  by_cases hlt' : i < set.length
  · obtain ⟨c, hc, hcm⟩ := as10 hlt'
    have hw := ws_ hlt' (by omega)
    have hlt : ((i : Int) < (set.length : Int)) = True := by simp; exact hlt'
    rw [dropC_at hc, List.foldl_cons] at hgo
    rw [acc19] at hgo
    have hnext : ∀ out' bad', (set.drop (i + 1)).foldl (acc19 q hits) (out', bad') = S → out'.length ≤ 200 * (i + 1) → (∀ x ∈ out', x.Ok q) → again I n ⟨56, [(1, cfgsV set), (2, hitsV hits), (3, .ref 3 0 0), (8, cfgsV out'), (9, iv bad'), (10, iv (i + 1 : Nat))], [(3, ⟨false, taQ_, 9, [qeaV q]⟩), (6, ⟨true, taC_, 2, []⟩)]⟩ := fun out' bad' h1 h2 h3 => aa_ (n - 1) (by omega) (hI _ _ ⟨i + 1, out', bad', by omega, rfl, h1, h2, h3⟩)
    have h1 := hone c hcm
    obtain ⟨hwok, hwl⟩ := hook c hcm
    have h2 := fun e => ref19_worse_pc (G := G) bad e
    clear hI h hone hook
    generalize one19 q c hits = O at *
    obtain ⟨W, oe⟩ := O
    have h2 := h2 oe
    dsimp only at hgo hwok hwl h1
    generalize worseR bad oe = wr at *
    obtain ⟨cst, cv⟩ := c
    simp only [qeaV, d_, q_, f_, s_, s10, n_, t_, cfgV, cfgsV, hitsV] at h1
    repeat' (first | (simp -implicitDefEqProofs only [go_sem, qeaV, d_, q_, f_, s_, s10, n_, t_, cfgV, cfgsV, hitsV, List.length_map, hlt, decide_true, am_ hc, hw]) | refine ag_ (fun hb => ?_) (fun hb => ?_) | refine ⟨fun hb => ?_, fun hb => ?_⟩ | refine ac_ (h1) rfl rfl ?_ | refine ac_ (h2) rfl rfl ?_ | fail)
    refine al_ (fun n' st => ∃ (k : Nat) (out' : List CfgT), k + n' = W.length ∧ st = ⟨56, [(1, cfgsV set), (2, hitsV hits), (3, .ref 3 0 0), (8, cfgsV out'), (9, iv wr), (10, iv i), (11, cfgsV W), (13, iv k)], [(3, ⟨false, taQ_, 9, [qeaV q]⟩), (6, ⟨true, taC_, 2, []⟩)]⟩ ∧ (W.drop k).foldl putR out' = W.foldl putR out ∧ out'.length ≤ 200 * i + k ∧ ∀ x ∈ out', x.Ok q) W.length ⟨0, out, by simp, rfl, rfl, by omega, hok⟩ ?_
    rintro J hJ n' st ⟨k, out', hk, rfl, hgo', hol', hok'⟩
    by_cases hlk : k < W.length
    · obtain ⟨x, hx, hxm⟩ := as10 hlk
      have hwk := ws_ hlk (by omega)
      have hltk : ((k : Int) < (W.length : Int)) = True := by simp; exact hlk
      rw [dropC_at hx, List.foldl_cons] at hgo'
      have hput := ref18_Put_pc (G := G) out' x (by omega) (fun y hy => (hok' y hy).sm hq) ((hwok x hxm).sm hq)
      have hpl := putR_len out' x
      have hpm : ∀ y ∈ putR out' x, y.Ok q := fun y hy => (putR_mem hy).elim (hok' y) fun e => e ▸ hwok x hxm
      have hnx := hJ (n' - 1) _ ⟨k + 1, putR out' x, by omega, rfl, hgo', by omega, hpm⟩
      generalize putR out' x = pr at *
      clear hJ hgo' hpm
      obtain ⟨xst, xv⟩ := x
      simp only [cfgV, cfgsV] at hput
      repeat' (first | (simp -implicitDefEqProofs only [go_sem, qeaV, d_, q_, f_, s_, s10, n_, t_, cfgV, cfgsV, hitsV, List.length_map, hltk, decide_true, am_ hx, hwk]) | refine ag_ (fun hb => ?_) (fun hb => ?_) | refine ⟨fun hb => ?_, fun hb => ?_⟩ | refine ac_ (hput) rfl rfl ?_ | fail)
      exact aa_ (n' - 1) (by omega) hnx
    · have hltk : ((k : Int) < (W.length : Int)) = False := by simp; omega
      rw [List.drop_eq_nil_of_le (by omega), List.foldl_nil] at hgo'
      rw [← hgo'] at hgo
      have hnx := hnext _ _ hgo (by omega) hok'
      clear hJ hgo' hgo hnext
      repeat' (first | (simp -implicitDefEqProofs only [go_sem, qeaV, d_, q_, f_, s_, s10, n_, t_, cfgsV, hitsV, List.length_map, hltk, decide_false, hw]) | refine ag_ (fun hb => ?_) (fun hb => ?_) | refine ⟨fun hb => ?_, fun hb => ?_⟩ | fail)
      exact hnx
  · have hlt : ((i : Int) < (set.length : Int)) = False := by simp; omega
    rw [List.drop_eq_nil_of_le (by omega), List.foldl_nil] at hgo
    subst hgo
    dsimp only at h
    clear hI hone hook
    by_cases hb : bad = 0
    · subst hb
      rw [if_neg (by simp)] at h
      by_cases h256 : 256 < out.length
      · rw [if_pos h256] at h
        have e1 : ((256 : Int) < (out.length : Int)) = True := by simp; omega
        repeat' (first | (simp -implicitDefEqProofs only [go_sem, qeaV, d_, q_, f_, s_, s10, n_, t_, cfgsV, hitsV, List.length_map, hlt, decide_false, e1, decide_true]) | refine ag_ (fun hb => ?_) (fun hb => ?_) | refine ⟨fun hb => ?_, fun hb => ?_⟩ | fail)
        exact h _ ⟨_, _, rfl, rfl, .refl _⟩
      · rw [if_neg h256] at h
        have e1 : ((256 : Int) < (out.length : Int)) = False := by simp; omega
        repeat' (first | (simp -implicitDefEqProofs only [go_sem, qeaV, d_, q_, f_, s_, s10, n_, t_, cfgsV, hitsV, List.length_map, hlt, decide_false, e1]) | refine ag_ (fun hb => ?_) (fun hb => ?_) | refine ⟨fun hb => ?_, fun hb => ?_⟩ | fail)
        exact h _ ⟨_, _, rfl, rfl, .refl _⟩
    · rw [if_pos hb] at h
      have e1 : (bad == 0) = false := by simp [hb]
      have e2 : (bad != 0) = true := by simp [hb]
      repeat' (first | (simp -implicitDefEqProofs only [go_sem, qeaV, d_, q_, f_, s_, s10, n_, t_, cfgsV, hitsV, List.length_map, hlt, decide_false, e1, e2]) | refine ag_ (fun hb => ?_) (fun hb => ?_) | refine ⟨fun hb => ?_, fun hb => ?_⟩ | fail)
      exact h _ ⟨_, _, rfl, rfl, .refl _⟩
end Go.Proofs.YtjbcfpkibnhodaaGreatDoor.Ab
