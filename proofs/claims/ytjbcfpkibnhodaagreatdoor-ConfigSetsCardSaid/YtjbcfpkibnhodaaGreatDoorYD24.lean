/-
  proctorref13.trans. Which automata may be: that the code's and the reference's answers are the same. No claim is proved here.
-/
import Derived.Test.YtjbcfpkibnhodaaGreatDoorYD17
import Derived.Test.YtjbcfpkibnhodaaGreatDoorYD21
import Derived.Test.YtjbcfpkibnhodaaGreatDoorYD22
namespace Go.Proofs.YtjbcfpkibnhodaaGreatDoor.Ab
open Go
set_option linter.unusedSimpArgs false
set_option maxHeartbeats 4000000
variable {G : Nat → Option AV}
theorem run_assoc {P : Program} {Φ : St → Prop} (a b c : AC) (κ : List Kt) (st : St) : run P G Φ (.seq a (.seq b c)) κ st = run P G Φ (.seq (.seq a b) c) κ st := by
  simp only [run_seq]
  unfold run
  congr 1
  funext e st'
  cases e
  · exact run_seq b c κ st'
  · rfl
  · rfl
theorem run_assoc2 {P : Program} {Φ : St → Prop} (x a b c : AC) (κ : List Kt) (st : St) : run P G Φ (.seq x (.seq (.seq a b) c)) κ st = run P G Φ (.seq (.seq x a) (.seq b c)) κ st := by
  simp only [run_seq]
  unfold run
  congr 1
  funext e st'
  cases e
  · show run P G Φ (.seq (.seq a b) c) κ st' = run P G Φ a (.code (.seq b c) :: κ) st'
    rw [run_seq, run_seq]
    unfold run
    congr 1
    funext e st'
    cases e
    · exact (run_seq b c κ st').symm
    · rfl
    · rfl
  · rfl
  · rfl
def restR (q : QeaT) (t : TransT) (from_ a1 : Int) : Int × Bool :=
  let r := allS (setStep q (exprs q) t.sets) t.sets 0 a1
  if r.1 = true then (r.2, match at? q.symbols t.symbol with | some s => (mid q.nodes from_ r.2).all fun x => !(x.op == 2) || namesS s x.a | none => false) else (0, false)
def transR (q : QeaT) (t : TransT) (from_ : Int) : Int × Bool :=
  if (inR t.from_ q.states.length && (inR t.to_ q.states.length && inR t.symbol q.symbols.length)) = false then (0, false)
  else if t.guard = -1 then restR q t from_ from_
  else if wholeS (exprs q) from_ t.guard 3 = true then restR q t from_ (t.guard + 1) else (0, false)
def tupR (r : Int × Bool) : AV := .tup [iv r.1, .bool r.2]
theorem ref13_trans_pc (q : QeaT) (hq : q.Few) (hk : q.Kinds) (t : TransT) (ht : t.sets.length ≤ 1000000) (from_ : Int) (ha : 0 ≤ from_) (hal : from_ ≤ q.nodes.length) : PureC Tryz.prog G n_proctorref13_trans [qeaV q, transV t, iv from_] (tupR (transR q t from_)) := by
  have hln : (exprs q).length = q.nodes.length := exL_length q _ (by omega)
  have hnl := hq.nodes
  refine pc_proctorref13_trans (Runs.of fun Φ h => ?_)
  unfold c_proctorref13_trans
  have fin : ∀ a b heap, transR q t from_ = (a, b) → Φ ⟨153, [(6, iv a), (7, .bool b)], heap⟩ := fun a b heap e => h _ ⟨_, _, rfl, rfl, fit_eq (by rw [e]; rfl)⟩
  clear h
  by_cases hc : (inR t.from_ q.states.length && (inR t.to_ q.states.length && inR t.symbol q.symbols.length)) = false
  · have fin0 := fun heap => fin 0 false heap (by rw [transR, if_pos hc])
    clear fin
    obtain ⟨t1, t2, t3, t4, sets⟩ := t
    dsimp only at *
    simp only [inR, Bool.and_eq_false_imp, decide_eq_true_eq, decide_eq_false_iff_not, Bool.and_eq_true] at hc
    repeat' (first | (simp -implicitDefEqProofs only [go_sem, transV, setsV, qeaV, declsV, quantsV, freesV, statesV, symsV, nodesV, transsV, List.length_map]) | refine at_guard (fun hb => ?_) (fun hb => ?_) | refine ⟨fun hb => ?_, fun hb => ?_⟩ | fail)
    all_goals first | exact fin0 _ | (exfalso; simp at *; omega)
  · obtain ⟨t1, t2, t3, t4, sets⟩ := t
    dsimp only at *
    have hin : inR t1 q.states.length = true ∧ inR t3 q.states.length = true ∧ inR t2 q.symbols.length = true := by
      rw [Bool.not_eq_false] at hc
      simpa only [Bool.and_eq_true] using hc
    obtain ⟨hi1, hi2, hi3⟩ := hin
    simp only [inR, Bool.and_eq_true, decide_eq_true_eq] at hi1 hi2 hi3
    obtain ⟨j2, rfl⟩ := Int.eq_ofNat_of_zero_le hi3.1
    obtain ⟨sy, hsy, hsm⟩ := at_some (l := q.symbols) (i := j2) (by omega)
    have hsl : sy.args.length < 9223372036854775807 := by have := hq.args sy hsm; omega
    rw [run_assoc, run_assoc, run_assoc, run_assoc2]
    refine at_cut (fun st => ∃ a1 : Int, st = ⟨153, [(2, iv from_), (3, .ref 3 0 0), (4, .ref 4 0 0), (8, iv a1), (11, iv 0)], [(4, ⟨false, t_api_Trans, 5, [transV ⟨t1, j2, t3, t4, sets⟩]⟩), (3, ⟨false, t_api_Qea, 9, [qeaV q]⟩)]⟩ ∧ 0 ≤ a1 ∧ a1 ≤ q.nodes.length ∧ transR q ⟨t1, j2, t3, t4, sets⟩ from_ = restR q ⟨t1, j2, t3, t4, sets⟩ from_ a1) ?_ ?_
    · have hK := ref13_Kind_pc (G := G) q hq.nodes from_ t4
      have kw := kind_whole hk from_ t4 3
      have hre1 : t4 = -1 → transR q ⟨t1, j2, t3, t4, sets⟩ from_ = restR q ⟨t1, j2, t3, t4, sets⟩ from_ from_ := fun h => by rw [transR, if_neg hc, if_pos h]
      have hre2 : ¬ t4 = -1 → wholeS (exprs q) from_ t4 3 = true → transR q ⟨t1, j2, t3, t4, sets⟩ from_ = restR q ⟨t1, j2, t3, t4, sets⟩ from_ (t4 + 1) := fun h hw => by rw [transR, if_neg hc, if_neg h, if_pos hw]
      have hre3 : ¬ t4 = -1 → wholeS (exprs q) from_ t4 3 = false → transR q ⟨t1, j2, t3, t4, sets⟩ from_ = (0, false) := fun h hw => by rw [transR, if_neg hc, if_neg h, if_neg (by rw [hw]; simp)]
      have hwl := fun h => wholeS_le (l := exprs q) (a := from_) (r := t4) (k := 3) h
      have hwp := fun h => wholeS_pos (l := exprs q) (a := from_) (r := t4) (k := 3) ha h
      have hwx : wholeS (exprs q) from_ t4 3 = true → IntKind.i64.wrap (t4 + 1) = t4 + 1 := fun h => wrap_i64 (by have := hwp h; omega) (by have := hwl h; omega)
      rw [hln] at hwl
      generalize wholeS (exprs q) from_ t4 3 = w at *
      generalize kindR q from_ t4 = kd at *
      obtain ⟨k, d⟩ := kd
      dsimp only at kw
      simp only [qeaV, declsV, quantsV, freesV, statesV, symsV, nodesV, transsV] at hK
      by_cases hg : t4 = -1
      · clear hre2 hre3
        subst hg
        repeat' (first | (simp -implicitDefEqProofs only [go_sem, transV, setsV, qeaV, declsV, quantsV, freesV, statesV, symsV, nodesV, transsV, List.length_map]) | refine at_guard (fun hb => ?_) (fun hb => ?_) | refine ⟨fun hb => ?_, fun hb => ?_⟩ | refine at_call (hK) rfl rfl ?_ | fail)
        all_goals first | exact ⟨_, rfl, ha, hal, hre1 rfl⟩ | (exfalso; simp at *; omega)
      · cases w with
        | false =>
          have hre3 := hre3 hg rfl
          clear hre1 hre2 hwl hwp hwx
          repeat' (first | (simp -implicitDefEqProofs only [go_sem, transV, setsV, qeaV, declsV, quantsV, freesV, statesV, symsV, nodesV, transsV, List.length_map]) | refine at_guard (fun hb => ?_) (fun hb => ?_) | refine ⟨fun hb => ?_, fun hb => ?_⟩ | refine at_call (hK) rfl rfl ?_ | fail)
          all_goals first | exact fin _ _ _ hre3 | (exfalso; simp at *; omega) | (exfalso; simp_all; omega)
        | true =>
          have hre2 := hre2 hg rfl
          have hwl := hwl rfl
          have hwp := hwp rfl
          have hwx := hwx rfl
          clear hre1 hre3
          repeat' (first | (simp -implicitDefEqProofs only [go_sem, transV, setsV, qeaV, declsV, quantsV, freesV, statesV, symsV, nodesV, transsV, List.length_map, hwx]) | refine at_guard (fun hb => ?_) (fun hb => ?_) | refine ⟨fun hb => ?_, fun hb => ?_⟩ | refine at_call (hK) rfl rfl ?_ | fail)
          all_goals first | exact ⟨_, rfl, hwp, by omega, hre2⟩ | (exfalso; simp at *; omega) | (exfalso; simp_all; omega)
    · rintro st ⟨a1, rfl, h0, hle1, hre⟩
      simp -implicitDefEqProofs only [go_sem, transV, setsV, qeaV, declsV, quantsV, freesV, statesV, symsV, nodesV, transsV, List.length_map]
      refine at_loop (fun n st => ∃ (i : Nat) (a : Int), i + n = sets.length ∧ st = ⟨153, [(2, iv from_), (3, .ref 3 0 0), (4, .ref 4 0 0), (8, iv a), (11, iv i)], [(3, ⟨false, t_api_Qea, 9, [qeaV q]⟩), (4, ⟨false, t_api_Trans, 5, [transV ⟨t1, j2, t3, t4, sets⟩]⟩)]⟩ ∧ 0 ≤ a ∧ a ≤ q.nodes.length ∧ allS (setStep q (exprs q) sets) sets 0 a1 = allS (setStep q (exprs q) sets) (sets.drop i) i a) sets.length ⟨0, a1, by simp, rfl, h0, hle1, rfl⟩ ?_
      rintro I hI n st ⟨i, a, hi, rfl, hpos, hle, hno⟩
      simp -implicitDefEqProofs only [go_sem, transV, setsV, qeaV, declsV, quantsV, freesV, statesV, symsV, nodesV, transsV, List.length_map]
      refine ⟨fun hlt => ?_, fun hge => ?_⟩
      · have hlt' : i < sets.length := by omega
        obtain ⟨⟨fr, ex⟩, hx, hm⟩ := at_some hlt'
        have hw := wrap_succ hlt' (by omega)
        have hK := ref13_Kind_pc (G := G) q hq.nodes a ex
        rw [allS_step hx] at hno
        simp only [qeaV, declsV, quantsV, freesV, statesV, symsV, nodesV, transsV] at hK
        cases hf : at? q.frees fr with
        | none =>
          have hnf := at?_none hf
          generalize kindR q a ex = kd at *
          obtain ⟨k, d⟩ := kd
          have hs : setStep q (exprs q) sets a i ⟨fr, ex⟩ = (false, a) := by simp [setStep, hf]
          rw [hs, if_neg (by simp)] at hno
          have hr : transR q ⟨t1, j2, t3, t4, sets⟩ from_ = (0, false) := by
            rw [hre, restR]
            dsimp only
            rw [hno, if_neg (by simp)]
          repeat' (first | (simp -implicitDefEqProofs only [go_sem, aiaddr_map hx, setV, transV, setsV, qeaV, declsV, quantsV, freesV, statesV, symsV, nodesV, transsV, hw, List.length_map]) | refine at_guard (fun hb => ?_) (fun hb => ?_) | refine ⟨fun hb => ?_, fun hb => ?_⟩ | refine at_call (hK) rfl rfl ?_ | fail)
          all_goals first | exact fin _ _ _ hr | (exfalso; simp at *; omega)
        | some f =>
          obtain ⟨j, rfl, hfj⟩ := at?_some hf
          have hjt := (List.getElem?_eq_some_iff.1 hfj).1
          have kw := kind_whole hk a ex f.init.kind
          have hs : setStep q (exprs q) sets a i ⟨j, ex⟩ = if ((sets.take i).any fun x => x.free == (j : Int)) = true then (false, a) else if wholeS (exprs q) a ex f.init.kind = true then (true, ex + 1) else (false, a) := by simp [setStep, hf]
          have hbad : ((sets.take i).any fun x => x.free == (j : Int)) = true ∨ wholeS (exprs q) a ex f.init.kind = false → transR q ⟨t1, j2, t3, t4, sets⟩ from_ = (0, false) := fun hor => by
            have hs' : setStep q (exprs q) sets a i ⟨j, ex⟩ = (false, a) := by
              rw [hs]
              rcases hor with h | h
              · rw [if_pos h]
              · rw [h]; simp
            rw [hs', if_neg (by simp)] at hno
            rw [hre, restR]
            dsimp only
            rw [hno, if_neg (by simp)]
          generalize kindR q a ex = kd at *
          obtain ⟨k, d⟩ := kd
          dsimp only at kw
          repeat' (first | (simp -implicitDefEqProofs only [go_sem, aiaddr_map hx, aiaddr_map hfj, freeV, setV, transV, setsV, qeaV, declsV, quantsV, freesV, statesV, symsV, nodesV, transsV, hw, List.length_map]) | refine at_guard (fun hb => ?_) (fun hb => ?_) | refine ⟨fun hb => ?_, fun hb => ?_⟩ | refine at_call (hK) rfl rfl ?_ | fail)
          all_goals try (exfalso; simp at *; omega)
          all_goals try (refine fin _ _ _ (hbad (Or.inr ?_)); rw [kw]; clear hK hno hs hbad kw hI fin hw; simp_all; done)
          have hwt : wholeS (exprs q) a ex f.init.kind = true := by
            rw [kw]
            clear hK hno hs hbad kw hI fin hw
            simp_all
          have hwl := wholeS_le hwt
          have hwp := wholeS_pos hpos hwt
          have hwx : IntKind.i64.wrap (ex + 1) = ex + 1 := wrap_i64 (by omega) (by omega)
          refine at_loop (fun m st => ∃ jj : Nat, jj + m = i ∧ st = ⟨153, [(2, iv from_), (3, .ref 3 0 0), (4, .ref 4 0 0), (11, iv i), (12, .ref 12 0 0), (15, iv jj)], [(3, ⟨false, t_api_Qea, 9, [qeaV q]⟩), (4, ⟨false, t_api_Trans, 5, [transV ⟨t1, j2, t3, t4, sets⟩]⟩), (12, ⟨false, t_api_Set, 2, [setV ⟨j, ex⟩]⟩)]⟩ ∧ ∀ p x, p < jj → sets[p]? = some x → (x.free == (j : Int)) = false) i ⟨0, by omega, rfl, fun p x hp => by omega⟩ ?_
          rintro J hJ m st ⟨jj, hjj, rfl, hall⟩
          simp -implicitDefEqProofs only [go_sem, setV, transV, setsV, qeaV, declsV, quantsV, freesV, statesV, symsV, nodesV, transsV, hw, hwx, List.length_map]
          refine ⟨fun hlt2 => ?_, fun hge2 => ?_⟩
          · have hlt2' : jj < i := by omega
            obtain ⟨y, hy, hym⟩ := at_some (l := sets) (i := jj) (by omega)
            have hw2 := wrap_succ hlt2' (by omega)
            repeat' (first | (simp -implicitDefEqProofs only [go_sem, aiaddr_map hy, setV, transV, setsV, qeaV, declsV, quantsV, freesV, statesV, symsV, nodesV, transsV, hw2, List.length_map]) | refine at_guard (fun hb => ?_) (fun hb => ?_) | refine ⟨fun hb => ?_, fun hb => ?_⟩ | fail)
            · refine fin _ _ _ (hbad (Or.inl (List.any_eq_true.2 ⟨y, ?_, ?_⟩)))
              · exact List.mem_iff_getElem?.2 ⟨jj, by rw [List.getElem?_take_of_lt hlt2']; exact hy⟩
              · simpa using hb
            · exact at_again (m - 1) (by omega) (hJ _ _ ⟨jj + 1, by omega, rfl, fun p x hp hx => by
                by_cases e : p = jj
                · subst e; rw [hy] at hx; cases hx; simpa using hb
                · exact hall p x (by omega) hx⟩)
          · have hany : ((sets.take i).any fun x => x.free == (j : Int)) = false := by
              rw [List.any_eq_false]
              intro y hy
              obtain ⟨p, hp⟩ := List.getElem?_of_mem hy
              rw [List.getElem?_take] at hp
              split at hp
              · rw [hall p y (by omega) hp]; simp
              · cases hp
            rw [hs, hany, hwt] at hno
            exact at_again (n - 1) (by omega) (hI _ _ ⟨i + 1, ex + 1, by omega, rfl, hwp, by omega, by simpa using hno⟩)
      · rw [allS_end (by omega)] at hno
        have hb := ref13_bound_pc (G := G) q hq.nodes sy hsl from_ a ha hle
        have hr : transR q ⟨t1, j2, t3, t4, sets⟩ from_ = (a, (mid q.nodes from_ a).all fun x => !(x.op == 2) || namesS sy x.a) := by
          rw [hre, restR]
          dsimp only
          rw [hno, if_pos rfl, at?_nat hsy]
        simp only [symV, argsV, qeaV, declsV, quantsV, freesV, statesV, symsV, nodesV, transsV] at hb
        repeat' (first | (simp -implicitDefEqProofs only [go_sem, aiaddr_map hsy, symV, argsV, transV, setsV, qeaV, declsV, quantsV, freesV, statesV, symsV, nodesV, transsV, List.length_map]) | refine at_guard (fun hb => ?_) (fun hb => ?_) | refine ⟨fun hb => ?_, fun hb => ?_⟩ | refine at_call (hb) rfl rfl ?_ | fail)
        all_goals exact fin _ _ _ hr
end Go.Proofs.YtjbcfpkibnhodaaGreatDoor.Ab
namespace Go.Proofs.YtjbcfpkibnhodaaGreatDoor.Ab
open Go
set_option linter.unusedSimpArgs false
def topR (q : QeaT) : Bool := (declCheck q.decls).1 == 0 && (fewS q && (decide (0 ≤ q.start) && (decide (q.start < q.states.length) && headR q)))
theorem top_kinds {q : QeaT} (h : headR q = true) : q.Kinds := by
  unfold headR at h
  simp only [Bool.and_eq_true] at h
  obtain ⟨h1, h2, _⟩ := h
  refine ⟨fun y hy => ?_, fun y hy => ?_⟩
  · obtain ⟨i, hi⟩ := List.getElem?_of_mem hy
    have := allI_true.1 h1 i y hi
    simpa [typeOk] using this
  · obtain ⟨i, hi⟩ := List.getElem?_of_mem hy
    exact allI_true.1 h2 i y hi
def stepR (q : QeaT) (a : Int) (_ : Nat) (t : TransT) : Bool × Int := ((transR q t a).2, (transR q t a).1)
def transAll (q : QeaT) : Bool := (allS (stepR q) q.trans 0 0).1 && (allS (stepR q) q.trans 0 0).2 == (q.nodes.length : Int)
def rightR (q : QeaT) : Bool := topR q && (transAll q && symbolsR q)
theorem transR_le {q : QeaT} {t : TransT} {a : Int} (h0 : 0 ≤ a) (hl : a ≤ q.nodes.length) (h : (transR q t a).2 = true) : 0 ≤ (transR q t a).1 ∧ (transR q t a).1 ≤ q.nodes.length ∧ inR t.symbol q.symbols.length = true := by
  have hln : (exprs q).length = q.nodes.length := exL_length q _ (by omega)
  have hrest : ∀ f a' : Int, 0 ≤ a' → a' ≤ (exprs q).length → (restR q t f a').2 = true → 0 ≤ (restR q t f a').1 ∧ (restR q t f a').1 ≤ q.nodes.length := fun f a' h1 h2 h => by
    have := allS_le (q := q) (l := exprs q) (sets := t.sets) (r := t.sets) (i := 0) h2
    unfold restR at h ⊢
    dsimp only at h ⊢
    split
    · dsimp only; omega
    · rename_i hn; rw [if_neg hn] at h; cases h
  unfold transR at h ⊢
  split at h
  · cases h
  · rename_i hc
    rw [if_neg hc]
    rw [Bool.not_eq_false, Bool.and_eq_true, Bool.and_eq_true] at hc
    split at h
    · rename_i hg
      rw [if_pos hg]
      have := hrest a a h0 (by omega) h
      exact ⟨this.1, this.2, hc.2.2⟩
    · rename_i hg
      rw [if_neg hg]
      split at h
      · rename_i hw
        rw [if_pos hw]
        have h1 := wholeS_le hw
        have h2 := wholeS_pos h0 hw
        have := hrest a _ h2 h1.2 h
        exact ⟨this.1, this.2, hc.2.2⟩
      · cases h
end Go.Proofs.YtjbcfpkibnhodaaGreatDoor.Ab
