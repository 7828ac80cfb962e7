/-
  The law SubsetHits. No claim is proved here.
-/
import Derived.Test.YtjbcfpkibnhodaaGreatDoorWSb11
namespace Go.Proofs.YtjbcfpkibnhodaaGreatDoor.Ab
open Go Go.RowKit
set_option linter.unusedSimpArgs false
set_option maxHeartbeats 4000000
set_option maxRecDepth 100000
variable {G : Nat → Option AV}
theorem set_same {a b : List Nat} (h : a = b) (hl : a.length ≤ 1000) : P_ Tryz.prog G n_proctorref18_Same [.seq 2 (a.map cfgN), cfgsV (b.map cfgC)] (.bool true) := by
  subst h
  have hsm : ∀ x ∈ a.map cfgC, x.Sm := fun x hx => by
    obtain ⟨i, _, rfl⟩ := List.mem_map.1 hx
    exact ⟨by simp [cfgC], fun v hv => by cases hv⟩
  have h1 := ref18_Same_pc (G := G) (a.map cfgC) (a.map cfgC) hsm hsm (by simpa using hl)
  rw [zipB_refl (fun x => by simp [cfgOne, cfgTO.irr])] at h1
  refine P_.fit2 (args' := [cfgsV (a.map cfgC), cfgsV (a.map cfgC)]) rfl (fun j c d hc hd => ?_) h1
  match j, hc, hd with
  | 0, hc, hd => cases hc; cases hd; exact cfgN_fit a
  | 1, hc, hd => cases hc; cases hd; exact .refl _
theorem law28_SubsetHits_pc (hG : wg_ G) (q : QeaT) (h64 : ∀ x ∈ q.nodes, i64 x.value.int) (b : List SlotT) (m : Nat) (hm : m < 4294967296) (e : EvT) (he64 : ∀ v ∈ e.args, i64 v.int) : P_ Tryz.prog G n_proctorlaw28_SubsetHits [qeaV q, s11 b, .int .u32 (m : Int), eventV e] (.bool true) := by
  have ha := law28_awake_pc hG
  have hfw := ref13_Few_pc (G := G) q
  refine pc_proctorlaw28_SubsetHits (Runs.of fun Φ h => ?_)
  unfold c_proctorlaw28_SubsetHits
  cases hf : fewQ q with
  | false =>
    rw [hf, if_neg (by decide)] at hfw
    simp only [qeaV, d_, q_, f_, s_, s10, n_, t_] at hfw
    repeat' (first | (simp -implicitDefEqProofs only [go_sem, qeaV, d_, q_, f_, s_, s10, n_, t_, eventV, s11]) | refine ag_ (fun hb => ?_) (fun hb => ?_) | refine ⟨fun hb => ?_, fun hb => ?_⟩ | refine ac_ (hfw) rfl rfl ?_ | refine ac_ (ha) rfl rfl ?_ | fail)
    exact h _ ⟨_, _, rfl, rfl, .refl _⟩
  | true =>
    rw [hf, if_pos rfl] at hfw
    have hfew := few_of q hf
    have hst := few_states hf
    by_cases hbl : 8 < b.length
    · have e8 : ((8 : Int) < (b.length : Int)) = True := by simp; omega
      simp only [qeaV, d_, q_, f_, s_, s10, n_, t_] at hfw
      repeat' (first | (simp -implicitDefEqProofs only [go_sem, qeaV, d_, q_, f_, s_, s10, n_, t_, eventV, s11, List.length_map, e8, decide_true]) | refine ag_ (fun hb => ?_) (fun hb => ?_) | refine ⟨fun hb => ?_, fun hb => ?_⟩ | refine ac_ (hfw) rfl rfl ?_ | refine ac_ (ha) rfl rfl ?_ | fail)
      exact h _ ⟨_, _, rfl, rfl, .refl _⟩
    have e8 : ((8 : Int) < (b.length : Int)) = False := by simp; omega
    have hr5 := ref05_Right_pc (G := G) b (by omega)
    have hr13 := ref13_Right_pc (G := G) q hfew
    have hp28 := ref28_Plain_pc (G := G) q hfew.trans hfew.frees
    rw [show (q.trans.all (fun t => t.guard == -1) && decide (q.frees.length = 0)) = plain28 q from rfl] at hp28
    have hr8 := ref08_Right_pc (G := G) q.decls e hfew.decls hfew.types
    simp only [qeaV, d_, q_, f_, s_, s10, n_, t_, s11, eventV] at hfw hr5 hr13 hp28 hr8
    cases hz1 : bindOk b with
    | false =>
      rw [hz1] at hr5
      repeat' (first | (simp -implicitDefEqProofs only [go_sem, qeaV, d_, q_, f_, s_, s10, n_, t_, eventV, s11, List.length_map, e8, decide_false]) | refine ag_ (fun hb => ?_) (fun hb => ?_) | refine ⟨fun hb => ?_, fun hb => ?_⟩ | refine ac_ (hfw) rfl rfl ?_ | refine ac_ (hr5) rfl rfl ?_ | refine ac_ (ha) rfl rfl ?_ | fail)
      exact h _ ⟨_, _, rfl, rfl, .refl _⟩
    | true =>
    rw [hz1] at hr5
    cases hz2 : rightR q with
    | false =>
      rw [hz2] at hr13
      repeat' (first | (simp -implicitDefEqProofs only [go_sem, qeaV, d_, q_, f_, s_, s10, n_, t_, eventV, s11, List.length_map, e8, decide_false]) | refine ag_ (fun hb => ?_) (fun hb => ?_) | refine ⟨fun hb => ?_, fun hb => ?_⟩ | refine ac_ (hfw) rfl rfl ?_ | refine ac_ (hr5) rfl rfl ?_ | refine ac_ (hr13) rfl rfl ?_ | refine ac_ (ha) rfl rfl ?_ | fail)
      exact h _ ⟨_, _, rfl, rfl, .refl _⟩
    | true =>
    rw [hz2] at hr13
    cases hz3 : plain28 q with
    | false =>
      rw [hz3] at hp28
      repeat' (first | (simp -implicitDefEqProofs only [go_sem, qeaV, d_, q_, f_, s_, s10, n_, t_, eventV, s11, List.length_map, e8, decide_false]) | refine ag_ (fun hb => ?_) (fun hb => ?_) | refine ⟨fun hb => ?_, fun hb => ?_⟩ | refine ac_ (hfw) rfl rfl ?_ | refine ac_ (hr5) rfl rfl ?_ | refine ac_ (hr13) rfl rfl ?_ | refine ac_ (hp28) rfl rfl ?_ | refine ac_ (ha) rfl rfl ?_ | fail)
      exact h _ ⟨_, _, rfl, rfl, .refl _⟩
    | true =>
    rw [hz3] at hp28
    cases hz4 : evR q.decls e with
    | false =>
      rw [hz4] at hr8
      repeat' (first | (simp -implicitDefEqProofs only [go_sem, qeaV, d_, q_, f_, s_, s10, n_, t_, eventV, s11, List.length_map, e8, decide_false]) | refine ag_ (fun hb => ?_) (fun hb => ?_) | refine ⟨fun hb => ?_, fun hb => ?_⟩ | refine ac_ (hfw) rfl rfl ?_ | refine ac_ (hr5) rfl rfl ?_ | refine ac_ (hr13) rfl rfl ?_ | refine ac_ (hp28) rfl rfl ?_ | refine ac_ (hr8) rfl rfl ?_ | refine ac_ (ha) rfl rfl ?_ | fail)
      exact h _ ⟨_, _, rfl, rfl, .refl _⟩
    | true =>
    rw [hz4] at hr8
    have g1 := shl32 (s := q.states.length) (by omega)
    have g2 := u64_nat (m := q.states.length) (by omega)
    by_cases hm2 : 2 ^ q.states.length ≤ m
    · have e9 : (((2 ^ q.states.length : Nat) : Int) ≤ (m : Int)) = True := by rw [eq_iff_iff]; exact ⟨fun _ => trivial, fun _ => by omega⟩
      generalize 2 ^ q.states.length = p2 at *
      repeat' (first | (simp -implicitDefEqProofs only [go_sem, qeaV, d_, q_, f_, s_, s10, n_, t_, eventV, s11, List.length_map, e8, decide_false, g1, g2, e9, decide_true]) | refine ag_ (fun hb => ?_) (fun hb => ?_) | refine ⟨fun hb => ?_, fun hb => ?_⟩ | refine ac_ (hfw) rfl rfl ?_ | refine ac_ (hr5) rfl rfl ?_ | refine ac_ (hr13) rfl rfl ?_ | refine ac_ (hp28) rfl rfl ?_ | refine ac_ (hr8) rfl rfl ?_ | refine ac_ (ha) rfl rfl ?_ | fail)
      exact h _ ⟨_, _, rfl, rfl, .refl _⟩
    have e9 : (((2 ^ q.states.length : Nat) : Int) ≤ (m : Int)) = False := by rw [eq_iff_iff]; exact ⟨fun _ => by omega, fun h => h.elim⟩
    have hq := plain_of hf hz2 hz3 h64
    have hsl := hq.mask.states
    have hkl := hq.mask.symbols
    obtain ⟨htl, htsl⟩ := sets_few hf
    have hn : (rightC q && plainS q) = true := by rw [right_eq, ← plain28_eq hz2, hz2, hz3]; rfl
    have hnw := New_hc hG q hfew (by omega) (by omega) hn
    have hel : e.args.length ≤ 1000000 := by
      unfold evR at hz4
      split at hz4
      · cases hz4
      · rename_i d hd
        rw [Bool.and_eq_true, beq_iff_eq] at hz4
        obtain ⟨j, _, hj⟩ := at?_some hd
        have := hfew.types d (List.mem_of_getElem? hj)
        omega
    have hall := ref17_All_pc (G := G) q e (syms_ok hf hz2) hel
    obtain ⟨hok, hri, hl12, hb8, hsy⟩ := hits_plain (b := b) hq hz4 he64
    have hal := allHits_len q e q.symbols.length
    have hun := ref17_Under_pc (G := G) (a_ q e q.symbols.length) b (by omega) (fun h hh => by have := hb8 h hh; omega) (by omega)
    have hsm : ∀ h ∈ u_ (a_ q e q.symbols.length) b, 0 ≤ h.symbol := fun h hh => (hsy h hh).1
    have hap := all_plain hq hok hsm m
    rw [← all19_eq hri] at hap
    have hhc := Auto_Hits_hc (G := G) q hq.mask [] (by intro e he; cases he) m hm (u_ (a_ q e q.symbols.length) b) (by omega) (fun h hh => by have := hsy h hh; omega)
    have hr19 := ref19_All_pc (G := G) (set := (setN q.states.length m).map cfgC) hq.good (fun c hc => by
      obtain ⟨i, hi, rfl⟩ := List.mem_map.1 hc
      exact hq.cfg (setN_mem.1 hi).1) hok htl hl12 htsl (by rw [List.length_map]; have := setN_len q.states.length m; omega)
    rw [hap] at hr19
    have hr19 := P_.fit2 (P := Tryz.prog) (f := n_proctorref19_All) (args := [qeaV q, .seq 2 ((setN q.states.length m).map cfgN), hitsV (u_ (a_ q e q.symbols.length) b)]) (args' := [qeaV q, cfgsV ((setN q.states.length m).map cfgC), hitsV (u_ (a_ q e q.symbols.length) b)]) rfl (fun j c d hc hd => by
      match j, hc, hd with
      | 0, hc, hd => cases hc; cases hd; exact .refl _
      | 1, hc, hd => cases hc; cases hd; exact cfgN_fit _
      | 2, hc, hd => cases hc; cases hd; exact .refl _) hr19
    have hs28 := ref28_Set_pc (G := G) q hsl m
    have hmb : maskH (u_ (a_ q e q.symbols.length) b) < 2 ^ q.symbols.length := by
      apply Nat.lt_pow_two_of_testBit
      intro i hi
      rw [Bool.eq_false_iff]
      intro hb
      obtain ⟨h, hh, e⟩ := (mask_bit _ i).1 hb
      have := hsy h hh
      omega
    have hown : ownN q (m, maskH (u_ (a_ q e q.symbols.length) b)) = (m, maskH (u_ (a_ q e q.symbols.length) b)) := by
      unfold ownN
      rw [Nat.mod_eq_of_lt (by omega), Nat.mod_eq_of_lt hmb]
    rw [hown] at hhc
    have hm0 : maskH (u_ (a_ q e q.symbols.length) b) = 0 ↔ u_ (a_ q e q.symbols.length) b = [] := by
      constructor
      · intro h0
        cases hu : u_ (a_ q e q.symbols.length) b with
        | nil => rfl
        | cons x l =>
          have := (mask_bit (u_ (a_ q e q.symbols.length) b) x.symbol.toNat).2 ⟨x, by rw [hu]; simp, rfl⟩
          rw [h0] at this
          simp at this
      · intro h0
        rw [h0]
        rfl
    clear hap hok hri hb8 hsy hal hown hmb hsm
    generalize a_ q e q.symbols.length = AH at *
    generalize u_ AH b = L at *
    generalize maskH L = k at *
    have hstep : stepN q (m, k) = if L = [] then m else nextN q m k := by
      unfold stepN
      by_cases h0 : L = []
      · rw [if_pos (hm0.2 h0), if_pos h0]
      · rw [if_neg (fun e => h0 (hm0.1 e)), if_neg h0]
    rw [hstep] at hhc
    generalize addK q [] (m, k) = K' at *
    have hnl := nextN_lt hq.mask m k
    have hset := Auto_Set_pn (G := G) q (knownV K') hsl (nextN q m k) hnl
    have hsame := set_same (G := G) (a := setN q.states.length (nextN q m k)) rfl (by have := setN_len q.states.length (nextN q m k); omega)
    clear hm0 hstep
    generalize nextN q m k = v at *
    generalize setN q.states.length m = S0 at *
    generalize setN q.states.length v = S1 at *
    generalize 2 ^ q.states.length = p2 at *
    simp only [autoBox, autoE, mapBox, List.map_nil, qeaV, d_, q_, f_, s_, s10, n_, t_, s11, eventV, hitsV, knownV, cfgsV] at hnw hall hun hhc hr19 hs28 hset hsame
    by_cases hL : L = []
    · rw [if_pos hL] at hhc
      subst hL
      have e0 : ((m : Int) == (m : Int)) = true := by simp
      have hz0 : ((0 : Nat) : Int) = 0 := rfl
      simp only [List.map_nil] at hun hhc
      repeat' (first | (simp -implicitDefEqProofs only [go_sem, qeaV, d_, q_, f_, s_, s10, n_, t_, eventV, s11, List.length_map, e8, decide_false, g1, g2, e9, e0, hz0]) | refine ag_ (fun hb => ?_) (fun hb => ?_) | refine ⟨fun hb => ?_, fun hb => ?_⟩ | refine ac_ (hfw) rfl rfl ?_ | refine ac_ (hr5) rfl rfl ?_ | refine ac_ (hr13) rfl rfl ?_ | refine ac_ (hp28) rfl rfl ?_ | refine ac_ (hr8) rfl rfl ?_ | (refine at_callH [(27, 55), (12, 50)] hnw rfl trivial rfl rfl rfl ?_) | refine ac_ (hall) rfl rfl ?_ | refine ac_ (hun) rfl rfl ?_ | (refine at_callH [(1001, 55), (1002, 50)] hhc rfl ⟨⟨_, _, rfl, rfl, rfl⟩, ⟨_, _, rfl, rfl, rfl⟩, trivial⟩ rfl rfl rfl ?_) | refine ac_ (ha) rfl rfl ?_ | fail)
      exact h _ ⟨_, _, rfl, rfl, .refl _⟩
    · rw [if_neg hL] at hhc
      have e0 : ((L.length : Int) == 0) = false := by
        have : L.length ≠ 0 := fun e => hL (List.eq_nil_of_length_eq_zero e)
        simp
        omega
      repeat' (first | (simp -implicitDefEqProofs only [go_sem, qeaV, d_, q_, f_, s_, s10, n_, t_, eventV, s11, List.length_map, e8, decide_false, g1, g2, e9, e0]) | refine ag_ (fun hb => ?_) (fun hb => ?_) | refine ⟨fun hb => ?_, fun hb => ?_⟩ | refine ac_ (hfw) rfl rfl ?_ | refine ac_ (hr5) rfl rfl ?_ | refine ac_ (hr13) rfl rfl ?_ | refine ac_ (hp28) rfl rfl ?_ | refine ac_ (hr8) rfl rfl ?_ | (refine at_callH [(27, 55), (12, 50)] hnw rfl trivial rfl rfl rfl ?_) | refine ac_ (hall) rfl rfl ?_ | refine ac_ (hun) rfl rfl ?_ | (refine at_callH [(1001, 55), (1002, 50)] hhc rfl ⟨⟨_, _, rfl, rfl, rfl⟩, ⟨_, _, rfl, rfl, rfl⟩, trivial⟩ rfl rfl rfl ?_) | refine ac_ (hs28) rfl rfl ?_ | refine ac_ (hr19) rfl rfl ?_ | (refine at_callN hset rfl (FitL.refl _) rfl ?_) | refine ac_ (hsame) rfl rfl ?_ | refine ac_ (ha) rfl rfl ?_ | fail)
      exact h _ ⟨_, _, rfl, rfl, .refl _⟩
end Go.Proofs.YtjbcfpkibnhodaaGreatDoor.Ab
