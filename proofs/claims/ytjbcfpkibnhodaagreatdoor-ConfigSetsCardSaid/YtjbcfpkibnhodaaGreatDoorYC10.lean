/-
  The law ConfigSets. No claim is proved here.
-/
import Derived.Test.YtjbcfpkibnhodaaGreatDoorYOd1
import Derived.Test.YtjbcfpkibnhodaaGreatDoorYPa1
import Derived.Test.YtjbcfpkibnhodaaGreatDoorYC9
namespace Go.Proofs.YtjbcfpkibnhodaaGreatDoor.Ab
open Go Go.RowKit
set_option linter.unusedSimpArgs false
set_option maxHeartbeats 4000000
set_option maxRecDepth 100000
variable {G : Nat → Option AV}
theorem cfgR_okC {q : QeaT} {c : CfgT} (h : cfgR q c = true) : okCfg c := fun v hv => by
  unfold cfgR at h
  simp only [Bool.and_eq_true, decide_eq_true_eq] at h
  obtain ⟨f1, f2⟩ := fitsR_at h.2.2
  obtain ⟨j, hj⟩ := List.getElem?_of_mem hv
  obtain ⟨f, hf, _⟩ := at_some (l := q.frees) (i := j) (by have := (List.getElem?_eq_some_iff.1 hj).1; omega)
  exact (f2 j v f hj hf).1
theorem names_short {q : QeaT} (h : rightR q = true) : ∀ s ∈ q.states, s.name.length ≤ 1000 := fun s hs => by
  have h1 := (right_parts h).1
  unfold headR at h1
  simp only [Bool.and_eq_true] at h1
  obtain ⟨i, hi⟩ := List.getElem?_of_mem (List.mem_map.2 ⟨s, hs, rfl⟩ : s.name ∈ q.names)
  have h2 := allI_true.1 h1.2.2.2.1 i _ hi
  unfold nameR at h2
  rw [Bool.and_eq_true] at h2
  have := nameOk_len h2.1
  omega
theorem inits_short {q : QeaT} (h : fewQ q = true) : ∀ f ∈ q.frees, f.init.str.length ≤ 100 := fun f hf => by
  unfold fewQ at h
  simp only [Bool.and_eq_true] at h
  obtain ⟨i, hi⟩ := List.getElem?_of_mem hf
  have h2 := allI_true.1 h.2.2.2.1 i _ hi
  unfold short at h2
  simp only [decide_eq_true_eq] at h2
  omega
theorem less_states {a b : CfgT} (h : cfgLess a b = true) : a.state ≤ b.state := by
  unfold cfgLess at h
  by_cases e : a.state = b.state
  · omega
  · rw [if_pos e] at h
    simp only [decide_eq_true_eq] at h
    omega
theorem law18_ConfigSets_pc (hT : TextG G) (q : QeaT) (l : List CfgT) (h64 : ∀ c ∈ l, ∀ v ∈ c.vals, i64 v.int) : PureC Tryz.prog G n_proctorlaw18_ConfigSets [qeaV q, cfgsV l] (.bool true) := by
  have ha := law18_awake_pc hT.pow
  have hs1 := law18_small_pc (G := G) q l
  refine pc_proctorlaw18_ConfigSets (Runs.of fun Φ h => ?_)
  unfold c_proctorlaw18_ConfigSets
  cases h1 : small18 q l with
  | false =>
    rw [h1] at hs1
    simp only [qeaV, declsV, quantsV, freesV, statesV, symsV, nodesV, transsV, cfgsV] at hs1
    repeat' (first | (simp -implicitDefEqProofs only [go_sem, qeaV, declsV, quantsV, freesV, statesV, symsV, nodesV, transsV, cfgsV]) | refine at_guard (fun hb => ?_) (fun hb => ?_) | refine ⟨fun hb => ?_, fun hb => ?_⟩ | refine at_call (hs1) rfl rfl ?_ | refine at_call (ha) rfl rfl ?_ | fail)
    exact h _ ⟨_, _, rfl, rfl, .refl _⟩
  | true =>
    obtain ⟨oa, sa⟩ := setOK h1 h64
    rw [h1] at hs1
    unfold small18 at h1
    simp only [Bool.and_eq_true, decide_eq_true_eq] at h1
    obtain ⟨hq, hl, hsh, hr⟩ := h1
    have hfew := few_of q hq
    have hff : q.frees.length ≤ 12 := by
      unfold fewQ fewTop at hq
      simp only [Bool.and_eq_true, decide_eq_true_eq] at hq
      have := hq.1.2.2.1
      omega
    have hst := few_states hq
    have hlen : ∀ c ∈ l, c.vals.length ≤ 20 ∧ ∀ v ∈ c.vals, v.str.length ≤ 1000 := fun c hc => by
      obtain ⟨i, hi⟩ := List.getElem?_of_mem hc
      have h1 := allI_true.1 hsh i c hi
      simp only [Bool.and_eq_true, decide_eq_true_eq] at h1
      refine ⟨by omega, fun v hv => ?_⟩
      obtain ⟨j, hj⟩ := List.getElem?_of_mem hv
      have h2 := allI_true.1 h1.2 j v hj
      simp only [decide_eq_true_eq] at h2
      omega
    have hsQ := short_of hq hr
    have hto : ∀ c ∈ l, cfgR q c = true → TextOk q c := fun c hc hz => ⟨hsQ.frees, names_short hr, by omega, fun v hv => ⟨cfgR_okC hz v hv, h64 c hc v hv, (hlen c hc).2 v hv⟩⟩
    have hokl : ∀ c ∈ l.filter (cfgR q), okCfg c := fun c hc => cfgR_okC (List.mem_filter.1 hc).2
    have hset := setC_of hokl
    have hsorted : (ofR (l.filter (cfgR q))).Pairwise fun a b => cfgLess a b = true := by
      rw [← hset]
      exact cfgTO.order_strict hokl
    have hmem : ∀ c, c ∈ ofR (l.filter (cfgR q)) ↔ c ∈ l.filter (cfgR q) := fun c => by rw [← hset]; exact orderO_mem
    have hfl : (l.filter (cfgR q)).length ≤ 100 := by have := List.length_filter_le (cfgR q) l; omega
    have hr1 := law18_rights_pc (G := G) q l (by omega) (fun c hc => by have := (hlen c hc).1; omega) (by omega)
    have ho1 := ref18_Of_pc (G := G) (l.filter (cfgR q)) hfl sa
    have hof := config_Of_pc (G := G) q l (by omega) (by omega) (fun c hc => by have := (hlen c hc).1; omega) (fun c hc hz => ⟨cfgR_okC hz, oa.st c ((hmem c).2 (List.mem_filter.2 ⟨hc, hz⟩))⟩)
    rw [hset] at hof
    have hwl : ∀ c ∈ ofR (l.filter (cfgR q)), c ∈ l ∧ cfgR q c = true := fun c hc => List.mem_filter.1 ((hmem c).1 hc)
    have hsame := ref18_Same_pc (G := G) _ _ oa.sm oa.sm (by have := oa.len; omega)
    rw [same_eq oa.right oa.right, decide_eq_true rfl] at hsame
    have hstw : ∀ c ∈ ofR (l.filter (cfgR q)), 0 ≤ c.state ∧ c.state < q.states.length := fun c hc => by
      have := (hwl c hc).2
      unfold cfgR at this
      simp only [Bool.and_eq_true, decide_eq_true_eq] at this
      exact ⟨this.1, this.2.1⟩
    have hwlen := oa.len
    have hac1 := config_Accepts_pc (G := G) q (ofR (l.filter (cfgR q))) (by omega) hstw
    have hac2 := ref18_Accepts_pc (G := G) q (ofR (l.filter (cfgR q))) (by omega) hstw
    have hb1 := config_Start_pc (G := G) q (by omega)
    have hb2 := ref18_Start_pc (G := G) q (by omega)
    have hsm0 : ∀ x ∈ [startC q], x.Sm := fun x hx => by
      obtain rfl := List.mem_singleton.1 hx
      refine ⟨by show (q.frees.map (·.init)).length ≤ 1000; rw [List.length_map]; omega, fun v hv => ?_⟩
      obtain ⟨f, hf, rfl⟩ := List.mem_map.1 hv
      have := inits_short hq f hf
      omega
    have hb3 := ref18_Same_pc (G := G) [startC q] [startC q] hsm0 hsm0 (by simp)
    rw [show zipB cfgOne [startC q] [startC q] = true by simp [zipB, cfgOne, cfgTO.irr]] at hb3
    have hb4 := PureC.fit2 (P := Tryz.prog) (f := n_proctorref18_Same) (args := [.seq 2 [startV q], .seq 2 [startV q]]) (args' := [cfgsV [startC q], cfgsV [startC q]]) rfl (fun j c d hc hd => by
      match j, hc, hd with
      | 0, hc, hd => cases hc; cases hd; exact startV_fit q
      | 1, hc, hd => cases hc; cases hd; exact startV_fit q) hb3
    clear hb3
    have hk := config_Key_pc (G := G) (ofR (l.filter (cfgR q))) (by omega) fun c hc => (oa.key c hc).1
    have hss := config_States_pc (G := G) (ofR (l.filter (cfgR q))) (by omega) fun c hc => by have := hstw c hc; omega
    have hkey : ∀ c ∈ ofR (l.filter (cfgR q)), c.Key := fun c hc => (oa.key c hc).1
    generalize l.filter (cfgR q) = lf at *
    generalize ofR lf = W at *
    generalize W.any (accR q) = acc at *
    generalize startV q = sv at *
    clear hset hokl hmem sa oa hfl hsh hfew
    simp only [qeaV, declsV, quantsV, freesV, statesV, symsV, nodesV, transsV, cfgsV] at hs1 hr1 ho1 hof hsame hac1 hac2 hb1 hb2 hb4 hk hss
    have hzz : (acc != acc) = false := by simp
    repeat' (first | (simp -implicitDefEqProofs only [go_sem, qeaV, declsV, quantsV, freesV, statesV, symsV, nodesV, transsV, cfgsV, hzz]) | refine at_guard (fun hb => ?_) (fun hb => ?_) | refine ⟨fun hb => ?_, fun hb => ?_⟩ | refine at_call (hs1) rfl rfl ?_ | refine at_call (hr1) rfl rfl ?_ | refine at_call (ho1) rfl rfl ?_ | refine at_call (hof) rfl rfl ?_ | refine at_call (hsame) rfl rfl ?_ | refine at_call (hac1) rfl rfl ?_ | refine at_call (hac2) rfl rfl ?_ | refine at_call (hb1) rfl rfl ?_ | refine at_call (hb2) rfl rfl ?_ | refine at_call (hb4) rfl rfl ?_ | fail)
    refine at_loop (fun n st => ∃ (i : Nat) (m : Str) (s : Nat), i + n = W.length ∧ st = ⟨153, [(1, .seq 2 (l.map cfgV)), (2, .ref 2 0 0), (5, .seq 2 (W.map cfgV)), (6, .seq 2 (W.map cfgV)), (7, .arr 7 0 m.length), (8, .int .u32 (s : Int)), (9, iv i)], [(2, ⟨false, t_api_Qea, 9, [qeaV q]⟩), (7, ⟨true, t_uint8, 1, m.map byV⟩)]⟩ ∧ m = keySet (W.take i) ∧ s = statesR (W.take i)) W.length ⟨0, [], 0, by simp, by simp [qeaV, declsV, quantsV, freesV, statesV, symsV, nodesV, transsV]; rfl, rfl, rfl⟩ ?_
    rintro I hI n st ⟨i, m, s, hi, rfl, hm, hs⟩
    simp -implicitDefEqProofs only [go_sem, qeaV, declsV, quantsV, freesV, statesV, symsV, nodesV, transsV, List.length_map]
    refine ⟨fun hlt => ?_, fun hge => ?_⟩
    · have hlt' : i < W.length := by omega
      obtain ⟨c, hc, hcm⟩ := at_some hlt'
      have hw := wrap_succ hlt' (by omega)
      have hck := hkey c hcm
      have hsl : s < 2 ^ 12 := by
        rw [hs]
        exact states_lt (W.take i) 0 (by decide) fun x hx => by
          have := hstw x (List.mem_of_mem_take hx)
          omega
      have hml : m.length ≤ 2009001000 := by
        have := keySet_len (W.take i) fun x hx => hkey x (List.mem_of_mem_take hx)
        rw [hm]
        simp only [List.length_take] at this
        omega
      have hkl := keyVs_len c.vals fun v hv => (hck.ok v hv).2.2
      have hcl := hck.len
      have hks := ref04_Keys_pc (G := G) c.vals hck.len hck.ok
      obtain ⟨hcl1, hcz⟩ := hwl c hcm
      have ht1 := config_Text_pc hT q c (by omega) (by omega) (hto c hcl1)
      have ht2 := ref18_Text_pc (G := G) q c hcz (hto c hcl1 hcz)
      have hnx := keySet_succ hc
      rw [← hm] at hnx
      obtain ⟨h0, h12⟩ := hstw c hcm
      have hby : IntKind.u8.wrap c.state = ((UInt8.ofNat c.state.toNat).toNat : Int) := by
        simp [IntKind.wrap, IntKind.bits, IntKind.signed]
        omega
      have hb1 : m.length + 1 ≤ 140737488355328 := by omega
      have hb2 : m.length + 1 + (keyVs c.vals).length ≤ 140737488355328 := by omega
      have hnew := states_new hc
      have hother : ∀ (j : Nat) d, i = j + 1 → W[j]? = some d → (d.state = c.state → statesR (W.take (i + 1)) = s) ∧ (¬ d.state = c.state → statesR (W.take (i + 1)) = s + stR c) := fun j d hj hd => by
        subst hj
        have hpw := List.pairwise_iff_getElem.1 hsorted
        have hle : ∀ (a : Nat) x y, a < j + 1 → W[a]? = some x → W[j + 1]? = some y → x.state ≤ y.state := fun a x y haj hx hy => by
          obtain ⟨a1, rfl⟩ := List.getElem?_eq_some_iff.1 hx
          obtain ⟨a2, rfl⟩ := List.getElem?_eq_some_iff.1 hy
          exact less_states (hpw a (j + 1) a1 a2 haj)
        refine ⟨fun e => by rw [states_same hc hd e, hs], fun e => ?_⟩
        rw [hs]
        refine hnew fun x hx => ?_
        obtain ⟨a, hax⟩ := List.getElem?_of_mem hx
        have hal := (List.getElem?_eq_some_iff.1 hax).1
        rw [List.length_take] at hal
        rw [List.getElem?_take_of_lt (by omega)] at hax
        have hx0 := (hstw x (List.mem_of_getElem? hax)).1
        have hd1 := hle j d c (by omega) hd hc
        have hxd : x.state ≤ d.state := by
          by_cases e2 : a = j
          · subst e2; rw [hax] at hd; cases hd; omega
          · obtain ⟨a1, rfl⟩ := List.getElem?_eq_some_iff.1 hax
            obtain ⟨a2, rfl⟩ := List.getElem?_eq_some_iff.1 hd
            exact less_states (hpw a j a1 a2 (by omega))
        omega
      have hfirst : i = 0 → statesR (W.take (i + 1)) = s + stR c := fun e => by rw [hs]; exact hnew fun x hx => by subst e; simp at hx
      have hpl : stR c < 4096 := Nat.lt_of_lt_of_le (Nat.pow_lt_pow_right (by decide) (show c.state.toNat < 12 by omega)) (Nat.le_refl (2 ^ 12))
      clear hck hkl hcl hnew hkey hto hwl hsorted h64 hlen
      unfold stR at *
      generalize keyVs c.vals = y at *
      generalize textC q c = tx at *
      have htx : (!(tx == tx)) = false := by simp
      obtain ⟨x, vs⟩ := c
      simp only at hks hby hnx hpl hother hfirst h0 h12
      generalize UInt8.ofNat x.toNat = z at *
      obtain ⟨k, rfl⟩ := Int.eq_ofNat_of_zero_le h0
      rw [Int.toNat_natCast] at *
      have hsh1 := shl32 (s := k) (by omega)
      have hsh3 := u64_nat (m := k) (by omega)
      generalize 2 ^ k = p at *
      have hadd : IntKind.u32.wrap ((s : Int) + (p : Int)) = ((s + p : Nat) : Int) := by
        simp [IntKind.wrap, IntKind.bits, IntKind.signed]
        omega
      simp only [qeaV, declsV, quantsV, freesV, statesV, symsV, nodesV, transsV, cfgV] at ht1 ht2
      simp only [valsV] at hks
      by_cases hi0 : i = 0
      · have e0 : ((i : Int) == 0) = true := by simp [hi0]
        have hsx := hfirst hi0
        repeat' (first | (simp -implicitDefEqProofs only [go_sem, qeaV, declsV, quantsV, freesV, statesV, symsV, nodesV, transsV, aiaddr_map hc, cfgV, bytesV, hw, hby, List.length_map, List.length_append, hb1, hb2, Nat.mul_one, e0, hsh1, hsh3, hadd, htx]) | refine at_guard (fun hb => ?_) (fun hb => ?_) | refine ⟨fun hb => ?_, fun hb => ?_⟩ | refine at_call (hks) rfl rfl ?_ | refine at_call (ht1) rfl rfl ?_ | refine at_call (ht2) rfl rfl ?_ | fail)
        refine at_again (n - 1) (by omega) (hI _ _ ⟨i + 1, m ++ z :: y, s + p, by omega, ?_, hnx.symm, hsx.symm⟩)
        simp [byV, qeaV, declsV, quantsV, freesV, statesV, symsV, nodesV, transsV]
        omega
      · obtain ⟨j, hj⟩ : ∃ j, i = j + 1 := ⟨i - 1, by omega⟩
        obtain ⟨d, hd, hdm⟩ := at_some (l := W) (i := j) (by omega)
        obtain ⟨ho1, ho2⟩ := hother j d hj hd
        have e0 : ((i : Int) == 0) = false := by simp [hi0]
        have hsub : IntKind.i64.wrap ((i : Int) - 1) = (j : Int) := by rw [wrap_i64 (by omega) (by omega)]; omega
        obtain ⟨x2, vs2⟩ := d
        simp only at ho1 ho2
        by_cases he : x2 = (k : Int)
        · have hsx := ho1 he
          have hne : ((k : Int) != x2) = false := by simp [he]
          repeat' (first | (simp -implicitDefEqProofs only [go_sem, qeaV, declsV, quantsV, freesV, statesV, symsV, nodesV, transsV, aiaddr_map hc, aiaddr_map hd, cfgV, bytesV, hw, hby, List.length_map, List.length_append, hb1, hb2, Nat.mul_one, e0, hsub, hne, htx]) | refine at_guard (fun hb => ?_) (fun hb => ?_) | refine ⟨fun hb => ?_, fun hb => ?_⟩ | refine at_call (hks) rfl rfl ?_ | refine at_call (ht1) rfl rfl ?_ | refine at_call (ht2) rfl rfl ?_ | fail)
          refine at_again (n - 1) (by omega) (hI _ _ ⟨i + 1, m ++ z :: y, s, by omega, ?_, hnx.symm, hsx.symm⟩)
          simp [byV, qeaV, declsV, quantsV, freesV, statesV, symsV, nodesV, transsV]
          omega
        · have hsx := ho2 he
          have hne : ((k : Int) != x2) = true := by simp [Ne.symm he]
          repeat' (first | (simp -implicitDefEqProofs only [go_sem, qeaV, declsV, quantsV, freesV, statesV, symsV, nodesV, transsV, aiaddr_map hc, aiaddr_map hd, cfgV, bytesV, hw, hby, List.length_map, List.length_append, hb1, hb2, Nat.mul_one, e0, hsub, hne, hsh1, hsh3, hadd, htx]) | refine at_guard (fun hb => ?_) (fun hb => ?_) | refine ⟨fun hb => ?_, fun hb => ?_⟩ | refine at_call (hks) rfl rfl ?_ | refine at_call (ht1) rfl rfl ?_ | refine at_call (ht2) rfl rfl ?_ | fail)
          refine at_again (n - 1) (by omega) (hI _ _ ⟨i + 1, m ++ z :: y, s + p, by omega, ?_, hnx.symm, hsx.symm⟩)
          simp [byV, qeaV, declsV, quantsV, freesV, statesV, symsV, nodesV, transsV]
          omega
    · rw [List.take_of_length_le (by omega)] at hm hs
      subst hm
      subst hs
      have ht : List.take (keySet W).length ((keySet W).map byV) = (keySet W).map byV := List.take_of_length_le (by simp)
      clear hi hge hI I hkey hwl hstw hsorted
      generalize keySet W = ks at *
      generalize statesR W = sw at *
      have hks : (ks == ks) = true := by simp
      have hsw : ((sw : Int) == (sw : Int)) = true := by simp
      repeat' (first | (simp -implicitDefEqProofs only [go_sem]) | refine at_guard (fun hb => ?_) (fun hb => ?_) | refine ⟨fun hb => ?_, fun hb => ?_⟩ | fail)
      refine at_loop (fun n st => ∃ i : Nat, i + n = l.length ∧ st = ⟨153, [(1, .seq 2 (l.map cfgV)), (2, .ref 2 0 0), (6, .seq 2 (W.map cfgV)), (7, .arr 7 0 ks.length), (8, .int .u32 (sw : Int)), (10, iv i)], [(2, ⟨false, t_api_Qea, 9, [qeaV q]⟩), (7, ⟨true, t_uint8, 1, ks.map byV⟩)]⟩) l.length ⟨0, by simp, by simp [qeaV, declsV, quantsV, freesV, statesV, symsV, nodesV, transsV]; rfl⟩ ?_
      rintro I hI n st ⟨i, hi, rfl⟩
      simp -implicitDefEqProofs only [go_sem, qeaV, declsV, quantsV, freesV, statesV, symsV, nodesV, transsV, List.length_map]
      refine ⟨fun hlt => ?_, fun hge => ?_⟩
      · have hlt' : i < l.length := by omega
        obtain ⟨c, hc, hcm⟩ := at_some hlt'
        have hw := wrap_succ hlt' (by omega)
        have hcl := (hlen c hcm).1
        have g1 := ref18_Right_pc (G := G) q c (by omega) (by omega)
        have g2 := config_Right_pc (G := G) q c (by omega) (by omega)
        have g3 := config_Text_pc hT q c (by omega) (by omega) (hto c hcm)
        unfold textC at g3
        generalize cfgR q c = z at *
        obtain ⟨x, vs⟩ := c
        simp only [qeaV, declsV, quantsV, freesV, statesV, symsV, nodesV, transsV, cfgV] at g1 g2 g3
        cases z
        · rw [if_neg (by decide)] at g3
          repeat' (first | (simp -implicitDefEqProofs only [go_sem, qeaV, declsV, quantsV, freesV, statesV, symsV, nodesV, transsV, aiaddr_map hc, cfgV, hw]) | refine at_guard (fun hb => ?_) (fun hb => ?_) | refine ⟨fun hb => ?_, fun hb => ?_⟩ | refine at_call (g1) rfl rfl ?_ | refine at_call (g2) rfl rfl ?_ | refine at_call (g3) rfl rfl ?_ | fail)
          exact at_again (n - 1) (by omega) (hI _ _ ⟨i + 1, by omega, rfl⟩)
        · repeat' (first | (simp -implicitDefEqProofs only [go_sem, qeaV, declsV, quantsV, freesV, statesV, symsV, nodesV, transsV, aiaddr_map hc, cfgV, hw]) | refine at_guard (fun hb => ?_) (fun hb => ?_) | refine ⟨fun hb => ?_, fun hb => ?_⟩ | refine at_call (g1) rfl rfl ?_ | refine at_call (g2) rfl rfl ?_ | refine at_call (g3) rfl rfl ?_ | fail)
          exact at_again (n - 1) (by omega) (hI _ _ ⟨i + 1, by omega, rfl⟩)
      · repeat' (first | (simp -implicitDefEqProofs only [go_sem, ht, asBytes_map, Nat.le_refl, if_true, Option.map_some, List.length_map, Option.bind_some, hks, hsw]) | refine at_guard (fun hb => ?_) (fun hb => ?_) | refine ⟨fun hb => ?_, fun hb => ?_⟩ | refine at_call (hk) rfl rfl ?_ | refine at_call (hss) rfl rfl ?_ | refine at_call (ha) rfl rfl ?_ | fail)
        exact h _ ⟨_, _, rfl, rfl, .refl _⟩
end Go.Proofs.YtjbcfpkibnhodaaGreatDoor.Ab
