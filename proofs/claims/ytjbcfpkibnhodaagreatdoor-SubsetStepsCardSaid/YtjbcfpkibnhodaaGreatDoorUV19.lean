/-
  The law SubsetSteps. How the arguments of the laws on sets of states are read. No claim is proved here.
-/
import Derived.Test.YtjbcfpkibnhodaaGreatDoorULi1
namespace Go.Proofs.YtjbcfpkibnhodaaGreatDoor.Ab
open Go Go.RowKit
set_option linter.unusedSimpArgs false
set_option maxHeartbeats 4000000
set_option maxRecDepth 100000
variable {G : Nat → Option AV}
def plain28 (q : QeaT) : Bool := q.trans.all (fun t => t.guard == -1) && decide (q.frees.length = 0)
theorem plain28_eq {q : QeaT} (h : rightR q = true) : plain28 q = plainS q := by
  have hg : ∀ t ∈ q.trans, t.guard = -1 ∨ 0 ≤ t.guard := fun t ht => by
    obtain ⟨k, hk⟩ := List.getElem?_of_mem ht
    exact (guard_from h hk).1
  unfold plain28 plainS
  rw [Bool.eq_iff_iff]
  simp only [Bool.and_eq_true, List.all_eq_true, beq_iff_eq, decide_eq_true_eq, Bool.not_eq_true', List.any_eq_false]
  constructor
  · rintro ⟨h1, h2⟩
    exact ⟨by omega, fun t ht => by have := h1 t ht; omega⟩
  · rintro ⟨h1, h2⟩
    exact ⟨fun t ht => by have := h2 t ht; have := hg t ht; omega, by omega⟩
theorem mask_of {q : QeaT} (hf : fewQ q = true) (h : rightR q = true) : MaskQ q := by
  have hst := few_states hf
  have hstart : 0 ≤ q.start ∧ q.start < q.states.length := by
    unfold rightR topR at h
    simp only [Bool.and_eq_true, decide_eq_true_eq] at h
    exact ⟨h.1.2.2.1, h.1.2.2.2.1⟩
  unfold fewQ fewTop at hf
  simp only [Bool.and_eq_true, decide_eq_true_eq] at hf
  exact ⟨hst, by omega, by omega, fun t ht => ⟨(transK h ht).sym0, (transK h ht).symL⟩, fun t ht => ⟨(transK h ht).to0, (transK h ht).toL⟩, hstart⟩
def maskV (k : Nat) : AV := .int .u64 (k : Int)
def masksV (l : List Nat) : AV := .seq 1 (l.map maskV)
theorem cfgN_fit (l : List Nat) : Fit2 (.seq 2 (l.map cfgN)) (cfgsV (l.map cfgC)) := by
  unfold cfgsV
  rw [List.map_map]
  refine .seq _ _ _ (by simp) (fun f hf => by obtain ⟨i, _, rfl⟩ := List.mem_map.1 hf; rfl) fun j a b ha hb => ?_
  rw [List.getElem?_map] at ha hb
  cases hj : l[j]? with
  | none => rw [hj] at ha; cases ha
  | some i =>
    rw [hj] at ha hb
    cases ha; cases hb
    refine .agg _ _ rfl fun j c d hc hd => ?_
    match j, hc, hd with
    | 0, hc, hd => cases hc; cases hd; exact .refl _
    | 1, hc, hd => cases hc; cases hd; exact .nil _
    | j + 2, hc, hd => cases hc
theorem zipB_refl {α : Type} {p : α → α → Bool} (h : ∀ x, p x x = true) : ∀ l : List α, zipB p l l = true
  | [] => rfl
  | x :: l => by rw [zipB, h x, zipB_refl h l]; rfl
theorem cfgN_same (l : List Nat) (hl : l.length ≤ 1000) : PureC Tryz.prog G n_proctorref18_Same [.seq 2 (l.map cfgN), .seq 2 (l.map cfgN)] (.bool true) := by
  have hsm : ∀ x ∈ l.map cfgC, x.Sm := fun x hx => by
    obtain ⟨i, _, rfl⟩ := List.mem_map.1 hx
    exact ⟨by simp [cfgC], fun v hv => by cases hv⟩
  have h1 := ref18_Same_pc (G := G) (l.map cfgC) (l.map cfgC) hsm hsm (by simpa using hl)
  have h2 : zipB cfgOne (l.map cfgC) (l.map cfgC) = true := zipB_refl (fun x => by simp [cfgOne, cfgTO.irr]) _
  rw [h2] at h1
  refine PureC.fit2 (args' := [cfgsV (l.map cfgC), cfgsV (l.map cfgC)]) rfl (fun j c d hc hd => ?_) h1
  match j, hc, hd with
  | 0, hc, hd => cases hc; cases hd; exact cfgN_fit l
  | 1, hc, hd => cases hc; cases hd; exact cfgN_fit l
theorem law28_SubsetSteps_pc (hG : words_global G) (q : QeaT) (s0 : Nat) (h0 : s0 < 4294967296) (sets : List Nat) (hsets : ∀ k ∈ sets, k < 18446744073709551616) : PureC Tryz.prog G n_proctorlaw28_SubsetSteps [qeaV q, .int .u32 (s0 : Int), masksV sets] (.bool true) := by
  have ha := law28_awake_pc hG
  have hfw := ref13_Few_pc (G := G) q
  refine pc_proctorlaw28_SubsetSteps (Runs.of fun Φ h => ?_)
  unfold c_proctorlaw28_SubsetSteps
  cases hf : fewQ q with
  | false =>
    rw [hf, if_neg (by decide)] at hfw
    simp only [qeaV, declsV, quantsV, freesV, statesV, symsV, nodesV, transsV] at hfw
    repeat' (first | (simp -implicitDefEqProofs only [go_sem, qeaV, declsV, quantsV, freesV, statesV, symsV, nodesV, transsV, masksV]) | refine at_guard (fun hb => ?_) (fun hb => ?_) | refine ⟨fun hb => ?_, fun hb => ?_⟩ | refine at_call (hfw) rfl rfl ?_ | refine at_call (ha) rfl rfl ?_ | fail)
    exact h _ ⟨_, _, rfl, rfl, .refl _⟩
  | true =>
    rw [hf, if_pos rfl] at hfw
    have hfew := few_of q hf
    have htl := hfew.trans
    have hfl := hfew.frees
    by_cases hlen : 30 < sets.length
    · have e30 : decide ((30 : Int) < (sets.length : Int)) = true := by simp; omega
      simp only [qeaV, declsV, quantsV, freesV, statesV, symsV, nodesV, transsV] at hfw
      repeat' (first | (simp -implicitDefEqProofs only [go_sem, qeaV, declsV, quantsV, freesV, statesV, symsV, nodesV, transsV, masksV, List.length_map, e30]) | refine at_guard (fun hb => ?_) (fun hb => ?_) | refine ⟨fun hb => ?_, fun hb => ?_⟩ | refine at_call (hfw) rfl rfl ?_ | refine at_call (ha) rfl rfl ?_ | fail)
      all_goals first | exact h _ ⟨_, _, rfl, rfl, .refl _⟩ | (exfalso; simp at *; omega)
    · have e30 : decide ((30 : Int) < (sets.length : Int)) = false := by simp; omega
      have hr := ref13_Right_pc (G := G) q hfew
      have hp := ref28_Plain_pc (G := G) q hfew.trans hfew.frees
      rw [show (q.trans.all (fun t => t.guard == -1) && decide (q.frees.length = 0)) = plain28 q from rfl] at hp
      cases hn : (rightC q && plainS q) with
      | false =>
        have hnw := New_nil hG q hfew hn
        have hz0 : ((0 : Nat) : Int) = 0 := rfl
        have hn1 := Auto_Start_nil (G := G)
        have hn2 := Auto_Next_nil (G := G) s0 1
        have hn3 := Auto_Set_nil (G := G) s0
        have hn4 := Auto_Accepts_nil (G := G) s0
        have hn5 := Auto_Known_nil (G := G)
        rw [right_eq] at hn
        have hn0 : (rightR q && plain28 q) = false := by
          cases hrr : rightR q with
          | false => rfl
          | true => rw [plain28_eq hrr, ← hrr]; exact hn
        generalize rightR q = b1 at *
        generalize plain28 q = b2 at *
        simp only [qeaV, declsV, quantsV, freesV, statesV, symsV, nodesV, transsV] at hfw hr hp hnw
        cases b1 <;> cases b2 <;> simp only [Bool.and_self, Bool.and_false, Bool.and_true, Bool.true_and, Bool.false_and, Bool.true_eq_false] at hn0
        all_goals
          repeat' (first | (simp -implicitDefEqProofs only [go_sem, qeaV, declsV, quantsV, freesV, statesV, symsV, nodesV, transsV, masksV, List.length_map, e30, hz0]) | refine at_guard (fun hb => ?_) (fun hb => ?_) | refine ⟨fun hb => ?_, fun hb => ?_⟩ | refine at_call (hfw) rfl rfl ?_ | refine at_call (hr) rfl rfl ?_ | refine at_call (hp) rfl rfl ?_ | refine at_call (hnw) rfl rfl ?_ | refine at_call (ha) rfl rfl ?_ | refine at_call (hn1) rfl rfl ?_ | refine at_call (hn2) rfl rfl ?_ | refine at_call (hn3) rfl rfl ?_ | refine at_call (hn4) rfl rfl ?_ | refine at_call (hn5) rfl rfl ?_ | fail)
          exact h _ ⟨_, _, rfl, rfl, .refl _⟩
      | true =>
        have hrr : rightR q = true := by
          rw [right_eq, Bool.and_eq_true] at hn
          exact hn.1
        have hpp : plain28 q = true := by
          rw [Bool.and_eq_true] at hn
          rw [plain28_eq hrr]
          exact hn.2
        have hmq := mask_of hf hrr
        have hsl := hmq.states
        have hkl := hmq.symbols
        have hnw := New_hc hG q hfew (by omega) (by omega) hn
        have hst := hmq.start
        rw [hrr] at hr
        rw [hpp] at hp
        have hs := Auto_Start_pc (G := G) q (knownV []) hst.1 (by omega)
        have hg1 := shl32 (s := q.start.toNat) (by omega)
        have hg2 := u64_nat (m := q.start.toNat) (by omega)
        have hcv : IntKind.u64.wrap q.start = (q.start.toNat : Int) := by
          have hge : q.start = (q.start.toNat : Int) := by omega
          rw [← hge] at hg2
          rw [hg2]
          exact hge
        simp only [autoBox, autoE, mapBox, List.map_nil] at hnw
        have hbne : ∀ z : Int, (z != z) = false := fun z => by simp
        simp only [qeaV, declsV, quantsV, freesV, statesV, symsV, nodesV, transsV] at hfw hr hp hnw
        generalize hsn : q.start.toNat = sn at *
        generalize 2 ^ sn = ps at *
        repeat' (first | (simp -implicitDefEqProofs only [go_sem, qeaV, declsV, quantsV, freesV, statesV, symsV, nodesV, transsV, masksV, List.length_map, e30, hbne, hcv, hg1]) | refine at_guard (fun hb => ?_) (fun hb => ?_) | refine ⟨fun hb => ?_, fun hb => ?_⟩ | refine at_call (hfw) rfl rfl ?_ | refine at_call (hr) rfl rfl ?_ | refine at_call (hp) rfl rfl ?_ | (refine at_callH [(27, 23), (12, 14)] hnw rfl trivial rfl rfl rfl ?_) | refine at_call (hs) rfl rfl ?_ | fail)
        clear hfw hr hp hnw hs hg1 hcv hsn
        refine at_loop (fun n st => ∃ (i m : Nat) (K : Known), i + n = sets.length ∧ m < 4294967296 ∧ OkK q K ∧ K.length ≤ i ∧ st = ⟨148, [(2, masksV sets), (3, .ref 3 0 0), (7, .ref 23 0 0), (8, .arr 8 0 K.length), (9, .int .u32 (m : Int)), (10, iv i)], [(3, ⟨false, t_api_Qea, 9, [qeaV q]⟩), (14, mapBox K), (23, autoBox q 14), (8, ⟨true, t_proctorref28_Pair, 2, (keysK K).map pairV⟩)]⟩) sets.length ⟨0, s0, [], by simp, h0, (fun e he => by cases he), by simp, rfl⟩ ?_
        rintro I hI n st ⟨i, m, K, hi, hm, hK, hKl, rfl⟩
        by_cases hlt' : i < sets.length
        · obtain ⟨k, hk, hkm⟩ := at_some hlt'
          have hw := wrap_succ hlt' (by omega)
          have hlt : ((i : Int) < (sets.length : Int)) = True := by simp; exact hlt'
          have hkb := hsets k hkm
          have hnext : ∀ (m' : Nat) (K' : Known), m' < 4294967296 → OkK q K' → K'.length ≤ i + 1 → again I n ⟨148, [(2, masksV sets), (3, .ref 3 0 0), (7, .ref 23 0 0), (8, .arr 8 0 K'.length), (9, .int .u32 (m' : Int)), (10, iv (i + 1 : Nat))], [(3, ⟨false, t_api_Qea, 9, [qeaV q]⟩), (14, mapBox K'), (23, autoBox q 14), (8, ⟨true, t_proctorref28_Pair, 2, (keysK K').map pairV⟩)]⟩ := fun m' K' h1 h2 h3 => at_again (n - 1) (by omega) (hI _ _ ⟨i + 1, m', K', by omega, h1, h2, h3, rfl⟩)
          have hown := ref28_Own_pc (G := G) q hsl hkl (m, k) hm hkb
          have hnx := Auto_Next_hc (G := G) q hmq K hK m k hm hkb
          have hx : (ownN q (m, k)).1 < 4294967296 := Nat.lt_of_le_of_lt (Nat.mod_le _ _) hm
          have hKok := addK_ok hK (ownN q (m, k))
          generalize ownN q (m, k) = p at *
          obtain ⟨x, y⟩ := p
          dsimp only at hx
          have hrn := ref22_Next_pc (G := G) q hmq x y
          have hnl := nextN_lt hmq x y
          have hhas := ref28_Has_pc (G := G) (keysK K) (x, y) (by simp [keysK]; omega)
          rw [show ((keysK K).any fun z => decide (z = (x, y))) = hasK K (x, y) from rfl] at hhas
          have hlk : ((keysK K).map pairV).length = K.length := by simp [keysK]
          have htk : List.take K.length ((keysK K).map pairV) = (keysK K).map pairV := List.take_of_length_le (by omega)
          have hb1 : (K.length + 1) * 16 ≤ 140737488355328 := by omega
          have hL := fun m' => cfgN_same (G := G) (setN q.states.length m') (by have := setN_len q.states.length m'; omega)
          have hkn := fun K' => Auto_Known_pc (G := G) q K'
          have hac := fun m' K' (h : m' < 4294967296) => Auto_Accepts_pc (G := G) q (knownV K') hsl m' h
          have hra := fun m' => ref23_Accepts_pc (G := G) q hsl m'
          have hset := fun m' K' (h : m' < 4294967296) => Auto_Set_pn (G := G) q (knownV K') hsl m' h
          have hrs := fun m' => ref28_Set_pc (G := G) q hsl m'
          have hbb : ∀ b : Bool, (b != b) = false := fun b => by cases b <;> rfl
          clear hI ha
          by_cases hy : y = 0
          · have e0 : ((y : Int) != 0) = false := by simp [hy]
            rw [addK, if_pos hy] at hnx
            rw [stepN, if_pos hy] at hnx
            have hnext := hnext x K hx hK (by omega)
            have hkn := hkn K
            have hac := hac x K hx
            have hra := hra x
            have hset := hset x K hx
            have hrs := hrs x
            have hL := hL x
            generalize setN q.states.length x = L at *
            generalize accN q x = acc at *
            simp only [qeaV, declsV, quantsV, freesV, statesV, symsV, nodesV, transsV, pairV, autoBox, autoE, mapBox, knownV, List.map_append, List.map_cons, List.map_nil, entV] at hown hnx hrn hhas hkn hac hra hset hrs
            simp only [autoBox, autoE, mapBox, keysK, List.map_append, List.map_cons, List.map_nil, entV, pairV, List.length_append, List.length_cons, List.length_nil, Nat.zero_add, qeaV, declsV, quantsV, freesV, statesV, symsV, nodesV, transsV, masksV] at hnext
            simp only [keysK] at hlk htk hhas ⊢
            generalize List.map pairV (List.map (fun z => z.1) K) = R at *
            repeat' (first | (simp -implicitDefEqProofs only [go_sem, qeaV, declsV, quantsV, freesV, statesV, symsV, nodesV, transsV, masksV, maskV, List.length_map, hlt, decide_true, aiaddr_map hk, autoBox, autoE, mapBox, keysK, pairV, e0, hbb, hw, hlk, hb1]) | refine at_guard (fun hb => ?_) (fun hb => ?_) | refine ⟨fun hb => ?_, fun hb => ?_⟩ | refine at_call (hown) rfl rfl ?_ | refine at_call (hrn) rfl rfl ?_ | (refine at_call hhas ?_ rfl ?_; (focus (simp [viewC, flat, viewBs, viewB, viewK, viewK.go, hget, htk, hlk]; done))) | (refine at_callH [(1001, 23), (1002, 14)] hnx rfl ⟨⟨_, _, rfl, rfl, rfl⟩, ⟨_, _, rfl, rfl, rfl⟩, trivial⟩ rfl rfl rfl ?_) | refine at_call (hkn) rfl rfl ?_ | refine at_call (hac) rfl rfl ?_ | refine at_call (hra) rfl rfl ?_ | (refine at_callN hset rfl (FitL.refl _) rfl ?_) | refine at_call (hrs) rfl rfl ?_ | refine at_call (hL) rfl rfl ?_ | fail)
            exact hnext
          · have e0 : ((y : Int) != 0) = true := by simp; omega
            rw [addK, if_neg hy] at hnx hKok
            rw [stepN, if_neg hy] at hnx
            cases hh : hasK K (x, y) with
            | true =>
              rw [hh] at hhas
              rw [if_pos hh] at hnx
              have hnext := hnext (nextN q x y) K hnl hK (by omega)
              dsimp only at hnx
              generalize nextN q x y = v at *
              have hkn := hkn K
              have hac := hac v K hnl
              have hra := hra v
              have hset := hset v K hnl
              have hrs := hrs v
              have hL := hL v
              generalize setN q.states.length v = L at *
              generalize accN q v = acc at *
              simp only [qeaV, declsV, quantsV, freesV, statesV, symsV, nodesV, transsV, pairV, autoBox, autoE, mapBox, knownV, List.map_append, List.map_cons, List.map_nil, entV] at hown hnx hrn hhas hkn hac hra hset hrs
              simp only [autoBox, autoE, mapBox, keysK, List.map_append, List.map_cons, List.map_nil, entV, pairV, List.length_append, List.length_cons, List.length_nil, Nat.zero_add, qeaV, declsV, quantsV, freesV, statesV, symsV, nodesV, transsV, masksV] at hnext
              simp only [keysK] at hlk htk hhas ⊢
              generalize List.map pairV (List.map (fun z => z.1) K) = R at *
              repeat' (first | (simp -implicitDefEqProofs only [go_sem, qeaV, declsV, quantsV, freesV, statesV, symsV, nodesV, transsV, masksV, maskV, List.length_map, hlt, decide_true, aiaddr_map hk, autoBox, autoE, mapBox, keysK, pairV, e0, hbb, hw, hlk, hb1]) | refine at_guard (fun hb => ?_) (fun hb => ?_) | refine ⟨fun hb => ?_, fun hb => ?_⟩ | refine at_call (hown) rfl rfl ?_ | refine at_call (hrn) rfl rfl ?_ | (refine at_call hhas ?_ rfl ?_; (focus (simp [viewC, flat, viewBs, viewB, viewK, viewK.go, hget, htk, hlk]; done))) | (refine at_callH [(1001, 23), (1002, 14)] hnx rfl ⟨⟨_, _, rfl, rfl, rfl⟩, ⟨_, _, rfl, rfl, rfl⟩, trivial⟩ rfl rfl rfl ?_) | refine at_call (hkn) rfl rfl ?_ | refine at_call (hac) rfl rfl ?_ | refine at_call (hra) rfl rfl ?_ | (refine at_callN hset rfl (FitL.refl _) rfl ?_) | refine at_call (hrs) rfl rfl ?_ | refine at_call (hL) rfl rfl ?_ | fail)
              exact hnext
            | false =>
              rw [hh] at hhas
              rw [if_neg (by simp [hh])] at hnx hKok
              have hnext := hnext (nextN q x y) _ hnl hKok (by simp; omega)
              dsimp only at hnx hKok hnext
              generalize nextN q x y = v at *
              have hkn := hkn (K ++ [((x, y), v)])
              rw [show (K ++ [((x, y), v)]).length = K.length + 1 by simp] at hkn
              have hac := hac v (K ++ [((x, y), v)]) hnl
              have hra := hra v
              have hset := hset v (K ++ [((x, y), v)]) hnl
              have hrs := hrs v
              have hL := hL v
              generalize setN q.states.length v = L at *
              generalize accN q v = acc at *
              simp only [qeaV, declsV, quantsV, freesV, statesV, symsV, nodesV, transsV, pairV, autoBox, autoE, mapBox, knownV, List.map_append, List.map_cons, List.map_nil, entV] at hown hnx hrn hhas hkn hac hra hset hrs
              simp only [autoBox, autoE, mapBox, keysK, List.map_append, List.map_cons, List.map_nil, entV, pairV, List.length_append, List.length_cons, List.length_nil, Nat.zero_add, qeaV, declsV, quantsV, freesV, statesV, symsV, nodesV, transsV, masksV] at hnext
              simp only [keysK] at hlk htk hhas ⊢
              generalize List.map pairV (List.map (fun z => z.1) K) = R at *
              repeat' (first | (simp -implicitDefEqProofs only [go_sem, qeaV, declsV, quantsV, freesV, statesV, symsV, nodesV, transsV, masksV, maskV, List.length_map, hlt, decide_true, aiaddr_map hk, autoBox, autoE, mapBox, keysK, pairV, e0, hbb, hw, hlk, hb1]) | refine at_guard (fun hb => ?_) (fun hb => ?_) | refine ⟨fun hb => ?_, fun hb => ?_⟩ | refine at_call (hown) rfl rfl ?_ | refine at_call (hrn) rfl rfl ?_ | (refine at_call hhas ?_ rfl ?_; (focus (simp [viewC, flat, viewBs, viewB, viewK, viewK.go, hget, htk, hlk]; done))) | (refine at_callH [(1001, 23), (1002, 14)] hnx rfl ⟨⟨_, _, rfl, rfl, rfl⟩, ⟨_, _, rfl, rfl, rfl⟩, trivial⟩ rfl rfl rfl ?_) | refine at_call (hkn) rfl rfl ?_ | refine at_call (hac) rfl rfl ?_ | refine at_call (hra) rfl rfl ?_ | (refine at_callN hset rfl (FitL.refl _) rfl ?_) | refine at_call (hrs) rfl rfl ?_ | refine at_call (hL) rfl rfl ?_ | fail)
              exact hnext
        · have hlt : ((i : Int) < (sets.length : Int)) = False := by simp; omega
          clear hI
          repeat' (first | (simp -implicitDefEqProofs only [go_sem, masksV, List.length_map, hlt, decide_false]) | refine at_guard (fun hb => ?_) (fun hb => ?_) | refine ⟨fun hb => ?_, fun hb => ?_⟩ | refine at_call (ha) rfl rfl ?_ | fail)
          exact h _ ⟨_, _, rfl, rfl, .refl _⟩
end Go.Proofs.YtjbcfpkibnhodaaGreatDoor.Ab
namespace Go.Proofs.YtjbcfpkibnhodaaGreatDoor.Ab
open Go Go.ChangeShapes Go.WideShapes Go.RowKit
set_option linter.unusedSimpArgs false
set_option maxRecDepth 100000
theorem u32_wf {n : Int} (h : (Lit.int .u32 n).wf = true) : ∃ k : Nat, n = k ∧ k < 4294967296 := by
  simp [Lit.wf, IntKind.min, IntKind.max, IntKind.signed, IntKind.bits] at h
  exact ⟨n.toNat, by omega, by omega⟩
theorem u64_wf {n : Int} (h : (Lit.int .u64 n).wf = true) : ∃ k : Nat, n = k ∧ k < 18446744073709551616 := by
  simp [Lit.wf, IntKind.min, IntKind.max, IntKind.signed, IntKind.bits] at h
  exact ⟨n.toNat, by omega, by omega⟩
theorem rU32 : RdT Tryz.prog 40 1 fun cs => ∃ k : {k : Nat // k < 4294967296}, cs = [.int .u32 (k.1 : Int)] :=
  (rd_int (t := 40) (k := .u32) (by kernel_rfl) (by kernel_rfl)).mono (by
    rintro _ ⟨n, rfl, h⟩
    obtain ⟨k, rfl, hk⟩ := u32_wf h
    exact ⟨⟨k, hk⟩, rfl⟩)
theorem rU64 : RdT Tryz.prog 57 1 fun cs => ∃ k : Nat, cs = [maskV k] ∧ k < 18446744073709551616 :=
  (rd_int (t := 57) (k := .u64) (by kernel_rfl) (by kernel_rfl)).mono (by
    rintro _ ⟨n, rfl, h⟩
    obtain ⟨k, rfl, hk⟩ := u64_wf h
    exact ⟨k, rfl, hk⟩)
theorem rMasks : RdT Tryz.prog 50 1 fun cs => ∃ l : {l : List Nat // ∀ k ∈ l, k < 18446744073709551616}, cs = [masksV l.1] :=
  (rd_slice false (t := 50) (by kernel_rfl) (by kernel_rfl) rU64 (by decide) (by
    rintro _ bs ⟨k, rfl, _⟩
    exact ⟨_, rfl, rfl⟩)).mono (by
    rintro _ ⟨es, rfl, hl, h⟩
    obtain ⟨l, rfl, hq⟩ := list_of' (f := maskV) (Q := fun k => k < 18446744073709551616) (fun x hx => by obtain ⟨_, ⟨o, e, q⟩, rfl⟩ := h x hx; exact ⟨o, by rw [e]; rfl, q⟩)
    exact ⟨⟨l, hq⟩, rfl⟩)
end Go.Proofs.YtjbcfpkibnhodaaGreatDoor.Ab
