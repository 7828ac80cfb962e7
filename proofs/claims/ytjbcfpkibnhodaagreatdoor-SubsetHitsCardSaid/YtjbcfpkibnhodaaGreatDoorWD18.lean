/-
  proctorref13.symbols. core, proctorref13: names; few; Plain. No claim is proved here.
-/
import Derived.Test.YtjbcfpkibnhodaaGreatDoorWD17
namespace Go.Proofs.YtjbcfpkibnhodaaGreatDoor.Ab
open Go
set_option linter.unusedSimpArgs false
set_option maxHeartbeats 4000000
variable {G : Nat → Option AV}
theorem amks_nat {st : St} {d ty sz bytes : Nat} {z : AV} {a : Nat} (h : a * bytes ≤ 140737488355328) : amks st (some d) ty sz bytes z (.int .i64 (a : Int)) (.int .i64 (a : Int)) = st.new (some d) ⟨true, ty, sz, List.replicate a z⟩ (.arr d 0 a) := by
  unfold amks
  dsimp only
  have hc := Int.ofNat_le.2 h
  rw [Int.natCast_mul] at hc
  rw [if_pos ⟨by omega, by omega, hc⟩, Int.toNat_natCast]
theorem any_take_succ {α : Type} {p : α → Bool} {l : List α} {k : Nat} {x : α} (h : l[k]? = some x) : (l.take (k + 1)).any p = ((l.take k).any p || p x) := by
  rw [List.take_add_one, h]
  simp
def usedV (m : Nat) (o : List Int) : List AV := (List.range m).map fun (j : Nat) => AV.bool (o.any fun x => (j : Int) == x)
theorem usedV_nil (m : Nat) : usedV m [] = List.replicate m (.bool false) := by
  unfold usedV
  rw [List.eq_replicate_iff]
  simp
theorem usedV_at {m j : Nat} (o : List Int) (h : j < m) : (usedV m o)[j]? = some (.bool (o.any fun x => (j : Int) == x)) := by
  unfold usedV
  rw [List.getElem?_map, List.getElem?_range h]
  rfl
theorem usedV_set {m j : Nat} (o : List Int) : (usedV m o).set j (.bool true) = usedV m (ordStep o j) := by
  apply List.ext_getElem?
  intro k
  rw [List.getElem?_set]
  by_cases hk : k < m
  · rw [usedV_at (ordStep o j) hk, usedV_at o hk]
    split
    · rename_i e
      subst e
      rw [if_pos (by simp [usedV]; omega)]
      unfold ordStep
      split
      · rename_i ho; rw [ho]
      · simp
    · rename_i e
      unfold ordStep
      split
      · rfl
      · rw [List.any_append]
        have : ((k : Int) == (j : Int)) = false := by simp; omega
        simp [this]
  · have e1 : (usedV m (ordStep o j))[k]? = none := by rw [List.getElem?_eq_none_iff]; simp [usedV]; omega
    have e2 : (usedV m o)[k]? = none := by rw [List.getElem?_eq_none_iff]; simp [usedV]; omega
    rw [e1, e2]
    split
    · rw [if_neg (by simp [usedV]; omega)]
    · rfl
def symR (q : QeaT) (i : Nat) (s : SymT) : Bool := symS q s && !((q.symbols.take i).any fun x => decide (s = x))
def symbolsR (q : QeaT) : Bool :=
  allI (fun i s => s == (q.symbols.length : Int) - (ordL [] q.trans).length + (i : Int)) (ordL [] q.trans) && (allI (symR q) q.symbols && allI (fun v _ => q.symbols.any fun s => namesS s (v : Int)) q.quants)
theorem ref13_symbols_pc (q : QeaT) (hq : q.Few) (hs : ∀ t ∈ q.trans, inR t.symbol q.symbols.length = true) : P_ Tryz.prog G n_proctorref13_symbols [qeaV q] (.bool (symbolsR q)) := by
  have htl := hq.trans
  have hsl := hq.symbols
  have hql := hq.quants
  refine pc_proctorref13_symbols (Runs.of fun Φ h => ?_)
  unfold c_proctorref13_symbols
  have fin : ∀ b heap, symbolsR q = b → Φ ⟨118, [(2, .bool b)], heap⟩ := fun b heap e => h _ ⟨_, _, rfl, rfl, fitB e.symm⟩
  clear h
  have hbd1 : q.symbols.length * 1 ≤ 140737488355328 := by omega
  simp -implicitDefEqProofs only [go_sem, qeaV, d_, q_, f_, s_, s10, n_, t_, List.length_map, amks_nat hbd1]
  refine al_ (fun n st => ∃ (i : Nat) (o : List Int), i + n = q.trans.length ∧ st = ⟨118, [(1, .ref 1 0 0), (3, .arr 16 0 q.symbols.length), (4, .arr 4 0 o.length), (5, iv i)], [(1, ⟨false, taQ_, 9, [qeaV q]⟩), (16, ⟨true, t_bool, 1, usedV q.symbols.length o⟩), (4, ⟨true, t_int, 1, o.map iv⟩)]⟩ ∧ o.length ≤ i ∧ ordL [] q.trans = ordL o (q.trans.drop i)) q.trans.length ⟨0, [], by simp, by rw [usedV_nil]; rfl, by simp, rfl⟩ ?_
  rintro I hI n st ⟨i, o, hi, rfl, hol, hord⟩
  simp -implicitDefEqProofs only [go_sem, qeaV, d_, q_, f_, s_, s10, n_, t_, List.length_map]
  refine ⟨fun hlt => ?_, fun hge => ?_⟩
  · have hlt' : i < q.trans.length := by omega
    obtain ⟨t, ht, hm⟩ := as10 hlt'
    have hw := ws_ hlt' (by omega)
    have hin := hs t hm
    obtain ⟨t1, t2, t3, t4, t5⟩ := t
    simp only [inR, Bool.and_eq_true, decide_eq_true_eq] at hin
    obtain ⟨j, rfl⟩ := Int.eq_ofNat_of_zero_le hin.1
    have hj : j < q.symbols.length := by omega
    have hbd : (o.length + 1) * 8 ≤ 140737488355328 := by omega
    have hu := usedV_at o hj
    rw [ordL_step ht] at hord
    have hnext : again I n ⟨118, [(1, .ref 1 0 0), (3, .arr 16 0 q.symbols.length), (4, .arr 4 0 (ordStep o j).length), (5, iv (i + 1 : Nat))], [(1, ⟨false, taQ_, 9, [qeaV q]⟩), (16, ⟨true, t_bool, 1, usedV q.symbols.length (ordStep o j)⟩), (4, ⟨true, t_int, 1, (ordStep o j).map iv⟩)]⟩ :=
      aa_ (n - 1) (by omega) (hI _ _ ⟨i + 1, _, by omega, rfl, by have := ordStep_len o j; omega, hord⟩)
    rw [← usedV_set] at hnext
    generalize usedV q.symbols.length o = us at *
    repeat' (first | (simp -implicitDefEqProofs only [go_sem, am_ ht, t11, setsV, hw, hbd, aiaddr_arr hj, hu, List.length_map]) | refine ag_ (fun hb => ?_) (fun hb => ?_) | refine ⟨fun hb => ?_, fun hb => ?_⟩ | fail)
    · have e1 : ordStep o j = o ++ [(j : Int)] := if_neg (by simp only [Bool.not_eq_true'] at hb; rw [hb]; exact Bool.false_ne_true)
      rw [e1, List.map_append, List.length_append] at hnext
      exact hnext
    · have e1 : ordStep o j = o := if_pos (by simpa using hb)
      rw [e1] at hnext
      exact hnext
  · have hord : ordL [] q.trans = o := by rw [hord, List.drop_of_length_le (by omega), ordL]
    have hol' : o.length ≤ 1000000 := by omega
    clear hI hge hi
    generalize usedV q.symbols.length o = us at *
    try (simp -implicitDefEqProofs only [go_sem])
    refine al_ (fun n st => ∃ i : Nat, i + n = o.length ∧ st = ⟨118, [(1, .ref 1 0 0), (4, .arr 4 0 o.length), (7, iv i)], [(1, ⟨false, taQ_, 9, [qeaV q]⟩), (16, ⟨true, t_bool, 1, us⟩), (4, ⟨true, t_int, 1, o.map iv⟩)]⟩ ∧ ∀ j x, j < i → o[j]? = some x → (x == (q.symbols.length : Int) - o.length + (j : Int)) = true) o.length ⟨0, by simp, rfl, fun j x hj => by omega⟩ ?_
    rintro I hI n st ⟨i, hi, rfl, hno⟩
    simp -implicitDefEqProofs only [go_sem, qeaV, d_, q_, f_, s_, s10, n_, t_, List.length_map]
    refine ⟨fun hlt => ?_, fun hge => ?_⟩
    · have hlt' : i < o.length := by omega
      obtain ⟨x, hx, hm⟩ := as10 hlt'
      have hw := ws_ hlt' (by omega)
      have hxm : (o.map iv)[i]? = some (iv x) := by simp [hx]
      have w1 : IntKind.i64.wrap ((q.symbols.length : Int) - o.length) = (q.symbols.length : Int) - o.length := wi_ (by omega) (by omega)
      have w2 : IntKind.i64.wrap ((q.symbols.length : Int) - o.length + i) = (q.symbols.length : Int) - o.length + i := wi_ (by omega) (by omega)
      repeat' (first | (simp -implicitDefEqProofs only [go_sem, aiaddr_arr hlt', hxm, w1, w2, hw, qeaV, d_, q_, f_, s_, s10, n_, t_, List.length_map]) | refine ag_ (fun hb => ?_) (fun hb => ?_) | refine ⟨fun hb => ?_, fun hb => ?_⟩ | fail)
      · refine fin _ _ ?_
        have : allI (fun i s => s == (q.symbols.length : Int) - o.length + (i : Int)) o = false := af_ hx (by simpa using hb)
        rw [symbolsR, hord, this, Bool.false_and]
      · exact aa_ (n - 1) (by omega) (hI _ _ ⟨i + 1, by omega, rfl, fun j y hj hy => by
          by_cases e : j = i
          · subst e; rw [hx] at hy; cases hy; simpa using hb
          · exact hno j y (by omega) hy⟩)
    · have hO : allI (fun i s => s == (q.symbols.length : Int) - o.length + (i : Int)) o = true := at10.2 fun i x hx => hno i x (by have := (List.getElem?_eq_some_iff.1 hx).1; omega) hx
      have hR : symbolsR q = (allI (symR q) q.symbols && allI (fun v _ => q.symbols.any fun s => namesS s (v : Int)) q.quants) := by rw [symbolsR, hord, hO, Bool.true_and]
      clear hI hge hi hno hO hord
      generalize symbolsR q = w at *
      try (simp -implicitDefEqProofs only [go_sem])
      refine al_ (fun n st => ∃ i : Nat, i + n = q.symbols.length ∧ st = ⟨118, [(1, .ref 1 0 0), (8, iv i)], [(1, ⟨false, taQ_, 9, [qeaV q]⟩), (16, ⟨true, t_bool, 1, us⟩), (4, ⟨true, t_int, 1, o.map iv⟩)]⟩ ∧ ∀ j x, j < i → q.symbols[j]? = some x → symR q j x = true) q.symbols.length ⟨0, by simp, rfl, fun j x hj => by omega⟩ ?_
      rintro I hI n st ⟨i, hi, rfl, hno⟩
      simp -implicitDefEqProofs only [go_sem, qeaV, d_, q_, f_, s_, s10, n_, t_, List.length_map]
      refine ⟨fun hlt => ?_, fun hge => ?_⟩
      · have hlt' : i < q.symbols.length := by omega
        obtain ⟨s, hsx, hm⟩ := as10 hlt'
        have hsa : s.args.length < 9223372036854775807 := by have := hq.args s hm; omega
        have hw := ws_ hlt' (by omega)
        have hc := ref13_symbol_pc (G := G) q s hsa
        have hbad : symR q i s = false → w = false := fun hv => by rw [hR, af_ hsx hv, Bool.false_and]
        simp only [symV, argsV, qeaV, d_, q_, f_, s_, s10, n_, t_] at hc
        repeat' (first | (simp -implicitDefEqProofs only [go_sem, am_ hsx, symV, argsV, hw, qeaV, d_, q_, f_, s_, s10, n_, t_, List.length_map]) | refine ag_ (fun hb => ?_) (fun hb => ?_) | refine ⟨fun hb => ?_, fun hb => ?_⟩ | refine ac_ (hc) rfl rfl ?_ | fail)
        · exact fin _ _ (hbad (by rw [symR, show symS q s = false by simpa using hb, Bool.false_and]))
        refine al_ (fun m st => ∃ k : Nat, k + m = i ∧ st = ⟨118, [(1, .ref 1 0 0), (8, iv i), (9, iv k)], [(1, ⟨false, taQ_, 9, [qeaV q]⟩), (16, ⟨true, t_bool, 1, us⟩), (4, ⟨true, t_int, 1, o.map iv⟩)]⟩ ∧ ∀ p x, p < k → q.symbols[p]? = some x → decide (s = x) = false) i ⟨0, by omega, rfl, fun p x hp => by omega⟩ ?_
        rintro J hJ m st ⟨k, hk, rfl, hall⟩
        simp -implicitDefEqProofs only [go_sem, qeaV, d_, q_, f_, s_, s10, n_, t_, List.length_map, hw]
        refine ⟨fun hlt2 => ?_, fun hge2 => ?_⟩
        · have hlt2' : k < i := by omega
          obtain ⟨y, hy, hym⟩ := as10 (l := q.symbols) (i := k) (by omega)
          have hya : y.args.length < 9223372036854775807 := by have := hq.args y hym; omega
          have hw2 := ws_ hlt2' (by omega)
          have hc2 := ref13_SameSymbol_pc (G := G) s y hsa
          simp only [symV, argsV] at hc2
          have hsame : again J m ⟨118, [(1, .ref 1 0 0), (8, iv i), (9, iv (k + 1 : Nat))], [(1, ⟨false, taQ_, 9, [qeaV q]⟩), (16, ⟨true, t_bool, 1, us⟩), (4, ⟨true, t_int, 1, o.map iv⟩)]⟩ ∨ decide (s = y) = true := by
            cases hd : decide (s = y) with
            | true => exact .inr rfl
            | false => exact .inl (aa_ (m - 1) (by omega) (hJ _ _ ⟨k + 1, by omega, rfl, fun p x hp hx => by
                by_cases e : p = k
                · subst e; rw [hy] at hx; cases hx; exact hd
                · exact hall p x (by omega) hx⟩))
          have hbad2 : decide (s = y) = true → w = false := fun hd => hbad (by
            rw [symR, show ((q.symbols.take i).any fun x => decide (s = x)) = true from List.any_eq_true.2 ⟨y, List.mem_iff_getElem?.2 ⟨k, by rw [List.getElem?_take_of_lt hlt2']; exact hy⟩, hd⟩]
            simp)
          generalize decide (s = y) = d at *
          clear hno hall hbad hR
          repeat' (first | (simp -implicitDefEqProofs only [go_sem, am_ hsx, am_ hy, symV, argsV, hw2, qeaV, d_, q_, f_, s_, s10, n_, t_, List.length_map]) | refine ag_ (fun hb => ?_) (fun hb => ?_) | refine ⟨fun hb => ?_, fun hb => ?_⟩ | refine ac_ (hc2) rfl rfl ?_ | fail)
          all_goals first
            | (exact fin _ _ (hbad2 (by simpa using hb)))
            | (rcases hsame with h | h
               · exact h
               · exfalso; simp [h] at hb)
        · have hany : ((q.symbols.take i).any fun x => decide (s = x)) = false := by
            rw [List.any_eq_false]
            intro y hy
            obtain ⟨p, hp⟩ := List.getElem?_of_mem hy
            rw [List.getElem?_take] at hp
            split at hp
            · rw [hall p y (by omega) hp]; simp
            · cases hp
          have hok : symR q i s = true := by rw [symR, hany, show symS q s = true by simpa using hb]; rfl
          exact aa_ (n - 1) (by omega) (hI _ _ ⟨i + 1, by omega, rfl, fun j y hj hy => by
            by_cases e : j = i
            · subst e; rw [hsx] at hy; cases hy; exact hok
            · exact hno j y (by omega) hy⟩)
      · have hO : allI (symR q) q.symbols = true := at10.2 fun i x hx => hno i x (by have := (List.getElem?_eq_some_iff.1 hx).1; omega) hx
        rw [hO, Bool.true_and] at hR
        clear hI hge hi hno hO
        try (simp -implicitDefEqProofs only [go_sem])
        refine al_ (fun n st => ∃ i : Nat, i + n = q.quants.length ∧ st = ⟨118, [(1, .ref 1 0 0), (10, iv i)], [(1, ⟨false, taQ_, 9, [qeaV q]⟩), (16, ⟨true, t_bool, 1, us⟩), (4, ⟨true, t_int, 1, o.map iv⟩)]⟩ ∧ ∀ j x, j < i → q.quants[j]? = some x → (q.symbols.any fun s => namesS s (j : Int)) = true) q.quants.length ⟨0, by simp, rfl, fun j x hj => by omega⟩ ?_
        rintro I hI n st ⟨v, hi, rfl, hno⟩
        simp -implicitDefEqProofs only [go_sem, qeaV, d_, q_, f_, s_, s10, n_, t_, List.length_map]
        refine ⟨fun hlt => ?_, fun hge => ?_⟩
        · have hlt' : v < q.quants.length := by omega
          obtain ⟨y, hy, hm⟩ := as10 hlt'
          have hw := ws_ hlt' (by omega)
          refine al_ (fun m st => ∃ k : Nat, k + m = q.symbols.length ∧ st = ⟨118, [(1, .ref 1 0 0), (10, iv v), (11, .bool ((q.symbols.take k).any fun s => namesS s (v : Int))), (12, iv k)], [(1, ⟨false, taQ_, 9, [qeaV q]⟩), (16, ⟨true, t_bool, 1, us⟩), (4, ⟨true, t_int, 1, o.map iv⟩)]⟩) q.symbols.length ⟨0, by omega, rfl⟩ ?_
          rintro J hJ m st ⟨k, hk, rfl⟩
          simp -implicitDefEqProofs only [go_sem, qeaV, d_, q_, f_, s_, s10, n_, t_, List.length_map]
          refine ⟨fun hlt2 => ?_, fun hge2 => ?_⟩
          · have hlt2' : k < q.symbols.length := by omega
            obtain ⟨s, hsx, hsm⟩ := as10 hlt2'
            have hsa : s.args.length < 9223372036854775807 := by have := hq.args s hsm; omega
            have hw2 := ws_ hlt2' (by omega)
            have hc := ref13_Names_pc (G := G) s hsa v
            simp only [symV, argsV] at hc
            have hnext : again J m ⟨118, [(1, .ref 1 0 0), (10, iv v), (11, .bool ((q.symbols.take (k + 1)).any fun s => namesS s (v : Int))), (12, iv (k + 1 : Nat))], [(1, ⟨false, taQ_, 9, [qeaV q]⟩), (16, ⟨true, t_bool, 1, us⟩), (4, ⟨true, t_int, 1, o.map iv⟩)]⟩ := aa_ (m - 1) (by omega) (hJ _ _ ⟨k + 1, by omega, rfl⟩)
            rw [any_take_succ hsx] at hnext
            generalize ((q.symbols.take k).any fun s => namesS s (v : Int)) = B at *
            generalize namesS s (v : Int) = D at *
            clear hJ hno
            repeat' (first | (simp -implicitDefEqProofs only [go_sem, am_ hsx, symV, argsV, hw2, qeaV, d_, q_, f_, s_, s10, n_, t_, List.length_map]) | refine ag_ (fun hb => ?_) (fun hb => ?_) | refine ⟨fun hb => ?_, fun hb => ?_⟩ | refine ac_ (hc) rfl rfl ?_ | fail)
            all_goals (subst hb; exact hnext)
          · have hkl : q.symbols.take k = q.symbols := List.take_of_length_le (by omega)
            rw [hkl]
            have hbad : (q.symbols.any fun s => namesS s (v : Int)) = false → w = false := fun hv => by rw [hR, af_ hy hv]
            have hgo : (q.symbols.any fun s => namesS s (v : Int)) = true → again I n ⟨118, [(1, .ref 1 0 0), (10, iv (v + 1 : Nat))], [(1, ⟨false, taQ_, 9, [qeaV q]⟩), (16, ⟨true, t_bool, 1, us⟩), (4, ⟨true, t_int, 1, o.map iv⟩)]⟩ := fun hv => aa_ (n - 1) (by omega) (hI _ _ ⟨v + 1, by omega, rfl, fun j x hj hx => by
              by_cases e : j = v
              · subst e; exact hv
              · exact hno j x (by omega) hx⟩)
            generalize (q.symbols.any fun s => namesS s (v : Int)) = B at *
            clear hR hJ hI hno
            repeat' (first | (simp -implicitDefEqProofs only [go_sem, hw]) | refine ag_ (fun hb => ?_) (fun hb => ?_) | refine ⟨fun hb => ?_, fun hb => ?_⟩ | fail)
            all_goals first | exact fin _ _ (hbad (by simpa using hb)) | exact hgo (by simpa using hb)
        · have hO : allI (fun v _ => q.symbols.any fun s => namesS s (v : Int)) q.quants = true := at10.2 fun i x hx => hno i x (by have := (List.getElem?_eq_some_iff.1 hx).1; omega) hx
          try (simp -implicitDefEqProofs only [go_sem])
          exact fin _ _ (by rw [hR, hO])
end Go.Proofs.YtjbcfpkibnhodaaGreatDoor.Ab
namespace Go.Proofs.YtjbcfpkibnhodaaGreatDoor.Ab
open Go
set_option linter.unusedSimpArgs false
set_option maxHeartbeats 4000000
variable {G : Nat → Option AV}
theorem okC_strs (l : List Str) : OkC [.eptr (.seq 1 (l.map AV.str)) 0] := ⟨fun _ => rfl, fun _ _ => rfl, fun _ => rfl, fun _ _ => rfl, fun _ => rfl, fun _ => rfl⟩
def nameOne (l : List Str) (i : Nat) (s : Str) : Bool := nameOk s && idxF (fun x => s == x) l == (i : Int)
theorem core_names_1_pc (hG : wg_ G) (l : List Str) (hl : l.length < 9223372036854775807) (i : Nat) (s : Str) : P_ Tryz.prog G n_core_names_1 [iv i, .str s, .eptr (.seq 1 (l.map AV.str)) 0] (.bool (nameOne l i s)) := by
  refine pc_core_names_1 (Runs.of fun Φ h => ?_)
  unfold c_core_names_1
  have hn := schema_Name_pc hG s
  have hc := slices_Index_string_string_pc (G := G) l s hl
  unfold nameOne at h
  generalize idxF (fun x => s == x) l = k at *
  generalize nameOk s = b at *
  repeat' (first | (simp -implicitDefEqProofs only [go_sem]) | refine ag_ (fun hb => ?_) (fun hb => ?_) | refine ⟨fun hb => ?_, fun hb => ?_⟩ | refine ac_ (hn) rfl rfl ?_ | refine ac_ (hc) rfl rfl ?_ | fail)
  all_goals (refine h _ ⟨_, _, rfl, rfl, fe_ ?_⟩; clear h; first | rfl | simp_all)
theorem core_names_pc (hG : wg_ G) (l : List Str) (hl : l.length < 9223372036854775807) : P_ Tryz.prog G n_core_names [.seq 1 (l.map AV.str)] (.bool (allI (nameOne l) l)) := by
  refine pc_core_names (Runs.of fun Φ h => ?_)
  unfold c_core_names
  have hc := core_all_string_pc (G := G) n_core_names_1 [.eptr (.seq 1 (l.map AV.str)) 0] (by kernel_rfl) (okC_strs l) (nameOne l) l (fun i x _ => core_names_1_pc hG l hl i x) hl
  repeat' (first | (simp -implicitDefEqProofs only [go_sem]) | refine ag_ (fun hb => ?_) (fun hb => ?_) | refine ⟨fun hb => ?_, fun hb => ?_⟩ | refine ac_ (hc) rfl rfl ?_ | fail)
  all_goals (refine h _ ⟨_, _, rfl, rfl, fe_ ?_⟩; clear h; first | rfl | simp_all)
theorem ref13_twice_pc (l : List Str) (hl : l.length < 9223372036854775807) (i : Nat) (s : Str) (hs : l[i]? = some s) : P_ Tryz.prog G n_proctorref13_twice [.seq 1 (l.map AV.str), iv i] (.bool ((l.take i).any fun x => x == s)) := by
  have hil := (List.getElem?_eq_some_iff.1 hs).1
  refine pc_proctorref13_twice (Runs.of fun Φ h => ?_)
  unfold c_proctorref13_twice
  generalize hv : ((l.take i).any fun x => x == s) = v at *
  simp -implicitDefEqProofs only [go_sem]
  refine al_ (fun n st => ∃ j : Nat, j + n = i ∧ st = ⟨20, [(0, .seq 1 (l.map AV.str)), (1, iv i), (5, iv j)], []⟩ ∧ (((l.take i).drop j).any fun x => x == s) = v) i ⟨0, by simp, rfl, hv⟩ ?_
  rintro I hI n st ⟨j, hj, rfl, hno⟩
  simp -implicitDefEqProofs only [go_sem]
  refine ⟨fun hlt => ?_, fun hge => ?_⟩
  · have hlt' : j < i := by omega
    obtain ⟨x, hx, hm⟩ := as10 (l := l) (i := j) (by omega)
    have hw := ws_ hlt' (by omega)
    rw [show (l.take i).drop j = x :: (l.take i).drop (j + 1) by
      obtain ⟨h1, rfl⟩ := List.getElem?_eq_some_iff.1 hx
      rw [List.drop_eq_getElem_cons (by simp; omega)]; simp, List.any_cons] at hno
    repeat' (first | (simp -implicitDefEqProofs only [go_sem, am_ hx, am_ hs, hw]) | refine ag_ (fun hb => ?_) (fun hb => ?_) | refine ⟨fun hb => ?_, fun hb => ?_⟩ | fail)
    all_goals first
      | (refine h _ ⟨_, _, rfl, rfl, fitB ?_⟩; rw [← hno]; simp_all; done)
      | (refine aa_ (n - 1) (by omega) (hI _ _ ⟨j + 1, by omega, rfl, ?_⟩); rw [← hno]; simp_all; done)
  · rw [List.drop_of_length_le (by simp; omega), List.any_nil] at hno
    exact h _ ⟨_, _, rfl, rfl, fitB hno⟩
def fewS (q : QeaT) : Bool := decide ((q.quants.length : Int) ≤ 8) && (decide ((q.frees.length : Int) ≤ 16) && (decide ((q.states.length : Int) ≤ 32) && (decide ((q.symbols.length : Int) ≤ 64) && (decide ((q.nodes.length : Int) ≤ 2048) && decide ((q.trans.length : Int) ≤ 256)))))
theorem core_few_pc (q : QeaT) : P_ Tryz.prog G n_core_few [qeaV q] (.bool (fewS q)) := by
  refine pc_core_few (Runs.of fun Φ h => ?_)
  unfold c_core_few
  repeat' (first | (simp -implicitDefEqProofs only [go_sem, qeaV, d_, q_, f_, s_, s10, n_, t_, List.length_map]) | refine ag_ (fun hb => ?_) (fun hb => ?_) | refine ⟨fun hb => ?_, fun hb => ?_⟩ | fail)
  all_goals
    refine h _ ⟨_, _, rfl, rfl, fitB ?_⟩
    clear h
    first | (simp_all [fewS]; done) | (simp_all [fewS]; intros; omega)
theorem core_Plain_1_pc (t : TransT) : P_ Tryz.prog G n_core_Plain_1 [t11 t] (.bool (decide (0 ≤ t.guard))) := by
  refine pc_core_Plain_1 (Runs.of fun Φ h => ?_)
  unfold c_core_Plain_1
  repeat' (first | (simp -implicitDefEqProofs only [go_sem, t11, setsV]) | refine ag_ (fun hb => ?_) (fun hb => ?_) | refine ⟨fun hb => ?_, fun hb => ?_⟩ | fail)
  all_goals (refine h _ ⟨_, _, rfl, rfl, fe_ ?_⟩; clear h; first | rfl | simp_all)
def plainS (q : QeaT) : Bool := (q.frees.length : Int) == 0 && !(q.trans.any fun t => decide (0 ≤ t.guard))
theorem core_Plain_pc (q : QeaT) (hq : q.trans.length < 9223372036854775807) : P_ Tryz.prog G n_core_Plain [qeaV q] (.bool (plainS q)) := by
  refine pc_core_Plain (Runs.of fun Φ h => ?_)
  unfold c_core_Plain
  have hc := slices_ContainsFunc_api_Trans_api_Trans_pc (G := G) n_core_Plain_1 [] (by kernel_rfl) okC_nil (fun t => decide (0 ≤ t.guard)) q.trans (fun t _ => core_Plain_1_pc t) hq
  repeat' (first | (simp -implicitDefEqProofs only [go_sem, qeaV, d_, q_, f_, s_, s10, n_, t_, List.length_map]) | refine ag_ (fun hb => ?_) (fun hb => ?_) | refine ⟨fun hb => ?_, fun hb => ?_⟩ | refine ac_ (hc) rfl rfl ?_ | fail)
  all_goals (refine h _ ⟨_, _, rfl, rfl, fe_ ?_⟩; clear h; first | rfl | simp_all [plainS])
theorem core_head_1_pc (i : Int) (y : QuantT) : P_ Tryz.prog G n_core_head_1 [iv i, quantV y] (.bool (!(k_ y.type == []))) := by
  refine pc_core_head_1 (Runs.of fun Φ h => ?_)
  unfold c_core_head_1
  repeat' (first | (simp -implicitDefEqProofs only [go_sem, quantV]) | refine ag_ (fun hb => ?_) (fun hb => ?_) | refine ⟨fun hb => ?_, fun hb => ?_⟩ | refine ac_ (value_Name_pc _) rfl rfl ?_ | fail)
  all_goals (refine h _ ⟨_, _, rfl, rfl, fe_ ?_⟩; clear h; first | rfl | simp_all)
theorem core_head_2_pc (i : Int) (y : FreeT) : P_ Tryz.prog G n_core_head_2 [iv i, freeV y] (.bool y.init.ok) := by
  have hc := value_Right_pc (G := G) y.init
  simp only [valV] at hc
  refine pc_core_head_2 (Runs.of fun Φ h => ?_)
  unfold c_core_head_2
  repeat' (first | (simp -implicitDefEqProofs only [go_sem, freeV]) | refine ag_ (fun hb => ?_) (fun hb => ?_) | refine ⟨fun hb => ?_, fun hb => ?_⟩ | refine ac_ (hc) rfl rfl ?_ | fail)
  all_goals (refine h _ ⟨_, _, rfl, rfl, fe_ ?_⟩; clear h; first | rfl | simp_all)
end Go.Proofs.YtjbcfpkibnhodaaGreatDoor.Ab
