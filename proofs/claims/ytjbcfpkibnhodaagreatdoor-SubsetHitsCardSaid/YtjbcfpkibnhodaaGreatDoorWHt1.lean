/-
  proctorref17: which symbols an event is of; slots in order. No claim is proved here.
-/
import Derived.Test.YtjbcfpkibnhodaaGreatDoorWV19
namespace Go.Proofs.YtjbcfpkibnhodaaGreatDoor.Ab
open Go Go.RowKit
set_option linter.unusedSimpArgs false
set_option maxHeartbeats 4000000
set_option maxRecDepth 100000
variable {G : Nat → Option AV}
def putSAt (l : List SlotT) (s : SlotT) : Nat → Nat
  | 0 => 0
  | n + 1 => match l[n]? with
    | some x => if s.var < x.var then putSAt l s n else n + 1
    | none => n + 1
theorem putSAt_le (l : List SlotT) (s : SlotT) : ∀ n, putSAt l s n ≤ n
  | 0 => Nat.le_refl _
  | n + 1 => by
    unfold putSAt
    split
    · split
      · exact Nat.le_trans (putSAt_le l s n) (by omega)
      · exact Nat.le_refl _
    · exact Nat.le_refl _
def putS (l : List SlotT) (s : SlotT) : List SlotT := l.take (putSAt l s l.length) ++ s :: l.drop (putSAt l s l.length)
theorem putS_len (l : List SlotT) (s : SlotT) : (putS l s).length = l.length + 1 := by
  unfold putS
  have := putSAt_le l s l.length
  simp only [List.length_append, List.length_cons, List.length_take, List.length_drop]
  omega
theorem ref17_put_pc (l : List SlotT) (s : SlotT) (hl : l.length ≤ 1000) : P_ Tryz.prog G n_proctorref17_put [s11 l, slotV s] (s11 (putS l s)) := by
  refine pc_proctorref17_put (Runs.of fun Φ h => ?_)
  unfold c_proctorref17_put
  dsimp only
  rw [run_assocC, run_assocC]
  refine at_cut (fun st => st = ⟨38, [(0, s11 l), (3, .ref 3 0 0), (5, iv (putSAt l s l.length : Nat)), (21, .bool false)], [(3, ⟨false, ta10, 5, [slotV s]⟩), (4, ⟨true, ta10, 5, []⟩)]⟩) ?_ ?_
  · clear h
    simp -implicitDefEqProofs only [go_sem, s11, slotV, List.length_map]
    refine al_ (fun n st => st = ⟨38, [(0, s11 l), (3, .ref 3 0 0), (5, iv n)], [(3, ⟨false, ta10, 5, [slotV s]⟩), (4, ⟨true, ta10, 5, []⟩)]⟩ ∧ n ≤ l.length ∧ putSAt l s n = putSAt l s l.length) l.length ⟨rfl, Nat.le_refl _, rfl⟩ ?_
    rintro I hI n st ⟨rfl, hn, hp⟩
    rw [← hp]
    cases n with
    | zero =>
      have e1 : ((0 : Int) < ((0 : Nat) : Int)) = False := by simp
      repeat' (first | (simp -implicitDefEqProofs only [go_sem, e1, decide_false, slotV, s11]) | refine ag_ (fun hb => ?_) (fun hb => ?_) | refine ⟨fun hb => ?_, fun hb => ?_⟩ | fail)
      try rfl
    | succ n =>
      obtain ⟨x, hx, hxm⟩ := as10 (l := l) (i := n) (by omega)
      have e1 : ((0 : Int) < ((n + 1 : Nat) : Int)) = True := by rw [eq_iff_iff]; exact ⟨fun _ => trivial, fun _ => by omega⟩
      have hw : IntKind.wrap .i64 (((n + 1 : Nat) : Int) - 1) = (n : Int) := by rw [wi_ (by omega) (by omega)]; omega
      have hps : putSAt l s (n + 1) = if s.var < x.var then putSAt l s n else n + 1 := by rw [putSAt, hx]
      obtain ⟨x1, ⟨x2, x3, x4, x5⟩⟩ := x
      by_cases hv : s.var < x1
      · have e2 : (s.var < x1) = True := by simp; exact hv
        rw [if_pos hv] at hps
        rw [hps] at hp
        repeat' (first | (simp -implicitDefEqProofs only [go_sem, e1, e2, hw, am_ hx, decide_true, slotV, s11]) | refine ag_ (fun hb => ?_) (fun hb => ?_) | refine ⟨fun hb => ?_, fun hb => ?_⟩ | fail)
        exact aa_ n (by omega) (hI _ _ ⟨rfl, by omega, hp⟩)
      · have e2 : (s.var < x1) = False := by simp; omega
        rw [if_neg hv] at hps
        rw [hps]
        repeat' (first | (simp -implicitDefEqProofs only [go_sem, e1, e2, hw, am_ hx, decide_true, decide_false, slotV, s11]) | refine ag_ (fun hb => ?_) (fun hb => ?_) | refine ⟨fun hb => ?_, fun hb => ?_⟩ | fail)
        try rfl
  · rintro st hst
    subst hst
    have hple := putSAt_le l s l.length
    unfold putS at h
    generalize putSAt l s l.length = n at *
    have hs1 := aslc_takeC (e := slotV) (sz := 5) (l := l) (i := n) (by decide) hple
    have hs2 := aslc_drop (e := slotV) (sz := 5) (l := l) (i := n) (by decide) hple
    have ht : (l.take n).length = n := by simp; omega
    have hb1 : n * 48 ≤ 140737488355328 := by omega
    have hb2 : (n + 1) * 48 ≤ 140737488355328 := by omega
    have hb3 : (n + 1 + (l.length - n)) * 48 ≤ 140737488355328 := by omega
    repeat' (first | (simp -implicitDefEqProofs only [go_sem, hs1, hs2, slotV, s11, List.length_map, List.length_append, List.length_drop, ht, hb1, hb2, hb3]) | refine ag_ (fun hb => ?_) (fun hb => ?_) | refine ⟨fun hb => ?_, fun hb => ?_⟩ | fail)
    exact h _ ⟨_, _, rfl, view_map (e := slotV) (l := l.take n ++ s :: l.drop n) (by decide) (by simp [hget, slotV]; rfl) (by simp; omega), .refl _⟩
structure EvT where
  name : Str
  args : List Val
deriving DecidableEq
def eventV (e : EvT) : AV := .agg [.str e.name, .seq 4 (e.args.map valV)]
def hitArg (a : ArgT) (v : Val) (b f : List SlotT) : Option (List SlotT × List SlotT) :=
  if a.kind = 1 then (if a.value = v then some (b, f) else none)
  else if a.kind = 2 then (if fitsB b [⟨a.n, v⟩] = true then some (unionR b [⟨a.n, v⟩], f) else none)
  else if a.kind = 3 then (if (getR f a.n).2 = true then (if (getR f a.n).1 = v then some (b, f) else none) else some (b, putS f ⟨a.n, v⟩))
  else some (b, f)
def hitGo : List ArgT → List Val → List SlotT → List SlotT → Option (List SlotT × List SlotT)
  | a :: al, v :: vs, b, f => match hitArg a v b f with | some r => hitGo al vs r.1 r.2 | none => none
  | _, _, b, f => some (b, f)
def hitR (q : QeaT) (e : EvT) (s : Nat) : Option HitT := match q.symbols[s]? with
  | none => none
  | some x => match at? q.decls x.event with
    | none => none
    | some d => if d.name = e.name ∧ x.args.length = e.args.length then (hitGo x.args e.args [] []).map fun r => ⟨(s : Int), r.1, r.2⟩ else none
def hitRV : Option HitT → AV
  | some h => .tup [hitV h, .bool true]
  | none => .tup [.agg [iv 0, .nils, .nils], .bool false]
theorem union_len (a b : List SlotT) : (unionR a b).length ≤ 8 := by
  have : ∀ n, (unionN a b n).length ≤ n := by
    intro n
    induction n with
    | zero => simp [unionN]
    | succ n ih =>
      rw [unionN_succ, List.length_append]
      have := unionOne_len a b n
      omega
  exact this 8
theorem hitArg_len {a : ArgT} {v : Val} {b f : List SlotT} {r : List SlotT × List SlotT} (h : hitArg a v b f = some r) (hb : b.length ≤ 8) : r.1.length ≤ 8 ∧ r.2.length ≤ f.length + 1 := by
  unfold hitArg at h
  split at h
  · split at h
    · cases h; exact ⟨hb, by dsimp only; omega⟩
    · cases h
  split at h
  · split at h
    · cases h; exact ⟨union_len _ _, by dsimp only; omega⟩
    · cases h
  split at h
  · split at h
    · split at h
      · cases h; exact ⟨hb, by dsimp only; omega⟩
      · cases h
    · cases h; exact ⟨hb, by dsimp only; rw [putS_len]; omega⟩
  · cases h; exact ⟨hb, by dsimp only; omega⟩
theorem hitGo_at {al : List ArgT} {vs : List Val} {i : Nat} {a : ArgT} {v : Val} (ha : al[i]? = some a) (hv : vs[i]? = some v) (b f : List SlotT) : hitGo (al.drop i) (vs.drop i) b f = match hitArg a v b f with | some r => hitGo (al.drop (i + 1)) (vs.drop (i + 1)) r.1 r.2 | none => none := by
  rw [dropC_at ha, dropC_at hv, hitGo]
theorem hitGo_end {al : List ArgT} {vs : List Val} {i : Nat} (h : al.length ≤ i) (b f : List SlotT) : hitGo (al.drop i) (vs.drop i) b f = some (b, f) := by
  rw [List.drop_eq_nil_of_le h]
  cases vs.drop i <;> rfl
theorem ref17_Hit_pc (q : QeaT) (e : EvT) (s : Nat) (x : SymT) (d : DeclT) (hx : q.symbols[s]? = some x) (hd : at? q.decls x.event = some d) (hal : x.args.length ≤ 100) (hel : e.args.length ≤ 1000000) :
    P_ Tryz.prog G n_proctorref17_Hit [qeaV q, iv s, eventV e] (hitRV (hitR q e s)) := by
  obtain ⟨j, hxe, hj⟩ := at?_some hd
  refine pc_proctorref17_Hit (Runs.of fun Φ h => ?_)
  unfold c_proctorref17_Hit
  have fin0 : ∀ heap, hitR q e s = none → hget heap 6 = some ⟨false, taH_, 3, [.agg [iv 0, .nils, .nils]]⟩ → Φ ⟨121, [(6, .ref 6 0 0), (7, .bool false)], heap⟩ := fun heap e1 e2 => h _ ⟨[.agg [iv 0, .nils, .nils], .bool false], _, by simp [resVs, aloadN, hcells, e2, eget, c_proctorref17_Hit, AV.cells], rfl, fe_ (by rw [e1]; rfl)⟩
  have fin1 : ∀ b f heap, hitR q e s = some ⟨s, b, f⟩ → hget heap 6 = some ⟨false, taH_, 3, [.agg [iv s, s11 b, s11 f]]⟩ → Φ ⟨121, [(6, .ref 6 0 0), (7, .bool true)], heap⟩ := fun b f heap e1 e2 => h _ ⟨[.agg [iv s, s11 b, s11 f], .bool true], _, by simp [resVs, aloadN, hcells, e2, eget, c_proctorref17_Hit, AV.cells], rfl, fe_ (by rw [e1]; rfl)⟩
  clear h
  have hR : hitR q e s = if d.name = e.name ∧ x.args.length = e.args.length then (hitGo x.args e.args [] []).map fun r => ⟨(s : Int), r.1, r.2⟩ else none := by
    unfold hitR
    rw [hx]
    dsimp only
    rw [hd]
  obtain ⟨xe, xa⟩ := x
  obtain ⟨en, ea⟩ := e
  obtain ⟨dn, dt⟩ := d
  dsimp only at hxe hal hel hR
  subst hxe
  generalize hitR q ⟨en, ea⟩ s = R at *
  by_cases hn : dn = en
  · subst hn
    by_cases hln : xa.length = ea.length
    · rw [if_pos ⟨rfl, hln⟩] at hR
      have e1 : (dn == dn) = true := by simp
      have e2 : ((xa.length : Int) != (ea.length : Int)) = false := by simp; omega
      repeat' (first | (simp -implicitDefEqProofs only [go_sem, qeaV, d_, q_, f_, s_, s10, n_, t_, eventV, List.length_map, am_ hx, am_ hj, symV, argsV, declV, intsV, e1, e2]) | refine ag_ (fun hb => ?_) (fun hb => ?_) | refine ⟨fun hb => ?_, fun hb => ?_⟩ | fail)
      refine at_loopW (fun n st => ∃ (i : Nat) (b f : List SlotT), i + n = xa.length ∧ st = ⟨121, [(1, iv s), (5, .ref 5 0 0), (6, .ref 6 0 0), (8, .ref 8 0 0), (9, .ref 9 0 0), (10, s11 b), (11, s11 f), (12, iv i)], [(3, ⟨false, taQ_, 9, [qeaV q]⟩), (5, ⟨false, t_api_Event, 2, [eventV ⟨dn, ea⟩]⟩), (6, ⟨false, taH_, 3, [.agg [iv 0, .nils, .nils]]⟩), (8, ⟨false, taS_, 2, [symV ⟨(j : Int), xa⟩]⟩), (9, ⟨false, taH_, 3, [.agg [iv 0, .nils, .nils]]⟩)]⟩ ∧ b.length ≤ 8 ∧ f.length ≤ i ∧ (hitGo (xa.drop i) (ea.drop i) b f).map (fun r => (⟨(s : Int), r.1, r.2⟩ : HitT)) = R) xa.length
        ⟨121, [(1, iv s), (5, .ref 5 0 0), (6, .ref 6 0 0), (8, .ref 8 0 0), (9, .ref 9 0 0), (10, s11 []), (11, s11 []), (12, iv 0)], [(3, ⟨false, taQ_, 9, [qeaV q]⟩), (5, ⟨false, t_api_Event, 2, [eventV ⟨dn, ea⟩]⟩), (6, ⟨false, taH_, 3, [.agg [iv 0, .nils, .nils]]⟩), (8, ⟨false, taS_, 2, [symV ⟨(j : Int), xa⟩]⟩), (9, ⟨false, taH_, 3, [.agg [iv 0, .nils, .nils]]⟩)]⟩
        ((weak_thaw (i := 10) rfl rfl).trans (weak_thaw (i := 11) rfl rfl)) ⟨0, [], [], by simp, rfl, by simp, by simp, hR.symm⟩ ?_
      rintro I hI n st ⟨i, b, f, hi, rfl, hbl, hfl, hgo⟩
      simp -implicitDefEqProofs only [go_sem, qeaV, d_, q_, f_, s_, s10, n_, t_, eventV, symV, argsV, List.length_map]
      refine ⟨fun hlt => ?_, fun hge => ?_⟩
      · have hlt' : i < xa.length := by omega
        obtain ⟨a, ha, _⟩ := as10 hlt'
        obtain ⟨v, hv, _⟩ := as10 (l := ea) (i := i) (by omega)
        have hw := ws_ hlt' (by omega)
        rw [hitGo_at ha hv] at hgo
        have hal2 : ∀ r, hitArg a v b f = some r → r.1.length ≤ 8 ∧ r.2.length ≤ f.length + 1 := fun r hr => hitArg_len hr hbl
        have hnext : ∀ b' f', hitArg a v b f = some (b', f') → again I n ⟨121, [(1, iv s), (5, .ref 5 0 0), (6, .ref 6 0 0), (8, .ref 8 0 0), (9, .ref 9 0 0), (10, s11 b'), (11, s11 f'), (12, iv (i + 1 : Nat))], [(3, ⟨false, taQ_, 9, [qeaV q]⟩), (5, ⟨false, t_api_Event, 2, [eventV ⟨dn, ea⟩]⟩), (6, ⟨false, taH_, 3, [.agg [iv 0, .nils, .nils]]⟩), (8, ⟨false, taS_, 2, [symV ⟨(j : Int), xa⟩]⟩), (9, ⟨false, taH_, 3, [.agg [iv 0, .nils, .nils]]⟩)]⟩ := fun b' f' hr => by
          rw [hr] at hgo
          have := hal2 _ hr
          dsimp only at this
          exact aa_ (n - 1) (by omega) (hI _ _ ⟨i + 1, b', f', by omega, rfl, this.1, by omega, hgo⟩)
        have hbad : hitArg a v b f = none → R = none := fun hr => by rw [hr] at hgo; exact hgo.symm
        clear hgo hal2 hI
        have hc1 := ref05_Fits_pc (G := G) b [⟨a.n, v⟩] (by omega) (by simp)
        have hc2 := ref05_Union_pc (G := G) b [⟨a.n, v⟩] (by omega) (by simp)
        have hc3 := ref05_Get_pc (G := G) f (by omega) a.n
        have hc4 := ref17_put_pc (G := G) f ⟨a.n, v⟩ (by omega)
        unfold hitArg at hnext hbad
        obtain ⟨ak, an, ⟨w1, w2, w3, w4⟩⟩ := a
        obtain ⟨v1, v2, v3, v4⟩ := v
        have hxy : ((⟨w1, w2, w3, w4⟩ : Val) == ⟨v1, v2, v3, v4⟩) = (w1 == v1 && (w2 == v2 && (w3 == v3 && w4 == v4))) := val_beq _ _ _ _ _ _ _ _
        dsimp only at *
        simp only [s11, List.map_cons, List.map_nil, slotV] at hc1 hc2 hc3 hc4
        by_cases h1 : ak = 1
        · rw [if_pos h1] at hnext hbad
          subst h1
          by_cases hav : (⟨w1, w2, w3, w4⟩ : Val) = ⟨v1, v2, v3, v4⟩
          · rw [if_pos hav] at hnext
            have hnext := hnext _ _ rfl
            rw [show ((⟨w1, w2, w3, w4⟩ : Val) == ⟨v1, v2, v3, v4⟩) = true by simpa using hav] at hxy
            repeat' (first | (simp -implicitDefEqProofs only [go_sem, am_ ha, am_ hv, argV, valV, hw, s11, ← hxy, Bool.not_true]) | refine ag_ (fun hb => ?_) (fun hb => ?_) | refine ⟨fun hb => ?_, fun hb => ?_⟩ | fail)
            exact hnext
          · rw [if_neg hav] at hbad
            have hbad := hbad rfl
            rw [show ((⟨w1, w2, w3, w4⟩ : Val) == ⟨v1, v2, v3, v4⟩) = false by simpa using hav] at hxy
            repeat' (first | (simp -implicitDefEqProofs only [go_sem, am_ ha, am_ hv, argV, valV, hw, s11, ← hxy, Bool.not_false]) | refine ag_ (fun hb => ?_) (fun hb => ?_) | refine ⟨fun hb => ?_, fun hb => ?_⟩ | fail)
            exact fin0 _ hbad rfl
        · rw [if_neg h1] at hnext hbad
          have k1 : (ak == 1) = false := by simp [h1]
          clear hxy
          by_cases h2 : ak = 2
          · rw [if_pos h2] at hnext hbad
            subst h2
            generalize fitsB b [⟨an, ⟨v1, v2, v3, v4⟩⟩] = z at *
            generalize unionR b [⟨an, ⟨v1, v2, v3, v4⟩⟩] = u at *
            cases z
            · have hbad := hbad (if_neg (by decide))
              repeat' (first | (simp -implicitDefEqProofs only [go_sem, am_ ha, am_ hv, argV, valV, hw, s11, k1]) | refine ag_ (fun hb => ?_) (fun hb => ?_) | refine ⟨fun hb => ?_, fun hb => ?_⟩ | refine ac_ (hc1) rfl rfl ?_ | fail)
              exact fin0 _ hbad rfl
            · have hnext := hnext _ _ (if_pos rfl)
              repeat' (first | (simp -implicitDefEqProofs only [go_sem, am_ ha, am_ hv, argV, valV, hw, s11, k1]) | refine ag_ (fun hb => ?_) (fun hb => ?_) | refine ⟨fun hb => ?_, fun hb => ?_⟩ | refine ac_ (hc1) rfl rfl ?_ | refine ac_ (hc2) rfl rfl ?_ | fail)
              exact hnext
          · rw [if_neg h2] at hnext hbad
            have k2 : (ak == 2) = false := by simp [h2]
            clear hc1 hc2
            by_cases h3 : ak = 3
            · rw [if_pos h3] at hnext hbad
              subst h3
              generalize getR f an = g at *
              obtain ⟨⟨g1, g2, g3, g4⟩, ok⟩ := g
              simp only [vbt, valV] at hc3
              cases ok
              · have hnext := hnext _ _ (if_neg (by simp))
                have hai : ∀ H : List (Nat × Box), hget H 63 = some ⟨true, ta10, 5, [.agg [iv an, iv v1, iv v2, .str v3, .bool v4]]⟩ → aiaddr H 5 (.arr 63 0 1) (.int .i64 0) = some (.ref 63 0 0) := fun H hH => by simp [aiaddr, hH]
                generalize putS f ⟨an, ⟨v1, v2, v3, v4⟩⟩ = u at *
                repeat' (first | (simp -implicitDefEqProofs only [go_sem, am_ ha, am_ hv, argV, valV, hw, s11, k1, k2, hai]) | refine ag_ (fun hb => ?_) (fun hb => ?_) | refine ⟨fun hb => ?_, fun hb => ?_⟩ | refine ac_ (hc3) rfl rfl ?_ | refine ac_ (hc4) rfl rfl ?_ | fail)
                exact hnext
              · rw [if_pos rfl] at hnext hbad
                have hxy : ((⟨g1, g2, g3, g4⟩ : Val) == ⟨v1, v2, v3, v4⟩) = (g1 == v1 && (g2 == v2 && (g3 == v3 && g4 == v4))) := val_beq _ _ _ _ _ _ _ _
                dsimp only at hnext hbad
                by_cases hav : (⟨g1, g2, g3, g4⟩ : Val) = ⟨v1, v2, v3, v4⟩
                · rw [if_pos hav] at hnext
                  have hnext := hnext _ _ rfl
                  rw [show ((⟨g1, g2, g3, g4⟩ : Val) == ⟨v1, v2, v3, v4⟩) = true by simpa using hav] at hxy
                  repeat' (first | (simp -implicitDefEqProofs only [go_sem, am_ ha, am_ hv, argV, valV, hw, s11, ← hxy, Bool.not_true, k1, k2]) | refine ag_ (fun hb => ?_) (fun hb => ?_) | refine ⟨fun hb => ?_, fun hb => ?_⟩ | refine ac_ (hc3) rfl rfl ?_ | fail)
                  exact hnext
                · rw [if_neg hav] at hbad
                  have hbad := hbad rfl
                  rw [show ((⟨g1, g2, g3, g4⟩ : Val) == ⟨v1, v2, v3, v4⟩) = false by simpa using hav] at hxy
                  repeat' (first | (simp -implicitDefEqProofs only [go_sem, am_ ha, am_ hv, argV, valV, hw, s11, ← hxy, Bool.not_false, k1, k2]) | refine ag_ (fun hb => ?_) (fun hb => ?_) | refine ⟨fun hb => ?_, fun hb => ?_⟩ | refine ac_ (hc3) rfl rfl ?_ | fail)
                  exact fin0 _ hbad rfl
            · rw [if_neg h3] at hnext
              have k3 : (ak == 3) = false := by simp [h3]
              have hnext := hnext _ _ rfl
              repeat' (first | (simp -implicitDefEqProofs only [go_sem, am_ ha, am_ hv, argV, valV, hw, s11, k1, k2, k3]) | refine ag_ (fun hb => ?_) (fun hb => ?_) | refine ⟨fun hb => ?_, fun hb => ?_⟩ | fail)
              exact hnext
      · rw [hitGo_end (by omega)] at hgo
        repeat' (first | (simp -implicitDefEqProofs only [go_sem]) | refine ag_ (fun hb => ?_) (fun hb => ?_) | refine ⟨fun hb => ?_, fun hb => ?_⟩ | fail)
        exact fin1 b f _ hgo.symm rfl
    · rw [if_neg (fun hz => hln hz.2)] at hR
      have e1 : (dn == dn) = true := by simp
      have e2 : ((xa.length : Int) != (ea.length : Int)) = true := by simp; omega
      repeat' (first | (simp -implicitDefEqProofs only [go_sem, qeaV, d_, q_, f_, s_, s10, n_, t_, eventV, List.length_map, am_ hx, am_ hj, symV, argsV, declV, intsV, e1, e2]) | refine ag_ (fun hb => ?_) (fun hb => ?_) | refine ⟨fun hb => ?_, fun hb => ?_⟩ | fail)
      exact fin0 _ hR rfl
  · rw [if_neg (fun hz => hn hz.1)] at hR
    have e1 : (dn == en) = false := by simp [hn]
    repeat' (first | (simp -implicitDefEqProofs only [go_sem, qeaV, d_, q_, f_, s_, s10, n_, t_, eventV, List.length_map, am_ hx, am_ hj, symV, argsV, declV, intsV, e1]) | refine ag_ (fun hb => ?_) (fun hb => ?_) | refine ⟨fun hb => ?_, fun hb => ?_⟩ | fail)
    exact fin0 _ hR rfl
end Go.Proofs.YtjbcfpkibnhodaaGreatDoor.Ab
