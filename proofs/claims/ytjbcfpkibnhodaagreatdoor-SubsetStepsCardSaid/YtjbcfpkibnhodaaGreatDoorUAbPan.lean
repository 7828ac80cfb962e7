/-
  Runs that end in a panic: what is asked of a call, a region, a body. No claim is proved here.
-/
import Derived.Test.YtjbcfpkibnhodaaGreatDoorUAbRun
namespace Go.Proofs.YtjbcfpkibnhodaaGreatDoor.Ab
open Go Go.RowKit
set_option linter.unusedSimpArgs false
set_option linter.unusedVariables false
def PanicC (P : Program) (G : Nat → Option AV) (f : Nat) (args : List AV) (pv : AV) : Prop :=
  ∀ (w : World) (F : Nat → Prop) (vs : Array Value), Good w F G → ArgsR w F args vs →
    Calls P f vs w fun e w' => ∃ v, e = .panicked [{ v := v, recovered := false }] ∧ (∀ W F nm, Rd W F nm pv v) ∧ Below w.heap.size w w'
def PanQ (w0 : World) (pv : AV) : Exit → Act → World → Prop
  | .panic ch, a, w => a.defers = [] ∧ ∃ v, ch = [{ v := v, recovered := false }] ∧ (∀ W F nm, Rd W F nm pv v) ∧ Below w0.heap.size w0 w
  | _, _, _ => False
abbrev pctx (w0 : World) (F : Nat → Prop) : Ctx := ⟨w0, F, fun _ => False, fun _ => False, noNames⟩
def panO (P : Program) (G : Nat → Option AV) (f : Nat) (xs : List Opd) (pv : AV) (st : St) : Prop :=
  ∃ vargs args', viewBs st.heap (evs G st xs) = some vargs ∧ FitL vargs args' ∧ PanicC P G f args' pv
def PW (P : Program) (G : Nat → Option AV) (pv : AV) (ac : AC) (st : St) : Prop :=
  ∀ (w0 : World) (F : Nat → Prop) (c : Code) (a : Act) (w : World), chkC P c ac = true → Rel G (pctx w0 F) st a w → c.wp P (PanQ w0 pv) a w
section
variable {P : Program} {G : Nat → Option AV} {pv : AV} {st : St}
theorem pan_call {w0 : World} {F0 : Nat → Prop} {nm : Names} {F : Nat → Prop} {a : Act} {w : World} (h : RelX G (pctx w0 F0) nm F st a w) {f : Nat} {args vargs args' : List AV} {us : List Value} (hl : args.length = us.length)
    (hrd : ∀ (j : Nat) c u, args[j]? = some c → us[j]? = some u → Rd w F nm c u) (hv : viewBs st.heap args = some vargs) (hfit : FitL vargs args') (hc : PanicC P G f args' pv) :
    Calls P f us.toArray w fun e w' => ∃ v, e = .panicked [{ v := v, recovered := false }] ∧ (∀ W F nm, Rd W F nm pv v) ∧ Below w0.heap.size w0 w' := by
  obtain ⟨hfl, hfa⟩ := hfit.at_
  have argsR : ∀ F1 : Nat → Prop, (vargs.length = us.length ∧ ∀ (j : Nat) c u, vargs[j]? = some c → us[j]? = some u → Rd w F1 noNames c u) → ArgsR w F1 args' us.toArray := by
    rintro F1 ⟨hlen, hrv⟩
    refine ⟨by simp; omega, fun j c u hc hu => ?_⟩
    have hj : j < vargs.length := by rw [hfl]; exact (List.getElem?_eq_some_iff.1 hc).1
    have hjc := List.getElem?_eq_getElem hj
    exact (hrv j _ u hjc (by simpa using hu)).fit (hfa j _ c hjc hc)
  have hlt : ∀ k, (F k ∨ Own nm st.heap k) → k < w.heap.size := fun k hk => by
    rcases hk with hk | ⟨i, b, m, hi, hm, rfl⟩
    · exact h.good.1 k hk
    · exact h.lt hi hm
  have hg : Good w (fun k => F k ∨ Own nm st.heap k) G := h.good.mono (fun _ _ => rfl) (fun _ h => .inl h) hlt
  refine (hc w _ us.toArray hg (argsR _ (viewBs_rd h.box (fun _ h => .inl h) (fun _ h => .inr h) hv hl hrd))).mono ?_
  rintro e w' ⟨v, rfl, hr, hb⟩
  have hk : Below w0.heap.size w0 w := ⟨h.keep.os, h.keep.tape, h.keep.output, h.keep.size, fun k hk => h.keep.block k hk (fun h => h)⟩
  exact ⟨v, rfl, hr, hk.trans (hb.mono h.keep.size)⟩
theorem pan_step {w0 : World} {F0 : Nat → Prop} {a : Act} {w : World} (h : Rel G (pctx w0 F0) st a w) {o : Oper} {f : Nat} {xs : List Opd} (hc : chkOp P o.op (.call f xs) = true) (hp : panO P G f xs pv st) (K' : Act → World → Prop) : o.wp P a w K' (PanQ w0 pv) := by
  obtain ⟨nm, F, hx⟩ := h
  generalize hop : o.op = op at hc
  cases op <;> try (simp only [chkOp, Bool.false_eq_true] at hc; done)
  rename_i cl
  obtain ⟨callee, args, tys⟩ := cl
  cases callee <;> try (simp only [chkOp, Bool.false_eq_true] at hc; done)
  rename_i x
  simp only [chkOp, Bool.and_eq_true] at hc
  obtain ⟨⟨h1, h2⟩, h3⟩ := hc
  cases x <;> simp only [beq_iff_eq, Bool.false_eq_true] at h1
  subst h1
  rename_i f
  have hrun : (execOp a.eval o).run P w = .ok (.enter f (args.toList.map a.eval).toArray) w := by
    have := call_run (args := (args.toList.map a.eval).toArray) h3 w
    simp only [execOp, hop, resolve, Sem.run_bind, Act.eval, Deferred.ofValue, Sem.run_pure, Result.andThen_ok, invoke]
    rw [map_arr] at this ⊢
    simpa using this
  obtain ⟨h4, h5⟩ := hx.opds h2
  obtain ⟨vargs, args', hv, hf, hpc⟩ := hp
  unfold Oper.wp
  rw [hrun, Oper.upon_enter]
  refine (pan_call hx h4 h5 hv hf hpc).mono ?_
  rintro e w' ⟨v, rfl, hr, hb⟩
  exact ⟨hx.df, v, rfl, hr, hb⟩
theorem pan_ops {ops : Array Oper} {w0 : World} {F0 : Nat → Prop} {d : Option Nat} {f : Nat} {xs : List Opd} {post : List AO} : ∀ (pre : List AO) (l : List Oper) (st : St) (a : Act) (w : World), chkAOs P ops l (pre ++ ⟨d, .call f xs, none⟩ :: post) = true →
    opsP P G false pre st (panO P G f xs pv) → Rel G (pctx w0 F0) st a w → wpList P ops (PanQ w0 pv) l a w
  | [], [], _, _, _, hc, _, _ => by simp [chkAOs] at hc
  | [], o :: l, st, a, w, hc, hk, h => by
    simp only [List.nil_append, chkAOs, Bool.and_eq_true] at hc
    obtain ⟨hc1, hc⟩ := hc
    simp only [chkAO, Bool.and_eq_true] at hc1
    obtain ⟨⟨⟨hd, hg⟩, hop⟩, hs⟩ := hc1
    refine wpList_step fun K' hK' => ?_
    have hgn : o.guard = none := by
      cases hgd : o.guard with
      | none => rfl
      | some g => rw [hgd] at hg; obtain ⟨j, b⟩ := g; simp [chkGuard] at hg
    simp only [Region.wanted, hgn, if_true]
    exact pan_step h hop hk K'
  | p :: pre, [], _, _, _, hc, _, _ => by simp [chkAOs] at hc
  | p :: pre, o :: l, st, a, w, hc, hk, h => by
    simp only [List.cons_append, chkAOs, Bool.and_eq_true] at hc
    refine wpList_step fun K' hK' => ?_
    exact op_sound h hc.1 hk fun st' a' w' h1 h2 => hK' _ _ (pan_ops pre l st' a' w' hc.2 h1 h2)
theorem opsP_trim {q : Bool} {os : List AO} {kt : List Nat} {S : St → Prop} (h : runO P G (fun _ => False) q os kt [.cut S] st) : opsP P G q os st fun st' => S { st' with env := st'.trimE kt } := h
theorem PW.block {id : Nat} {a : AC} (h : PW P G pv a st) : PW P G pv (.block id a) st := by
  intro w0 F c a' w hc hr
  cases c <;> simp only [chkC, Bool.false_eq_true, Bool.and_eq_true, beq_iff_eq] at hc
  refine wp_block (wp_mono (h w0 F _ _ _ hc.2 hr) fun e a2 w2 hq => ?_)
  cases e <;> first | exact hq | exact hq.elim
theorem PW.cond {x : Opd} {a b : AC} {β : Bool} (hx : st.ev G x = .bool β) (h1 : β = true → PW P G pv a st) (h2 : β = false → PW P G pv b st) : PW P G pv (.cond x a b) st := by
  intro w0 F c a' w hc hr
  cases c <;> simp only [chkC, Bool.false_eq_true, Bool.and_eq_true] at hc
  obtain ⟨⟨hc1, hc2⟩, hc3⟩ := hc
  obtain ⟨nm, F1, hxx⟩ := hr
  have hrd := hxx.opd hc1
  rw [hx] at hrd
  generalize hev : a'.eval _ = v at hrd
  cases hrd
  refine wp_cond hev ?_
  cases β
  · exact h2 rfl w0 F _ _ _ hc3 ⟨nm, F1, hxx⟩
  · exact h1 rfl w0 F _ _ _ hc2 ⟨nm, F1, hxx⟩
theorem PW.reg (n : Nat) {ops : List AO} {kt : List Nat} {d : Option Nat} {f : Nat} {xs : List Opd} (ho : ops[n]? = some ⟨d, .call f xs, none⟩) (h : opsP P G false (ops.take n) st (panO P G f xs pv)) : PW P G pv (.reg ops kt) st := by
  intro w0 F c a' w hc hr
  cases c <;> simp only [chkC, Bool.false_eq_true, Bool.and_eq_true, Bool.not_eq_true'] at hc
  obtain ⟨hd, hc⟩ := hc
  subst hd
  have hlt := (List.getElem?_eq_some_iff.1 ho).1
  have e : ops = ops.take n ++ ⟨d, .call f xs, none⟩ :: ops.drop (n + 1) := by
    conv => lhs; rw [← List.take_append_drop n ops, List.drop_eq_getElem_cons hlt]
    rw [(List.getElem?_eq_some_iff.1 ho).2]
  rw [e] at hc
  exact wp_region_list (pan_ops _ _ _ _ _ hc h hr)
def behindA (aos : List AO) (n : Nat) : Bool :=
  (List.range aos.length).all fun i => decide (i ≤ n) || match aos[i]? with
    | none => true
    | some x => !quietB x.op || (List.range i).any fun j => decide (n ≤ j) && match aos[j]? with
      | none => false
      | some y => match y.d with
        | none => false
        | some t => x.looks.contains t
theorem behindA_at {aos : List AO} {n : Nat} (h : behindA aos n = true) {i : Nat} {x : AO} (hx : aos[i]? = some x) (hi : n < i) : quietB x.op = false ∨ ∃ j y t, n ≤ j ∧ j < i ∧ aos[j]? = some y ∧ y.d = some t ∧ t ∈ x.looks := by
  have hlt := (List.getElem?_eq_some_iff.1 hx).1
  have := List.all_eq_true.1 h i (List.mem_range.2 hlt)
  rw [hx] at this
  simp only [Bool.or_eq_true, decide_eq_true_eq, Bool.not_eq_true', List.any_eq_true, List.mem_range, Bool.and_eq_true] at this
  rcases this with h1 | h1 | ⟨j, hj, hn, hy⟩
  · omega
  · exact .inl h1
  · split at hy
    · cases hy
    · rename_i y hyj
      split at hy
      · cases hy
      · rename_i t ht
        exact .inr ⟨j, y, t, hn, hj, hyj, ht, by simpa using hy⟩
theorem pan_any {w0 : World} {F0 : Nat → Prop} {ops : Array Oper} {aos : List AO} (hd : DOk ops aos) (hc : chkAOs P ops ops.toList aos = true) {n : Nat} {d : Option Nat} {f : Nat} {xs : List Opd} (hn : aos[n]? = some ⟨d, .call f xs, none⟩) (hbh : behindA aos n = true)
    {vs : Nat → AV} {st0 stn : St} (hseg : ∀ i, 0 ≤ i → i < 0 + n → ∃ x st, aos[i]? = some x ∧ quietB x.op = true ∧ Part aos vs st0 (fun j => decide (0 ≤ j) && decide (j < i)) st ∧ yld P G x st (vs i) ∧ dOK x st0.N)
    (hpn : Part aos vs st0 (fun j => decide (0 ≤ j) && decide (j < 0 + n)) stn) (hpan : panO P G f xs pv stn) :
    ∀ (fuel : Nat) (listed : Array Bool) (st : St) (a : Act) (w : World), listed.size = ops.size → listed.toList.count false = fuel →
      (∀ (i : Nat) (o : Oper), ops[i]? = some o → listed.getD i false = true → ∀ e ∈ o.after, Region.binds .any e = true → listed.getD e.on false = true) → listed.getD n false = false →
      Part aos vs st0 (fun j => decide (0 ≤ j) && decide (j < 0 + n) && listed.getD j false) st → Rel G (pctx w0 F0) st a w → wpAny P .any ops (PanQ w0 pv) fuel listed a w := by
  obtain ⟨hlen, hget⟩ := chkAOs_get hc
  have hlen' : ops.size = aos.length := by simpa using hlen
  have hnlt := (List.getElem?_eq_some_iff.1 hn).1
  intro fuel
  induction fuel with
  | zero =>
    intro listed st a w hs hcnt hcl hun hp hr
    exfalso
    have : false ∉ listed.toList := List.count_eq_zero.1 hcnt
    have hi' : n < listed.size := by omega
    rw [Array.getD_eq_getD_getElem?, Array.getElem?_eq_getElem hi', Option.getD_some] at hun
    exact this (by rw [← hun]; exact Array.getElem_mem_toList hi')
  | succ fuel ih =>
    intro listed st a w hs hcnt hcl hun hp hr
    have same : ∀ i, i < ops.size → listed.getD i true = listed.getD i false := fun i hi => by
      rw [Array.getD_eq_getD_getElem?, Array.getD_eq_getD_getElem?, Array.getElem?_eq_getElem (by omega)]; rfl
    refine ⟨fun h0 => ?_, fun i hi => ?_⟩
    · exfalso
      have all : ∀ i, i < ops.size → listed.getD i false = true := fun i => by
        induction i using Nat.strongRecOn with
        | _ i ihi =>
          intro hi
          cases e : listed.getD i false with
          | true => rfl
          | false =>
            have ho : ops[i]? = some ops[i] := Array.getElem?_eq_getElem hi
            have : i ∈ Region.ready .any ops listed := mem_ready.2 ⟨by rw [same i hi]; exact e, ops[i], ho, fun e he hb => by
              have := hd.low i _ (by omega) ho e he hb
              exact ihi e.on this (by omega)⟩
            rw [h0] at this
            cases this
      rw [all n (by omega)] at hun
      cases hun
    · obtain ⟨hui, o, ho, hed⟩ := mem_ready.1 hi
      have hi' : i < ops.size := (Array.getElem?_eq_some_iff.1 ho).1
      rw [same i hi'] at hui
      -- none behind n comes up
      have behind : ∀ i, n < i → i < aos.length → (∀ o, ops[i]? = some o → ∀ e ∈ o.after, Region.binds .any e = true → listed.getD e.on false = true) → listed.getD n false = true := fun i => by
        induction i using Nat.strongRecOn with
        | _ i ihi =>
          intro hni hil hp
          have hx : aos[i]? = some aos[i] := List.getElem?_eq_getElem hil
          have hoi : ops[i]? = some ops[i] := Array.getElem?_eq_getElem (by omega)
          rcases behindA_at hbh hx hni with hq | ⟨j, y, t, hnj, hji, hyj, hyt, hlk⟩
          · have hbar : barOk ops i aos.length = true := by
              rcases hd.quiet _ _ hx with h | h
              · rw [hq] at h; cases h
              · exact h
            exact bar_ahead hbar (listed := fun j => listed.getD j false) hcl hp (i - n) n (by omega) hni
          · have := hd.look i j _ y t hx hyj (by omega) hyt hlk
            rw [if_pos hji] at this
            obtain ⟨o', ho', e, he, hb, hon⟩ := hasEdge_spec this
            have hlj := hp o' ho' e he hb
            rw [hon] at hlj
            by_cases e1 : j = n
            · subst e1; exact hlj
            · exact ihi j hji (by omega) (by omega) fun o ho e he hb => hcl j o ho hlj e he hb
      have hin : i ≤ n := by
        rcases Nat.lt_or_ge n i with h | h
        · have := behind i h (by omega) fun o' ho' e he hb => by rw [ho] at ho'; cases ho'; exact hed e he hb
          rw [hun] at this; cases this
        · exact h
      have look : ∀ (x : AO) (sti : St), aos[i]? = some x → Part aos vs st0 (fun j => decide (0 ≤ j) && decide (j < i)) sti → ∀ t ∈ x.looks, eget st.env t = eget sti.env t := fun x sti hx hpi t ht => by
        by_cases hj : ∃ (j : Nat) (x : AO), aos[j]? = some x ∧ x.d = some t ∧ j < n
        · obtain ⟨j, y, hxj, htj, h2⟩ := hj
          have uniq : ∀ (j' : Nat) (x' : AO), aos[j']? = some x' → x'.d = some t → j' = j := fun j' x' h1 h2 => hd.dst j' j x' y t h1 hxj h2 htj
          by_cases hlt : j < i
          · have := hd.look i j _ y t hx hxj (by omega) htj ht
            rw [if_pos hlt] at this
            obtain ⟨o', ho', e, he, hb, hon⟩ := hasEdge_spec this
            rw [ho] at ho'; cases ho'
            have hj1 := hed e he hb
            rw [hon] at hj1
            rw [hp.got t j y hxj htj (by simp [h2]; simpa using hj1), hpi.got t j y hxj htj (by simp [hlt])]
          · have hS : listed.getD j false = false := by
              by_cases e : j = i
              · subst e; exact hui
              · have := hd.look i j _ y t hx hxj (fun e' => e e'.symm) htj ht
                rw [if_neg hlt] at this
                obtain ⟨o', ho', e', he, hb, hon⟩ := hasEdge_spec this
                cases hlj : listed.getD j false with
                | false => rfl
                | true =>
                  have := hcl j o' ho' hlj e' he hb
                  rw [hon, hui] at this
                  cases this
            rw [hp.old t fun j' x' h1 h2 => by rw [uniq j' x' h1 h2, hS]; simp, hpi.old t fun j' x' h1 h2 => by rw [uniq j' x' h1 h2]; simp; omega]
        · have no : ∀ (j : Nat) (x : AO), aos[j]? = some x → x.d = some t → ¬ j < n := fun j x h1 h2 h3 => hj ⟨j, x, h1, h2, h3⟩
          rw [hp.old t fun j x h1 h2 => by have := no j x h1 h2; simp; intro h; omega, hpi.old t fun j x h1 h2 => by have := no j x h1 h2; simp; omega]
      by_cases hie : i = n
      · subst hie
        have hst : panO P G f xs pv st := by
          obtain ⟨vargs, args', hv, hf, hpc⟩ := hpan
          refine ⟨vargs, args', ?_, hf, hpc⟩
          rw [hp.heap.trans hpn.heap.symm, evs_congr (st := stn) (st' := st) fun t ht => look _ stn hn (by simpa using hpn) t (by simp only [AO.looks, looksOp, List.append_nil]; exact ht)]
          exact hv
        have hck := hget i o _ (by rw [← ho]; simp) hn
        simp only [chkAO, Bool.and_eq_true] at hck
        obtain ⟨⟨⟨_, hg⟩, hop⟩, _⟩ := hck
        have hgn : o.guard = none := by
          cases hgd : o.guard with
          | none => rfl
          | some g => rw [hgd] at hg; obtain ⟨j, b⟩ := g; simp [chkGuard] at hg
        have hs2 := pan_step hr hop hst (wpAny P .any ops (PanQ w0 pv) fuel (listed.setIfInBounds i true))
        unfold wpOp
        rw [ho]
        simp only [Region.wanted, hgn, if_true]
        exact .inl hs2
      · have hilt : i < n := by omega
        obtain ⟨x, sti, hx, hq, hpi, hyi, hdi⟩ := hseg i (Nat.zero_le _) (by omega)
        have hy : yld P G x st (vs i) := yld_congr (hp.heap.trans hpi.heap.symm) (look x sti hx hpi) hyi
        have hlst : ∀ j, (listed.setIfInBounds i true).getD j false = (listed.getD j false || j == i) := fun j => by
          by_cases e : j = i
          · subst e
            have : j < listed.size := by omega
            simp [this]
          · rw [getD_set_ne false (fun e' => e e'.symm)]
            simp [e]
        have hcnt' : (listed.setIfInBounds i true).toList.count false = fuel := by
          have hi2 : i < listed.toList.length := by simp; omega
          have hf : listed.toList[i] = false := by
            rw [Array.getD_eq_getD_getElem?, Array.getElem?_eq_getElem (show i < listed.size by omega)] at hui
            simpa using hui
          rw [Array.toList_setIfInBounds, List.count_set hi2, hf, hcnt]
          simp
        have hcl' : ∀ (j : Nat) (o : Oper), ops[j]? = some o → (listed.setIfInBounds i true).getD j false = true → ∀ e ∈ o.after, Region.binds .any e = true → (listed.setIfInBounds i true).getD e.on false = true := by
          intro j o' ho' hj e he hb
          rw [hlst] at hj ⊢
          by_cases e' : j = i
          · subst e'
            rw [ho] at ho'; cases ho'
            rw [hed e he hb]; rfl
          · have : listed.getD j false = true := by simpa [e'] using hj
            rw [hcl j o' ho' this e he hb]; rfl
        have hop := opP_of_yld hq (by rw [hp.N]; exact hdi) hy
        have hs2 := op_sound hr (K' := wpAny P .any ops (PanQ w0 pv) fuel (listed.setIfInBounds i true)) (Q := PanQ w0 pv) (hget i o _ (by rw [← ho]; simp) hx) hop (fun st1 a1 w1 ha hr1 => by
          refine ih _ st1 a1 w1 (by simp [hs]) hcnt' hcl' (by rw [hlst, hun]; simp; omega) (hp.step hd hx ha fun j => ?_) hr1
          rw [hlst]
          by_cases e : j = i
          · subst e; simp [hilt]
          · have e0 : (j == i) = false := by simpa using e
            rw [e0, Bool.or_false, Bool.or_false])
        unfold wpOp
        rw [ho]
        simp only
        split
        · rename_i hw; rw [if_pos hw] at hs2; exact .inl hs2
        · rename_i hw; rw [if_neg hw] at hs2; exact hs2
theorem PW.dreg (n : Nat) {ops : List AO} {kt : List Nat} {d : Option Nat} {f : Nat} {xs : List Opd} (ho : ops[n]? = some ⟨d, .call f xs, none⟩) (hb : behindA ops n = true) (hq : ((ops.take n).all fun x => quietB x.op) = true) (h : opsP P G true (ops.take n) st (panO P G f xs pv)) : PW P G pv (.dreg ops kt) st := by
  intro w0 F c a' w hc hr
  cases c <;> simp only [chkC, Bool.false_eq_true, Bool.and_eq_true, Bool.not_eq_true'] at hc
  rename_i id os draw
  obtain ⟨⟨⟨hd, hm⟩, hc⟩, hdc⟩ := hc
  subst hd
  have hdk := dchk_ok hdc
  have hlt := (List.getElem?_eq_some_iff.1 ho).1
  have hchain : ∀ (r k : Nat) (st : St), k + r = n → opsP P G true ((ops.take n).drop k) st (panO P G f xs pv) → ∃ vs stn, chain P G ops vs r k st stn ∧ panO P G f xs pv stn := by
    intro r
    induction r with
    | zero =>
      intro k st hk h
      have : k = n := by omega
      subst this
      rw [List.drop_of_length_le (by rw [List.length_take]; omega)] at h
      exact ⟨fun _ => .top, st, rfl, h⟩
    | succ r ih =>
      intro k st hk h
      have hkn : k < (ops.take n).length := by simp; omega
      rw [List.drop_eq_getElem_cons hkn] at h
      have hqk : quietB ((ops.take n)[k]).op = true := List.all_eq_true.1 hq _ (List.getElem_mem hkn)
      obtain ⟨v, st1, h1, h2, h3, h4⟩ := yld_of_opP hqk h
      obtain ⟨vs, stn, e1, e2⟩ := ih (k + 1) st1 (by omega) h4
      have hx : ops[k]? = some (ops.take n)[k] := by
        rw [List.getElem_take]
        exact List.getElem?_eq_getElem _
      exact ⟨fun j => if j = k then v else vs j, stn, ⟨_, hx, hqk, by simpa using h1, h3, st1, by simpa using h2, chain_congr e1 fun j hj => if_neg (by omega)⟩, e2⟩
  obtain ⟨vs, stn, e1, e2⟩ := hchain n 0 st (by omega) (by simpa using h)
  have p0 : Part ops vs st (fun j => decide (0 ≤ j) && decide (j < 0)) st := ⟨rfl, rfl, fun t j x _ _ hj => by simp at hj, fun t _ => rfl⟩
  obtain ⟨h1, h2⟩ := chain_part hdk n 0 st (Nat.le_refl _) e1 p0
  have none0 : ∀ j, (Array.replicate os.size false).getD j false = false := fun j => by
    rw [Array.getD_eq_getD_getElem?]
    simp only [Array.getElem?_replicate]
    split <;> rfl
  refine wp_region_any hm ?_
  refine pan_any hdk hc ho hb h1 h2 e2 os.size _ st a' _ (by simp) (by simp) (fun i o ho hi => by rw [none0] at hi; cases hi) (none0 n) ?_ hr.drew
  exact p0.congr fun j _ => by rw [none0]; simp
end
end Go.Proofs.YtjbcfpkibnhodaaGreatDoor.Ab
