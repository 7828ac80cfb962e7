/-
  Each operation but a call: what the model's run gives is what the abstract operation says. No claim is proved here.
-/
import Derived.Test.YtdfdiglnpekcpaaAbStep6
namespace Go.Proofs.Ytdfdiglnpekcpaa.Ab
open Go Go.RowKit

section
variable {P : Program} {G : Nat → Option AV} {C : Ctx} {nm : Names} {F : Nat → Prop} {st st' : St} {a : Act} {w : World} {o : Oper}

/-! ### Structs held against each other -/
theorem andO_some {a b : Option Bool} {c : Bool} (h : andO a b = some c) : ∃ x y, a = some x ∧ b = some y ∧ c = (x && y) := by
  cases a with
  | none => simp [andO] at h
  | some x =>
    cases b with
    | none => simp [andO] at h
    | some y => simp only [andO, Option.some.injEq] at h; exact ⟨x, y, rfl, rfl, h.symm⟩
theorem aeqs_append : ∀ (ks ks' : List Nat) (cs ds : List AV) (β : Bool), aeqs (ks ++ ks') cs ds = some β →
    ∃ β1 β2, aeqs ks (cs.take ks.length) (ds.take ks.length) = some β1 ∧ aeqs ks' (cs.drop ks.length) (ds.drop ks.length) = some β2 ∧ β = (β1 && β2)
  | [], ks', cs, ds, β, h => ⟨true, β, by simp [aeqs], by simpa using h, by simp⟩
  | k :: ks, ks', [], _, β, h => by simp [aeqs] at h
  | k :: ks, ks', _ :: _, [], β, h => by simp [aeqs] at h
  | k :: ks, ks', c :: cs, d :: ds, β, h => by
    simp only [List.cons_append, aeqs] at h
    obtain ⟨x, y, h1, h2, rfl⟩ := andO_some h
    obtain ⟨β1, β2, e1, e2, rfl⟩ := aeqs_append ks ks' cs ds y h2
    exact ⟨x && β1, β2, by simp only [List.length_cons, List.take_succ_cons, aeqs, h1, e1, andO], by simpa using e2, by simp [Bool.and_assoc]⟩
theorem aeqs_len : ∀ (ks : List Nat) (cs ds : List AV) (β : Bool), aeqs ks cs ds = some β → cs.length = ks.length ∧ ds.length = ks.length
  | [], [], [], _, _ => ⟨rfl, rfl⟩
  | [], _ :: _, _, _, h => by simp [aeqs] at h
  | [], [], _ :: _, _, h => by simp [aeqs] at h
  | _ :: _, [], _, _, h => by simp [aeqs] at h
  | _ :: _, _ :: _, [], _, h => by simp [aeqs] at h
  | k :: ks, c :: cs, d :: ds, β, h => by
    simp only [aeqs] at h
    obtain ⟨x, y, _, h2, _⟩ := andO_some h
    have := aeqs_len ks cs ds y h2
    simp [this]

/-- A value of a type, out of its cells. -/
def asVal (P : Program) (t : Nat) (us : List Value) : Value := if isAggT P t then .agg us.toArray else us.headD undef

theorem part_asVal (w : World) {t n off : Nat} {us : List Value} (ht : isAggT P t = true ∨ isLeaf P t = true) (hs : szIs P t n = true) (hl : off + n ≤ us.length) (h1 : isLeaf P t = true → n = 1) :
    (part t us.toArray off).run P w = .ok (asVal P t ((us.drop off).take n)) w := by
  rcases ht with ht | ht
  · simp only [part, Sem.run_bind, isAggT_run ht, Result.andThen_ok, if_true, szIs_run hs, Sem.run_pure, asVal, ht]
    congr 2
    simp [List.extract_toArray, List.extract_eq_take_drop]
  · have hn := h1 ht
    subst hn
    have hlt : off < us.length := by omega
    have hag : isAggT P t = false := by
      unfold isLeaf at ht
      unfold isAggT
      split at ht <;> simp_all
    simp only [part, Sem.run_bind, isLeaf_run ht, Result.andThen_ok, Bool.false_eq_true, if_false, asVal, hag]
    simp [List.head?_drop, hlt, List.headD_eq_head?_getD, List.head?_take]

theorem leaf_sound (w : World) {D t k : Nat} {c d : AV} {u v : Value} {β : Bool} (hc : Rd w F nm c u) (hd : Rd w F nm d v) (h : leafEq k c d = some β)
    (ht : (k = 0 ∧ ∃ i, P.underlying t = some (.int i)) ∨ (k = 1 ∧ P.underlying t = some .string) ∨ (k = 2 ∧ P.underlying t = some .bool)) : (Op.equalIn (D + 1) t u v).run P w = .ok β w := by
  rcases ht with ⟨rfl, i, ht⟩ | ⟨rfl, ht⟩ | ⟨rfl, ht⟩
  · cases c <;> cases d <;> simp only [leafEq, reduceCtorEq, Option.ite_none_right_eq_some, Option.some.injEq] at h
    obtain ⟨rfl, rfl⟩ := h
    cases hc; cases hd
    exact run_equalIn_int w D t _ i _ _ ht
  · cases c <;> cases d <;> simp only [leafEq, reduceCtorEq, Option.some.injEq] at h
    subst h
    cases hc; cases hd
    rw [run_equalIn_string w D t _ _ ht]
    simp
  · cases c <;> cases d <;> simp only [leafEq, reduceCtorEq, Option.some.injEq] at h
    subst h
    cases hc; cases hd
    exact run_equalIn_bool' w D t _ _ ht

theorem kinds_sound (w : World) : ∀ (d t : Nat) (ks : List Nat), kindsOf P d t = some ks → ∀ (cs ds : List AV) (us vs : List Value) (β : Bool), cs.length = us.length → ds.length = vs.length →
    (∀ (j : Nat) c u, cs[j]? = some c → us[j]? = some u → Rd w F nm c u) → (∀ (j : Nat) c u, ds[j]? = some c → vs[j]? = some u → Rd w F nm c u) → aeqs ks cs ds = some β →
    (isAggT P t = true ∨ isLeaf P t = true) ∧ (isLeaf P t = true → ks.length = 1) ∧ ∀ D, d ≤ D → (Op.equalIn D t (asVal P t us) (asVal P t vs)).run P w = .ok β w
  | 0, t, ks, h, _, _, _, _, _, _, _, _, _, _ => by simp [kindsOf] at h
  | d + 1, t, ks, h, cs, ds, us, vs, β, hu, hv, hru, hrv, hq => by
    have leaf : ∀ k, ks = [k] → isLeaf P t = true → isAggT P t = false → ((k = 0 ∧ ∃ i, P.underlying t = some (.int i)) ∨ (k = 1 ∧ P.underlying t = some .string) ∨ (k = 2 ∧ P.underlying t = some .bool)) →
        (isAggT P t = true ∨ isLeaf P t = true) ∧ (isLeaf P t = true → ks.length = 1) ∧ ∀ D, d + 1 ≤ D → (Op.equalIn D t (asVal P t us) (asVal P t vs)).run P w = .ok β w := by
      intro k hk h1 h2 h3
      subst hk
      refine ⟨.inr h1, fun _ => rfl, fun D hD => ?_⟩
      obtain ⟨D, rfl⟩ : ∃ D', D = D' + 1 := ⟨D - 1, by omega⟩
      simp only [asVal, h2, Bool.false_eq_true, if_false]
      have hl := aeqs_len _ _ _ _ hq
      match cs, ds, us, vs, hl, hu, hv with
      | [x], [y], [u], [v], _, _, _ =>
        simp only [aeqs] at hq
        obtain ⟨b1, b2, e1, e2, rfl⟩ := andO_some hq
        simp only [Option.some.injEq] at e2
        subst e2
        rw [Bool.and_true]
        exact leaf_sound w (hru 0 x u rfl rfl) (hrv 0 y v rfl rfl) e1 h3
    simp only [kindsOf] at h
    split at h
    · rename_i k hk
      simp only [Option.some.injEq] at h
      exact leaf 0 h.symm (by simp [isLeaf, hk]) (by simp [isAggT, hk]) (.inl ⟨rfl, k, hk⟩)
    · rename_i hk
      simp only [Option.some.injEq] at h
      exact leaf 1 h.symm (by simp [isLeaf, hk]) (by simp [isAggT, hk]) (.inr (.inl ⟨rfl, hk⟩))
    · rename_i hk
      simp only [Option.some.injEq] at h
      exact leaf 2 h.symm (by simp [isLeaf, hk]) (by simp [isAggT, hk]) (.inr (.inr ⟨rfl, hk⟩))
    · rename_i fs hfs
      have hag : isAggT P t = true := by simp [isAggT, hfs]
      have hnl : isLeaf P t = false := by simp [isLeaf, hfs]
      split at h
      · cases h
      · rename_i hst
        refine ⟨.inl hag, (fun e => by rw [hnl] at e; cases e), fun D hD => ?_⟩
        obtain ⟨D, rfl⟩ : ∃ D', D = D' + 1 := ⟨D - 1, by omega⟩
        simp only [asVal, hag, if_true]
        have hfo : P.fieldsOf t = fs := by simp [Program.fieldsOf, hfs]
        rw [run_equalIn_struct w D t _ _ (by rw [hfo]; exact hfs) (by simpa using hst), hfo]
        have hl := aeqs_len _ _ _ _ hq
        have go : ∀ (l : List Field) (off : Nat) (k : List Nat) (b : Bool), kindsFs P (kindsOf P d) l off = some k → off + k.length = cs.length → aeqs k (cs.drop off) (ds.drop off) = some b →
            (Op.eqFields D us.toArray vs.toArray l).run P w = .ok b w := by
          intro l
          induction l with
          | nil =>
            intro off k b hk _ hb
            simp only [kindsFs, Option.some.injEq] at hk
            subst hk
            have hlb := aeqs_len _ _ _ _ hb
            have e1 : cs.drop off = [] := List.eq_nil_of_length_eq_zero hlb.1
            have e2 : ds.drop off = [] := List.eq_nil_of_length_eq_zero hlb.2
            rw [e1, e2] at hb
            simp only [aeqs, Option.some.injEq] at hb
            subst hb
            rfl
          | cons f l ih =>
            intro off k b hk hlen hb
            simp only [kindsFs] at hk
            split at hk
            · rename_i hf
              obtain ⟨hf1, rfl⟩ := hf
              split at hk
              · rename_i k1 hk1
                split at hk
                · rename_i hsz
                  obtain ⟨k2, hk2, rfl⟩ := Option.map_eq_some_iff.1 hk
                  obtain ⟨β1, β2, e1, e2, rfl⟩ := aeqs_append k1 k2 _ _ _ hb
                  rw [List.drop_drop] at e2
                  rw [List.drop_drop] at e2
                  rw [List.length_append] at hlen
                  have htk : ∀ (l : List AV) (m : List Value), l.length = m.length → (∀ (j : Nat) c u, l[j]? = some c → m[j]? = some u → Rd w F nm c u) →
                      ((l.drop f.offset).take k1.length).length = ((m.drop f.offset).take k1.length).length ∧
                      ∀ (j : Nat) c u, ((l.drop f.offset).take k1.length)[j]? = some c → ((m.drop f.offset).take k1.length)[j]? = some u → Rd w F nm c u := by
                    intro l m h1 h2
                    refine ⟨by simp [h1], fun j c u hc hu => ?_⟩
                    rw [List.getElem?_take] at hc hu
                    split at hc
                    · rename_i hj
                      rw [if_pos hj, List.getElem?_drop] at hu
                      rw [List.getElem?_drop] at hc
                      exact h2 _ c u hc hu
                    · cases hc
                  obtain ⟨a1, a2⟩ := htk cs us hu hru
                  obtain ⟨b1, b2⟩ := htk ds vs hv hrv
                  obtain ⟨hty, hone, hrun⟩ := kinds_sound w d f.type k1 hk1 _ _ _ _ β1 a1 b1 a2 b2 e1
                  have r1 := part_asVal (P := P) w (us := us) (off := f.offset) hty hsz (by omega) hone
                  have r2 := part_asVal (P := P) w (us := vs) (off := f.offset) hty hsz (by omega) hone
                  simp only [Op.eqFields, if_pos hf1, Sem.run_bind, r1, r2, Result.andThen_ok, hrun D (by omega)]
                  cases β1
                  · simp
                  · simp only [Bool.not_true, Bool.false_eq_true, if_false, Bool.true_and]
                    exact ih _ k2 β2 hk2 (by omega) e2
                · cases hk
              · cases hk
            · cases hk
        exact go fs.toList 0 ks β h (by omega) (by simpa using hq)
    · cases h

theorem guard_agg (w : World) (t : Nat) (us vs : Array Value) (h : P.eqGuardType P.depth t = false) (neg : Bool) (ex ey : Operand) : (eqGuard (if neg then .neq else .eql) t ex ey (.agg us) (.agg vs)).run P w = .ok () w := by
  cases neg <;> simp [eqGuard, h]

theorem aeqA_sound {neg : Bool} {ks : List Nat} {x y c : AV} {u v : Value} (hx : Rd w F nm x u) (hy : Rd w F nm y v) (h : aeqA neg ks x y = some c) {t : TypeId} (ht : kindsOf P 20 t = some ks) (hag : isAggT P t = true) (hg : P.eqGuardType P.depth t = false) (ex ey : Operand) :
    ∃ r, ((do eqGuard (if neg then .neq else .eql) t ex ey u v; binOp (if neg then .neq else .eql) t u v : Sem Value)).run P w = .ok r w ∧ Rd w F nm c r := by
  cases x <;> cases y <;> simp only [aeqA, reduceCtorEq] at h
  rename_i cs ds
  split at h
  · rename_i b hb
    simp only [Option.some.injEq] at h
    subst h
    cases hx with
    | agg _ _ us hl hr =>
      cases hy with
      | agg _ _ vs hl' hr' =>
        obtain ⟨_, _, hrun⟩ := kinds_sound (P := P) w 20 t ks ht cs ds us vs b hl hl' hr hr' hb
        have he := hrun 10000 (by omega)
        simp only [asVal, hag, if_true] at he
        have he' : (Op.equal t (.agg us.toArray) (.agg vs.toArray)).run P w = .ok b w := he
        refine ⟨_, ?_, .bool _ _⟩
        simp only [Sem.run_bind, guard_agg w t _ _ hg, Result.andThen_ok]
        cases neg
        · have e : binOp .eql t (.agg us.toArray) (.agg vs.toArray) = (do pure (.bool (← Op.equal t (.agg us.toArray) (.agg vs.toArray)))) := rfl
          simp only [Bool.false_eq_true, if_false, e, Sem.run_bind, he', Result.andThen_ok, Sem.run_pure]
        · have e : binOp .neq t (.agg us.toArray) (.agg vs.toArray) = (do pure (.bool (!(← Op.equal t (.agg us.toArray) (.agg vs.toArray))))) := rfl
          simp only [if_true, e, Sem.run_bind, he', Result.andThen_ok, Sem.run_pure]
  · cases h
end
end Go.Proofs.Ytdfdiglnpekcpaa.Ab
