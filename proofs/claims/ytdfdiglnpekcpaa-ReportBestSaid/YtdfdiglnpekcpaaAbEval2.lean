/-
  Each operation but a call: what the model's run gives is what the abstract operation says. No claim is proved here.
-/
import Derived.Test.YtdfdiglnpekcpaaAbEval
namespace Go.Proofs.Ytdfdiglnpekcpaa.Ab
open Go Go.RowKit

section
variable {P : Program} {G : Nat → Option AV} {C : Ctx} {nm : Names} {F : Nat → Prop} {st st' : St} {a : Act} {w : World} {o : Oper}

theorem apick_sound {x y z c : AV} {u v r : Value} (hx : Rd w F nm x u) (hy : Rd w F nm y v) (hz : Rd w F nm z r) (h : apick x y z = some c) :
    ∃ q, ((do pure (.value (if ← asBool u then v else r)) : Sem Next)).run P w = .ok (.value q) w ∧ Rd w F nm c q := by
  unfold apick at h
  split at h
  · rename_i b _ _
    split at h
    · simp only [Option.some.injEq] at h; subst h; cases hx; exact ⟨v, rfl, hy⟩
    · simp only [Option.some.injEq] at h; subst h; cases hx; exact ⟨r, rfl, hz⟩
  · cases h

theorem aiaddr_sound (h : RelX G C nm F st a w) {sz : Nat} {x i c : AV} {u v : Value} (hx : Rd w F nm x u) (hi : Rd w F nm i v) (hq : aiaddr st.heap sz x i = some c) {t e : Nat} (ht : P.underlying t = some (.slice e)) (hs : szIs P e sz = true) : ∃ r, (Instr.indexAt t u v).run P w = .ok r w ∧ Rd w F nm c r := by
  cases x <;> cases i <;> simp only [aiaddr, reduceCtorEq] at hq
  case seq.int z es k n =>
    split at hq
    · rename_i hz
      obtain ⟨rfl, hn⟩ := hz
      obtain ⟨e1, he1, rfl⟩ := Option.map_eq_some_iff.1 hq
      have hlt : n.toNat < es.length := (List.getElem?_eq_some_iff.1 he1).1
      cases hi
      cases hx with
      | seq0 => simp at he1
      | seq _ _ _ g o cap us h0 hF hc hm hsz hw h1 hr =>
        refine ⟨.pointer (some ⟨g, o + n.toNat * z, none⟩), ?_, ?_⟩
        · simp only [Instr.indexAt, asIntOf, Sem.run_bind, Sem.run_pure, Result.andThen_ok, run_underlying ht]
          rw [if_pos ⟨hn, by omega⟩]
          simp only [Sem.run_bind, szIs_run hs, Result.andThen_ok, Sem.run_pure, add_at]
        · have hec := hsz e1 (List.mem_of_getElem? he1)
          have hroom : n.toNat * z + z ≤ es.length * z := by
            have : (n.toNat + 1) * z ≤ es.length * z := Nat.mul_le_mul_right _ hlt
            rw [Nat.add_mul] at this
            omega
          have := Rd.eptr (w := w) (F := F) nm e1 0 g (o + n.toNat * z) (fun p => us (n.toNat * z + p)) hF (fun p hp => by rw [Nat.add_assoc]; exact hw _ (by omega)) (fun p hp => h1 _ (by omega)) (fun j c hc => hr _ e1 j c he1 hc)
          simpa using this
    · cases hq
  case arr.int i k m kk n =>
    split at hq
    · rename_i b hb
      split at hq
      · rename_i hn
        obtain ⟨hbs, hn⟩ := hn
        simp only [Option.some.injEq] at hq
        subst hq
        cases hi
        cases hx with
        | arr _ _ _ _ m' hm' hle hp =>
          have hms : m'.sz = sz := by
            rcases h.box i b hb with ⟨hno, _⟩ | ⟨m1, hm1, h1, _⟩
            · rw [hm'] at hno; cases hno
            · rw [hm'] at hm1; cases hm1; rw [h1, hbs]
          refine ⟨.pointer (some ⟨m'.g, k * m'.sz + n.toNat * sz, none⟩), ?_, ?_⟩
          · simp only [Instr.indexAt, asIntOf, Sem.run_bind, Sem.run_pure, Result.andThen_ok, run_underlying ht]
            rw [if_pos hn]
            simp only [Sem.run_bind, szIs_run hs, Result.andThen_ok, Sem.run_pure, add_at]
          · have := Rd.ref (w := w) (F := F) nm i (k + n.toNat) 0 m' hm'
            rw [Nat.add_zero, Nat.add_mul, hms] at this
            rw [hms]
            exact this
        | arrE => omega
        | arrN => omega
      · cases hq
    · cases hq

theorem aidx_sound {x i c : AV} {u v : Value} (hx : Rd w F nm x u) (hi : Rd w F nm i v) (h : aidx x i = some c) {t : Nat} (ht : P.underlying t = some .string) : ∃ r, (Instr.index t u v).run P w = .ok r w ∧ Rd w F nm c r := by
  cases x <;> cases i <;> simp only [aidx, reduceCtorEq] at h
  rename_i s k n
  split at h
  · rename_i hn
    obtain ⟨b, hb, rfl⟩ := Option.map_eq_some_iff.1 h
    have hlt : n.toNat < s.length := (List.getElem?_eq_some_iff.1 hb).1
    cases hx; cases hi
    refine ⟨_, ?_, .int _ _ _⟩
    have hb' : (⟨s.toArray⟩ : ByteArray)[n.toNat]? = some b := by
      rw [ByteArray.getElem?_lt' _ _ (by simpa [ByteArray.size] using hlt)]
      rw [List.getElem?_eq_getElem hlt] at hb
      simpa [ByteArray.getElem_eq_getElem_data] using hb
    simp only [Instr.index, asIntOf, Sem.run_bind, Sem.run_pure, Result.andThen_ok, run_underlying ht]
    rw [if_pos hn, hb']
    rfl
  · cases h

theorem bound_run {v : Value} {k : IntKind} {n : Int} {y : Nat} (hv : v = .int k n) (h0 : 0 ≤ n) (hy : n ≤ y) (code : BoundsCode) : (Instr.sliceBound v y code).run P w = .ok n.toNat w := by
  subst hv
  simp only [Instr.sliceBound, asIntOf, Sem.run_bind, Sem.run_pure, Result.andThen_ok]
  rw [if_pos ⟨h0, hy⟩]
  rfl

/-- An index of a cut, given or not. -/
theorem bound_opt {x : Option AV} {v : Option Value} (hx : match x, v with | some c, some u => Rd w F nm c u | none, none => True | _, _ => False) {d : Int} {k : IntKind} {n : Int} (h : x.getD (.int .i64 d) = .int k n) :
    (v = none ∧ n = d) ∨ ∃ k', v = some (.int k' n) := by
  cases x with
  | none =>
    cases v with
    | none => simp only [Option.getD_none, AV.int.injEq] at h; exact .inl ⟨rfl, h.2.symm⟩
    | some u => exact hx.elim
  | some c =>
    cases v with
    | none => exact hx.elim
    | some u =>
      simp only [Option.getD_some] at h
      subst h
      cases hx
      exact .inr ⟨k, rfl⟩

theorem bounds_run {lo hi : Option Value} {l h len cap : Nat} (hlo : (lo = none ∧ l = 0) ∨ ∃ k, lo = some (.int k l)) (hhi : (hi = none ∧ h = len) ∨ ∃ k, hi = some (.int k h)) (h1 : l ≤ h) (h2 : h ≤ len) (h3 : len ≤ cap) (b : Bool) :
    (Instr.sliceBounds b len cap lo hi none).run P w = .ok (l, h, cap) w := by
  rcases hlo with ⟨rfl, rfl⟩ | ⟨k, rfl⟩ <;> rcases hhi with ⟨rfl, rfl⟩ | ⟨k', rfl⟩
  · simp only [Instr.sliceBounds, Sem.run_bind, Sem.run_pure, Result.andThen_ok]
  · have e := bound_run (P := P) (w := w) (v := .int k' h) rfl (by omega) (show (h : Int) ≤ (cap : Nat) by omega) (if b = true then .sliceAcap else .sliceAlen)
    simp only [Instr.sliceBounds, Sem.run_bind, Sem.run_pure, Result.andThen_ok, e, Int.toNat_natCast]
  · have e := bound_run (P := P) (w := w) (v := .int k l) rfl (by omega) (show (l : Int) ≤ (h : Nat) by omega) .sliceB
    simp only [Instr.sliceBounds, Sem.run_bind, Sem.run_pure, Result.andThen_ok, Option.isSome_none, Bool.false_eq_true, if_false, e, Int.toNat_natCast]
  · have e := bound_run (P := P) (w := w) (v := .int k' h) rfl (by omega) (show (h : Int) ≤ (cap : Nat) by omega) (if b = true then .sliceAcap else .sliceAlen)
    have e2 := bound_run (P := P) (w := w) (v := .int k l) rfl (by omega) (show (l : Int) ≤ (h : Nat) by omega) .sliceB
    simp only [Instr.sliceBounds, Sem.run_bind, Sem.run_pure, Result.andThen_ok, Option.isSome_none, Bool.false_eq_true, if_false, e, e2, Int.toNat_natCast]

theorem aslc_sound {z : Nat} {x c : AV} {lo hi : Option AV} {u : Value} {lo' hi' : Option Value} (hx : Rd w F nm x u) (hlo : match lo, lo' with | some c, some u => Rd w F nm c u | none, none => True | _, _ => False)
    (hhi : match hi, hi' with | some c, some u => Rd w F nm c u | none, none => True | _, _ => False) (h : aslc z x lo hi = some c) {t : Nat} (ht : (z = 0 ∧ P.underlying t = some .string) ∨ ∃ e, P.underlying t = some (.slice e) ∧ szIs P e z = true ∧ 0 < z) :
    ∃ r, (Instr.sliceAt t u lo' hi' none).run P w = .ok r w ∧ Rd w F nm c r := by
  cases x <;> simp only [aslc, reduceCtorEq] at h
  case str s =>
    split at h
    rotate_left
    · cases h
    rename_i hz
    have ht : P.underlying t = some .string := by
      rcases ht with ⟨_, ht⟩ | ⟨e, _, _, h0⟩
      · exact ht
      · omega
    split at h
    · rename_i k l k' hh e1 e2
      split at h
      · rename_i hc
        obtain ⟨h0, h1, h2⟩ := hc
        simp only [Option.some.injEq] at h
        subst h
        cases hx
        have b1 := bound_opt hlo e1
        have b2 := bound_opt hhi e2
        obtain ⟨l, rfl⟩ := Int.eq_ofNat_of_zero_le h0
        obtain ⟨m, rfl⟩ := Int.eq_ofNat_of_zero_le (show 0 ≤ hh by omega)
        have hb := bounds_run (P := P) (w := w) (lo := lo') (hi := hi') (l := l) (h := m) (len := s.length) (cap := s.length) (b1.imp (fun x => ⟨x.1, by omega⟩) id) (b2.imp (fun x => ⟨x.1, by omega⟩) id) (by omega) (by omega) (Nat.le_refl _) false
        refine ⟨.string ((⟨s.toArray⟩ : ByteArray).extract l m), ?_, ?_⟩
        · have hsz : (⟨s.toArray⟩ : ByteArray).size = s.length := by simp [ByteArray.size]
          simp only [Instr.sliceAt, Sem.run_bind, run_underlying ht, Result.andThen_ok, Instr.slice, Option.isSome_none, Bool.false_eq_true, if_false, hsz, hb, Sem.run_pure]
        · have e : ((⟨s.toArray⟩ : ByteArray).extract l m) = ⟨((s.drop l).take (m - l)).toArray⟩ := by
            apply ByteArray.ext
            simp [ByteArray.data_extract, List.extract_toArray, List.extract_eq_take_drop]
          rw [e]
          simpa using Rd.str (w := w) (F := F) nm ((s.drop l).take (m - l))
      · cases h
    · cases h
  case seq sz es =>
    split at h
    rotate_left
    · cases h
    rename_i hz
    obtain ⟨rfl, hz0'⟩ := hz
    split at h
    · rename_i k l k' hh e1 e2
      split at h
      · rename_i hc
        obtain ⟨h0, h1, h2⟩ := hc
        simp only [Option.some.injEq] at h
        subst h
        have b1 := bound_opt hlo e1
        have b2 := bound_opt hhi e2
        obtain ⟨l, rfl⟩ := Int.eq_ofNat_of_zero_le h0
        obtain ⟨m, rfl⟩ := Int.eq_ofNat_of_zero_le (show 0 ≤ hh by omega)
        simp only [Int.toNat_natCast]
        cases hx with
        | seq0 _ _ A cap =>
          have hl0 : l = 0 := by simp at h2; omega
          have hm0 : m = 0 := by simp at h2; omega
          subst hl0; subst hm0
          have hb := bounds_run (P := P) (w := w) (lo := lo') (hi := hi') (l := 0) (h := 0) (len := 0) (cap := cap) (b1.imp (fun x => ⟨x.1, rfl⟩) id) (b2.imp (fun x => ⟨x.1, rfl⟩) id) (by omega) (by omega) (Nat.zero_le _) true
          rcases ht with ⟨hz0, ht⟩ | ⟨e, ht, hs, _⟩
          · omega
          refine ⟨.slice (if cap = 0 then A else A.map (·.add (0 * z))) 0 (cap - 0), ?_, .seq0 _ _ _ _⟩
          simp only [Instr.sliceAt, Sem.run_bind, run_underlying ht, Result.andThen_ok, Instr.slice, hb, szIs_run hs, Sem.run_pure]
        | seq _ _ _ g o cap us hz hF hcap hm hsz hw h1' hr =>
          have hb := bounds_run (P := P) (w := w) (lo := lo') (hi := hi') (l := l) (h := m) (len := es.length) (cap := cap) (b1.imp (fun x => ⟨x.1, by omega⟩) id) (b2.imp (fun x => ⟨x.1, by omega⟩) id) (by omega) (by omega) hcap true
          have hlen : ((es.drop l).take (m - l)).length = m - l := by simp; omega
          rcases ht with ⟨hz0, ht⟩ | ⟨e, ht, hs, _⟩
          · omega
          refine ⟨.slice (if cap = l then some ⟨g, o, none⟩ else some ⟨g, o + l * z, none⟩) (m - l) (cap - l), ?_, ?_⟩
          · simp only [Instr.sliceAt, Sem.run_bind, run_underlying ht, Result.andThen_ok, Instr.slice, hb, szIs_run hs, Sem.run_pure, Option.map_some, add_at]
          · by_cases hml : m - l = 0
            · rw [hml]
              simp only [List.take_zero]
              exact .seq0 _ _ _ _
            · rw [if_neg (by omega)]
              have := Rd.seq (w := w) (F := F) nm z ((es.drop l).take (m - l)) g (o + l * z) (cap - l) (fun p => us (l * z + p)) hz hF (by rw [hlen]; omega) (by omega) (fun e he => hsz e (List.mem_of_mem_drop (List.mem_of_mem_take he)))
                (fun p hp => by
                  rw [hlen] at hp
                  rw [Nat.add_assoc]
                  refine hw _ ?_
                  have : (l + (m - l)) * z ≤ es.length * z := Nat.mul_le_mul_right _ (by omega)
                  rw [Nat.add_mul] at this
                  omega)
                (fun p hp => by
                  rw [hlen] at hp
                  refine h1' _ ?_
                  have : (l + (m - l)) * z ≤ es.length * z := Nat.mul_le_mul_right _ (by omega)
                  rw [Nat.add_mul] at this
                  omega)
                (fun k e j c he hc => by
                  rw [List.getElem?_take] at he
                  split at he
                  · rw [List.getElem?_drop] at he
                    have := hr (l + k) e j c he hc
                    rw [Nat.add_mul, Nat.add_assoc] at this
                    exact this
                  · cases he)
              rw [hlen] at this
              exact this
      · cases h
    · cases h
end
end Go.Proofs.Ytdfdiglnpekcpaa.Ab
