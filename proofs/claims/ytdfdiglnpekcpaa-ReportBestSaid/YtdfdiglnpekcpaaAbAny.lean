/-
  Regions that draw their order: the order in which the operations stand serves every order. No claim is proved here.
-/
import Derived.Test.YtdfdiglnpekcpaaAbOpP
namespace Go.Proofs.Ytdfdiglnpekcpaa.Ab
open Go Go.RowKit

/-! ### Operations that write their slot alone -/
def valOp (G : Nat → Option AV) (op : AOp) (st : St) : Option AV :=
  match op with
  | .mov x => some (st.ev G x)
  | .pick c a b => apick (st.ev G c) (st.ev G a) (st.ev G b)
  | .build zs ps => abuild G st zs ps
  | .load p => aload st.heap (st.ev G p)
  | .loadN p n => aloadN st.heap (st.ev G p) n
  | .bin op x y => abin op (st.ev G x) (st.ev G y)
  | .eqA neg ks x y => aeqA neg ks (st.ev G x) (st.ev G y)
  | .eqB neg x y => aeqB neg (st.ev G x) (st.ev G y)
  | .eqP neg x y => aeqP neg (st.ev G x) (st.ev G y)
  | .un op x => aun op (st.ev G x)
  | .conv k x => aconv k (st.ev G x)
  | .fld x off => afld (st.ev G x) off
  | .fldN x off n => afldN (st.ev G x) off n
  | .faddr p off => afaddr (st.ev G p) off
  | .iaddr sz x i => aiaddr st.heap sz (st.ev G x) (st.ev G i)
  | .idx x i => aidx (st.ev G x) (st.ev G i)
  | .slc z x lo hi => aslc z (st.ev G x) (lo.map (st.ev G)) (hi.map (st.ev G))
  | .len b x => alen b (st.ev G x)
  | .ext x i => aext (st.ev G x) i
  | .nchk x => anchk (st.ev G x)
  | .mkfn f caps => some (.fn f (evs G st caps))
  | _ => none

def quietB : AOp → Bool
  | .nilrow .. | .alloc .. | .box .. | .mkrow .. | .store .. | .app .. => false
  | _ => true

theorem evalOp_val (G : Nat → Option AV) (d : Option Nat) (op : AOp) (st : St) (h : quietB op = true) : evalOp G d op st = (valOp G op st).bind (st.put d) := by
  cases op <;> first | rfl | simp [quietB] at h

def lookO : Opd → List Nat
  | .t n => [n]
  | _ => []
def looksOp : AOp → List Nat
  | .mov x | .load x | .loadN x _ | .un _ x | .conv _ x | .fld x _ | .fldN x _ _ | .faddr x _ | .len _ x | .ext x _ | .nchk x => lookO x
  | .pick c a b => lookO c ++ lookO a ++ lookO b
  | .build _ ps => ps.flatMap fun p => lookO p.2.2
  | .bin _ x y | .eqA _ _ x y | .eqB _ x y | .eqP _ x y | .iaddr _ x y | .idx x y => lookO x ++ lookO y
  | .slc _ x lo hi => lookO x ++ lo.toList.flatMap lookO ++ hi.toList.flatMap lookO
  | .mkfn _ xs | .call _ xs => xs.flatMap lookO
  | .callv x xs => lookO x ++ xs.flatMap lookO
  | _ => []
def AO.looks (o : AO) : List Nat := looksOp o.op ++ (match o.g with | some (t, _) => [t] | none => [])

section
variable {P : Program} {G : Nat → Option AV} {st st' : St}

theorem ev_congr {x : Opd} (h : ∀ t ∈ lookO x, eget st'.env t = eget st.env t) : st'.ev G x = st.ev G x := by
  cases x <;> first | rfl | exact h _ (by simp [lookO])
theorem evs_congr {xs : List Opd} (h : ∀ t ∈ xs.flatMap lookO, eget st'.env t = eget st.env t) : evs G st' xs = evs G st xs := by
  induction xs with
  | nil => rfl
  | cons x xs ih =>
    simp only [evs]
    rw [ev_congr fun t ht => h t (by simp [ht]), ih fun t ht => h t (by rw [List.flatMap_cons]; simp [ht])]
theorem abuild_congr {ps : List (Nat × Nat × Opd)} (h : ∀ t ∈ ps.flatMap (fun p => lookO p.2.2), eget st'.env t = eget st.env t) : ∀ zs, abuild G st' zs ps = abuild G st zs ps := by
  induction ps with
  | nil => intro zs; rfl
  | cons p ps ih =>
    intro zs
    obtain ⟨off, n, x⟩ := p
    simp only [abuild]
    rw [ev_congr fun t ht => h t (by simp [ht]), ih fun t ht => h t (by rw [List.flatMap_cons]; simp [ht])]

theorem valOp_congr {op : AOp} (hh : st'.heap = st.heap) (h : ∀ t ∈ looksOp op, eget st'.env t = eget st.env t) : valOp G op st' = valOp G op st := by
  cases op <;> simp only [valOp, looksOp, List.mem_append] at h ⊢
  case mov x => rw [ev_congr h]
  case pick c a b => rw [ev_congr (x := c) fun t ht => h t (by simp [ht]), ev_congr (x := a) fun t ht => h t (by simp [ht]), ev_congr (x := b) fun t ht => h t (by simp [ht])]
  case build zs ps => rw [abuild_congr h]
  case mkfn f xs => rw [evs_congr h]
  case slc z x lo hi =>
    have e1 : lo.map (st'.ev G) = lo.map (st.ev G) := by cases lo with | none => rfl | some y => simp only [Option.map_some]; rw [ev_congr fun t ht => h t (by simp [ht])]
    have e2 : hi.map (st'.ev G) = hi.map (st.ev G) := by cases hi with | none => rfl | some y => simp only [Option.map_some]; rw [ev_congr fun t ht => h t (by simp [ht])]
    rw [ev_congr (x := x) fun t ht => h t (by simp [ht]), e1, e2]
  all_goals first
    | (rw [hh, ev_congr (x := _) fun t ht => h t (by simp [ht]), ev_congr (x := _) fun t ht => h t (by simp [ht])]; done)
    | (rw [ev_congr (x := _) fun t ht => h t (.inl ht), ev_congr (x := _) fun t ht => h t (.inr ht)]; done)
    | (rw [hh, ev_congr (x := _) fun t ht => h t (.inl ht), ev_congr (x := _) fun t ht => h t (.inr ht)]; done)
    | (rw [hh, ev_congr h]; done)
    | (rw [ev_congr h]; done)

/-! ### What an operation yields -/
def qcall (P : Program) (G : Nat → Option AV) (f : Nat) (args : List AV) (st : St) (v : AV) : Prop :=
  ∃ vargs args', viewC v st.heap args = some vargs ∧ FitL vargs args' ∧ PureC P G f args' v ∧ quietR args v = true
def qv (P : Program) (G : Nat → Option AV) (op : AOp) (st : St) (v : AV) : Prop :=
  match op with
  | .call f xs => qcall P G f (evs G st xs) st v
  | .callv x xs => match st.ev G x with
    | .fn f caps => bodyB P f = true ∧ qcall P G f (evs G st xs ++ caps) st v
    | _ => False
  | op => valOp G op st = some v
def yld (P : Program) (G : Nat → Option AV) (o : AO) (st : St) (v : AV) : Prop :=
  match o.g with
  | none => qv P G o.op st v
  | some (t, want) => (st.get t = .bool want ∧ qv P G o.op st v) ∨ ((st.get t = .bool (!want) ∨ st.get t = .undef) ∧ v = .undef)
def dOK (o : AO) (N : Nat) : Prop := ∀ d, o.d = some d → d < N
/-- The state behind it. -/
structure After (o : AO) (v : AV) (st st1 : St) : Prop where
  heap : st1.heap = st.heap
  N : st1.N = st.N
  env : ∀ t, eget st1.env t = if o.d = some t then v else eget st.env t

theorem qcall_congr {f : Nat} {args : List AV} {v : AV} (hh : st'.heap = st.heap) (h : qcall P G f args st v) : qcall P G f args st' v := by
  obtain ⟨a, b, h1, h2⟩ := h
  exact ⟨a, b, by rw [hh]; exact h1, h2⟩
theorem qv_congr {op : AOp} {v : AV} (hh : st'.heap = st.heap) (h : ∀ t ∈ looksOp op, eget st'.env t = eget st.env t) (hv : qv P G op st v) : qv P G op st' v := by
  cases op <;> first
    | exact (valOp_congr (G := G) hh h).trans hv
    | (simp only [qv] at hv ⊢; rw [evs_congr h]; exact qcall_congr hh hv)
    | (simp only [qv, looksOp, List.mem_append] at hv h ⊢
       rw [evs_congr fun t ht => h t (.inr ht), ev_congr fun t ht => h t (.inl ht)]
       split
       · rename_i e; rw [e] at hv; exact ⟨hv.1, qcall_congr hh hv.2⟩
       · rename_i e1 e2; split at hv
         · rename_i e3; exact (e2 _ _ e3).elim
         · exact hv)
theorem yld_congr {o : AO} {v : AV} (hh : st'.heap = st.heap) (h : ∀ t ∈ o.looks, eget st'.env t = eget st.env t) (hv : yld P G o st v) : yld P G o st' v := by
  have h1 : ∀ t ∈ looksOp o.op, eget st'.env t = eget st.env t := fun t ht => h t (by simp [AO.looks, ht])
  unfold yld at hv ⊢
  split
  · rename_i e; rw [e] at hv; exact qv_congr hh h1 hv
  · rename_i t want e
    rw [e] at hv
    have h2 : st'.get t = st.get t := h t (by simp [AO.looks, e])
    rw [h2]
    rcases hv with ⟨a, b⟩ | hv
    · exact .inl ⟨a, qv_congr hh h1 b⟩
    · exact .inr hv

theorem put_after {o : AO} {v : AV} {st1 : St} (h : st.put o.d v = some st1) : After o v st st1 ∧ dOK o st.N := by
  cases hd : o.d with
  | none =>
    rw [hd] at h
    cases h
    exact ⟨⟨rfl, rfl, fun t => by simp [hd]⟩, fun d' e => by rw [hd] at e; cases e⟩
  | some d =>
    rw [hd] at h
    simp only [St.put] at h
    split at h
    · rename_i hlt
      cases h
      refine ⟨⟨rfl, rfl, fun t => ?_⟩, fun d' e => by rw [hd] at e; cases e; exact hlt⟩
      simp only [eget, hd, Option.some.injEq]
    · cases h
theorem put_of_dOK {o : AO} (h : dOK o st.N) (v : AV) : ∃ st1, st.put o.d v = some st1 ∧ After o v st st1 := by
  have : ∃ st1, st.put o.d v = some st1 := by
    unfold St.put
    cases hd : o.d with
    | none => exact ⟨_, rfl⟩
    | some d => simp [h d hd]
  obtain ⟨st1, e⟩ := this
  exact ⟨st1, e, (put_after e).1⟩
theorem behind_quiet {args : List AV} {r : AV} (h : quietR args r = true) : behind st args r = st := by
  unfold behind
  unfold quietR at h
  split
  · rfl
  · rename_i hf
    simp only [hf, Bool.false_or, List.isEmpty_iff] at h
    rw [h]; rfl
theorem After.know {o : AO} {v : AV} {st1 : St} {t : Nat} {b : Bool} (ht : st.get t = .bool b) (h : After o v (st.know t b) st1) : After o v st st1 := by
  refine ⟨h.heap, h.N, fun s => ?_⟩
  rw [h.env]
  split
  · rfl
  · simp only [St.know, eget]
    split
    · rename_i e; subst e; exact ht.symm
    · rfl
theorem know_eget {t : Nat} {b : Bool} (ht : st.get t = .bool b) (s : Nat) : eget (st.know t b).env s = eget st.env s := by
  simp only [St.know, eget]
  split
  · rename_i e; subst e; exact ht.symm
  · rfl

theorem qv_of_stepP {o : AO} {K : St → Prop} (hq : quietB o.op = true) (h : stepP P G true o.d o.op st K) : ∃ v st1, qv P G o.op st v ∧ After o v st st1 ∧ dOK o st.N ∧ K st1 := by
  have call : ∀ {f : Nat} {args : List AV}, callP P G true f args o.d st K → ∃ v st1, qcall P G f args st v ∧ After o v st st1 ∧ dOK o st.N ∧ K st1 := by
    rintro f args ⟨va, a', r, st1, h1, h2, h3, h4, h5, h6⟩
    rw [behind_quiet (h5 rfl)] at h4
    obtain ⟨h7, h8⟩ := put_after h4
    exact ⟨r, st1, ⟨va, a', h1, h2, h3, h5 rfl⟩, h7, h8, h6⟩
  have hX : ∀ {f : Nat} {args : List AV} {src : Option Opd × List Opd}, callS P G true f args src o.d st K → callP P G true f args o.d st K := by
    rintro f args src ((h | ⟨h, _⟩) | ⟨h, _⟩)
    · exact h
    · cases h
    · cases h
  have pure_ : (match evalOp G o.d o.op st with | some st' => K st' | none => False) → ∃ v st1, valOp G o.op st = some v ∧ After o v st st1 ∧ dOK o st.N ∧ K st1 := by
    rw [evalOp_val _ _ _ _ hq]
    intro h
    cases hv : valOp G o.op st with
    | none => rw [hv] at h; exact h.elim
    | some v =>
      rw [hv] at h
      simp only [Option.bind_some] at h
      split at h
      · rename_i st1 e
        obtain ⟨h7, h8⟩ := put_after e
        exact ⟨v, st1, rfl, h7, h8, h⟩
      · exact h.elim
  generalize hop : o.op = op at *
  cases op
  case call f xs => exact call (hX (src := (none, xs)) h)
  case callv x xs =>
    simp only [stepP] at h
    simp only [qv]
    split at h
    · rename_i f caps e
      obtain ⟨v, st1, h1, h2, h3, h4⟩ := call (hX h.2)
      exact ⟨v, st1, by rw [e]; exact ⟨h.1, h1⟩, h2, h3, h4⟩
    · exact h.elim
  all_goals exact pure_ h
theorem stepP_of_qv {o : AO} {v : AV} (hq : quietB o.op = true) (hd : dOK o st.N) (h : qv P G o.op st v) : stepP P G true o.d o.op st (After o v st) := by
  obtain ⟨st1, e1, e2⟩ := put_of_dOK hd v
  have call : ∀ {f : Nat} {args : List AV}, qcall P G f args st v → callP P G true f args o.d st (After o v st) := by
    rintro f args ⟨va, a', h1, h2, h3, h4⟩
    exact ⟨va, a', v, st1, h1, h2, h3, by rw [behind_quiet h4]; exact e1, fun _ => h4, e2⟩
  have pure_ : valOp G o.op st = some v → (match evalOp G o.d o.op st with | some st' => After o v st st' | none => False) := by
    intro h
    rw [evalOp_val _ _ _ _ hq, h, Option.bind_some, e1]
    exact e2
  generalize hop : o.op = op at *
  cases op
  case call f xs => exact .inl (.inl (call h))
  case callv x xs =>
    simp only [qv] at h
    simp only [stepP]
    split at h
    · rename_i f caps e
      rw [e]
      exact ⟨h.1, .inl (.inl (call h.2))⟩
    · exact h.elim
  all_goals exact pure_ h

theorem yld_of_opP {o : AO} {K : St → Prop} (hq : quietB o.op = true) (h : opP P G true o st K) : ∃ v st1, yld P G o st v ∧ After o v st st1 ∧ dOK o st.N ∧ K st1 := by
  unfold opP at h
  have skip : ∀ {st : St}, skipP o.d st K → ∃ st1, After o .undef st st1 ∧ dOK o st.N ∧ K st1 := by
    intro st h
    unfold skipP at h
    split at h
    · rename_i st1 e
      obtain ⟨h1, h2⟩ := put_after e
      exact ⟨st1, h1, h2, h⟩
    · exact h.elim
  split at h
  · rename_i e
    unfold yld; rw [e]
    exact qv_of_stepP hq h
  · rename_i t want e
    unfold yld; rw [e]
    split at h
    · rename_i b hb
      by_cases hw : b = want
      · subst hw
        obtain ⟨v, st1, h1, h2, h3, h4⟩ := qv_of_stepP hq (h.1 rfl)
        exact ⟨v, st1, .inl ⟨hb, qv_congr (st := st.know t b) rfl (fun s _ => (know_eget hb s).symm) h1⟩, h2.know hb, h3, h4⟩
      · have hw' : b = (!want) := by revert hw; cases b <;> cases want <;> decide
        subst hw'
        obtain ⟨st1, h1, h2, h3⟩ := skip (h.2 rfl)
        exact ⟨.undef, st1, .inr ⟨.inl hb, rfl⟩, h1.know hb, h2, h3⟩
    · rename_i hb
      obtain ⟨st1, h1, h2, h3⟩ := skip h
      exact ⟨.undef, st1, .inr ⟨.inr hb, rfl⟩, h1, h2, h3⟩
    · exact h.elim
theorem stepP_mono {op : AOp} {d : Option Nat} {q : Bool} {K K' : St → Prop} (h : stepP P G q d op st K) (hk : ∀ st, K st → K' st) : stepP P G q d op st K' := by
  cases op
  case call f xs => exact callS_mono (src := (none, xs)) h hk
  case callv x xs =>
    simp only [stepP] at h ⊢
    split at h
    · exact ⟨h.1, callS_mono h.2 hk⟩
    · exact h.elim
  all_goals
    simp only [stepP] at h ⊢
    split at h
    · exact hk _ h
    · exact h.elim
theorem opP_mono {o : AO} {q : Bool} {K K' : St → Prop} (h : opP P G q o st K) (hk : ∀ st, K st → K' st) : opP P G q o st K' := by
  have skipm : ∀ {st : St}, skipP o.d st K → skipP o.d st K' := by
    intro st h
    unfold skipP at h ⊢
    split at h
    · exact hk _ h
    · exact h.elim
  unfold opP at h ⊢
  split
  · rename_i e
    rw [e] at h
    exact stepP_mono h hk
  · rename_i t want e
    simp only [e] at h
    split
    · rename_i b hb
      rw [hb] at h
      exact ⟨fun e => stepP_mono (h.1 e) hk, fun e => skipm (h.2 e)⟩
    · rename_i hb
      rw [hb] at h
      exact skipm h
    · rename_i h1 h2
      split at h
      · rename_i e; exact (h1 _ e).elim
      · rename_i e; exact (h2 e).elim
      · exact h.elim
theorem opsP_mono {q : Bool} {K K' : St → Prop} : ∀ {os : List AO} {st : St}, opsP P G q os st K → (∀ st, K st → K' st) → opsP P G q os st K'
  | [], _, h, hk => hk _ h
  | _ :: _, _, h, hk => opP_mono h fun _ h' => opsP_mono h' hk

theorem opP_of_yld {o : AO} {v : AV} (hq : quietB o.op = true) (hd : dOK o st.N) (h : yld P G o st v) : opP P G true o st (After o v st) := by
  unfold yld at h
  unfold opP
  have skip : ∀ {st : St}, dOK o st.N → skipP o.d st (After o .undef st) := by
    intro st hd
    obtain ⟨st1, e1, e2⟩ := put_of_dOK hd .undef
    unfold skipP
    rw [e1]
    exact e2
  have skipm : ∀ {st : St} {K K' : St → Prop}, (∀ st, K st → K' st) → skipP o.d st K → skipP o.d st K' := by
    intro st K K' hk h
    unfold skipP at h ⊢
    split at h
    · exact hk _ h
    · exact h.elim
  split at h
  · rename_i e; simp only [e]; exact stepP_of_qv hq hd h
  · rename_i t want e
    simp only [e]
    rcases h with ⟨ht, h⟩ | ⟨ht | ht, rfl⟩
    · rw [ht]
      refine ⟨fun _ => ?_, fun hb => by cases want <;> simp at hb⟩
      exact stepP_mono (stepP_of_qv (st := st.know t want) hq hd (qv_congr (st := st) (st' := st.know t want) rfl (fun s _ => know_eget ht s) h)) fun st1 h1 => h1.know ht
    · rw [ht]
      refine ⟨fun hb => by cases want <;> simp at hb, fun _ => ?_⟩
      exact skipm (fun st1 h1 => h1.know ht) (skip (st := st.know t (!want)) hd)
    · rw [ht]
      exact skip hd
end

/-! ### The check: what two operations share is ordered -/
def hasEdge (ops : Array Oper) (i j : Nat) : Bool :=
  match ops[i]? with
  | some o => o.after.any fun e => Region.binds .any e && e.on == j
  | none => false
def pairOk (ops : Array Oper) (x y : AO) (i j : Nat) : Bool :=
  i == j || match y.d with
    | some d => x.d != some d && (!(x.looks.contains d) || (if j < i then hasEdge ops i j else hasEdge ops j i))
    | none => true
def edgesLow (ops : Array Oper) (i : Nat) : Bool :=
  match ops[i]? with
  | some o => o.after.all fun e => !Region.binds .any e || decide (e.on < i)
  | none => true
def dchk (ops : Array Oper) (aos : List AO) : Bool :=
  aos.zipIdx.all fun (x, i) => quietB x.op && edgesLow ops i && aos.zipIdx.all fun (y, j) => pairOk ops x y i j

structure DOk (ops : Array Oper) (aos : List AO) : Prop where
  quiet : ∀ (i : Nat) (x : AO), aos[i]? = some x → quietB x.op = true
  low : ∀ (i : Nat) (o : Oper), i < aos.length → ops[i]? = some o → ∀ e ∈ o.after, Region.binds .any e = true → e.on < i
  dst : ∀ (i j : Nat) (x y : AO) (d : Nat), aos[i]? = some x → aos[j]? = some y → x.d = some d → y.d = some d → i = j
  look : ∀ (i j : Nat) (x y : AO) (d : Nat), aos[i]? = some x → aos[j]? = some y → i ≠ j → y.d = some d → d ∈ x.looks → if j < i then hasEdge ops i j = true else hasEdge ops j i = true
theorem dchk_ok {ops : Array Oper} {aos : List AO} (h : dchk ops aos = true) : DOk ops aos := by
  have get : ∀ (i : Nat) (x : AO), aos[i]? = some x → (x, i) ∈ aos.zipIdx := fun i x hx => by
    rw [List.mem_zipIdx_iff_getElem?]; exact hx
  simp only [dchk, List.all_eq_true, Bool.and_eq_true, Prod.forall] at h
  refine ⟨fun i x hx => (h x i (get i x hx)).1.1, fun i o hi ho e he hb => ?_, fun i j x y d hx hy h1 h2 => ?_, fun i j x y d hx hy hne h1 h2 => ?_⟩
  · have := (h aos[i] i (get i _ (List.getElem?_eq_getElem hi))).1.2
    simp only [edgesLow, ho, Array.all_eq_true_iff_forall_mem] at this
    have := this e he
    simpa [hb] using this
  · have := (h x i (get i x hx)).2 y j (get j y hy)
    simp only [pairOk, h2, h1, bne_self_eq_false, Bool.false_and, Bool.or_false, beq_iff_eq] at this
    exact this
  · have := (h x i (get i x hx)).2 y j (get j y hy)
    simp only [pairOk, h1, Bool.or_eq_true, beq_iff_eq, hne, false_or, Bool.and_eq_true, Bool.not_eq_true', List.contains_eq_mem, decide_eq_false_iff_not, h2, not_true_eq_false] at this
    split
    · rename_i e; simpa [e] using this.2
    · rename_i e; simpa [e] using this.2

/-- Some of a region's operations have come up. -/
structure Part (aos : List AO) (vs : List AV) (st0 : St) (S : Nat → Bool) (st : St) : Prop where
  heap : st.heap = st0.heap
  N : st.N = st0.N
  got : ∀ (t j : Nat) (x : AO) (v : AV), aos[j]? = some x → vs[j]? = some v → x.d = some t → S j = true → eget st.env t = v
  old : ∀ t, (∀ (j : Nat) (x : AO), aos[j]? = some x → x.d = some t → S j = false) → eget st.env t = eget st0.env t

theorem Part.step {ops : Array Oper} {aos : List AO} {vs : List AV} {st0 st st1 : St} {S S' : Nat → Bool} (hd : DOk ops aos) (h : Part aos vs st0 S st) {i : Nat} {x : AO} {v : AV} (hx : aos[i]? = some x) (hv : vs[i]? = some v)
    (ha : After x v st st1) (hS : ∀ j, S' j = (S j || j == i)) : Part aos vs st0 S' st1 := by
  refine ⟨ha.heap.trans h.heap, ha.N.trans h.N, fun t j y u hy hu ht hj => ?_, fun t ho => ?_⟩
  · rw [ha.env]
    by_cases e : j = i
    · subst e
      rw [hx] at hy; cases hy
      rw [hv] at hu; cases hu
      rw [if_pos ht]
    · have : S j = true := by rw [hS] at hj; simpa [e] using hj
      rw [if_neg (fun e' => e (hd.dst j i y x t hy hx ht e'))]
      exact h.got t j y u hy hu ht this
  · rw [ha.env]
    by_cases e : x.d = some t
    · have := ho i x hx e
      rw [hS] at this
      simp at this
    · rw [if_neg e]
      refine h.old t fun j y hy ht => ?_
      have := ho j y hy ht
      rw [hS] at this
      simp only [Bool.or_eq_false_iff] at this
      exact this.1

section
variable {P : Program} {G : Nat → Option AV}
/-- The order in which they stand. -/
def chain (P : Program) (G : Nat → Option AV) : List AO → St → List AV → St → Prop
  | [], st, [], st' => st = st'
  | o :: os, st, v :: vs, st' => yld P G o st v ∧ dOK o st.N ∧ ∃ st1, After o v st st1 ∧ chain P G os st1 vs st'
  | _, _, _, _ => False
theorem chain_of_opsP : ∀ {aos : List AO} {st : St} {K : St → Prop}, (∀ (i : Nat) (x : AO), aos[i]? = some x → quietB x.op = true) → opsP P G true aos st K → ∃ vs st', chain P G aos st vs st' ∧ K st'
  | [], st, K, _, h => ⟨[], st, rfl, h⟩
  | o :: os, st, K, hq, h => by
    obtain ⟨v, st1, h1, h2, h3, h4⟩ := yld_of_opP (hq 0 o rfl) h
    obtain ⟨vs, st', h5, h6⟩ := chain_of_opsP (fun i x hx => hq (i + 1) x (by simpa using hx)) h4
    exact ⟨v :: vs, st', ⟨h1, h3, st1, h2, h5⟩, h6⟩
theorem chain_len : ∀ {aos : List AO} {st : St} {vs : List AV} {st' : St}, chain P G aos st vs st' → vs.length = aos.length
  | [], _, [], _, _ => rfl
  | o :: os, st, v :: vs, st', h => by obtain ⟨_, _, _, _, h⟩ := h; simp [chain_len h]
  | [], _, _ :: _, _, h => h.elim
  | _ :: _, _, [], _, h => h.elim
theorem chain_part {ops : Array Oper} {aos : List AO} {vs : List AV} {st0 stn : St} (hd : DOk ops aos) (hl : vs.length = aos.length) : ∀ (n k : Nat) (st : St), n + k = aos.length → chain P G (aos.drop k) st (vs.drop k) stn → Part aos vs st0 (fun j => decide (j < k)) st →
    (∀ (i : Nat) (x : AO) (v : AV), k ≤ i → aos[i]? = some x → vs[i]? = some v → ∃ st, Part aos vs st0 (fun j => decide (j < i)) st ∧ yld P G x st v ∧ dOK x st0.N) ∧ Part aos vs st0 (fun j => decide (j < aos.length)) stn
  | 0, k, st, hn, hc, hp => by
    have hk : k = aos.length := by omega
    subst hk
    rw [List.drop_of_length_le (Nat.le_refl _), List.drop_of_length_le (by omega)] at hc
    have : st = stn := hc
    subst this
    refine ⟨fun i x v hi hx => ?_, hp⟩
    have := (List.getElem?_eq_some_iff.1 hx).1
    omega
  | n + 1, k, st, hn, hc, hp => by
    have h1 : k < aos.length := by omega
    rw [List.drop_eq_getElem_cons h1, List.drop_eq_getElem_cons (show k < vs.length by omega)] at hc
    obtain ⟨hy, hdk, st1, ha, hc⟩ := hc
    have hx : aos[k]? = some aos[k] := List.getElem?_eq_getElem h1
    have hv : vs[k]? = some (vs[k]'(by omega)) := List.getElem?_eq_getElem (by omega)
    have hp1 := hp.step (S' := fun j => decide (j < k + 1)) hd hx hv ha (fun j => by
      rw [Bool.eq_iff_iff]; simp; omega)
    obtain ⟨h2, h3⟩ := chain_part hd hl n (k + 1) st1 (by omega) hc hp1
    refine ⟨fun i x v hi hx' hv' => ?_, h3⟩
    by_cases e : i = k
    · subst e
      rw [hx] at hx'; cases hx'
      rw [hv] at hv'; cases hv'
      exact ⟨st, hp, hy, by rw [← hp.N]; exact hdk⟩
    · exact h2 i x v (by omega) hx' hv'

theorem Rel.drew {C : Ctx} {st : St} {a : Act} {w : World} (h : Rel G C st a w) : Rel G C st a { w with drawn := w.drawn + 1 } := by
  obtain ⟨nm, F, hx⟩ := h
  exact ⟨nm, F, hx.world (w' := { w with drawn := w.drawn + 1 }) (F' := F) ⟨hx.keep.os, hx.keep.tape, hx.keep.output, hx.keep.size, hx.keep.block⟩ (fun _ h => h) (fun _ h => .inl h) (fun b hb => hx.good.1 b hb) (fun _ _ => rfl)⟩

theorem chkAOs_get {ops : Array Oper} : ∀ {l : List Oper} {aos : List AO}, chkAOs P ops l aos = true → l.length = aos.length ∧ ∀ (i : Nat) o x, l[i]? = some o → aos[i]? = some x → chkAO P ops o x = true
  | [], [], _ => ⟨rfl, fun i o x h => by simp at h⟩
  | o :: l, x :: aos, h => by
    simp only [chkAOs, Bool.and_eq_true] at h
    obtain ⟨h1, h2⟩ := chkAOs_get h.2
    refine ⟨by simp [h1], fun i o' x' ho hx => ?_⟩
    match i with
    | 0 => simp at ho hx; subst ho; subst hx; exact h.1
    | i + 1 => exact h2 i o' x' (by simpa using ho) (by simpa using hx)
  | [], _ :: _, h => by simp [chkAOs] at h
  | _ :: _, [], h => by simp [chkAOs] at h

theorem hasEdge_spec {ops : Array Oper} {i j : Nat} (h : hasEdge ops i j = true) : ∃ o, ops[i]? = some o ∧ ∃ e ∈ o.after, Region.binds .any e = true ∧ e.on = j := by
  unfold hasEdge at h
  split at h
  · rename_i o ho
    obtain ⟨e, he, hb⟩ := Array.any_eq_true'.1 h
    simp only [Bool.and_eq_true, beq_iff_eq] at hb
    exact ⟨o, ho, e, he, hb⟩
  · cases h

theorem any_sound {C : Ctx} {ops : Array Oper} {aos : List AO} {vs : List AV} {st0 : St} {Q : Exit → Act → World → Prop} (hd : DOk ops aos) (hc : chkAOs P ops ops.toList aos = true) (hl : vs.length = aos.length)
    (hlex : ∀ (i : Nat) (x : AO) (v : AV), aos[i]? = some x → vs[i]? = some v → ∃ st, Part aos vs st0 (fun j => decide (j < i)) st ∧ yld P G x st v ∧ dOK x st0.N)
    (hQ : ∀ st a w, Part aos vs st0 (fun j => decide (j < aos.length)) st → Rel G C st a w → Q .normal a w) :
    ∀ (fuel : Nat) (listed : Array Bool) (st : St) (a : Act) (w : World), listed.size = ops.size → listed.toList.count false = fuel →
      (∀ (i : Nat) (o : Oper), ops[i]? = some o → listed.getD i false = true → ∀ e ∈ o.after, Region.binds .any e = true → listed.getD e.on false = true) →
      Part aos vs st0 (fun j => listed.getD j false) st → Rel G C st a w → wpAny P .any ops Q fuel listed a w := by
  obtain ⟨hlen, hget⟩ := chkAOs_get hc
  have hlen' : ops.size = aos.length := by simpa using hlen
  have full : ∀ (listed : Array Bool) (st : St) (a : Act) (w : World), listed.size = ops.size → (∀ i, i < ops.size → listed.getD i false = true) → Part aos vs st0 (fun j => listed.getD j false) st → Rel G C st a w → Q .normal a w := by
    intro listed st a w hs hall hp hr
    refine hQ st a w ⟨hp.heap, hp.N, fun t j x v hx hv ht hj => hp.got t j x v hx hv ht (hall j (by simpa [hlen'] using hj)), fun t ho => hp.old t fun j x hx ht => ?_⟩ hr
    have := ho j x hx ht
    simp only [decide_eq_false_iff_not] at this
    exact absurd (List.getElem?_eq_some_iff.1 hx).1 this
  intro fuel
  induction fuel with
  | zero =>
    intro listed st a w hs hcnt hcl hp hr
    have hall : ∀ i, i < ops.size → listed.getD i false = true := fun i hi => by
      have hi' : i < listed.size := by omega
      have : false ∉ listed.toList := List.count_eq_zero.1 hcnt
      rw [Array.getD_eq_getD_getElem?, Array.getElem?_eq_getElem hi', Option.getD_some]
      cases e : listed[i] with
      | true => rfl
      | false => exact absurd (by rw [← e]; exact Array.getElem_mem_toList hi') this
    refine ⟨?_, full listed st a w hs hall hp hr⟩
    rw [List.eq_nil_iff_forall_not_mem]
    intro i hi
    obtain ⟨h1, o, ho, _⟩ := mem_ready.1 hi
    have hi' := (Array.getElem?_eq_some_iff.1 ho).1
    have h2 := hall i hi'
    rw [Array.getD_eq_getD_getElem?, Array.getElem?_eq_getElem (by omega)] at h1 h2
    simp only [Option.getD_some] at h1 h2
    rw [h1] at h2; cases h2
  | succ fuel ih =>
    intro listed st a w hs hcnt hcl hp hr
    have same : ∀ i, i < ops.size → listed.getD i true = listed.getD i false := fun i hi => by
      rw [Array.getD_eq_getD_getElem?, Array.getD_eq_getD_getElem?, Array.getElem?_eq_getElem (by omega)]; rfl
    refine ⟨fun h0 => full listed st a w hs (fun i => ?_) hp hr, fun i hi => ?_⟩
    · induction i using Nat.strongRecOn with
      | _ i ihi =>
        intro hi
        cases e : listed.getD i false with
        | true => rfl
        | false =>
          have ho : ops[i]? = some ops[i] := Array.getElem?_eq_getElem hi
          have : i ∈ Region.ready .any ops listed := mem_ready.2 ⟨by rw [same i hi]; exact e, ops[i], ho, fun e he hb => by
            have := hd.low i _ (by omega) ho e he hb
            exact ihi e.on this (by omega)⟩
          rw [h0] at this
          cases this
    · obtain ⟨hun, o, ho, hed⟩ := mem_ready.1 hi
      have hi' : i < ops.size := (Array.getElem?_eq_some_iff.1 ho).1
      rw [same i hi'] at hun
      have hx : aos[i]? = some aos[i] := List.getElem?_eq_getElem (by omega)
      have hv : vs[i]? = some vs[i] := List.getElem?_eq_getElem (by omega)
      obtain ⟨sti, hpi, hyi, hdi⟩ := hlex i _ _ hx hv
      have hy : yld P G aos[i] st vs[i] := by
        refine yld_congr (hp.heap.trans hpi.heap.symm) (fun t ht => ?_) hyi
        by_cases hj : ∃ (j : Nat) (x : AO), aos[j]? = some x ∧ x.d = some t
        · obtain ⟨j, x, hxj, htj⟩ := hj
          have uniq : ∀ (j' : Nat) (x' : AO), aos[j']? = some x' → x'.d = some t → j' = j := fun j' x' h1 h2 => hd.dst j' j x' x t h1 hxj h2 htj
          have hjl : j < aos.length := (List.getElem?_eq_some_iff.1 hxj).1
          have hvj : vs[j]? = some vs[j] := List.getElem?_eq_getElem (by omega)
          by_cases hlt : j < i
          · have := hd.look i j _ x t hx hxj (by omega) htj ht
            rw [if_pos hlt] at this
            obtain ⟨o', ho', e, he, hb, hon⟩ := hasEdge_spec this
            rw [ho] at ho'; cases ho'
            have hj1 := hed e he hb
            rw [hon] at hj1
            rw [hp.got t j x _ hxj hvj htj hj1, hpi.got t j x _ hxj hvj htj (by simpa using hlt)]
          · have hS : listed.getD j false = false := by
              by_cases e : j = i
              · subst e; exact hun
              · have := hd.look i j _ x t hx hxj (fun e' => e e'.symm) htj ht
                rw [if_neg hlt] at this
                obtain ⟨o', ho', e', he, hb, hon⟩ := hasEdge_spec this
                cases hlj : listed.getD j false with
                | false => rfl
                | true =>
                  have := hcl j o' ho' hlj e' he hb
                  rw [hon, hun] at this
                  cases this
            rw [hp.old t fun j' x' h1 h2 => by rw [uniq j' x' h1 h2]; exact hS, hpi.old t fun j' x' h1 h2 => by rw [uniq j' x' h1 h2]; simpa using hlt]
        · have no : ∀ (S : Nat → Bool) (j : Nat) (x : AO), aos[j]? = some x → x.d = some t → S j = false := fun S j x h1 h2 => absurd ⟨j, x, h1, h2⟩ hj
          rw [hp.old t (no _), hpi.old t (no _)]
      have hop := opP_of_yld (hd.quiet i _ hx) (by rw [hp.N]; exact hdi) hy
      have hlst : ∀ j, (listed.setIfInBounds i true).getD j false = (listed.getD j false || j == i) := fun j => by
        by_cases e : j = i
        · subst e
          have : j < listed.size := by omega
          simp [this]
        · rw [getD_set_ne false (fun e' => e e'.symm)]
          simp [e]
      have key : ∀ st1 a1 w1, After aos[i] vs[i] st st1 → Rel G C st1 a1 w1 → wpAny P .any ops Q fuel (listed.setIfInBounds i true) a1 w1 := by
        intro st1 a1 w1 ha hr1
        refine ih _ st1 a1 w1 (by simp [hs]) ?_ ?_ (hp.step hd hx hv ha hlst) hr1
        · have hi2 : i < listed.toList.length := by simp; omega
          have hf : listed.toList[i] = false := by
            rw [Array.getD_eq_getD_getElem?, Array.getElem?_eq_getElem (show i < listed.size by omega)] at hun
            simpa using hun
          rw [Array.toList_setIfInBounds, List.count_set hi2, hf, hcnt]
          simp
        · intro j o' ho' hj e he hb
          rw [hlst] at hj ⊢
          by_cases e' : j = i
          · subst e'
            rw [ho] at ho'; cases ho'
            rw [hed e he hb]; rfl
          · have : listed.getD j false = true := by simpa [e'] using hj
            rw [hcl j o' ho' this e he hb]; rfl
      have hs := op_sound hr (K' := wpAny P .any ops Q fuel (listed.setIfInBounds i true)) (Q := Q) (hget i o _ (by rw [← ho]; simp) hx) hop key
      unfold wpOp
      rw [ho]
      simp only
      split
      · rename_i hw; rw [if_pos hw] at hs; exact .inl hs
      · rename_i hw; rw [if_neg hw] at hs; exact hs

theorem trimE_congr {st st' : St} (h : ∀ t, eget st'.env t = eget st.env t) : ∀ kt, st'.trimE kt = st.trimE kt
  | [] => rfl
  | t :: ts => by simp only [St.trimE]; rw [h, trimE_congr h ts]

/-- A region that draws its order. -/
theorem drawn_sound {C : Ctx} {id : Nat} {ops : Array Oper} {aos : List AO} {kt : List Nat} {st : St} {a : Act} {w : World} {K : St → Prop} {Q : Exit → Act → World → Prop} (hm : P.follows .mixedOrders = true) (hc : chkAOs P ops ops.toList aos = true) (hdc : dchk ops aos = true)
    (hk : opsP P G true aos st fun st' => K { st' with env := st'.trimE kt }) (h : Rel G C st a w) (hQ : ∀ st' a' w', K st' → Rel G C st' a' w' → Q .normal a' w') : (Code.region id ops true).wp P Q a w := by
  have hd := dchk_ok hdc
  obtain ⟨vs, stn, hch, hK⟩ := chain_of_opsP hd.quiet hk
  have hl := chain_len hch
  have p0 : Part aos vs st (fun j => decide (j < 0)) st := ⟨rfl, rfl, fun t j x v _ _ _ hj => by simp at hj, fun t _ => rfl⟩
  obtain ⟨h1, h2⟩ := chain_part (P := P) (G := G) (st0 := st) (stn := stn) hd hl aos.length 0 st (by omega) (by simpa using hch) p0
  have hlen' : ops.size = aos.length := by simpa using (chkAOs_get hc).1
  refine wp_region_any hm ?_
  refine any_sound hd hc hl (fun i x v hx hv => h1 i x v (Nat.zero_le _) hx hv) ?_ ops.size _ st a _ (by simp) (by simp) (fun i o ho hi => by
    rw [Array.getD_eq_getD_getElem?] at hi
    simp only [Array.getElem?_replicate] at hi
    split at hi <;> simp at hi) ?_ h.drew
  · intro st' a' w' hp hr
    have he : ∀ t, eget st'.env t = eget stn.env t := fun t => by
      by_cases hj : ∃ (j : Nat) (x : AO), aos[j]? = some x ∧ x.d = some t
      · obtain ⟨j, x, hxj, htj⟩ := hj
        have hjl : j < aos.length := (List.getElem?_eq_some_iff.1 hxj).1
        have hvj : vs[j]? = some vs[j] := List.getElem?_eq_getElem (by omega)
        rw [hp.got t j x _ hxj hvj htj (by simpa using hjl), h2.got t j x _ hxj hvj htj (by simpa using hjl)]
      · have no : ∀ (S : Nat → Bool) (j : Nat) (x : AO), aos[j]? = some x → x.d = some t → S j = false := fun S j x h1 h2 => absurd ⟨j, x, h1, h2⟩ hj
        rw [hp.old t (no _), h2.old t (no _)]
    obtain ⟨nm, F, hx⟩ := hr
    have e : ({ st' with env := st'.trimE kt } : St) = { stn with env := stn.trimE kt } := by
      rw [trimE_congr he kt]
      obtain ⟨N1, e1, H1⟩ := st'
      obtain ⟨N2, e2, H2⟩ := stn
      have a1 := hp.heap.trans h2.heap.symm
      have a2 := hp.N.trans h2.N.symm
      simp only at a1 a2
      subst a1; subst a2
      rfl
    exact hQ _ _ _ (by rw [e]; exact hK) ⟨nm, F, hx.trimEnv kt⟩
  · refine ⟨rfl, rfl, fun t j x v _ _ _ hj => ?_, fun t _ => rfl⟩
    rw [Array.getD_eq_getD_getElem?] at hj
    simp only [Array.getElem?_replicate] at hj
    split at hj <;> simp at hj
end
end Go.Proofs.Ytdfdiglnpekcpaa.Ab
