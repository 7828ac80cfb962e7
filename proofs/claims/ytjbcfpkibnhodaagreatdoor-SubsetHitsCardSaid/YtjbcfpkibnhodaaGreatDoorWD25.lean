/-
  Which automata may be: that the code's and the reference's answers are the same. proctorref13.Few. No claim is proved here.
-/
import Derived.Test.YtjbcfpkibnhodaaGreatDoorWD23
import Derived.Test.YtjbcfpkibnhodaaGreatDoorWD19
namespace Go.Proofs.YtjbcfpkibnhodaaGreatDoor.Ab
open Go
set_option linter.unusedSimpArgs false
theorem idxF_first {α : Type} {p : α → Bool} {l : List α} {i : Nat} {x : α} (hx : l[i]? = some x) (hp : p x = true) : (idxF p l == (i : Int)) = !((l.take i).any p) := by
  have hi := (List.getElem?_eq_some_iff.1 hx).1
  cases ha : (l.take i).any p with
  | false =>
    have hno : ∀ j y, j < i → l[j]? = some y → p y = false := fun j y hj hy => by
      have := List.any_eq_false.1 ha y (List.mem_iff_getElem?.2 ⟨j, by rw [List.getElem?_take_of_lt hj]; exact hy⟩)
      simpa using this
    rw [idxF_at hx hp hno]
    simp
  | true =>
    obtain ⟨y, hy, hpy⟩ := List.any_eq_true.1 ha
    obtain ⟨j, hj⟩ := List.getElem?_of_mem hy
    rw [List.getElem?_take] at hj
    split at hj
    · rename_i hji
      have hlt : idxF p l < i := by
        unfold idxF
        cases hf : l.findIdx? p with
        | none =>
          exfalso
          rw [List.findIdx?_eq_none_iff] at hf
          have := hf x (List.mem_of_getElem? hx)
          rw [hp] at this
          cases this
        | some k =>
          rw [List.findIdx?_eq_some_iff_getElem] at hf
          obtain ⟨hk, hpk, hmin⟩ := hf
          by_cases hkj : j < k
          · exfalso
            have := hmin j hkj
            obtain ⟨h1, h2⟩ := List.getElem?_eq_some_iff.1 hj
            rw [h2] at this
            exact this hpy
          · dsimp only; omega
      simp
      omega
    · cases hj
theorem allI_congr {α : Type} {p p' : Nat → α → Bool} {l : List α} (h : ∀ i x, l[i]? = some x → p i x = p' i x) : allI p l = allI p' l := by
  rw [Bool.eq_iff_iff, at10, at10]
  exact ⟨fun g i x hx => by rw [← h i x hx]; exact g i x hx, fun g i x hx => by rw [h i x hx]; exact g i x hx⟩
theorem nameOne_eq (l : List Str) : allI (nameOne l) l = allI (nameR l) l := allI_congr fun i s hs => by
  unfold nameOne nameR
  rw [idxF_first hs (by simp)]
  congr 3
  funext x
  rw [Bool.eq_iff_iff]
  simp only [beq_iff_eq]
  exact eq_comm
theorem symOne_eq (q : QeaT) : allI (symOne q) q.symbols = allI (symR q) q.symbols := allI_congr fun i s hs => by
  unfold symOne symR
  rw [idxF_first hs (by simp)]
  congr 3
  funext x
  rw [Bool.eq_iff_iff]
  simp only [decide_eq_true_eq]
  exact eq_comm
theorem types_eq (q : QeaT) : allI (fun _ (y : QuantT) => !(k_ y.type == [])) q.quants = allI (fun _ (y : QuantT) => typeOk y.type) q.quants := allI_congr fun i y _ => by
  rw [kind_bad]
  simp [typeOk]
def topR (q : QeaT) : Bool := (d10 q.decls).1 == 0 && (fewS q && (decide (0 ≤ q.start) && (decide (q.start < q.states.length) && headR q)))
theorem head_eq (q : QeaT) : (fewS q && headC q) = topR q := by
  unfold topR headC headR
  rw [nameOne_eq, nameOne_eq, types_eq]
  generalize fewS q = b1
  generalize ((d10 q.decls).1 == 0) = b2
  generalize nameOk q.name = b3
  generalize allI (nameR q.vars) q.vars = b4
  generalize allI (nameR q.names) q.names = b5
  generalize allI (fun _ (y : QuantT) => typeOk y.type) q.quants = b6
  generalize allI (fun _ (y : FreeT) => y.init.ok) q.frees = b7
  generalize decide (0 ≤ q.start) = b8
  generalize decide (q.start < q.states.length) = b9
  cases b1 <;> cases b2 <;> cases b3 <;> cases b4 <;> cases b5 <;> cases b6 <;> cases b7 <;> cases b8 <;> cases b9 <;> rfl
theorem top_kinds {q : QeaT} (h : headR q = true) : q.Kinds := by
  unfold headR at h
  simp only [Bool.and_eq_true] at h
  obtain ⟨h1, h2, _⟩ := h
  refine ⟨fun y hy => ?_, fun y hy => ?_⟩
  · obtain ⟨i, hi⟩ := List.getElem?_of_mem hy
    have := at10.1 h1 i y hi
    simpa [typeOk] using this
  · obtain ⟨i, hi⟩ := List.getElem?_of_mem hy
    exact at10.1 h2 i y hi
theorem zipB_mem {α β : Type} {p : α → β → Bool} : ∀ {l : List α} {k : List β}, zipB p l k = true → ∀ x ∈ l, ∃ y ∈ k, p x y = true
  | [], _, _, x, hx => by simp at hx
  | a :: r, [], h, _, _ => by simp [zipB] at h
  | a :: r, b :: s, h, x, hx => by
    rw [zipB, Bool.and_eq_true] at h
    rcases List.mem_cons.1 hx with rfl | hx
    · exact ⟨b, List.mem_cons_self, h.1⟩
    · obtain ⟨y, hy, hp⟩ := zipB_mem h.2 x hx
      exact ⟨y, List.mem_cons_of_mem _ hy, hp⟩
theorem any_congr {α : Type} {p p' : α → Bool} {l : List α} (h : ∀ x ∈ l, p x = p' x) : l.any p = l.any p' := by
  rw [Bool.eq_iff_iff, List.any_eq_true, List.any_eq_true]
  exact ⟨fun ⟨x, hx, hp⟩ => ⟨x, hx, by rw [← h x hx]; exact hp⟩, fun ⟨x, hx, hp⟩ => ⟨x, hx, by rw [h x hx]; exact hp⟩⟩
theorem all_congr {α : Type} {p p' : α → Bool} {l : List α} (h : ∀ x ∈ l, p x = p' x) : l.all p = l.all p' := by
  rw [Bool.eq_iff_iff, List.all_eq_true, List.all_eq_true]
  exact ⟨fun g x hx => by rw [← h x hx]; exact g x hx, fun g x hx => by rw [h x hx]; exact g x hx⟩
theorem stands_eq {q : QeaT} {s : SymT} (h : symS q s = true) (v : Int) : s12 s v = namesS s v := by
  unfold s12 namesS
  refine any_congr fun x hx => ?_
  have hv : x.kind = 2 → x.value = v0 := fun hk => by
    unfold symS at h
    split at h
    · cases h
    · obtain ⟨y, _, hp⟩ := zipB_mem h x hx
      unfold argS at hp
      rw [if_neg (by omega), if_pos hk] at hp
      split at hp
      · cases hp
      · simp at hp; exact hp.2
  obtain ⟨k, n, val⟩ := x
  rw [Bool.eq_iff_iff]
  simp only [beq_iff_eq, ArgT.mk.injEq, Bool.and_eq_true] at *
  constructor
  · rintro ⟨h1, h2, h3⟩
    exact ⟨h1.symm, h2.symm⟩
  · rintro ⟨h1, h2⟩
    exact ⟨h1.symm, h2.symm, (hv h1).symm⟩
theorem symbolsR_ok {q : QeaT} (h : allI (symR q) q.symbols = true) : ∀ s ∈ q.symbols, ∀ v, s12 s v = namesS s v := fun s hs v => by
  obtain ⟨i, hi⟩ := List.getElem?_of_mem hs
  have := at10.1 h i s hi
  unfold symR at this
  rw [Bool.and_eq_true] at this
  exact stands_eq this.1 v
theorem symbols_eq (q : QeaT) : symbolsC q = symbolsR q := by
  unfold symbolsC symbolsR
  rw [symOne_eq]
  cases h : allI (symR q) q.symbols with
  | false => rw [Bool.false_and, Bool.false_and]
  | true =>
    congr 2
    refine allI_congr fun i y _ => ?_
    exact any_congr fun s hs => symbolsR_ok h s hs _
theorem oneStep_congr {q : QeaT} {l : List ExT} (h : ∀ s ∈ q.symbols, ∀ v, s12 s v = namesS s v) (a : Int) (t : TransT) : o_ q l s12 a t = o_ q l namesS a t := by
  have hr : ∀ f a, oneRest q l s12 t f a = oneRest q l namesS t f a := fun f a => by
    unfold oneRest
    cases hs : at? q.symbols t.symbol with
    | none => rfl
    | some s =>
      obtain ⟨j, _, hj⟩ := at?_some hs
      dsimp only
      congr 2
      exact all_congr fun x _ => by rw [h s (List.mem_of_getElem? hj)]
  unfold o_
  rw [hr, hr]
theorem allS_congr {α σ : Type} {f g : σ → Nat → α → Bool × σ} (h : ∀ s i x, f s i x = g s i x) : ∀ (l : List α) (i : Nat) (s : σ), allS f l i s = allS g l i s
  | [], _, _ => rfl
  | x :: r, i, s => by
    rw [allS, allS, h, allS_congr h r]
def stepR (q : QeaT) (a : Int) (_ : Nat) (t : TransT) : Bool × Int := ((transR q t a).2, (transR q t a).1)
theorem step_eq (q : QeaT) (a : Int) (i : Nat) (t : TransT) : (o_ q (exprs q) namesS a t).1 = (stepR q a i t).1 ∧ ((stepR q a i t).1 = true → o_ q (exprs q) namesS a t = stepR q a i t) := by
  have hr : ∀ f a, (oneRest q (exprs q) namesS t f a).1 = (restR q t f a).2 ∧ ((restR q t f a).2 = true → oneRest q (exprs q) namesS t f a = ((restR q t f a).2, (restR q t f a).1)) := fun f a => by
    unfold oneRest restR
    dsimp only
    generalize allS (s13 q (exprs q) t.sets) t.sets 0 a = r
    obtain ⟨b, A⟩ := r
    cases b
    · simp
    · simp
      exact ⟨rfl, fun _ => rfl⟩
  unfold o_ stepR transR
  split
  · simp
  · split
    · exact hr a a
    · split
      · exact hr a _
      · simp
theorem allS_same {α σ : Type} {f g : σ → Nat → α → Bool × σ} (h : ∀ s i x, (f s i x).1 = (g s i x).1 ∧ ((g s i x).1 = true → f s i x = g s i x)) : ∀ (l : List α) (i : Nat) (s : σ), (allS f l i s).1 = (allS g l i s).1 ∧ ((allS g l i s).1 = true → allS f l i s = allS g l i s)
  | [], _, _ => ⟨rfl, fun _ => rfl⟩
  | x :: r, i, s => by
    obtain ⟨h1, h2⟩ := h s i x
    rw [allS, allS]
    cases hg : (g s i x).1 with
    | false =>
      rw [hg] at h1
      rw [h1]
      simp
    | true =>
      rw [h2 hg, hg]
      simp only [if_true]
      exact allS_same h r (i + 1) _
def transAll (q : QeaT) : Bool := (allS (stepR q) q.trans 0 0).1 && (allS (stepR q) q.trans 0 0).2 == (q.nodes.length : Int)
def rightR (q : QeaT) : Bool := topR q && (transAll q && symbolsR q)
theorem right_eq (q : QeaT) : rightC q = rightR q := by
  unfold rightC rightR
  rw [← Bool.and_assoc, head_eq, symbols_eq]
  congr 1
  cases h : symbolsR q with
  | false => rw [Bool.and_false, Bool.and_false]
  | true =>
    congr 1
    have hs : allI (symR q) q.symbols = true := by
      unfold symbolsR at h
      simp only [Bool.and_eq_true] at h
      exact h.2.1
    have hln : (exprs q).length = q.nodes.length := el_ q _ (by omega)
    unfold transC transAll
    dsimp only
    rw [allS_congr (fun a _ t => oneStep_congr (symbolsR_ok hs) a t), hln]
    obtain ⟨h1, h2⟩ := allS_same (f := fun a _ t => o_ q (exprs q) namesS a t) (g := stepR q) (fun a i t => step_eq q a i t) q.trans 0 0
    rw [h1]
    cases hb : (allS (stepR q) q.trans 0 0).1 with
    | false => rw [Bool.false_and, Bool.false_and]
    | true => rw [h2 hb]
theorem transR_le {q : QeaT} {t : TransT} {a : Int} (h0 : 0 ≤ a) (hl : a ≤ q.nodes.length) (h : (transR q t a).2 = true) : 0 ≤ (transR q t a).1 ∧ (transR q t a).1 ≤ q.nodes.length ∧ inR t.symbol q.symbols.length = true := by
  have hln : (exprs q).length = q.nodes.length := el_ q _ (by omega)
  have hrest : ∀ f a' : Int, 0 ≤ a' → a' ≤ (exprs q).length → (restR q t f a').2 = true → 0 ≤ (restR q t f a').1 ∧ (restR q t f a').1 ≤ q.nodes.length := fun f a' h1 h2 h => by
    have := allS_le (q := q) (l := exprs q) (sets := t.sets) (r := t.sets) (i := 0) h2
    unfold restR at h ⊢
    dsimp only at h ⊢
    split
    · dsimp only; omega
    · rename_i hn; rw [if_neg hn] at h; cases h
  unfold transR at h ⊢
  split at h
  · cases h
  · rename_i hc
    rw [if_neg hc]
    rw [Bool.not_eq_false, Bool.and_eq_true, Bool.and_eq_true] at hc
    split at h
    · rename_i hg
      rw [if_pos hg]
      have := hrest a a h0 (by omega) h
      exact ⟨this.1, this.2, hc.2.2⟩
    · rename_i hg
      rw [if_neg hg]
      split at h
      · rename_i hw
        rw [if_pos hw]
        have h1 := wholeS_le hw
        have h2 := wholeS_pos h0 hw
        have := hrest a _ h2 h1.2 h
        exact ⟨this.1, this.2, hc.2.2⟩
      · cases h
end Go.Proofs.YtjbcfpkibnhodaaGreatDoor.Ab
namespace Go.Proofs.YtjbcfpkibnhodaaGreatDoor.Ab
open Go
set_option linter.unusedSimpArgs false
set_option maxHeartbeats 4000000
variable {G : Nat → Option AV}
def short (s : Str) : Bool := decide ((s.length : Int) ≤ 100)
def fewDecl (d : DeclT) : Bool := decide ((d.types.length : Int) ≤ 12) && short d.name
def fewSym (s : SymT) : Bool := decide ((s.args.length : Int) ≤ 12) && allI (fun _ (a : ArgT) => short a.value.str) s.args
def fewTop (q : QeaT) : Bool := decide ((q.decls.length : Int) ≤ 12) && (decide ((q.quants.length : Int) ≤ 9) && (decide ((q.frees.length : Int) ≤ 12) && (decide ((q.states.length : Int) ≤ 12) && (decide ((q.symbols.length : Int) ≤ 12) && (decide ((q.trans.length : Int) ≤ 12) && (decide ((q.nodes.length : Int) ≤ 40) && short q.name))))))
def fewQ (q : QeaT) : Bool := fewTop q && (allI (fun _ d => fewDecl d) q.decls && (allI (fun _ s => fewSym s) q.symbols && (allI (fun _ (f : FreeT) => short f.init.str) q.frees && (allI (fun _ (x : NodeT) => short x.value.str) q.nodes && allI (fun _ (t : TransT) => decide ((t.sets.length : Int) ≤ 12)) q.trans))))
theorem ref13_Few_pc (q : QeaT) : P_ Tryz.prog G n_proctorref13_Few [qeaV q] (iv (if fewQ q = true then 1 else 0)) := by
  refine pc_proctorref13_Few (Runs.of fun Φ h => ?_)
  unfold c_proctorref13_Few
  have fin0 : ∀ heap, fewQ q = false → Φ ⟨166, [(2, iv 0)], heap⟩ := fun heap e => h _ ⟨_, _, rfl, rfl, fitI (by rw [e]; rfl)⟩
  have fin1 : ∀ heap, fewQ q = true → Φ ⟨166, [(2, iv 1)], heap⟩ := fun heap e => h _ ⟨_, _, rfl, rfl, fitI (by rw [e]; rfl)⟩
  clear h
  generalize hR : fewQ q = w at *
  unfold fewQ at hR
  replace hR := hR.symm
  cases hT : fewTop q with
  | false =>
    rw [hT, Bool.false_and] at hR
    unfold fewTop short at hT
    simp only [Bool.and_eq_false_imp, decide_eq_true_eq, decide_eq_false_iff_not] at hT
    repeat' (first | (simp -implicitDefEqProofs only [go_sem, qeaV, d_, q_, f_, s_, s10, n_, t_, List.length_map]) | refine ag_ (fun hb => ?_) (fun hb => ?_) | refine ⟨fun hb => ?_, fun hb => ?_⟩ | fail)
    all_goals first | exact fin0 _ hR | (exfalso; simp at *; omega)
  | true =>
    rw [hT, Bool.true_and] at hR
    unfold fewTop short at hT
    simp only [Bool.and_eq_true, decide_eq_true_eq] at hT
    obtain ⟨t1, t2, t3, t4, t5, t6, t7, t8⟩ := hT
    repeat' (first | (simp -implicitDefEqProofs only [go_sem, qeaV, d_, q_, f_, s_, s10, n_, t_, List.length_map]) | refine ag_ (fun hb => ?_) (fun hb => ?_) | refine ⟨fun hb => ?_, fun hb => ?_⟩ | fail)
    all_goals first | (exfalso; simp at hb; omega) | (exfalso; clear fin0 fin1 hR; simp at *; omega) | skip
    refine al_ (fun n st => ∃ i : Nat, i + n = q.decls.length ∧ st = ⟨166, [(1, .ref 1 0 0), (3, iv i)], [(1, ⟨false, taQ_, 9, [qeaV q]⟩)]⟩ ∧ ∀ j y, j < i → q.decls[j]? = some y → fewDecl y = true) q.decls.length ⟨0, by simp, rfl, fun j x hj => by omega⟩ ?_
    rintro I hI n st ⟨i, hi, rfl, hno⟩
    simp -implicitDefEqProofs only [go_sem, qeaV, d_, q_, f_, s_, s10, n_, t_, List.length_map]
    refine ⟨fun hlt => ?_, fun hge => ?_⟩
    · have hlt' : i < q.decls.length := by omega
      obtain ⟨y, hy, hm⟩ := as10 hlt'
      have hw := ws_ hlt' (by omega)
      have hnext : fewDecl y = true → again I n ⟨166, [(1, .ref 1 0 0), (3, iv (i + 1 : Nat))], [(1, ⟨false, taQ_, 9, [qeaV q]⟩)]⟩ := fun hv => aa_ (n - 1) (by omega) (hI _ _ ⟨i + 1, by omega, rfl, allI_step (p := fun _ d => fewDecl d) hy hv hno⟩)
      have hbad : fewDecl y = false → w = false := fun hv => by rw [hR, af_ hy hv, Bool.false_and]
      unfold fewDecl short at hnext hbad
      clear hno hR
      repeat' (first | (simp -implicitDefEqProofs only [go_sem, am_ hy, declV, intsV, hw, qeaV, d_, q_, f_, s_, s10, n_, t_, List.length_map]) | refine ag_ (fun hb => ?_) (fun hb => ?_) | refine ⟨fun hb => ?_, fun hb => ?_⟩ | fail)
      all_goals first | (refine hnext ?_; clear hnext hbad fin0 fin1 hI; simp_all; done) | (refine fin0 _ (hbad ?_); clear hnext hbad fin0 fin1 hI; simp_all; done) | (refine hnext ?_; clear hnext hbad fin0 fin1 hI; simp_all; omega) | (refine fin0 _ (hbad ?_); clear hnext hbad fin0 fin1 hI; simp_all; omega)
    · rw [allI_all (by omega) hno, Bool.true_and] at hR
      clear hI hno hge hi
      try (simp -implicitDefEqProofs only [go_sem, qeaV, d_, q_, f_, s_, s10, n_, t_, List.length_map])
      refine al_ (fun n st => ∃ i : Nat, i + n = q.symbols.length ∧ st = ⟨166, [(1, .ref 1 0 0), (4, iv i)], [(1, ⟨false, taQ_, 9, [qeaV q]⟩)]⟩ ∧ ∀ j y, j < i → q.symbols[j]? = some y → fewSym y = true) q.symbols.length ⟨0, by simp, rfl, fun j x hj => by omega⟩ ?_
      rintro I hI n st ⟨i, hi, rfl, hno⟩
      simp -implicitDefEqProofs only [go_sem, qeaV, d_, q_, f_, s_, s10, n_, t_, List.length_map]
      refine ⟨fun hlt => ?_, fun hge => ?_⟩
      · have hlt' : i < q.symbols.length := by omega
        obtain ⟨s, hs, hm⟩ := as10 hlt'
        have hw := ws_ hlt' (by omega)
        have hnext : fewSym s = true → again I n ⟨166, [(1, .ref 1 0 0), (4, iv (i + 1 : Nat))], [(1, ⟨false, taQ_, 9, [qeaV q]⟩)]⟩ := fun hv => aa_ (n - 1) (by omega) (hI _ _ ⟨i + 1, by omega, rfl, allI_step (p := fun _ d => fewSym d) hs hv hno⟩)
        have hbad : fewSym s = false → w = false := fun hv => by rw [hR, af_ hs hv, Bool.false_and]
        unfold fewSym at hnext hbad
        clear hno hR
        repeat' (first | (simp -implicitDefEqProofs only [go_sem, am_ hs, symV, argsV, hw, qeaV, d_, q_, f_, s_, s10, n_, t_, List.length_map]) | refine ag_ (fun hb => ?_) (fun hb => ?_) | refine ⟨fun hb => ?_, fun hb => ?_⟩ | fail)
        · exact fin0 _ (hbad (by rw [show decide ((s.args.length : Int) ≤ 12) = false by simp; omega]; rfl))
        have hle : (s.args.length : Int) ≤ 12 := by omega
        rw [show decide ((s.args.length : Int) ≤ 12) = true by simpa using hle, Bool.true_and] at hnext hbad
        refine al_ (fun m st => ∃ k : Nat, k + m = s.args.length ∧ st = ⟨166, [(1, .ref 1 0 0), (4, iv i), (5, iv k)], [(1, ⟨false, taQ_, 9, [qeaV q]⟩)]⟩ ∧ ∀ j y, j < k → s.args[j]? = some y → short y.value.str = true) s.args.length ⟨0, by simp, rfl, fun j x hj => by omega⟩ ?_
        rintro J hJ m st ⟨k, hk, rfl, hall⟩
        simp -implicitDefEqProofs only [go_sem, am_ hs, symV, argsV, qeaV, d_, q_, f_, s_, s10, n_, t_, List.length_map]
        refine ⟨fun hlt2 => ?_, fun hge2 => ?_⟩
        · have hlt2' : k < s.args.length := by omega
          obtain ⟨a, ha, ham⟩ := as10 hlt2'
          have hw2 := ws_ hlt2' (by omega)
          have hgo : short a.value.str = true → again J m ⟨166, [(1, .ref 1 0 0), (4, iv i), (5, iv (k + 1 : Nat))], [(1, ⟨false, taQ_, 9, [qeaV q]⟩)]⟩ := fun hv => aa_ (m - 1) (by omega) (hJ _ _ ⟨k + 1, by omega, rfl, allI_step (p := fun _ (a : ArgT) => short a.value.str) ha hv hall⟩)
          have hbd : short a.value.str = false → w = false := fun hv => hbad (af_ ha hv)
          unfold short at hgo hbd
          clear hnext hbad hall
          repeat' (first | (simp -implicitDefEqProofs only [go_sem, am_ hs, am_ ha, argV, symV, argsV, hw2, qeaV, d_, q_, f_, s_, s10, n_, t_, List.length_map]) | refine ag_ (fun hb => ?_) (fun hb => ?_) | refine ⟨fun hb => ?_, fun hb => ?_⟩ | fail)
          all_goals first | (refine hgo ?_; simp; omega) | (refine fin0 _ (hbd ?_); simp; omega)
        · have := hnext (allI_all (by omega) hall)
          try (simp -implicitDefEqProofs only [go_sem, hw])
          exact this
      · rw [allI_all (by omega) hno, Bool.true_and] at hR
        clear hI hno hge hi
        try (simp -implicitDefEqProofs only [go_sem, qeaV, d_, q_, f_, s_, s10, n_, t_, List.length_map])
        refine al_ (fun n st => ∃ i : Nat, i + n = q.frees.length ∧ st = ⟨166, [(1, .ref 1 0 0), (6, iv i)], [(1, ⟨false, taQ_, 9, [qeaV q]⟩)]⟩ ∧ ∀ j y, j < i → q.frees[j]? = some y → short y.init.str = true) q.frees.length ⟨0, by simp, rfl, fun j x hj => by omega⟩ ?_
        rintro I hI n st ⟨i, hi, rfl, hno⟩
        simp -implicitDefEqProofs only [go_sem, qeaV, d_, q_, f_, s_, s10, n_, t_, List.length_map]
        refine ⟨fun hlt => ?_, fun hge => ?_⟩
        · have hlt' : i < q.frees.length := by omega
          obtain ⟨y, hy, hm⟩ := as10 hlt'
          have hw := ws_ hlt' (by omega)
          have hnext : short y.init.str = true → again I n ⟨166, [(1, .ref 1 0 0), (6, iv (i + 1 : Nat))], [(1, ⟨false, taQ_, 9, [qeaV q]⟩)]⟩ := fun hv => aa_ (n - 1) (by omega) (hI _ _ ⟨i + 1, by omega, rfl, allI_step (p := fun _ (f : FreeT) => short f.init.str) hy hv hno⟩)
          have hbad : short y.init.str = false → w = false := fun hv => by rw [hR, af_ hy hv, Bool.false_and]
          unfold short at hnext hbad
          clear hno hR
          repeat' (first | (simp -implicitDefEqProofs only [go_sem, am_ hy, freeV, hw, qeaV, d_, q_, f_, s_, s10, n_, t_, List.length_map]) | refine ag_ (fun hb => ?_) (fun hb => ?_) | refine ⟨fun hb => ?_, fun hb => ?_⟩ | fail)
          all_goals first | (refine hnext ?_; simp; omega) | (refine fin0 _ (hbad ?_); simp; omega)
        · rw [allI_all (by omega) hno, Bool.true_and] at hR
          clear hI hno hge hi
          try (simp -implicitDefEqProofs only [go_sem, qeaV, d_, q_, f_, s_, s10, n_, t_, List.length_map])
          refine al_ (fun n st => ∃ i : Nat, i + n = q.nodes.length ∧ st = ⟨166, [(1, .ref 1 0 0), (7, iv i)], [(1, ⟨false, taQ_, 9, [qeaV q]⟩)]⟩ ∧ ∀ j y, j < i → q.nodes[j]? = some y → short y.value.str = true) q.nodes.length ⟨0, by simp, rfl, fun j x hj => by omega⟩ ?_
          rintro I hI n st ⟨i, hi, rfl, hno⟩
          simp -implicitDefEqProofs only [go_sem, qeaV, d_, q_, f_, s_, s10, n_, t_, List.length_map]
          refine ⟨fun hlt => ?_, fun hge => ?_⟩
          · have hlt' : i < q.nodes.length := by omega
            obtain ⟨y, hy, hm⟩ := as10 hlt'
            have hw := ws_ hlt' (by omega)
            have hnext : short y.value.str = true → again I n ⟨166, [(1, .ref 1 0 0), (7, iv (i + 1 : Nat))], [(1, ⟨false, taQ_, 9, [qeaV q]⟩)]⟩ := fun hv => aa_ (n - 1) (by omega) (hI _ _ ⟨i + 1, by omega, rfl, allI_step (p := fun _ (f : NodeT) => short f.value.str) hy hv hno⟩)
            have hbad : short y.value.str = false → w = false := fun hv => by rw [hR, af_ hy hv, Bool.false_and]
            unfold short at hnext hbad
            clear hno hR
            repeat' (first | (simp -implicitDefEqProofs only [go_sem, am_ hy, nodeV, hw, qeaV, d_, q_, f_, s_, s10, n_, t_, List.length_map]) | refine ag_ (fun hb => ?_) (fun hb => ?_) | refine ⟨fun hb => ?_, fun hb => ?_⟩ | fail)
            all_goals first | (refine hnext ?_; simp; omega) | (refine fin0 _ (hbad ?_); simp; omega)
          · rw [allI_all (by omega) hno, Bool.true_and] at hR
            clear hI hno hge hi
            try (simp -implicitDefEqProofs only [go_sem, qeaV, d_, q_, f_, s_, s10, n_, t_, List.length_map])
            refine al_ (fun n st => ∃ i : Nat, i + n = q.trans.length ∧ st = ⟨166, [(1, .ref 1 0 0), (8, iv i)], [(1, ⟨false, taQ_, 9, [qeaV q]⟩)]⟩ ∧ ∀ j y, j < i → q.trans[j]? = some y → decide ((y.sets.length : Int) ≤ 12) = true) q.trans.length ⟨0, by simp, rfl, fun j x hj => by omega⟩ ?_
            rintro I hI n st ⟨i, hi, rfl, hno⟩
            simp -implicitDefEqProofs only [go_sem, qeaV, d_, q_, f_, s_, s10, n_, t_, List.length_map]
            refine ⟨fun hlt => ?_, fun hge => ?_⟩
            · have hlt' : i < q.trans.length := by omega
              obtain ⟨y, hy, hm⟩ := as10 hlt'
              have hw := ws_ hlt' (by omega)
              have hnext : decide ((y.sets.length : Int) ≤ 12) = true → again I n ⟨166, [(1, .ref 1 0 0), (8, iv (i + 1 : Nat))], [(1, ⟨false, taQ_, 9, [qeaV q]⟩)]⟩ := fun hv => aa_ (n - 1) (by omega) (hI _ _ ⟨i + 1, by omega, rfl, allI_step (p := fun _ (t : TransT) => decide ((t.sets.length : Int) ≤ 12)) hy hv hno⟩)
              have hbad : decide ((y.sets.length : Int) ≤ 12) = false → w = false := fun hv => by rw [hR, af_ hy hv]
              clear hno hR
              repeat' (first | (simp -implicitDefEqProofs only [go_sem, am_ hy, t11, setsV, hw, qeaV, d_, q_, f_, s_, s10, n_, t_, List.length_map]) | refine ag_ (fun hb => ?_) (fun hb => ?_) | refine ⟨fun hb => ?_, fun hb => ?_⟩ | fail)
              all_goals first | (refine hnext ?_; simp; omega) | (refine fin0 _ (hbad ?_); simp; omega)
            · rw [allI_all (by omega) hno] at hR
              try (simp -implicitDefEqProofs only [go_sem])
              exact fin1 _ hR
end Go.Proofs.YtjbcfpkibnhodaaGreatDoor.Ab
