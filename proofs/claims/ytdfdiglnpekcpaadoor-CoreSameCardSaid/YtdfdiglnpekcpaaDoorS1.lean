/-
  A declaration's text, in plain words: it tells the declaration. No claim is proved here.
-/
import Derived.Test.YtdfdiglnpekcpaaDoorD2
namespace Go.Proofs.YtdfdiglnpekcpaaDoor.Ab
open Go
set_option linter.unusedSimpArgs false
/-- What stands behind the first type. -/
def restT : List Int → Str
  | [] => []
  | k :: r => [44, 32] ++ kindName k ++ restT r
def joinT : List Int → Str
  | [] => []
  | k :: r => kindName k ++ restT r
def textD (d : DeclT) : Str := d.name ++ [40] ++ joinT d.types ++ [41]
theorem restT_snoc (r : List Int) (k : Int) : restT (r ++ [k]) = restT r ++ [44, 32] ++ kindName k := by
  induction r with
  | nil => simp [restT]
  | cons x r ih => simp [restT, ih]
theorem joinT_snoc (l : List Int) (k : Int) : joinT (l ++ [k]) = if l = [] then kindName k else joinT l ++ [44, 32] ++ kindName k := by
  cases l with
  | nil => simp [joinT, restT]
  | cons x r => simp [joinT, restT_snoc]
def kOk (k : Int) : Prop := 1 ≤ k ∧ k ≤ 3
theorem kOk_cases {k : Int} (h : kOk k) : k = 1 ∨ k = 2 ∨ k = 3 := by unfold kOk at h; omega
theorem kindName_no {k : Int} : ∀ c ∈ kindName k, c ≠ 40 ∧ c ≠ 44 := by
  unfold kindName
  repeat' split
  all_goals decide
theorem restT_no (r : List Int) : ∀ c ∈ restT r, c ≠ 40 := by
  induction r with
  | nil => simp [restT]
  | cons k r ih =>
    intro c hc
    simp only [restT, List.cons_append, List.nil_append, List.mem_cons, List.mem_append] at hc
    rcases hc with rfl | rfl | hc | hc
    · decide
    · decide
    · exact (kindName_no c hc).1
    · exact ih c hc
theorem joinT_no (l : List Int) : ∀ c ∈ joinT l, c ≠ 40 := by
  cases l with
  | nil => simp [joinT]
  | cons k r =>
    intro c hc
    simp only [joinT, List.mem_append] at hc
    rcases hc with hc | hc
    · exact (kindName_no c hc).1
    · exact restT_no r c hc
/-- The last bracket parts them. -/
theorem split_last {a b : Str} : ∀ {j k : Str}, (∀ c ∈ j, c ≠ 40) → (∀ c ∈ k, c ≠ 40) → a ++ [40] ++ j = b ++ [40] ++ k → a = b ∧ j = k := by
  have key : ∀ (a b j k : Str), (∀ c ∈ j, c ≠ 40) → (∀ c ∈ k, c ≠ 40) → j ++ 40 :: a = k ++ 40 :: b → a = b ∧ j = k := by
    intro a b j
    induction j with
    | nil =>
      intro k _ hk h
      cases k with
      | nil => simpa using h
      | cons c k => simp at h; exact absurd h.1.symm (hk c (by simp))
    | cons c j ih =>
      intro k hj hk h
      cases k with
      | nil => simp at h; exact absurd h.1 (hj c (by simp))
      | cons d k =>
        simp at h
        obtain ⟨rfl, h⟩ := h
        obtain ⟨h1, h2⟩ := ih k (fun x hx => hj x (by simp [hx])) (fun x hx => hk x (by simp [hx])) h
        exact ⟨h1, by rw [h2]⟩
  intro j k hj hk h
  have hr := congrArg List.reverse h
  simp only [List.reverse_append, List.reverse_cons, List.reverse_nil, List.nil_append, List.append_assoc, List.cons_append] at hr
  obtain ⟨h1, h2⟩ := key a.reverse b.reverse j.reverse k.reverse (fun c hc => hj c (by simpa using hc)) (fun c hc => hk c (by simpa using hc)) (by simpa using hr)
  exact ⟨by simpa using congrArg List.reverse h1, by simpa using congrArg List.reverse h2⟩
/-- What stands behind a type begins with a comma, if it is anything. -/
theorem restT_head (r : List Int) : restT r = [] ∨ ∃ s, restT r = 44 :: s := by
  cases r with
  | nil => exact .inl rfl
  | cons k r => exact .inr ⟨_, rfl⟩
theorem name_rest {a b : Int} {r s : Str} (ha : kOk a) (hb : kOk b) (hr : r = [] ∨ ∃ t, r = 44 :: t) (hs : s = [] ∨ ∃ t, s = 44 :: t) (h : kindName a ++ r = kindName b ++ s) : a = b ∧ r = s := by
  rcases kOk_cases ha with rfl | rfl | rfl <;> rcases kOk_cases hb with rfl | rfl | rfl <;> simp [kindName] at h ⊢ <;> first | exact h | skip
theorem restT_inj : ∀ {r s : List Int}, (∀ k ∈ r, kOk k) → (∀ k ∈ s, kOk k) → restT r = restT s → r = s
  | [], [], _, _, _ => rfl
  | [], _ :: _, _, _, h => by simp [restT] at h
  | _ :: _, [], _, _, h => by simp [restT] at h
  | a :: r, b :: s, hr, hs, h => by
    simp only [restT, List.append_assoc] at h
    obtain ⟨h1, h2⟩ := name_rest (hr a (by simp)) (hs b (by simp)) (restT_head r) (restT_head s) (List.append_cancel_left h)
    rw [h1, restT_inj (fun k hk => hr k (by simp [hk])) (fun k hk => hs k (by simp [hk])) h2]
theorem joinT_inj {r s : List Int} (hr : ∀ k ∈ r, kOk k) (hs : ∀ k ∈ s, kOk k) (h : joinT r = joinT s) : r = s := by
  have ne : ∀ {k : Int} {t : Str}, kOk k → kindName k ++ t ≠ [] := fun {k t} hk e => by
    rcases kOk_cases hk with rfl | rfl | rfl <;> simp [kindName] at e
  cases r with
  | nil => cases s with
    | nil => rfl
    | cons b s => exact absurd h.symm (ne (hs b (by simp)))
  | cons a r => cases s with
    | nil => exact absurd h (ne (hr a (by simp)))
    | cons b s =>
      simp only [joinT] at h
      obtain ⟨h1, h2⟩ := name_rest (hr a (by simp)) (hs b (by simp)) (restT_head r) (restT_head s) h
      rw [h1, restT_inj (fun k hk => hr k (by simp [hk])) (fun k hk => hs k (by simp [hk])) h2]
theorem textD_inj {a b : DeclT} (ha : ∀ k ∈ a.types, kOk k) (hb : ∀ k ∈ b.types, kOk k) : textD a = textD b ↔ a = b := by
  constructor
  · intro h
    unfold textD at h
    obtain ⟨h1, h2⟩ := split_last (joinT_no _) (joinT_no _) (List.append_cancel_right h)
    obtain ⟨n, t⟩ := a
    obtain ⟨m, s⟩ := b
    dsimp only at *
    rw [h1, joinT_inj ha hb h2]
  · rintro rfl; rfl
end Go.Proofs.YtdfdiglnpekcpaaDoor.Ab
