/-
  What a node's expression comes to; proctorref16.Value. No claim is proved here.
-/
import Derived.Test.YtjbcfpkibnhodaaGreatDoorWV5
namespace Go.Proofs.YtjbcfpkibnhodaaGreatDoor.Ab
open Go
set_option linter.unusedSimpArgs false
set_option maxHeartbeats 4000000
set_option maxRecDepth 100000
variable {G : Nat → Option AV}
def evOp (op : Int) (r s : Val × Int) : Val × Int :=
  if ¬ r.2 = 0 then (v0, r.2) else if op ≤ 5 then opR op r.1 v0 else if (op = 6 ∧ r.1.bool = false) ∨ (op = 7 ∧ r.1.bool = true) then (r.1, 0) else if ¬ s.2 = 0 then (v0, s.2) else opR op r.1 s.1
def evN (q : QeaT) (b : List SlotT) (vals : List Val) (rec : Int → Val × Int) (x : NodeT) : Val × Int :=
  if x.op = 1 then (x.value, 0)
  else if x.op = 2 then (match at? q.quants x.a with | some y => quantR b x.a y.type | none => (v0, 1))
  else if x.op = 3 then (match at? vals x.a with | some v => (v, 0) | none => (v0, 1))
  else evOp x.op (rec x.a) (rec x.b)
def ev (q : QeaT) (b : List SlotT) (vals : List Val) (i : Nat) : Val × Int :=
  match q.nodes[i]? with
  | none => (v0, 1)
  | some x => evN q b vals (fun j => if _h : j.toNat < i then ev q b vals j.toNat else (v0, 1)) x
termination_by i
theorem ev_at {q : QeaT} {b : List SlotT} {vals : List Val} {i : Nat} {x : NodeT} (h : q.nodes[i]? = some x) : ev q b vals i = evN q b vals (fun j => if j.toNat < i then ev q b vals j.toNat else (v0, 1)) x := by
  rw [ev, h]
  rfl
def VOk (v : Val) : Prop := v.ok = true ∧ i64 v.int
theorem VOk.kind {v : Val} (h : VOk v) : 1 ≤ v.kind ∧ v.kind ≤ 3 := by
  have := h.1
  unfold Val.ok at this
  split at this
  · omega
  · split at this
    · omega
    · simp only [Bool.and_eq_true, decide_eq_true_eq] at this
      omega
theorem VOk.str {v : Val} (h : VOk v) : v.str.length ≤ 4096 := by
  have := h.1
  unfold Val.ok at this
  split at this
  · simp only [Bool.and_eq_true, beq_iff_eq] at this
    rw [this.1]; simp
  · split at this
    · simp only [Bool.and_eq_true, decide_eq_true_eq] at this
      omega
    · simp only [Bool.and_eq_true, decide_eq_true_eq, beq_iff_eq] at this
      rw [this.2.2]; simp
def ROk (r : Val × Int) : Prop := (r.2 = 0 ∧ VOk r.1) ∨ (r.1 = v0 ∧ (r.2 = 3 ∨ r.2 = 6 ∨ r.2 = 7 ∨ r.2 = 8 ∨ r.2 = 9))
theorem VOk.truth (b : Bool) : VOk ⟨3, 0, [], b⟩ := ⟨rfl, by unfold i64; simp⟩
theorem VOk.num {n : Int} (h : i64 n) : VOk ⟨1, n, [], false⟩ := ⟨rfl, h⟩
theorem ROk.ovR {n : Int} : (ovR n).2 = 0 ∧ i64 (ovR n).1 ∨ (ovR n).2 = 6 := by
  unfold Ab.ovR
  split
  · rename_i h
    exact .inl ⟨rfl, by unfold i64; have := in64_iff.1 h; dsimp only; omega⟩
  · exact .inr rfl
theorem numR_ok {op a b : Int} (ha : i64 a) (hop : op = 5 ∨ (8 ≤ op ∧ op ≤ 12)) : ((numR op a b).2 = 0 ∧ i64 (numR op a b).1) ∨ (numR op a b).2 = 6 ∨ (numR op a b).2 = 7 := by
  have h : ∀ n, ((ovR n).2 = 0 ∧ i64 (ovR n).1) ∨ (ovR n).2 = 6 ∨ (ovR n).2 = 7 := fun n => (ROk.ovR (n := n)).imp id .inl
  have hop' : op = 5 ∨ op = 8 ∨ op = 9 ∨ op = 10 ∨ op = 11 ∨ op = 12 := by omega
  unfold numR
  rcases hop' with rfl | rfl | rfl | rfl | rfl | rfl
  · exact h _
  · exact h _
  · exact h _
  · exact h _
  · show ((divR a b).2 = 0 ∧ i64 (divR a b).1) ∨ (divR a b).2 = 6 ∨ (divR a b).2 = 7
    unfold divR
    split
    · exact .inr (.inr rfl)
    · exact h _
  · show ((modR a b).2 = 0 ∧ i64 (modR a b).1) ∨ (modR a b).2 = 6 ∨ (modR a b).2 = 7
    unfold modR
    split
    · exact .inr (.inr rfl)
    · exact .inl ⟨rfl, tmod_small ha⟩
theorem textR_ok (s : Str) : ROk (textR s) := by
  unfold textR
  split
  · exact .inr ⟨rfl, .inl rfl⟩
  · refine .inl ⟨rfl, ?_, by unfold i64; simp⟩
    simp [Val.ok]
    omega
theorem opR_ok {op : Int} {a b : Val} (ha : VOk a) (hop : 4 ≤ op ∧ op ≤ 16) : ROk (opR op a b) := by
  unfold opR
  rw [if_neg (by omega)]
  split
  · exact .inr ⟨rfl, .inr (.inr (.inr (.inl rfl)))⟩
  rename_i hk
  split
  · exact .inl ⟨rfl, .truth _⟩
  split
  · exact .inl ⟨rfl, .truth _⟩
  split
  · exact .inl ⟨rfl, .truth _⟩
  split
  · exact .inl ⟨rfl, .truth _⟩
  split
  · exact .inl ⟨rfl, .truth _⟩
  split
  · exact .inl ⟨rfl, .truth _⟩
  split
  · exact .inl ⟨rfl, .truth _⟩
  split
  · exact textR_ok _
  rcases numR_ok (op := op) (b := b.int) ha.2 (by omega) with ⟨h1, h2⟩ | h1 | h1
  · rw [if_pos h1]; exact .inl ⟨rfl, .num h2⟩
  · rw [if_neg (by omega), h1]; exact .inr ⟨rfl, by simp⟩
  · rw [if_neg (by omega), h1]; exact .inr ⟨rfl, by simp⟩
inductive NodeW (q : QeaT) (i : Nat) (x : NodeT) : Prop where
  | con (h : x.op = 1) (hv : VOk x.value)
  | quant (h : x.op = 2) (j : Nat) (hj : x.a = j) (y : QuantT) (hy : q.quants[j]? = some y)
  | free (h : x.op = 3) (j : Nat) (hj : x.a = j) (y : FreeT) (hy : q.frees[j]? = some y)
  | una (h : x.op = 4 ∨ x.op = 5) (j : Nat) (hj : x.a = j) (hlt : j < i)
  | bin (h : 6 ≤ x.op ∧ x.op ≤ 16) (j k : Nat) (hj : x.a = j) (hk : x.b = k) (hj' : j < i) (hk' : k < i)
structure Safe (q : QeaT) (S : Nat → Prop) : Prop where
  node : ∀ i, S i → ∃ x, q.nodes[i]? = some x ∧ NodeW q i x
  sub : ∀ i x, S i → q.nodes[i]? = some x → 4 ≤ x.op → S x.a.toNat ∧ (6 ≤ x.op → S x.b.toNat)
structure Env (q : QeaT) (b : List SlotT) (vals : List Val) : Prop where
  bl : b.length ≤ 1000000
  bok : ∀ s ∈ b, VOk s.value
  fit : vals.length = q.frees.length
  vok : ∀ v ∈ vals, VOk v
  vl : vals.length ≤ 1000000
theorem getR_ok {b : List SlotT} (h : ∀ s ∈ b, VOk s.value) {v : Int} (hg : (getR b v).2 = true) : VOk (getR b v).1 := by
  unfold getR at hg ⊢
  split
  · rename_i s hs
    exact h s (List.mem_of_find?_eq_some hs)
  · rename_i hn
    rw [hn] at hg
    cases hg
theorem quantR_ok {b : List SlotT} (h : ∀ s ∈ b, VOk s.value) (a t : Int) : ROk (quantR b a t) := by
  unfold quantR
  split
  · rename_i hg
    exact .inl ⟨rfl, getR_ok h hg.1⟩
  · exact .inr ⟨rfl, by simp⟩
theorem ev_una {q : QeaT} {b : List SlotT} {vals : List Val} {i j : Nat} {x : NodeT} (hx : q.nodes[i]? = some x) (h : x.op = 4 ∨ x.op = 5) (hj : x.a = j) (hlt : j < i) : ev q b vals i = if ¬ (ev q b vals j).2 = 0 then (v0, (ev q b vals j).2) else opR x.op (ev q b vals j).1 v0 := by
  rw [ev_at hx]
  unfold evN
  rw [if_neg (by omega), if_neg (by omega), if_neg (by omega), hj]
  dsimp only
  rw [Int.toNat_natCast, if_pos hlt]
  unfold evOp
  split
  · rfl
  · rw [if_pos (by omega)]
theorem ev_bin {q : QeaT} {b : List SlotT} {vals : List Val} {i j k : Nat} {x : NodeT} (hx : q.nodes[i]? = some x) (h : 6 ≤ x.op ∧ x.op ≤ 16) (hj : x.a = j) (hk : x.b = k) (hlt : j < i) (hlk : k < i) : ev q b vals i = evOp x.op (ev q b vals j) (ev q b vals k) := by
  rw [ev_at hx]
  unfold evN
  rw [if_neg (by omega), if_neg (by omega), if_neg (by omega), hj, hk]
  dsimp only
  rw [Int.toNat_natCast, Int.toNat_natCast, if_pos hlt, if_pos hlk]
theorem ev_ok {q : QeaT} {b : List SlotT} {vals : List Val} {S : Nat → Prop} (hS : Safe q S) (hE : Env q b vals) (i : Nat) (hi : S i) : ROk (ev q b vals i) := by
  induction i using Nat.strongRecOn with
  | _ i ih =>
    obtain ⟨x, hx, hw⟩ := hS.node i hi
    cases hw with
    | con h hv => rw [ev_at hx, evN, if_pos h]; exact .inl ⟨rfl, hv⟩
    | quant h j hj y hy =>
      rw [ev_at hx, evN, if_neg (by omega), if_pos h, hj, at?_nat hy]
      exact quantR_ok hE.bok _ _
    | free h j hj y hy =>
      have hlt := (List.getElem?_eq_some_iff.1 hy).1
      obtain ⟨v, hv, hm⟩ := as10 (l := vals) (i := j) (by have := hE.fit; omega)
      rw [ev_at hx, evN, if_neg (by omega), if_neg (by omega), if_pos h, hj, at?_nat hv]
      exact .inl ⟨rfl, hE.vok v hm⟩
    | una h j hj hlt =>
      have hs := (hS.sub i x hi hx (by omega)).1
      rw [hj, Int.toNat_natCast] at hs
      rw [ev_una hx h hj hlt]
      rcases ih j hlt hs with ⟨h1, h2⟩ | ⟨h1, h2⟩
      · rw [if_neg (by omega)]; exact opR_ok h2 (by omega)
      · rw [if_pos (by omega)]; exact .inr ⟨rfl, h2⟩
    | bin h j k hj hk hlt hlk =>
      obtain ⟨hs, hs2⟩ := hS.sub i x hi hx (by omega)
      have hs2 := hs2 (by omega)
      rw [hj, Int.toNat_natCast] at hs
      rw [hk, Int.toNat_natCast] at hs2
      rw [ev_bin hx h hj hk hlt hlk]
      unfold evOp
      rcases ih j hlt hs with ⟨h1, h2⟩ | ⟨h1, h2⟩
      · rw [if_neg (by omega), if_neg (by omega)]
        split
        · exact .inl ⟨rfl, h2⟩
        · rcases ih k hlk hs2 with ⟨h3, h4⟩ | ⟨h3, h4⟩
          · rw [if_neg (by omega)]; exact opR_ok h2 (by omega)
          · rw [if_pos (by omega)]; exact .inr ⟨rfl, h4⟩
      · rw [if_pos (by omega)]; exact .inr ⟨rfl, h2⟩
theorem VOk.zero : i64 v0.int := by unfold i64; simp
theorem ref16_Value_pc {q : QeaT} {b : List SlotT} {vals : List Val} {S : Nat → Prop} (hS : Safe q S) (hE : Env q b vals) (i : Nat) (hi : S i) : P_ Tryz.prog G npV_ [qeaV q, iv i, s11 b, valsV vals] (vt (ev q b vals i)) := by
  induction i using Nat.strongRecOn with
  | _ i ih =>
    obtain ⟨x, hx, hw⟩ := hS.node i hi
    refine pc_proctorref16_Value (Runs.of fun Φ h => ?_)
    unfold c_proctorref16_Value
    unfold vt at h
    have hsub := hS.sub i x hi hx
    obtain ⟨op, xa, xb, ⟨vk, vn, vs, vb⟩⟩ := x
    cases hw with
    | con ho hv =>
      dsimp only at ho
      subst ho
      rw [ev_at hx, evN, if_pos rfl] at h
      repeat' (first | (simp -implicitDefEqProofs only [go_sem, qeaV, d_, q_, f_, s_, s10, n_, t_, am_ hx, nodeV, valV]) | refine ag_ (fun hb => ?_) (fun hb => ?_) | refine ⟨fun hb => ?_, fun hb => ?_⟩ | fail)
      exact h _ ⟨_, _, rfl, rfl, .refl _⟩
    | quant ho j hj y hy =>
      dsimp only at ho hj
      subst ho
      subst hj
      rw [ev_at hx, evN, if_neg (by simp), if_pos rfl, at?_nat hy] at h
      dsimp only at h
      have hg := ref05_Get_pc (G := G) b (by have := hE.bl; omega) j
      unfold quantR at h
      generalize getR b j = r at *
      obtain ⟨⟨k, n, s, t⟩, ok⟩ := r
      unfold vbt s11 at hg
      simp only [valV] at hg h
      cases ok
      · repeat' (first | (simp -implicitDefEqProofs only [go_sem, qeaV, d_, q_, f_, s_, s10, n_, t_, am_ hx, nodeV, s11, valsV, am_ hy, quantV]) | refine ag_ (fun hb => ?_) (fun hb => ?_) | refine ⟨fun hb => ?_, fun hb => ?_⟩ | refine ac_ (hg) rfl rfl ?_ | fail)
        exact h _ ⟨_, _, rfl, rfl, fe_ (by simp)⟩
      · by_cases hk : k = y.type
        · subst hk
          repeat' (first | (simp -implicitDefEqProofs only [go_sem, qeaV, d_, q_, f_, s_, s10, n_, t_, am_ hx, nodeV, s11, valsV, am_ hy, quantV, bne_self_eq_false]) | refine ag_ (fun hb => ?_) (fun hb => ?_) | refine ⟨fun hb => ?_, fun hb => ?_⟩ | refine ac_ (hg) rfl rfl ?_ | fail)
          exact h _ ⟨_, _, rfl, rfl, fe_ (by simp)⟩
        · have hk' : (k != y.type) = true := by simpa using hk
          repeat' (first | (simp -implicitDefEqProofs only [go_sem, qeaV, d_, q_, f_, s_, s10, n_, t_, am_ hx, nodeV, s11, valsV, am_ hy, quantV, hk']) | refine ag_ (fun hb => ?_) (fun hb => ?_) | refine ⟨fun hb => ?_, fun hb => ?_⟩ | refine ac_ (hg) rfl rfl ?_ | fail)
          exact h _ ⟨_, _, rfl, rfl, fe_ (by simp [hk])⟩
    | free ho j hj y hy =>
      dsimp only at ho hj
      subst ho
      subst hj
      have hlt := (List.getElem?_eq_some_iff.1 hy).1
      obtain ⟨v, hv, hm⟩ := as10 (l := vals) (i := j) (by have := hE.fit; omega)
      rw [ev_at hx, evN, if_neg (by simp), if_neg (by simp), if_pos rfl, at?_nat hv] at h
      repeat' (first | (simp -implicitDefEqProofs only [go_sem, qeaV, d_, q_, f_, s_, s10, n_, t_, am_ hx, nodeV, s11, valsV, am_ hv, valV]) | refine ag_ (fun hb => ?_) (fun hb => ?_) | refine ⟨fun hb => ?_, fun hb => ?_⟩ | fail)
      exact h _ ⟨_, _, rfl, rfl, .refl _⟩
    | una ho j hj hlt =>
      rw [ev_una hx ho hj hlt] at h
      dsimp only at ho hj h
      subst hj
      have hs := (hsub (by dsimp only; omega)).1
      dsimp only at hs
      rw [Int.toNat_natCast] at hs
      have hc := ih j hlt hs
      have hop : P_ Tryz.prog G npO_ [iv op, valV (ev q b vals j).1, valV v0] (vt (opR op (ev q b vals j).1 v0)) ∨ ¬ (ev q b vals j).2 = 0 := by
        rcases ev_ok hS hE j hs with ⟨h1, h2⟩ | ⟨h1, h2⟩
        · exact .inl (ref03_Op_pc op _ v0 h2.2 VOk.zero (by have := h2.str; simp; omega) (by omega) h2.kind)
        · exact .inr (by omega)
      generalize ev q b vals j = r at *
      obtain ⟨⟨k, n, s, t⟩, e⟩ := r
      dsimp only at h hop
      generalize opR op ⟨k, n, s, t⟩ v0 = z at *
      obtain ⟨⟨zk, zn, zs, zt⟩, ze⟩ := z
      unfold vt s11 valsV at *
      simp only [valV, qeaV, d_, q_, f_, s_, s10, n_, t_] at hc hop h
      clear ih hsub
      rcases hop with hop | hne
      · by_cases he : e = 0
        · subst he
          simp only [not_true_eq_false, if_false] at h
          rcases ho with rfl | rfl
          all_goals
            repeat' (first | (simp -implicitDefEqProofs only [go_sem, qeaV, d_, q_, f_, s_, s10, n_, t_, am_ hx, nodeV]) | refine ag_ (fun hb => ?_) (fun hb => ?_) | refine ⟨fun hb => ?_, fun hb => ?_⟩ | refine ac_ (hc) rfl rfl ?_ | refine ac_ (hop) rfl rfl ?_ | fail)
            exact h _ ⟨_, _, rfl, rfl, .refl _⟩
        · have he' : (e != 0) = true := by simpa using he
          rw [if_pos he] at h
          rcases ho with rfl | rfl
          all_goals
            repeat' (first | (simp -implicitDefEqProofs only [go_sem, qeaV, d_, q_, f_, s_, s10, n_, t_, am_ hx, nodeV, he']) | refine ag_ (fun hb => ?_) (fun hb => ?_) | refine ⟨fun hb => ?_, fun hb => ?_⟩ | refine ac_ (hc) rfl rfl ?_ | fail)
            exact h _ ⟨_, _, rfl, rfl, .refl _⟩
      · have he' : (e != 0) = true := by simpa using hne
        rw [if_pos hne] at h
        rcases ho with rfl | rfl
        all_goals
          repeat' (first | (simp -implicitDefEqProofs only [go_sem, qeaV, d_, q_, f_, s_, s10, n_, t_, am_ hx, nodeV, he']) | refine ag_ (fun hb => ?_) (fun hb => ?_) | refine ⟨fun hb => ?_, fun hb => ?_⟩ | refine ac_ (hc) rfl rfl ?_ | fail)
          exact h _ ⟨_, _, rfl, rfl, .refl _⟩
    | bin ho j k hj hk hlt hlk =>
      rw [ev_bin hx ho hj hk hlt hlk] at h
      dsimp only at ho hj hk h
      subst hj
      subst hk
      obtain ⟨hs, hs2⟩ := hsub (by dsimp only; omega)
      have hs2 := hs2 (by dsimp only; omega)
      dsimp only at hs hs2
      rw [Int.toNat_natCast] at hs hs2
      have hc1 := ih j hlt hs
      have hc2 := ih k hlk hs2
      have hop : (ev q b vals j).2 = 0 → (ev q b vals k).2 = 0 → P_ Tryz.prog G npO_ [iv op, valV (ev q b vals j).1, valV (ev q b vals k).1] (vt (opR op (ev q b vals j).1 (ev q b vals k).1)) := fun z1 z2 => by
        rcases ev_ok hS hE j hs with ⟨h1, h2⟩ | ⟨h1, h2⟩
        · rcases ev_ok hS hE k hs2 with ⟨h3, h4⟩ | ⟨h3, h4⟩
          · exact ref03_Op_pc op _ _ h2.2 h4.2 (by have := h2.str; have := h4.str; omega) (by omega) h2.kind
          · omega
        · omega
      unfold evOp at h
      generalize ev q b vals j = r at *
      generalize ev q b vals k = u at *
      obtain ⟨⟨rk, rn, rs, rb⟩, e⟩ := r
      obtain ⟨⟨uk, un, us, ub⟩, f⟩ := u
      dsimp only at h hop
      generalize opR op ⟨rk, rn, rs, rb⟩ ⟨uk, un, us, ub⟩ = z at *
      obtain ⟨⟨zk, zn, zs, zt⟩, ze⟩ := z
      unfold vt s11 valsV at *
      simp only [valV, qeaV, d_, q_, f_, s_, s10, n_, t_] at hc1 hc2 hop h
      clear ih hsub
      have n1 : (op == 1) = false := by simp; omega
      have n2 : (op == 2) = false := by simp; omega
      have n3 : (op == 3) = false := by simp; omega
      have n5 : (op ≤ 5) = False := by simp; omega
      by_cases he : e = 0
      · subst he
        rw [if_neg (by omega), if_neg (by omega)] at h
        have tail : (¬ ((op = 6 ∧ rb = false) ∨ (op = 7 ∧ rb = true))) → ∀ b6 b7 : Bool, (op == 6) = b6 → (op == 7) = b7 → True := fun _ _ _ _ _ => trivial
        by_cases hf : f = 0
        · subst hf
          have hop := hop rfl rfl
          by_cases h6 : op = 6
          · subst h6
            cases rb
            · repeat' (first | (simp -implicitDefEqProofs only [go_sem, qeaV, d_, q_, f_, s_, s10, n_, t_, am_ hx, nodeV]) | refine ag_ (fun hb => ?_) (fun hb => ?_) | refine ⟨fun hb => ?_, fun hb => ?_⟩ | refine ac_ (hc1) rfl rfl ?_ | refine ac_ (hc2) rfl rfl ?_ | refine ac_ (hop) rfl rfl ?_ | fail)
              exact h _ ⟨_, _, rfl, rfl, .refl _⟩
            · repeat' (first | (simp -implicitDefEqProofs only [go_sem, qeaV, d_, q_, f_, s_, s10, n_, t_, am_ hx, nodeV]) | refine ag_ (fun hb => ?_) (fun hb => ?_) | refine ⟨fun hb => ?_, fun hb => ?_⟩ | refine ac_ (hc1) rfl rfl ?_ | refine ac_ (hc2) rfl rfl ?_ | refine ac_ (hop) rfl rfl ?_ | fail)
              exact h _ ⟨_, _, rfl, rfl, .refl _⟩
          by_cases h7 : op = 7
          · subst h7
            cases rb
            · repeat' (first | (simp -implicitDefEqProofs only [go_sem, qeaV, d_, q_, f_, s_, s10, n_, t_, am_ hx, nodeV]) | refine ag_ (fun hb => ?_) (fun hb => ?_) | refine ⟨fun hb => ?_, fun hb => ?_⟩ | refine ac_ (hc1) rfl rfl ?_ | refine ac_ (hc2) rfl rfl ?_ | refine ac_ (hop) rfl rfl ?_ | fail)
              exact h _ ⟨_, _, rfl, rfl, .refl _⟩
            · repeat' (first | (simp -implicitDefEqProofs only [go_sem, qeaV, d_, q_, f_, s_, s10, n_, t_, am_ hx, nodeV]) | refine ag_ (fun hb => ?_) (fun hb => ?_) | refine ⟨fun hb => ?_, fun hb => ?_⟩ | refine ac_ (hc1) rfl rfl ?_ | refine ac_ (hc2) rfl rfl ?_ | refine ac_ (hop) rfl rfl ?_ | fail)
              exact h _ ⟨_, _, rfl, rfl, .refl _⟩
          rw [if_neg (by omega), if_neg (by omega)] at h
          have n6 : (op == 6) = false := by simpa using h6
          have n7 : (op == 7) = false := by simpa using h7
          repeat' (first | (simp -implicitDefEqProofs only [go_sem, qeaV, d_, q_, f_, s_, s10, n_, t_, am_ hx, nodeV, n1, n2, n3, n5, n6, n7, decide_false]) | refine ag_ (fun hb => ?_) (fun hb => ?_) | refine ⟨fun hb => ?_, fun hb => ?_⟩ | refine ac_ (hc1) rfl rfl ?_ | refine ac_ (hc2) rfl rfl ?_ | refine ac_ (hop) rfl rfl ?_ | fail)
          exact h _ ⟨_, _, rfl, rfl, .refl _⟩
        · have he' : (f != 0) = true := by simpa using hf
          clear hop
          by_cases h6 : op = 6
          · subst h6
            cases rb
            · repeat' (first | (simp -implicitDefEqProofs only [go_sem, qeaV, d_, q_, f_, s_, s10, n_, t_, am_ hx, nodeV, he']) | refine ag_ (fun hb => ?_) (fun hb => ?_) | refine ⟨fun hb => ?_, fun hb => ?_⟩ | refine ac_ (hc1) rfl rfl ?_ | refine ac_ (hc2) rfl rfl ?_ | fail)
              exact h _ ⟨_, _, rfl, rfl, .refl _⟩
            · rw [if_neg (by simp), if_pos hf] at h
              repeat' (first | (simp -implicitDefEqProofs only [go_sem, qeaV, d_, q_, f_, s_, s10, n_, t_, am_ hx, nodeV, he']) | refine ag_ (fun hb => ?_) (fun hb => ?_) | refine ⟨fun hb => ?_, fun hb => ?_⟩ | refine ac_ (hc1) rfl rfl ?_ | refine ac_ (hc2) rfl rfl ?_ | fail)
              exact h _ ⟨_, _, rfl, rfl, .refl _⟩
          by_cases h7 : op = 7
          · subst h7
            cases rb
            · rw [if_neg (by simp), if_pos hf] at h
              repeat' (first | (simp -implicitDefEqProofs only [go_sem, qeaV, d_, q_, f_, s_, s10, n_, t_, am_ hx, nodeV, he']) | refine ag_ (fun hb => ?_) (fun hb => ?_) | refine ⟨fun hb => ?_, fun hb => ?_⟩ | refine ac_ (hc1) rfl rfl ?_ | refine ac_ (hc2) rfl rfl ?_ | fail)
              exact h _ ⟨_, _, rfl, rfl, .refl _⟩
            · repeat' (first | (simp -implicitDefEqProofs only [go_sem, qeaV, d_, q_, f_, s_, s10, n_, t_, am_ hx, nodeV, he']) | refine ag_ (fun hb => ?_) (fun hb => ?_) | refine ⟨fun hb => ?_, fun hb => ?_⟩ | refine ac_ (hc1) rfl rfl ?_ | refine ac_ (hc2) rfl rfl ?_ | fail)
              exact h _ ⟨_, _, rfl, rfl, .refl _⟩
          rw [if_neg (by omega), if_pos hf] at h
          have n6 : (op == 6) = false := by simpa using h6
          have n7 : (op == 7) = false := by simpa using h7
          repeat' (first | (simp -implicitDefEqProofs only [go_sem, qeaV, d_, q_, f_, s_, s10, n_, t_, am_ hx, nodeV, n1, n2, n3, n5, n6, n7, he', decide_false]) | refine ag_ (fun hb => ?_) (fun hb => ?_) | refine ⟨fun hb => ?_, fun hb => ?_⟩ | refine ac_ (hc1) rfl rfl ?_ | refine ac_ (hc2) rfl rfl ?_ | fail)
          exact h _ ⟨_, _, rfl, rfl, .refl _⟩
      · have he' : (e != 0) = true := by simpa using he
        rw [if_pos he] at h
        repeat' (first | (simp -implicitDefEqProofs only [go_sem, qeaV, d_, q_, f_, s_, s10, n_, t_, am_ hx, nodeV, n1, n2, n3, he']) | refine ag_ (fun hb => ?_) (fun hb => ?_) | refine ⟨fun hb => ?_, fun hb => ?_⟩ | refine ac_ (hc1) rfl rfl ?_ | fail)
        exact h _ ⟨_, _, rfl, rfl, .refl _⟩
end Go.Proofs.YtjbcfpkibnhodaaGreatDoor.Ab
