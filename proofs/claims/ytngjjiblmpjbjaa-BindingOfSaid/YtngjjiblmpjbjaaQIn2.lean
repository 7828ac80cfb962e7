/-
  slices.Insert at slots: in place. No claim is proved here.
-/
import Derived.Test.YtngjjiblmpjbjaaQIn1
import Derived.Test.YtngjjiblmpjbjaaQBd1
import Derived.Shelf.Spec.SlicesInsertGrow
namespace Go.Proofs.Ytngjjiblmpjbjaa.Ab
open Go Go.RowKit Go.Lib
set_option linter.unusedSimpArgs false
set_option maxHeartbeats 4000000
set_option maxRecDepth 100000
theorem five_info : (Try.prog.info? t_api_Slot).map (·.size) = some 5 := by kernel_rfl
theorem insert_shift (b n c i vb vc tb tv : Nat) (cur vcur : Array Value) (vs : List Value) (w : World) (hi : i < n) (hroom : n + 1 ≤ c) (hc63 : c ≤ maxLen) (hvb : vb ≠ b)
    (hb : w.heap[b]? = some (.cells cur tb (0, 0))) (hcs : cur.size = c * 5) (h1c : ∀ v ∈ cur.toList.take (n * 5), v.oneCell' = true)
    (hv : w.heap[vb]? = some (.cells vcur tv (0, 0))) (hvl : vs.length = 5) (hvs : ∀ (j : Nat) (v : Value), vs[j]? = some v → vcur[j]? = some v) (h1v : ∀ v ∈ vs, v.oneCell' = true) (A B : List Value)
    (hA : A = cur.toList.take (i * 5 + 5) ++ (cur.toList.drop (i * 5)).take ((n - i) * 5) ++ cur.toList.drop (i * 5 + 5 + (n - i) * 5)) (hB : B = A.take (i * 5) ++ vs ++ A.drop (i * 5 + 5)) :
    Calls Try.prog 15 #[.slice (some ⟨b, 0, none⟩) n c, .int .i64 i, .slice (some ⟨vb, 0, none⟩) 1 vc] w fun e w' =>
      e = .returned (.slice (some ⟨b, 0, none⟩) (n + 1) c) ∧ w' = (w.drew.setRow b A.toArray).setRow b B.toArray := by
  unfold maxLen at hc63
  have hz2 : ¬ ((i : Int) = (n : Int)) := by omega
  have hvw : vb < w.heap.size := (Array.getElem?_eq_some_iff.1 hv).1
  have hsa : w.shape? vb = some (tv, vcur.size) := by simp [World.shape?, hv]
  have hsb : w.shape? b = some (tb, cur.size) := by simp [World.shape?, hb]
  have hov : ∀ o lb cb, (callFunc 23 #[.slice (some ⟨vb, 0, none⟩) 1 vc, .slice (some ⟨b, o, none⟩) lb cb]).run Try.prog w = .ok (.value (.bool false)) w := fun o lb cb => by
    rw [run_callFunc_extern Try.func23 (by kernel_rfl) (by kernel_rfl) (by kernel_rfl) (e := Extern.SlicesOverlaps.overlaps #[22, 22] #[4]) (by kernel_rfl),
      Lib.run_overlaps_apart w 22 4 t_api_Slot Try.underlying22 5 Try.sizeOf32 ⟨vb, 0, none⟩ ⟨b, o, none⟩ 1 vc lb cb hvb tv tb vcur.size cur.size hsa hsb (by omega) (by simp [World.frozen?, hv]) (by simp [World.frozen?, hv])]
    rfl
  have hw1 : IntKind.i64.wrap ((i : Int) + 1) = (i : Int) + 1 := by rw [IntKind.wrap_i64]; omega
  have hb1 : (0 : Int) ≤ (i : Int) + 1 := by omega
  have hb2 : ¬ (c = i + 1) := by omega
  have hb3 : (i : Int) ≤ (n : Int) := by omega
  have hb4 : ¬ (c = i) := by omega
  have hb5 : (i : Int) ≤ (n : Int) + 1 := by omega
  have htn : ((i : Int) + 1).toNat = i + 1 := by omega
  have hin : i ≤ n := by omega
  have hdl : ((cur.toList.drop (i * 5)).take ((n - i) * 5)).length = (n - i) * 5 := by
    rw [List.length_take, List.length_drop, Array.length_toList, hcs]
    omega
  have hAl : A.length = c * 5 := by
    rw [hA, List.length_append, List.length_append, hdl, List.length_take, List.length_drop, Array.length_toList, hcs]
    omega
  have hb' : (w.drew).heap[b]? = some (.cells cur tb (0, 0)) := hb
  have hcp1 : ∀ ty dc sc o1 o2 l1 l2, o1 = i * 5 + 5 → o2 = i * 5 → l1 = n - i → l2 = n + 1 - i → (Builtin.copy_ #[22, 22] ty #[.slice (some ⟨b, o1, none⟩) l1 dc, .slice (some ⟨b, o2, none⟩) l2 sc]).run Try.prog w.drew = .ok (goInt (n - i : Nat)) (w.drew.setRow b A.toArray) := fun ty dc sc o1 o2 l1 l2 e1 e2 e3 e4 => by
    subst e1 e2 e3 e4
    have h := run_copy_rowK w.drew 22 22 ty t_api_Slot b (i * 5 + 5) (n - i) dc ⟨b, i * 5, none⟩ (n + 1 - i) sc cur tb ((cur.toList.drop (i * 5)).take ((n - i) * 5)) 5 (n - i) Try.underlying22 five_info hb'
      (by simp only [Nat.min_def]; split <;> omega) hdl (fun j v hj => by
        rw [Addr.add_lit]
        rw [List.getElem?_take] at hj
        split at hj
        · rw [List.getElem?_drop, Array.getElem?_toList] at hj
          simp [World.cell?, hb', hj]
        · cases hj) (by rw [hdl]; omega) (fun v hv => h1c v (by
        obtain ⟨j, hj⟩ := List.getElem?_of_mem hv
        rw [List.getElem?_take] at hj
        split at hj
        · rw [List.getElem?_drop] at hj
          refine List.mem_of_getElem? (i := i * 5 + j) ?_
          rw [List.getElem?_take, if_pos (by omega), hj]
        · cases hj))
    rw [hdl, ← hA] at h
    exact h
  have hcp2 : ∀ (W : World), W.heap[b]? = some (.cells A.toArray tb (0, 0)) → W.heap[vb]? = some (.cells vcur tv (0, 0)) → ∀ ty dc o1 l1, o1 = i * 5 → l1 = n + 1 - i → (Builtin.copy_ #[22, 22] ty #[.slice (some ⟨b, o1, none⟩) l1 dc, .slice (some ⟨vb, 0, none⟩) 1 vc]).run Try.prog W = .ok (goInt (1 : Nat)) (W.setRow b B.toArray) := fun W hWb hWv ty dc o1 l1 e1 e2 => by
    subst e1 e2
    have h := run_copy_rowK W 22 22 ty t_api_Slot b (i * 5) (n + 1 - i) dc ⟨vb, 0, none⟩ 1 vc A.toArray tb vs 5 1 Try.underlying22 five_info hWb
      (by simp only [Nat.min_def]; split <;> omega) hvl (fun j v hj => by
        rw [Addr.add_lit]
        have := hvs j v hj
        simp [World.cell?, hWv, this]) (by simp [hAl, hvl]; omega) h1v
    rw [hvl] at h
    rw [hB]
    exact h
  have mixed : Try.prog.follows Departure.mixedOrders = true := by kernel_rfl
  have hcp3 : ∀ ty dc, (Builtin.copy_ #[22, 22] ty #[.slice (some ⟨b, i * 5, none⟩) (n + 1 - i) dc, .slice (some ⟨vb, 0, none⟩) 1 vc]).run Try.prog (w.drew.setRow b A.toArray) = .ok (goInt (1 : Nat)) ((w.drew.setRow b A.toArray).setRow b B.toArray) := fun ty dc =>
    hcp2 (w.drew.setRow b A.toArray) (setRow_heap _ _ _ _ _ _ hb') (by rw [setRow_other _ _ _ _ hvb]; exact hv) ty dc _ _ rfl rfl
  clear hA hB hcp2
  go_enter Try.func15, Try.ntmps15
  go_wp2_with (simp only [hov])
  go_region_law_o (refine step_copy_runI rfl _ _ 22 22 rfl (.slice (some ⟨b, (i + 1) * 5, none⟩) (n - i) (c - (i + 1))) (.slice (some ⟨b, i * 5, none⟩) (n + 1 - i) (c - i)) (by simp [Act.eval, Act.put]) (by simp [Act.eval, Act.put]) (hcp1 _ _ _ _ _ _ _ (by omega) rfl rfl rfl) ?_)
  go_wp2_with (at_builtin; refine wpList_copy_runI _ rfl _ _ 22 22 rfl _ _ rfl rfl (hcp3 _ _) ?_)
  go_ret
  exact ⟨rfl, rfl⟩
end Go.Proofs.Ytngjjiblmpjbjaa.Ab
