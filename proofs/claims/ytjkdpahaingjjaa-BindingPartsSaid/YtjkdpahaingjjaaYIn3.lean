/-
  binding, proctorref05: which may be; under, fits, union. copy at elements of several cells. slices.Insert at slots: in place. slices.Insert at slots: at the end, and where there is no room. No claim is proved here.
-/
import Derived.Test.YtjkdpahaingjjaaYBd1
import Derived.Laws.CopyRow
import Derived.Shelf.Spec.SlicesInsertGrow
namespace Go.Proofs.Ytjkdpahaingjjaa.Ab
open Go
set_option linter.unusedSimpArgs false
set_option maxHeartbeats 4000000
set_option maxRecDepth 100000
variable {G : Nat → Option AV}
theorem binding_Right_pc (l : List SlotT) (hl : l.length < 9223372036854775807) : PureC Try.prog G n_binding_Right [slotsV l] (.bool (bindOk l)) := by
  refine pc_binding_Right (Runs.of fun Φ h => ?_)
  unfold c_binding_Right
  simp -implicitDefEqProofs only [go_sem, Nat.reduceAdd, Nat.reduceSub, Nat.reduceMul, Nat.reduceLT, Nat.reduceLeDiff, Nat.reduceEqDiff, Nat.reduceBEq, Int.reduceNeg, Int.reduceAdd, Int.reduceLT, Int.reduceLE, Int.reduceToNat, Int.reduceEq, Int.reduceNe, Int.reduceBEq, Int.reduceBNe, Int.reduceMul, Int.reduceSub, reduceIte, reduceCtorEq, slotsV, List.length_map]
  refine at_loop (fun n st => ∃ i : Nat, i + n = l.length ∧ st = ⟨42, [(0, .seq 5 (l.map slotV)), (5, .seq 5 (l.map slotV)), (6, iv l.length), (7, iv i)], []⟩ ∧ ∀ j x, j < i → l[j]? = some x → slotOk l j x = true) l.length ⟨0, by simp, rfl, fun j x hj => by omega⟩ ?_
  rintro I hI n st ⟨i, hi, rfl, hno⟩
  simp -implicitDefEqProofs only [go_sem, Nat.reduceAdd, Nat.reduceSub, Nat.reduceMul, Nat.reduceLT, Nat.reduceLeDiff, Nat.reduceEqDiff, Nat.reduceBEq, Int.reduceNeg, Int.reduceAdd, Int.reduceLT, Int.reduceLE, Int.reduceToNat, Int.reduceEq, Int.reduceNe, Int.reduceBEq, Int.reduceBNe, Int.reduceMul, Int.reduceSub, reduceIte, reduceCtorEq, List.length_map]
  refine ⟨fun hlt => ?_, fun hge => ?_⟩
  · have hlt' : i < l.length := by omega
    obtain ⟨x, hx, hm⟩ := at_some hlt'
    have hw := wrap_succ hlt' (by omega)
    have hok := value_Right_pc (G := G) x.value
    have hnext : slotOk l i x = true → again I n ⟨42, [(0, .seq 5 (l.map slotV)), (5, .seq 5 (l.map slotV)), (6, iv l.length), (7, iv (i + 1 : Nat))], []⟩ := fun hv => at_again (n - 1) (by omega) (hI _ _ ⟨i + 1, by omega, rfl, allI_step (p := slotOk l) hx hv hno⟩)
    have hbad : slotOk l i x = false → bindOk l = false := fun hv => allI_false (p := slotOk l) hx hv
    unfold slotOk at hnext hbad
    generalize bindOk l = R at *
    clear hno
    obtain ⟨v, y⟩ := x
    simp only [valV] at hok hnext hbad
    by_cases h0 : i = 0
    · subst h0
      (try (simp -implicitDefEqProofs only [go_sem, Nat.reduceAdd, Nat.reduceSub, Nat.reduceMul, Nat.reduceLT, Nat.reduceLeDiff, Nat.reduceEqDiff, Nat.reduceBEq, Int.reduceNeg, Int.reduceAdd, Int.reduceLT, Int.reduceLE, Int.reduceToNat, Int.reduceEq, Int.reduceNe, Int.reduceBEq, Int.reduceBNe, Int.reduceMul, Int.reduceSub, reduceIte, reduceCtorEq, aiaddr_map hx, slotV, valV, hw])); repeat' ((first | refine at_guard (fun hb => ?_) (fun hb => ?_) | refine ⟨fun hb => ?_, fun hb => ?_⟩ | refine at_call (hok) rfl rfl ?_ | fail) <;> (try (simp -implicitDefEqProofs only [go_sem, Nat.reduceAdd, Nat.reduceSub, Nat.reduceMul, Nat.reduceLT, Nat.reduceLeDiff, Nat.reduceEqDiff, Nat.reduceBEq, Int.reduceNeg, Int.reduceAdd, Int.reduceLT, Int.reduceLE, Int.reduceToNat, Int.reduceEq, Int.reduceNe, Int.reduceBEq, Int.reduceBNe, Int.reduceMul, Int.reduceSub, reduceIte, reduceCtorEq, aiaddr_map hx, slotV, valV, hw])))
      all_goals first
        | (refine h _ ⟨_, _, rfl, rfl, fitB (hbad ?_).symm⟩; clear h hnext hbad hok hI; simp_all; done)
        | (refine hnext ?_; clear h hnext hbad hok hI; simp_all; done)
        | (exfalso; clear h hnext hbad hok hI; simp_all; done)
        | (refine h _ ⟨_, _, rfl, rfl, fitB (hbad ?_).symm⟩; clear h hnext hbad hok hI; simp_all; omega)
        | (refine hnext ?_; clear h hnext hbad hok hI; simp_all; omega)
        | (exfalso; clear h hnext hbad hok hI; simp_all; omega)
    · obtain ⟨p, hp, _⟩ := at_some (l := l) (i := i - 1) (by omega)
      have hw1 : IntKind.i64.wrap ((i : Int) - 1) = ((i - 1 : Nat) : Int) := by rw [wrap_i64 (by omega) (by omega)]; omega
      have hpos : ((0 : Int) < (i : Int)) = True := by simp; omega
      rw [hp] at hnext hbad
      have hi0 : (i == 0) = false := by simpa using h0
      rw [hi0] at hnext hbad
      (try (simp -implicitDefEqProofs only [go_sem, Nat.reduceAdd, Nat.reduceSub, Nat.reduceMul, Nat.reduceLT, Nat.reduceLeDiff, Nat.reduceEqDiff, Nat.reduceBEq, Int.reduceNeg, Int.reduceAdd, Int.reduceLT, Int.reduceLE, Int.reduceToNat, Int.reduceEq, Int.reduceNe, Int.reduceBEq, Int.reduceBNe, Int.reduceMul, Int.reduceSub, reduceIte, reduceCtorEq, aiaddr_map hx, aiaddr_map hp, slotV, valV, hw, hw1, hpos, decide_true])); repeat' ((first | refine at_guard (fun hb => ?_) (fun hb => ?_) | refine ⟨fun hb => ?_, fun hb => ?_⟩ | refine at_call (hok) rfl rfl ?_ | fail) <;> (try (simp -implicitDefEqProofs only [go_sem, Nat.reduceAdd, Nat.reduceSub, Nat.reduceMul, Nat.reduceLT, Nat.reduceLeDiff, Nat.reduceEqDiff, Nat.reduceBEq, Int.reduceNeg, Int.reduceAdd, Int.reduceLT, Int.reduceLE, Int.reduceToNat, Int.reduceEq, Int.reduceNe, Int.reduceBEq, Int.reduceBNe, Int.reduceMul, Int.reduceSub, reduceIte, reduceCtorEq, aiaddr_map hx, aiaddr_map hp, slotV, valV, hw, hw1, hpos, decide_true])))
      all_goals first
        | (refine h _ ⟨_, _, rfl, rfl, fitB (hbad ?_).symm⟩; clear h hnext hbad hok hI; simp_all; done)
        | (refine hnext ?_; clear h hnext hbad hok hI; simp_all; done)
        | (exfalso; clear h hnext hbad hok hI; simp_all; done)
        | (refine h _ ⟨_, _, rfl, rfl, fitB (hbad ?_).symm⟩; clear h hnext hbad hok hI; simp_all; omega)
        | (refine hnext ?_; clear h hnext hbad hok hI; simp_all; omega)
        | (exfalso; clear h hnext hbad hok hI; simp_all; omega)
  · (try (simp -implicitDefEqProofs only [go_sem, Nat.reduceAdd, Nat.reduceSub, Nat.reduceMul, Nat.reduceLT, Nat.reduceLeDiff, Nat.reduceEqDiff, Nat.reduceBEq, Int.reduceNeg, Int.reduceAdd, Int.reduceLT, Int.reduceLE, Int.reduceToNat, Int.reduceEq, Int.reduceNe, Int.reduceBEq, Int.reduceBNe, Int.reduceMul, Int.reduceSub, reduceIte, reduceCtorEq])); repeat' ((first | refine at_guard (fun hb => ?_) (fun hb => ?_) | refine ⟨fun hb => ?_, fun hb => ?_⟩ | fail) <;> (try (simp -implicitDefEqProofs only [go_sem, Nat.reduceAdd, Nat.reduceSub, Nat.reduceMul, Nat.reduceLT, Nat.reduceLeDiff, Nat.reduceEqDiff, Nat.reduceBEq, Int.reduceNeg, Int.reduceAdd, Int.reduceLT, Int.reduceLE, Int.reduceToNat, Int.reduceEq, Int.reduceNe, Int.reduceBEq, Int.reduceBNe, Int.reduceMul, Int.reduceSub, reduceIte, reduceCtorEq])))
    exact h _ ⟨_, _, rfl, rfl, fitB (allI_all (by omega) hno).symm⟩
theorem view_row {α : Type} {e : α → AV} {sz : Nat} {H : List (Nat × Box)} {i n : Nat} {ty : Nat} {l : List α} (h0 : 0 < sz) (hH : hget H i = some ⟨true, ty, sz, l.map e⟩) (hn : l.length = n) : view H (.arr i 0 n) = some (.seq sz (l.map e)) := by
  simp only [view, hH, List.drop_zero, List.length_map, hn]
  simp [h0, ← hn]
  exact List.take_of_length_le (by simp)
end Go.Proofs.Ytjkdpahaingjjaa.Ab
namespace Go.Proofs.Ytjkdpahaingjjaa.Ab
open Go
variable {P : Program}
theorem run_copy_rowK (w : World) (dT sT ty elem : TypeId) (g o dLen dCap : Nat) (a : Addr) (sLen sCap : Nat) (cur : Array Value) (t : TypeId) (cs : List Value) (sz n : Nat)
    (hu : P.underlying dT = some (.slice elem)) (hs : (P.info? elem).map (·.size) = some sz)
    (hg : w.heap[g]? = some (.cells cur t (0, 0))) (hn : n = Nat.min sLen dLen) (hcl : cs.length = n * sz)
    (hsrc : ∀ j v, cs[j]? = some v → w.cell? (a.add j) = some v) (hfit : o + cs.length ≤ cur.size) (h1 : ∀ v ∈ cs, v.oneCell' = true) :
    (Builtin.copy_ #[dT, sT] ty #[.slice (some ⟨g, o, none⟩) dLen dCap, .slice (some a) sLen sCap]).run P w =
      .ok (goInt n) (w.setRow g (cur.toList.take o ++ cs ++ cur.toList.drop (o + cs.length)).toArray) := by
  have hl := run_loadCells_list (P := P) w a cs hsrc
  have hst := run_storeCells_at P g o t cs 0 cur w hg (by simpa using hfit) h1
  rw [hcl] at hl
  cases hq : P.info? elem with
  | none => simp [hq] at hs
  | some i =>
    have hi : i.size = sz := by simpa [hq] using hs
    simp [Builtin.copy_, run_underlying hu, Builtin.lenOf, Builtin.firstCells, sizeOf, typeInfo, hq, hi, ← hn, hl, hst]
end Go.Proofs.Ytjkdpahaingjjaa.Ab
namespace Go.Proofs.Ytjkdpahaingjjaa.Ab
open Go Go.RowKit Go.Lib
set_option linter.unusedSimpArgs false
set_option maxHeartbeats 4000000
set_option maxRecDepth 100000
theorem five_info : (Try.prog.info? t_api_Slot).map (·.size) = some 5 := by kernel_rfl
theorem insert_shift (b n c i vb vc tb tv : Nat) (cur vcur : Array Value) (vs : List Value) (w : World) (hi : i < n) (hroom : n + 1 ≤ c) (hc63 : c ≤ maxLen) (hvb : vb ≠ b)
    (hb : w.heap[b]? = some (.cells cur tb (0, 0))) (hcs : cur.size = c * 5) (h1c : ∀ v ∈ cur.toList.take (n * 5), v.oneCell' = true)
    (hv : w.heap[vb]? = some (.cells vcur tv (0, 0))) (hvl : vs.length = 5) (hvs : ∀ (j : Nat) (v : Value), vs[j]? = some v → vcur[j]? = some v) (h1v : ∀ v ∈ vs, v.oneCell' = true) (A B : List Value)
    (hA : A = cur.toList.take (i * 5 + 5) ++ (cur.toList.drop (i * 5)).take ((n - i) * 5) ++ cur.toList.drop (i * 5 + 5 + (n - i) * 5)) (hB : B = A.take (i * 5) ++ vs ++ A.drop (i * 5 + 5)) :
    Calls Try.prog 47 #[.slice (some ⟨b, 0, none⟩) n c, .int .i64 i, .slice (some ⟨vb, 0, none⟩) 1 vc] w fun e w' =>
      e = .returned (.slice (some ⟨b, 0, none⟩) (n + 1) c) ∧ w' = (w.drew.setRow b A.toArray).setRow b B.toArray := by
  unfold maxLen at hc63
  have hz2 : ¬ ((i : Int) = (n : Int)) := by omega
  have hvw : vb < w.heap.size := (Array.getElem?_eq_some_iff.1 hv).1
  have hsa : w.shape? vb = some (tv, vcur.size) := by simp [World.shape?, hv]
  have hsb : w.shape? b = some (tb, cur.size) := by simp [World.shape?, hb]
  have hov : ∀ o lb cb, (callFunc 63 #[.slice (some ⟨vb, 0, none⟩) 1 vc, .slice (some ⟨b, o, none⟩) lb cb]).run Try.prog w = .ok (.value (.bool false)) w := fun o lb cb => by
    rw [run_callFunc_extern Try.func63 (by kernel_rfl) (by kernel_rfl) (by kernel_rfl) (e := Extern.SlicesOverlaps.overlaps #[22, 22] #[4]) (by kernel_rfl),
      Lib.run_overlaps_apart w 22 4 t_api_Slot Try.underlying22 5 Try.sizeOf40 ⟨vb, 0, none⟩ ⟨b, o, none⟩ 1 vc lb cb hvb tv tb vcur.size cur.size hsa hsb (by omega) (by simp [World.frozen?, hv]) (by simp [World.frozen?, hv])]
    rfl
  have hw1 : IntKind.i64.wrap ((i : Int) + 1) = (i : Int) + 1 := by rw [IntKind.wrap_i64]; omega
  have hb1 : (0 : Int) ≤ (i : Int) + 1 := by omega
  have hb2 : ¬ (c = i + 1) := by omega
  have hb3 : (i : Int) ≤ (n : Int) := by omega
  have hb4 : ¬ (c = i) := by omega
  have hb5 : (i : Int) ≤ (n : Int) + 1 := by omega
  have htn : ((i : Int) + 1).toNat = i + 1 := by omega
  have hin : i ≤ n := by omega
  have hdl : ((cur.toList.drop (i * 5)).take ((n - i) * 5)).length = (n - i) * 5 := by
    rw [List.length_take, List.length_drop, Array.length_toList, hcs]
    omega
  have hAl : A.length = c * 5 := by
    rw [hA, List.length_append, List.length_append, hdl, List.length_take, List.length_drop, Array.length_toList, hcs]
    omega
  have hb' : (w.drew).heap[b]? = some (.cells cur tb (0, 0)) := hb
  have hcp1 : ∀ ty dc sc o1 o2 l1 l2, o1 = i * 5 + 5 → o2 = i * 5 → l1 = n - i → l2 = n + 1 - i → (Builtin.copy_ #[22, 22] ty #[.slice (some ⟨b, o1, none⟩) l1 dc, .slice (some ⟨b, o2, none⟩) l2 sc]).run Try.prog w.drew = .ok (goInt (n - i : Nat)) (w.drew.setRow b A.toArray) := fun ty dc sc o1 o2 l1 l2 e1 e2 e3 e4 => by
    subst e1 e2 e3 e4
    have h := run_copy_rowK w.drew 22 22 ty t_api_Slot b (i * 5 + 5) (n - i) dc ⟨b, i * 5, none⟩ (n + 1 - i) sc cur tb ((cur.toList.drop (i * 5)).take ((n - i) * 5)) 5 (n - i) Try.underlying22 five_info hb'
      (by simp only [Nat.min_def]; split <;> omega) hdl (fun j v hj => by
        rw [Addr.add_lit]
        rw [List.getElem?_take] at hj
        split at hj
        · rw [List.getElem?_drop, Array.getElem?_toList] at hj
          simp [World.cell?, hb', hj]
        · cases hj) (by rw [hdl]; omega) (fun v hv => h1c v (by
        obtain ⟨j, hj⟩ := List.getElem?_of_mem hv
        rw [List.getElem?_take] at hj
        split at hj
        · rw [List.getElem?_drop] at hj
          refine List.mem_of_getElem? (i := i * 5 + j) ?_
          rw [List.getElem?_take, if_pos (by omega), hj]
        · cases hj))
    rw [hdl, ← hA] at h
    exact h
  have hcp2 : ∀ (W : World), W.heap[b]? = some (.cells A.toArray tb (0, 0)) → W.heap[vb]? = some (.cells vcur tv (0, 0)) → ∀ ty dc o1 l1, o1 = i * 5 → l1 = n + 1 - i → (Builtin.copy_ #[22, 22] ty #[.slice (some ⟨b, o1, none⟩) l1 dc, .slice (some ⟨vb, 0, none⟩) 1 vc]).run Try.prog W = .ok (goInt (1 : Nat)) (W.setRow b B.toArray) := fun W hWb hWv ty dc o1 l1 e1 e2 => by
    subst e1 e2
    have h := run_copy_rowK W 22 22 ty t_api_Slot b (i * 5) (n + 1 - i) dc ⟨vb, 0, none⟩ 1 vc A.toArray tb vs 5 1 Try.underlying22 five_info hWb
      (by simp only [Nat.min_def]; split <;> omega) hvl (fun j v hj => by
        rw [Addr.add_lit]
        have := hvs j v hj
        simp [World.cell?, hWv, this]) (by simp [hAl, hvl]; omega) h1v
    rw [hvl] at h
    rw [hB]
    exact h
  have mixed : Try.prog.follows Departure.mixedOrders = true := by kernel_rfl
  have hcp3 : ∀ ty dc, (Builtin.copy_ #[22, 22] ty #[.slice (some ⟨b, i * 5, none⟩) (n + 1 - i) dc, .slice (some ⟨vb, 0, none⟩) 1 vc]).run Try.prog (w.drew.setRow b A.toArray) = .ok (goInt (1 : Nat)) ((w.drew.setRow b A.toArray).setRow b B.toArray) := fun ty dc =>
    hcp2 (w.drew.setRow b A.toArray) (setRow_heap _ _ _ _ _ _ hb') (by rw [setRow_other _ _ _ _ hvb]; exact hv) ty dc _ _ rfl rfl
  clear hA hB hcp2
  go_enter Try.func47, Try.ntmps47
  go_wp2_with (simp only [hov])
  go_region_law_o (refine step_copy_runI rfl _ _ 22 22 rfl (.slice (some ⟨b, (i + 1) * 5, none⟩) (n - i) (c - (i + 1))) (.slice (some ⟨b, i * 5, none⟩) (n + 1 - i) (c - i)) (by simp [Act.eval, Act.put]) (by simp [Act.eval, Act.put]) (hcp1 _ _ _ _ _ _ _ (by omega) rfl rfl rfl) ?_)
  go_wp2_with (at_builtin; refine wpList_copy_runI _ rfl _ _ 22 22 rfl _ _ rfl rfl (hcp3 _ _) ?_)
  go_ret
  exact ⟨rfl, rfl⟩
end Go.Proofs.Ytjkdpahaingjjaa.Ab
namespace Go.Proofs.Ytjkdpahaingjjaa.Ab
open Go Go.RowKit Go.Lib
set_option linter.unusedSimpArgs false
set_option maxHeartbeats 4000000
set_option maxRecDepth 100000
/-- append where there is room: the row. -/
theorem run_append_roomR {P : Program} (w : World) (t tx ty e : TypeId) (i : TypeInfo) (ht : P.underlying t = some (.slice e)) (hi : P.info? e = some i) (b sLen sCap : Nat) (x : Value) (n : Nat) (news : List Value) (hs : Src P i.size tx x n news w)
    (hroom : sLen + n ≤ sCap) (cur : Array Value) (tb : TypeId) (hb : w.heap[b]? = some (.cells cur tb (0, 0))) (hfit : sLen * i.size + news.length ≤ cur.size) :
    (Builtin.append_ #[t, tx] ty #[.slice (some ⟨b, 0, none⟩) sLen sCap, x]).run P w = .ok (.slice (some ⟨b, 0, none⟩) (sLen + n) sCap) (w.setRow b (cur.toList.take (sLen * i.size) ++ news ++ cur.toList.drop (sLen * i.size + news.length)).toArray) := by
  have hst := run_storeCells_at P b (sLen * i.size) tb news 0 cur w hb (by simpa using hfit) hs.one
  rcases hs.kind with ⟨e', hk⟩ | hk <;> simp [Builtin.append_, run_underlying ht, run_underlying hk, sizeOf, typeInfo, hi, hs.len, hroom, hs.cells, Addr.add_lit, hst]
def zSlot : Value := .agg #[.int .i64 0, .int .i64 0, .int .i64 0, .string ⟨#[]⟩, .bool false]
theorem slot_info : (Try.prog.info? t_api_Slot).map (fun i => (i.zero, i.size, i.bytes)) = some (some zSlot, 5, 48) := by kernel_rfl
theorem insert_end_room (b n c vb vc tb tv : Nat) (cur vcur : Array Value) (vs : List Value) (w : World) (hroom : n + 1 ≤ c) (hc63 : c ≤ maxLen)
    (hb : w.heap[b]? = some (.cells cur tb (0, 0))) (hcs : cur.size = c * 5)
    (hv : w.heap[vb]? = some (.cells vcur tv (0, 0))) (hvl : vs.length = 5) (hvs : ∀ (j : Nat) (v : Value), vs[j]? = some v → vcur[j]? = some v) (h1v : ∀ v ∈ vs, v.oneCell' = true) (B : List Value) (hB : B = cur.toList.take (n * 5) ++ vs ++ cur.toList.drop (n * 5 + 5)) :
    Calls Try.prog 47 #[.slice (some ⟨b, 0, none⟩) n c, .int .i64 n, .slice (some ⟨vb, 0, none⟩) 1 vc] w fun e w' =>
      e = .returned (.slice (some ⟨b, 0, none⟩) (n + 1) c) ∧ w' = w.setRow b B.toArray := by
  unfold maxLen at hc63
  have mixed : Try.prog.follows Departure.mixedOrders = true := by kernel_rfl
  obtain ⟨i0, hi0, hz0, hzs, hzb⟩ := info_parts slot_info
  have hsrc : Src Try.prog i0.size 22 (.slice (some ⟨vb, 0, none⟩) 1 vc) 1 vs w := Src.ofSlice w Try.underlying22 ⟨vb, 0, none⟩ 1 vc vs (by rw [hvl, hzs]) (fun j u hj => by
    rw [Addr.add_lit]
    have := hvs j u hj
    simp [World.cell?, hv, this]) h1v
  have hrun : ∀ ty, (Builtin.append_ #[22, 22] ty #[.slice (some ⟨b, 0, none⟩) n c, .slice (some ⟨vb, 0, none⟩) 1 vc]).run Try.prog w = .ok (.slice (some ⟨b, 0, none⟩) (n + 1) c) (w.setRow b B.toArray) := fun ty => by
    have h := run_append_roomR w 22 22 ty t_api_Slot i0 Try.underlying22 hi0 b n c _ 1 vs hsrc hroom cur tb hb (by rw [hzs, hvl]; omega)
    rw [hzs, hvl, ← hB] at h
    exact h
  clear hB
  go_enter Try.func47, Try.ntmps47
  go_wp2_with (at_builtin; refine Lib.wpList_append_run _ rfl _ _ _ _ rfl _ _ rfl rfl _ _ (hrun _) ?_)
  go_ret
  exact ⟨rfl, rfl⟩
theorem insert_end_grow (base : Option Addr) (n c vb vc tv : Nat) (cs : List Value) (vcur : Array Value) (vs : List Value) (w : World) (hnc : n ≤ c) (hroom : c < n + 1) (hbig : n ≤ 1000000) (hnil : base = none → n = 0)
    (hcl : cs.length = n * 5) (hcs : ∀ a, base = some a → ∀ (j : Nat) (v : Value), cs[j]? = some v → w.cell? (a.add j) = some v)
    (hv : w.heap[vb]? = some (.cells vcur tv (0, 0))) (hvl : vs.length = 5) (hvs : ∀ (j : Nat) (v : Value), vs[j]? = some v → vcur[j]? = some v) (h1v : ∀ v ∈ vs, v.oneCell' = true) :
    Calls Try.prog 47 #[.slice base n c, .int .i64 n, .slice (some ⟨vb, 0, none⟩) 1 vc] w fun e w' =>
      e = .returned (.slice (some ⟨w.heap.size, 0, none⟩) (n + 1) (grownCap w (n + 1) c t_api_Slot)) ∧
      w' = w.drew.alloc (.cells ((cs ++ vs).toArray ++ Builtin.zeroCells zSlot.cells (grownCap w (n + 1) c t_api_Slot - (n + 1))) t_api_Slot) := by
  have mixed : Try.prog.follows Departure.mixedOrders = true := by kernel_rfl
  obtain ⟨i0, hi0, hz0, hzs, hzb⟩ := info_parts slot_info
  have hsrc : Src Try.prog i0.size 22 (.slice (some ⟨vb, 0, none⟩) 1 vc) 1 vs w := Src.ofSlice w Try.underlying22 ⟨vb, 0, none⟩ 1 vc vs (by rw [hvl, hzs]) (fun j u hj => by
    rw [Addr.add_lit]
    have := hvs j u hj
    simp [World.cell?, hv, this]) h1v
  have hold : (Builtin.firstCells i0.size n (.slice base n c)).run Try.prog w.drew = .ok cs.toArray w.drew := by
    rw [hzs]
    cases base with
    | none =>
      have h0 := hnil rfl
      subst h0
      rw [List.length_eq_zero_iff.1 (by omega : cs.length = 0)]
      exact run_firstCells_none w.drew 5 0 0 c
    | some a => exact run_firstCells_some w.drew 5 n a n c cs hcl (fun j v hj => hcs a rfl j v hj)
  obtain ⟨ROW, hROW⟩ : ∃ ROW : Array Value, (cs ++ vs).toArray ++ Builtin.zeroCells zSlot.cells (grownCap w (n + 1) c t_api_Slot - (n + 1)) = ROW := ⟨_, rfl⟩
  rw [hROW]
  have hrun : ∀ ty, (Builtin.append_ #[22, 22] ty #[.slice base n c, .slice (some ⟨vb, 0, none⟩) 1 vc]).run Try.prog w = .ok (.slice (some ⟨w.heap.size, 0, none⟩) (n + 1) (grownCap w (n + 1) c t_api_Slot)) (w.drew.alloc (.cells ROW t_api_Slot)) := fun ty => by
    rw [← hROW]
    exact run_append_grow_src w 22 22 ty t_api_Slot i0 zSlot Try.underlying22 hi0 hz0 base n c cs hold _ 1 vs hsrc hroom (by omega) (by rw [hzb]; exact growslice_fits hroom (by omega))
  clear hROW
  go_enter Try.func47, Try.ntmps47
  cases base with
  | none =>
    have h0 := hnil rfl
    subst h0
    go_wp2_with (at_builtin; refine Lib.wpList_append_run _ rfl _ _ _ _ rfl _ _ rfl rfl _ _ (hrun _) ?_)
    go_ret
    exact ⟨rfl, rfl⟩
  | some a =>
    obtain ⟨ab, ao, asp⟩ := a
    go_wp2_with (at_builtin; refine Lib.wpList_append_run _ rfl _ _ _ _ rfl _ _ rfl rfl _ _ (hrun _) ?_)
    all_goals (go_ret; exact ⟨rfl, rfl⟩)
end Go.Proofs.Ytjkdpahaingjjaa.Ab
