/-
  slices.Insert at slots: at the end, and where there is no room. No claim is proved here.
-/
import Derived.Test.YtngjjiblmpjbjaaQIn2
namespace Go.Proofs.Ytngjjiblmpjbjaa.Ab
open Go Go.RowKit Go.Lib
set_option linter.unusedSimpArgs false
set_option maxHeartbeats 4000000
set_option maxRecDepth 100000
/-- append where there is room: the row. -/
theorem run_append_roomR {P : Program} (w : World) (t tx ty e : TypeId) (i : TypeInfo) (ht : P.underlying t = some (.slice e)) (hi : P.info? e = some i) (b sLen sCap : Nat) (x : Value) (n : Nat) (news : List Value) (hs : Src P i.size tx x n news w)
    (hroom : sLen + n ≤ sCap) (cur : Array Value) (tb : TypeId) (hb : w.heap[b]? = some (.cells cur tb (0, 0))) (hfit : sLen * i.size + news.length ≤ cur.size) :
    (Builtin.append_ #[t, tx] ty #[.slice (some ⟨b, 0, none⟩) sLen sCap, x]).run P w = .ok (.slice (some ⟨b, 0, none⟩) (sLen + n) sCap) (w.setRow b (cur.toList.take (sLen * i.size) ++ news ++ cur.toList.drop (sLen * i.size + news.length)).toArray) := by
  have hst := run_storeCells_at P b (sLen * i.size) tb news 0 cur w hb (by simpa using hfit) hs.one
  rcases hs.kind with ⟨e', hk⟩ | hk <;> simp [Builtin.append_, run_underlying ht, run_underlying hk, sizeOf, typeInfo, hi, hs.len, hroom, hs.cells, Addr.add_lit, hst]
def zSlot : Value := .agg #[.int .i64 0, .int .i64 0, .int .i64 0, .string ⟨#[]⟩, .bool false]
theorem slot_info : (Try.prog.info? t_api_Slot).map (fun i => (i.zero, i.size, i.bytes)) = some (some zSlot, 5, 48) := by kernel_rfl
theorem insert_end_room (b n c vb vc tb tv : Nat) (cur vcur : Array Value) (vs : List Value) (w : World) (hroom : n + 1 ≤ c) (hc63 : c ≤ maxLen)
    (hb : w.heap[b]? = some (.cells cur tb (0, 0))) (hcs : cur.size = c * 5)
    (hv : w.heap[vb]? = some (.cells vcur tv (0, 0))) (hvl : vs.length = 5) (hvs : ∀ (j : Nat) (v : Value), vs[j]? = some v → vcur[j]? = some v) (h1v : ∀ v ∈ vs, v.oneCell' = true) (B : List Value) (hB : B = cur.toList.take (n * 5) ++ vs ++ cur.toList.drop (n * 5 + 5)) :
    Calls Try.prog 15 #[.slice (some ⟨b, 0, none⟩) n c, .int .i64 n, .slice (some ⟨vb, 0, none⟩) 1 vc] w fun e w' =>
      e = .returned (.slice (some ⟨b, 0, none⟩) (n + 1) c) ∧ w' = w.setRow b B.toArray := by
  unfold maxLen at hc63
  have mixed : Try.prog.follows Departure.mixedOrders = true := by kernel_rfl
  obtain ⟨i0, hi0, hz0, hzs, hzb⟩ := info_parts slot_info
  have hsrc : Src Try.prog i0.size 22 (.slice (some ⟨vb, 0, none⟩) 1 vc) 1 vs w := Src.ofSlice w Try.underlying22 ⟨vb, 0, none⟩ 1 vc vs (by rw [hvl, hzs]) (fun j u hj => by
    rw [Addr.add_lit]
    have := hvs j u hj
    simp [World.cell?, hv, this]) h1v
  have hrun : ∀ ty, (Builtin.append_ #[22, 22] ty #[.slice (some ⟨b, 0, none⟩) n c, .slice (some ⟨vb, 0, none⟩) 1 vc]).run Try.prog w = .ok (.slice (some ⟨b, 0, none⟩) (n + 1) c) (w.setRow b B.toArray) := fun ty => by
    have h := run_append_roomR w 22 22 ty t_api_Slot i0 Try.underlying22 hi0 b n c _ 1 vs hsrc hroom cur tb hb (by rw [hzs, hvl]; omega)
    rw [hzs, hvl, ← hB] at h
    exact h
  clear hB
  go_enter Try.func15, Try.ntmps15
  go_wp2_with (at_builtin; refine Lib.wpList_append_run _ rfl _ _ _ _ rfl _ _ rfl rfl _ _ (hrun _) ?_)
  go_ret
  exact ⟨rfl, rfl⟩
theorem insert_end_grow (base : Option Addr) (n c vb vc tv : Nat) (cs : List Value) (vcur : Array Value) (vs : List Value) (w : World) (hnc : n ≤ c) (hroom : c < n + 1) (hbig : n ≤ 1000000) (hnil : base = none → n = 0)
    (hcl : cs.length = n * 5) (hcs : ∀ a, base = some a → ∀ (j : Nat) (v : Value), cs[j]? = some v → w.cell? (a.add j) = some v)
    (hv : w.heap[vb]? = some (.cells vcur tv (0, 0))) (hvl : vs.length = 5) (hvs : ∀ (j : Nat) (v : Value), vs[j]? = some v → vcur[j]? = some v) (h1v : ∀ v ∈ vs, v.oneCell' = true) :
    Calls Try.prog 15 #[.slice base n c, .int .i64 n, .slice (some ⟨vb, 0, none⟩) 1 vc] w fun e w' =>
      e = .returned (.slice (some ⟨w.heap.size, 0, none⟩) (n + 1) (grownCap w (n + 1) c t_api_Slot)) ∧
      w' = w.drew.alloc (.cells ((cs ++ vs).toArray ++ Builtin.zeroCells zSlot.cells (grownCap w (n + 1) c t_api_Slot - (n + 1))) t_api_Slot) := by
  have mixed : Try.prog.follows Departure.mixedOrders = true := by kernel_rfl
  obtain ⟨i0, hi0, hz0, hzs, hzb⟩ := info_parts slot_info
  have hsrc : Src Try.prog i0.size 22 (.slice (some ⟨vb, 0, none⟩) 1 vc) 1 vs w := Src.ofSlice w Try.underlying22 ⟨vb, 0, none⟩ 1 vc vs (by rw [hvl, hzs]) (fun j u hj => by
    rw [Addr.add_lit]
    have := hvs j u hj
    simp [World.cell?, hv, this]) h1v
  have hold : (Builtin.firstCells i0.size n (.slice base n c)).run Try.prog w.drew = .ok cs.toArray w.drew := by
    rw [hzs]
    cases base with
    | none =>
      have h0 := hnil rfl
      subst h0
      rw [List.length_eq_zero_iff.1 (by omega : cs.length = 0)]
      exact run_firstCells_none w.drew 5 0 0 c
    | some a => exact run_firstCells_some w.drew 5 n a n c cs hcl (fun j v hj => hcs a rfl j v hj)
  obtain ⟨ROW, hROW⟩ : ∃ ROW : Array Value, (cs ++ vs).toArray ++ Builtin.zeroCells zSlot.cells (grownCap w (n + 1) c t_api_Slot - (n + 1)) = ROW := ⟨_, rfl⟩
  rw [hROW]
  have hrun : ∀ ty, (Builtin.append_ #[22, 22] ty #[.slice base n c, .slice (some ⟨vb, 0, none⟩) 1 vc]).run Try.prog w = .ok (.slice (some ⟨w.heap.size, 0, none⟩) (n + 1) (grownCap w (n + 1) c t_api_Slot)) (w.drew.alloc (.cells ROW t_api_Slot)) := fun ty => by
    rw [← hROW]
    exact run_append_grow_src w 22 22 ty t_api_Slot i0 zSlot Try.underlying22 hi0 hz0 base n c cs hold _ 1 vs hsrc hroom (by omega) (by rw [hzb]; exact growslice_fits hroom (by omega))
  clear hROW
  go_enter Try.func15, Try.ntmps15
  cases base with
  | none =>
    have h0 := hnil rfl
    subst h0
    go_wp2_with (at_builtin; refine Lib.wpList_append_run _ rfl _ _ _ _ rfl _ _ rfl rfl _ _ (hrun _) ?_)
    go_ret
    exact ⟨rfl, rfl⟩
  | some a =>
    obtain ⟨ab, ao, asp⟩ := a
    go_wp2_with (at_builtin; refine Lib.wpList_append_run _ rfl _ _ _ _ rfl _ _ rfl rfl _ _ (hrun _) ?_)
    all_goals (go_ret; exact ⟨rfl, rfl⟩)
end Go.Proofs.Ytngjjiblmpjbjaa.Ab
