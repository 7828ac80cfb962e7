/-
  report.Text: what it hands back. No claim is proved here.
-/
import Derived.Test.YtdfdiglnpekcpaaDoorN7
namespace Go.Proofs.YtdfdiglnpekcpaaDoor.Ab
open Go Go.RowKit
set_option linter.unusedSimpArgs false
def sureL (su : Int) : Str := if 0 < su then lineS [115, 117, 114, 101] [su] else []
def lastL (n la : Int) : Str := if 0 < n then lineS ([108, 97, 115, 116, 32] ++ nameS la) [] else []
def bodyL (n tr tu su la : Int) : Str := lineS [101, 118, 101, 110, 116, 115] [n] ++ lineS [116, 114, 117, 101] [tr] ++ lineS [116, 117, 114, 110, 115] [tu] ++ sureL su ++ lastL n la
set_option maxHeartbeats 2000000 in
set_option maxRecDepth 100000 in
theorem text_walk (w : World) (F : Nat → Prop) (hg : Good w F G1) (o : Oc) (hl : o.vs.length ≤ 200) (h14 : ∀ v ∈ o.vs, 1 ≤ v ∧ v ≤ 4) (i1 : i64 o.err) (i2 : i64 o.line) (i3 : i64 o.col) (vs : Value) (hv : Rd w F noNames (ivs o.vs) vs) (n tr tu su la : Int)
    (hn : n = o.vs.length) (hc : cntAt o.vs o.vs.length = ⟨tr, tu, su, la⟩) :
    Calls Tryd.prog 9 #[.agg #[vs, .int .i64 o.part, .int .i64 o.err, .int .i64 o.line, .int .i64 o.col]] w fun e w' => e = .returned (.string ⟨(bodyL n tr tu su la ++ lineE o.part o.err o.line o.col).toArray⟩) ∧ Below w.heap.size w w' := by
  have hmf : ∀ (fn : Fn) (first cap : Array Value) (w : World), (Instr.makeFunc fn first cap).run Tryd.prog w = .ok (.func fn first cap) w := fun _ _ _ _ => rfl
  have hb4 : Below w.heap.size w ((((w.alloc (.cells #[vs, .int .i64 o.part, .int .i64 o.err, .int .i64 o.line, .int .i64 o.col] 27)).alloc (.cells #[.string ⟨#[]⟩] 9)).alloc (.cells #[.pointer none, .slice none 0 0] 59)).alloc (.cells #[.pointer (some ⟨w.heap.size + 1 + 1, 0, none⟩)] 53)) := ((((Below.refl _ w).alloc (Nat.le_refl _) _).alloc (by simp) _).alloc (by simp; omega) _).alloc (by simp; omega) _
  have hv4 : Rd ((((w.alloc (.cells #[vs, .int .i64 o.part, .int .i64 o.err, .int .i64 o.line, .int .i64 o.col] 27)).alloc (.cells #[.string ⟨#[]⟩] 9)).alloc (.cells #[.pointer none, .slice none 0 0] 59)).alloc (.cells #[.pointer (some ⟨w.heap.size + 1 + 1, 0, none⟩)] 53)) F noNames (ivs o.vs) vs := hv.mono (fun b h => hb4.block b (hg.1 b h)) (fun _ h => h)
  have hOf := Of_calls (good_below hg (Nat.le_refl _) hb4) o.vs (by omega) vs hv4
  rw [hc, ← hn] at hOf
  dsimp only at hOf
  have hI : ∀ W5 : World, Below ((((w.alloc (.cells #[vs, .int .i64 o.part, .int .i64 o.err, .int .i64 o.line, .int .i64 o.col] 27)).alloc (.cells #[.string ⟨#[]⟩] 9)).alloc (.cells #[.pointer none, .slice none 0 0] 59)).alloc (.cells #[.pointer (some ⟨w.heap.size + 1 + 1, 0, none⟩)] 53)).heap.size ((((w.alloc (.cells #[vs, .int .i64 o.part, .int .i64 o.err, .int .i64 o.line, .int .i64 o.col] 27)).alloc (.cells #[.string ⟨#[]⟩] 9)).alloc (.cells #[.pointer none, .slice none 0 0] 59)).alloc (.cells #[.pointer (some ⟨w.heap.size + 1 + 1, 0, none⟩)] 53)) W5 → W5.heap.size ≠ w.heap.size + 1 + 1 ∧ W5.heap.size ≠ w.heap.size + 1 ∧ Inv w vs o W5.heap.size n tr tu su la [] (W5.alloc (.cells #[.int .i64 n, .int .i64 tr, .int .i64 tu, .int .i64 su, .int .i64 la] 31)) := fun W5 hb5 => by
    have hsz := hb5.size
    simp only [World.size_alloc] at hsz
    have old : ∀ k y, k < w.heap.size + 1 + 1 + 1 + 1 → ((((w.alloc (.cells #[vs, .int .i64 o.part, .int .i64 o.err, .int .i64 o.line, .int .i64 o.col] 27)).alloc (.cells #[.string ⟨#[]⟩] 9)).alloc (.cells #[.pointer none, .slice none 0 0] 59)).alloc (.cells #[.pointer (some ⟨w.heap.size + 1 + 1, 0, none⟩)] 53)).heap[k]? = some y → (W5.alloc (.cells #[.int .i64 n, .int .i64 tr, .int .i64 tu, .int .i64 su, .int .i64 la] 31)).heap[k]? = some y := fun k y hk h => heap_alloc_old _ _ (by rw [hb5.block k (by simpa using hk)]; exact h)
    have f0 := heap_alloc_new w (.cells #[vs, .int .i64 o.part, .int .i64 o.err, .int .i64 o.line, .int .i64 o.col] 27)
    have f1 := heap_alloc_new (w.alloc (.cells #[vs, .int .i64 o.part, .int .i64 o.err, .int .i64 o.line, .int .i64 o.col] 27)) (.cells #[.string ⟨#[]⟩] 9)
    have f2 := heap_alloc_new ((w.alloc (.cells #[vs, .int .i64 o.part, .int .i64 o.err, .int .i64 o.line, .int .i64 o.col] 27)).alloc (.cells #[.string ⟨#[]⟩] 9)) (.cells #[.pointer none, .slice none 0 0] 59)
    have f3 := heap_alloc_new (((w.alloc (.cells #[vs, .int .i64 o.part, .int .i64 o.err, .int .i64 o.line, .int .i64 o.col] 27)).alloc (.cells #[.string ⟨#[]⟩] 9)).alloc (.cells #[.pointer none, .slice none 0 0] 59)) (.cells #[.pointer (some ⟨w.heap.size + 1 + 1, 0, none⟩)] 53)
    simp only [World.size_alloc] at f1 f2 f3
    refine ⟨by omega, by omega, .inl ⟨by omega, .slice none 0 0, old _ _ (by omega) (heap_alloc_old _ _ f2), ⟨rfl, .inl ⟨rfl, rfl⟩⟩, by simp [Value.ownBlock]⟩, (hb4.trans (hb5.mono (by simp; omega))).alloc (by omega) _, old _ _ (by omega) (heap_alloc_old _ _ (heap_alloc_old _ _ (heap_alloc_old _ _ f0))), old _ _ (by omega) (heap_alloc_old _ _ (heap_alloc_old _ _ f1)), old _ _ (by omega) f3, heap_alloc_new W5 _⟩
  have hn64 : i64 n := by unfold i64; omega
  have b1 := cntAt_tr o.vs o.vs.length
  have b2 := cntAt_tu o.vs o.vs.length
  have b3 := cntAt_su o.vs o.vs.length
  have b4 := cntAt_la o.vs h14
  rw [hc] at b1 b2 b3 b4
  dsimp only at b1 b2 b3 b4
  have htr : i64 tr := by unfold i64; omega
  have htu : i64 tu := by unfold i64; omega
  have hsu : i64 su := by unfold i64; omega
  have hla : 0 < n → 1 ≤ la ∧ la ≤ 4 := fun h => b4 (by omega)
  have lw : ∀ (word : Str) (ns : List Int), word.length ≤ 20 → ns.length ≤ 1 → (∀ x ∈ ns, i64 x) → (lineS word ns).length ≤ 50 := fun word ns h1 h2 h3 => by
    have := nums_len h3
    unfold lineS
    simp only [List.length_append, List.length_cons, List.length_nil]
    omega
  have one : ∀ x y : Int, i64 x → y ∈ [x] → i64 y := fun x y h hy => by
    rw [List.mem_singleton] at hy
    exact hy ▸ h
  have LE := lw [101, 118, 101, 110, 116, 115] [n] (by decide) (by simp) (fun y => one n y hn64)
  have LT := lw [116, 114, 117, 101] [tr] (by decide) (by simp) (fun y => one tr y htr)
  have LU := lw [116, 117, 114, 110, 115] [tu] (by decide) (by simp) (fun y => one tu y htu)
  have LS := lw [115, 117, 114, 101] [su] (by decide) (by simp) (fun y => one su y hsu)
  have LL : 0 < n → (lineS ([108, 97, 115, 116, 32] ++ nameS la) []).length ≤ 50 := fun h => lw _ [] (by have := name_len la (hla h); simp only [List.length_append, List.length_cons, List.length_nil]; omega) (by simp) (fun y hy => by cases hy)
  have hne : ∀ (ns : List Int) (rest : Str), lineS [101, 118, 101, 110, 116, 115] ns ++ rest ≠ [] := fun ns rest h => by
    have := congrArg List.length h
    simp [lineS] at this
  clear b1 b2 b3 b4 lw one hn hc
  by_cases g1 : 0 < su
  · by_cases g2 : 0 < n
    · have e1 : sureL su = lineS [115, 117, 114, 101] [su] := if_pos g1
      have e2 : lastL n la = lineS ([108, 97, 115, 116, 32] ++ nameS la) [] := if_pos g2
      have hnm := fun (W : World) (hb : Below w.heap.size w W) => (verdict_Name_pc la (hla g2)).to_str (good_below hg (Nat.le_refl _) hb) (argsR_cons (Rd.int _ _ _) argsR_nil)
      have lnm := name_len la (hla g2)
      have hcat : ¬ 9223372036854775807 < 5 + (nameS la).length := by omega
      have hcat2 : 5 + (nameS la).length ≤ 9223372036854775807 := by omega
      have LL := LL g2
      go_enter_defers Tryd.func9, Tryd.ntmps9
      go_wp2_with (go_at_call 7; refine hOf.mono ?_; rintro e W5 ⟨rfl, hb5⟩; obtain ⟨m1, m2, hI0⟩ := hI W5 hb5; have q0 := hI0.cp; obtain ⟨q1, q2, q3, q4, q5⟩ := hI0.cc)
      refine (hI0.line1 hg m1 (by simp only [List.length_append, List.length_nil]; omega) [101, 118, 101, 110, 116, 115] (by decide) n hn64 _ ?_).mono ?_
      · first | rfl | (simp only [World.size_alloc])
      rintro e W6 ⟨rfl, hI1⟩
      have q0 := hI1.cp
      obtain ⟨q1, q2, q3, q4, q5⟩ := hI1.cc
      go_wp2_with fail
      refine (hI1.line1 hg m1 (by simp only [List.length_append, List.length_nil]; omega) [116, 114, 117, 101] (by decide) tr htr _ ?_).mono ?_
      · first | rfl | (simp only [World.size_alloc])
      rintro e W7 ⟨rfl, hI2⟩
      have q0 := hI2.cp
      obtain ⟨q1, q2, q3, q4, q5⟩ := hI2.cc
      go_wp2_with fail
      refine (hI2.line1 hg m1 (by simp only [List.length_append, List.length_nil]; omega) [116, 117, 114, 110, 115] (by decide) tu htu _ ?_).mono ?_
      · first | rfl | (simp only [World.size_alloc])
      rintro e W8 ⟨rfl, hI3⟩
      have q0 := hI3.cp
      obtain ⟨q1, q2, q3, q4, q5⟩ := hI3.cc
      go_wp2_with fail
      refine (hI3.line1 hg m1 (by simp only [List.length_append, List.length_nil]; omega) [115, 117, 114, 101] (by decide) su hsu _ ?_).mono ?_
      · first | rfl | (simp only [World.size_alloc])
      rintro e W9 ⟨rfl, hI4⟩
      have q0 := hI4.cp
      obtain ⟨q1, q2, q3, q4, q5⟩ := hI4.cc
      have hId := hI4.drew
      have hJ := fun (Wa : World) (hba : Below W9.drew.heap.size W9.drew Wa) => hId.rest m1 (builder_below hId.bl hba) (hId.be.trans (hba.mono hId.be.size)) (Rest.below (Nat.le_refl _) hba)
      have hLn : ∀ Wa : World, Inv w vs o W5.heap.size n tr tu su la (((([] ++ lineS [101, 118, 101, 110, 116, 115] [n]) ++ lineS [116, 114, 117, 101] [tr]) ++ lineS [116, 117, 114, 110, 115] [tu]) ++ lineS [115, 117, 114, 101] [su]) Wa → Calls Tryd.prog 20 #[.pointer (some ⟨w.heap.size + 1 + 1, 0, none⟩), .string (⟨#[108, 97, 115, 116, 32]⟩ ++ ⟨(nameS la).toArray⟩), .slice none 0 0] Wa fun e W' => e = .returned (.tuple #[]) ∧ Inv w vs o W5.heap.size n tr tu su la ((((([] ++ lineS [101, 118, 101, 110, 116, 115] [n]) ++ lineS [116, 114, 117, 101] [tr]) ++ lineS [116, 117, 114, 110, 115] [tu]) ++ lineS [115, 117, 114, 101] [su]) ++ lineS ([108, 97, 115, 116, 32] ++ nameS la) []) W' := fun Wa h => by
        rw [bytes_app [108, 97, 115, 116, 32]]
        exact h.line0 hg m1 (by simp only [List.length_append, List.length_nil]; omega) ([108, 97, 115, 116, 32] ++ nameS la) (by simp only [List.length_append, List.length_cons, List.length_nil]; omega)
      go_wp2
      go_region_held3 (fun W => W.cell? ⟨w.heap.size + 1 + 1 + 1, 0, none⟩ = some (.pointer (some ⟨w.heap.size + 1 + 1, 0, none⟩)) ∧ W.cell? ⟨W5.heap.size, 4, none⟩ = some (.int .i64 la)) (first | exact ⟨hId.cp, hId.cc.2.2.2.2⟩ | exact ⟨(hJ _ hba).cp, (hJ _ hba).cc.2.2.2.2⟩ | exact ⟨hI5.cp, hI5.cc.2.2.2.2⟩) (first | (go_at_call 22; refine (hnm _ hId.be).mono ?_; rintro e Wa ⟨rfl, hba⟩) | (go_at_call 20; refine (hLn _ (hJ _ hba)).mono ?_; rintro e W10 ⟨rfl, hI5⟩))
      have qx : W10.cell? ⟨w.heap.size + 1, 0, none⟩ = some (.string ⟨#[]⟩) := by rw [cell_cells hI5.hx]; rfl
      have qf : W10.frozen? ⟨w.heap.size + 1, 0, none⟩ = false := Lib.frozen_of_heap hI5.hx 0
      go_wp2
      have hK := hI5.set m2
      refine leaves_cons (f := 19) (args := #[.pointer (some ⟨w.heap.size, 0, none⟩), .pointer (some ⟨w.heap.size + 1 + 1 + 1, 0, none⟩), .pointer (some ⟨w.heap.size + 1, 0, none⟩)]) (by simp) (by simp [go_sem]) ?_
      refine (text1_walk w F hg (w.heap.size + 1 + 1) w.heap.size (w.heap.size + 1 + 1 + 1) (w.heap.size + 1) _ vs o.part o.err o.line o.col (.string ⟨#[]⟩) _ hK.be hK.bl hK.ho hK.hp hK.hx (by omega) (by omega) (by omega) (by omega) i1 i2 i3 ?_ ?_).mono ?_
      · simp only [List.nil_append, List.append_assoc]; exact hne _ _
      · simp only [List.length_append, List.length_nil]; omega
      rintro e u' w'' ⟨rfl, rfl, hcx, hbx⟩
      simp [Leaves, settle, results, Tryd.results9, go_sem, hcx]
      refine ⟨?_, hbx⟩
      rw [bodyL, e1, e2]
      simp
    · have e1 : sureL su = lineS [115, 117, 114, 101] [su] := if_pos g1
      have e2 : lastL n la = [] := if_neg g2
      go_enter_defers Tryd.func9, Tryd.ntmps9
      go_wp2_with (go_at_call 7; refine hOf.mono ?_; rintro e W5 ⟨rfl, hb5⟩; obtain ⟨m1, m2, hI0⟩ := hI W5 hb5; have q0 := hI0.cp; obtain ⟨q1, q2, q3, q4, q5⟩ := hI0.cc)
      refine (hI0.line1 hg m1 (by simp only [List.length_append, List.length_nil]; omega) [101, 118, 101, 110, 116, 115] (by decide) n hn64 _ ?_).mono ?_
      · first | rfl | (simp only [World.size_alloc])
      rintro e W6 ⟨rfl, hI1⟩
      have q0 := hI1.cp
      obtain ⟨q1, q2, q3, q4, q5⟩ := hI1.cc
      go_wp2_with fail
      refine (hI1.line1 hg m1 (by simp only [List.length_append, List.length_nil]; omega) [116, 114, 117, 101] (by decide) tr htr _ ?_).mono ?_
      · first | rfl | (simp only [World.size_alloc])
      rintro e W7 ⟨rfl, hI2⟩
      have q0 := hI2.cp
      obtain ⟨q1, q2, q3, q4, q5⟩ := hI2.cc
      go_wp2_with fail
      refine (hI2.line1 hg m1 (by simp only [List.length_append, List.length_nil]; omega) [116, 117, 114, 110, 115] (by decide) tu htu _ ?_).mono ?_
      · first | rfl | (simp only [World.size_alloc])
      rintro e W8 ⟨rfl, hI3⟩
      have q0 := hI3.cp
      obtain ⟨q1, q2, q3, q4, q5⟩ := hI3.cc
      go_wp2_with fail
      refine (hI3.line1 hg m1 (by simp only [List.length_append, List.length_nil]; omega) [115, 117, 114, 101] (by decide) su hsu _ ?_).mono ?_
      · first | rfl | (simp only [World.size_alloc])
      rintro e W9 ⟨rfl, hI4⟩
      have q0 := hI4.cp
      obtain ⟨q1, q2, q3, q4, q5⟩ := hI4.cc
      have qx : W9.cell? ⟨w.heap.size + 1, 0, none⟩ = some (.string ⟨#[]⟩) := by rw [cell_cells hI4.hx]; rfl
      have qf : W9.frozen? ⟨w.heap.size + 1, 0, none⟩ = false := Lib.frozen_of_heap hI4.hx 0
      go_wp2
      have hK := hI4.set m2
      refine leaves_cons (f := 19) (args := #[.pointer (some ⟨w.heap.size, 0, none⟩), .pointer (some ⟨w.heap.size + 1 + 1 + 1, 0, none⟩), .pointer (some ⟨w.heap.size + 1, 0, none⟩)]) (by simp) (by simp [go_sem]) ?_
      refine (text1_walk w F hg (w.heap.size + 1 + 1) w.heap.size (w.heap.size + 1 + 1 + 1) (w.heap.size + 1) _ vs o.part o.err o.line o.col (.string ⟨#[]⟩) _ hK.be hK.bl hK.ho hK.hp hK.hx (by omega) (by omega) (by omega) (by omega) i1 i2 i3 ?_ ?_).mono ?_
      · simp only [List.nil_append, List.append_assoc]; exact hne _ _
      · simp only [List.length_append, List.length_nil]; omega
      rintro e u' w'' ⟨rfl, rfl, hcx, hbx⟩
      simp [Leaves, settle, results, Tryd.results9, go_sem, hcx]
      refine ⟨?_, hbx⟩
      rw [bodyL, e1, e2]
      simp
  · by_cases g2 : 0 < n
    · have e1 : sureL su = [] := if_neg g1
      have e2 : lastL n la = lineS ([108, 97, 115, 116, 32] ++ nameS la) [] := if_pos g2
      have hnm := fun (W : World) (hb : Below w.heap.size w W) => (verdict_Name_pc la (hla g2)).to_str (good_below hg (Nat.le_refl _) hb) (argsR_cons (Rd.int _ _ _) argsR_nil)
      have lnm := name_len la (hla g2)
      have hcat : ¬ 9223372036854775807 < 5 + (nameS la).length := by omega
      have hcat2 : 5 + (nameS la).length ≤ 9223372036854775807 := by omega
      have LL := LL g2
      go_enter_defers Tryd.func9, Tryd.ntmps9
      go_wp2_with (go_at_call 7; refine hOf.mono ?_; rintro e W5 ⟨rfl, hb5⟩; obtain ⟨m1, m2, hI0⟩ := hI W5 hb5; have q0 := hI0.cp; obtain ⟨q1, q2, q3, q4, q5⟩ := hI0.cc)
      refine (hI0.line1 hg m1 (by simp only [List.length_append, List.length_nil]; omega) [101, 118, 101, 110, 116, 115] (by decide) n hn64 _ ?_).mono ?_
      · first | rfl | (simp only [World.size_alloc])
      rintro e W6 ⟨rfl, hI1⟩
      have q0 := hI1.cp
      obtain ⟨q1, q2, q3, q4, q5⟩ := hI1.cc
      go_wp2_with fail
      refine (hI1.line1 hg m1 (by simp only [List.length_append, List.length_nil]; omega) [116, 114, 117, 101] (by decide) tr htr _ ?_).mono ?_
      · first | rfl | (simp only [World.size_alloc])
      rintro e W7 ⟨rfl, hI2⟩
      have q0 := hI2.cp
      obtain ⟨q1, q2, q3, q4, q5⟩ := hI2.cc
      go_wp2_with fail
      refine (hI2.line1 hg m1 (by simp only [List.length_append, List.length_nil]; omega) [116, 117, 114, 110, 115] (by decide) tu htu _ ?_).mono ?_
      · first | rfl | (simp only [World.size_alloc])
      rintro e W8 ⟨rfl, hI3⟩
      have q0 := hI3.cp
      obtain ⟨q1, q2, q3, q4, q5⟩ := hI3.cc
      have hId := hI3.drew
      have hJ := fun (Wa : World) (hba : Below W8.drew.heap.size W8.drew Wa) => hId.rest m1 (builder_below hId.bl hba) (hId.be.trans (hba.mono hId.be.size)) (Rest.below (Nat.le_refl _) hba)
      have hLn : ∀ Wa : World, Inv w vs o W5.heap.size n tr tu su la ((([] ++ lineS [101, 118, 101, 110, 116, 115] [n]) ++ lineS [116, 114, 117, 101] [tr]) ++ lineS [116, 117, 114, 110, 115] [tu]) Wa → Calls Tryd.prog 20 #[.pointer (some ⟨w.heap.size + 1 + 1, 0, none⟩), .string (⟨#[108, 97, 115, 116, 32]⟩ ++ ⟨(nameS la).toArray⟩), .slice none 0 0] Wa fun e W' => e = .returned (.tuple #[]) ∧ Inv w vs o W5.heap.size n tr tu su la (((([] ++ lineS [101, 118, 101, 110, 116, 115] [n]) ++ lineS [116, 114, 117, 101] [tr]) ++ lineS [116, 117, 114, 110, 115] [tu]) ++ lineS ([108, 97, 115, 116, 32] ++ nameS la) []) W' := fun Wa h => by
        rw [bytes_app [108, 97, 115, 116, 32]]
        exact h.line0 hg m1 (by simp only [List.length_append, List.length_nil]; omega) ([108, 97, 115, 116, 32] ++ nameS la) (by simp only [List.length_append, List.length_cons, List.length_nil]; omega)
      go_wp2
      go_region_held3 (fun W => W.cell? ⟨w.heap.size + 1 + 1 + 1, 0, none⟩ = some (.pointer (some ⟨w.heap.size + 1 + 1, 0, none⟩)) ∧ W.cell? ⟨W5.heap.size, 4, none⟩ = some (.int .i64 la)) (first | exact ⟨hId.cp, hId.cc.2.2.2.2⟩ | exact ⟨(hJ _ hba).cp, (hJ _ hba).cc.2.2.2.2⟩ | exact ⟨hI4.cp, hI4.cc.2.2.2.2⟩) (first | (go_at_call 22; refine (hnm _ hId.be).mono ?_; rintro e Wa ⟨rfl, hba⟩) | (go_at_call 20; refine (hLn _ (hJ _ hba)).mono ?_; rintro e W9 ⟨rfl, hI4⟩))
      have qx : W9.cell? ⟨w.heap.size + 1, 0, none⟩ = some (.string ⟨#[]⟩) := by rw [cell_cells hI4.hx]; rfl
      have qf : W9.frozen? ⟨w.heap.size + 1, 0, none⟩ = false := Lib.frozen_of_heap hI4.hx 0
      go_wp2
      have hK := hI4.set m2
      refine leaves_cons (f := 19) (args := #[.pointer (some ⟨w.heap.size, 0, none⟩), .pointer (some ⟨w.heap.size + 1 + 1 + 1, 0, none⟩), .pointer (some ⟨w.heap.size + 1, 0, none⟩)]) (by simp) (by simp [go_sem]) ?_
      refine (text1_walk w F hg (w.heap.size + 1 + 1) w.heap.size (w.heap.size + 1 + 1 + 1) (w.heap.size + 1) _ vs o.part o.err o.line o.col (.string ⟨#[]⟩) _ hK.be hK.bl hK.ho hK.hp hK.hx (by omega) (by omega) (by omega) (by omega) i1 i2 i3 ?_ ?_).mono ?_
      · simp only [List.nil_append, List.append_assoc]; exact hne _ _
      · simp only [List.length_append, List.length_nil]; omega
      rintro e u' w'' ⟨rfl, rfl, hcx, hbx⟩
      simp [Leaves, settle, results, Tryd.results9, go_sem, hcx]
      refine ⟨?_, hbx⟩
      rw [bodyL, e1, e2]
      simp
    · have e1 : sureL su = [] := if_neg g1
      have e2 : lastL n la = [] := if_neg g2
      go_enter_defers Tryd.func9, Tryd.ntmps9
      go_wp2_with (go_at_call 7; refine hOf.mono ?_; rintro e W5 ⟨rfl, hb5⟩; obtain ⟨m1, m2, hI0⟩ := hI W5 hb5; have q0 := hI0.cp; obtain ⟨q1, q2, q3, q4, q5⟩ := hI0.cc)
      refine (hI0.line1 hg m1 (by simp only [List.length_append, List.length_nil]; omega) [101, 118, 101, 110, 116, 115] (by decide) n hn64 _ ?_).mono ?_
      · first | rfl | (simp only [World.size_alloc])
      rintro e W6 ⟨rfl, hI1⟩
      have q0 := hI1.cp
      obtain ⟨q1, q2, q3, q4, q5⟩ := hI1.cc
      go_wp2_with fail
      refine (hI1.line1 hg m1 (by simp only [List.length_append, List.length_nil]; omega) [116, 114, 117, 101] (by decide) tr htr _ ?_).mono ?_
      · first | rfl | (simp only [World.size_alloc])
      rintro e W7 ⟨rfl, hI2⟩
      have q0 := hI2.cp
      obtain ⟨q1, q2, q3, q4, q5⟩ := hI2.cc
      go_wp2_with fail
      refine (hI2.line1 hg m1 (by simp only [List.length_append, List.length_nil]; omega) [116, 117, 114, 110, 115] (by decide) tu htu _ ?_).mono ?_
      · first | rfl | (simp only [World.size_alloc])
      rintro e W8 ⟨rfl, hI3⟩
      have q0 := hI3.cp
      obtain ⟨q1, q2, q3, q4, q5⟩ := hI3.cc
      have qx : W8.cell? ⟨w.heap.size + 1, 0, none⟩ = some (.string ⟨#[]⟩) := by rw [cell_cells hI3.hx]; rfl
      have qf : W8.frozen? ⟨w.heap.size + 1, 0, none⟩ = false := Lib.frozen_of_heap hI3.hx 0
      go_wp2
      have hK := hI3.set m2
      refine leaves_cons (f := 19) (args := #[.pointer (some ⟨w.heap.size, 0, none⟩), .pointer (some ⟨w.heap.size + 1 + 1 + 1, 0, none⟩), .pointer (some ⟨w.heap.size + 1, 0, none⟩)]) (by simp) (by simp [go_sem]) ?_
      refine (text1_walk w F hg (w.heap.size + 1 + 1) w.heap.size (w.heap.size + 1 + 1 + 1) (w.heap.size + 1) _ vs o.part o.err o.line o.col (.string ⟨#[]⟩) _ hK.be hK.bl hK.ho hK.hp hK.hx (by omega) (by omega) (by omega) (by omega) i1 i2 i3 ?_ ?_).mono ?_
      · simp only [List.nil_append, List.append_assoc]; exact hne _ _
      · simp only [List.length_append, List.length_nil]; omega
      rintro e u' w'' ⟨rfl, rfl, hcx, hbx⟩
      simp [Leaves, settle, results, Tryd.results9, go_sem, hcx]
      refine ⟨?_, hbx⟩
      rw [bodyL, e1, e2]
      simp
end Go.Proofs.YtdfdiglnpekcpaaDoor.Ab
