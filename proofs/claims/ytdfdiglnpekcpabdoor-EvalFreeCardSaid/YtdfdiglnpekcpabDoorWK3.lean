/-
  errors.As at an expression's error, errors.Is at its number: the walks. No claim is proved here.
-/
import Derived.Test.YtdfdiglnpekcpabDoorWK2
import Derived.Test.YtdfdiglnpekcpabDoorWAbPanA
namespace Go.Proofs.YtdfdiglnpekcpabDoor.Ab
open Go Go.RowKit Go.Extern.Stop Go.Stop Go.Extern
set_option linter.unusedSimpArgs false
set_option maxHeartbeats 4000000
set_option maxRecDepth 100000
abbrev asWorld (w : World) (b : Nat) (_x _y : Value) : World := ((w.alloc (.cells #[.pointer (some ⟨b, 0, none⟩)] tPW)).alloc (.cells #[.pointer (some ⟨hB, tPW, none⟩), .pointer (some ⟨w.heap.size, 0, none⟩), .int .u64 150] tRv)).alloc (.cells #[.pointer (some ⟨hB, tPW, none⟩), .pointer (some ⟨w.heap.size, 0, none⟩), .int .u64 150] tRv)
theorem setW (b c : Nat) (x y x0 y0 : Value) (W : World) (h1 : x.oneCell' = true) (h2 : y.oneCell' = true) (hc0 : W.cell? ⟨c, 0, none⟩ = some x) (hc1 : W.cell? ⟨c, 1, none⟩ = some y) (ht0 : W.cell? ⟨b, 0, none⟩ = some x0) (ht1 : W.cell? ⟨b, 1, none⟩ = some y0) (hf0 : W.frozen? ⟨b, 0, none⟩ = false) (hf1 : W.frozen? ⟨b, 1, none⟩ = false) :
    (ReflectliteValue.set #[.agg #[.pointer (some ⟨hB, tW, none⟩), .pointer (some ⟨b, 0, none⟩), .int .u64 409], .agg #[.pointer (some ⟨hB, tW, none⟩), .pointer (some ⟨c, 0, none⟩), .int .u64 153]]).run Tryd.prog W = .ok (.tuple #[]) ((W.setCell ⟨b, 0, none⟩ x).setCell ⟨b, 1, none⟩ y) := by
  have p1 : (ReflectliteValue.parts (.agg #[.pointer (some ⟨hB, tW, none⟩), .pointer (some ⟨b, 0, none⟩), .int .u64 409])).run Tryd.prog W = .ok (some (tW, ⟨b, 0, none⟩, 409)) W := by kernel_rfl
  have p2 : (ReflectliteValue.parts (.agg #[.pointer (some ⟨hB, tW, none⟩), .pointer (some ⟨c, 0, none⟩), .int .u64 153])).run Tryd.prog W = .ok (some (tW, ⟨c, 0, none⟩, 153)) W := by kernel_rfl
  have p3 : ∀ w : World, (Rtype.directlyAssignable tW tW).run Tryd.prog w = .ok true w := fun w => by kernel_rfl
  have p4 : ∀ w : World, (isAgg tW).run Tryd.prog w = .ok true w := fun w => by kernel_rfl
  have p5 : ∀ w : World, (sizeOf tW).run Tryd.prog w = .ok 2 w := fun w => by kernel_rfl
  have hl : (loadVar tW ⟨c, 0, none⟩).run Tryd.prog W = .ok (.agg #[x, y]) W := by
    have hc : (loadCells ⟨c, 0, none⟩ 2).run Tryd.prog W = .ok #[x, y] W := run_loadCells_list (w := W) (P := Tryd.prog) ⟨c, 0, none⟩ [x, y] (fun j v hj => by
      match j, hj with
      | 0, hj => cases hj; exact hc0
      | 1, hj => cases hj; exact hc1)
    unfold loadVar
    simp only [Sem.run_bind, p4, Result.andThen, if_true, p5, hc, Sem.run_pure]
  have s0 : (store ⟨b, 0, none⟩ x).run Tryd.prog W = .ok () (W.setCell ⟨b, 0, none⟩ x) := by rw [run_store _ _ _ _ _ h1]; simp [ht0, hf0]
  have s1 : (store ⟨b, 1, none⟩ y).run Tryd.prog (W.setCell ⟨b, 0, none⟩ x) = .ok () ((W.setCell ⟨b, 0, none⟩ x).setCell ⟨b, 1, none⟩ y) := by rw [run_store _ _ _ _ _ h2]; simp [go_sem, ht1, hf1]
  have hs : (storeVar tW ⟨b, 0, none⟩ (.agg #[x, y])).run Tryd.prog W = .ok () ((W.setCell ⟨b, 0, none⟩ x).setCell ⟨b, 1, none⟩ y) := by
    unfold storeVar
    simp only [Sem.run_bind, p5, Result.andThen]
    simp [Value.cells, storeCells, Ab.add_at, s0, s1, Result.andThen]
  have rls : ∀ v z : Value, ReflectliteValue.set #[v, z] = (do
    let (some (dst, a, fl), some (src, b, _)) := (← ReflectliteValue.parts v, ← ReflectliteValue.parts z)
      | unsupported (.noEntry "extern/(internal/reflectlite.Value).Set.zeroValue")
    if fl / ReflectliteValue.flagAddr % 2 == 0 then unsupported (.noEntry "extern/(internal/reflectlite.Value).Set.unaddressable")
    let val ← loadVar src b
    if ← Rtype.directlyAssignable dst src then storeVar dst a val
    else if ← Rtype.implements dst src then
      if (← Rtype.kind src) == 20 then
        match val with
        | .nilIface => unsupported (.noEntry "extern/reflectlite: a nil value of one interface type handed on as a value of another")
        | _ => storeVar dst a val
      else storeVar dst a (.iface src val)
    else panicString ("reflectlite.Set: value of type " ++ (← Rtype.spelt src) ++ " is not assignable to type " ++ (← Rtype.spelt dst))
    pure (.tuple #[])) := fun _ _ => rfl
  rw [rls]
  simp only [Sem.run_bind, p1, p2, Result.andThen]
  simp [ReflectliteValue.flagAddr, hl, hs, p3, Result.andThen]
theorem as_hit (b : Nat) (x y x0 y0 : Value) (w : World) (h1 : x.oneCell' = true) (h2 : y.oneCell' = true) (hg : w.cell? ⟨0, 0, none⟩ = some (.iface tRt (rtp tErr))) (ht0 : w.cell? ⟨b, 0, none⟩ = some x0) (ht1 : w.cell? ⟨b, 1, none⟩ = some y0) (hf0 : w.frozen? ⟨b, 0, none⟩ = false) (hf1 : w.frozen? ⟨b, 1, none⟩ = false) :
    Calls Tryd.prog 67 #[.iface tW (.agg #[x, y]), .iface tPW (.pointer (some ⟨b, 0, none⟩))] w fun ev w' => ev = .returned (.bool true) ∧ w' = (((asWorld w b x y).alloc (.cells #[x, y] tW)).setCell ⟨b, 0, none⟩ x).setCell ⟨b, 1, none⟩ y := by
  have h6 := @run_callFunc_extern Tryd.prog 95 _ (fun args => ReflectliteValue.unpack (args.getD 0 (.tuple #[]))) Tryd.func95 (by kernel_rfl) (by kernel_rfl) (by kernel_rfl) (by kernel_rfl)
  have h7 := @run_callFunc_extern Tryd.prog 96 _ (ReflectliteValue.methodAny (ReflectliteValue.valueError "reflectlite.Value.Type" 0) (fun t _ _ _ => ReflectliteType.toType t)) Tryd.func96 (by kernel_rfl) (by kernel_rfl) (by kernel_rfl) (by kernel_rfl)
  have h8 := @run_callFunc_extern Tryd.prog 97 _ (ReflectliteValue.method (ReflectliteValue.valueError "reflectlite.Value.IsNil" 0) ReflectliteValue.isNil) Tryd.func97 (by kernel_rfl) (by kernel_rfl) (by kernel_rfl) (by kernel_rfl)
  have h27 := @run_callFunc_extern Tryd.prog 162 _ (ReflectliteType.abiMethod fun t => do pure (.int .u8 (← Rtype.kind t))) Tryd.func162 (by kernel_rfl) (by kernel_rfl) (by kernel_rfl) (by kernel_rfl)
  have h37 := @run_callFunc_extern Tryd.prog 175 _ (ReflectliteType.method ReflectliteType.elem) Tryd.func175 (by kernel_rfl) (by kernel_rfl) (by kernel_rfl) (by kernel_rfl)
  have h38 := @run_callFunc_extern Tryd.prog 176 _ (ReflectliteType.relation "Implements" ReflectliteType.implements_) Tryd.func176 (by kernel_rfl) (by kernel_rfl) (by kernel_rfl) (by kernel_rfl)
  have h10 := @run_callFunc_extern Tryd.prog 99 _ ReflectliteType.typeOf Tryd.func99 (by kernel_rfl) (by kernel_rfl) (by kernel_rfl) (by kernel_rfl)
  have h35 := @run_callFunc_extern Tryd.prog 173 _ (ReflectliteType.relation "AssignableTo" ReflectliteType.assignableTo) Tryd.func173 (by kernel_rfl) (by kernel_rfl) (by kernel_rfl) (by kernel_rfl)
  have h11 := @run_callFunc_extern Tryd.prog 121 _ (ReflectliteValue.method (ReflectliteValue.valueError "reflectlite.Value.Elem" 0) ReflectliteValue.elem) Tryd.func121 (by kernel_rfl) (by kernel_rfl) (by kernel_rfl) (by kernel_rfl)
  have h12 := @run_callFunc_extern Tryd.prog 122 _ ReflectliteValue.set Tryd.func122 (by kernel_rfl) (by kernel_rfl) (by kernel_rfl) (by kernel_rfl)
  have tO := typeOfW
  have a25 := assignableW
  have v25 := valueOfW
  have f6 := valueOfP
  have f7 := typeP
  have k27 := kindP
  have k25 := kindW
  have e27 := elemP
  have i25 := implementsW
  have hlt : 0 < w.heap.size := by
    rcases Nat.eq_zero_or_pos w.heap.size with h0 | h
    · simp [World.cell?, h0] at hg
    · exact h
  have htl : b < w.heap.size := by
    rcases Nat.lt_or_ge b w.heap.size with h | h
    · exact h
    · simp [World.cell?, Array.getElem?_eq_none h] at ht0
  have mK : ∀ (h : Value) (w : World), (Go.method 372 tRt (.agg #[h]) "Kind").run Tryd.prog w = .ok (162, h) w := fun _ _ => by kernel_rfl
  have mE : ∀ (h : Value) (w : World), (Go.method 372 tRt (.agg #[h]) "Elem").run Tryd.prog w = .ok (175, .agg #[h]) w := fun _ _ => by kernel_rfl
  have mI : ∀ (h : Value) (w : World), (Go.method 372 tRt (.agg #[h]) "Implements").run Tryd.prog w = .ok (176, .agg #[h]) w := fun _ _ => by kernel_rfl
  have mA : ∀ (h : Value) (w : World), (Go.method 372 tRt (.agg #[h]) "AssignableTo").run Tryd.prog w = .ok (173, .agg #[h]) w := fun _ _ => by kernel_rfl
  have n8 := isNilP ⟨w.heap.size, 0, none⟩ ⟨b, 0, none⟩ ((w.alloc (.cells #[.pointer (some ⟨b, 0, none⟩)] tPW)).alloc (.cells #[.pointer (some ⟨hB, tPW, none⟩), .pointer (some ⟨w.heap.size, 0, none⟩), .int .u64 150] tRv)) (by simp)
  have hg2 : ((w.alloc (.cells #[.pointer (some ⟨b, 0, none⟩)] tPW)).alloc (.cells #[.pointer (some ⟨hB, tPW, none⟩), .pointer (some ⟨w.heap.size, 0, none⟩), .int .u64 150] tRv)).cell? ⟨0, 0, none⟩ = some (.iface tRt (rtp tErr)) := by
    rw [World.cell?_alloc_lt _ _ ⟨0, 0, none⟩ (by simp), World.cell?_alloc_lt _ _ ⟨0, 0, none⟩ hlt]; exact hg
  have el := elemVP ⟨w.heap.size, 0, none⟩ ⟨b, 0, none⟩ (asWorld w b x y) (by unfold asWorld; rw [World.cell?_alloc_lt _ _ ⟨w.heap.size, 0, none⟩ (by simp; omega)]; simp)
  have st := setW b (w.heap.size + 1 + 1 + 1) x y x0 y0 ((asWorld w b x y).alloc (.cells #[x, y] tW)) h1 h2 (by rw [World.cell?_alloc_at _ _ _ _ (by simp)]; rfl) (by rw [World.cell?_alloc_at _ _ _ _ (by simp)]; rfl)
    (by rw [World.cell?_alloc_lt _ _ ⟨b, 0, none⟩ (by simp; omega), World.cell?_alloc_lt _ _ ⟨b, 0, none⟩ (by simp; omega), World.cell?_alloc_lt _ _ ⟨b, 0, none⟩ (by simp; omega), World.cell?_alloc_lt _ _ ⟨b, 0, none⟩ htl]; exact ht0)
    (by rw [World.cell?_alloc_lt _ _ ⟨b, 1, none⟩ (by simp; omega), World.cell?_alloc_lt _ _ ⟨b, 1, none⟩ (by simp; omega), World.cell?_alloc_lt _ _ ⟨b, 1, none⟩ (by simp; omega), World.cell?_alloc_lt _ _ ⟨b, 1, none⟩ htl]; exact ht1)
    (by rw [World.frozen?_alloc_old _ _ ⟨b, 0, none⟩ (by simp; omega), World.frozen?_alloc_old _ _ ⟨b, 0, none⟩ (by simp; omega), World.frozen?_alloc_old _ _ ⟨b, 0, none⟩ (by simp; omega), World.frozen?_alloc_old _ _ ⟨b, 0, none⟩ (Nat.ne_of_lt htl)]; exact hf0)
    (by rw [World.frozen?_alloc_old _ _ ⟨b, 1, none⟩ (by simp; omega), World.frozen?_alloc_old _ _ ⟨b, 1, none⟩ (by simp; omega), World.frozen?_alloc_old _ _ ⟨b, 1, none⟩ (by simp; omega), World.frozen?_alloc_old _ _ ⟨b, 1, none⟩ (Nat.ne_of_lt htl)]; exact hf1)
  unfold asWorld at el st ⊢
  go_enter Tryd.func67, Tryd.ntmps67
  go_wp2
  refine wp_loop_rounds 1 ?_
  rw [rounds_succ]
  go_wp2
  go_ret
  exact ⟨rfl, rfl⟩
theorem unwrap_walk (x y : Value) (w : World) : Calls Tryd.prog 167 #[.agg #[x, y]] w fun e w' => e = .returned y ∧ w' = w.alloc (.cells #[x, y] tW) := by
  go_enter Tryd.func167, Tryd.ntmps167
  go_wp2
  go_ret
  exact ⟨rfl, rfl⟩
theorem is_same (a k : Int) (x : Value) (w : World) : Calls Tryd.prog 68 #[.iface tW (.agg #[x, .iface tE (.int .i64 a)]), .iface tE (.int .i64 k)] w fun ev w' => ev = .returned (.bool (a == k)) ∧ Below w.heap.size w w' := by
  have h8 := @run_callFunc_extern Tryd.prog 99 _ ReflectliteType.typeOf Tryd.func99 (by kernel_rfl) (by kernel_rfl) (by kernel_rfl) (by kernel_rfl)
  have h32 := @run_callFunc_extern Tryd.prog 174 _ (ReflectliteType.method fun t => do Rtype.noPackHeld "Comparable" t; pure (.bool (← typeInfo t).comparable)) Tryd.func174 (by kernel_rfl) (by kernel_rfl) (by kernel_rfl) (by kernel_rfl)
  have tT := typeOfE
  have cT := comparableE
  have mR : ∀ (h : Value) (w : World), (Go.method 372 tRt (.agg #[h]) "Comparable").run Tryd.prog w = .ok (174, .agg #[h]) w := fun _ _ => by kernel_rfl
  have mU : ∀ (h : Value) (w : World), (Go.method 372 tW h "Unwrap").run Tryd.prog w = .ok (167, h) w := fun _ _ => by kernel_rfl
  have nW := isLacksW
  have nE := isLacksE
  have uW := unwrapHasW
  have uE := unwrapLacksE
  have vE := unwrapsLacksE
  have hty := run_eql_iface_types (P := Tryd.prog) tW tE (.agg #[x, .iface tE (.int .i64 a)]) (.int .i64 k) Tryd.underlying92 (by decide) w
  cases hak : (a == k)
  all_goals
    have heq : ∀ w : World, (binOp .eql tErr (.iface tE (.int .i64 a)) (.iface tE (.int .i64 k))).run Tryd.prog w = .ok (.bool _) w := fun w => by rw [eqlEE a k, hak]
    clear hak
    go_enter Tryd.func68, Tryd.ntmps68
    go_wp2
    refine wp_loop_rounds 2 ?_
    rw [rounds_succ]
    go_wp2_with (go_at_call 167; refine (unwrap_walk _ _ _).mono ?_; rintro e w' ⟨rfl, rfl⟩)
    rw [rounds_succ]
    go_wp2
    go_ret
    exact ⟨rfl, (Below.refl _ _).alloc (Nat.le_refl _) _⟩
end Go.Proofs.YtdfdiglnpekcpabDoor.Ab
