/-
  errors.As at an expression's error, errors.Is at its number, walked. errors.As at an expression's error, errors.Is at its number: the walks. eval.frame.run, walked. No claim is proved here.
-/
import Derived.Test.YtdfdiglnpekcpabDoorQV7
import Derived.Test.YtdfdiglnpekcpabDoorQAbPanA
import Derived.Below
import Derived.Lib.Hide
namespace Go.Proofs.YtdfdiglnpekcpabDoor.Ab
open Go Go.RowKit Go.Extern.Stop Go.Stop Go.Extern
set_option linter.unusedSimpArgs false
set_option maxHeartbeats 4000000
set_option maxRecDepth 100000
abbrev tW : Nat := 128
abbrev tPW : Nat := 132
abbrev tE : Nat := 47
abbrev tErr : Nat := 92
abbrev tRt : Nat := 205
abbrev tRv : Nat := 172
/-- The block of the types' handles. -/
abbrev hB : Nat := 7
abbrev rtp (t : Nat) : Value := .agg #[.pointer (some ⟨hB, t, none⟩)]
theorem as_nil (t : Value) (w : World) : Calls Tryd.prog 67 #[.nilIface, t] w fun e w' => e = .returned (.bool false) ∧ w' = w := by
  go_enter Tryd.func67, Tryd.ntmps67
  go_wp2
  go_ret
  exact ⟨rfl, rfl⟩
theorem valueOfP (t : Addr) (w : World) : (ReflectliteValue.unpack (.iface tPW (.pointer (some t)))).run Tryd.prog w = .ok (.agg #[.pointer (some ⟨hB, tPW, none⟩), .pointer (some ⟨w.heap.size, 0, none⟩), .int .u64 150]) (w.alloc (.cells #[.pointer (some t)] tPW)) := by kernel_rfl
theorem typeP (a : Addr) (w : World) : (ReflectliteValue.methodAny (ReflectliteValue.valueError "reflectlite.Value.Type" 0) (fun t _ _ _ => ReflectliteType.toType t) #[.agg #[.pointer (some ⟨hB, tPW, none⟩), .pointer (some a), .int .u64 150]]).run Tryd.prog w = .ok (.iface tRt (rtp tPW)) w := by kernel_rfl
theorem kindP (w : World) : ((ReflectliteType.abiMethod fun t => (fun a : Nat => Value.int IntKind.u8 (a : Int)) <$> Rtype.kind t) #[.pointer (some ⟨hB, tPW, none⟩)]).run Tryd.prog w = .ok (.int .u8 22) w := by kernel_rfl
theorem kindW (w : World) : ((ReflectliteType.abiMethod fun t => (fun a : Nat => Value.int IntKind.u8 (a : Int)) <$> Rtype.kind t) #[.pointer (some ⟨hB, tW, none⟩)]).run Tryd.prog w = .ok (.int .u8 25) w := by kernel_rfl
theorem rlm (z : Sem Value) (f : TypeId → Addr → Nat → Nat → Sem Value) (v : Value) : ReflectliteValue.method z f #[v] = (do match ← ReflectliteValue.parts v with | none => z | some (t, a, fl) => f t a fl (fl % 32)) := rfl
theorem partsP (a : Addr) (w : World) : (ReflectliteValue.parts (.agg #[.pointer (some ⟨hB, tPW, none⟩), .pointer (some a), .int .u64 150])).run Tryd.prog w = .ok (some (tPW, a, 150)) w := by kernel_rfl
theorem isNilP (a p : Addr) (W : World) (ha : W.cell? a = some (.pointer (some p))) : (ReflectliteValue.method (ReflectliteValue.valueError "reflectlite.Value.IsNil" 0) ReflectliteValue.isNil #[.agg #[.pointer (some ⟨hB, tPW, none⟩), .pointer (some a), .int .u64 150]]).run Tryd.prog W = .ok (.bool false) W := by
  rw [rlm]
  simp only [Sem.run_bind, partsP, Result.andThen]
  simp [ReflectliteValue.isNil, loadVar, isAgg, underlying, Tryd.underlying132, ha, Result.andThen]
theorem elemP (w : World) : (ReflectliteType.method ReflectliteType.elem #[rtp tPW]).run Tryd.prog w = .ok (.iface tRt (rtp tW)) w := by kernel_rfl
theorem implementsW (w : World) : (ReflectliteType.relation "Implements" ReflectliteType.implements_ #[rtp tW, .iface tRt (rtp tErr)]).run Tryd.prog w = .ok (.bool true) w := by kernel_rfl
theorem typeOfW (v : Value) (w : World) : (ReflectliteType.typeOf #[.iface tW v]).run Tryd.prog w = .ok (.iface tRt (rtp tW)) w := by kernel_rfl
theorem typeOfE (v : Value) (w : World) : (ReflectliteType.typeOf #[.iface tE v]).run Tryd.prog w = .ok (.iface tRt (rtp tE)) w := by kernel_rfl
theorem assignableW (w : World) : (ReflectliteType.relation "AssignableTo" ReflectliteType.assignableTo #[rtp tW, .iface tRt (rtp tW)]).run Tryd.prog w = .ok (.bool true) w := by kernel_rfl
theorem valueOfW (x y : Value) (w : World) : (ReflectliteValue.unpack (.iface tW (.agg #[x, y]))).run Tryd.prog w = .ok (.agg #[.pointer (some ⟨hB, tW, none⟩), .pointer (some ⟨w.heap.size, 0, none⟩), .int .u64 153]) (w.alloc (.cells #[x, y] tW)) := by kernel_rfl
theorem elemOfP (w : World) : (Rtype.elem? tPW).run Tryd.prog w = .ok (some tW) w := by kernel_rfl
theorem mkW (p : Addr) (w : World) : (ReflectliteValue.mk tW p ReflectliteValue.flagAddr).run Tryd.prog w = .ok (.agg #[.pointer (some ⟨hB, tW, none⟩), .pointer (some p), .int .u64 409]) w := by kernel_rfl
theorem elemVP (a p : Addr) (W : World) (ha : W.cell? a = some (.pointer (some p))) : (ReflectliteValue.method (ReflectliteValue.valueError "reflectlite.Value.Elem" 0) ReflectliteValue.elem #[.agg #[.pointer (some ⟨hB, tPW, none⟩), .pointer (some a), .int .u64 150]]).run Tryd.prog W = .ok (.agg #[.pointer (some ⟨hB, tW, none⟩), .pointer (some p), .int .u64 409]) W := by
  rw [rlm]
  simp only [Sem.run_bind, partsP, Result.andThen]
  simp [ReflectliteValue.elem, loadVar, isAgg, underlying, Tryd.underlying132, ha, Result.andThen, elemOfP, mkW]
theorem comparableE (w : World) : ((ReflectliteType.method fun t => do Rtype.noPackHeld "Comparable" t; (fun a => Value.bool a.comparable) <$> typeInfo t) #[rtp tE]).run Tryd.prog w = .ok (.bool true) w := by kernel_rfl
theorem isLacksW (v : Value) (xT : TypeId) (w : World) : (Instr.typeAssert (.iface tW v) xT 217 true).run Tryd.prog w = .ok (.tuple #[.nilIface, .bool false]) w := run_typeAssert_lacksB Tryd.underlying217 (by kernel_rfl) (by kernel_rfl) v xT w
theorem isLacksE (v : Value) (xT : TypeId) (w : World) : (Instr.typeAssert (.iface tE v) xT 217 true).run Tryd.prog w = .ok (.tuple #[.nilIface, .bool false]) w := run_typeAssert_lacksB Tryd.underlying217 (by kernel_rfl) (by kernel_rfl) v xT w
theorem unwrapHasW (v : Value) (xT : TypeId) (w : World) : (Instr.typeAssert (.iface tW v) xT 212 true).run Tryd.prog w = .ok (.tuple #[.iface tW v, .bool true]) w := run_typeAssert_hasB Tryd.underlying212 (by kernel_rfl) v xT w
theorem unwrapLacksE (v : Value) (xT : TypeId) (w : World) : (Instr.typeAssert (.iface tE v) xT 212 true).run Tryd.prog w = .ok (.tuple #[.nilIface, .bool false]) w := run_typeAssert_lacksB Tryd.underlying212 (by kernel_rfl) (by kernel_rfl) v xT w
theorem unwrapsLacksE (v : Value) (xT : TypeId) (w : World) : (Instr.typeAssert (.iface tE v) xT 214 true).run Tryd.prog w = .ok (.tuple #[.nilIface, .bool false]) w := run_typeAssert_lacksB Tryd.underlying214 (by kernel_rfl) (by kernel_rfl) v xT w
theorem eqlEE (a b : Int) (w : World) : (binOp .eql tErr (.iface tE (.int .i64 a)) (.iface tE (.int .i64 b))).run Tryd.prog w = .ok (.bool (a == b)) w := by kernel_rfl
end Go.Proofs.YtdfdiglnpekcpabDoor.Ab
namespace Go.Proofs.YtdfdiglnpekcpabDoor.Ab
open Go Go.RowKit Go.Extern.Stop Go.Stop Go.Extern
set_option linter.unusedSimpArgs false
set_option maxHeartbeats 4000000
set_option maxRecDepth 100000
abbrev asWorld (w : World) (b : Nat) (_x _y : Value) : World := ((w.alloc (.cells #[.pointer (some ⟨b, 0, none⟩)] tPW)).alloc (.cells #[.pointer (some ⟨hB, tPW, none⟩), .pointer (some ⟨w.heap.size, 0, none⟩), .int .u64 150] tRv)).alloc (.cells #[.pointer (some ⟨hB, tPW, none⟩), .pointer (some ⟨w.heap.size, 0, none⟩), .int .u64 150] tRv)
theorem setW (b c : Nat) (x y x0 y0 : Value) (W : World) (h1 : x.oneCell' = true) (h2 : y.oneCell' = true) (hc0 : W.cell? ⟨c, 0, none⟩ = some x) (hc1 : W.cell? ⟨c, 1, none⟩ = some y) (ht0 : W.cell? ⟨b, 0, none⟩ = some x0) (ht1 : W.cell? ⟨b, 1, none⟩ = some y0) (hf0 : W.frozen? ⟨b, 0, none⟩ = false) (hf1 : W.frozen? ⟨b, 1, none⟩ = false) :
    (ReflectliteValue.set #[.agg #[.pointer (some ⟨hB, tW, none⟩), .pointer (some ⟨b, 0, none⟩), .int .u64 409], .agg #[.pointer (some ⟨hB, tW, none⟩), .pointer (some ⟨c, 0, none⟩), .int .u64 153]]).run Tryd.prog W = .ok (.tuple #[]) ((W.setCell ⟨b, 0, none⟩ x).setCell ⟨b, 1, none⟩ y) := by
  have p1 : (ReflectliteValue.parts (.agg #[.pointer (some ⟨hB, tW, none⟩), .pointer (some ⟨b, 0, none⟩), .int .u64 409])).run Tryd.prog W = .ok (some (tW, ⟨b, 0, none⟩, 409)) W := by kernel_rfl
  have p2 : (ReflectliteValue.parts (.agg #[.pointer (some ⟨hB, tW, none⟩), .pointer (some ⟨c, 0, none⟩), .int .u64 153])).run Tryd.prog W = .ok (some (tW, ⟨c, 0, none⟩, 153)) W := by kernel_rfl
  have p3 : ∀ w : World, (Rtype.directlyAssignable tW tW).run Tryd.prog w = .ok true w := fun w => by kernel_rfl
  have p4 : ∀ w : World, (isAgg tW).run Tryd.prog w = .ok true w := fun w => by kernel_rfl
  have p5 : ∀ w : World, (sizeOf tW).run Tryd.prog w = .ok 2 w := fun w => by kernel_rfl
  have hl : (loadVar tW ⟨c, 0, none⟩).run Tryd.prog W = .ok (.agg #[x, y]) W := by
    have hc : (loadCells ⟨c, 0, none⟩ 2).run Tryd.prog W = .ok #[x, y] W := run_loadCells_list (w := W) (P := Tryd.prog) ⟨c, 0, none⟩ [x, y] (fun j v hj => by
      match j, hj with
      | 0, hj => cases hj; exact hc0
      | 1, hj => cases hj; exact hc1)
    unfold loadVar
    simp only [Sem.run_bind, p4, Result.andThen, if_true, p5, hc, Sem.run_pure]
  have s0 : (store ⟨b, 0, none⟩ x).run Tryd.prog W = .ok () (W.setCell ⟨b, 0, none⟩ x) := by rw [run_store _ _ _ _ _ h1]; simp [ht0, hf0]
  have s1 : (store ⟨b, 1, none⟩ y).run Tryd.prog (W.setCell ⟨b, 0, none⟩ x) = .ok () ((W.setCell ⟨b, 0, none⟩ x).setCell ⟨b, 1, none⟩ y) := by rw [run_store _ _ _ _ _ h2]; simp [go_sem, ht1, hf1]
  have hs : (storeVar tW ⟨b, 0, none⟩ (.agg #[x, y])).run Tryd.prog W = .ok () ((W.setCell ⟨b, 0, none⟩ x).setCell ⟨b, 1, none⟩ y) := by
    unfold storeVar
    simp only [Sem.run_bind, p5, Result.andThen]
    simp [Value.cells, storeCells, Ab.add_at, s0, s1, Result.andThen]
  have rls : ∀ v z : Value, ReflectliteValue.set #[v, z] = (do
    let (some (dst, a, fl), some (src, b, _)) := (← ReflectliteValue.parts v, ← ReflectliteValue.parts z)
      | unsupported (.noEntry "extern/(internal/reflectlite.Value).Set.zeroValue")
    if fl / ReflectliteValue.flagAddr % 2 == 0 then unsupported (.noEntry "extern/(internal/reflectlite.Value).Set.unaddressable")
    let val ← loadVar src b
    if ← Rtype.directlyAssignable dst src then storeVar dst a val
    else if ← Rtype.implements dst src then
      if (← Rtype.kind src) == 20 then
        match val with
        | .nilIface => unsupported (.noEntry "extern/reflectlite: a nil value of one interface type handed on as a value of another")
        | _ => storeVar dst a val
      else storeVar dst a (.iface src val)
    else panicString ("reflectlite.Set: value of type " ++ (← Rtype.spelt src) ++ " is not assignable to type " ++ (← Rtype.spelt dst))
    pure (.tuple #[])) := fun _ _ => rfl
  rw [rls]
  simp only [Sem.run_bind, p1, p2, Result.andThen]
  simp [ReflectliteValue.flagAddr, hl, hs, p3, Result.andThen]
theorem as_hit (b : Nat) (x y x0 y0 : Value) (w : World) (h1 : x.oneCell' = true) (h2 : y.oneCell' = true) (hg : w.cell? ⟨0, 0, none⟩ = some (.iface tRt (rtp tErr))) (ht0 : w.cell? ⟨b, 0, none⟩ = some x0) (ht1 : w.cell? ⟨b, 1, none⟩ = some y0) (hf0 : w.frozen? ⟨b, 0, none⟩ = false) (hf1 : w.frozen? ⟨b, 1, none⟩ = false) :
    Calls Tryd.prog 67 #[.iface tW (.agg #[x, y]), .iface tPW (.pointer (some ⟨b, 0, none⟩))] w fun ev w' => ev = .returned (.bool true) ∧ w' = (((asWorld w b x y).alloc (.cells #[x, y] tW)).setCell ⟨b, 0, none⟩ x).setCell ⟨b, 1, none⟩ y := by
  have h6 := @run_callFunc_extern Tryd.prog 95 _ (fun args => ReflectliteValue.unpack (args.getD 0 (.tuple #[]))) Tryd.func95 (by kernel_rfl) (by kernel_rfl) (by kernel_rfl) (by kernel_rfl)
  have h7 := @run_callFunc_extern Tryd.prog 96 _ (ReflectliteValue.methodAny (ReflectliteValue.valueError "reflectlite.Value.Type" 0) (fun t _ _ _ => ReflectliteType.toType t)) Tryd.func96 (by kernel_rfl) (by kernel_rfl) (by kernel_rfl) (by kernel_rfl)
  have h8 := @run_callFunc_extern Tryd.prog 97 _ (ReflectliteValue.method (ReflectliteValue.valueError "reflectlite.Value.IsNil" 0) ReflectliteValue.isNil) Tryd.func97 (by kernel_rfl) (by kernel_rfl) (by kernel_rfl) (by kernel_rfl)
  have h27 := @run_callFunc_extern Tryd.prog 162 _ (ReflectliteType.abiMethod fun t => do pure (.int .u8 (← Rtype.kind t))) Tryd.func162 (by kernel_rfl) (by kernel_rfl) (by kernel_rfl) (by kernel_rfl)
  have h37 := @run_callFunc_extern Tryd.prog 175 _ (ReflectliteType.method ReflectliteType.elem) Tryd.func175 (by kernel_rfl) (by kernel_rfl) (by kernel_rfl) (by kernel_rfl)
  have h38 := @run_callFunc_extern Tryd.prog 176 _ (ReflectliteType.relation "Implements" ReflectliteType.implements_) Tryd.func176 (by kernel_rfl) (by kernel_rfl) (by kernel_rfl) (by kernel_rfl)
  have h10 := @run_callFunc_extern Tryd.prog 99 _ ReflectliteType.typeOf Tryd.func99 (by kernel_rfl) (by kernel_rfl) (by kernel_rfl) (by kernel_rfl)
  have h35 := @run_callFunc_extern Tryd.prog 173 _ (ReflectliteType.relation "AssignableTo" ReflectliteType.assignableTo) Tryd.func173 (by kernel_rfl) (by kernel_rfl) (by kernel_rfl) (by kernel_rfl)
  have h11 := @run_callFunc_extern Tryd.prog 121 _ (ReflectliteValue.method (ReflectliteValue.valueError "reflectlite.Value.Elem" 0) ReflectliteValue.elem) Tryd.func121 (by kernel_rfl) (by kernel_rfl) (by kernel_rfl) (by kernel_rfl)
  have h12 := @run_callFunc_extern Tryd.prog 122 _ ReflectliteValue.set Tryd.func122 (by kernel_rfl) (by kernel_rfl) (by kernel_rfl) (by kernel_rfl)
  have tO := typeOfW
  have a25 := assignableW
  have v25 := valueOfW
  have f6 := valueOfP
  have f7 := typeP
  have k27 := kindP
  have k25 := kindW
  have e27 := elemP
  have i25 := implementsW
  have hlt : 0 < w.heap.size := by
    rcases Nat.eq_zero_or_pos w.heap.size with h0 | h
    · simp [World.cell?, h0] at hg
    · exact h
  have htl : b < w.heap.size := by
    rcases Nat.lt_or_ge b w.heap.size with h | h
    · exact h
    · simp [World.cell?, Array.getElem?_eq_none h] at ht0
  have mK : ∀ (h : Value) (w : World), (Go.method 372 tRt (.agg #[h]) "Kind").run Tryd.prog w = .ok (162, h) w := fun _ _ => by kernel_rfl
  have mE : ∀ (h : Value) (w : World), (Go.method 372 tRt (.agg #[h]) "Elem").run Tryd.prog w = .ok (175, .agg #[h]) w := fun _ _ => by kernel_rfl
  have mI : ∀ (h : Value) (w : World), (Go.method 372 tRt (.agg #[h]) "Implements").run Tryd.prog w = .ok (176, .agg #[h]) w := fun _ _ => by kernel_rfl
  have mA : ∀ (h : Value) (w : World), (Go.method 372 tRt (.agg #[h]) "AssignableTo").run Tryd.prog w = .ok (173, .agg #[h]) w := fun _ _ => by kernel_rfl
  have n8 := isNilP ⟨w.heap.size, 0, none⟩ ⟨b, 0, none⟩ ((w.alloc (.cells #[.pointer (some ⟨b, 0, none⟩)] tPW)).alloc (.cells #[.pointer (some ⟨hB, tPW, none⟩), .pointer (some ⟨w.heap.size, 0, none⟩), .int .u64 150] tRv)) (by simp)
  have hg2 : ((w.alloc (.cells #[.pointer (some ⟨b, 0, none⟩)] tPW)).alloc (.cells #[.pointer (some ⟨hB, tPW, none⟩), .pointer (some ⟨w.heap.size, 0, none⟩), .int .u64 150] tRv)).cell? ⟨0, 0, none⟩ = some (.iface tRt (rtp tErr)) := by
    rw [World.cell?_alloc_lt _ _ ⟨0, 0, none⟩ (by simp), World.cell?_alloc_lt _ _ ⟨0, 0, none⟩ hlt]; exact hg
  have el := elemVP ⟨w.heap.size, 0, none⟩ ⟨b, 0, none⟩ (asWorld w b x y) (by unfold asWorld; rw [World.cell?_alloc_lt _ _ ⟨w.heap.size, 0, none⟩ (by simp; omega)]; simp)
  have st := setW b (w.heap.size + 1 + 1 + 1) x y x0 y0 ((asWorld w b x y).alloc (.cells #[x, y] tW)) h1 h2 (by rw [World.cell?_alloc_at _ _ _ _ (by simp)]; rfl) (by rw [World.cell?_alloc_at _ _ _ _ (by simp)]; rfl)
    (by rw [World.cell?_alloc_lt _ _ ⟨b, 0, none⟩ (by simp; omega), World.cell?_alloc_lt _ _ ⟨b, 0, none⟩ (by simp; omega), World.cell?_alloc_lt _ _ ⟨b, 0, none⟩ (by simp; omega), World.cell?_alloc_lt _ _ ⟨b, 0, none⟩ htl]; exact ht0)
    (by rw [World.cell?_alloc_lt _ _ ⟨b, 1, none⟩ (by simp; omega), World.cell?_alloc_lt _ _ ⟨b, 1, none⟩ (by simp; omega), World.cell?_alloc_lt _ _ ⟨b, 1, none⟩ (by simp; omega), World.cell?_alloc_lt _ _ ⟨b, 1, none⟩ htl]; exact ht1)
    (by rw [World.frozen?_alloc_old _ _ ⟨b, 0, none⟩ (by simp; omega), World.frozen?_alloc_old _ _ ⟨b, 0, none⟩ (by simp; omega), World.frozen?_alloc_old _ _ ⟨b, 0, none⟩ (by simp; omega), World.frozen?_alloc_old _ _ ⟨b, 0, none⟩ (Nat.ne_of_lt htl)]; exact hf0)
    (by rw [World.frozen?_alloc_old _ _ ⟨b, 1, none⟩ (by simp; omega), World.frozen?_alloc_old _ _ ⟨b, 1, none⟩ (by simp; omega), World.frozen?_alloc_old _ _ ⟨b, 1, none⟩ (by simp; omega), World.frozen?_alloc_old _ _ ⟨b, 1, none⟩ (Nat.ne_of_lt htl)]; exact hf1)
  unfold asWorld at el st ⊢
  go_enter Tryd.func67, Tryd.ntmps67
  go_wp2
  refine wp_loop_rounds 1 ?_
  rw [rounds_succ]
  go_wp2
  go_ret
  exact ⟨rfl, rfl⟩
theorem unwrap_walk (x y : Value) (w : World) : Calls Tryd.prog 167 #[.agg #[x, y]] w fun e w' => e = .returned y ∧ w' = w.alloc (.cells #[x, y] tW) := by
  go_enter Tryd.func167, Tryd.ntmps167
  go_wp2
  go_ret
  exact ⟨rfl, rfl⟩
theorem is_same (a k : Int) (x : Value) (w : World) : Calls Tryd.prog 68 #[.iface tW (.agg #[x, .iface tE (.int .i64 a)]), .iface tE (.int .i64 k)] w fun ev w' => ev = .returned (.bool (a == k)) ∧ Below w.heap.size w w' := by
  have h8 := @run_callFunc_extern Tryd.prog 99 _ ReflectliteType.typeOf Tryd.func99 (by kernel_rfl) (by kernel_rfl) (by kernel_rfl) (by kernel_rfl)
  have h32 := @run_callFunc_extern Tryd.prog 174 _ (ReflectliteType.method fun t => do Rtype.noPackHeld "Comparable" t; pure (.bool (← typeInfo t).comparable)) Tryd.func174 (by kernel_rfl) (by kernel_rfl) (by kernel_rfl) (by kernel_rfl)
  have tT := typeOfE
  have cT := comparableE
  have mR : ∀ (h : Value) (w : World), (Go.method 372 tRt (.agg #[h]) "Comparable").run Tryd.prog w = .ok (174, .agg #[h]) w := fun _ _ => by kernel_rfl
  have mU : ∀ (h : Value) (w : World), (Go.method 372 tW h "Unwrap").run Tryd.prog w = .ok (167, h) w := fun _ _ => by kernel_rfl
  have nW := isLacksW
  have nE := isLacksE
  have uW := unwrapHasW
  have uE := unwrapLacksE
  have vE := unwrapsLacksE
  have hty := run_eql_iface_types (P := Tryd.prog) tW tE (.agg #[x, .iface tE (.int .i64 a)]) (.int .i64 k) Tryd.underlying92 (by decide) w
  cases hak : (a == k)
  all_goals
    have heq : ∀ w : World, (binOp .eql tErr (.iface tE (.int .i64 a)) (.iface tE (.int .i64 k))).run Tryd.prog w = .ok (.bool _) w := fun w => by rw [eqlEE a k, hak]
    clear hak
    go_enter Tryd.func68, Tryd.ntmps68
    go_wp2
    refine wp_loop_rounds 2 ?_
    rw [rounds_succ]
    go_wp2_with (go_at_call 167; refine (unwrap_walk _ _ _).mono ?_; rintro e w' ⟨rfl, rfl⟩)
    rw [rounds_succ]
    go_wp2
    go_ret
    exact ⟨rfl, (Below.refl _ _).alloc (Nat.le_refl _) _⟩
end Go.Proofs.YtdfdiglnpekcpabDoor.Ab
namespace Go.Proofs.YtdfdiglnpekcpabDoor.Ab
open Go Go.RowKit Go.Extern.Stop Go.Stop Go.Extern
set_option linter.unusedSimpArgs false
set_option maxHeartbeats 4000000
set_option maxRecDepth 100000
theorem bcell {W w1 : World} (hb : Below W.heap.size W w1) : (∀ b o, b < W.heap.size → w1.cell? ⟨b, o, none⟩ = W.cell? ⟨b, o, none⟩) ∧ (∀ b o, b < W.heap.size → w1.frozen? ⟨b, o, none⟩ = W.frozen? ⟨b, o, none⟩) :=
  ⟨fun b o h => hb.cell (p := ⟨b, o, none⟩) h, fun b o h => hb.frozen (p := ⟨b, o, none⟩) h⟩
theorem heap_at (w : World) (x : Obj) {g : Nat} (h : g = w.heap.size) : (w.alloc x).heap[g]? = some x := by
  subst h
  unfold World.alloc
  rw [Array.getElem?_push, if_pos rfl]
theorem heap_lt (w : World) (x : Obj) {g : Nat} {y : Obj} (h : w.heap[g]? = some y) : (w.alloc x).heap[g]? = some y := by
  have := (Array.getElem?_eq_some_iff.1 h).1
  unfold World.alloc
  rw [Array.getElem?_push, if_neg (by omega)]
  exact h
section
variable (u0 u1 u2 u3 u4 u5 u6 u7 u8 u9 u10 : Value) (n : Int) (w : World)
/-- The world at the call of the node. -/
abbrev runW : World := ((w.alloc (.cells #[u0, u1, u2, u3, u4, u5, u6, u7, u8, u9, u10] 95)).alloc (.cells #[.int .i64 0, .int .i64 0, .string ⟨#[]⟩, .bool false] 46)).alloc (.cells #[.nilIface] 92)
theorem runW_below : Below w.heap.size w (runW u0 u1 u2 u3 u4 u5 u6 u7 u8 u9 u10 w) := (((Below.refl _ _).alloc (Nat.le_refl _) _).alloc (by simp) _).alloc (by simp; omega) _
theorem runW_v (j : Nat) (v : Value) (h : (#[.int .i64 0, .int .i64 0, .string ⟨#[]⟩, .bool false] : Array Value)[j]? = some v) : (runW u0 u1 u2 u3 u4 u5 u6 u7 u8 u9 u10 w).cell? ⟨w.heap.size + 1, j, none⟩ = some v := by
  unfold runW
  rw [World.cell?_alloc_lt _ _ ⟨w.heap.size + 1, j, none⟩ (by simp), World.cell?_alloc_at _ _ _ _ (by simp)]
  exact h
theorem run_walk_ok (k m : Int) (s : ByteArray) (t : Bool)
    (hn : ∀ W : World, Below w.heap.size w W → Calls Tryd.prog 66 #[.agg #[u0, u1, u2, u3, u4, u5, u6, u7, u8, u9, u10], .int .i64 n] W fun e W' => e = .returned (.agg #[.int .i64 k, .int .i64 m, .string s, .bool t]) ∧ Below W.heap.size W W') :
    Calls Tryd.prog 40 #[.agg #[u0, u1, u2, u3, u4, u5, u6, u7, u8, u9, u10], .int .i64 n] w fun e w' => e = .returned (.tuple #[.agg #[.int .i64 k, .int .i64 m, .string s, .bool t], .nilIface]) ∧ Below w.heap.size w w' := by
  have hmf : ∀ (fn : Fn) (first cap : Array Value) (w : World), (Instr.makeFunc fn first cap).run Tryd.prog w = .ok (.func fn first cap) w := fun _ _ _ _ => rfl
  have hn := hn _ (runW_below u0 u1 u2 u3 u4 u5 u6 u7 u8 u9 u10 w)
  have hb0 := Lib.hid (runW_below u0 u1 u2 u3 u4 u5 u6 u7 u8 u9 u10 w)
  go_enter_defers Tryd.func40, Tryd.ntmps40
  go_wp2_with (go_at_call 66; refine hn.mono ?_; rintro e W' ⟨rfl, hb⟩; (obtain ⟨hc, hf⟩ := bcell hb); (have hB := Lib.hid hb); clear hb)
  have z0 : W'.cell? ⟨w.heap.size + 1, 0, none⟩ = some (.int .i64 0) := by rw [hc _ _ (by simp)]; exact runW_v u0 u1 u2 u3 u4 u5 u6 u7 u8 u9 u10 w 0 _ rfl
  have z1 : W'.cell? ⟨w.heap.size + 1, 1, none⟩ = some (.int .i64 0) := by rw [hc _ _ (by simp)]; exact runW_v u0 u1 u2 u3 u4 u5 u6 u7 u8 u9 u10 w 1 _ rfl
  have z2 : W'.cell? ⟨w.heap.size + 1, 2, none⟩ = some (.string ⟨#[]⟩) := by rw [hc _ _ (by simp)]; exact runW_v u0 u1 u2 u3 u4 u5 u6 u7 u8 u9 u10 w 2 _ rfl
  have z3 : W'.cell? ⟨w.heap.size + 1, 3, none⟩ = some (.bool false) := by rw [hc _ _ (by simp)]; exact runW_v u0 u1 u2 u3 u4 u5 u6 u7 u8 u9 u10 w 3 _ rfl
  have z4 : W'.cell? ⟨w.heap.size + 1 + 1, 0, none⟩ = some .nilIface := by rw [hc _ _ (by simp)]; exact World.cell?_alloc_at _ _ _ _ (by simp)
  clear hc hf
  refine leaves_cons (f := 65) (args := #[.pointer (some ⟨w.heap.size + 1, 0, none⟩), .pointer (some ⟨w.heap.size + 1 + 1, 0, none⟩)]) (by simp) (by simp [go_sem]) ?_
  refine (run1_idle _ _ _).mono ?_
  rintro e u' w'' ⟨rfl, rfl, rfl⟩
  simp [Leaves, settle, results, Tryd.results40, go_sem, z0, z1, z2, z3, z4]
  exact (((((hb0.out.trans (hB.out.mono (by simp; omega))).setCell (by simp) _).setCell (by simp) _).setCell (by simp) _).setCell (by simp) _).setCell (by simp; omega) _
theorem run_walk_err (at_ e : Int)
    (hn : ∀ W : World, Below w.heap.size w W → Calls Tryd.prog 66 #[.agg #[u0, u1, u2, u3, u4, u5, u6, u7, u8, u9, u10], .int .i64 n] W fun ev W' => ev = .panicked [{ v := wrongX at_ e, recovered := false }] ∧ Below W.heap.size W W') :
    Calls Tryd.prog 40 #[.agg #[u0, u1, u2, u3, u4, u5, u6, u7, u8, u9, u10], .int .i64 n] w fun ev w' => ev = .returned (.tuple #[.agg #[.int .i64 0, .int .i64 0, .string ⟨#[]⟩, .bool false], wrongX at_ e]) ∧ Below w.heap.size w w' := by
  have hmf : ∀ (fn : Fn) (first cap : Array Value) (w : World), (Instr.makeFunc fn first cap).run Tryd.prog w = .ok (.func fn first cap) w := fun _ _ _ _ => rfl
  have hn := hn _ (runW_below u0 u1 u2 u3 u4 u5 u6 u7 u8 u9 u10 w)
  have hb0 := Lib.hid (runW_below u0 u1 u2 u3 u4 u5 u6 u7 u8 u9 u10 w)
  go_enter_defers Tryd.func40, Tryd.ntmps40
  go_wp2_with (go_at_call 66; refine hn.mono ?_; rintro e W' ⟨rfl, hb⟩; (obtain ⟨hc, hf⟩ := bcell hb); (have hB := Lib.hid hb))
  have h1 : W'.heap[w.heap.size + 1]? = some (.cells #[.int .i64 0, .int .i64 0, .string ⟨#[]⟩, .bool false] 46 (0, 0)) := by
    rw [hb.block _ (by simp)]
    exact heap_lt _ _ (heap_at _ _ (by simp))
  have h2 : W'.heap[w.heap.size + 1 + 1]? = some (.cells #[.nilIface] 92 (0, 0)) := by
    rw [hb.block _ (by simp)]
    exact heap_at _ _ (by simp)
  have hsz : w.heap.size + 1 + 1 < W'.heap.size := (Array.getElem?_eq_some_iff.1 h2).1
  clear hc hf
  refine leaves_cons (f := 65) (args := #[.pointer (some ⟨w.heap.size + 1, 0, none⟩), .pointer (some ⟨w.heap.size + 1 + 1, 0, none⟩)]) (by simp) (by simp [go_sem]) ?_
  refine (run1_pan _ _ w.heap.size at_ e _ _ _ _ _ _ (by omega) h1 h2 (by omega)).mono ?_
  rintro ev u' w'' ⟨rfl, rfl, ⟨z0, z1, z2, z3, z4⟩, hb2⟩
  simp [Leaves, settle, results, Tryd.results40, go_sem, z0, z1, z2, z3, z4]
  exact (hb0.out.trans (hB.out.mono (by simp; omega))).trans hb2
end
end Go.Proofs.YtdfdiglnpekcpabDoor.Ab
