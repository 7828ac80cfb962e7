/-
  errors.As at an expression's error, errors.Is at its number, walked. No claim is proved here.
-/
import Derived.Test.YtdfdiglnpekcpabDoorWK1
namespace Go.Proofs.YtdfdiglnpekcpabDoor.Ab
open Go Go.RowKit Go.Extern.Stop Go.Stop Go.Extern
set_option linter.unusedSimpArgs false
set_option maxHeartbeats 4000000
set_option maxRecDepth 100000
abbrev tW : Nat := 128
abbrev tPW : Nat := 132
abbrev tE : Nat := 47
abbrev tErr : Nat := 92
abbrev tRt : Nat := 205
abbrev tRv : Nat := 172
/-- The block of the types' handles. -/
abbrev hB : Nat := 7
abbrev rtp (t : Nat) : Value := .agg #[.pointer (some ⟨hB, t, none⟩)]
theorem as_nil (t : Value) (w : World) : Calls Tryd.prog 67 #[.nilIface, t] w fun e w' => e = .returned (.bool false) ∧ w' = w := by
  go_enter Tryd.func67, Tryd.ntmps67
  go_wp2
  go_ret
  exact ⟨rfl, rfl⟩
theorem valueOfP (t : Addr) (w : World) : (ReflectliteValue.unpack (.iface tPW (.pointer (some t)))).run Tryd.prog w = .ok (.agg #[.pointer (some ⟨hB, tPW, none⟩), .pointer (some ⟨w.heap.size, 0, none⟩), .int .u64 150]) (w.alloc (.cells #[.pointer (some t)] tPW)) := by kernel_rfl
theorem typeP (a : Addr) (w : World) : (ReflectliteValue.methodAny (ReflectliteValue.valueError "reflectlite.Value.Type" 0) (fun t _ _ _ => ReflectliteType.toType t) #[.agg #[.pointer (some ⟨hB, tPW, none⟩), .pointer (some a), .int .u64 150]]).run Tryd.prog w = .ok (.iface tRt (rtp tPW)) w := by kernel_rfl
theorem kindP (w : World) : ((ReflectliteType.abiMethod fun t => (fun a : Nat => Value.int IntKind.u8 (a : Int)) <$> Rtype.kind t) #[.pointer (some ⟨hB, tPW, none⟩)]).run Tryd.prog w = .ok (.int .u8 22) w := by kernel_rfl
theorem kindW (w : World) : ((ReflectliteType.abiMethod fun t => (fun a : Nat => Value.int IntKind.u8 (a : Int)) <$> Rtype.kind t) #[.pointer (some ⟨hB, tW, none⟩)]).run Tryd.prog w = .ok (.int .u8 25) w := by kernel_rfl
theorem rlm (z : Sem Value) (f : TypeId → Addr → Nat → Nat → Sem Value) (v : Value) : ReflectliteValue.method z f #[v] = (do match ← ReflectliteValue.parts v with | none => z | some (t, a, fl) => f t a fl (fl % 32)) := rfl
theorem partsP (a : Addr) (w : World) : (ReflectliteValue.parts (.agg #[.pointer (some ⟨hB, tPW, none⟩), .pointer (some a), .int .u64 150])).run Tryd.prog w = .ok (some (tPW, a, 150)) w := by kernel_rfl
theorem isNilP (a p : Addr) (W : World) (ha : W.cell? a = some (.pointer (some p))) : (ReflectliteValue.method (ReflectliteValue.valueError "reflectlite.Value.IsNil" 0) ReflectliteValue.isNil #[.agg #[.pointer (some ⟨hB, tPW, none⟩), .pointer (some a), .int .u64 150]]).run Tryd.prog W = .ok (.bool false) W := by
  rw [rlm]
  simp only [Sem.run_bind, partsP, Result.andThen]
  simp [ReflectliteValue.isNil, loadVar, isAgg, underlying, Tryd.underlying132, ha, Result.andThen]
theorem elemP (w : World) : (ReflectliteType.method ReflectliteType.elem #[rtp tPW]).run Tryd.prog w = .ok (.iface tRt (rtp tW)) w := by kernel_rfl
theorem implementsW (w : World) : (ReflectliteType.relation "Implements" ReflectliteType.implements_ #[rtp tW, .iface tRt (rtp tErr)]).run Tryd.prog w = .ok (.bool true) w := by kernel_rfl
theorem typeOfW (v : Value) (w : World) : (ReflectliteType.typeOf #[.iface tW v]).run Tryd.prog w = .ok (.iface tRt (rtp tW)) w := by kernel_rfl
theorem typeOfE (v : Value) (w : World) : (ReflectliteType.typeOf #[.iface tE v]).run Tryd.prog w = .ok (.iface tRt (rtp tE)) w := by kernel_rfl
theorem assignableW (w : World) : (ReflectliteType.relation "AssignableTo" ReflectliteType.assignableTo #[rtp tW, .iface tRt (rtp tW)]).run Tryd.prog w = .ok (.bool true) w := by kernel_rfl
theorem valueOfW (x y : Value) (w : World) : (ReflectliteValue.unpack (.iface tW (.agg #[x, y]))).run Tryd.prog w = .ok (.agg #[.pointer (some ⟨hB, tW, none⟩), .pointer (some ⟨w.heap.size, 0, none⟩), .int .u64 153]) (w.alloc (.cells #[x, y] tW)) := by kernel_rfl
theorem elemOfP (w : World) : (Rtype.elem? tPW).run Tryd.prog w = .ok (some tW) w := by kernel_rfl
theorem mkW (p : Addr) (w : World) : (ReflectliteValue.mk tW p ReflectliteValue.flagAddr).run Tryd.prog w = .ok (.agg #[.pointer (some ⟨hB, tW, none⟩), .pointer (some p), .int .u64 409]) w := by kernel_rfl
theorem elemVP (a p : Addr) (W : World) (ha : W.cell? a = some (.pointer (some p))) : (ReflectliteValue.method (ReflectliteValue.valueError "reflectlite.Value.Elem" 0) ReflectliteValue.elem #[.agg #[.pointer (some ⟨hB, tPW, none⟩), .pointer (some a), .int .u64 150]]).run Tryd.prog W = .ok (.agg #[.pointer (some ⟨hB, tW, none⟩), .pointer (some p), .int .u64 409]) W := by
  rw [rlm]
  simp only [Sem.run_bind, partsP, Result.andThen]
  simp [ReflectliteValue.elem, loadVar, isAgg, underlying, Tryd.underlying132, ha, Result.andThen, elemOfP, mkW]
theorem comparableE (w : World) : ((ReflectliteType.method fun t => do Rtype.noPackHeld "Comparable" t; (fun a => Value.bool a.comparable) <$> typeInfo t) #[rtp tE]).run Tryd.prog w = .ok (.bool true) w := by kernel_rfl
theorem isLacksW (v : Value) (xT : TypeId) (w : World) : (Instr.typeAssert (.iface tW v) xT 217 true).run Tryd.prog w = .ok (.tuple #[.nilIface, .bool false]) w := run_typeAssert_lacksB Tryd.underlying217 (by kernel_rfl) (by kernel_rfl) v xT w
theorem isLacksE (v : Value) (xT : TypeId) (w : World) : (Instr.typeAssert (.iface tE v) xT 217 true).run Tryd.prog w = .ok (.tuple #[.nilIface, .bool false]) w := run_typeAssert_lacksB Tryd.underlying217 (by kernel_rfl) (by kernel_rfl) v xT w
theorem unwrapHasW (v : Value) (xT : TypeId) (w : World) : (Instr.typeAssert (.iface tW v) xT 212 true).run Tryd.prog w = .ok (.tuple #[.iface tW v, .bool true]) w := run_typeAssert_hasB Tryd.underlying212 (by kernel_rfl) v xT w
theorem unwrapLacksE (v : Value) (xT : TypeId) (w : World) : (Instr.typeAssert (.iface tE v) xT 212 true).run Tryd.prog w = .ok (.tuple #[.nilIface, .bool false]) w := run_typeAssert_lacksB Tryd.underlying212 (by kernel_rfl) (by kernel_rfl) v xT w
theorem unwrapsLacksE (v : Value) (xT : TypeId) (w : World) : (Instr.typeAssert (.iface tE v) xT 214 true).run Tryd.prog w = .ok (.tuple #[.nilIface, .bool false]) w := run_typeAssert_lacksB Tryd.underlying214 (by kernel_rfl) (by kernel_rfl) v xT w
theorem eqlEE (a b : Int) (w : World) : (binOp .eql tErr (.iface tE (.int .i64 a)) (.iface tE (.int .i64 b))).run Tryd.prog w = .ok (.bool (a == b)) w := by kernel_rfl
end Go.Proofs.YtdfdiglnpekcpabDoor.Ab
