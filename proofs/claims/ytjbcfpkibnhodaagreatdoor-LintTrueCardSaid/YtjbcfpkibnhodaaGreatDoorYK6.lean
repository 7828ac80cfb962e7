/-
  errors.As at an expression's error, errors.Is at its number, walked. errors.As at an expression's error, errors.Is at its number: the walks. eval.frame.run, walked. eval.frame.run, errors.As, errors.Is, errno: contracts. errors.Is, eval.errno: contracts. No claim is proved here.
-/
import Derived.Lib.Hide
import Derived.Test.YtjbcfpkibnhodaaGreatDoorYV8
import Derived.Deep.Heap
set_option linter.unusedSimpArgs false
set_option maxHeartbeats 4000000
set_option maxRecDepth 100000
namespace Go.Proofs.YtjbcfpkibnhodaaGreatDoor.Ab
open Go Go.RowKit Go.Extern.Stop Go.Stop Go.Extern
abbrev tW:Nat:=317
abbrev tPW:Nat:=321
abbrev tE:Nat:=217
abbrev tErr:Nat:=170
abbrev tRt:Nat:=383
abbrev tRv:Nat:=353
abbrev hB:Nat:=11
abbrev rtp (t:Nat):Value:=.agg #[.pointer (some ⟨hB,t,none⟩)]
theorem an13 (t:Value) (w:World):Calls Tryz.prog 259 #[.nilIface,t] w fun e w'=>e= .returned (.bool false)∧w'=w:=by
 go_enter Tryz.func259,Tryz.ntmps259
 go_wp2
 go_ret
 exact⟨rfl,rfl⟩
theorem v14 (t:Addr) (w:World):(ReflectliteValue.unpack (.iface tPW (.pointer (some t)))).run Tryz.prog w= .ok (.agg #[.pointer (some ⟨hB,tPW,none⟩),.pointer (some ⟨w.heap.size,0,none⟩),.int .u64 150]) (w.alloc (.cells #[.pointer (some t)] tPW)):=by kernel_rfl
theorem t33 (a:Addr) (w:World):(ReflectliteValue.methodAny (ReflectliteValue.valueError "reflectlite.Value.Type" 0) (fun t _ _ _ =>ReflectliteType.toType t) #[.agg #[.pointer (some ⟨hB,tPW,none⟩),.pointer (some a),.int .u64 150]]).run Tryz.prog w= .ok (.iface tRt (rtp tPW)) w:=by kernel_rfl
theorem k19 (w:World):((ReflectliteType.abiMethod fun t=>(fun a:Nat=>Value.int IntKind.u8 (a:Int))<$>Rtype.kind t) #[.pointer (some ⟨hB,tPW,none⟩)]).run Tryz.prog w= .ok (.int .u8 22) w:=by kernel_rfl
theorem k18 (w:World):((ReflectliteType.abiMethod fun t=>(fun a:Nat=>Value.int IntKind.u8 (a:Int))<$>Rtype.kind t) #[.pointer (some ⟨hB,tW,none⟩)]).run Tryz.prog w= .ok (.int .u8 25) w:=by kernel_rfl
theorem rlm (z:Sem Value) (f:TypeId→Addr→Nat→Nat→Sem Value) (v:Value):ReflectliteValue.method z f #[v]=(do match ←ReflectliteValue.parts v with | none=>z | some (t,a,fl)=>f t a fl (fl % 32)):=rfl
theorem p17 (a:Addr) (w:World):(ReflectliteValue.parts (.agg #[.pointer (some ⟨hB,tPW,none⟩),.pointer (some a),.int .u64 150])).run Tryz.prog w= .ok (some (tPW,a,150)) w:=by kernel_rfl
theorem i22 (a p:Addr) (W:World) (ha:W.cell? a=some (.pointer (some p))):(ReflectliteValue.method (ReflectliteValue.valueError "reflectlite.Value.IsNil" 0) ReflectliteValue.isNil #[.agg #[.pointer (some ⟨hB,tPW,none⟩),.pointer (some a),.int .u64 150]]).run Tryz.prog W= .ok (.bool false) W:=by
 rw[rlm]
 simp only[Sem.run_bind,p17,Result.andThen]
 simp [ReflectliteValue.isNil,loadVar,isAgg,underlying,Tryz.underlying321,ha,Result.andThen]
theorem e23 (w:World):(ReflectliteType.method ReflectliteType.elem #[rtp tPW]).run Tryz.prog w= .ok (.iface tRt (rtp tW)) w:=by kernel_rfl
theorem i15 (w:World):(ReflectliteType.relation "Implements" ReflectliteType.implements_ #[rtp tW,.iface tRt (rtp tErr)]).run Tryz.prog w= .ok (.bool true) w:=by kernel_rfl
theorem t29 (v:Value) (w:World):(ReflectliteType.typeOf #[.iface tW v]).run Tryz.prog w= .ok (.iface tRt (rtp tW)) w:=by kernel_rfl
theorem t30 (v:Value) (w:World):(ReflectliteType.typeOf #[.iface tE v]).run Tryz.prog w= .ok (.iface tRt (rtp tE)) w:=by kernel_rfl
theorem a29 (w:World):(ReflectliteType.relation "AssignableTo" ReflectliteType.assignableTo #[rtp tW,.iface tRt (rtp tW)]).run Tryz.prog w= .ok (.bool true) w:=by kernel_rfl
theorem v13 (x y:Value) (w:World):(ReflectliteValue.unpack (.iface tW (.agg #[x,y]))).run Tryz.prog w= .ok (.agg #[.pointer (some ⟨hB,tW,none⟩),.pointer (some ⟨w.heap.size,0,none⟩),.int .u64 153]) (w.alloc (.cells #[x,y] tW)):=by kernel_rfl
theorem e20 (w:World):(Rtype.elem? tPW).run Tryz.prog w= .ok (some tW) w:=by kernel_rfl
theorem mkW (p:Addr) (w:World):(ReflectliteValue.mk tW p ReflectliteValue.flagAddr).run Tryz.prog w= .ok (.agg #[.pointer (some ⟨hB,tW,none⟩),.pointer (some p),.int .u64 409]) w:=by kernel_rfl
theorem e21 (a p:Addr) (W:World) (ha:W.cell? a=some (.pointer (some p))):(ReflectliteValue.method (ReflectliteValue.valueError "reflectlite.Value.Elem" 0) ReflectliteValue.elem #[.agg #[.pointer (some ⟨hB,tPW,none⟩),.pointer (some a),.int .u64 150]]).run Tryz.prog W= .ok (.agg #[.pointer (some ⟨hB,tW,none⟩),.pointer (some p),.int .u64 409]) W:=by
 rw[rlm]
 simp only[Sem.run_bind,p17,Result.andThen]
 simp [ReflectliteValue.elem,loadVar,isAgg,underlying,Tryz.underlying321,ha,Result.andThen,e20,mkW]
theorem c23 (w:World):((ReflectliteType.method fun t=>do Rtype.noPackHeld "Comparable" t;(fun a=>Value.bool a.comparable)<$>typeInfo t) #[rtp tE]).run Tryz.prog w= .ok (.bool true) w:=by kernel_rfl
theorem i16 (v:Value) (xT:TypeId) (w:World):(Instr.typeAssert (.iface tW v) xT 395 true).run Tryz.prog w= .ok (.tuple #[.nilIface,.bool false]) w:=run_typeAssert_lacksB Tryz.underlying395 (by kernel_rfl) (by kernel_rfl) v xT w
theorem i17 (v:Value) (xT:TypeId) (w:World):(Instr.typeAssert (.iface tE v) xT 395 true).run Tryz.prog w= .ok (.tuple #[.nilIface,.bool false]) w:=run_typeAssert_lacksB Tryz.underlying395 (by kernel_rfl) (by kernel_rfl) v xT w
theorem u19 (v:Value) (xT:TypeId) (w:World):(Instr.typeAssert (.iface tW v) xT 390 true).run Tryz.prog w= .ok (.tuple #[.iface tW v,.bool true]) w:=run_typeAssert_hasB Tryz.underlying390 (by kernel_rfl) v xT w
theorem u17 (v:Value) (xT:TypeId) (w:World):(Instr.typeAssert (.iface tE v) xT 390 true).run Tryz.prog w= .ok (.tuple #[.nilIface,.bool false]) w:=run_typeAssert_lacksB Tryz.underlying390 (by kernel_rfl) (by kernel_rfl) v xT w
theorem u14 (v:Value) (xT:TypeId) (w:World):(Instr.typeAssert (.iface tE v) xT 392 true).run Tryz.prog w= .ok (.tuple #[.nilIface,.bool false]) w:=run_typeAssert_lacksB Tryz.underlying392 (by kernel_rfl) (by kernel_rfl) v xT w
theorem e22 (a b:Int) (w:World):(binOp .eql tErr (.iface tE (.int .i64 a)) (.iface tE (.int .i64 b))).run Tryz.prog w= .ok (.bool (a==b)) w:=by kernel_rfl
end Go.Proofs.YtjbcfpkibnhodaaGreatDoor.Ab
namespace Go.Proofs.YtjbcfpkibnhodaaGreatDoor.Ab
open Go Go.RowKit Go.Extern.Stop Go.Stop Go.Extern
abbrev a17 (w:World) (b:Nat) (_x _y:Value):World:=((w.alloc (.cells #[.pointer (some ⟨b,0,none⟩)] tPW)).alloc (.cells #[.pointer (some ⟨hB,tPW,none⟩),.pointer (some ⟨w.heap.size,0,none⟩),.int .u64 150] tRv)).alloc (.cells #[.pointer (some ⟨hB,tPW,none⟩),.pointer (some ⟨w.heap.size,0,none⟩),.int .u64 150] tRv)
theorem setW (b c:Nat) (x y x0 y0:Value) (W:World) (h1:x.oneCell'=true) (h2:y.oneCell'=true) (hc0:W.cell? ⟨c,0,none⟩=some x) (hc1:W.cell? ⟨c,1,none⟩=some y) (ht0:W.cell? ⟨b,0,none⟩=some x0) (ht1:W.cell? ⟨b,1,none⟩=some y0) (hf0:W.frozen? ⟨b,0,none⟩=false) (hf1:W.frozen? ⟨b,1,none⟩=false):
  (ReflectliteValue.set #[.agg #[.pointer (some ⟨hB,tW,none⟩),.pointer (some ⟨b,0,none⟩),.int .u64 409],.agg #[.pointer (some ⟨hB,tW,none⟩),.pointer (some ⟨c,0,none⟩),.int .u64 153]]).run Tryz.prog W= .ok (.tuple #[]) ((W.setCell ⟨b,0,none⟩ x).setCell ⟨b,1,none⟩ y):=by
 have p1:(ReflectliteValue.parts (.agg #[.pointer (some ⟨hB,tW,none⟩),.pointer (some ⟨b,0,none⟩),.int .u64 409])).run Tryz.prog W= .ok (some (tW,⟨b,0,none⟩,409)) W:=by kernel_rfl
 have p2:(ReflectliteValue.parts (.agg #[.pointer (some ⟨hB,tW,none⟩),.pointer (some ⟨c,0,none⟩),.int .u64 153])).run Tryz.prog W= .ok (some (tW,⟨c,0,none⟩,153)) W:=by kernel_rfl
 have p3:∀w:World,(Rtype.directlyAssignable tW tW).run Tryz.prog w= .ok true w:=fun w=>by kernel_rfl
 have p4:∀w:World,(isAgg tW).run Tryz.prog w= .ok true w:=fun w=>by kernel_rfl
 have p5:∀w:World,(sizeOf tW).run Tryz.prog w= .ok 2 w:=fun w=>by kernel_rfl
 have hl:(loadVar tW ⟨c,0,none⟩).run Tryz.prog W= .ok (.agg #[x,y]) W:=by
  have hc:(loadCells ⟨c,0,none⟩ 2).run Tryz.prog W= .ok #[x,y] W:=run_loadCells_list (w:=W) (P:=Tryz.prog) ⟨c,0,none⟩ [x,y] (fun j v hj=>by
   match j,hj with
   | 0,hj=>cases hj;exact hc0
   | 1,hj=>cases hj;exact hc1)
  unfold loadVar
  simp only[Sem.run_bind,p4,Result.andThen,if_true,p5,hc,Sem.run_pure]
 have s0:(store ⟨b,0,none⟩ x).run Tryz.prog W= .ok () (W.setCell ⟨b,0,none⟩ x):=by rw[run_store _ _ _ _ _ h1];simp [ht0,hf0]
 have s1:(store ⟨b,1,none⟩ y).run Tryz.prog (W.setCell ⟨b,0,none⟩ x)= .ok () ((W.setCell ⟨b,0,none⟩ x).setCell ⟨b,1,none⟩ y):=by rw[run_store _ _ _ _ _ h2];simp [go_sem,ht1,hf1]
 have hs:(storeVar tW ⟨b,0,none⟩ (.agg #[x,y])).run Tryz.prog W= .ok () ((W.setCell ⟨b,0,none⟩ x).setCell ⟨b,1,none⟩ y):=by
  unfold storeVar
  simp only[Sem.run_bind,p5,Result.andThen]
  simp [Value.cells,storeCells,Ab.add_at,s0,s1,Result.andThen]
 have rls:∀v z:Value,ReflectliteValue.set #[v,z]=(do
  let (some (dst,a,fl),some (src,b,_)):=(←ReflectliteValue.parts v,←ReflectliteValue.parts z)
   | unsupported (.noEntry "extern/(internal/reflectlite.Value).Set.zeroValue")
  if fl / ReflectliteValue.flagAddr % 2==0 then unsupported (.noEntry "extern/(internal/reflectlite.Value).Set.unaddressable")
  let val ←loadVar src b
  if ←Rtype.directlyAssignable dst src then storeVar dst a val
  else if ←Rtype.implements dst src then
   if (←Rtype.kind src)==20 then
    match val with
    | .nilIface=>unsupported (.noEntry "extern/reflectlite: a nil value of one interface type handed on as a value of another")
    | _ =>storeVar dst a val
   else storeVar dst a (.iface src val)
  else panicString ("reflectlite.Set: value of type " ++(←Rtype.spelt src)++ " is not assignable to type " ++(←Rtype.spelt dst))
  pure (.tuple #[])):=fun _ _ =>rfl
 rw[rls]
 simp only[Sem.run_bind,p1,p2,Result.andThen]
 simp [ReflectliteValue.flagAddr,hl,hs,p3,Result.andThen]
theorem ah10 (b:Nat) (x y x0 y0:Value) (w:World) (h1:x.oneCell'=true) (h2:y.oneCell'=true) (hg:w.cell? ⟨6,0,none⟩=some (.iface tRt (rtp tErr))) (ht0:w.cell? ⟨b,0,none⟩=some x0) (ht1:w.cell? ⟨b,1,none⟩=some y0) (hf0:w.frozen? ⟨b,0,none⟩=false) (hf1:w.frozen? ⟨b,1,none⟩=false):
  Calls Tryz.prog 259 #[.iface tW (.agg #[x,y]),.iface tPW (.pointer (some ⟨b,0,none⟩))] w fun ev w'=>ev= .returned (.bool true)∧w'=(((a17 w b x y).alloc (.cells #[x,y] tW)).setCell ⟨b,0,none⟩ x).setCell ⟨b,1,none⟩ y:=by
 have h6:=@run_callFunc_extern Tryz.prog 279 _ (fun args=>ReflectliteValue.unpack (args.getD 0 (.tuple #[]))) Tryz.func279 (by kernel_rfl) (by kernel_rfl) (by kernel_rfl) (by kernel_rfl)
 have h7:=@run_callFunc_extern Tryz.prog 280 _ (ReflectliteValue.methodAny (ReflectliteValue.valueError "reflectlite.Value.Type" 0) (fun t _ _ _ =>ReflectliteType.toType t)) Tryz.func280 (by kernel_rfl) (by kernel_rfl) (by kernel_rfl) (by kernel_rfl)
 have h8:=@run_callFunc_extern Tryz.prog 281 _ (ReflectliteValue.method (ReflectliteValue.valueError "reflectlite.Value.IsNil" 0) ReflectliteValue.isNil) Tryz.func281 (by kernel_rfl) (by kernel_rfl) (by kernel_rfl) (by kernel_rfl)
 have h27:=@run_callFunc_extern Tryz.prog 327 _ (ReflectliteType.abiMethod fun t=>do pure (.int .u8 (←Rtype.kind t))) Tryz.func327 (by kernel_rfl) (by kernel_rfl) (by kernel_rfl) (by kernel_rfl)
 have h37:=@run_callFunc_extern Tryz.prog 340 _ (ReflectliteType.method ReflectliteType.elem) Tryz.func340 (by kernel_rfl) (by kernel_rfl) (by kernel_rfl) (by kernel_rfl)
 have h38:=@run_callFunc_extern Tryz.prog 341 _ (ReflectliteType.relation "Implements" ReflectliteType.implements_) Tryz.func341 (by kernel_rfl) (by kernel_rfl) (by kernel_rfl) (by kernel_rfl)
 have h10:=@run_callFunc_extern Tryz.prog 283 _ ReflectliteType.typeOf Tryz.func283 (by kernel_rfl) (by kernel_rfl) (by kernel_rfl) (by kernel_rfl)
 have h35:=@run_callFunc_extern Tryz.prog 338 _ (ReflectliteType.relation "AssignableTo" ReflectliteType.assignableTo) Tryz.func338 (by kernel_rfl) (by kernel_rfl) (by kernel_rfl) (by kernel_rfl)
 have h11:=@run_callFunc_extern Tryz.prog 301 _ (ReflectliteValue.method (ReflectliteValue.valueError "reflectlite.Value.Elem" 0) ReflectliteValue.elem) Tryz.func301 (by kernel_rfl) (by kernel_rfl) (by kernel_rfl) (by kernel_rfl)
 have h12:=@run_callFunc_extern Tryz.prog 302 _ ReflectliteValue.set Tryz.func302 (by kernel_rfl) (by kernel_rfl) (by kernel_rfl) (by kernel_rfl)
 have tO:=t29
 have a25:=a29
 have v25:=v13
 have f6:=v14
 have f7:=t33
 have k27:=k19
 have k25:=k18
 have e27:=e23
 have i25:=i15
 have hlt:6<w.heap.size:=by
  rcases Nat.lt_or_ge 6 w.heap.size with h | h
  ·exact h
  ·simp [World.cell?,Array.getElem?_eq_none h] at hg
 have htl:b<w.heap.size:=by
  rcases Nat.lt_or_ge b w.heap.size with h | h
  ·exact h
  ·simp [World.cell?,Array.getElem?_eq_none h] at ht0
 have mK:∀(h:Value) (w:World),(Go.method 530 tRt (.agg #[h]) "Kind").run Tryz.prog w= .ok (327,h) w:=fun _ _ =>by kernel_rfl
 have mE:∀(h:Value) (w:World),(Go.method 530 tRt (.agg #[h]) "Elem").run Tryz.prog w= .ok (340,.agg #[h]) w:=fun _ _ =>by kernel_rfl
 have mI:∀(h:Value) (w:World),(Go.method 530 tRt (.agg #[h]) "Implements").run Tryz.prog w= .ok (341,.agg #[h]) w:=fun _ _ =>by kernel_rfl
 have mA:∀(h:Value) (w:World),(Go.method 530 tRt (.agg #[h]) "AssignableTo").run Tryz.prog w= .ok (338,.agg #[h]) w:=fun _ _ =>by kernel_rfl
 have n8:=i22 ⟨w.heap.size,0,none⟩ ⟨b,0,none⟩ ((w.alloc (.cells #[.pointer (some ⟨b,0,none⟩)] tPW)).alloc (.cells #[.pointer (some ⟨hB,tPW,none⟩),.pointer (some ⟨w.heap.size,0,none⟩),.int .u64 150] tRv)) (by simp)
 have hg2:((w.alloc (.cells #[.pointer (some ⟨b,0,none⟩)] tPW)).alloc (.cells #[.pointer (some ⟨hB,tPW,none⟩),.pointer (some ⟨w.heap.size,0,none⟩),.int .u64 150] tRv)).cell? ⟨6,0,none⟩=some (.iface tRt (rtp tErr)):=by
  rw[World.cell?_alloc_lt _ _ ⟨6,0,none⟩ (by simp;omega),World.cell?_alloc_lt _ _ ⟨6,0,none⟩ hlt];exact hg
 have el:=e21 ⟨w.heap.size,0,none⟩ ⟨b,0,none⟩ (a17 w b x y) (by unfold a17;rw[World.cell?_alloc_lt _ _ ⟨w.heap.size,0,none⟩ (by simp;omega)];simp)
 have st:=setW b (w.heap.size+1+1+1) x y x0 y0 ((a17 w b x y).alloc (.cells #[x,y] tW)) h1 h2 (by rw[World.cell?_alloc_at _ _ _ _ (by simp)];rfl) (by rw[World.cell?_alloc_at _ _ _ _ (by simp)];rfl)
  (by rw[World.cell?_alloc_lt _ _ ⟨b,0,none⟩ (by simp;omega),World.cell?_alloc_lt _ _ ⟨b,0,none⟩ (by simp;omega),World.cell?_alloc_lt _ _ ⟨b,0,none⟩ (by simp;omega),World.cell?_alloc_lt _ _ ⟨b,0,none⟩ htl];exact ht0)
  (by rw[World.cell?_alloc_lt _ _ ⟨b,1,none⟩ (by simp;omega),World.cell?_alloc_lt _ _ ⟨b,1,none⟩ (by simp;omega),World.cell?_alloc_lt _ _ ⟨b,1,none⟩ (by simp;omega),World.cell?_alloc_lt _ _ ⟨b,1,none⟩ htl];exact ht1)
  (by rw[World.frozen?_alloc_old _ _ ⟨b,0,none⟩ (by simp;omega),World.frozen?_alloc_old _ _ ⟨b,0,none⟩ (by simp;omega),World.frozen?_alloc_old _ _ ⟨b,0,none⟩ (by simp;omega),World.frozen?_alloc_old _ _ ⟨b,0,none⟩ (Nat.ne_of_lt htl)];exact hf0)
  (by rw[World.frozen?_alloc_old _ _ ⟨b,1,none⟩ (by simp;omega),World.frozen?_alloc_old _ _ ⟨b,1,none⟩ (by simp;omega),World.frozen?_alloc_old _ _ ⟨b,1,none⟩ (by simp;omega),World.frozen?_alloc_old _ _ ⟨b,1,none⟩ (Nat.ne_of_lt htl)];exact hf1)
 unfold a17 at el st ⊢
 go_enter Tryz.func259,Tryz.ntmps259
 go_wp2
 refine wp_loop_rounds 1 ?_
 rw[rounds_succ]
 go_wp2
 go_ret
 exact⟨rfl,rfl⟩
theorem uw_ (x y:Value) (w:World):Calls Tryz.prog 333 #[.agg #[x,y]] w fun e w'=>e= .returned y∧w'=w.alloc (.cells #[x,y] tW):=by
 go_enter Tryz.func333,Tryz.ntmps333
 go_wp2
 go_ret
 exact⟨rfl,rfl⟩
theorem is12 (a k:Int) (x:Value) (w:World):Calls Tryz.prog 260 #[.iface tW (.agg #[x,.iface tE (.int .i64 a)]),.iface tE (.int .i64 k)] w fun ev w'=>ev= .returned (.bool (a==k))∧Below w.heap.size w w':=by
 have h8:=@run_callFunc_extern Tryz.prog 283 _ ReflectliteType.typeOf Tryz.func283 (by kernel_rfl) (by kernel_rfl) (by kernel_rfl) (by kernel_rfl)
 have h32:=@run_callFunc_extern Tryz.prog 339 _ (ReflectliteType.method fun t=>do Rtype.noPackHeld "Comparable" t;pure (.bool (←typeInfo t).comparable)) Tryz.func339 (by kernel_rfl) (by kernel_rfl) (by kernel_rfl) (by kernel_rfl)
 have tT:=t30
 have cT:=c23
 have mR:∀(h:Value) (w:World),(Go.method 530 tRt (.agg #[h]) "Comparable").run Tryz.prog w= .ok (339,.agg #[h]) w:=fun _ _ =>by kernel_rfl
 have mU:∀(h:Value) (w:World),(Go.method 530 tW h "Unwrap").run Tryz.prog w= .ok (333,h) w:=fun _ _ =>by kernel_rfl
 have nW:=i16
 have nE:=i17
 have uW:=u19
 have uE:=u17
 have vE:=u14
 have hty:=run_eql_iface_types (P:=Tryz.prog) tW tE (.agg #[x,.iface tE (.int .i64 a)]) (.int .i64 k) Tryz.underlying170 (by decide) w
 cases hak:(a==k)
 all_goals
  have heq:∀w:World,(binOp .eql tErr (.iface tE (.int .i64 a)) (.iface tE (.int .i64 k))).run Tryz.prog w= .ok (.bool _) w:=fun w=>by rw[e22 a k,hak]
  clear hak
  go_enter Tryz.func260,Tryz.ntmps260
  go_wp2
  refine wp_loop_rounds 2 ?_
  rw[rounds_succ]
  go_wp2_with (go_at_call 333;refine (uw_ _ _ _).mono ?_;rintro e w' ⟨rfl,rfl⟩)
  rw[rounds_succ]
  go_wp2
  go_ret
  exact⟨rfl,(Below.refl _ _).alloc (Nat.le_refl _) _⟩
end Go.Proofs.YtjbcfpkibnhodaaGreatDoor.Ab
namespace Go.Proofs.YtjbcfpkibnhodaaGreatDoor.Ab
open Go Go.RowKit Go.Extern.Stop Go.Stop Go.Extern
theorem b18 {W w1:World} (hb:Below W.heap.size W w1):(∀b o,b<W.heap.size→w1.cell? ⟨b,o,none⟩=W.cell? ⟨b,o,none⟩)∧(∀b o,b<W.heap.size→w1.frozen? ⟨b,o,none⟩=W.frozen? ⟨b,o,none⟩):=
 ⟨fun b o h=>hb.cell (p:=⟨b,o,none⟩) h,fun b o h=>hb.frozen (p:=⟨b,o,none⟩) h⟩
theorem ha12 (w:World) (x:Obj) {g:Nat} (h:g=w.heap.size):(w.alloc x).heap[g]? =some x:=by
 subst h
 unfold World.alloc
 rw[Array.getElem?_push,if_pos rfl]
theorem hl10 (w:World) (x:Obj) {g:Nat} {y:Obj} (h:w.heap[g]? =some y):(w.alloc x).heap[g]? =some y:=by
 have:=(Array.getElem?_eq_some_iff.1 h).1
 unfold World.alloc
 rw[Array.getElem?_push,if_neg (by omega)]
 exact h
section
variable (u0 u1 u2 u3 u4 u5 u6 u7 u8 u9 u10:Value) (n:Int) (w:World)
abbrev runW:World:=((w.alloc (.cells #[u0,u1,u2,u3,u4,u5,u6,u7,u8,u9,u10] 282)).alloc (.cells #[.int .i64 0,.int .i64 0,.string ⟨#[]⟩,.bool false] 95)).alloc (.cells #[.nilIface] 170)
theorem rb_:Below w.heap.size w (runW u0 u1 u2 u3 u4 u5 u6 u7 u8 u9 u10 w):=(((Below.refl _ _).alloc (Nat.le_refl _) _).alloc (by simp) _).alloc (by simp;omega) _
theorem rv_ (j:Nat) (v:Value) (h:(#[.int .i64 0,.int .i64 0,.string ⟨#[]⟩,.bool false]:Array Value)[j]? =some v):(runW u0 u1 u2 u3 u4 u5 u6 u7 u8 u9 u10 w).cell? ⟨w.heap.size+1,j,none⟩=some v:=by
 unfold runW
 rw[World.cell?_alloc_lt _ _ ⟨w.heap.size+1,j,none⟩ (by simp),World.cell?_alloc_at _ _ _ _ (by simp)]
 exact h
theorem rwo_ (k m:Int) (s:ByteArray) (t:Bool)
  (hn:∀W:World,Below w.heap.size w W→Calls Tryz.prog 258 #[.agg #[u0,u1,u2,u3,u4,u5,u6,u7,u8,u9,u10],.int .i64 n] W fun e W'=>e= .returned (.agg #[.int .i64 k,.int .i64 m,.string s,.bool t])∧Below W.heap.size W W'):
  Calls Tryz.prog 228 #[.agg #[u0,u1,u2,u3,u4,u5,u6,u7,u8,u9,u10],.int .i64 n] w fun e w'=>e= .returned (.tuple #[.agg #[.int .i64 k,.int .i64 m,.string s,.bool t],.nilIface])∧Below w.heap.size w w':=by
 have hmf:∀(fn:Fn) (first cap:Array Value) (w:World),(Instr.makeFunc fn first cap).run Tryz.prog w= .ok (.func fn first cap) w:=fun _ _ _ _ =>rfl
 have hn:=hn _ (rb_ u0 u1 u2 u3 u4 u5 u6 u7 u8 u9 u10 w)
 have hb0:=Lib.hid (rb_ u0 u1 u2 u3 u4 u5 u6 u7 u8 u9 u10 w)
 go_enter_defers Tryz.func228,Tryz.ntmps228
 go_wp2_with (go_at_call 258;refine hn.mono ?_;rintro e W' ⟨rfl,hb⟩;(obtain⟨hc,hf⟩:=b18 hb);(have hB:=Lib.hid hb);clear hb)
 have z0:W'.cell? ⟨w.heap.size+1,0,none⟩=some (.int .i64 0):=by rw[hc _ _ (by simp)];exact rv_ u0 u1 u2 u3 u4 u5 u6 u7 u8 u9 u10 w 0 _ rfl
 have z1:W'.cell? ⟨w.heap.size+1,1,none⟩=some (.int .i64 0):=by rw[hc _ _ (by simp)];exact rv_ u0 u1 u2 u3 u4 u5 u6 u7 u8 u9 u10 w 1 _ rfl
 have z2:W'.cell? ⟨w.heap.size+1,2,none⟩=some (.string ⟨#[]⟩):=by rw[hc _ _ (by simp)];exact rv_ u0 u1 u2 u3 u4 u5 u6 u7 u8 u9 u10 w 2 _ rfl
 have z3:W'.cell? ⟨w.heap.size+1,3,none⟩=some (.bool false):=by rw[hc _ _ (by simp)];exact rv_ u0 u1 u2 u3 u4 u5 u6 u7 u8 u9 u10 w 3 _ rfl
 have z4:W'.cell? ⟨w.heap.size+1+1,0,none⟩=some .nilIface:=by rw[hc _ _ (by simp)];exact World.cell?_alloc_at _ _ _ _ (by simp)
 clear hc hf
 refine leaves_cons (f:=257) (args:=#[.pointer (some ⟨w.heap.size+1,0,none⟩),.pointer (some ⟨w.heap.size+1+1,0,none⟩)]) (by simp) (by simp [go_sem]) ?_
 refine (ri_ _ _ _).mono ?_
 rintro e u' w'' ⟨rfl,rfl,rfl⟩
 simp [Leaves,settle,results,Tryz.results228,go_sem,z0,z1,z2,z3,z4]
 exact (((((hb0.out.trans (hB.out.mono (by simp;omega))).setCell (by simp) _).setCell (by simp) _).setCell (by simp) _).setCell (by simp) _).setCell (by simp;omega) _
theorem rwe_ (at_ e:Int)
  (hn:∀W:World,Below w.heap.size w W→Calls Tryz.prog 258 #[.agg #[u0,u1,u2,u3,u4,u5,u6,u7,u8,u9,u10],.int .i64 n] W fun ev W'=>ev= .panicked [{v:=w14 at_ e,recovered:=false}]∧Below W.heap.size W W'):
  Calls Tryz.prog 228 #[.agg #[u0,u1,u2,u3,u4,u5,u6,u7,u8,u9,u10],.int .i64 n] w fun ev w'=>ev= .returned (.tuple #[.agg #[.int .i64 0,.int .i64 0,.string ⟨#[]⟩,.bool false],w14 at_ e])∧Below w.heap.size w w':=by
 have hmf:∀(fn:Fn) (first cap:Array Value) (w:World),(Instr.makeFunc fn first cap).run Tryz.prog w= .ok (.func fn first cap) w:=fun _ _ _ _ =>rfl
 have hn:=hn _ (rb_ u0 u1 u2 u3 u4 u5 u6 u7 u8 u9 u10 w)
 have hb0:=Lib.hid (rb_ u0 u1 u2 u3 u4 u5 u6 u7 u8 u9 u10 w)
 go_enter_defers Tryz.func228,Tryz.ntmps228
 go_wp2_with (go_at_call 258;refine hn.mono ?_;rintro e W' ⟨rfl,hb⟩;(obtain⟨hc,hf⟩:=b18 hb);(have hB:=Lib.hid hb))
 have h1:W'.heap[w.heap.size+1]? =some (.cells #[.int .i64 0,.int .i64 0,.string ⟨#[]⟩,.bool false] 95 (0,0)):=by
  rw[hb.block _ (by simp)]
  exact hl10 _ _ (ha12 _ _ (by simp))
 have h2:W'.heap[w.heap.size+1+1]? =some (.cells #[.nilIface] 170 (0,0)):=by
  rw[hb.block _ (by simp)]
  exact ha12 _ _ (by simp)
 have hsz:w.heap.size+1+1<W'.heap.size:=(Array.getElem?_eq_some_iff.1 h2).1
 clear hc hf
 refine leaves_cons (f:=257) (args:=#[.pointer (some ⟨w.heap.size+1,0,none⟩),.pointer (some ⟨w.heap.size+1+1,0,none⟩)]) (by simp) (by simp [go_sem]) ?_
 refine (rp10 _ _ w.heap.size at_ e _ _ _ _ _ _ (by omega) h1 h2 (by omega)).mono ?_
 rintro ev u' w'' ⟨rfl,rfl,⟨z0,z1,z2,z3,z4⟩,hb2⟩
 simp [Leaves,settle,results,Tryz.results228,go_sem,z0,z1,z2,z3,z4]
 exact (hb0.out.trans (hB.out.mono (by simp;omega))).trans hb2
end
end Go.Proofs.YtjbcfpkibnhodaaGreatDoor.Ab
namespace Go.Proofs.YtjbcfpkibnhodaaGreatDoor.Ab
open Go Go.RowKit
variable {G:Nat→Option AV}
theorem gb_ {w w':World} {F:Nat→Prop} (hg:Good w F G) {n:Nat} (hn:w.heap.size≤n) (hb:Below n w w'):Good w' F G:=
 hg.mono (fun b h=>hb.block b (Nat.lt_of_lt_of_le (hg.1 b h) hn)) (fun _ h=>h) (fun b h=>Nat.lt_of_lt_of_le (hg.1 b h) hb.size)
theorem ab_ {w w':World} {F:Nat→Prop} {args:List AV} {vs:Array Value} (hg:Good w F G) {n:Nat} (hn:w.heap.size≤n) (hb:Below n w w') (h:A_ w F args vs):A_ w' F args vs:=
 ⟨h.1,fun j c u hc hu=>(h.2 j c u hc hu).mono (fun b hF=>hb.block b (Nat.lt_of_lt_of_le (hg.1 b hF) hn)) fun _ h=>h⟩
theorem P_.of_calls {P:Program} {f:Nat} {args:List AV} {r:AV} (h:∀(w:World) (F:Nat→Prop) (vs:Array Value),Good w F G→A_ w F args vs→∃v,(∀W F nm,Rd W F nm r v)∧Calls P f vs w fun e w'=>e= .returned v∧Below w.heap.size w w'):P_ P G f args r:=by
 intro w F vs hg ha
 obtain⟨v,hr,hc⟩:=h w F vs hg ha
 refine hc.mono ?_
 rintro e w' ⟨rfl,hb⟩
 exact⟨v,F,rfl,fun _ h=>h,fun _ h=>.inl h,fun b h=>Nat.lt_of_lt_of_le (hg.1 b h) hb.size,hr _ _ _,hb⟩
theorem rt_ {a b:AV} {x y:Value} {W:World} {F:Nat→Prop} {nm:N_} (h1:Rd W F nm a x) (h2:Rd W F nm b y):Rd W F nm (.tup [a,b]) (.tuple #[x,y]):=by
 refine Rd.tup _ [_,_] [_,_] rfl fun j c u hc hu=>?_
 match j,hc,hu with
 | 0,hc,hu=>cases hc;cases hu;exact h1
 | 1,hc,hu=>cases hc;cases hu;exact h2
theorem rvm_ (v:Val) (W:World) (F:Nat→Prop) (nm:N_):Rd W F nm (valV v) (.agg #[.int .i64 v.kind,.int .i64 v.int,.string ⟨v.str.toArray⟩,.bool v.bool]):=by
 refine Rd.agg _ [_,_,_,_] [_,_,_,_] rfl fun j c u hc hu=>?_
 match j,hc,hu with
 | 0,hc,hu=>cases hc;cases hu;exact .int _ _ _
 | 1,hc,hu=>cases hc;cases hu;exact .int _ _ _
 | 2,hc,hu=>cases hc;cases hu;exact .str _ _
 | 3,hc,hu=>cases hc;cases hu;exact .bool _ _
theorem rp11 {q:QeaT} {b:List SlotT} {vals:List Val} {i:Nat} (h:N11 G q b vals i):
  ((ev q b vals i).2=0→P_ Tryz.prog G nefr_ [f10 q b vals,iv i] (.tup [valV (ev q b vals i).1,.nili]))∧
  (¬(ev q b vals i).2=0→∃a,P_ Tryz.prog G nefr_ [f10 q b vals,iv i] (.tup [valV v0,w15 a (ev q b vals i).2])):=by
 refine⟨fun h0=>?_,fun h0=>?_⟩
 ·have hn:=h.1 h0
  generalize (ev q b vals i).1=v at*
  refine P_.of_calls fun w F vs hg ha=>⟨_,fun W F nm=>rt_ (rvm_ v W F nm) (.nili _),?_⟩
  obtain⟨x,y,rfl,h1,h2⟩:=at11 ha
  cases h2
  obtain⟨us,rfl,hl,hr⟩:=ra10 h1
  match us,hl with
  | [u0,u1,u2,u3,u4,u5,u6,u7,u8,u9,u10],_ =>
   refine rwo_ u0 u1 u2 u3 u4 u5 u6 u7 u8 u9 u10 i w v.kind v.int ⟨v.str.toArray⟩ v.bool fun W hb=>?_
   refine (hn W F _ (gb_ hg (Nat.le_refl _) hb) (ab_ hg (Nat.le_refl _) hb ha)).mono ?_
   rintro e w' ⟨v',F',rfl,_,_,_,hrd,hb'⟩
   obtain rfl:=rv10 hrd
   exact⟨rfl,hb'⟩
 ·obtain⟨a,hn⟩:=h.2 h0
  generalize (ev q b vals i).2=e at*
  refine⟨a,P_.of_calls fun w F vs hg ha=>⟨_,fun W F nm=>rt_ (rvm_ v0 W F nm) (rw_ W F nm a e),?_⟩⟩
  obtain⟨x,y,rfl,h1,h2⟩:=at11 ha
  cases h2
  obtain⟨us,rfl,hl,hr⟩:=ra10 h1
  match us,hl with
  | [u0,u1,u2,u3,u4,u5,u6,u7,u8,u9,u10],_ =>
   refine rwe_ u0 u1 u2 u3 u4 u5 u6 u7 u8 u9 u10 i w a e fun W hb=>?_
   refine (hn W F _ (gb_ hg (Nat.le_refl _) hb) (ab_ hg (Nat.le_refl _) hb ha)).mono ?_
   rintro ev w' ⟨v',rfl,hrd,hb'⟩
   have:=hrd W F n10
   cases this with
   | iface _ _ _ u h=>
    obtain⟨us,rfl,hl,hr⟩:=ra10 h
    match us,hl with
    | [p,r],_ =>
     have h0:=hr 0 _ p rfl rfl
     have h1:=hr 1 _ r rfl rfl
     cases h0
     cases h1 with
     | iface _ _ _ z hz=>
      cases hz
      exact⟨rfl,hb'⟩
def w16 (c:AV):List (Nat×Box):=[(1003,⟨false,tew_,2,[c]⟩)]
def errG (G:Nat→Option AV):Prop:=G 6=some (.iface 383 (.agg [.rawp 11 170]))
theorem ec12 {w:World} {F:Nat→Prop} (hg:Good w F G) (h:errG G):w.cell? ⟨6,0,none⟩=some (.iface tRt (rtp tErr)):=by
 obtain⟨h1,_⟩:=hg.2 6 _ h
 cases h1 with
 | eptr _ _ _ _ _ u hF hw h1 h=>
  have e1:=hw 0 (by simp [AV.cells])
  have e2:=h 0 _ rfl
  generalize u 0=z at*
  cases e2 with
  | iface _ _ _ y hy=>
   obtain⟨us,rfl,hl,hr⟩:=ra10 hy
   match us,hl with
   | [x],_ =>
    have h0:=hr 0 _ x rfl rfl
    cases h0
    simpa using e1
theorem anh_ (c:AV):H_ Tryz.prog G neA_ [.nili,.iface tPw_ (.ref 1003 0 0)] (w16 c) (.bool false) (w16 c):=by
 intro w F nm vs hg ha hB
 obtain⟨hs,hr⟩:=ha
 obtain⟨l⟩:=vs
 match l,hs with
 | [x,y],_ =>
  have h0:=hr 0 _ x rfl rfl
  cases h0
  refine (an13 y w).mono ?_
  rintro e w' ⟨rfl,rfl⟩
  exact⟨_,F,nm,rfl,fun _ h=>h,fun _ h=>.inl h,hg.1,.bool _ _,hB,fun i b hi hr=>⟨rfl,fun b' hb'=>by rw[hi] at hb';cases hb';exact hr⟩,fun k hk=>.inr hk,⟨rfl,rfl,rfl,Nat.le_refl _⟩,fun _ _ _ =>rfl⟩
theorem ahh_ (hG:errG G) (a e:Int):H_ Tryz.prog G neA_ [w15 a e,.iface tPw_ (.ref 1003 0 0)] (w16 (.agg [iv 0,.nili])) (.bool true) (w16 (.agg [iv a,.iface taE_ (iv e)])):=by
 intro w F nm vs hg ha hB
 obtain⟨hs,hr⟩:=ha
 obtain⟨l⟩:=vs
 match l,hs with
 | [x,y],_ =>
  have h0:=hr 0 _ x rfl rfl
  have h1:=hr 1 _ y rfl rfl
  clear hr hs
  cases h0 with
  | iface _ _ _ u hu=>
   obtain⟨us,rfl,hl,hr⟩:=ra10 hu
   match us,hl with
   | [p,r],_ =>
    have g0:=hr 0 _ p rfl rfl
    have g1:=hr 1 _ r rfl rfl
    clear hr hu
    cases g0
    cases g1 with
    | iface _ _ _ z hz=>
     cases hz
     cases h1 with
     | iface _ _ _ z hz=>
      cases hz with
      | ref _ _ _ _ m hi=>
       rcases hB.box 1003 _ rfl with ⟨hn,_⟩ | ⟨m',hm',hlies⟩
       ·rw[hi] at hn;cases hn
       ·rw[hi] at hm'
        cases hm'
        obtain⟨k1,k2,k3,cs,k4,k5,k6,k7,k8,k9⟩:=hlies.v (by simp)
        have k1':m.sz=2:=k1
        have k2':m.ty=tew_:=k2
        obtain⟨u0,c0,_,_⟩:=k9 0 _ 0 (iv 0) rfl rfl
        obtain⟨u1,c1,_,_⟩:=k9 0 _ 1 .nili rfl rfl
        rw[k1'] at c0 c1 k5
        simp only[Nat.zero_mul,Nat.zero_add] at c0 c1 ⊢
        have hlt:=(Array.getElem?_eq_some_iff.1 k4).1
        have d0:w.cell? ⟨m.g,0,none⟩=some u0:=by simp [World.cell?,k4,c0]
        have d1:w.cell? ⟨m.g,1,none⟩=some u1:=by simp [World.cell?,k4,c1]
        have f0:w.frozen? ⟨m.g,0,none⟩=false:=by simp [World.frozen?,k4]
        have f1:w.frozen? ⟨m.g,1,none⟩=false:=by simp [World.frozen?,k4]
        refine (ah10 m.g (.int .i64 a) (.iface tE (.int .i64 e)) u0 u1 w rfl rfl (ec12 hg hG) d0 d1 f0 f1).mono ?_
        rintro ev w' ⟨rfl,rfl⟩
        have hb:Below w.heap.size w ((a17 w m.g (.int .i64 a) (.iface tE (.int .i64 e))).alloc (.cells #[.int .i64 a,.iface tE (.int .i64 e)] tW)):=
         ((((Below.refl _ _).alloc (Nat.le_refl _) _).alloc (by simp) _).alloc (by simp;omega) _).alloc (by simp;omega) _
        generalize ((a17 w m.g (.int .i64 a) (.iface tE (.int .i64 e))).alloc (.cells #[.int .i64 a,.iface tE (.int .i64 e)] tW))=W at*
        have e4:W.heap[m.g]? =some (.cells cs m.ty (0,0)):=by rw[hb.block _ hlt];exact k4
        have s1:=heap_setCell_same W m.g 0 cs m.ty (.int .i64 a) e4
        have s2:=heap_setCell_same _ m.g 1 _ m.ty (.iface tE (.int .i64 e)) s1
        have hcs:2≤cs.size:=by
         have:=(Array.getElem?_eq_some_iff.1 c1).1
         omega
        have hc0:0<cs.size:=by omega
        have hc1:1<cs.size:=by omega
        have q0:((cs.setIfInBounds 0 (.int .i64 a)).setIfInBounds 1 (.iface tE (.int .i64 e)))[0*2+0]? =some (.int .i64 a):=by
         rw[show 0*2+0=0 from rfl,Array.getElem?_setIfInBounds_ne (by decide),Array.getElem?_setIfInBounds_self_of_lt hc0]
        have q1:((cs.setIfInBounds 0 (.int .i64 a)).setIfInBounds 1 (.iface tE (.int .i64 e)))[0*2+1]? =some (.iface tE (.int .i64 e)):=by
         rw[show 0*2+1=1 from rfl,Array.getElem?_setIfInBounds_self_of_lt (by simpa using hc1)]
        have old:∀k,k<w.heap.size→k≠m.g→((W.setCell ⟨m.g,0,none⟩ (.int .i64 a)).setCell ⟨m.g,1,none⟩ (.iface tE (.int .i64 e))).heap[k]? =w.heap[k]? :=fun k hk hne=>by
         rw[heap_setCell_other _ _ _ _ hne,heap_setCell_other _ _ _ _ hne,hb.block _ hk]
        have hFg:∀b,F b→b≠m.g:=fun b hF e=>hB.fr 1003 _ m rfl hi (e ▸ hF)
        refine⟨_,F,nm,rfl,fun _ h=>h,fun _ h=>.inl h,fun b hF=>?_,.bool _ _,⟨fun i bx hix=>?_,fun i j b c m1 m2 hi1 hj1 h1 h2 h3=>?_,fun i bx m1 hi1 h1=>?_⟩,fun i bx hix hrow=>⟨rfl,fun b' hb'=>?_⟩,fun k hk=>?_,⟨hb.os,hb.tape,hb.output,?_⟩,fun k hk hO=>?_⟩
        ·have:=hg.1 b hF
         have:=hb.size
         simp only[World.setCell,Array.size_modify]
         omega
        ·simp only[w16,hget] at hix
         split at hix
         ·rename_i e3;subst e3
          cases hix
          refine .inr ⟨m,hi,.inl ⟨k1',k2,by simp,_,s2,by simpa [k1'] using k5,k6,k7,fun e he=>?_,fun k e j c he hc=>?_⟩⟩
          ·simp only[List.mem_singleton] at he
           subst he;rfl
          ·match k,he with
           | 0,he=>
            cases he
            rw[k1']
            match j,hc with
            | 0,hc=>cases hc;exact⟨.int .i64 a,q0,rfl,.int _ _ _⟩
            | 1,hc=>cases hc;exact⟨.iface tE (.int .i64 e),q1,rfl,.iface _ _ _ _ (.int _ _ _)⟩
         ·cases hix
        ·simp only[w16,hget] at hi1 hj1
         split at hi1
         ·split at hj1
          ·rename_i e1 e2;rw[←e1,←e2]
          ·cases hj1
         ·cases hi1
        ·simp only[w16,hget] at hi1
         split at hi1
         ·rename_i e1;subst e1
          rw[hi] at h1;cases h1
          exact hB.fr 1003 _ m rfl hi
         ·cases hi1
        ·simp only[w16,hget] at hb'
         split at hb'
         ·cases hb';rfl
         ·cases hb'
        ·obtain⟨i,bx,m1,hi1,h1,h2⟩:=hk
         simp only[w16,hget] at hi1
         split at hi1
         ·rename_i e1;subst e1
          exact .inr ⟨1003,_,m1,rfl,h1,h2⟩
         ·cases hi1
        ·simp only[World.setCell,Array.size_modify]
         exact hb.size
        ·exact old k hk fun e=>hO ⟨1003,_,m,rfl,hi,e.symm⟩
end Go.Proofs.YtjbcfpkibnhodaaGreatDoor.Ab
namespace Go.Proofs.YtjbcfpkibnhodaaGreatDoor.Ab
open Go Go.RowKit
variable {G:Nat→Option AV}
theorem ip_ (a e k:Int):P_ Tryz.prog G neI_ [.iface tew_ (.agg [iv a,.iface taE_ (iv e)]),.iface taE_ (iv k)] (.bool (e==k)):=by
 refine P_.of_calls fun w F vs hg ha=>⟨_,fun W F nm=>.bool _ _,?_⟩
 obtain⟨x,y,rfl,h1,h2⟩:=at11 ha
 cases h1 with
 | iface _ _ _ u hu=>
  obtain⟨us,rfl,hl,hr⟩:=ra10 hu
  match us,hl with
  | [p,r],_ =>
   have g0:=hr 0 _ p rfl rfl
   have g1:=hr 1 _ r rfl rfl
   clear hr hu
   cases g0
   cases g1 with
   | iface _ _ _ z hz=>
    cases hz
    cases h2 with
    | iface _ _ _ z hz=>
     cases hz
     exact is12 e k (.int .i64 a) w
theorem enp_:P_ Tryz.prog G nee_ [.nili] (iv 0):=by
 have hc:=anh_ (G:=G) (.agg [iv 0,.nili])
 refine pee_ (Runs.of fun Φ h=>?_)
 unfold cee_
 repeat' (first|simp -implicitDefEqProofs only[go_sem]|refine ag_ (fun hb=>?_) (fun hb=>?_)|refine⟨fun hb=>?_,fun hb=>?_⟩|(refine ac11 [(1003,3)] hc rfl ⟨⟨_,_,rfl,rfl,rfl⟩,trivial⟩ rfl rfl rfl ?_)|fail)
 exact h _ ⟨_,_,rfl,rfl,.refl _⟩
theorem ep12 (hG:errG G) (a e:Int) (he:e=3∨e=6∨e=7∨e=8∨e=9):P_ Tryz.prog G nee_ [w15 a e] (iv e):=by
 have hc:=ahh_ hG a e
 refine pee_ (Runs.of fun Φ h=>?_)
 unfold cee_
 repeat' (first|simp -implicitDefEqProofs only[go_sem,w15]|refine ag_ (fun hb=>?_) (fun hb=>?_)|refine⟨fun hb=>?_,fun hb=>?_⟩|(refine ac11 [(1003,3)] hc rfl ⟨⟨_,_,rfl,rfl,rfl⟩,trivial⟩ rfl rfl rfl ?_)|fail)
 refine al_ (fun n st=>∃i:Nat,i+n=4∧st=⟨23,[(3,.ref 3 0 0),(10,.arr 10 0 4),(11,iv 4),(12,iv i)],[(3,⟨false,tew_,2,[.agg [iv a,.iface taE_ (iv e)]]⟩),(10,⟨true,taE_,1,[iv 3,iv 6,iv 7,iv 9]⟩)]⟩∧∀j x,j<i→([3,6,7,9]:List Int)[j]? =some x→¬e=x) 4 ⟨0,by simp,rfl,fun j x hj=>by omega⟩ ?_
 rintro I hI n st ⟨i,hi,rfl,hno⟩
 have hi':i=0∨i=1∨i=2∨i=3∨i=4:=by omega
 have hnext:∀x,([3,6,7,9]:List Int)[i]? =some x→(e==x)=false→∀m:Nat,m=i+1→a12 I n ⟨23,[(3,.ref 3 0 0),(10,.arr 10 0 4),(11,iv 4),(12,iv m)],[(3,⟨false,tew_,2,[.agg [iv a,.iface taE_ (iv e)]]⟩),(10,⟨true,taE_,1,[iv 3,iv 6,iv 7,iv 9]⟩)]⟩:=fun x hx hv m hm=>by
  have hlt:=(List.getElem?_eq_some_iff.1 hx).1
  simp only[List.length_cons,List.length_nil] at hlt
  exact aa_ (n - 1) (by omega) (hI _ _ ⟨m,by omega,rfl,fun j y hj hy=>by
   by_cases e':j=i
   ·subst e';rw[hx] at hy;cases hy;simpa using hv
   ·exact hno j y (by omega) hy⟩)
 have hend:i=4→e=8:=fun h4=>by
  subst h4
  have h0:=hno 0 3 (by omega) rfl
  have h1:=hno 1 6 (by omega) rfl
  have h2:=hno 2 7 (by omega) rfl
  have h3:=hno 3 9 (by omega) rfl
  omega
 clear hno hI
 have ad:∀(H:List (Nat×Box)) (j:Nat),hget H 10=some ⟨true,taE_,1,[iv 3,iv 6,iv 7,iv 9]⟩→j<4→a14 H 1 (.arr 10 0 4) (.int .i64 (j:Int))=some (.ref 10 j 0):=fun H j h1 h2=>by
  show (match hget H 10 with | some b=>if b.sz=1∧0≤(j:Int)∧(j:Int)<(4:Nat) then some (AV.ref 10 (0+(j:Int).toNat) 0) else none | none=>none)=_
  rw[h1]
  simp
  omega
 have c0:((0:Nat):Int)=0:=rfl
 have c1:((1:Nat):Int)=1:=rfl
 have c2:((2:Nat):Int)=2:=rfl
 have c3:((3:Nat):Int)=3:=rfl
 have c4:((4:Nat):Int)=4:=rfl
 have w1:IntKind.i64.wrap 1=1:=rfl
 have w2:IntKind.i64.wrap 2=2:=rfl
 have w3:IntKind.i64.wrap 3=3:=rfl
 have w4:IntKind.i64.wrap 4=4:=rfl
 rcases hi' with rfl | rfl | rfl | rfl | rfl
 ·cases hk:(e==3) with
  | true=>
   have hs:=ip_ (G:=G) a e 3
   have ad:=ad [(3,⟨false,tew_,2,[.agg [iv a,.iface taE_ (iv e)]]⟩),(10,⟨true,taE_,1,[iv 3,iv 6,iv 7,iv 9]⟩)] 0 rfl (by omega)
   rw[show ((0:Nat):Int)=0 from rfl] at ad
   rw[hk] at hs
   repeat' (first|simp -implicitDefEqProofs only[go_sem,c0,c1,c2,c3,c4,ad]|refine ag_ (fun hb=>?_) (fun hb=>?_)|refine⟨fun hb=>?_,fun hb=>?_⟩|refine ac_ hs rfl rfl ?_|fail)
   exact h _ ⟨_,_,rfl,rfl,fitI (eq_of_beq hk).symm⟩
  | false=>
   have hs:=ip_ (G:=G) a e 3
   have ad:=ad [(3,⟨false,tew_,2,[.agg [iv a,.iface taE_ (iv e)]]⟩),(10,⟨true,taE_,1,[iv 3,iv 6,iv 7,iv 9]⟩)] 0 rfl (by omega)
   rw[show ((0:Nat):Int)=0 from rfl] at ad
   rw[hk] at hs
   repeat' (first|simp -implicitDefEqProofs only[go_sem,c0,c1,c2,c3,c4,ad,w1]|refine ag_ (fun hb=>?_) (fun hb=>?_)|refine⟨fun hb=>?_,fun hb=>?_⟩|refine ac_ hs rfl rfl ?_|fail)
   exact hnext 3 rfl hk 1 rfl
 ·cases hk:(e==6) with
  | true=>
   have hs:=ip_ (G:=G) a e 6
   have ad:=ad [(3,⟨false,tew_,2,[.agg [iv a,.iface taE_ (iv e)]]⟩),(10,⟨true,taE_,1,[iv 3,iv 6,iv 7,iv 9]⟩)] 1 rfl (by omega)
   rw[show ((1:Nat):Int)=1 from rfl] at ad
   rw[hk] at hs
   repeat' (first|simp -implicitDefEqProofs only[go_sem,c0,c1,c2,c3,c4,ad]|refine ag_ (fun hb=>?_) (fun hb=>?_)|refine⟨fun hb=>?_,fun hb=>?_⟩|refine ac_ hs rfl rfl ?_|fail)
   exact h _ ⟨_,_,rfl,rfl,fitI (eq_of_beq hk).symm⟩
  | false=>
   have hs:=ip_ (G:=G) a e 6
   have ad:=ad [(3,⟨false,tew_,2,[.agg [iv a,.iface taE_ (iv e)]]⟩),(10,⟨true,taE_,1,[iv 3,iv 6,iv 7,iv 9]⟩)] 1 rfl (by omega)
   rw[show ((1:Nat):Int)=1 from rfl] at ad
   rw[hk] at hs
   repeat' (first|simp -implicitDefEqProofs only[go_sem,c0,c1,c2,c3,c4,ad,w2]|refine ag_ (fun hb=>?_) (fun hb=>?_)|refine⟨fun hb=>?_,fun hb=>?_⟩|refine ac_ hs rfl rfl ?_|fail)
   exact hnext 6 rfl hk 2 rfl
 ·cases hk:(e==7) with
  | true=>
   have hs:=ip_ (G:=G) a e 7
   have ad:=ad [(3,⟨false,tew_,2,[.agg [iv a,.iface taE_ (iv e)]]⟩),(10,⟨true,taE_,1,[iv 3,iv 6,iv 7,iv 9]⟩)] 2 rfl (by omega)
   rw[show ((2:Nat):Int)=2 from rfl] at ad
   rw[hk] at hs
   repeat' (first|simp -implicitDefEqProofs only[go_sem,c0,c1,c2,c3,c4,ad]|refine ag_ (fun hb=>?_) (fun hb=>?_)|refine⟨fun hb=>?_,fun hb=>?_⟩|refine ac_ hs rfl rfl ?_|fail)
   exact h _ ⟨_,_,rfl,rfl,fitI (eq_of_beq hk).symm⟩
  | false=>
   have hs:=ip_ (G:=G) a e 7
   have ad:=ad [(3,⟨false,tew_,2,[.agg [iv a,.iface taE_ (iv e)]]⟩),(10,⟨true,taE_,1,[iv 3,iv 6,iv 7,iv 9]⟩)] 2 rfl (by omega)
   rw[show ((2:Nat):Int)=2 from rfl] at ad
   rw[hk] at hs
   repeat' (first|simp -implicitDefEqProofs only[go_sem,c0,c1,c2,c3,c4,ad,w3]|refine ag_ (fun hb=>?_) (fun hb=>?_)|refine⟨fun hb=>?_,fun hb=>?_⟩|refine ac_ hs rfl rfl ?_|fail)
   exact hnext 7 rfl hk 3 rfl
 ·cases hk:(e==9) with
  | true=>
   have hs:=ip_ (G:=G) a e 9
   have ad:=ad [(3,⟨false,tew_,2,[.agg [iv a,.iface taE_ (iv e)]]⟩),(10,⟨true,taE_,1,[iv 3,iv 6,iv 7,iv 9]⟩)] 3 rfl (by omega)
   rw[show ((3:Nat):Int)=3 from rfl] at ad
   rw[hk] at hs
   repeat' (first|simp -implicitDefEqProofs only[go_sem,c0,c1,c2,c3,c4,ad]|refine ag_ (fun hb=>?_) (fun hb=>?_)|refine⟨fun hb=>?_,fun hb=>?_⟩|refine ac_ hs rfl rfl ?_|fail)
   exact h _ ⟨_,_,rfl,rfl,fitI (eq_of_beq hk).symm⟩
  | false=>
   have hs:=ip_ (G:=G) a e 9
   have ad:=ad [(3,⟨false,tew_,2,[.agg [iv a,.iface taE_ (iv e)]]⟩),(10,⟨true,taE_,1,[iv 3,iv 6,iv 7,iv 9]⟩)] 3 rfl (by omega)
   rw[show ((3:Nat):Int)=3 from rfl] at ad
   rw[hk] at hs
   repeat' (first|simp -implicitDefEqProofs only[go_sem,c0,c1,c2,c3,c4,ad,w4]|refine ag_ (fun hb=>?_) (fun hb=>?_)|refine⟨fun hb=>?_,fun hb=>?_⟩|refine ac_ hs rfl rfl ?_|fail)
   exact hnext 9 rfl hk 4 rfl
 ·repeat' (first|simp -implicitDefEqProofs only[go_sem,c4]|refine ag_ (fun hb=>?_) (fun hb=>?_)|refine⟨fun hb=>?_,fun hb=>?_⟩|fail)
  exact h _ ⟨_,_,rfl,rfl,fitI (hend rfl).symm⟩
end Go.Proofs.YtjbcfpkibnhodaaGreatDoor.Ab
