/-
  Operations that make a value and leave the world alone: what the model's run gives is what the abstract operation says. Reading memory, parts of values, addresses, texts: what the model's run gives is what the abstract operation says. New variables and rows, stores and appends: what the model's run gives is what the abstract operation says. Values put together of parts: what the model's run gives is what the abstract operation says. No claim is proved here.
-/
import Derived.Test.YtkejmcgngblfnaaGreatDoorYAbChk
import Derived.Laws.Concat
namespace Go.Proofs.YtkejmcgngblfnaaGreatDoor.Ab
open Go Go.RowKit
def S_ (P:Program) (G:Nat→Option AV) (C:Ctx) (o:Oper) (a:Act) (w:World) (st':St):Prop:=
 (∃v w',(execOp a.eval o).run P w= .ok (.value v) w'∧Rel G C st' (a.put o.dst v) w')∨
 (∃w',(execOp a.eval o).run P w= .ok .skip w'∧Rel G C st' (a.put o.dst undef) w')
section
variable {P:Program} {G:Nat→Option AV} {C:Ctx} {nm:N_} {F:Nat→Prop} {st st':St} {a:Act} {w:World} {o:Oper}
theorem vs_ (h:RelX G C nm F st a w) {c:AV} {v:Value} (hr:(execOp a.eval o).run P w= .ok (.value v) w) (hv:Rd w F nm c v) (hp:st.put o.dst c=some st'):S_ P G C o a w st':=
 .inl ⟨v,w,hr,nm,F,h.put hv hp⟩
theorem bp_ {x:Option AV} {d:Option Nat} (h:x.bind (st.put d)=some st'):∃c,x=some c∧st.put d c=some st':=by
 cases x with
 | none=>cases h
 | some c=>exact⟨c,rfl,h⟩
theorem as42 {op:BinOp} {x y c:AV} {u v:Value} (hx:Rd w F nm x u) (hy:Rd w F nm y v) (h:abin op x y=some c) (t:TypeId) (ex ey:Operand):
  ∃r,((do eqGuard op t ex ey u v;binOp op t u v:Sem Value)).run P w= .ok r w∧Rd w F nm c r:=by
 cases x <;> cases y <;> simp only[abin,reduceCtorEq] at h
 case int.int k n k' m=>
  cases hx;cases hy
  have hg:(eqGuard op t ex ey (.int k n) (.int k' m)).run P w= .ok () w:=by cases op <;> simp [eqGuard]
  simp only[Sem.run_bind,hg,Result.andThen_ok]
  cases op <;> simp only[Option.ite_none_right_eq_some,Option.ite_none_left_eq_some,Option.some.injEq] at h
  case shl=>obtain⟨h0,rfl⟩:=h;exact⟨_,by simp [binOp,Op.shift,h0,bShl],.int _ _ _⟩
  case shr=>obtain⟨h0,rfl⟩:=h;exact⟨_,by simp [binOp,Op.shift,h0,bShr],.int _ _ _⟩
  case quo=>obtain⟨⟨rfl,h0⟩,rfl⟩:=h;exact⟨_,by simp [binOp,Op.intDiv,h0],.int _ _ _⟩
  case rem=>obtain⟨⟨rfl,h0⟩,rfl⟩:=h;exact⟨_,by simp [binOp,Op.intDiv,h0],.int _ _ _⟩
  case and=>obtain⟨rfl,rfl⟩:=h;exact⟨_,by simp only[binOp,ne_eq,not_true_eq_false,if_false];rfl,.int _ _ _⟩
  case or=>obtain⟨rfl,rfl⟩:=h;exact⟨_,by simp only[binOp,ne_eq,not_true_eq_false,if_false];rfl,.int _ _ _⟩
  case xor=>obtain⟨rfl,rfl⟩:=h;exact⟨_,by simp only[binOp,ne_eq,not_true_eq_false,if_false];rfl,.int _ _ _⟩
  case andNot=>obtain⟨rfl,rfl⟩:=h;exact⟨_,by simp only[binOp,ne_eq,not_true_eq_false,if_false];rfl,.int _ _ _⟩
  all_goals
   obtain⟨rfl,rfl⟩:=h
   first
    | exact⟨_,by simp [binOp,Op.intArith],.int _ _ _⟩
    | exact⟨_,by simp [binOp,Op.intCmp],.bool _ _⟩
 case str.str s s'=>
  cases hx;cases hy
  have hg:(eqGuard op t ex ey (.string ⟨s.toArray⟩) (.string ⟨s'.toArray⟩)).run P w= .ok () w:=by cases op <;> simp [eqGuard]
  simp only[Sem.run_bind,hg,Result.andThen_ok]
  cases op <;> simp only[Option.ite_none_right_eq_some,Option.some.injEq,reduceCtorEq] at h
  case add=>
   obtain⟨h0,rfl⟩:=h
   refine⟨.string (⟨s.toArray⟩++⟨s'.toArray⟩),?_,?_⟩
   ·rw[binOp_string_add]
    exact run_string_add_sum w _ _ (by simpa [ByteArray.size] using h0)
   ·have e:(⟨s.toArray⟩++⟨s'.toArray⟩:ByteArray)=⟨(s++s').toArray⟩:=by
     apply ByteArray.ext
     simp [ByteArray.data_append]
    rw[e]
    exact .str _ _
  all_goals
   subst h
   exact⟨_,by simp [binOp,Op.stringOp],.bool _ _⟩
theorem as40 {neg:Bool} {x y c:AV} {u v:Value} (hx:Rd w F nm x u) (hy:Rd w F nm y v) (h:aeqB neg x y=some c) {t:TypeId} (ht:P.underlying t=some .bool) (ex ey:Operand):
  ∃r,((do eqGuard (if neg then .neq else .eql) t ex ey u v;binOp (if neg then .neq else .eql) t u v:Sem Value)).run P w= .ok r w∧Rd w F nm c r:=by
 cases x <;> cases y <;> simp only[aeqB,reduceCtorEq,Option.some.injEq] at h
 subst h
 cases hx;cases hy
 rename_i x y
 have he:(Op.equal t (.bool x) (.bool y)).run P w= .ok (x==y) w:=run_equalIn_bool' w 9999 t x y ht
 refine⟨_,?_,.bool _ _⟩
 cases neg <;> simp [eqGuard,binOp,he]
theorem epn_ (w:World) {t e:TypeId} (ht:P.underlying t=some (.pointer e)) (b:Option Addr):(Op.equal t (.pointer b) (.pointer none)).run P w= .ok b.isNone w:=by
 show (Op.equalIn (9999+1) t (.pointer b) (.pointer none)).run P w=_
 unfold Op.equalIn
 cases b <;> simp only[Sem.run_bind,run_underlying ht,Result.andThen_ok] <;> rfl
theorem bpn_ (w:World) {t e:TypeId} (ht:P.underlying t=some (.pointer e)) (b:Option Addr) (neg:Bool) (ex ey:Operand):
  ((do eqGuard (if neg then .neq else .eql) t ex ey (.pointer b) (.pointer none);binOp (if neg then .neq else .eql) t (.pointer b) (.pointer none):Sem Value)).run P w= .ok (.bool (if neg then !b.isNone else b.isNone)) w:=by
 cases neg
 ·simp only[Bool.false_eq_true,if_false,Sem.run_bind]
  have e1:(eqGuard .eql t ex ey (.pointer b) (.pointer none)).run P w= .ok () w:=rfl
  have e2:binOp .eql t (.pointer b) (.pointer none)=(do pure (.bool (←Op.equal t (.pointer b) (.pointer none)))):=rfl
  rw[e1,e2]
  simp only[Result.andThen_ok,Sem.run_bind,epn_ w ht,Sem.run_pure]
 ·simp only[if_true,Sem.run_bind]
  have e1:(eqGuard .neq t ex ey (.pointer b) (.pointer none)).run P w= .ok () w:=rfl
  have e2:binOp .neq t (.pointer b) (.pointer none)=(do pure (.bool (!(←Op.equal t (.pointer b) (.pointer none))))):=rfl
  rw[e1,e2]
  simp only[Result.andThen_ok,Sem.run_bind,epn_ w ht,Sem.run_pure]
theorem as37 {neg:Bool} {x y c:AV} {u v:Value} (hx:Rd w F nm x u) (hy:Rd w F nm y v) (h:aeqP neg x y=some c) {t e:TypeId} (ht:P.underlying t=some (.pointer e)) (ex ey:Operand):
  ∃r,((do eqGuard (if neg then .neq else .eql) t ex ey u v;binOp (if neg then .neq else .eql) t u v:Sem Value)).run P w= .ok r w∧Rd w F nm c r:=by
 cases x <;> cases y <;> simp only[aeqP,reduceCtorEq,Option.some.injEq] at h
 all_goals
  subst h
  cases hx;cases hy
  refine⟨_,bpn_ w ht _ neg ex ey,?_⟩
  cases neg <;> exact .bool _ _
theorem as39 {neg:Bool} {x y c:AV} {u v:Value} (hx:Rd w F nm x u) (hy:Rd w F nm y v) (h:aeqI neg x y=some c) {t:TypeId} (ht:P.isIface t=true) (ex:Operand) (z:Value):
  ∃r,((do eqGuard (if neg then .neq else .eql) t ex (.const z) u v;binOp (if neg then .neq else .eql) t u v:Sem Value)).run P w= .ok r w∧Rd w F nm c r:=by
 cases x <;> cases y <;> simp only[aeqI,reduceCtorEq,Option.some.injEq] at h
 case nili.nili=>
  subst h
  cases hx;cases hy
  cases neg
  ·refine⟨.bool true,?_,.bool _ _⟩
   simp only[Bool.false_eq_true,if_false,Sem.run_bind]
   have e1:(eqGuard .eql t ex (.const z) .nilIface .nilIface).run P w= .ok () w:=by cases ex <;> rfl
   rw[e1]
   exact run_eql_nil_nil_at w t ht
  ·refine⟨.bool false,?_,.bool _ _⟩
   simp only[if_true,Sem.run_bind]
   have e1:(eqGuard .neq t ex (.const z) .nilIface .nilIface).run P w= .ok () w:=by cases ex <;> rfl
   rw[e1]
   exact run_neq_nil_nil_at w t ht
 case iface.nili=>
  subst h
  cases hx;cases hy
  cases neg
  ·refine⟨.bool false,?_,.bool _ _⟩
   simp only[Bool.false_eq_true,if_false,Sem.run_bind]
   have e1:∀i,(eqGuard .eql t ex (.const z) i .nilIface).run P w= .ok () w∨i= .nilIface:=fun i=>by cases i <;> first | exact .inl rfl | exact .inr rfl
   rename_i u _
   rcases e1 (.iface _ u) with e | e
   ·rw[e]
    exact run_eql_iface_nil w t ht _ _
   ·cases e
  ·refine⟨.bool true,?_,.bool _ _⟩
   simp only[if_true,Sem.run_bind]
   have e1:∀i,(eqGuard .neq t ex (.const z) i .nilIface).run P w= .ok () w∨i= .nilIface:=fun i=>by cases i <;> first | exact .inl rfl | exact .inr rfl
   rename_i u _
   rcases e1 (.iface _ u) with e | e
   ·rw[e]
    exact run_neq_iface_nil w t ht _ _
   ·cases e
theorem as44 {op:UnOp} {x c:AV} {u:Value} (hx:Rd w F nm x u) (h:aun op x=some c):∃r,(Op.unary op u).run P w= .ok r w∧Rd w F nm c r:=by
 cases x <;> simp only[aun,reduceCtorEq] at h
 case bool b=>
  cases hx
  cases op <;> simp only[Option.some.injEq,reduceCtorEq] at h
  subst h
  exact⟨_,by simp [Op.unary],.bool _ _⟩
 case int k n=>
  cases hx
  cases op <;> simp only[Option.some.injEq,reduceCtorEq] at h
  subst h
  exact⟨_,by simp [Op.unary,Op.intArith],.int _ _ _⟩
end
end Go.Proofs.YtkejmcgngblfnaaGreatDoor.Ab
namespace Go.Proofs.YtkejmcgngblfnaaGreatDoor.Ab
open Go Go.RowKit
theorem aa10 (g o j:Nat):(⟨g,o,none⟩:Addr).add j=⟨g,o+j,none⟩:=by
 unfold Addr.add
 split
 ·rename_i h;subst h;rfl
 ·rfl
theorem ir_ {P:Program} {t:Nat} (h:i10 P t=true) (w:World):(isAgg t).run P w= .ok false w:=by
 unfold i10 at h
 unfold isAgg
 cases hu:P.underlying t with
 | none=>rw[hu] at h;simp at h
 | some d=>
  rw[hu] at h
  simp only[Sem.run_bind,run_underlying hu,Result.andThen_ok]
  cases d <;> first | rfl | (simp at h)
theorem ir10 {P:Program} {t:Nat} (h:i_ P t=true) (w:World):(isAgg t).run P w= .ok true w:=by
 unfold i_ at h
 unfold isAgg
 cases hu:P.underlying t with
 | none=>rw[hu] at h;simp at h
 | some d=>
  rw[hu] at h
  simp only[Sem.run_bind,run_underlying hu,Result.andThen_ok]
  cases d <;> first | rfl | (simp at h)
theorem sr_ {P:Program} {t n:Nat} (h:szIs P t n=true) (w:World):(sizeOf t).run P w= .ok n w:=by
 unfold szIs at h
 split at h
 ·rename_i i hi
  simp only[beq_iff_eq] at h
  subst h
  unfold sizeOf
  simp [typeInfo,hi]
 ·cases h
section
variable {P:Program} {G:Nat→Option AV} {C:Ctx} {nm:N_} {F:Nat→Prop} {st st':St} {a:Act} {w:World} {o:Oper}
theorem hs10 (h:RelX G C nm F st a w) {p:AV} {v:Value} (hp:Rd w F nm p v) {cs:List AV} {off:Nat} (hc:h14 st.heap p=some (cs,off)):
  ∃g ad,v= .pointer (some ⟨g,ad,none⟩)∧∀(j:Nat) c,cs[off+j]? =some c→∃u,w.cell? ⟨g,ad+j,none⟩=some u∧Rd w F nm c u:=by
 cases p <;> simp only[h14,reduceCtorEq] at hc
 case ref i k off'=>
  cases hp with
  | ref _ _ _ _ m hi=>
   split at hc
   ·rename_i b hb
    split at hc
    case isFalse=>cases hc
    rename_i h0
    rw[Option.map_eq_some_iff] at hc
    obtain⟨e,he,hcs⟩:=hc
    simp only[Prod.mk.injEq] at hcs
    obtain⟨rfl,rfl⟩:=hcs
    refine⟨m.g,k*m.sz+off',rfl,fun j c hc=>?_⟩
    rcases h.box i b hb with ⟨hn,_⟩ | ⟨m',hm',hl⟩
    ·rw[hi] at hn;cases hn
    ·rw[hi] at hm';cases hm'
     obtain⟨_,_,_,vs,h4,_,_,_,_,h9⟩:=hl.c h0
     obtain⟨u,hu,_,hr⟩:=h9 k e (off'+j) c he hc
     refine⟨u,by simp only[World.cell?,h4,Option.isSome_none,Bool.false_eq_true,if_false];rw[←hu];congr 1;omega,?_⟩
     split at hr
     ·exact hr.any nm
     ·exact hr
   ·cases hc
 case eptr e off'=>
  cases hp with
  | eptr _ _ _ g o u hF hw h1 hr=>
   simp only[Option.some.injEq,Prod.mk.injEq] at hc
   obtain⟨rfl,rfl⟩:=hc
   refine⟨g,o+off',rfl,fun j c hc=>⟨u (off'+j),?_,(hr _ c hc).any nm⟩⟩
   rw[show o+off'+j=o+(off'+j) from by omega]
   exact hw _ (List.getElem?_eq_some_iff.1 hc).1
theorem as15 (h:RelX G C nm F st a w) {p c:AV} {v:Value} (hp:Rd w F nm p v) (hl:a27 st.heap p=some c) {t:Nat} (ht:i10 P t=true):
  ∃r,(Instr.loadAt t v).run P w= .ok r w∧Rd w F nm c r:=by
 unfold a27 at hl
 split at hl
 ·rename_i cs off hc
  obtain⟨g,ad,rfl,hm⟩:=hs10 h hp hc
  obtain⟨u,hu,hr⟩:=hm 0 c (by simpa using hl)
  refine⟨u,?_,hr⟩
  simp only[Instr.loadAt,Instr.sureAddr,loadVar,Sem.run_bind,Sem.run_pure,Result.andThen_ok,ir_ ht,Bool.false_eq_true,if_false,run_load]
  rw[Nat.add_zero] at hu
  simp [hu]
 ·cases hl
theorem as14 (h:RelX G C nm F st a w) {p c:AV} {v:Value} {n:Nat} (hp:Rd w F nm p v) (hl:a22 st.heap p n=some c) {t:Nat} (ht:i_ P t=true) (hs:szIs P t n=true):
  ∃r,(Instr.loadAt t v).run P w= .ok r w∧Rd w F nm c r:=by
 unfold a22 at hl
 split at hl
 ·rename_i cs off hc
  split at hl
  ·rename_i hle
   simp only[Option.some.injEq] at hl
   subst hl
   obtain⟨g,ad,rfl,hm⟩:=hs10 h hp hc
   have hcell:∀j,j<n→∃u,w.cell? ⟨g,ad+j,none⟩=some u∧∀c,cs[off+j]? =some c→Rd w F nm c u:=fun j hj=>by
    have hlt:off+j<cs.length:=by omega
    obtain⟨u,hu,hr⟩:=hm j _ (List.getElem?_eq_getElem hlt)
    exact⟨u,hu,fun c hc=>by rw[List.getElem?_eq_getElem hlt] at hc;cases hc;exact hr⟩
   refine⟨.agg ((List.range n).map fun j=>(w.cell? ⟨g,ad+j,none⟩).getD undef).toArray,?_,?_⟩
   ·simp only[Instr.loadAt,Instr.sureAddr,loadVar,Sem.run_bind,Sem.run_pure,Result.andThen_ok,ir10 ht,if_true,sr_ hs]
    rw[run_loadCells w _ n (fun j=>(w.cell? ⟨g,ad+j,none⟩).getD undef) (fun j hj=>by
     obtain⟨u,hu,_⟩:=hcell j hj
     rw[aa10,hu];rfl)]
    rfl
   ·refine .agg _ _ _ (by simp;omega) fun j c u hc hu=>?_
    have hj:j<n:=by have:=(List.getElem?_eq_some_iff.1 hu).1;simpa using this
    obtain⟨u',hu',hr⟩:=hcell j hj
    simp only[List.getElem?_map,List.getElem?_range hj,Option.map_some,Option.some.injEq,hu',Option.getD_some] at hu
    subst hu
    refine hr c ?_
    rw[List.getElem?_take,if_pos hj,List.getElem?_drop] at hc
    exact hc
  ·cases hl
 ·cases hl
theorem pl_ {c:AV} {cs:List AV} {us:List Value} {off:Nat} {t:Nat} (hl:cs.length=us.length) (h:∀(j:Nat) c u,cs[j]? =some c→us[j]? =some u→Rd w F nm c u) (hc:cs[off]? =some c) (ht:i10 P t=true):
  ∃r,(part t us.toArray off).run P w= .ok r w∧Rd w F nm c r:=by
 have hlt:off<us.length:=by rw[←hl];exact (List.getElem?_eq_some_iff.1 hc).1
 refine⟨us[off],?_,h off c _ hc (List.getElem?_eq_getElem hlt)⟩
 simp [part,ir_ ht,hlt]
theorem pa11 {cs:List AV} {us:List Value} {off n:Nat} {t:Nat} (hl:cs.length=us.length) (h:∀(j:Nat) c u,cs[j]? =some c→us[j]? =some u→Rd w F nm c u) (hn:off+n≤cs.length) (ht:i_ P t=true) (hs:szIs P t n=true):
  ∃r,(part t us.toArray off).run P w= .ok r w∧Rd w F nm (.agg ((cs.drop off).take n)) r:=by
 refine⟨.agg (us.toArray.extract off (off+n)),?_,?_⟩
 ·simp only[part,Sem.run_bind,ir10 ht,Result.andThen_ok,if_true,sr_ hs,Sem.run_pure]
 ·have e:us.toArray.extract off (off+n)=((us.drop off).take n).toArray:=by
   simp [List.extract_toArray,List.extract_eq_take_drop]
  rw[e]
  refine .agg _ _ _ (by simp;omega) fun j c u hc hu=>?_
  rw[List.getElem?_take] at hc hu
  split at hc
  ·rename_i hj
   rw[if_pos hj,List.getElem?_drop] at hu
   rw[List.getElem?_drop] at hc
   exact h _ c u hc hu
  ·cases hc
end
end Go.Proofs.YtkejmcgngblfnaaGreatDoor.Ab
namespace Go.Proofs.YtkejmcgngblfnaaGreatDoor.Ab
open Go Go.RowKit
section
variable {P:Program} {G:Nat→Option AV} {C:Ctx} {nm:N_} {F:Nat→Prop} {st st':St} {a:Act} {w:World} {o:Oper}
theorem Kept.alloc (h:Kept C w) (ob:Obj):Kept C (w.alloc ob):=
 ⟨h.os,h.tape,h.output,by have:=h.size;simp;omega,fun b hb hL=>(Below.heap_alloc w ob b (Nat.lt_of_lt_of_le hb h.size)).trans (h.block b hb hL)⟩
theorem zs_ {t:Nat} {z:AV} (h:z_ P t z=true):∃v,(∀w:World,(zeroValue t).run P w= .ok v w)∧repV z v=true∧∃i,P.info? t=some i∧i.zero=some v:=by
 unfold z_ at h
 split at h
 ·rename_i i hi
  split at h
  ·rename_i v hv
   exact⟨v,fun w=>by simp [zeroValue,typeInfo,hi,hv],h,i,hi,hv⟩
  ·cases h
 ·cases h
theorem ck_ {c:AV} {v:Value} {n:Nat} (h:Rd w F nm c v) (hf:fits c n=true):
  v.cells.size=n∧∀(j:Nat) x,c.cells[j]? =some x→∃u,v.cells[j]? =some u∧u.oneCell'=true∧Rd w F nm x u:=by
 obtain⟨h1,h2,h3⟩:=fs_ hf
 refine⟨by rw[←h.cells_len h1,h2],fun j x hx=>?_⟩
 obtain⟨u,hu,hr⟩:=h.cell_at h1 hx
 exact⟨u,hu,hr.oneCell (h3 x (List.mem_of_getElem? hx)),hr⟩
theorem ns19 (h:RelX G C nm F st a w) {d:Nat} (hd:o.dst=some d) {b:Box} {c:AV} {v:Value} {cs:Array Value} {cap:Nat} (hsz:0<b.sz) (hcs:cs.size=cap*b.sz) (hcap:cap≤maxLen) (hlen:b.es.length≤cap)
  (hfit:∀e∈b.es,e.cells.length=b.sz)
  (hes:∀(k:Nat) e (j:Nat) x,b.es[k]? =some e→e.cells[j]? =some x→∃u,cs[k*b.sz+j]? =some u∧u.oneCell'=true∧∀m,Rd w F (if b.row then n_ else upd nm d m) x u)
  (hv:Rd (w.alloc (.cells cs b.ty)) F (upd nm d (some ⟨w.heap.size,b.sz,cap,b.ty⟩)) c v)
  (hr:(execOp a.eval o).run P w= .ok (.value v) (w.alloc (.cells cs b.ty)))
  (hp:st.new (some d) b c=some st'):S_ P G C o a w st':=by
 have hup:∀k,k<w.heap.size→(w.alloc (.cells cs b.ty)).heap[k]? =w.heap[k]? :=fun k hk=>Below.heap_alloc w _ k hk
 have hb:∀k,F k→(w.alloc (.cells cs b.ty)).heap[k]? =w.heap[k]? :=fun k hk=>hup k (h.good.1 k hk)
 refine .inl ⟨_,_,hr,upd nm d (some ⟨w.heap.size,b.sz,cap,b.ty⟩),F,?_⟩
 rw[hd]
 refine h.new (m:=some ⟨w.heap.size,b.sz,cap,b.ty⟩) hp (h.keep.alloc _) hup (by simp) (fun m' hm=>by cases hm;exact Nat.le_refl _) hv ?_
 refine .inr ⟨⟨w.heap.size,b.sz,cap,b.ty⟩,if_pos rfl,.inl ⟨rfl,rfl,hsz,cs,heap_alloc_new w _,hcs,hlen,hcap,hfit,fun k e j x he hx=>?_⟩⟩
 obtain⟨u,hu,hu1,hrd⟩:=hes k e j x he hx
 refine⟨u,hu,hu1,?_⟩
 have:=hrd (some ⟨w.heap.size,b.sz,cap,b.ty⟩)
 exact this.mono hb fun _ h=>h
theorem vs10 (h:RelX G C nm F st a w) {d:Nat} (hd:o.dst=some d) {ty sz:Nat} {c:AV} {v:Value} (hsz:0<sz) (hv:∀m,Rd w F (upd nm d m) c v) (hf:fits c sz=true)
  (hr:(execOp a.eval o).run P w= .ok (.value (.pointer (some ⟨w.heap.size,0,none⟩))) (w.alloc (.cells v.cells ty)))
  (hp:st.new (some d) ⟨false,ty,sz,[c]⟩ (.ref d 0 0)=some st'):S_ P G C o a w st':=by
 obtain⟨hs,_⟩:=ck_ (hv none) hf
 refine ns19 (cap:=1) h hd hsz (by simp [hs]) (by simp [maxLen]) (by simp) (fun e he=>?_) (fun k e j x he hx=>?_) ?_ hr hp
 ·simp only[List.mem_singleton] at he
  subst he
  exact (fs_ hf).2.1
 ·match k,he with
  | 0,he=>
   simp only[List.getElem?_cons_zero,Option.some.injEq] at he
   subst he
   obtain⟨u,hu,hu1,_⟩:=(ck_ (hv none) hf).2 j x hx
   refine⟨u,by simpa using hu,hu1,fun m=>?_⟩
   obtain⟨u',hu',_,hr'⟩:=(ck_ (hv m) hf).2 j x hx
   rw[hu] at hu'
   cases hu'
   simpa using hr'
  | k+1,he=>simp at he
 ·have:=Rd.ref (w:=w.alloc (.cells v.cells ty)) (F:=F) (upd nm d (some ⟨w.heap.size,sz,1,ty⟩)) d 0 0 ⟨w.heap.size,sz,1,ty⟩ (if_pos rfl)
  simpa using this
theorem as32 (h:RelX G C nm F st a w) {e ty sz:Nat} {z:AV} (ho:o.op= .alloc e) (hc:c10 P (.alloc e) (.alloc ty sz z)=true) (he:e_ G o.dst (.alloc ty sz z) st=some st'):S_ P G C o a w st':=by
 simp only[c10,Bool.and_eq_true,beq_iff_eq,decide_eq_true_eq] at hc
 obtain⟨⟨⟨rfl,hz⟩,hf⟩,hsz⟩:=hc
 obtain⟨v,hrun,hrep,_⟩:=zs_ hz
 simp only[e_] at he
 split at he
 ·rename_i d hd
  refine vs10 h hd hsz (fun m=>rr_ hrep) hf ?_ he
  simp only[execOp,ho,Instr.alloc,Sem.run_bind,hrun,Result.andThen_ok,newVar,newRow,run_newObj,Sem.run_pure]
  rfl
 ·cases he
theorem bs12 (h:RelX G C nm F st a w) {e ty sz:Nat} {x:Operand} {y:Opd} (ho:o.op= .box e x) (hc:c10 P (.box e x) (.box ty sz y)=true) (he:e_ G o.dst (.box ty sz y) st=some st'):S_ P G C o a w st':=by
 simp only[c10,Bool.and_eq_true,beq_iff_eq,decide_eq_true_eq] at hc
 obtain⟨⟨rfl,hx⟩,hsz⟩:=hc
 have hrd:=h.opd hx
 simp only[e_] at he
 split at he
 ·rename_i d hd
  split at he
  ·rename_i hf
   refine vs10 h hd hsz (v:=a.eval x) (fun m=>hrd.purge fun j hj=>if_neg hj) hf ?_ he
   simp only[execOp,ho,Instr.box,Sem.run_bind,Result.andThen_ok,newVar,newRow,run_newObj,Sem.run_pure]
   rfl
  ·cases he
 ·cases he
end
end Go.Proofs.YtkejmcgngblfnaaGreatDoor.Ab
namespace Go.Proofs.YtkejmcgngblfnaaGreatDoor.Ab
open Go Go.RowKit
theorem fa10 (off:Nat):∀(l:List Value) (k:Nat) (cs:Array Value),off+k+l.length≤cs.size→∀p,
  ((l.zipIdx k).foldl (fun (cs:Array Value) (x:Value×Nat)=>cs.setIfInBounds (off+x.2) x.1) cs)[p]? =if off+k≤p∧p<off+k+l.length then l[p - (off+k)]? else cs[p]?
 | [],k,cs,_,p=>by
  simp only[List.zipIdx_nil,List.foldl_nil,List.length_nil]
  rw[if_neg (by omega)]
 | v::l,k,cs,h,p=>by
  simp only[List.zipIdx_cons,List.foldl_cons]
  rw[fa10 off l (k+1) (cs.setIfInBounds (off+k) v) (by simp at h ⊢;omega) p]
  simp only[List.length_cons] at h ⊢
  by_cases h1:off+(k+1)≤p∧p<off+(k+1)+l.length
  ·rw[if_pos h1,if_pos (by omega),show p - (off+k)=(p - (off+(k+1)))+1 from by omega,List.getElem?_cons_succ]
  ·rw[if_neg h1,Array.getElem?_setIfInBounds]
   by_cases h2:off+k=p
   ·subst h2
    rw[if_pos rfl,if_pos (by omega),if_pos (by omega)]
    simp
   ·rw[if_neg h2,if_neg (by omega)]
theorem fa_ (off:Nat) (v:Array Value) (cs:Array Value) (h:off+v.size≤cs.size) (p:Nat):
  (v.zipIdx.foldl (fun (cs:Array Value) (x:Value×Nat)=>cs.setIfInBounds (off+x.2) x.1) cs)[p]? =if off≤p∧p<off+v.size then v[p - off]? else cs[p]? :=by
 rw[←Array.foldl_toList]
 have e:v.zipIdx.toList=v.toList.zipIdx 0:=by simp
 rw[e,fa10 off v.toList 0 cs (by simpa using h) p]
 simp
theorem fs15 (off:Nat) (v:Array Value) (cs:Array Value):(v.zipIdx.foldl (fun (cs:Array Value) (x:Value×Nat)=>cs.setIfInBounds (off+x.2) x.1) cs).size=cs.size:=by
 rw[←Array.foldl_toList]
 generalize v.zipIdx.toList=l
 induction l generalizing cs with
 | nil=>rfl
 | cons x l ih=>simp [List.foldl_cons,ih]
section
variable {P:Program} {G:Nat→Option AV} {C:Ctx} {nm:N_} {F:Nat→Prop} {st st':St} {a:Act} {w:World} {o:Oper}
def C_ (w:World) (F:Nat→Prop) (nm:N_) (cs:List AV) (us:Array Value):Prop:=
 cs.length=us.size∧∀(j:Nat) c u,cs[j]? =some c→us[j]? =some u→Rd w F nm c u
theorem C_.of_agg {cs:List AV} {us:Array Value} (h:Rd w F nm (.agg cs) (.agg us)):C_ w F nm cs us:=by
 cases h with
 | agg _ _ us hl h=>exact⟨by simpa using hl,fun j c u hc hu=>h j c u hc (by simpa using hu)⟩
theorem C_.agg {cs:List AV} {us:Array Value} (h:C_ w F nm cs us):Rd w F nm (.agg cs) (.agg us):=by
 have:=Rd.agg (w:=w) (F:=F) nm cs us.toList (by simpa using h.1) (fun j c u hc hu=>h.2 j c u hc (by simpa using hu))
 simpa using this
theorem C_.set {cs:List AV} {us:Array Value} (h:C_ w F nm cs us) {x:AV} {v:Value} {off n:Nat} (hx:Rd w F nm x v) (hf:fits x n=true) (ho:off+n≤cs.length):
  C_ w F nm (s_ cs off x.cells) (v.cells.zipIdx.foldl (fun (cs:Array Value) (x:Value×Nat)=>cs.setIfInBounds (off+x.2) x.1) us):=by
 obtain⟨hs,hc⟩:=ck_ hx hf
 obtain⟨_,hlen,_⟩:=fs_ hf
 refine⟨by rw[sl_,fs15,h.1],fun j c u hcj huj=>?_⟩
 rw[sa10 _ _ _ _ (by rw[hlen];exact ho),hlen] at hcj
 rw[fa_ _ _ _ (by rw[hs,←h.1];exact ho),hs] at huj
 split at hcj
 ·rename_i hj
  rw[if_pos hj] at huj
  obtain⟨u',hu',_,hr⟩:=hc _ c hcj
  rw[hu'] at huj
  cases huj
  exact hr
 ·rename_i hj
  rw[if_neg hj] at huj
  exact h.2 j c u hcj huj
theorem as12 (h:RelX G C nm F st a w) (place:Nat→Option (Nat×Nat)):∀(ps:List (Nat×Operand)) (qs:List (Nat×Nat×Opd)) (zs:List AV) (us:Array Value) (c:AV),
  c15 place ps qs=true→C_ w F nm zs us→a17 G st zs qs=some c→
  ∃cells,Instr.fill place us (ps.map fun x=>(x.1,a.eval x.2))=some cells∧Rd w F nm c (.agg cells)
 | [],[],zs,us,c,_,hz,hb=>by
  simp only[a17,Option.some.injEq] at hb
  subst hb
  exact⟨us,rfl,hz.agg⟩
 | (i,x)::ps,(off,n,y)::qs,zs,us,c,hc,hz,hb=>by
  simp only[c15,Bool.and_eq_true] at hc
  obtain⟨⟨hp,hx⟩,hr⟩:=hc
  split at hp
  ·rename_i f m hpl
   simp only[Bool.and_eq_true,beq_iff_eq] at hp
   obtain⟨rfl,rfl⟩:=hp
   simp only[a17] at hb
   split at hb
   ·rename_i hf
    have hrd:=h.opd hx
    obtain⟨cells,h1,h2⟩:=as12 h place ps qs _ _ c hr (hz.set hrd hf.1 hf.2) hb
    refine⟨cells,?_,h2⟩
    simp only[List.map_cons,Instr.fill,hpl]
    rw[(ck_ hrd hf.1).1,←hz.1]
    rw[if_neg (by simp;omega)]
    exact h1
   ·cases hb
  ·cases hp
 | [],_ ::_,_,_,_,hc,_,_ =>by simp [c15] at hc
 | _ ::_,[],_,_,_,hc,_,_ =>by simp [c15] at hc
theorem bs10 (h:RelX G C nm F st a w) {t:Nat} {ps:Array (Nat×Operand)} {zs:List AV} {qs:List (Nat×Nat×Opd)} (ho:o.op= .build t ps) (hc:c17 P t zs ps.toList qs=true)
  (he:(a17 G st zs qs).bind (st.put o.dst)=some st'):S_ P G C o a w st':=by
 obtain⟨c,hb,hp⟩:=bp_ he
 have key:∃cells,P.built t (ps.toList.map fun x=>(x.1,a.eval x.2))=some cells∧Rd w F nm c (.agg cells):=by
  unfold c17 at hc
  unfold Program.built
  split at hc
  ·rename_i it e hit hu
   split at hc
   ·rename_i z ie hz hie
    simp only[Bool.and_eq_true] at hc
    simp only[hit,hu,hz,hie]
    have hzr:Rd w F nm (.agg zs) z:=rr_ hc.1
    have hcr:C_ w F nm zs z.cells:=by
     cases hzr with
     | agg _ _ us hl hr=>exact C_.of_agg (.agg _ _ us hl hr)
    exact as12 h _ _ _ _ _ _ hc.2 hcr hb
   ·cases hc
  ·rename_i it fields hit hu
   split at hc
   ·rename_i z places hz hpl
    simp only[Bool.and_eq_true] at hc
    simp only[hit,hu,hz,hpl]
    have hzr:Rd w F nm (.agg zs) z:=rr_ hc.1
    have hcr:C_ w F nm zs z.cells:=by
     cases hzr with
     | agg _ _ us hl hr=>exact C_.of_agg (.agg _ _ us hl hr)
    exact as12 h _ _ _ _ _ _ hc.2 hcr hb
   ·cases hc
  ·cases hc
 obtain⟨cells,h1,h2⟩:=key
 refine vs_ h ?_ h2 hp
 have e:(ps.map fun x=>(x.1,a.eval x.2)).toList=ps.toList.map fun x=>(x.1,a.eval x.2):=by simp
 simp only[execOp,ho,Sem.run_bind]
 rw[run_build w t _ cells (by rw[e];exact h1)]
 rfl
end
end Go.Proofs.YtkejmcgngblfnaaGreatDoor.Ab
