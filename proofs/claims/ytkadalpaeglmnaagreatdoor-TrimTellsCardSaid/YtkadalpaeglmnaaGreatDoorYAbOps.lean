/-
  Lemmas. No claim is proved here.
-/
import Derived.Orders
import Derived.Below
import Derived.Laws.AppendOwnNone
set_option linter.unusedSimpArgs false
namespace Go.Proofs.YtkadalpaeglmnaaGreatDoor.Ab
open Go
abbrev zX:=@List.length_map
abbrev zZ:=@List.getElem?_eq_some_iff
abbrev zJ:=@Option.some.injEq
abbrev zK:=@Bool.and_eq_true
abbrev zY:=@List.getElem?_eq_getElem
abbrev zW:=@Bool.false_eq_true
abbrev zU:=@decide_eq_true_eq
abbrev zF:=@if_neg
abbrev zG:=@if_pos
abbrev zH:=@Option.map_eq_some_iff
abbrev zL:=@Array.getD_eq_getD_getElem?
abbrev zM:=@List.take_of_length_le
abbrev zN:=@List.getElem?_of_mem
abbrev zP:=@Array.getElem?_eq_getElem
abbrev zR:=@List.map_append
abbrev zS:=@Int.eq_ofNat_of_zero_le
abbrev zT:=@List.getElem?_map
abbrev zB:=@List.length_append
abbrev zC:=@beq_iff_eq
abbrev zD:=@List.mem_cons_of_mem
abbrev zE:=@Nat.le_refl
abbrev zA:=@Int.toNat_natCast
abbrev zI:=@List.mem_map
abbrev zO:=@decide_eq_false_iff_not
abbrev yQ:=@Bool.not_eq_true'
abbrev yX:=@List.mem_cons_self
abbrev yZ:=@List.getElem?_cons_zero
abbrev yJ:=@List.getElem?_cons_succ
abbrev yK:=@Array.getElem?_eq_some_iff
abbrev yY:=@Bool.eq_iff_iff
abbrev yV:=@List.map_cons
abbrev yW:=@Option.map_some
abbrev yU:=@List.getElem?_take
abbrev yF:=@List.map_nil
abbrev yG:=@List.mem_filter
abbrev yH:=@List.all_eq_true
abbrev yL:=@List.any_eq_true
abbrev yM:=@List.mem_cons
abbrev yN:=@Nat.succ_pos
abbrev yP:=@List.mem_singleton
abbrev yR:=@Option.getD_some
abbrev yS:=@List.mem_range
abbrev yT:=@Nat.zero_add
abbrev yB:=@List.mem_append
abbrev yC:=@Nat.mul_le_mul_right
abbrev yD:=@List.drop_eq_getElem_cons
abbrev yE:=@List.getElem?_drop
abbrev yA:=@if_false
abbrev yI:=@List.append_assoc
abbrev yO:=@Nat.le_of_ble_eq_true
abbrev xQ:=@Bool.false_and
abbrev xX:=@List.length_cons
abbrev xZ:=@if_true
abbrev xJ:=@List.getElem?_append_left
abbrev xK:=@List.length_filter_le
abbrev xY:=@List.length_take
abbrev xV:=@List.getElem?_append_right
abbrev xW:=@List.append_nil
abbrev xU:=@List.foldl_cons
abbrev xF:=@List.eq_nil_of_length_eq_zero
abbrev xG:=@Bool.true_and
abbrev xH:=@List.drop_of_length_le
abbrev xL:=@List.length_nil
abbrev xM:=@decide_eq_true
abbrev xN:=@Nat.add_mul
abbrev xP:=@List.getElem?_set
abbrev xR:=@List.any_eq_false
abbrev xS:=@List.take_length
abbrev xT:=@Bool.or_eq_true
abbrev xB:=@Int.cast_ofNat_Int
abbrev xC:=@beq_eq_false_iff_ne
abbrev xD:=@List.nodup_append
abbrev xE:=@Nat.zero_le
abbrev xA:=@List.getElem?_range
abbrev xI:=@List.take_zero
abbrev xO:=@Nat.lt_of_lt_of_le
abbrev wQ:=@List.Nodup.idxOf_getElem
abbrev wX:=@Bool.and_eq_false_imp
abbrev wZ:=@Int.le_refl
abbrev wJ:=@List.ext_getElem
abbrev wK:=@List.all_eq_not_any_not
abbrev wY:=@List.map_singleton
abbrev wV:=@Bool.or_false
abbrev wU:=@List.take_succ_cons
abbrev wF:=@List.getElem?_eq_none
abbrev wG:=@List.length_range
abbrev wH:=@List.mem_of_mem_take
abbrev wL:=@List.contains_eq_mem
abbrev wM:=@List.getElem?_append
abbrev wN:=@List.getElem?_eq_none_iff
abbrev wP:=@List.idxOf_lt_length_iff
abbrev wR:=@Option.some.inj
abbrev wB:=@Nat.le_trans
abbrev wC:=@List.mem_zipIdx_iff_getElem?
abbrev wE:=@decide_eq_false
abbrev wA:=@List.filter_append
abbrev wO:=@List.findIdx?_eq_some_iff_getElem
abbrev vQ:=@Nat.add_assoc
abbrev vX:=@Bool.not_true
abbrev vZ:=@Nat.add_zero
abbrev vJ:=@Array.toList_setIfInBounds
abbrev vK:=@List.getD_eq_getElem?_getD
abbrev vY:=@not_true_eq_false
abbrev vV:=@List.take_add_one
abbrev vW:=@List.pairwise_iff_getElem
abbrev vU:=@Option.bind_some
abbrev vF:=@Option.isSome_none
abbrev vG:=@Array.getElem_mem_toList
abbrev vH:=@Prod.mk.injEq
abbrev vL:=@List.getElem?_take_of_lt
abbrev vM:=@Option.ite_none_right_eq_some
abbrev vN:=@List.mem_append_left
abbrev vP:=@List.ext_getElem?
abbrev vR:=@List.map_congr_left
abbrev vS:=@List.pairwise_lt_range
abbrev vT:=@List.getElem_map
abbrev vB:=@Bool.true_eq_false
abbrev vC:=@Bool.not_false
abbrev vD:=@Int.natCast_nonneg
abbrev vA:=@List.take_append_drop
abbrev vI:=@Array.getElem?_toList
abbrev vO:=@List.length_replicate
abbrev uQ:=@List.nil_append
abbrev uX:=@List.count_cons
abbrev uZ:=@List.Pairwise.filter
abbrev uJ:=@Array.all_eq_true_iff_forall_mem
abbrev uK:=@Array.toArray_toList
abbrev uY:=@Array.getElem?_replicate
abbrev uV:=@List.eq_of_mem_replicate
abbrev uW:=@List.eq_nil_iff_forall_not_mem
abbrev uU:=@List.drop_zero
abbrev uF:=@List.cons_append
abbrev uG:=@List.count_eq_zero
abbrev uH:=@Nat.lt_or_ge
abbrev uL:=@decide_false
abbrev uM:=@List.getElem_idxOf
abbrev uN:=@List.drop_eq_nil_of_le
abbrev uP:=@List.getElem_range
abbrev uR:=@Array.getElem?_setIfInBounds
abbrev uS:=@List.mem_append_right
abbrev uT:=@Bool.not_eq_false
abbrev uB:=@List.mem_of_mem_drop
abbrev uC:=@Bool.or_eq_false_iff
abbrev uD:=@decide_true
abbrev uE:=@Nat.sub_zero
abbrev uA:=@Nat.mul_comm
abbrev uI:=@List.length_drop
abbrev uO:=@List.getElem_mem
abbrev tQ:=@beq_self_eq_true
abbrev tX:=@List.drop_length
abbrev tZ:=@Option.isNone_iff_eq_none
abbrev tJ:=@List.findIdx?_eq_none_iff
abbrev tK:=@List.getLast?_eq_none_iff
abbrev tY:=@bne_eq_false_iff_eq
abbrev tV:=@Nat.mul_le_mul_left
abbrev tW:=@Option.map_none
abbrev tU:=@Bool.not_eq_false'
abbrev tF:=@Nat.add_sub_cancel_left
abbrev tG:=@List.getElem?_replicate
abbrev tH:=@List.filter_congr
abbrev tL:=@List.count_set
abbrev tM:=@Bool.and_false
abbrev tN:=@List.foldl_nil
abbrev tP:=@List.foldl_append
abbrev tR:=@List.mem_iff_getElem?
abbrev tS:=@List.Pairwise.sublist
abbrev tT:=@Array.getElem?_append
abbrev tB:=@bne_iff_ne
abbrev tC:=@List.map_toArray
abbrev tD:=@Nat.mod_eq_of_lt
abbrev tE:=@List.nodup_range
abbrev tA:=@Bool.and_true
abbrev tI:=@false_or
abbrev tO:=@List.map_id
abbrev sQ:=@Nat.div_add_mod
abbrev sX:=@List.cons.injEq
abbrev sZ:=@List.length_set
abbrev sJ:=@List.range_succ
abbrev sK:=@List.nodup_cons
abbrev sY:=@ne_eq
abbrev sV:=@List.map_map
inductive AV where
 | top
 | undef
 | bool (b:Bool)
 | int (k:IntKind) (n:Int)
 | str (s:List UInt8)
 | agg (cs:List AV)
 | tup (cs:List AV)
  /-- A slice that has no more room than it is long. -/
 | full (sz:Nat) (es:List AV)
 | seq (sz:Nat) (es:List AV)
 | nils
 | arr (i k n:Nat)
 | ref (i k off:Nat)
 | eptr (e:AV) (off:Nat)
 | nilp
 | fn (f:Nat) (caps:List AV)
 | nilfn
 | nili
 | iface (t:Nat) (v:AV)
 | mapv (i:Nat)
 | nilm
 | rawp (b o:Nat)
 | mapc (es:List AV)
def AV.cells:AV→List AV
 | .agg cs=>cs
 | v=>[v]
structure Nm where
 g:Nat
 sz:Nat
 cap:Nat
 ty:Nat
abbrev N_:=Nat→Option Nm
def n10:N_:=fun _ =>none
def fnB:Nat:=1000000
def fnN (f:Nat):Nat:=f % fnB
def f26 (f:Nat) (us:List Value):Value:=.func (.func (fnN f)) (us.take (f / fnB)).toArray (us.drop (f / fnB)).toArray
theorem fp_ {f:Nat} (h:f<fnB):fnN f=f:=tD h
theorem fp11 {f:Nat} (h:f<fnB) (us:List Value):f26 f us= .func (.func f) #[] us.toArray:=by unfold f26;rw[fp_ h,Nat.div_eq_of_lt h];rfl
def fnA (f:Nat) (caps args:List AV):List AV:=caps.take (f / fnB)++args++caps.drop (f / fnB)
theorem fp10 {f:Nat} (h:f<fnB) (caps args:List AV):fnA f caps args=args++caps:=by unfold fnA;rw[Nat.div_eq_of_lt h];rfl
inductive Rd (w:World) (F:Nat→Prop):N_→AV→Value→Prop where
 | top (nm v):Rd w F nm .top v
 | undef (nm):Rd w F nm .undef undef
 | bool (nm b):Rd w F nm (.bool b) (.bool b)
 | int (nm k n):Rd w F nm (.int k n) (.int k n)
 | str (nm s):Rd w F nm (.str s) (.string ⟨s.toArray⟩)
 | agg (nm) (cs:List AV) (us:List Value) (hl:cs.length=us.length) (h:∀(j:Nat) c u,cs[j]? =some c→us[j]? =some u→Rd w F nm c u):Rd w F nm (.agg cs) (.agg us.toArray)
 | tup (nm) (cs:List AV) (us:List Value) (hl:cs.length=us.length) (h:∀(j:Nat) c u,cs[j]? =some c→us[j]? =some u→Rd w F nm c u):Rd w F nm (.tup cs) (.tuple us.toArray)
 | seq0 (nm sz a cap):Rd w F nm (.seq sz []) (.slice a 0 cap)
 | seq (nm sz es g o cap) (u:Nat→Value) (h0:0<sz) (hF:F g) (hc:es.length≤cap) (hm:cap≤maxLen) (hs:∀e∈es,e.cells.length=sz)
   (hw:∀p,p<es.length*sz→w.cell? ⟨g,o+p,none⟩=some (u p)) (h1:∀p,p<es.length*sz→(u p).oneCell'=true)
   (h:∀(k:Nat) e (j:Nat) c,es[k]? =some e→e.cells[j]? =some c→Rd w F n10 c (u (k*sz+j))):Rd w F nm (.seq sz es) (.slice (some ⟨g,o,none⟩) es.length cap)
 | full (nm sz es g o) (u:Nat→Value) (h0:0<sz) (hF:F g) (hm:es.length≤maxLen) (hs:∀e∈es,e.cells.length=sz)
   (hw:∀p,p<es.length*sz→w.cell? ⟨g,o+p,none⟩=some (u p)) (h1:∀p,p<es.length*sz→(u p).oneCell'=true)
   (h:∀(k:Nat) e (j:Nat) c,es[k]? =some e→e.cells[j]? =some c→Rd w F n10 c (u (k*sz+j))):Rd w F nm (.full sz es) (.slice (some ⟨g,o,none⟩) es.length es.length)
 | nils (nm):Rd w F nm .nils (.slice none 0 0)
 | arr (nm i k n m) (hi:nm i=some m) (hn:k+n≤m.cap) (hp:0<n∨k=0):Rd w F nm (.arr i k n) (.slice (some ⟨m.g,k*m.sz,none⟩) n (m.cap - k))
 | arrE (nm i k a cap) (hk:0<k):Rd w F nm (.arr i k 0) (.slice a 0 cap)
 | arrN (nm i):Rd w F nm (.arr i 0 0) (.slice none 0 0)
 | ref (nm i k off m) (hi:nm i=some m):Rd w F nm (.ref i k off) (.pointer (some ⟨m.g,k*m.sz+off,none⟩))
 | eptr (nm e off g o) (u:Nat→Value) (hF:F g) (hw:∀p,p<e.cells.length→w.cell? ⟨g,o+p,none⟩=some (u p)) (h1:∀p,p<e.cells.length→(u p).oneCell'=true)
   (h:∀(j:Nat) c,e.cells[j]? =some c→Rd w F n10 c (u j)):Rd w F nm (.eptr e off) (.pointer (some ⟨g,o+off,none⟩))
 | nilp (nm):Rd w F nm .nilp (.pointer none)
 | fn (nm f) (cs:List AV) (us:List Value) (hl:cs.length=us.length) (h:∀(j:Nat) c u,cs[j]? =some c→us[j]? =some u→Rd w F nm c u):Rd w F nm (.fn f cs) (f26 f us)
 | nilfn (nm):Rd w F nm .nilfn .nilFunc
 | nili (nm):Rd w F nm .nili .nilIface
 | iface (nm t c u) (h:Rd w F nm c u):Rd w F nm (.iface t c) (.iface t u)
 | mapv (nm i m) (hi:nm i=some m):Rd w F nm (.mapv i) (.map (some m.g))
 | nilm (nm):Rd w F nm .nilm (.map none)
 | rawp (nm b o):Rd w F nm (.rawp b o) (.pointer (some ⟨b,o,none⟩))
 | mapc (nm) (es:List AV) (g) (ents:Array MapEntry) (clock) (hF:F g) (hh:w.heap[g]? =some (.map ents clock)) (hbn:(∀e∈ents.toList,e.born<clock)∧(ents.toList.map (·.born)).Nodup) (hl:es.length=ents.size) (ht:∀(j:Nat) x,es[j]? =some x→∃k v,x= .tup [k,v])
   (hk:∀(j:Nat) (e:MapEntry) k v,ents[j]? =some e→es[j]? =some (.tup [k,v])→Rd w F n10 k e.key)
   (hv:∀(j:Nat) (e:MapEntry) k v,ents[j]? =some e→es[j]? =some (.tup [k,v])→Rd w F n10 v e.val):Rd w F nm (.mapc es) (.map (some g))
structure Box where
 row:Bool
 ty:Nat
 sz:Nat
 es:List AV
structure St where
 N:Nat
 env:List (Nat×AV)
 heap:List (Nat×Box)
def eget:List (Nat×AV)→Nat→AV
 | [],_ =>.top
 | (j,v)::r,t=>if j=t then v else eget r t
def hget:List (Nat×Box)→Nat→Option Box
 | [],_ =>none
 | (j,b)::r,i=>if j=i then some b else hget r i
def hset:List (Nat×Box)→Nat→Box→List (Nat×Box)
 | [],i,b=>[(i,b)]
 | (j,c)::r,i,b=>if j=i then (i,b)::r else (j,c)::hset r i b
inductive Opd where
 | t (n:Nat)
 | k (v:AV)
 | f (n:Nat)
 | g (n:Nat)
def St.get (st:St) (t:Nat):AV:=eget st.env t
def St.ev (G:Nat→Option AV) (st:St):Opd→AV
 | .t n=>eget st.env n
 | .k v=>v
 | .f n=>.fn n []
 | .g n=>match G n with | some e=>.eptr e 0 | none=>.top
def purge (i:Nat):AV→AV
 | .arr j k n=>if j=i then .top else .arr j k n
 | .ref j k off=>if j=i then .top else .ref j k off
 | .mapv j=>if j=i then .top else .mapv j
 | .agg cs=>.agg (go i cs)
 | .tup cs=>.tup (go i cs)
 | .fn f cs=>.fn f (go i cs)
 | .iface t v=>.iface t (purge i v)
 | v=>v
where
 go (i:Nat):List AV→List AV
 | []=>[]
 | c::cs=>purge i c::go i cs
def thaw (i:Nat) (b:Box):AV→AV
 | .mapv j=>if j=i then (if b.sz=0∧(b.ty=1∨3≤b.ty) then .mapc b.es else .top) else .mapv j
 | .arr j k n=>if j=i then (if 0<b.sz∧k+n≤b.es.length then .seq b.sz ((b.es.drop k).take n) else .top) else .arr j k n
 | .agg cs=>.agg (go i b cs)
 | .tup cs=>.tup (go i b cs)
 | .fn f cs=>.fn f (go i b cs)
 | .iface t v=>.iface t (thaw i b v)
 | v=>v
where
 go (i:Nat) (b:Box):List AV→List AV
 | []=>[]
 | c::cs=>thaw i b c::go i b cs
def p_ (i:Nat):List (Nat×AV)→List (Nat×AV)
 | []=>[]
 | (t,v)::r=>(t,purge i v)::p_ i r
def p10 (i:Nat) (b:Box):Box:=if b.row then b else {b with es:=purge.go i b.es}
def p11 (i:Nat):List (Nat×Box)→List (Nat×Box)
 | []=>[]
 | (j,b)::r=>if j=i then p11 i r else (j,p10 i b)::p11 i r
def t39 (i:Nat) (b:Box):List (Nat×AV)→List (Nat×AV)
 | []=>[]
 | (t,v)::r=>(t,thaw i b v)::t39 i b r
def t37 (i:Nat) (b c:Box):Box:=if c.row then c else {c with es:=thaw.go i b c.es}
def t38 (i:Nat) (b:Box):List (Nat×Box)→List (Nat×Box)
 | []=>[]
 | (j,c)::r=>if j=i then t38 i b r else (j,t37 i b c)::t38 i b r
def St.put (st:St) (d:Option Nat) (v:AV):Option St:=
 match d with
 | none=>some st
 | some d=>if d<st.N then some {st with env:=(d,v)::st.env} else none
def St.new (st:St) (d:Option Nat) (b:Box) (v:AV):Option St:=
 match d with
 | none=>none
 | some d=>if d<st.N then some {st with env:=(d,v)::p_ d st.env,heap:=(d,b)::p11 d st.heap} else none
def view (H:List (Nat×Box)):AV→Option AV
 | .top=>some .top
 | .bool b=>some (.bool b)
 | .int k n=>some (.int k n)
 | .str s=>some (.str s)
 | .seq sz es=>some (.seq sz es)
 | .full sz es=>some (.full sz es)
 | .nils=>some .nils
 | .nilp=>some .nilp
 | .nilfn=>some .nilfn
 | .nili=>some .nili
 | .eptr e off=>some (.eptr e off)
 | .nilm=>some .nilm
 | .rawp b o=>some (.rawp b o)
 | .mapc es=>some (.mapc es)
 | .iface t v=>(view H v).map (.iface t)
 | .fn f cs=>(go H cs).map (.fn f)
 | .agg cs=>(go H cs).map .agg
 | .tup cs=>(go H cs).map .tup
 | .arr i k n=>match hget H i with | some b=>if b.row=true∧0<b.sz∧k+n≤b.es.length then some (.seq b.sz ((b.es.drop k).take n)) else none | none=>none
 | .undef | .ref .. | .mapv _ =>none
where
 go (H:List (Nat×Box)):List AV→Option (List AV)
 | []=>some []
 | c::cs=>match view H c,go H cs with | some x,some xs=>some (x::xs) | _,_ =>none
def viewK (rec:AV→Option AV) (H:List (Nat×Box)):AV→Option AV
 | .top=>some .top
 | .bool b=>some (.bool b)
 | .int k n=>some (.int k n)
 | .str s=>some (.str s)
 | .seq sz es=>some (.seq sz es)
 | .full sz es=>some (.full sz es)
 | .nils=>some .nils
 | .nilp=>some .nilp
 | .nilfn=>some .nilfn
 | .nili=>some .nili
 | .eptr e off=>some (.eptr e off)
 | .nilm=>some .nilm
 | .rawp b o=>some (.rawp b o)
 | .mapc es=>some (.mapc es)
 | .iface t v=>(viewK rec H v).map (.iface t)
 | .fn f cs=>(go rec H cs).map (.fn f)
 | .agg cs=>(go rec H cs).map .agg
 | .tup cs=>(go rec H cs).map .tup
 | .arr i k n=>match hget H i with | some b=>if b.row=true∧0<b.sz∧k+n≤b.es.length then some (.seq b.sz ((b.es.drop k).take n)) else none | none=>none
 | .ref i k off=>match hget H i with | some b=>if 0<b.sz then (match b.es[k]? with | some e=>(rec e).map (.eptr · off) | none=>none) else none | none=>none
 | .mapv i=>match hget H i with | some b=>if b.sz=0∧(b.ty=1∨3≤b.ty) then some (.mapc b.es) else none | none=>none
 | .undef=>none
where
 go (rec:AV→Option AV) (H:List (Nat×Box)):List AV→Option (List AV)
 | []=>some []
 | c::cs=>match viewK rec H c,go rec H cs with | some x,some xs=>some (x::xs) | _,_ =>none
def viewB:Nat→List (Nat×Box)→AV→Option AV
 | 0,H=>viewK (fun _ =>none) H
 | n+1,H=>viewK (viewB n H) H
def viewBs (H:List (Nat×Box)):List AV→Option (List AV)
 | []=>some []
 | v::vs=>match viewB 6 H v,viewBs H vs with | some x,some xs=>some (x::xs) | _,_ =>none
def r15:AV→List Nat
 | .arr i _ _ =>[i]
 | .agg cs=>go cs
 | .tup cs=>go cs
 | .fn _ cs=>go cs
 | .iface _ v=>r15 v
 | _ =>[]
where
 go:List AV→List Nat
 | []=>[]
 | c::cs=>r15 c++go cs
def St.thaw1 (st:St) (i:Nat):St:=
 match hget st.heap i with
 | some b=>{st with env:=t39 i b st.env,heap:=t38 i b st.heap}
 | none=>st
def St.thaws (st:St):List Nat→St
 | []=>st
 | i::is=>(st.thaw1 i).thaws is
def flat:AV→Bool
 | .top | .bool _ | .int _ _ | .str _ | .nils | .nilp | .nilfn | .nili | .nilm | .undef | .rawp _ _ =>true
 | .agg cs=>go cs
 | .tup cs=>go cs
 | .iface _ v=>flat v
 | _ =>false
where
 go:List AV→Bool
 | []=>true
 | c::cs=>flat c&&go cs
def St.trimE (st:St):List Nat→List (Nat×AV)
 | []=>[]
 | t::ts=>(t,eget st.env t)::st.trimE ts
def St.trimH (st:St):List Nat→List (Nat×Box)
 | []=>[]
 | i::is=>match hget st.heap i with | some b=>(i,b)::st.trimH is | none=>st.trimH is
def f13 (N:Nat):List (Nat×Box)→List (Nat×Box)
 | []=>[]
 | (i,b)::r=>if N≤i then (i,b)::f13 N r else f13 N r
def happ:List (Nat×Box)→List (Nat×Box)→List (Nat×Box)
 | [],r=>r
 | x::l,r=>x::happ l r
def St.trim (st:St) (kt kb:List Nat):St:={st with env:=st.trimE kt,heap:=happ (st.trimH kb) (f13 st.N st.heap)}
inductive AOp where
 | mov (x:Opd)
 | nilrow (ty sz:Nat)
 | pick (c a b:Opd)
 | alloc (ty sz:Nat) (z:AV)
 | box (ty sz:Nat) (x:Opd)
 | build (zs:List AV) (parts:List (Nat×Nat×Opd))
 | mkrow (ty sz n:Nat) (z:AV) (parts:List (Nat×Opd))
 | load (p:Opd)
 | loadN (p:Opd) (n:Nat)
 | store (p x:Opd) (n:Nat)
 | bin (op:BinOp) (x y:Opd)
 | eqA (neg:Bool) (ks:List Nat) (x y:Opd)
 | eqB (neg:Bool) (x y:Opd)
 | un (op:UnOp) (x:Opd)
 | conv (k:IntKind) (x:Opd)
 | fld (x:Opd) (off:Nat)
 | faddr (p:Opd) (off:Nat)
 | iaddr (sz:Nat) (x i:Opd)
 | idx (x i:Opd)
 | slc (sz:Nat) (x:Opd) (lo hi:Option Opd)
 | len (isStr:Bool) (x:Opd)
 | app (ty sz bytes:Nat) (x y:Opd)
 | ext (x:Opd) (i:Nat)
 | nchk (x:Opd)
 | mkfn (f:Nat) (caps:List Opd)
 | call (f:Nat) (args:List Opd)
 | callv (x:Opd) (args:List Opd)
 | callB (f:Nat) (args:List Opd)
 | callvB (x:Opd) (args:List Opd)
 | bad
 | mks (ty sz bytes:Nat) (z:AV) (n c:Opd)
 | slcG (n:Nat) (x:Opd)
 | mx (mn:Bool) (x y:Opd)
 | rng (x:Opd)
 | nxt (x:Opd)
 | mki (t:Nat) (x:Opd)
 | eqI (neg:Bool) (x y:Opd)
 | mkmap
 | mget (ok ag:Bool) (ks:List Nat) (z:AV) (x k:Opd)
 | mput (ag:Bool) (ks:List Nat) (x k v:Opd)
structure AO where
 d:Option Nat
 op:AOp
 g:Option (Nat×Bool)
def bAnd (k:IntKind) (a b:Int):Int:=k.wrap (BitVec.ofInt k.bits a&&& BitVec.ofInt k.bits b).toNat
def bOr (k:IntKind) (a b:Int):Int:=k.wrap (BitVec.ofInt k.bits a||| BitVec.ofInt k.bits b).toNat
def bXor (k:IntKind) (a b:Int):Int:=k.wrap (BitVec.ofInt k.bits a ^^^ BitVec.ofInt k.bits b).toNat
def b14 (k:IntKind) (a b:Int):Int:=k.wrap (BitVec.ofInt k.bits a&&& ~~~BitVec.ofInt k.bits b).toNat
def bShl (k:IntKind) (a b:Int):Int:=k.wrap (a*2 ^ (min b.toNat k.bits))
def bShr (k:IntKind) (a b:Int):Int:=a.fdiv (2 ^ (min b.toNat k.bits))
def abin (op:BinOp):AV→AV→Option AV
 | .int k a,.int k' b=>
  match op with
  | .shl=>if b<0 then none else some (.int k (bShl k a b))
  | .shr=>if b<0 then none else some (.int k (bShr k a b))
  | .add=>if k=k' then some (.int k (k.wrap (a+b))) else none
  | .sub=>if k=k' then some (.int k (k.wrap (a - b))) else none
  | .mul=>if k=k' then some (.int k (k.wrap (a*b))) else none
  | .quo=>if k=k'∧b≠0 then some (.int k (k.wrap (a.tdiv b))) else none
  | .rem=>if k=k'∧b≠0 then some (.int k (a.tmod b)) else none
  | .and=>if k=k' then some (.int k (bAnd k a b)) else none
  | .or=>if k=k' then some (.int k (bOr k a b)) else none
  | .xor=>if k=k' then some (.int k (bXor k a b)) else none
  | .andNot=>if k=k' then some (.int k (b14 k a b)) else none
  | .eql=>if k=k' then some (.bool (a==b)) else none
  | .neq=>if k=k' then some (.bool (a != b)) else none
  | .lss=>if k=k' then some (.bool (decide (a<b))) else none
  | .leq=>if k=k' then some (.bool (decide (a≤b))) else none
  | .gtr=>if k=k' then some (.bool (decide (b<a))) else none
  | .geq=>if k=k' then some (.bool (decide (b≤a))) else none
 | .str a,.str b=>
  match op with
  | .add=>if a.length+b.length≤9223372036854775807 then some (.str (a++b)) else none
  | .eql=>some (.bool (a==b))
  | .neq=>some (.bool (!(a==b)))
  | .lss=>some (.bool (Op.bytesLess a b))
  | .leq=>some (.bool (Op.bytesLess a b||a==b))
  | .gtr=>some (.bool (!(Op.bytesLess a b||a==b)))
  | .geq=>some (.bool (!(Op.bytesLess a b)))
  | _ =>none
 | _,_ =>none
def aeqB (neg:Bool):AV→AV→Option AV
 | .bool a,.bool b=>some (.bool (if neg then !(a==b) else a==b))
 | _,_ =>none
def aeqI (neg:Bool):AV→AV→Option AV
 | .nili,.nili=>some (.bool (!neg))
 | .iface ..,.nili=>some (.bool neg)
 | _,_ =>none
def l11:Nat→AV→AV→Option Bool
 | 0,.int k a,.int k' b=>if k=k' then some (a==b) else none
 | 1,.str a,.str b=>some (a==b)
 | 2,.bool a,.bool b=>some (a==b)
 | _,_,_ =>none
def andO:Option Bool→Option Bool→Option Bool
 | some a,some b=>some (a&&b)
 | _,_ =>none
def aeqs:List Nat→List AV→List AV→Option Bool
 | [],[],[]=>some true
 | k::ks,c::cs,d::ds=>andO (l11 k c d) (aeqs ks cs ds)
 | _,_,_ =>none
def aeqA (neg:Bool) (ks:List Nat):AV→AV→Option AV
 | .agg cs,.agg ds=>match aeqs ks cs ds with | some b=>some (.bool (if neg then !b else b)) | none=>none
 | _,_ =>none
def aun (op:UnOp):AV→Option AV
 | .bool b=>match op with | .not=>some (.bool (!b)) | _ =>none
 | .int k n=>match op with | .neg=>some (.int k (k.wrap (0 - n))) | _ =>none
 | _ =>none
def a30 (k:IntKind):AV→Option AV
 | .int _ n=>some (.int k (k.wrap n))
 | _ =>none
def a28:AV→AV→AV→Option AV
 | .bool c,a,b=>match c,a,b with
  | true,a,_ =>some a
  | false,_,b=>some b
 | _,_,_ =>none
def alen (isStr:Bool):AV→Option AV
 | .str s=>if isStr then some (.int .i64 s.length) else none
 | .seq _ es=>if isStr then none else some (.int .i64 es.length)
 | .nils=>if isStr then none else some (.int .i64 0)
 | .arr _ _ n=>if isStr then none else some (.int .i64 n)
 | .full _ es=>if isStr then none else some (.int .i64 es.length)
 | _ =>none
def aext:AV→Nat→Option AV
 | .tup cs,i=>cs[i]?
 | _,_ =>none
def a32:AV→Option AV
 | .ref i k off=>some (.ref i k off)
 | .eptr e off=>some (.eptr e off)
 | .fn f cs=>some (.fn f cs)
 | .iface t v=>some (.iface t v)
 | _ =>none
def afld:AV→Nat→Option AV
 | .agg cs,off=>cs[off]?
 | _,_ =>none
def a24:AV→Nat→Option AV
 | .ref i k off,o=>some (.ref i k (off+o))
 | .eptr e off,o=>some (.eptr e (off+o))
 | _,_ =>none
def a16 (H:List (Nat×Box)) (sz:Nat):AV→AV→Option AV
 | .seq z es,.int _ n=>if z=sz∧0≤n then (es[n.toNat]?).map (.eptr · 0) else none
 | .arr i k m,.int _ n=>match hget H i with
  | some b=>if b.sz=sz∧0≤n∧n<m then some (.ref i (k+n.toNat) 0) else none
  | none=>none
 | .full z es,.int _ n=>if z=sz∧0≤n then (es[n.toNat]?).map (.eptr · 0) else none
 | _,_ =>none
def aidx:AV→AV→Option AV
 | .str s,.int _ n=>if 0≤n then (s[n.toNat]?).map (fun b=>.int .u8 b.toNat) else none
 | _,_ =>none
def aslc (z:Nat):AV→Option AV→Option AV→Option AV
 | .str s,lo,hi=>if z=0 then match lo.getD (.int .i64 0),hi.getD (.int .i64 s.length) with
  | .int _ l,.int _ h=>if 0≤l∧l≤h∧h≤s.length then some (.str ((s.drop l.toNat).take (h.toNat - l.toNat))) else none
  | _,_ =>none
  else none
 | .seq sz es,lo,hi=>if z=sz∧0<z then match lo.getD (.int .i64 0),hi.getD (.int .i64 es.length) with
  | .int _ l,.int _ h=>if 0≤l∧l≤h∧h≤es.length then some (.seq sz ((es.drop l.toNat).take (h.toNat - l.toNat))) else none
  | _,_ =>none
  else none
 | _,_,_ =>none
def h16 (H:List (Nat×Box)):AV→Option (List AV×Nat)
 | .ref i k off=>match hget H i with
  | some b=>if 0<b.sz then (b.es[k]?).map fun e=>(e.cells,off) else none
  | none=>none
 | .eptr e off=>some (e.cells,off)
 | _ =>none
def a26 (H:List (Nat×Box)) (p:AV):Option AV:=
 match h16 H p with
 | some (cs,off)=>cs[off]?
 | none=>none
def a22 (H:List (Nat×Box)) (p:AV) (n:Nat):Option AV:=
 match h16 H p with
 | some (cs,off)=>if off+n≤cs.length then some (.agg ((cs.drop off).take n)) else none
 | none=>none
def s18:List AV→Nat→List AV→List AV
 | cs,0,[]=>cs
 | [],_,_ =>[]
 | _ ::cs,0,d::ds=>d::s18 cs 0 ds
 | c::cs,o+1,ds=>c::s18 cs o ds
def c19:AV→Bool
 | .top | .undef | .agg _ | .tup _ =>false
 | _ =>true
def fits (v:AV) (n:Nat):Bool:=match v with
 | .agg cs=>cs.length==n&&cs.all c19
 | v=>n==1&&c19 v
def r23:AV→List AV→Option AV
 | .agg _,cs=>some (.agg cs)
 | _,[x]=>if c19 x then some x else none
 | _,_ =>none
def clean:AV→Bool
 | .arr .. | .ref .. | .mapv _ =>false
 | .agg cs=>go cs
 | .tup cs=>go cs
 | .fn _ cs=>go cs
 | .iface _ v=>clean v
 | _ =>true
where
 go:List AV→Bool
 | []=>true
 | c::cs=>clean c&&go cs
def a19 (st:St) (p v:AV) (n:Nat):Option St:=
 match p with
 | .ref i k off=>match hget st.heap i with
  | some b=>if b.row=true∧(clean v=false∨b.sz=0) then none else match b.es[k]? with
   | some e=>if fits v n∧off+n≤e.cells.length then match r23 e (s18 e.cells off v.cells) with
     | some e'=>some {st with heap:=hset st.heap i {b with es:=b.es.set k e'}}
     | none=>none
    else none
   | none=>none
  | none=>none
 | _ =>none
def a27 (n:Nat):AV→Option AV
 | .eptr (.agg cs) 0=>if cs.length=n∧cs.all c19=true then some (.seq 1 cs) else none
 | _ =>none
def amx (mn:Bool):AV→AV→Option AV
 | .int k a,.int k' b=>if k=k' then some (.int k (if mn then (if b<a then b else a) else (if b>a then b else a))) else none
 | _,_ =>none
def adec (s:List UInt8) (p:Nat):Nat×Nat:=Utf8.decode ⟨s.toArray⟩ p
def anxt (st:St) (d:Option Nat) (x:AV):Option St:=
 match d,x with
 | some d,.ref i 0 0=>match hget st.heap i with
  | some b=>match b.es with
   | [.str s,.int .i64 p]=>if b.row=true∧b.sz=0∧b.ty=0∧0≤p∧d<st.N then
       (if p.toNat<s.length then some {st with env:=(d,.tup [.bool true,.int .i64 p,.int .i32 ((adec s p.toNat).1:Nat)])::st.env,heap:=hset st.heap i {b with es:=[.str s,.int .i64 ((p.toNat+(adec s p.toNat).2:Nat):Int)]}}
        else some {st with env:=(d,.tup [.bool false])::st.env}) else none
   | _ =>none
  | none=>none
 | _,_ =>none
def arng (st:St) (d:Option Nat) (x:AV):Option St:=
 match d,x with
 | some d,.str s=>st.new (some d) ⟨true,0,0,[.str s,.int .i64 0]⟩ (.ref d 0 0)
 | _,_ =>none
def amks (st:St) (d:Option Nat) (ty sz bytes:Nat) (z n c:AV):Option St:=
 match d,n,c with
 | some d,.int _ a,.int _ b=>if 0≤a∧a≤b∧b*bytes≤140737488355328 then st.new (some d) ⟨true,ty,sz,List.replicate a.toNat z⟩ (.arr d 0 a.toNat) else none
 | _,_,_ =>none
def evs (G:Nat→Option AV) (st:St):List Opd→List AV
 | []=>[]
 | x::xs=>st.ev G x::evs G st xs
def viewAll (H:List (Nat×Box)):List AV→Option (List AV)
 | []=>some []
 | v::vs=>match view H v,viewAll H vs with | some x,some xs=>some (x::xs) | _,_ =>none
def r12:List AV→List Nat
 | []=>[]
 | v::vs=>r15 v++r12 vs
def a18 (G:Nat→Option AV) (st:St) (zs:List AV):List (Nat×Nat×Opd)→Option AV
 | []=>some (.agg zs)
 | (off,n,x)::ps=>if fits (st.ev G x) n∧off+n≤zs.length then a18 G st (s18 zs off (st.ev G x).cells) ps else none
def r13 (sz:Nat) (es:List AV):List (Nat×AV)→Option (List AV)
 | []=>some es
 | (i,v)::ps=>if fits v sz∧i<es.length then r13 sz (es.set i v) ps else none
def news (H:List (Nat×Box)) (sz i:Nat):AV→Option (List AV)
 | .seq z es=>if z=sz then some es else none
 | .nils=>some []
 | .arr j k m=>if j=i then none else match hget H j with
  | some b=>if b.row∧b.sz=sz∧k+m≤b.es.length then some ((b.es.drop k).take m) else none
  | none=>none
 | _ =>none
def aapp (st:St) (d:Option Nat) (ty sz bytes:Nat) (x y:AV):Option St:=
 match x with
 | .nils=>match d with
  | some d=>match news st.heap sz d y with
   | some es=>if es.length*bytes≤140737488355328 then st.new (some d) ⟨true,ty,sz,es⟩ (.arr d 0 es.length) else none
   | none=>none
  | none=>none
 | .arr i 0 n=>match d,hget st.heap i,news st.heap sz i y with
  | some d,some b,some es=>
   if b.row=true∧b.ty=ty∧b.sz=sz∧b.es.length=n∧(n+es.length)*bytes≤140737488355328∧d<st.N then
    some {st with env:=(d,.arr i 0 (n+es.length))::p_ i st.env,heap:=hset (p11 i st.heap) i {b with es:=b.es++es}} else none
  | _,_,_ =>none
 | .full z es0=>match news st.heap sz (d.getD 0) y with
  | some es=>if z=sz∧es.isEmpty=false∧(es0.length+es.length)*bytes≤140737488355328 then st.put d (.seq sz (es0++es)) else none
  | none=>none
 | _ =>none
def a25 (H:List (Nat×Box)) (z:Nat) (x:AV) (lo hi:Option AV):Option AV:=
 match x with
 | .arr i k n=>match hget H i with
  | some b=>if b.sz=z∧0<z then match lo.getD (.int .i64 0),hi.getD (.int .i64 n) with
   | .int _ l,.int _ h=>if 0≤l∧l≤h∧h≤n then some (.arr i (k+l.toNat) (h.toNat - l.toNat)) else none
   | _,_ =>none
   else none
  | none=>none
 | x=>aslc z x lo hi
def i13:AV→Bool
 | .agg _ =>true
 | _ =>false
def k14 (ag:Bool) (ks:List Nat) (x y:AV):Option Bool:=if i13 x=ag∧i13 y=ag then aeqs ks x.cells y.cells else none
def k15 (ag:Bool) (ks:List Nat) (x:AV):Bool:=match k14 ag ks x x with | some true=>true | _ =>false
def m12 (ag:Bool) (ks:List Nat) (k:AV):List AV→Nat→Option (Option (Nat×AV))
 | [],_ =>some none
 | .tup [a,b]::r,i=>match k14 ag ks k a with
  | some true=>some (some (i,b))
  | some false=>m12 ag ks k r (i+1)
  | none=>none
 | _ ::_,_ =>none
def mres (ok:Bool) (z:AV):Option (Nat×AV)→AV
 | some (_,v)=>if ok then .tup [v,.bool true] else v
 | none=>if ok then .tup [z,.bool false] else z
def a29 (H:List (Nat×Box)) (ok ag:Bool) (ks:List Nat) (z:AV) (x k:AV):Option AV:=
 match x with
 | .nilm=>if k15 ag ks k=true then some (mres ok z none) else none
 | .mapv i=>match hget H i with
  | some b=>if b.sz=0∧(b.ty=1∨3≤b.ty)∧k15 ag ks k=true then (m12 ag ks k b.es 0).map (mres ok z) else none
  | none=>none
 | .mapc es=>if k15 ag ks k=true then (m12 ag ks k es 0).map (mres ok z) else none
 | _ =>none
def a33 (st:St) (ag:Bool) (ks:List Nat) (x k v:AV):Option St:=
 match x with
 | .mapv i=>match hget st.heap i with
  | some b=>if b.sz=0∧(b.ty=1∨3≤b.ty)∧k15 ag ks k=true∧clean v=true then match m12 ag ks k b.es 0 with
   | some (some (j,_))=>some {st with heap:=hset st.heap i {b with es:=b.es.set j (.tup [k,v])}}
   | some none=>some {st with heap:=hset st.heap i {b with es:=b.es++[.tup [k,v]]}}
   | none=>none
   else none
  | none=>none
 | _ =>none
def zV:AV→AV
 | .tup [z]=>z
 | .tup [z,_]=>z
 | z=>z
def e_ (G:Nat→Option AV) (d:Option Nat) (op:AOp) (st:St):Option St:=
 match op with
 | .mov x=>st.put d (st.ev G x)
 | .nilrow ty sz=>match d with | some d=>st.new (some d) ⟨true,ty,sz,[]⟩ (.arr d 0 0) | none=>none
 | .pick c a b=>(a28 (st.ev G c) (st.ev G a) (st.ev G b)).bind (st.put d)
 | .alloc ty sz z=>match d with | some d=>st.new (some d) ⟨false,ty,sz,[z]⟩ (.ref d 0 0) | none=>none
 | .box ty sz x=>match d with | some d=>if fits (purge d (st.ev G x)) sz then st.new (some d) ⟨false,ty,sz,[purge d (st.ev G x)]⟩ (.ref d 0 0) else none | none=>none
 | .build zs ps=>(a18 G st zs ps).bind (st.put d)
 | .mkrow ty sz n z ps=>match d with
  | some d=>match z with
   | .tup [z]=>match r13 sz (List.replicate n z) ((ps.map (·.1)).zip ((evs G st (ps.map (·.2))).map (purge d))) with
    | some es=>st.new (some d) ⟨false,ty,sz,es⟩ (.arr d 0 n)
    | none=>none
   | .tup [z,_]=>match viewAll st.heap (evs G st (ps.map (·.2))) with
    | some vs=>match r13 sz (List.replicate n z) ((ps.map (·.1)).zip vs) with
     | some es=>if (r12 (evs G st (ps.map (·.2)))).isEmpty=true then st.put (some d) (.full sz es) else none
     | none=>none
    | none=>none
   | z=>match viewAll st.heap (evs G st (ps.map (·.2))) with
    | some vs=>match r13 sz (List.replicate n z) ((ps.map (·.1)).zip vs) with
     | some es=>(st.thaws (r12 (evs G st (ps.map (·.2))))).new (some d) ⟨true,ty,sz,es⟩ (.arr d 0 n)
     | none=>none
    | none=>none
  | none=>none
 | .load p=>(a26 st.heap (st.ev G p)).bind (st.put d)
 | .loadN p n=>(a22 st.heap (st.ev G p) n).bind (st.put d)
 | .store p x n=>a19 st (st.ev G p) (st.ev G x) n
 | .bin op x y=>(abin op (st.ev G x) (st.ev G y)).bind (st.put d)
 | .eqA neg ks x y=>(aeqA neg ks (st.ev G x) (st.ev G y)).bind (st.put d)
 | .eqB neg x y=>(aeqB neg (st.ev G x) (st.ev G y)).bind (st.put d)
 | .un op x=>(aun op (st.ev G x)).bind (st.put d)
 | .conv k x=>(a30 k (st.ev G x)).bind (st.put d)
 | .fld x off=>(afld (st.ev G x) off).bind (st.put d)
 | .faddr p off=>(a24 (st.ev G p) off).bind (st.put d)
 | .iaddr sz x i=>(a16 st.heap sz (st.ev G x) (st.ev G i)).bind (st.put d)
 | .idx x i=>(aidx (st.ev G x) (st.ev G i)).bind (st.put d)
 | .slc z x lo hi=>(a25 st.heap z (st.ev G x) (lo.map (st.ev G)) (hi.map (st.ev G))).bind (st.put d)
 | .len b x=>(alen b (st.ev G x)).bind (st.put d)
 | .app ty sz bytes x y=>aapp st d ty sz bytes (st.ev G x) (st.ev G y)
 | .ext x i=>(aext (st.ev G x) i).bind (st.put d)
 | .nchk x=>(a32 (st.ev G x)).bind (st.put d)
 | .mkfn f caps=>st.put d (.fn f (evs G st caps))
 | .mks ty sz bytes z n c=>amks st d ty sz bytes z (st.ev G n) (st.ev G c)
 | .slcG n x=>(a27 n (st.ev G x)).bind (st.put d)
 | .mx mn x y=>(amx mn (st.ev G x) (st.ev G y)).bind (st.put d)
 | .rng x=>arng st d (st.ev G x)
 | .nxt x=>anxt st d (st.ev G x)
 | .mki t x=>st.put d (.iface t (st.ev G x))
 | .eqI neg x y=>(aeqI neg (st.ev G x) (st.ev G y)).bind (st.put d)
 | .mkmap=>match d with | some d=>st.new (some d) ⟨true,1,0,[]⟩ (.mapv d) | none=>none
 | .mget ok ag ks z x k=>(a29 st.heap ok ag ks z (st.ev G x) (st.ev G k)).bind (st.put d)
 | .mput ag ks x k v=>match d with | none=>a33 st ag ks (st.ev G x) (st.ev G k) (st.ev G v) | some _ =>none
 | .bad | .call _ _ | .callv _ _ | .callB _ _ | .callvB _ _ =>none
