/- Lemmas. -/
import Derived.Orders
import Derived.Below
import Derived.Laws.AppendOwnNone
set_option linter.unusedSimpArgs false
namespace Go.Proofs.YtkgcnoghjibiaaaGreatDoor.Ab
open Go
abbrev zQ:=@List.length_map
abbrev zX:=@List.getElem?_eq_some_iff
abbrev zZ:=@Option.some.injEq
abbrev zJ:=@Bool.and_eq_true
abbrev zK:=@if_neg
abbrev zY:=@if_pos
abbrev zW:=@decide_eq_true_eq
abbrev zU:=@List.getElem?_eq_getElem
abbrev zF:=@Bool.false_eq_true
abbrev zG:=@List.mem_of_getElem?
abbrev zH:=@Option.map_eq_some_iff
abbrev zL:=@List.length_append
abbrev zM:=@List.getElem?_of_mem
abbrev zN:=@Nat.le_refl
abbrev zP:=@Int.toNat_natCast
abbrev zR:=@List.mem_cons_of_mem
abbrev zS:=@List.getElem?_map
abbrev zT:=@List.take_of_length_le
abbrev zB:=@beq_iff_eq
abbrev zC:=@Array.getD_eq_getD_getElem?
abbrev zD:=@List.mem_cons_self
abbrev zE:=@List.map_append
abbrev zA:=@Int.eq_ofNat_of_zero_le
abbrev zI:=@List.mem_map
abbrev zO:=@List.foldl_cons
abbrev yQ:=@decide_eq_false_iff_not
abbrev yX:=@Bool.not_eq_true'
abbrev yZ:=@List.mem_singleton
abbrev yJ:=@List.map_cons
abbrev yK:=@List.getElem?_cons_zero
abbrev yY:=@Bool.eq_iff_iff
abbrev yV:=@List.mem_cons
abbrev yW:=@List.getElem?_cons_succ
abbrev yU:=@List.map_nil
abbrev yF:=@Option.map_some
abbrev yG:=@Array.getElem?_eq_getElem
abbrev yH:=@List.length_cons
abbrev yL:=@List.drop_eq_nil_of_le
abbrev yM:=@Bool.false_and
abbrev yN:=@List.getElem?_take
abbrev yP:=@List.mem_filter
abbrev yR:=@Bool.true_and
abbrev yS:=@Nat.zero_add
abbrev yT:=@List.eq_nil_of_length_eq_zero
abbrev yB:=@List.mem_append
abbrev yC:=@Array.getElem?_eq_some_iff
abbrev yD:=@decide_true
abbrev yE:=@List.any_eq_true
abbrev yA:=@decide_false
abbrev yI:=@if_false
abbrev yO:=@List.drop_of_length_le
abbrev xQ:=@List.all_eq_true
abbrev xX:=@List.getElem?_drop
abbrev xZ:=@Nat.mul_le_mul_right
abbrev xJ:=@List.getElem?_append_left
abbrev xK:=@Option.getD_some
abbrev xY:=@List.length_nil
abbrev xV:=@List.getElem?_append_right
abbrev xW:=@if_true
abbrev xU:=@List.drop_eq_getElem_cons
abbrev xF:=@List.mem_range
abbrev xG:=@List.length_take
abbrev xH:=@List.length_filter_le
abbrev xL:=@List.append_assoc
abbrev xM:=@Nat.add_mul
abbrev xN:=@Nat.succ_pos
abbrev xP:=@List.getElem?_set
abbrev xR:=@List.getElem?_range
abbrev xS:=@Nat.le_of_ble_eq_true
abbrev xT:=@List.append_nil
abbrev xB:=@Int.cast_ofNat_Int
abbrev xC:=@beq_eq_false_iff_ne
abbrev xD:=@List.nodup_append
abbrev xE:=@List.length_range
abbrev xA:=@List.findIdx?_eq_some_iff_getElem
abbrev xI:=@Int.le_refl
abbrev xO:=@List.drop_zero
abbrev wQ:=@decide_eq_true
abbrev wX:=@Bool.and_true
abbrev wZ:=@List.Nodup.idxOf_getElem
abbrev wJ:=@Nat.lt_of_lt_of_le
abbrev wK:=@Bool.and_eq_false_imp
abbrev wY:=@List.take_zero
abbrev wV:=@List.take_length
abbrev wU:=@List.any_eq_false
abbrev wF:=@not_true_eq_false
abbrev wG:=@List.mem_of_mem_take
abbrev wH:=@Bool.or_eq_true
abbrev wL:=@Option.some.inj
abbrev wM:=@Bool.not_true
abbrev wN:=@List.length_drop
abbrev wP:=@List.idxOf_lt_length_iff
abbrev wR:=@List.getElem?_eq_none
abbrev wB:=@List.flatMap_cons
abbrev wC:=@Nat.zero_le
abbrev wE:=@List.getElem?_append
abbrev wA:=@decide_eq_false
abbrev wO:=@List.pairwise_iff_getElem
abbrev vQ:=@List.getElem?_eq_none_iff
abbrev vX:=@Bool.not_false
abbrev vZ:=@Nat.add_zero
abbrev vJ:=@List.mem_of_mem_drop
abbrev vK:=@Nat.add_assoc
abbrev vY:=@Nat.le_trans
abbrev vV:=@Option.isSome_none
abbrev vW:=@List.ext_getElem
abbrev vU:=@Int.natCast_nonneg
abbrev vF:=@List.eq_nil_iff_forall_not_mem
abbrev vG:=@Prod.mk.injEq
abbrev vH:=@List.getElem?_take_of_lt
abbrev vL:=@Option.ite_none_right_eq_some
abbrev vM:=@List.ext_getElem?
abbrev vN:=@Option.bind_some
abbrev vP:=@List.filter_append
abbrev vR:=@Array.getElem?_toList
abbrev vS:=@List.take_append_drop
abbrev vT:=@List.mem_of_find?_eq_some
abbrev vB:=@Bool.not_eq_false
abbrev vC:=@List.take_add_one
abbrev vD:=@Nat.lt_or_ge
abbrev vA:=@List.contains_eq_mem
abbrev vI:=@Array.toArray_toList
abbrev vO:=@List.eq_of_mem_replicate
abbrev uQ:=@List.take_succ_cons
abbrev uX:=@List.map_congr_left
abbrev uZ:=@List.foldl_nil
abbrev uJ:=@List.getElem?_replicate
abbrev uK:=@Nat.add_sub_cancel_left
abbrev uY:=@List.map_singleton
abbrev uV:=@Nat.mul_comm
abbrev uW:=@List.getElem_idxOf
abbrev uU:=@List.mem_filterMap
abbrev uF:=@Array.getElem?_setIfInBounds
abbrev uG:=@List.count_cons
abbrev uH:=@List.mem_zipIdx_iff_getElem?
abbrev uL:=@List.all_cons
abbrev uN:=@List.length_replicate
abbrev uP:=@bne_self_eq_false
abbrev uR:=@List.foldl_append
abbrev uS:=@List.mem_append_left
abbrev uT:=@Bool.or_eq_false_iff
abbrev uB:=@List.Pairwise.filter
abbrev uC:=@List.getD_eq_getElem?_getD
abbrev uD:=@beq_self_eq_true
abbrev uE:=@Nat.sub_zero
abbrev uA:=@List.getElem_map
abbrev uI:=@List.filter_cons
abbrev uO:=@List.drop_length
abbrev tQ:=@List.getElem_mem
abbrev tX:=@List.getElem?_zip_eq_some
abbrev tZ:=@List.findIdx?_eq_none_iff
abbrev tJ:=@List.mem_or_eq_of_mem_set
abbrev tK:=@bne_eq_false_iff_eq
abbrev tY:=@Nat.mul_le_mul_left
abbrev tV:=@Bool.or_false
abbrev tW:=@Option.map_none
abbrev tU:=@List.nil_append
abbrev tF:=@List.range_succ
abbrev tG:=@Bool.not_eq_false'
abbrev tH:=@List.pairwise_cons
abbrev tL:=@List.filter_congr
abbrev tM:=@congrArg
abbrev tN:=@Bool.and_false
abbrev tP:=@List.drop_left
abbrev tR:=@List.pairwise_lt_range
abbrev tS:=@List.mem_iff_getElem?
abbrev tT:=@List.Pairwise.sublist
abbrev tB:=@Array.getElem?_append
abbrev tC:=@Nat.mod_eq_of_lt
abbrev tD:=@List.map_toArray
abbrev tE:=@Bool.false_or
abbrev tA:=@List.map_id
abbrev tI:=@List.length_set
abbrev tO:=@Nat.div_add_mod
abbrev sQ:=@List.cons.injEq
abbrev sX:=@List.nodup_cons
abbrev sZ:=@ne_eq
abbrev sJ:=@List.map_map
inductive AV where
 | top
 | undef
 | bool (b:Bool)
 | int (k:IntKind) (n:Int)
 | str (s:List UInt8)
 | agg (cs:List AV)
 | tup (cs:List AV)
  /-- A slice that has no more room than it is long. -/
 | full (sz:Nat) (es:List AV)
 | seq (sz:Nat) (es:List AV)
 | nils
 | arr (i k n:Nat)
 | ref (i k off:Nat)
 | eptr (e:AV) (off:Nat)
 | nilp
 | fn (f:Nat) (caps:List AV)
 | nilfn
 | nili
 | iface (t:Nat) (v:AV)
 | mapv (i:Nat)
 | nilm
 | rawp (b o:Nat)
 | mapc (es:List AV)
def AV.cells:AV->List AV
 | .agg cs=>cs
 | v=>[v]
structure Nm where
 g:Nat
 sz:Nat
 cap:Nat
 ty:Nat
abbrev N_:=Nat->Option Nm
def n10:N_:=λ_ =>none
def fnB:Nat:=1000000
def fnN (f:Nat):Nat:=f % fnB
def f30 (f:Nat) (us:List Value):Value:=.func (.func (fnN f)) (us.take (f / fnB)).toArray (us.drop (f / fnB)).toArray
theorem fp_ {f:Nat} (h:f<fnB):fnN f=f:=tC h
theorem fp11 {f:Nat} (h:f<fnB) (us:List Value):f30 f us= .func (.func f) #[] us.toArray:=by unfold f30;rw[fp_ h,Nat.div_eq_of_lt h];rfl
def fnA (f:Nat) (caps args:List AV):List AV:=caps.take (f / fnB)++args++caps.drop (f / fnB)
theorem fp10 {f:Nat} (h:f<fnB) (caps args:List AV):fnA f caps args=args++caps:=by unfold fnA;rw[Nat.div_eq_of_lt h];rfl
inductive Rd (w:World) (F:Nat->Prop):N_->AV->Value->Prop where
 | top (nm v):Rd w F nm .top v
 | undef (nm):Rd w F nm .undef undef
 | bool (nm b):Rd w F nm (.bool b) (.bool b)
 | int (nm k n):Rd w F nm (.int k n) (.int k n)
 | str (nm s):Rd w F nm (.str s) (.string ⟨s.toArray⟩)
 | agg (nm) (cs:List AV) (us:List Value) (hl:cs.length=us.length) (h:∀(j:Nat) c u,cs[j]?=some c->us[j]?=some u->Rd w F nm c u):Rd w F nm (.agg cs) (.agg us.toArray)
 | tup (nm) (cs:List AV) (us:List Value) (hl:cs.length=us.length) (h:∀(j:Nat) c u,cs[j]?=some c->us[j]?=some u->Rd w F nm c u):Rd w F nm (.tup cs) (.tuple us.toArray)
 | seq0 (nm sz a cap):Rd w F nm (.seq sz []) (.slice a 0 cap)
 | seq (nm sz es g o cap) (u:Nat->Value) (h0:0<sz) (hF:F g) (hc:es.length<=cap) (hm:cap<=maxLen) (hs:∀e∈es,e.cells.length=sz)
   (hw:∀p,p<es.length*sz->w.cell? ⟨g,o+p,none⟩=some (u p)) (h1:∀p,p<es.length*sz->(u p).oneCell'=true)
   (h:∀(k:Nat) e (j:Nat) c,es[k]?=some e->e.cells[j]?=some c->Rd w F n10 c (u (k*sz+j))):Rd w F nm (.seq sz es) (.slice (some ⟨g,o,none⟩) es.length cap)
 | full (nm sz es g o) (u:Nat->Value) (h0:0<sz) (hF:F g) (hm:es.length<=maxLen) (hs:∀e∈es,e.cells.length=sz)
   (hw:∀p,p<es.length*sz->w.cell? ⟨g,o+p,none⟩=some (u p)) (h1:∀p,p<es.length*sz->(u p).oneCell'=true)
   (h:∀(k:Nat) e (j:Nat) c,es[k]?=some e->e.cells[j]?=some c->Rd w F n10 c (u (k*sz+j))):Rd w F nm (.full sz es) (.slice (some ⟨g,o,none⟩) es.length es.length)
 | nils (nm):Rd w F nm .nils (.slice none 0 0)
 | arr (nm i k n m) (hi:nm i=some m) (hn:k+n<=m.cap) (hp:0<n∨k=0):Rd w F nm (.arr i k n) (.slice (some ⟨m.g,k*m.sz,none⟩) n (m.cap - k))
 | arrE (nm i k a cap) (hk:0<k):Rd w F nm (.arr i k 0) (.slice a 0 cap)
 | arrN (nm i):Rd w F nm (.arr i 0 0) (.slice none 0 0)
 | ref (nm i k off m) (hi:nm i=some m):Rd w F nm (.ref i k off) (.pointer (some ⟨m.g,k*m.sz+off,none⟩))
 | eptr (nm e off g o) (u:Nat->Value) (hF:F g) (hw:∀p,p<e.cells.length->w.cell? ⟨g,o+p,none⟩=some (u p)) (h1:∀p,p<e.cells.length->(u p).oneCell'=true)
   (h:∀(j:Nat) c,e.cells[j]?=some c->Rd w F n10 c (u j)):Rd w F nm (.eptr e off) (.pointer (some ⟨g,o+off,none⟩))
 | nilp (nm):Rd w F nm .nilp (.pointer none)
 | fn (nm f) (cs:List AV) (us:List Value) (hl:cs.length=us.length) (h:∀(j:Nat) c u,cs[j]?=some c->us[j]?=some u->Rd w F nm c u):Rd w F nm (.fn f cs) (f30 f us)
 | nilfn (nm):Rd w F nm .nilfn .nilFunc
 | nili (nm):Rd w F nm .nili .nilIface
 | iface (nm t c u) (h:Rd w F nm c u):Rd w F nm (.iface t c) (.iface t u)
 | mapv (nm i m) (hi:nm i=some m):Rd w F nm (.mapv i) (.map (some m.g))
 | nilm (nm):Rd w F nm .nilm (.map none)
 | rawp (nm b o):Rd w F nm (.rawp b o) (.pointer (some ⟨b,o,none⟩))
 | mapc (nm) (es:List AV) (g) (ents:Array MapEntry) (clock) (hF:F g) (hh:w.heap[g]?=some (.map ents clock)) (hbn:(∀e∈ents.toList,e.born<clock)∧(ents.toList.map (·.born)).Nodup) (hl:es.length=ents.size) (ht:∀(j:Nat) x,es[j]?=some x->∃k v,x= .tup [k,v])
   (hk:∀(j:Nat) (e:MapEntry) k v,ents[j]?=some e->es[j]?=some (.tup [k,v])->Rd w F n10 k e.key)
   (hv:∀(j:Nat) (e:MapEntry) k v,ents[j]?=some e->es[j]?=some (.tup [k,v])->Rd w F n10 v e.val):Rd w F nm (.mapc es) (.map (some g))
structure Box where
 row:Bool
 ty:Nat
 sz:Nat
 es:List AV
structure St where
 N:Nat
 env:List (Nat×AV)
 heap:List (Nat×Box)
def eget:List (Nat×AV)->Nat->AV
 | [],_ =>.top
 | (j,v)::r,t=>if j=t then v else eget r t
def hget:List (Nat×Box)->Nat->Option Box
 | [],_ =>none
 | (j,b)::r,i=>if j=i then some b else hget r i
def hset:List (Nat×Box)->Nat->Box->List (Nat×Box)
 | [],i,b=>[(i,b)]
 | (j,c)::r,i,b=>if j=i then (i,b)::r else (j,c)::hset r i b
inductive Opd where
 | t (n:Nat)
 | k (v:AV)
 | f (n:Nat)
 | g (n:Nat)
def St.get (st:St) (t:Nat):AV:=eget st.env t
def St.ev (G:Nat->Option AV) (st:St):Opd->AV
 | .t n=>eget st.env n
 | .k v=>v
 | .f n=>.fn n []
 | .g n=>match G n with | some e=>.eptr e 0 | none=>.top
def purge (i:Nat):AV->AV
 | .arr j k n=>if j=i then .top else .arr j k n
 | .ref j k off=>if j=i then .top else .ref j k off
 | .mapv j=>if j=i then .top else .mapv j
 | .agg cs=>.agg (go i cs)
 | .tup cs=>.tup (go i cs)
 | .fn f cs=>.fn f (go i cs)
 | .iface t v=>.iface t (purge i v)
 | v=>v
where
 go (i:Nat):List AV->List AV
 | []=>[]
 | c::cs=>purge i c::go i cs
def thaw (i:Nat) (b:Box):AV->AV
 | .mapv j=>if j=i then (if b.sz=0∧(b.ty=1∨3<=b.ty) then .mapc b.es else .top) else .mapv j
 | .arr j k n=>if j=i then (if 0<b.sz∧k+n<=b.es.length then .seq b.sz ((b.es.drop k).take n) else .top) else .arr j k n
 | .agg cs=>.agg (go i b cs)
 | .tup cs=>.tup (go i b cs)
 | .fn f cs=>.fn f (go i b cs)
 | .iface t v=>.iface t (thaw i b v)
 | v=>v
where
 go (i:Nat) (b:Box):List AV->List AV
 | []=>[]
 | c::cs=>thaw i b c::go i b cs
def p13 (i:Nat):List (Nat×AV)->List (Nat×AV)
 | []=>[]
 | (t,v)::r=>(t,purge i v)::p13 i r
def p10 (i:Nat) (b:Box):Box:=if b.row then b else {b with es:=purge.go i b.es}
def p12 (i:Nat):List (Nat×Box)->List (Nat×Box)
 | []=>[]
 | (j,b)::r=>if j=i then p12 i r else (j,p10 i b)::p12 i r
def t38 (i:Nat) (b:Box):List (Nat×AV)->List (Nat×AV)
 | []=>[]
 | (t,v)::r=>(t,thaw i b v)::t38 i b r
def t36 (i:Nat) (b c:Box):Box:=if c.row then c else {c with es:=thaw.go i b c.es}
def t37 (i:Nat) (b:Box):List (Nat×Box)->List (Nat×Box)
 | []=>[]
 | (j,c)::r=>if j=i then t37 i b r else (j,t36 i b c)::t37 i b r
def St.put (st:St) (d:Option Nat) (v:AV):Option St:=
 match d with
 | none=>some st
 | some d=>if d<st.N then some {st with env:=(d,v)::st.env} else none
def St.new (st:St) (d:Option Nat) (b:Box) (v:AV):Option St:=
 match d with
 | none=>none
 | some d=>if d<st.N then some {st with env:=(d,v)::p13 d st.env,heap:=(d,b)::p12 d st.heap} else none
def view (H:List (Nat×Box)):AV->Option AV
 | .top=>some .top
 | .bool b=>some (.bool b)
 | .int k n=>some (.int k n)
 | .str s=>some (.str s)
 | .seq sz es=>some (.seq sz es)
 | .full sz es=>some (.full sz es)
 | .nils=>some .nils
 | .nilp=>some .nilp
 | .nilfn=>some .nilfn
 | .nili=>some .nili
 | .eptr e off=>some (.eptr e off)
 | .nilm=>some .nilm
 | .rawp b o=>some (.rawp b o)
 | .mapc es=>some (.mapc es)
 | .iface t v=>(view H v).map (.iface t)
 | .fn f cs=>(go H cs).map (.fn f)
 | .agg cs=>(go H cs).map .agg
 | .tup cs=>(go H cs).map .tup
 | .arr i k n=>match hget H i with | some b=>if b.row=true∧0<b.sz∧k+n<=b.es.length then some (.seq b.sz ((b.es.drop k).take n)) else none | none=>none
 | .undef | .ref .. | .mapv _ =>none
where
 go (H:List (Nat×Box)):List AV->Option (List AV)
 | []=>some []
 | c::cs=>match view H c,go H cs with | some x,some xs=>some (x::xs) | _,_ =>none
def viewK (rec:AV->Option AV) (H:List (Nat×Box)):AV->Option AV
 | .top=>some .top
 | .bool b=>some (.bool b)
 | .int k n=>some (.int k n)
 | .str s=>some (.str s)
 | .seq sz es=>some (.seq sz es)
 | .full sz es=>some (.full sz es)
 | .nils=>some .nils
 | .nilp=>some .nilp
 | .nilfn=>some .nilfn
 | .nili=>some .nili
 | .eptr e off=>some (.eptr e off)
 | .nilm=>some .nilm
 | .rawp b o=>some (.rawp b o)
 | .mapc es=>some (.mapc es)
 | .iface t v=>(viewK rec H v).map (.iface t)
 | .fn f cs=>(go rec H cs).map (.fn f)
 | .agg cs=>(go rec H cs).map .agg
 | .tup cs=>(go rec H cs).map .tup
 | .arr i k n=>match hget H i with | some b=>if b.row=true∧0<b.sz∧k+n<=b.es.length then some (.seq b.sz ((b.es.drop k).take n)) else none | none=>none
 | .ref i k off=>match hget H i with | some b=>if 0<b.sz then (match b.es[k]? with | some e=>(rec e).map (.eptr · off) | none=>none) else none | none=>none
 | .mapv i=>match hget H i with | some b=>if b.sz=0∧(b.ty=1∨3<=b.ty) then some (.mapc b.es) else none | none=>none
 | .undef=>none
where
 go (rec:AV->Option AV) (H:List (Nat×Box)):List AV->Option (List AV)
 | []=>some []
 | c::cs=>match viewK rec H c,go rec H cs with | some x,some xs=>some (x::xs) | _,_ =>none
def viewB:Nat->List (Nat×Box)->AV->Option AV
 | 0,H=>viewK (λ_ =>none) H
 | n+1,H=>viewK (viewB n H) H
def viewBs (H:List (Nat×Box)):List AV->Option (List AV)
 | []=>some []
 | v::vs=>match viewB 6 H v,viewBs H vs with | some x,some xs=>some (x::xs) | _,_ =>none
def r14:AV->List Nat
 | .arr i _ _ =>[i]
 | .agg cs=>go cs
 | .tup cs=>go cs
 | .fn _ cs=>go cs
 | .iface _ v=>r14 v
 | _ =>[]
where
 go:List AV->List Nat
 | []=>[]
 | c::cs=>r14 c++go cs
def St.thaw1 (st:St) (i:Nat):St:=
 match hget st.heap i with
 | some b=>{st with env:=t38 i b st.env,heap:=t37 i b st.heap}
 | none=>st
def St.thaws (st:St):List Nat->St
 | []=>st
 | i::is=>(st.thaw1 i).thaws is
def flat:AV->Bool
 | .top | .bool _ | .int _ _ | .str _ | .nils | .nilp | .nilfn | .nili | .nilm | .undef | .rawp _ _ =>true
 | .agg cs=>go cs
 | .tup cs=>go cs
 | .iface _ v=>flat v
 | _ =>false
where
 go:List AV->Bool
 | []=>true
 | c::cs=>flat c&&go cs
def St.trimE (st:St):List Nat->List (Nat×AV)
 | []=>[]
 | t::ts=>(t,eget st.env t)::st.trimE ts
def St.trimH (st:St):List Nat->List (Nat×Box)
 | []=>[]
 | i::is=>match hget st.heap i with | some b=>(i,b)::st.trimH is | none=>st.trimH is
def f11 (N:Nat):List (Nat×Box)->List (Nat×Box)
 | []=>[]
 | (i,b)::r=>if N<=i then (i,b)::f11 N r else f11 N r
def happ:List (Nat×Box)->List (Nat×Box)->List (Nat×Box)
 | [],r=>r
 | x::l,r=>x::happ l r
def St.trim (st:St) (kt kb:List Nat):St:={st with env:=st.trimE kt,heap:=happ (st.trimH kb) (f11 st.N st.heap)}
inductive AOp where
 | mov (x:Opd)
 | nilrow (ty sz:Nat)
 | pick (c a b:Opd)
 | alloc (ty sz:Nat) (z:AV)
 | box (ty sz:Nat) (x:Opd)
 | build (zs:List AV) (parts:List (Nat×Nat×Opd))
 | mkrow (ty sz n:Nat) (z:AV) (parts:List (Nat×Opd))
 | load (p:Opd)
 | loadN (p:Opd) (n:Nat)
 | store (p x:Opd) (n:Nat)
 | bin (op:BinOp) (x y:Opd)
 | eqA (neg:Bool) (ks:List Nat) (x y:Opd)
 | eqB (neg:Bool) (x y:Opd)
 | un (op:UnOp) (x:Opd)
 | conv (k:IntKind) (x:Opd)
 | fld (x:Opd) (off:Nat)
 | faddr (p:Opd) (off:Nat)
 | iaddr (sz:Nat) (x i:Opd)
 | idx (x i:Opd)
 | slc (sz:Nat) (x:Opd) (lo hi:Option Opd)
 | len (isStr:Bool) (x:Opd)
 | app (ty sz bytes:Nat) (x y:Opd)
 | ext (x:Opd) (i:Nat)
 | nchk (x:Opd)
 | mkfn (f:Nat) (caps:List Opd)
 | call (f:Nat) (args:List Opd)
 | callv (x:Opd) (args:List Opd)
 | callB (f:Nat) (args:List Opd)
 | callvB (x:Opd) (args:List Opd)
 | bad
 | mks (ty sz bytes:Nat) (z:AV) (n c:Opd)
 | slcG (n:Nat) (x:Opd)
 | mx (mn:Bool) (x y:Opd)
 | rng (x:Opd)
 | nxt (x:Opd)
 | mki (t:Nat) (x:Opd)
 | eqI (neg:Bool) (x y:Opd)
 | mkmap
 | mget (ok ag:Bool) (ks:List Nat) (z:AV) (x k:Opd)
 | mput (ag:Bool) (ks:List Nat) (x k v:Opd)
structure AO where
 d:Option Nat
 op:AOp
 g:Option (Nat×Bool)
def bAnd (k:IntKind) (a b:Int):Int:=k.wrap (BitVec.ofInt k.bits a&&& BitVec.ofInt k.bits b).toNat
def bOr (k:IntKind) (a b:Int):Int:=k.wrap (BitVec.ofInt k.bits a||| BitVec.ofInt k.bits b).toNat
def bXor (k:IntKind) (a b:Int):Int:=k.wrap (BitVec.ofInt k.bits a ^^^ BitVec.ofInt k.bits b).toNat
def b17 (k:IntKind) (a b:Int):Int:=k.wrap (BitVec.ofInt k.bits a&&& ~~~BitVec.ofInt k.bits b).toNat
def bShl (k:IntKind) (a b:Int):Int:=k.wrap (a*2 ^ (min b.toNat k.bits))
def bShr (k:IntKind) (a b:Int):Int:=a.fdiv (2 ^ (min b.toNat k.bits))
def abin (op:BinOp):AV->AV->Option AV
 | .int k a,.int k' b=>
  match op with
  | .shl=>if b<0 then none else some (.int k (bShl k a b))
  | .shr=>if b<0 then none else some (.int k (bShr k a b))
  | .add=>if k=k' then some (.int k (k.wrap (a+b))) else none
  | .sub=>if k=k' then some (.int k (k.wrap (a - b))) else none
  | .mul=>if k=k' then some (.int k (k.wrap (a*b))) else none
  | .quo=>if k=k'∧b≠0 then some (.int k (k.wrap (a.tdiv b))) else none
  | .rem=>if k=k'∧b≠0 then some (.int k (a.tmod b)) else none
  | .and=>if k=k' then some (.int k (bAnd k a b)) else none
  | .or=>if k=k' then some (.int k (bOr k a b)) else none
  | .xor=>if k=k' then some (.int k (bXor k a b)) else none
  | .andNot=>if k=k' then some (.int k (b17 k a b)) else none
  | .eql=>if k=k' then some (.bool (a==b)) else none
  | .neq=>if k=k' then some (.bool (a != b)) else none
  | .lss=>if k=k' then some (.bool (decide (a<b))) else none
  | .leq=>if k=k' then some (.bool (decide (a<=b))) else none
  | .gtr=>if k=k' then some (.bool (decide (b<a))) else none
  | .geq=>if k=k' then some (.bool (decide (b<=a))) else none
 | .str a,.str b=>
  match op with
  | .add=>if a.length+b.length<=9223372036854775807 then some (.str (a++b)) else none
  | .eql=>some (.bool (a==b))
  | .neq=>some (.bool (!(a==b)))
  | .lss=>some (.bool (Op.bytesLess a b))
  | .leq=>some (.bool (Op.bytesLess a b||a==b))
  | .gtr=>some (.bool (!(Op.bytesLess a b||a==b)))
  | .geq=>some (.bool (!(Op.bytesLess a b)))
  | _ =>none
 | _,_ =>none
def aeqB (neg:Bool):AV->AV->Option AV
 | .bool a,.bool b=>some (.bool (if neg then !(a==b) else a==b))
 | _,_ =>none
def aeqI (neg:Bool):AV->AV->Option AV
 | .nili,.nili=>some (.bool (!neg))
 | .iface ..,.nili=>some (.bool neg)
 | _,_ =>none
def l10:Nat->AV->AV->Option Bool
 | 0,.int k a,.int k' b=>if k=k' then some (a==b) else none
 | 1,.str a,.str b=>some (a==b)
 | 2,.bool a,.bool b=>some (a==b)
 | _,_,_ =>none
def andO:Option Bool->Option Bool->Option Bool
 | some a,some b=>some (a&&b)
 | _,_ =>none
def aeqs:List Nat->List AV->List AV->Option Bool
 | [],[],[]=>some true
 | k::ks,c::cs,d::ds=>andO (l10 k c d) (aeqs ks cs ds)
 | _,_,_ =>none
def aeqA (neg:Bool) (ks:List Nat):AV->AV->Option AV
 | .agg cs,.agg ds=>match aeqs ks cs ds with | some b=>some (.bool (if neg then !b else b)) | none=>none
 | _,_ =>none
def aun (op:UnOp):AV->Option AV
 | .bool b=>match op with | .not=>some (.bool (!b)) | _ =>none
 | .int k n=>match op with | .neg=>some (.int k (k.wrap (0 - n))) | _ =>none
 | _ =>none
def a37 (k:IntKind):AV->Option AV
 | .int _ n=>some (.int k (k.wrap n))
 | _ =>none
def a35:AV->AV->AV->Option AV
 | .bool c,a,b=>match c,a,b with
  | true,a,_ =>some a
  | false,_,b=>some b
 | _,_,_ =>none
def alen (isStr:Bool):AV->Option AV
 | .str s=>if isStr then some (.int .i64 s.length) else none
 | .seq _ es=>if isStr then none else some (.int .i64 es.length)
 | .nils=>if isStr then none else some (.int .i64 0)
 | .arr _ _ n=>if isStr then none else some (.int .i64 n)
 | .full _ es=>if isStr then none else some (.int .i64 es.length)
 | _ =>none
def aext:AV->Nat->Option AV
 | .tup cs,i=>cs[i]?
 | _,_ =>none
def a39:AV->Option AV
 | .ref i k off=>some (.ref i k off)
 | .eptr e off=>some (.eptr e off)
 | .fn f cs=>some (.fn f cs)
 | .iface t v=>some (.iface t v)
 | _ =>none
def afld:AV->Nat->Option AV
 | .agg cs,off=>cs[off]?
 | _,_ =>none
def a28:AV->Nat->Option AV
 | .ref i k off,o=>some (.ref i k (off+o))
 | .eptr e off,o=>some (.eptr e (off+o))
 | _,_ =>none
def a16 (H:List (Nat×Box)) (sz:Nat):AV->AV->Option AV
 | .seq z es,.int _ n=>if z=sz∧0<=n then (es[n.toNat]?).map (.eptr · 0) else none
 | .arr i k m,.int _ n=>match hget H i with
  | some b=>if b.sz=sz∧0<=n∧n<m then some (.ref i (k+n.toNat) 0) else none
  | none=>none
 | .full z es,.int _ n=>if z=sz∧0<=n then (es[n.toNat]?).map (.eptr · 0) else none
 | _,_ =>none
def aidx:AV->AV->Option AV
 | .str s,.int _ n=>if 0<=n then (s[n.toNat]?).map (λb=>.int .u8 b.toNat) else none
 | _,_ =>none
def aslc (z:Nat):AV->Option AV->Option AV->Option AV
 | .str s,lo,hi=>if z=0 then match lo.getD (.int .i64 0),hi.getD (.int .i64 s.length) with
  | .int _ l,.int _ h=>if 0<=l∧l<=h∧h<=s.length then some (.str ((s.drop l.toNat).take (h.toNat - l.toNat))) else none
  | _,_ =>none
  else none
 | .seq sz es,lo,hi=>if z=sz∧0<z then match lo.getD (.int .i64 0),hi.getD (.int .i64 es.length) with
  | .int _ l,.int _ h=>if 0<=l∧l<=h∧h<=es.length then some (.seq sz ((es.drop l.toNat).take (h.toNat - l.toNat))) else none
  | _,_ =>none
  else none
 | _,_,_ =>none
def h16 (H:List (Nat×Box)):AV->Option (List AV×Nat)
 | .ref i k off=>match hget H i with
  | some b=>if 0<b.sz then (b.es[k]?).map λe=>(e.cells,off) else none
  | none=>none
 | .eptr e off=>some (e.cells,off)
 | _ =>none
def a32 (H:List (Nat×Box)) (p:AV):Option AV:=
 match h16 H p with
 | some (cs,off)=>cs[off]?
 | none=>none
def a19 (H:List (Nat×Box)) (p:AV) (n:Nat):Option AV:=
 match h16 H p with
 | some (cs,off)=>if off+n<=cs.length then some (.agg ((cs.drop off).take n)) else none
 | none=>none
def s21:List AV->Nat->List AV->List AV
 | cs,0,[]=>cs
 | [],_,_ =>[]
 | _ ::cs,0,d::ds=>d::s21 cs 0 ds
 | c::cs,o+1,ds=>c::s21 cs o ds
def c22:AV->Bool
 | .top | .undef | .agg _ | .tup _ =>false
 | _ =>true
def fits (v:AV) (n:Nat):Bool:=match v with
 | .agg cs=>cs.length==n&&cs.all c22
 | v=>n==1&&c22 v
def r22:AV->List AV->Option AV
 | .agg _,cs=>some (.agg cs)
 | _,[x]=>if c22 x then some x else none
 | _,_ =>none
def clean:AV->Bool
 | .arr .. | .ref .. | .mapv _ =>false
 | .agg cs=>go cs
 | .tup cs=>go cs
 | .fn _ cs=>go cs
 | .iface _ v=>clean v
 | _ =>true
where
 go:List AV->Bool
 | []=>true
 | c::cs=>clean c&&go cs
def a23 (st:St) (p v:AV) (n:Nat):Option St:=
 match p with
 | .ref i k off=>match hget st.heap i with
  | some b=>if b.row=true∧(clean v=false∨b.sz=0) then none else match b.es[k]? with
   | some e=>if fits v n∧off+n<=e.cells.length then match r22 e (s21 e.cells off v.cells) with
     | some e'=>some {st with heap:=hset st.heap i {b with es:=b.es.set k e'}}
     | none=>none
    else none
   | none=>none
  | none=>none
 | _ =>none
def a34 (n:Nat):AV->Option AV
 | .eptr (.agg cs) 0=>if cs.length=n∧cs.all c22=true then some (.seq 1 cs) else none
 | _ =>none
def amx (mn:Bool):AV->AV->Option AV
 | .int k a,.int k' b=>if k=k' then some (.int k (if mn then (if b<a then b else a) else (if b>a then b else a))) else none
 | _,_ =>none
def adec (s:List UInt8) (p:Nat):Nat×Nat:=Utf8.decode ⟨s.toArray⟩ p
def anxt (st:St) (d:Option Nat) (x:AV):Option St:=
 match d,x with
 | some d,.ref i 0 0=>match hget st.heap i with
  | some b=>match b.es with
   | [.str s,.int .i64 p]=>if b.row=true∧b.sz=0∧b.ty=0∧0<=p∧d<st.N then
       (if p.toNat<s.length then some {st with env:=(d,.tup [.bool true,.int .i64 p,.int .i32 ((adec s p.toNat).1:Nat)])::st.env,heap:=hset st.heap i {b with es:=[.str s,.int .i64 ((p.toNat+(adec s p.toNat).2:Nat):Int)]}}
        else some {st with env:=(d,.tup [.bool false])::st.env}) else none
   | _ =>none
  | none=>none
 | _,_ =>none
def arng (st:St) (d:Option Nat) (x:AV):Option St:=
 match d,x with
 | some d,.str s=>st.new (some d) ⟨true,0,0,[.str s,.int .i64 0]⟩ (.ref d 0 0)
 | _,_ =>none
def amks (st:St) (d:Option Nat) (ty sz bytes:Nat) (z n c:AV):Option St:=
 match d,n,c with
 | some d,.int _ a,.int _ b=>if 0<=a∧a<=b∧b*bytes<=140737488355328 then st.new (some d) ⟨true,ty,sz,List.replicate a.toNat z⟩ (.arr d 0 a.toNat) else none
 | _,_,_ =>none
def evs (G:Nat->Option AV) (st:St):List Opd->List AV
 | []=>[]
 | x::xs=>st.ev G x::evs G st xs
def viewAll (H:List (Nat×Box)):List AV->Option (List AV)
 | []=>some []
 | v::vs=>match view H v,viewAll H vs with | some x,some xs=>some (x::xs) | _,_ =>none
def r11:List AV->List Nat
 | []=>[]
 | v::vs=>r14 v++r11 vs
def a21 (G:Nat->Option AV) (st:St) (zs:List AV):List (Nat×Nat×Opd)->Option AV
 | []=>some (.agg zs)
 | (off,n,x)::ps=>if fits (st.ev G x) n∧off+n<=zs.length then a21 G st (s21 zs off (st.ev G x).cells) ps else none
def r12 (sz:Nat) (es:List AV):List (Nat×AV)->Option (List AV)
 | []=>some es
 | (i,v)::ps=>if fits v sz∧i<es.length then r12 sz (es.set i v) ps else none
def news (H:List (Nat×Box)) (sz i:Nat):AV->Option (List AV)
 | .seq z es=>if z=sz then some es else none
 | .nils=>some []
 | .arr j k m=>if j=i then none else match hget H j with
  | some b=>if b.row∧b.sz=sz∧k+m<=b.es.length then some ((b.es.drop k).take m) else none
  | none=>none
 | _ =>none
def aapp (st:St) (d:Option Nat) (ty sz bytes:Nat) (x y:AV):Option St:=
 match x with
 | .nils=>match d with
  | some d=>match news st.heap sz d y with
   | some es=>if es.length*bytes<=140737488355328 then st.new (some d) ⟨true,ty,sz,es⟩ (.arr d 0 es.length) else none
   | none=>none
  | none=>none
 | .arr i 0 n=>match d,hget st.heap i,news st.heap sz i y with
  | some d,some b,some es=>
   if b.row=true∧b.ty=ty∧b.sz=sz∧b.es.length=n∧(n+es.length)*bytes<=140737488355328∧d<st.N then
    some {st with env:=(d,.arr i 0 (n+es.length))::p13 i st.env,heap:=hset (p12 i st.heap) i {b with es:=b.es++es}} else none
  | _,_,_ =>none
 | .full z es0=>match news st.heap sz (d.getD 0) y with
  | some es=>if z=sz∧es.isEmpty=false∧(es0.length+es.length)*bytes<=140737488355328 then st.put d (.seq sz (es0++es)) else none
  | none=>none
 | _ =>none
def a31 (H:List (Nat×Box)) (z:Nat) (x:AV) (lo hi:Option AV):Option AV:=
 match x with
 | .arr i k n=>match hget H i with
  | some b=>if b.sz=z∧0<z then match lo.getD (.int .i64 0),hi.getD (.int .i64 n) with
   | .int _ l,.int _ h=>if 0<=l∧l<=h∧h<=n then some (.arr i (k+l.toNat) (h.toNat - l.toNat)) else none
   | _,_ =>none
   else none
  | none=>none
 | x=>aslc z x lo hi
def i13:AV->Bool
 | .agg _ =>true
 | _ =>false
def k14 (ag:Bool) (ks:List Nat) (x y:AV):Option Bool:=if i13 x=ag∧i13 y=ag then aeqs ks x.cells y.cells else none
def k15 (ag:Bool) (ks:List Nat) (x:AV):Bool:=match k14 ag ks x x with | some true=>true | _ =>false
def m13 (ag:Bool) (ks:List Nat) (k:AV):List AV->Nat->Option (Option (Nat×AV))
 | [],_ =>some none
 | .tup [a,b]::r,i=>match k14 ag ks k a with
  | some true=>some (some (i,b))
  | some false=>m13 ag ks k r (i+1)
  | none=>none
 | _ ::_,_ =>none
def mres (ok:Bool) (z:AV):Option (Nat×AV)->AV
 | some (_,v)=>if ok then .tup [v,.bool true] else v
 | none=>if ok then .tup [z,.bool false] else z
def a36 (H:List (Nat×Box)) (ok ag:Bool) (ks:List Nat) (z:AV) (x k:AV):Option AV:=
 match x with
 | .nilm=>if k15 ag ks k=true then some (mres ok z none) else none
 | .mapv i=>match hget H i with
  | some b=>if b.sz=0∧(b.ty=1∨3<=b.ty)∧k15 ag ks k=true then (m13 ag ks k b.es 0).map (mres ok z) else none
  | none=>none
 | .mapc es=>if k15 ag ks k=true then (m13 ag ks k es 0).map (mres ok z) else none
 | _ =>none
def a40 (st:St) (ag:Bool) (ks:List Nat) (x k v:AV):Option St:=
 match x with
 | .mapv i=>match hget st.heap i with
  | some b=>if b.sz=0∧(b.ty=1∨3<=b.ty)∧k15 ag ks k=true∧clean v=true then match m13 ag ks k b.es 0 with
   | some (some (j,_))=>some {st with heap:=hset st.heap i {b with es:=b.es.set j (.tup [k,v])}}
   | some none=>some {st with heap:=hset st.heap i {b with es:=b.es++[.tup [k,v]]}}
   | none=>none
   else none
  | none=>none
 | _ =>none
def zV:AV->AV
 | .tup [z]=>z
 | .tup [z,_]=>z
 | z=>z
def e12 (G:Nat->Option AV) (d:Option Nat) (op:AOp) (st:St):Option St:=
 match op with
 | .mov x=>st.put d (st.ev G x)
 | .nilrow ty sz=>match d with | some d=>st.new (some d) ⟨true,ty,sz,[]⟩ (.arr d 0 0) | none=>none
 | .pick c a b=>(a35 (st.ev G c) (st.ev G a) (st.ev G b)).bind (st.put d)
 | .alloc ty sz z=>match d with | some d=>st.new (some d) ⟨false,ty,sz,[z]⟩ (.ref d 0 0) | none=>none
 | .box ty sz x=>match d with | some d=>if fits (purge d (st.ev G x)) sz then st.new (some d) ⟨false,ty,sz,[purge d (st.ev G x)]⟩ (.ref d 0 0) else none | none=>none
 | .build zs ps=>(a21 G st zs ps).bind (st.put d)
 | .mkrow ty sz n z ps=>match d with
  | some d=>match z with
   | .tup [z]=>match r12 sz (List.replicate n z) ((ps.map (·.1)).zip ((evs G st (ps.map (·.2))).map (purge d))) with
    | some es=>st.new (some d) ⟨false,ty,sz,es⟩ (.arr d 0 n)
    | none=>none
   | .tup [z,_]=>match viewAll st.heap (evs G st (ps.map (·.2))) with
    | some vs=>match r12 sz (List.replicate n z) ((ps.map (·.1)).zip vs) with
     | some es=>if (r11 (evs G st (ps.map (·.2)))).isEmpty=true then st.put (some d) (.full sz es) else none
     | none=>none
    | none=>none
   | z=>match viewAll st.heap (evs G st (ps.map (·.2))) with
    | some vs=>match r12 sz (List.replicate n z) ((ps.map (·.1)).zip vs) with
     | some es=>(st.thaws (r11 (evs G st (ps.map (·.2))))).new (some d) ⟨true,ty,sz,es⟩ (.arr d 0 n)
     | none=>none
    | none=>none
  | none=>none
 | .load p=>(a32 st.heap (st.ev G p)).bind (st.put d)
 | .loadN p n=>(a19 st.heap (st.ev G p) n).bind (st.put d)
 | .store p x n=>a23 st (st.ev G p) (st.ev G x) n
 | .bin op x y=>(abin op (st.ev G x) (st.ev G y)).bind (st.put d)
 | .eqA neg ks x y=>(aeqA neg ks (st.ev G x) (st.ev G y)).bind (st.put d)
 | .eqB neg x y=>(aeqB neg (st.ev G x) (st.ev G y)).bind (st.put d)
 | .un op x=>(aun op (st.ev G x)).bind (st.put d)
 | .conv k x=>(a37 k (st.ev G x)).bind (st.put d)
 | .fld x off=>(afld (st.ev G x) off).bind (st.put d)
 | .faddr p off=>(a28 (st.ev G p) off).bind (st.put d)
 | .iaddr sz x i=>(a16 st.heap sz (st.ev G x) (st.ev G i)).bind (st.put d)
 | .idx x i=>(aidx (st.ev G x) (st.ev G i)).bind (st.put d)
 | .slc z x lo hi=>(a31 st.heap z (st.ev G x) (lo.map (st.ev G)) (hi.map (st.ev G))).bind (st.put d)
 | .len b x=>(alen b (st.ev G x)).bind (st.put d)
 | .app ty sz bytes x y=>aapp st d ty sz bytes (st.ev G x) (st.ev G y)
 | .ext x i=>(aext (st.ev G x) i).bind (st.put d)
 | .nchk x=>(a39 (st.ev G x)).bind (st.put d)
 | .mkfn f caps=>st.put d (.fn f (evs G st caps))
 | .mks ty sz bytes z n c=>amks st d ty sz bytes z (st.ev G n) (st.ev G c)
 | .slcG n x=>(a34 n (st.ev G x)).bind (st.put d)
 | .mx mn x y=>(amx mn (st.ev G x) (st.ev G y)).bind (st.put d)
 | .rng x=>arng st d (st.ev G x)
 | .nxt x=>anxt st d (st.ev G x)
 | .mki t x=>st.put d (.iface t (st.ev G x))
 | .eqI neg x y=>(aeqI neg (st.ev G x) (st.ev G y)).bind (st.put d)
 | .mkmap=>match d with | some d=>st.new (some d) ⟨true,1,0,[]⟩ (.mapv d) | none=>none
 | .mget ok ag ks z x k=>(a36 st.heap ok ag ks z (st.ev G x) (st.ev G k)).bind (st.put d)
 | .mput ag ks x k v=>match d with | none=>a40 st ag ks (st.ev G x) (st.ev G k) (st.ev G v) | some _ =>none
 | .bad | .call _ _ | .callv _ _ | .callB _ _ | .callvB _ _ =>none
open Go.RowKit
theorem Rd.mono {w w':World} {F F':Nat->Prop} {nm:N_} {c:AV} {v:Value} (h:Rd w F nm c v)
  (hw:∀b,F b->w'.heap[b]? =w.heap[b]?) (hF:∀b,F b->F' b):Rd w' F' nm c v:=by
 induction h with
 | top nm v=>exact .top _ _
 | undef nm=>exact .undef _
 | bool nm b=>exact .bool _ _
 | int nm k n=>exact .int _ _ _
 | str nm s=>exact .str _ _
 | agg nm cs us hl h ih=>exact .agg _ _ _ hl ih
 | tup nm cs us hl h ih=>exact .tup _ _ _ hl ih
 | seq0 nm sz a cap=>exact .seq0 _ _ _ _
 | seq nm sz es g o cap u h0 hFg hc hm hs hw' h1 h ih=>
  exact .seq _ _ _ _ _ _ u h0 (hF _ hFg) hc hm hs (λp hp=>by rw[World.cell?_of_block (w:=w) (hw g hFg)];exact hw' p hp) h1 ih
 | full nm sz es g o u h0 hFg hm hs hw' h1 h ih=>
  exact .full _ _ _ _ _ u h0 (hF _ hFg) hm hs (λp hp=>by rw[World.cell?_of_block (w:=w) (hw g hFg)];exact hw' p hp) h1 ih
 | nils nm=>exact .nils _
 | arr nm i k n m hi hn hp=>exact .arr _ _ _ _ _ hi hn hp
 | arrE nm i k a cap hk=>exact .arrE _ _ _ _ _ hk
 | arrN nm i=>exact .arrN _ _
 | ref nm i k off m hi=>exact .ref _ _ _ _ _ hi
 | eptr nm e off g o u hFg hw' h1 h ih=>
  exact .eptr _ _ _ _ _ u (hF _ hFg) (λp hp=>by rw[World.cell?_of_block (w:=w) (hw g hFg)];exact hw' p hp) h1 ih
 | nilp nm=>exact .nilp _
 | fn nm f cs us hl h ih=>exact .fn _ _ _ _ hl ih
 | nilfn nm=>exact .nilfn _
 | nili nm=>exact .nili _
 | iface nm t c u h ih=>exact .iface _ _ _ _ ih
 | mapv nm i m hi=>exact .mapv _ _ _ hi
 | nilm nm=>exact .nilm _
 | rawp nm b o=>exact .rawp _ _ _
 | mapc nm es g ents clock hFg hh hbn hl ht hk hv ihk ihv=>exact .mapc _ _ _ ents clock (hF _ hFg) (by rw[hw _ hFg];exact hh) hbn hl ht ihk ihv
theorem purge.go_len (i:Nat) (cs:List AV):(purge.go i cs).length=cs.length:=by
 induction cs with
 | nil=>rfl
 | cons c cs ih=>simp [purge.go,ih]
theorem purge.go_at (i:Nat) (cs:List AV) (j:Nat):(purge.go i cs)[j]? =cs[j]?.map (purge i):=by
 induction cs generalizing j with
 | nil=>simp [purge.go]
 | cons c cs ih=>cases j <;> simp [purge.go,ih]
theorem Rd.purge {w:World} {F:Nat->Prop} {nm nm':N_} {c:AV} {v:Value} {i:Nat} (h:Rd w F nm c v)
  (hn:∀j,j≠i->nm' j=nm j):Rd w F nm' (purge i c) v:=by
 induction h with
 | top nm v=>exact .top _ _
 | undef nm=>exact .undef _
 | bool nm b=>exact .bool _ _
 | int nm k n=>exact .int _ _ _
 | str nm s=>exact .str _ _
 | agg nm cs us hl h ih=>
  refine .agg _ _ _ (by rw[purge.go_len];exact hl) λj c u hc hu=>?_;rw[purge.go_at] at hc;obtain⟨c',hc',rfl⟩:=zH.1 hc;exact ih j c' u hc' hu hn
 | tup nm cs us hl h ih=>
  refine .tup _ _ _ (by rw[purge.go_len];exact hl) λj c u hc hu=>?_;rw[purge.go_at] at hc;obtain⟨c',hc',rfl⟩:=zH.1 hc;exact ih j c' u hc' hu hn
 | seq0 nm sz a cap=>exact .seq0 _ _ _ _
 | seq nm sz es g o cap u h0 hFg hc hm hs hw' h1 h ih=>exact .seq _ _ _ _ _ _ u h0 hFg hc hm hs hw' h1 h
 | full nm sz es g o u h0 hFg hm hs hw' h1 h ih=>exact .full _ _ _ _ _ u h0 hFg hm hs hw' h1 h
 | nils nm=>exact .nils _
 | arr nm j k n m hi hk hp=>
  unfold Ab.purge;split
  .exact .top _ _
  .rename_i hne;exact .arr _ _ _ _ _ (by rw[hn j hne];exact hi) hk hp
 | arrE nm j k a cap hk=>
  unfold Ab.purge;split
  .exact .top _ _
  .exact .arrE _ _ _ _ _ hk
 | arrN nm j=>
  unfold Ab.purge;split
  .exact .top _ _
  .exact .arrN _ _
 | ref nm j k off m hi=>
  unfold Ab.purge;split
  .exact .top _ _
  .rename_i hne;exact .ref _ _ _ _ _ (by rw[hn j hne];exact hi)
 | eptr nm e off g o u hFg hw' h1 h ih=>exact .eptr _ _ _ _ _ u hFg hw' h1 h
 | nilp nm=>exact .nilp _
 | fn nm f cs us hl h ih=>
  refine .fn _ _ _ _ (by rw[purge.go_len];exact hl) λj c u hc hu=>?_;rw[purge.go_at] at hc;obtain⟨c',hc',rfl⟩:=zH.1 hc;exact ih j c' u hc' hu hn
 | nilfn nm=>exact .nilfn _
 | nili nm=>exact .nili _
 | iface nm t c u h ih=>exact .iface _ _ _ _ (ih hn)
 | mapv nm j m hi=>
  unfold Ab.purge;split
  .exact .top _ _
  .rename_i hne;exact .mapv _ _ _ (by rw[hn j hne];exact hi)
 | nilm nm=>exact .nilm _
 | rawp nm b o=>exact .rawp _ _ _
 | mapc nm es g ents clock hFg hh hbn hl ht hk hv ihk ihv=>exact .mapc _ _ _ ents clock hFg hh hbn hl ht hk hv
theorem Rd.named {w:World} {F:Nat->Prop} {nm:N_} {c:AV} {v:Value} (h:Rd w F nm c v) (hz:∀j,nm j=none) (nm':N_):Rd w F nm' c v:=by
 induction h with
 | top nm v=>exact .top _ _
 | undef nm=>exact .undef _
 | bool nm b=>exact .bool _ _
 | int nm k n=>exact .int _ _ _
 | str nm s=>exact .str _ _
 | agg nm cs us hl h ih=>exact .agg _ _ _ hl λj c u hc hu=>ih j c u hc hu hz
 | tup nm cs us hl h ih=>exact .tup _ _ _ hl λj c u hc hu=>ih j c u hc hu hz
 | seq0 nm sz a cap=>exact .seq0 _ _ _ _
 | seq nm sz es g o cap u h0 hFg hc hm hs hw' h1 h ih=>exact .seq _ _ _ _ _ _ u h0 hFg hc hm hs hw' h1 h
 | full nm sz es g o u h0 hFg hm hs hw' h1 h ih=>exact .full _ _ _ _ _ u h0 hFg hm hs hw' h1 h
 | nils nm=>exact .nils _
 | arr nm j k n m hi hk hp=>rw[hz] at hi;cases hi
 | arrE nm j k a cap hk=>exact .arrE _ _ _ _ _ hk
 | arrN nm j=>exact .arrN _ _
 | ref nm j k off m hi=>rw[hz] at hi;cases hi
 | eptr nm e off g o u hFg hw' h1 h ih=>exact .eptr _ _ _ _ _ u hFg hw' h1 h
 | nilp nm=>exact .nilp _
 | fn nm f cs us hl h ih=>exact .fn _ _ _ _ hl λj c u hc hu=>ih j c u hc hu hz
 | nilfn nm=>exact .nilfn _
 | nili nm=>exact .nili _
 | iface nm t c u h ih=>exact .iface _ _ _ _ (ih hz)
 | mapv nm j m hi=>rw[hz] at hi;cases hi
 | nilm nm=>exact .nilm _
 | rawp nm b o=>exact .rawp _ _ _
 | mapc nm es g ents clock hFg hh hbn hl ht hk hv ihk ihv=>exact .mapc _ _ _ ents clock hFg hh hbn hl ht hk hv
theorem Rd.any {w:World} {F:Nat->Prop} {c:AV} {v:Value} (h:Rd w F n10 c v) (nm:N_):Rd w F nm c v:=h.named (λ_ =>rfl) nm
theorem Rd.cells_len {w:World} {F:Nat->Prop} {nm:N_} {c:AV} {v:Value} (h:Rd w F nm c v) (ht:c≠ .top):c.cells.length=v.cells.size:=by
 cases h <;> first | rfl | (exact absurd rfl ht) | skip
 case agg us hl h=>simp [AV.cells,Value.cells,hl]
theorem Rd.cell_at {w:World} {F:Nat->Prop} {nm:N_} {c:AV} {v:Value} (h:Rd w F nm c v) (ht:c≠ .top) {j:Nat} {x:AV} (hx:c.cells[j]?=some x):
  ∃u,v.cells[j]?=some u∧Rd w F nm x u:=by
 have one:∀{c:AV} {v:Value},Rd w F nm c v->c.cells=[c]->v.cells=#[v]->c.cells[j]?=some x->∃u,v.cells[j]?=some u∧Rd w F nm x u:=by
  intro c v h e1 e2 hx;rw[e1] at hx
  match j,hx with
  | 0,hx=>simp at hx;subst hx;exact⟨v,by rw[e2];rfl,h⟩
  | j+1,hx=>simp at hx
 cases hc:c with
 | agg cs=>
  subst hc;cases h with
  | agg _ _ us hl h=>
   simp only[AV.cells] at hx;have hj:j<cs.length:=(zX.1 hx).1;rw[hl] at hj;exact⟨us[j],by simp [Value.cells,hj],h j x _ hx (zU hj)⟩
 | top=>exact absurd hc ht
 | _ =>
  subst hc;refine one h rfl ?_ hx;cases h <;> rfl
theorem hh_ (H:List (Nat×Box)) (i j:Nat) (b:Box):hget (hset H i b) j=if i=j then some b else hget H j:=by
 induction H with
 | nil=>simp [hset,hget]
 | cons x r ih=>
  obtain⟨k,c⟩:=x;simp only[hset];split
  .rename_i h;subst h;simp only[hget];split <;> rfl
  .rename_i h;simp only[hget,ih];split
   .rename_i h2;subst h2;rw[zK (λe=>h e.symm)]
   .rfl
theorem hp10 (H:List (Nat×Box)) (i j:Nat):hget (p12 i H) j=if j=i then none else (hget H j).map (p10 i):=by
 induction H with
 | nil=>simp [p12,hget]
 | cons x r ih=>
  obtain⟨k,c⟩:=x;simp only[p12];split
  .rename_i h;subst h;rw[ih];simp only[hget];split
   .rfl
   .rename_i h2;rw[zK (λe=>h2 e.symm)]
  .rename_i h;simp only[hget,ih];split
   .rename_i h2;subst h2;rw[zK h];rfl
   .rfl
theorem ht10 (H:List (Nat×Box)) (i j:Nat) (b:Box):hget (t37 i b H) j=if j=i then none else (hget H j).map (t36 i b):=by
 induction H with
 | nil=>simp [t37,hget]
 | cons x r ih=>
  obtain⟨k,c⟩:=x;simp only[t37];split
  .rename_i h;subst h;rw[ih];simp only[hget];split
   .rfl
   .rename_i h2;rw[zK (λe=>h2 e.symm)]
  .rename_i h;simp only[hget,ih];split
   .rename_i h2;subst h2;rw[zK h];rfl
   .rfl
theorem ep_ (E:List (Nat×AV)) (i t:Nat):eget (p13 i E) t=purge i (eget E t):=by
 induction E with
 | nil=>simp [p13,eget,purge]
 | cons x r ih=>obtain⟨k,c⟩:=x;simp only[p13,eget,ih];split <;> rfl
theorem et14 (E:List (Nat×AV)) (i t:Nat) (b:Box):eget (t38 i b E) t=thaw i b (eget E t):=by
 induction E with
 | nil=>simp [t38,eget,thaw]
 | cons x r ih=>obtain⟨k,c⟩:=x;simp only[t38,eget,ih];split <;> rfl
theorem et13 (st:St) (ts:List Nat) (t:Nat):eget (st.trimE ts) t= .top∨eget (st.trimE ts) t=eget st.env t:=by
 induction ts with
 | nil=>exact .inl rfl
 | cons x ts ih=>
  simp only[St.trimE,eget];split
  .rename_i h;subst h;exact .inr rfl
  .exact ih
theorem ht11 (st:St) (is:List Nat) (i:Nat) (b:Box) (h:hget (st.trimH is) i=some b):hget st.heap i=some b:=by
 induction is with
 | nil=>simp [St.trimH,hget] at h
 | cons x is ih=>
  simp only[St.trimH] at h;split at h
  .rename_i c hc;simp only[hget] at h;split at h
   .rename_i e;subst e;rw[hc];exact h
   .exact ih h
  .exact ih h
theorem hf10 (N:Nat) (H:List (Nat×Box)) (i:Nat) (b:Box) (h:hget (f11 N H) i=some b):hget H i=some b:=by
 induction H with
 | nil=>simp [f11,hget] at h
 | cons x r ih=>
  obtain⟨j,c⟩:=x;simp only[f11] at h;split at h
  .simp only[hget] at h ⊢;split
   .rename_i e;rw[zY e] at h;exact h
   .rename_i e;rw[zK e] at h;exact ih h
  .rename_i hn;simp only[hget];split
   .rename_i e;subst e;exfalso;have:∀(r:List (Nat×Box)),hget (f11 N r) j=none:=by
     intro r
     induction r with
     | nil=>rfl
     | cons y r ihr=>
      obtain⟨k,d⟩:=y;simp only[f11];split
      .rename_i hk;simp only[hget];rw[zK (λ(e:k=j)=>hn (e ▸ hk))];exact ihr
      .exact ihr
    rw[this] at h;cases h
   .exact ih h
theorem hh10 (l r:List (Nat×Box)) (i:Nat):hget (happ l r) i=match hget l i with | some b=>some b | none=>hget r i:=by
 induction l with
 | nil=>rfl
 | cons x l ih=>
  obtain⟨j,c⟩:=x;simp only[happ,hget,ih];split <;> rfl
theorem ht_ (st:St) (kt kb:List Nat) (i:Nat) (b:Box) (h:hget (st.trim kt kb).heap i=some b):hget st.heap i=some b:=by
 simp only[St.trim,hh10] at h;split at h
 .rename_i c hc;rw[h] at hc;exact ht11 _ _ _ _ hc
 .exact hf10 _ _ _ _ h
def L_ (w:World) (F:Nat->Prop) (nm:N_) (m:Nm) (b:Box):Prop:=
 m.sz=b.sz∧m.ty=b.ty∧0<b.sz∧∃cs:Array Value,w.heap[m.g]?=some (.cells cs m.ty (0,0))∧cs.size=m.cap*m.sz∧b.es.length<=m.cap∧m.cap<=maxLen∧
  (∀e∈b.es,e.cells.length=b.sz)∧
  ∀(k:Nat) e (j:Nat) c,b.es[k]?=some e->e.cells[j]?=some c->∃u,cs[k*m.sz+j]?=some u∧u.oneCell'=true∧Rd w F (if b.row then n10 else nm) c u
def MapR (w:World) (F:Nat->Prop) (m:Nm) (b:Box):Prop:=
 ∃(ents:Array MapEntry) (clock:Nat),w.heap[m.g]?=some (.map ents clock)∧ents.size=b.es.length∧(∀e∈ents.toList,e.born<clock)∧(ents.toList.map (·.born)).Nodup∧
  (∀(j:Nat) e,ents[j]?=some e->∃k v,b.es[j]?=some (.tup [k,v])∧Rd w F n10 k e.key∧Rd w F n10 v e.val)∧
  (3<=b.ty->clock=b.ty - 3+ents.size∧∀(j:Nat) e,ents[j]?=some e->e.born=b.ty - 3+j)
def I_ (w:World) (F:Nat->Prop) (m:Nm) (b:Box):Prop:=
 ∃(g:Nat) (ents:Array MapEntry) (clock:Nat) (seen:Array Nat) (cur:AV) (left:List AV),F g∧w.heap[g]?=some (.map ents clock)∧w.heap[m.g]?=some (.mapIter (some g) clock seen clock)∧
  (∀e∈ents.toList,e.born<clock)∧(ents.toList.map (·.born)).Nodup∧b.es=cur::left∧left.length=(ents.toList.filter λe=>!seen.contains e.born).length∧
  (∀(j:Nat) e,(ents.toList.filter λe=>!seen.contains e.born)[j]?=some e->∃k v,left[j]?=some (.tup [k,v])∧Rd w F n10 k e.key∧Rd w F n10 v e.val)∧
  (cur= .undef∨∃e,e∈ents.toList∧seen.back? =some e.born∧∃k v,cur= .tup [k,v]∧Rd w F n10 k e.key∧Rd w F n10 v e.val)
def L10 (w:World) (F:Nat->Prop) (m:Nm) (b:Box):Prop:=
 b.sz=0∧b.row=true∧m.sz=0∧((b.ty=0∧∃(s:List UInt8) (p:Nat),b.es=[.str s,.int .i64 p]∧w.heap[m.g]?=some (.stringIter ⟨s.toArray⟩ p))∨((b.ty=1∨3<=b.ty)∧MapR w F m b)∨(b.ty=2∧I_ w F m b))
def Lies (w:World) (F:Nat->Prop) (nm:N_) (m:Nm) (b:Box):Prop:=L_ w F nm m b∨L10 w F m b
theorem Lies.c {w:World} {F:Nat->Prop} {nm:N_} {m:Nm} {b:Box} (h:Lies w F nm m b) (h0:0<b.sz):L_ w F nm m b:=by
 rcases h with h | h
 .exact h
 .exact absurd h.1 (by omega)
theorem Lies.v {w:World} {F:Nat->Prop} {nm:N_} {m:Nm} {b:Box} (h:Lies w F nm m b) (h0:b.row≠true):L_ w F nm m b:=by
 rcases h with h | h
 .exact h
 .exact absurd h.2.1 h0
theorem Lies.there {w:World} {F:Nat->Prop} {nm:N_} {m:Nm} {b:Box} (h:Lies w F nm m b):m.g<w.heap.size:=by
 rcases h with ⟨_,_,_,cs,hcs,_⟩ | ⟨_,_,_,⟨_,s,p,_,hs⟩ | ⟨_,e,c,hm,_⟩ | ⟨_,_,_,_,_,_,_,_,_,hm,_⟩⟩
 .exact (yC.1 hcs).1
 .exact (yC.1 hs).1
 .exact (yC.1 hm).1
 .exact (yC.1 hm).1
theorem L10.mono {w w':World} {F F':Nat->Prop} {m:Nm} {b:Box} (h:L10 w F m b) (hb:w'.heap[m.g]? =w.heap[m.g]?)
  (hw:∀b,F b->w'.heap[b]? =w.heap[b]?) (hF:∀b,F b->F' b):L10 w' F' m b:=by
 obtain⟨h1,h2,h3,⟨h4,s,p,h5,h6⟩ | ⟨h4,e,c,h5,h6,h7,h8,h9,h10⟩ | ⟨h4,g,ents,clock,seen,cur,left,k0,k1,k2,k3,k4,k5,k6,k7,k8⟩⟩:=h
 .exact⟨h1,h2,h3,.inl ⟨h4,s,p,h5,by rw[hb];exact h6⟩⟩
 .exact⟨h1,h2,h3,.inr (.inl ⟨h4,e,c,by rw[hb];exact h5,h6,h7,h8,λj x hx=>let ⟨k,v,a1,a2,a3⟩:=h9 j x hx;⟨k,v,a1,a2.mono hw hF,a3.mono hw hF⟩,h10⟩)⟩
 .refine⟨h1,h2,h3,.inr (.inr ⟨h4,g,ents,clock,seen,cur,left,hF _ k0,by rw[hw _ k0];exact k1,by rw[hb];exact k2,k3,k4,k5,k6,λj x hx=>let ⟨k,v,a1,a2,a3⟩:=k7 j x hx;⟨k,v,a1,a2.mono hw hF,a3.mono hw hF⟩,?_⟩)⟩;rcases k8 with k8 | ⟨e,a1,a2,k,v,a3,a4,a5⟩
  .exact .inl k8
  .exact .inr ⟨e,a1,a2,k,v,a3,a4.mono hw hF,a5.mono hw hF⟩
def BoxR (w:World) (F:Nat->Prop) (nm:N_) (i:Nat) (b:Box):Prop:=
 (nm i=none∧b.es=[]∧b.row=true∧0<b.sz)∨∃m,nm i=some m∧Lies w F nm m b
theorem Lies.mono {w w':World} {F F':Nat->Prop} {nm:N_} {m:Nm} {b:Box} (h:Lies w F nm m b) (hb:w'.heap[m.g]? =w.heap[m.g]?)
  (hw:∀b,F b->w'.heap[b]? =w.heap[b]?) (hF:∀b,F b->F' b):Lies w' F' nm m b:=by
 rcases h with h | h
 case inr=>exact .inr (h.mono hb hw hF)
 obtain⟨h1,h2,h3,cs,h4,h5,h6,h7,h8,h9⟩:=h;refine .inl ⟨h1,h2,h3,cs,by rw[hb];exact h4,h5,h6,h7,h8,λk e j c he hc=>?_⟩;obtain⟨u,hu,hu1,hr⟩:=h9 k e j c he hc;exact⟨u,hu,hu1,hr.mono hw hF⟩
theorem purge.go_cells (i:Nat) (e:AV):(purge i e).cells=purge.go i e.cells:=by cases e <;> first | rfl | (rename_i j k n;by_cases h:j=i <;> simp [purge,AV.cells,purge.go,h];done) | (rename_i j;by_cases h:j=i <;> simp [purge,AV.cells,purge.go,h])
theorem purge.cells_len (i:Nat) (e:AV):(purge i e).cells.length=e.cells.length:=by rw[purge.go_cells,purge.go_len]
theorem Lies.purge {w:World} {F:Nat->Prop} {nm nm':N_} {m:Nm} {b:Box} {i:Nat} (h:Lies w F nm m b) (hn:∀j,j≠i->nm' j=nm j):Lies w F nm' m (p10 i b):=by
 rcases h with h | h
 case inr=>exact .inr (by simp only[p10,h.2.1,xW];exact h)
 obtain⟨h1,h2,h3,cs,h4,h5,h6,h7,h8,h9⟩:=h;unfold p10;split
 .rename_i hr;refine .inl ⟨h1,h2,h3,cs,h4,h5,h6,h7,h8,λk e j c he hc=>?_⟩;obtain⟨u,hu,hu1,hrd⟩:=h9 k e j c he hc;rw[zY hr] at hrd ⊢;exact⟨u,hu,hu1,hrd⟩
 .rename_i hr;refine .inl ⟨h1,h2,h3,cs,h4,h5,by simpa [purge.go_len] using h6,h7,λe he=>?_,λk e j c he hc=>?_⟩
  .obtain⟨k,hk⟩:=zM he;rw[purge.go_at] at hk;obtain⟨e',he',rfl⟩:=zH.1 hk;rw[purge.cells_len];exact h8 e' (zG he')
  .simp only at he;rw[purge.go_at] at he;obtain⟨e',he',rfl⟩:=zH.1 he;rw[purge.go_cells,purge.go_at] at hc;obtain⟨c',hc',rfl⟩:=zH.1 hc;obtain⟨u,hu,hu1,hrd⟩:=h9 k e' j c' he' hc';simp only[hr] at hrd ⊢;exact⟨u,hu,hu1,hrd.purge hn⟩
structure Ctx where
 w0:World
 F:Nat->Prop
 L:Nat->Prop
 V:Nat->Prop
 n0:N_
structure Kept (C:Ctx) (w:World):Prop where
 os:w.os=C.w0.os
 tape:w.tape=C.w0.tape
 output:w.output=C.w0.output
 size:C.w0.heap.size<=w.heap.size
 block:∀b,b<C.w0.heap.size->¬C.L b->w.heap[b]? =C.w0.heap[b]?
def W10 (w:World) (g:Nat) (e:AV):Prop:=∃arr t fz,w.heap[g]?=some (.cells arr t fz)∧arr.size=e.cells.length
def Good (w:World) (F:Nat->Prop) (G:Nat->Option AV):Prop:=
 (∀b,F b->b<w.heap.size)∧∀g e,G g=some e->Rd w F n10 (.eptr e 0) (.pointer (some ⟨g,0,none⟩))∧W10 w g e
theorem Rd.eptr_F {w:World} {F:Nat->Prop} {nm:N_} {e:AV} {off g o:Nat} (h:Rd w F nm (.eptr e off) (.pointer (some ⟨g,o,none⟩))):F g:=by cases h;assumption
structure RelX (G:Nat->Option AV) (C:Ctx) (nm:N_) (F:Nat->Prop) (st:St) (a:Act) (w:World):Prop where
 N:a.tmps.size=st.N
 df:a.defers=[]
 env:∀t,Rd w F nm (st.get t) (a.tmps.getD t undef)
 box:∀i b,hget st.heap i=some b->BoxR w F nm i b
 inj:∀i j b c m m',hget st.heap i=some b->hget st.heap j=some c->nm i=some m->nm j=some m'->m.g=m'.g->i=j
 fr:∀i b m,hget st.heap i=some b->nm i=some m->¬F m.g
 own:∀i b m,hget st.heap i=some b->nm i=some m->C.w0.heap.size<=m.g∨C.L m.g
 good:Good w F G
 f0:∀b,C.F b->F b
 fb:∀b,F b->C.F b∨C.w0.heap.size<=b∨C.L b
 keep:Kept C w
 vn:∀i,C.V i->st.N<=i∧nm i=C.n0 i∧∀b,hget st.heap i=some b->b.row=false
def Rel (G:Nat->Option AV) (C:Ctx) (st:St) (a:Act) (w:World):Prop:=∃nm F,RelX G C nm F st a w
section
variable {G:Nat->Option AV} {C:Ctx} {nm:N_} {F:Nat->Prop} {st:St} {a:Act} {w:World}
abbrev upd (nm:N_) (d:Nat) (m:Option Nm):N_:=λj=>if j=d then m else nm j
theorem Good.mono {w':World} {F':Nat->Prop} (h:Good w F G) (hw:∀b,F b->w'.heap[b]? =w.heap[b]?) (hF:∀b,F b->F' b) (hs:∀b,F' b->b<w'.heap.size):Good w' F' G:=
 ⟨hs,λg e he=>⟨(h.2 g e he).1.mono hw hF,by obtain⟨arr,t,fz,h1,h2⟩:=(h.2 g e he).2;exact⟨arr,t,fz,by rw[hw g (h.2 g e he).1.eptr_F];exact h1,h2⟩⟩⟩
theorem gp_ (tmps:Array Value) (d t:Nat) (v:Value) (hd:d<tmps.size):(tmps.setIfInBounds d v).getD t undef=if d=t then v else tmps.getD t undef:=by
 simp only[zC,uF,hd,xW];split
 .rename_i h;subst h;first | rfl | (rw[zY hd];rfl)
 .rfl
theorem RelX.ev (h:RelX G C nm F st a w) {x:Operand} {y:Opd} (hx:match x,y with | .tmp t,.t n=>t=n | .func f,.f n=>f=n∧n<fnB | .global g,.g n=>g=n | .const v,.k c=>∀w F nm,Rd w F nm c v | _,_ =>False):
  Rd w F nm (st.ev G y) (a.eval x):=by
 cases x <;> cases y <;> simp only at hx
 .subst hx;exact h.env _
 .exact hx _ _ _
 .subst hx;simp only[St.ev,Act.eval];split
  .rename_i e he;exact (h.good.2 _ e he).1.any nm
  .exact .top _ _
 .obtain⟨rfl,hx⟩:=hx;rename_i n;have:=Rd.fn (w:=w) (F:=F) nm n [] [] rfl (by simp);rw[fp11 hx] at this;exact this
theorem RelX.put (h:RelX G C nm F st a w) {d:Option Nat} {c:AV} {v:Value} (hv:Rd w F nm c v) {st':St} (hp:st.put d c=some st'):RelX G C nm F st' (a.put d v) w:=by
 cases d with
 | none=>simp only[St.put,zZ] at hp;subst hp;exact h
 | some d=>
  simp only[St.put] at hp;split at hp
  .rename_i hd;simp only[zZ] at hp;subst hp;refine⟨by simp [Act.put,h.N],h.df,λt=>?_,h.box,h.inj,h.fr,h.own,h.good,h.f0,h.fb,h.keep,h.vn⟩;simp only[Act.put,St.get,eget];rw[gp_ _ _ _ _ (by rw[h.N];exact hd)];split
   .exact hv
   .exact h.env t
  .cases hp
theorem RelX.world (h:RelX G C nm F st a w) {w':World} {F':Nat->Prop} (hk:Kept C w') (hF:∀b,F b->F' b) (hF':∀b,F' b->F b∨w.heap.size<=b) (hs:∀b,F' b->b<w'.heap.size)
  (hw:∀b,b<w.heap.size->w'.heap[b]? =w.heap[b]?):RelX G C nm F' st a w':=by
 have hFw:∀b,F b->w'.heap[b]? =w.heap[b]? :=λb hb=>hw b (h.good.1 b hb);have lt:∀i b m,hget st.heap i=some b->nm i=some m->m.g<w.heap.size:=λi b m hi hm=>by
  rcases h.box i b hi with ⟨hn,_⟩ | ⟨m',hm',hl⟩
  .rw[hm] at hn;cases hn
  .rw[hm] at hm';cases hm';exact hl.there
 refine⟨h.N,h.df,λt=>(h.env t).mono hFw hF,λi b hi=>?_,h.inj,λi b m hi hm hf=>?_,h.own,h.good.mono hFw hF hs,λb hb=>hF b (h.f0 b hb),λb hb=>?_,hk,h.vn⟩
 .rcases h.box i b hi with hn | ⟨m,hm,hl⟩
  .exact .inl hn
  .exact .inr ⟨m,hm,hl.mono (hw _ (lt i b m hi hm)) hFw hF⟩
 .rcases hF' _ hf with h1 | h1
  .exact h.fr i b m hi hm h1
  .have:=lt i b m hi hm;omega
 .rcases hF' b hb with h1 | h1
  .exact h.fb b h1
  .right;left;have:=h.keep.size;omega
theorem RelX.trim (h:RelX G C nm F st a w) (kt kb:List Nat):RelX G C nm F (st.trim kt kb) a w:=by
 refine⟨h.N,h.df,λt=>?_,λi b hi=>h.box i b (ht_ _ _ _ _ _ hi),λi j b c m m' hi hj=>h.inj i j b c m m' (ht_ _ _ _ _ _ hi) (ht_ _ _ _ _ _ hj),
  λi b m hi=>h.fr i b m (ht_ _ _ _ _ _ hi),λi b m hi=>h.own i b m (ht_ _ _ _ _ _ hi),h.good,h.f0,h.fb,h.keep,λi hi=>⟨(h.vn i hi).1,(h.vn i hi).2.1,λb hb=>(h.vn i hi).2.2 b (ht_ _ _ _ _ _ hb)⟩⟩
 rcases et13 st kt t with e | e
 .simp only[St.get,St.trim,e];exact .top _ _
 .simp only[St.get,St.trim,e];exact h.env t
theorem RelX.trimEnv (h:RelX G C nm F st a w) (kt:List Nat):RelX G C nm F {st with env:=st.trimE kt} a w:=by
 refine⟨h.N,h.df,λt=>?_,h.box,h.inj,h.fr,h.own,h.good,h.f0,h.fb,h.keep,h.vn⟩;rcases et13 st kt t with e | e
 .simp only[St.get,e];exact .top _ _
 .simp only[St.get,e];exact h.env t
theorem RelX.new (h:RelX G C nm F st a w) {d:Nat} {b:Box} {c:AV} {st':St} (hp:st.new (some d) b c=some st') {w':World} {v:Value} {m:Option Nm}
  (hk:Kept C w') (hw:∀k,k<w.heap.size->w'.heap[k]? =w.heap[k]?) (hs:w.heap.size<=w'.heap.size)
  (hm:∀m',m=some m'->w.heap.size<=m'.g)
  (hv:Rd w' F (upd nm d m) c v)
  (hb:BoxR w' F (upd nm d m) d b):RelX G C (upd nm d m) F st' (a.put (some d) v) w':=by
 have h':RelX G C nm F st a w':=h.world hk (λ_ h=>h) (λ_ h=>.inl h) (λb hb=>wJ (h.good.1 b hb) hs) hw;have hn:∀j,j≠d->upd nm d m j=nm j:=λj hj=>zK hj;simp only[St.new] at hp;split at hp
 .rename_i hd;simp only[zZ] at hp;subst hp;have get:∀i c,hget ((d,b)::p12 d st.heap) i=some c->(i=d∧c=b)∨(i≠d∧∃c',hget st.heap i=some c'∧c=p10 d c'):=by
   intro i c hi;simp only[hget] at hi;split at hi
   .rename_i e;subst e;left;simp only[zZ] at hi;exact⟨rfl,hi.symm⟩
   .rename_i e;rw[hp10,zK (λx=>e x.symm)] at hi;obtain⟨c',hc',rfl⟩:=zH.1 hi;exact .inr ⟨λx=>e x.symm,c',hc',rfl⟩
  have lt:∀i b m,hget st.heap i=some b->nm i=some m->m.g<w.heap.size:=λi b m hi hm=>by
   rcases h.box i b hi with ⟨hn,_⟩ | ⟨m',hm',hl⟩
   .rw[hm] at hn;cases hn
   .rw[hm] at hm';cases hm';exact hl.there
  refine⟨by simp [Act.put,h.N],h.df,λt=>?_,λi c hi=>?_,λi j c e m1 m2 hi hj h1 h2 hg=>?_,λi c m1 hi h1 hf=>?_,λi c m1 hi h1=>?_,h'.good,h.f0,h.fb,hk,λi hi=>?_⟩
  .simp only[Act.put,St.get,eget];rw[gp_ _ _ _ _ (by rw[h.N];exact hd)];split
   .exact hv
   .rw[ep_];exact (h'.env t).purge hn
  .rcases get i c hi with ⟨rfl,rfl⟩ | ⟨hne,c',hc',rfl⟩
   .exact hb
   .rcases h'.box i c' hc' with ⟨e1,e2,e3,e4⟩ | ⟨m1,e1,hl⟩
    .left;refine⟨by simp [upd,hne,e1],?_,?_,?_⟩ <;> simp [p10,e2,e3,e4]
    .exact .inr ⟨m1,by simp [upd,hne,e1],hl.purge hn⟩
  .rcases get i c hi with ⟨rfl,rfl⟩ | ⟨hne,c',hc',rfl⟩ <;> rcases get j e hj with ⟨rfl,rfl⟩ | ⟨hne2,e',he',rfl⟩
   .rfl
   .simp only[upd,hne2,xW,yI] at h1 h2;have:=hm m1 h1;have:=lt j e' m2 he' h2;omega
   .simp only[upd,hne,xW,yI] at h1 h2;have:=hm m2 h2;have:=lt i c' m1 hc' h1;omega
   .simp only[upd,hne,hne2,yI] at h1 h2;exact h.inj i j c' e' m1 m2 hc' he' h1 h2 hg
  .rcases get i c hi with ⟨rfl,rfl⟩ | ⟨hne,c',hc',rfl⟩
   .simp only[upd,xW] at h1;have:=hm m1 h1;have:=h.good.1 _ hf;omega
   .simp only[upd,hne,yI] at h1;exact h.fr i c' m1 hc' h1 hf
  .rcases get i c hi with ⟨rfl,rfl⟩ | ⟨hne,c',hc',rfl⟩
   .simp only[upd,xW] at h1;left;have:=hm m1 h1;have:=h.keep.size;omega
   .simp only[upd,hne,yI] at h1;exact h.own i c' m1 hc' h1
  .obtain⟨v1,v2,v3⟩:=h.vn i hi;have hne:i≠d:=λe=>by omega
   refine⟨v1,by simp only[upd,hne,yI];exact v2,λc hc=>?_⟩;rcases get i c hc with ⟨e,_⟩ | ⟨_,c',hc',rfl⟩
   .exact absurd e hne
   .have:=v3 c' hc';simp [p10,this]
 .cases hp
end
