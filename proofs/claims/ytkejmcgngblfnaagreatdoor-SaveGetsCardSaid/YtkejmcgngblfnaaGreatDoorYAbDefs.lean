/-
  Abstract values, states and straight-line evaluation: the language into which a function's code is read, so that its run can be followed on plain data. No claim is proved here.
-/
import Derived.Orders
import Derived.Below
import Derived.Laws.AppendOwnNone
namespace Go.Proofs.YtkejmcgngblfnaaGreatDoor.Ab
open Go
inductive AV where
 | top
 | undef
 | bool (b:Bool)
 | int (k:IntKind) (n:Int)
 | str (s:List UInt8)
 | agg (cs:List AV)
 | tup (cs:List AV)
  /-- A slice that has no more room than it is long. -/
 | full (sz:Nat) (es:List AV)
 | seq (sz:Nat) (es:List AV)
 | nils
 | arr (i k n:Nat)
 | ref (i k off:Nat)
 | eptr (e:AV) (off:Nat)
 | nilp
 | fn (f:Nat) (caps:List AV)
 | nilfn
 | nili
 | iface (t:Nat) (v:AV)
 | mapv (i:Nat)
 | nilm
 | rawp (b o:Nat)
 | mapc (es:List AV)
def AV.cells:AV→List AV
 | .agg cs=>cs
 | v=>[v]
structure Nm where
 g:Nat
 sz:Nat
 cap:Nat
 ty:Nat
abbrev N_:=Nat→Option Nm
def n_:N_:=fun _ =>none
def fnB:Nat:=1000000
def fnN (f:Nat):Nat:=f % fnB
def f20 (f:Nat) (us:List Value):Value:=.func (.func (fnN f)) (us.take (f / fnB)).toArray (us.drop (f / fnB)).toArray
theorem fp_ {f:Nat} (h:f<fnB):fnN f=f:=Nat.mod_eq_of_lt h
theorem fp12 {f:Nat} (h:f<fnB) (us:List Value):f20 f us= .func (.func f) #[] us.toArray:=by
 unfold f20
 rw[fp_ h,Nat.div_eq_of_lt h]
 rfl
def fnA (f:Nat) (caps args:List AV):List AV:=caps.take (f / fnB)++args++caps.drop (f / fnB)
theorem fp11 {f:Nat} (h:f<fnB) (caps args:List AV):fnA f caps args=args++caps:=by
 unfold fnA
 rw[Nat.div_eq_of_lt h]
 rfl
inductive Rd (w:World) (F:Nat→Prop):N_→AV→Value→Prop where
 | top (nm v):Rd w F nm .top v
 | undef (nm):Rd w F nm .undef undef
 | bool (nm b):Rd w F nm (.bool b) (.bool b)
 | int (nm k n):Rd w F nm (.int k n) (.int k n)
 | str (nm s):Rd w F nm (.str s) (.string ⟨s.toArray⟩)
 | agg (nm) (cs:List AV) (us:List Value) (hl:cs.length=us.length) (h:∀(j:Nat) c u,cs[j]? =some c→us[j]? =some u→Rd w F nm c u):Rd w F nm (.agg cs) (.agg us.toArray)
 | tup (nm) (cs:List AV) (us:List Value) (hl:cs.length=us.length) (h:∀(j:Nat) c u,cs[j]? =some c→us[j]? =some u→Rd w F nm c u):Rd w F nm (.tup cs) (.tuple us.toArray)
 | seq0 (nm sz a cap):Rd w F nm (.seq sz []) (.slice a 0 cap)
 | seq (nm sz es g o cap) (u:Nat→Value) (h0:0<sz) (hF:F g) (hc:es.length≤cap) (hm:cap≤maxLen) (hs:∀e∈es,e.cells.length=sz)
   (hw:∀p,p<es.length*sz→w.cell? ⟨g,o+p,none⟩=some (u p)) (h1:∀p,p<es.length*sz→(u p).oneCell'=true)
   (h:∀(k:Nat) e (j:Nat) c,es[k]? =some e→e.cells[j]? =some c→Rd w F n_ c (u (k*sz+j))):Rd w F nm (.seq sz es) (.slice (some ⟨g,o,none⟩) es.length cap)
 | full (nm sz es g o) (u:Nat→Value) (h0:0<sz) (hF:F g) (hm:es.length≤maxLen) (hs:∀e∈es,e.cells.length=sz)
   (hw:∀p,p<es.length*sz→w.cell? ⟨g,o+p,none⟩=some (u p)) (h1:∀p,p<es.length*sz→(u p).oneCell'=true)
   (h:∀(k:Nat) e (j:Nat) c,es[k]? =some e→e.cells[j]? =some c→Rd w F n_ c (u (k*sz+j))):Rd w F nm (.full sz es) (.slice (some ⟨g,o,none⟩) es.length es.length)
 | nils (nm):Rd w F nm .nils (.slice none 0 0)
 | arr (nm i k n m) (hi:nm i=some m) (hn:k+n≤m.cap) (hp:0<n∨k=0):Rd w F nm (.arr i k n) (.slice (some ⟨m.g,k*m.sz,none⟩) n (m.cap - k))
 | arrE (nm i k a cap) (hk:0<k):Rd w F nm (.arr i k 0) (.slice a 0 cap)
 | arrN (nm i):Rd w F nm (.arr i 0 0) (.slice none 0 0)
 | ref (nm i k off m) (hi:nm i=some m):Rd w F nm (.ref i k off) (.pointer (some ⟨m.g,k*m.sz+off,none⟩))
 | eptr (nm e off g o) (u:Nat→Value) (hF:F g) (hw:∀p,p<e.cells.length→w.cell? ⟨g,o+p,none⟩=some (u p)) (h1:∀p,p<e.cells.length→(u p).oneCell'=true)
   (h:∀(j:Nat) c,e.cells[j]? =some c→Rd w F n_ c (u j)):Rd w F nm (.eptr e off) (.pointer (some ⟨g,o+off,none⟩))
 | nilp (nm):Rd w F nm .nilp (.pointer none)
 | fn (nm f) (cs:List AV) (us:List Value) (hl:cs.length=us.length) (h:∀(j:Nat) c u,cs[j]? =some c→us[j]? =some u→Rd w F nm c u):Rd w F nm (.fn f cs) (f20 f us)
 | nilfn (nm):Rd w F nm .nilfn .nilFunc
 | nili (nm):Rd w F nm .nili .nilIface
 | iface (nm t c u) (h:Rd w F nm c u):Rd w F nm (.iface t c) (.iface t u)
 | mapv (nm i m) (hi:nm i=some m):Rd w F nm (.mapv i) (.map (some m.g))
 | nilm (nm):Rd w F nm .nilm (.map none)
 | rawp (nm b o):Rd w F nm (.rawp b o) (.pointer (some ⟨b,o,none⟩))
 | mapc (nm) (es:List AV) (g) (ents:Array MapEntry) (clock) (hF:F g) (hh:w.heap[g]? =some (.map ents clock)) (hbn:(∀e∈ents.toList,e.born<clock)∧(ents.toList.map (·.born)).Nodup) (hl:es.length=ents.size) (ht:∀(j:Nat) x,es[j]? =some x→∃k v,x= .tup [k,v])
   (hk:∀(j:Nat) (e:MapEntry) k v,ents[j]? =some e→es[j]? =some (.tup [k,v])→Rd w F n_ k e.key)
   (hv:∀(j:Nat) (e:MapEntry) k v,ents[j]? =some e→es[j]? =some (.tup [k,v])→Rd w F n_ v e.val):Rd w F nm (.mapc es) (.map (some g))
structure Box where
 row:Bool
 ty:Nat
 sz:Nat
 es:List AV
structure St where
 N:Nat
 env:List (Nat×AV)
 heap:List (Nat×Box)
def eget:List (Nat×AV)→Nat→AV
 | [],_ =>.top
 | (j,v)::r,t=>if j=t then v else eget r t
def hget:List (Nat×Box)→Nat→Option Box
 | [],_ =>none
 | (j,b)::r,i=>if j=i then some b else hget r i
def hset:List (Nat×Box)→Nat→Box→List (Nat×Box)
 | [],i,b=>[(i,b)]
 | (j,c)::r,i,b=>if j=i then (i,b)::r else (j,c)::hset r i b
inductive Opd where
 | t (n:Nat)
 | k (v:AV)
 | f (n:Nat)
 | g (n:Nat)
def St.get (st:St) (t:Nat):AV:=eget st.env t
def St.ev (G:Nat→Option AV) (st:St):Opd→AV
 | .t n=>eget st.env n
 | .k v=>v
 | .f n=>.fn n []
 | .g n=>match G n with | some e=>.eptr e 0 | none=>.top
def purge (i:Nat):AV→AV
 | .arr j k n=>if j=i then .top else .arr j k n
 | .ref j k off=>if j=i then .top else .ref j k off
 | .mapv j=>if j=i then .top else .mapv j
 | .agg cs=>.agg (go i cs)
 | .tup cs=>.tup (go i cs)
 | .fn f cs=>.fn f (go i cs)
 | .iface t v=>.iface t (purge i v)
 | v=>v
where
 go (i:Nat):List AV→List AV
 | []=>[]
 | c::cs=>purge i c::go i cs
def thaw (i:Nat) (b:Box):AV→AV
 | .mapv j=>if j=i then (if b.sz=0∧(b.ty=1∨3≤b.ty) then .mapc b.es else .top) else .mapv j
 | .arr j k n=>if j=i then (if 0<b.sz∧k+n≤b.es.length then .seq b.sz ((b.es.drop k).take n) else .top) else .arr j k n
 | .agg cs=>.agg (go i b cs)
 | .tup cs=>.tup (go i b cs)
 | .fn f cs=>.fn f (go i b cs)
 | .iface t v=>.iface t (thaw i b v)
 | v=>v
where
 go (i:Nat) (b:Box):List AV→List AV
 | []=>[]
 | c::cs=>thaw i b c::go i b cs
def p_ (i:Nat):List (Nat×AV)→List (Nat×AV)
 | []=>[]
 | (t,v)::r=>(t,purge i v)::p_ i r
def p10 (i:Nat) (b:Box):Box:=if b.row then b else {b with es:=purge.go i b.es}
def p12 (i:Nat):List (Nat×Box)→List (Nat×Box)
 | []=>[]
 | (j,b)::r=>if j=i then p12 i r else (j,p10 i b)::p12 i r
def t13 (i:Nat) (b:Box):List (Nat×AV)→List (Nat×AV)
 | []=>[]
 | (t,v)::r=>(t,thaw i b v)::t13 i b r
def t14 (i:Nat) (b c:Box):Box:=if c.row then c else {c with es:=thaw.go i b c.es}
def t12 (i:Nat) (b:Box):List (Nat×Box)→List (Nat×Box)
 | []=>[]
 | (j,c)::r=>if j=i then t12 i b r else (j,t14 i b c)::t12 i b r
def St.put (st:St) (d:Option Nat) (v:AV):Option St:=
 match d with
 | none=>some st
 | some d=>if d<st.N then some {st with env:=(d,v)::st.env} else none
def St.new (st:St) (d:Option Nat) (b:Box) (v:AV):Option St:=
 match d with
 | none=>none
 | some d=>if d<st.N then some {st with env:=(d,v)::p_ d st.env,heap:=(d,b)::p12 d st.heap} else none
def view (H:List (Nat×Box)):AV→Option AV
 | .top=>some .top
 | .bool b=>some (.bool b)
 | .int k n=>some (.int k n)
 | .str s=>some (.str s)
 | .seq sz es=>some (.seq sz es)
 | .full sz es=>some (.full sz es)
 | .nils=>some .nils
 | .nilp=>some .nilp
 | .nilfn=>some .nilfn
 | .nili=>some .nili
 | .eptr e off=>some (.eptr e off)
 | .nilm=>some .nilm
 | .rawp b o=>some (.rawp b o)
 | .mapc es=>some (.mapc es)
 | .iface t v=>(view H v).map (.iface t)
 | .fn f cs=>(go H cs).map (.fn f)
 | .agg cs=>(go H cs).map .agg
 | .tup cs=>(go H cs).map .tup
 | .arr i k n=>match hget H i with | some b=>if b.row=true∧0<b.sz∧k+n≤b.es.length then some (.seq b.sz ((b.es.drop k).take n)) else none | none=>none
 | .undef | .ref .. | .mapv _ =>none
where
 go (H:List (Nat×Box)):List AV→Option (List AV)
 | []=>some []
 | c::cs=>match view H c,go H cs with | some x,some xs=>some (x::xs) | _,_ =>none
def viewK (rec:AV→Option AV) (H:List (Nat×Box)):AV→Option AV
 | .top=>some .top
 | .bool b=>some (.bool b)
 | .int k n=>some (.int k n)
 | .str s=>some (.str s)
 | .seq sz es=>some (.seq sz es)
 | .full sz es=>some (.full sz es)
 | .nils=>some .nils
 | .nilp=>some .nilp
 | .nilfn=>some .nilfn
 | .nili=>some .nili
 | .eptr e off=>some (.eptr e off)
 | .nilm=>some .nilm
 | .rawp b o=>some (.rawp b o)
 | .mapc es=>some (.mapc es)
 | .iface t v=>(viewK rec H v).map (.iface t)
 | .fn f cs=>(go rec H cs).map (.fn f)
 | .agg cs=>(go rec H cs).map .agg
 | .tup cs=>(go rec H cs).map .tup
 | .arr i k n=>match hget H i with | some b=>if b.row=true∧0<b.sz∧k+n≤b.es.length then some (.seq b.sz ((b.es.drop k).take n)) else none | none=>none
 | .ref i k off=>match hget H i with | some b=>if 0<b.sz then (match b.es[k]? with | some e=>(rec e).map (.eptr · off) | none=>none) else none | none=>none
 | .mapv i=>match hget H i with | some b=>if b.sz=0∧(b.ty=1∨3≤b.ty) then some (.mapc b.es) else none | none=>none
 | .undef=>none
where
 go (rec:AV→Option AV) (H:List (Nat×Box)):List AV→Option (List AV)
 | []=>some []
 | c::cs=>match viewK rec H c,go rec H cs with | some x,some xs=>some (x::xs) | _,_ =>none
def viewB:Nat→List (Nat×Box)→AV→Option AV
 | 0,H=>viewK (fun _ =>none) H
 | n+1,H=>viewK (viewB n H) H
def v11 (H:List (Nat×Box)):List AV→Option (List AV)
 | []=>some []
 | v::vs=>match viewB 6 H v,v11 H vs with | some x,some xs=>some (x::xs) | _,_ =>none
def r13:AV→List Nat
 | .arr i _ _ =>[i]
 | .agg cs=>go cs
 | .tup cs=>go cs
 | .fn _ cs=>go cs
 | .iface _ v=>r13 v
 | _ =>[]
where
 go:List AV→List Nat
 | []=>[]
 | c::cs=>r13 c++go cs
def St.thaw1 (st:St) (i:Nat):St:=
 match hget st.heap i with
 | some b=>{st with env:=t13 i b st.env,heap:=t12 i b st.heap}
 | none=>st
def St.thaws (st:St):List Nat→St
 | []=>st
 | i::is=>(st.thaw1 i).thaws is
def flat:AV→Bool
 | .top | .bool _ | .int _ _ | .str _ | .nils | .nilp | .nilfn | .nili | .nilm | .undef | .rawp _ _ =>true
 | .agg cs=>go cs
 | .tup cs=>go cs
 | .iface _ v=>flat v
 | _ =>false
where
 go:List AV→Bool
 | []=>true
 | c::cs=>flat c&&go cs
def St.trimE (st:St):List Nat→List (Nat×AV)
 | []=>[]
 | t::ts=>(t,eget st.env t)::st.trimE ts
def St.trimH (st:St):List Nat→List (Nat×Box)
 | []=>[]
 | i::is=>match hget st.heap i with | some b=>(i,b)::st.trimH is | none=>st.trimH is
def f_ (N:Nat):List (Nat×Box)→List (Nat×Box)
 | []=>[]
 | (i,b)::r=>if N≤i then (i,b)::f_ N r else f_ N r
def happ:List (Nat×Box)→List (Nat×Box)→List (Nat×Box)
 | [],r=>r
 | x::l,r=>x::happ l r
def St.trim (st:St) (kt kb:List Nat):St:={st with env:=st.trimE kt,heap:=happ (st.trimH kb) (f_ st.N st.heap)}
end Go.Proofs.YtkejmcgngblfnaaGreatDoor.Ab
