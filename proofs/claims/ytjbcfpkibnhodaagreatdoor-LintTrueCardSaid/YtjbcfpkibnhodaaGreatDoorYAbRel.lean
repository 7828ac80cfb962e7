/-
  Abstract values, states and straight-line evaluation: the language into which a function's code is read, so that its run can be followed on plain data. The operations of straight-line code on abstract states. How a reading of values goes over to later worlds and other names. When a frame and a world are what an abstract state says, and how that goes over from step to step. No claim is proved here.
-/
import Derived.Orders
import Derived.Below
import Derived.Laws.AppendOwnNone
namespace Go.Proofs.YtjbcfpkibnhodaaGreatDoor.Ab
open Go
inductive AV where
 | top
 | undef
 | bool (b:Bool)
 | int (k:IntKind) (n:Int)
 | str (s:List UInt8)
 | agg (cs:List AV)
 | tup (cs:List AV)
 | seq (sz:Nat) (es:List AV)
 | nils
 | arr (i k n:Nat)
 | ref (i k off:Nat)
 | eptr (e:AV) (off:Nat)
 | nilp
 | fn (f:Nat) (caps:List AV)
 | nilfn
 | nili
 | iface (t:Nat) (v:AV)
 | mapv (i:Nat)
 | nilm
 | rawp (b o:Nat)
 | mapc (es:List AV)
def AV.cells:AV→List AV
 | .agg cs=>cs
 | v=>[v]
structure Nm where
 g:Nat
 sz:Nat
 cap:Nat
 ty:Nat
abbrev N_:=Nat→Option Nm
def n10:N_:=fun _ =>none
inductive Rd (w:World) (F:Nat→Prop):N_→AV→Value→Prop where
 | top (nm v):Rd w F nm .top v
 | undef (nm):Rd w F nm .undef undef
 | bool (nm b):Rd w F nm (.bool b) (.bool b)
 | int (nm k n):Rd w F nm (.int k n) (.int k n)
 | str (nm s):Rd w F nm (.str s) (.string ⟨s.toArray⟩)
 | agg (nm) (cs:List AV) (us:List Value) (hl:cs.length=us.length) (h:∀(j:Nat) c u,cs[j]? =some c→us[j]? =some u→Rd w F nm c u):Rd w F nm (.agg cs) (.agg us.toArray)
 | tup (nm) (cs:List AV) (us:List Value) (hl:cs.length=us.length) (h:∀(j:Nat) c u,cs[j]? =some c→us[j]? =some u→Rd w F nm c u):Rd w F nm (.tup cs) (.tuple us.toArray)
 | seq0 (nm sz a cap):Rd w F nm (.seq sz []) (.slice a 0 cap)
 | seq (nm sz es g o cap) (u:Nat→Value) (h0:0<sz) (hF:F g) (hc:es.length≤cap) (hm:cap≤maxLen) (hs:∀e∈es,e.cells.length=sz)
   (hw:∀p,p<es.length*sz→w.cell? ⟨g,o+p,none⟩=some (u p)) (h1:∀p,p<es.length*sz→(u p).oneCell'=true)
   (h:∀(k:Nat) e (j:Nat) c,es[k]? =some e→e.cells[j]? =some c→Rd w F n10 c (u (k*sz+j))):Rd w F nm (.seq sz es) (.slice (some ⟨g,o,none⟩) es.length cap)
 | nils (nm):Rd w F nm .nils (.slice none 0 0)
 | arr (nm i k n m) (hi:nm i=some m) (hn:k+n≤m.cap) (hp:0<n∨k=0):Rd w F nm (.arr i k n) (.slice (some ⟨m.g,k*m.sz,none⟩) n (m.cap - k))
 | arrE (nm i k a cap) (hk:0<k):Rd w F nm (.arr i k 0) (.slice a 0 cap)
 | arrN (nm i):Rd w F nm (.arr i 0 0) (.slice none 0 0)
 | ref (nm i k off m) (hi:nm i=some m):Rd w F nm (.ref i k off) (.pointer (some ⟨m.g,k*m.sz+off,none⟩))
 | eptr (nm e off g o) (u:Nat→Value) (hF:F g) (hw:∀p,p<e.cells.length→w.cell? ⟨g,o+p,none⟩=some (u p)) (h1:∀p,p<e.cells.length→(u p).oneCell'=true)
   (h:∀(j:Nat) c,e.cells[j]? =some c→Rd w F n10 c (u j)):Rd w F nm (.eptr e off) (.pointer (some ⟨g,o+off,none⟩))
 | nilp (nm):Rd w F nm .nilp (.pointer none)
 | fn (nm f) (cs:List AV) (us:List Value) (hl:cs.length=us.length) (h:∀(j:Nat) c u,cs[j]? =some c→us[j]? =some u→Rd w F nm c u):Rd w F nm (.fn f cs) (.func (.func f) #[] us.toArray)
 | nilfn (nm):Rd w F nm .nilfn .nilFunc
 | nili (nm):Rd w F nm .nili .nilIface
 | iface (nm t c u) (h:Rd w F nm c u):Rd w F nm (.iface t c) (.iface t u)
 | mapv (nm i m) (hi:nm i=some m):Rd w F nm (.mapv i) (.map (some m.g))
 | nilm (nm):Rd w F nm .nilm (.map none)
 | rawp (nm b o):Rd w F nm (.rawp b o) (.pointer (some ⟨b,o,none⟩))
 | mapc (nm) (es:List AV) (g) (ents:Array MapEntry) (clock) (hF:F g) (hh:w.heap[g]? =some (.map ents clock)) (hl:es.length=ents.size) (ht:∀(j:Nat) x,es[j]? =some x→∃k v,x= .tup [k,v])
   (hk:∀(j:Nat) (e:MapEntry) k v,ents[j]? =some e→es[j]? =some (.tup [k,v])→Rd w F n10 k e.key)
   (hv:∀(j:Nat) (e:MapEntry) k v,ents[j]? =some e→es[j]? =some (.tup [k,v])→Rd w F n10 v e.val):Rd w F nm (.mapc es) (.map (some g))
structure Box where
 row:Bool
 ty:Nat
 sz:Nat
 es:List AV
structure St where
 N:Nat
 env:List (Nat×AV)
 heap:List (Nat×Box)
def eget:List (Nat×AV)→Nat→AV
 | [],_ =>.top
 | (j,v)::r,t=>if j=t then v else eget r t
def hget:List (Nat×Box)→Nat→Option Box
 | [],_ =>none
 | (j,b)::r,i=>if j=i then some b else hget r i
def hset:List (Nat×Box)→Nat→Box→List (Nat×Box)
 | [],i,b=>[(i,b)]
 | (j,c)::r,i,b=>if j=i then (i,b)::r else (j,c)::hset r i b
inductive Opd where
 | t (n:Nat)
 | k (v:AV)
 | f (n:Nat)
 | g (n:Nat)
def St.get (st:St) (t:Nat):AV:=eget st.env t
def St.ev (G:Nat→Option AV) (st:St):Opd→AV
 | .t n=>eget st.env n
 | .k v=>v
 | .f n=>.fn n []
 | .g n=>match G n with | some e=>.eptr e 0 | none=>.top
def purge (i:Nat):AV→AV
 | .arr j k n=>if j=i then .top else .arr j k n
 | .ref j k off=>if j=i then .top else .ref j k off
 | .mapv j=>if j=i then .top else .mapv j
 | .agg cs=>.agg (go i cs)
 | .tup cs=>.tup (go i cs)
 | .fn f cs=>.fn f (go i cs)
 | .iface t v=>.iface t (purge i v)
 | v=>v
where
 go (i:Nat):List AV→List AV
 | []=>[]
 | c::cs=>purge i c::go i cs
def thaw (i:Nat) (b:Box):AV→AV
 | .arr j k n=>if j=i then (if 0<b.sz∧k+n≤b.es.length then .seq b.sz ((b.es.drop k).take n) else .top) else .arr j k n
 | .agg cs=>.agg (go i b cs)
 | .tup cs=>.tup (go i b cs)
 | .fn f cs=>.fn f (go i b cs)
 | .iface t v=>.iface t (thaw i b v)
 | v=>v
where
 go (i:Nat) (b:Box):List AV→List AV
 | []=>[]
 | c::cs=>thaw i b c::go i b cs
def p_ (i:Nat):List (Nat×AV)→List (Nat×AV)
 | []=>[]
 | (t,v)::r=>(t,purge i v)::p_ i r
def p11 (i:Nat) (b:Box):Box:=if b.row then b else {b with es:=purge.go i b.es}
def p10 (i:Nat):List (Nat×Box)→List (Nat×Box)
 | []=>[]
 | (j,b)::r=>if j=i then p10 i r else (j,p11 i b)::p10 i r
def t25 (i:Nat) (b:Box):List (Nat×AV)→List (Nat×AV)
 | []=>[]
 | (t,v)::r=>(t,thaw i b v)::t25 i b r
def t22 (i:Nat) (b c:Box):Box:=if c.row then c else {c with es:=thaw.go i b c.es}
def t24 (i:Nat) (b:Box):List (Nat×Box)→List (Nat×Box)
 | []=>[]
 | (j,c)::r=>if j=i then t24 i b r else (j,t22 i b c)::t24 i b r
def St.put (st:St) (d:Option Nat) (v:AV):Option St:=
 match d with
 | none=>some st
 | some d=>if d<st.N then some {st with env:=(d,v)::st.env} else none
def St.new (st:St) (d:Option Nat) (b:Box) (v:AV):Option St:=
 match d with
 | none=>none
 | some d=>if d<st.N then some {st with env:=(d,v)::p_ d st.env,heap:=(d,b)::p10 d st.heap} else none
def view (H:List (Nat×Box)):AV→Option AV
 | .top=>some .top
 | .bool b=>some (.bool b)
 | .int k n=>some (.int k n)
 | .str s=>some (.str s)
 | .seq sz es=>some (.seq sz es)
 | .nils=>some .nils
 | .nilp=>some .nilp
 | .nilfn=>some .nilfn
 | .nili=>some .nili
 | .eptr e off=>some (.eptr e off)
 | .nilm=>some .nilm
 | .rawp b o=>some (.rawp b o)
 | .mapc es=>some (.mapc es)
 | .iface t v=>(view H v).map (.iface t)
 | .fn f cs=>(go H cs).map (.fn f)
 | .agg cs=>(go H cs).map .agg
 | .tup cs=>(go H cs).map .tup
 | .arr i k n=>match hget H i with | some b=>if b.row=true∧0<b.sz∧k+n≤b.es.length then some (.seq b.sz ((b.es.drop k).take n)) else none | none=>none
 | .undef | .ref .. | .mapv _ =>none
where
 go (H:List (Nat×Box)):List AV→Option (List AV)
 | []=>some []
 | c::cs=>match view H c,go H cs with | some x,some xs=>some (x::xs) | _,_ =>none
def viewK (rec:AV→Option AV) (H:List (Nat×Box)):AV→Option AV
 | .top=>some .top
 | .bool b=>some (.bool b)
 | .int k n=>some (.int k n)
 | .str s=>some (.str s)
 | .seq sz es=>some (.seq sz es)
 | .nils=>some .nils
 | .nilp=>some .nilp
 | .nilfn=>some .nilfn
 | .nili=>some .nili
 | .eptr e off=>some (.eptr e off)
 | .nilm=>some .nilm
 | .rawp b o=>some (.rawp b o)
 | .mapc es=>some (.mapc es)
 | .iface t v=>(viewK rec H v).map (.iface t)
 | .fn f cs=>(go rec H cs).map (.fn f)
 | .agg cs=>(go rec H cs).map .agg
 | .tup cs=>(go rec H cs).map .tup
 | .arr i k n=>match hget H i with | some b=>if b.row=true∧0<b.sz∧k+n≤b.es.length then some (.seq b.sz ((b.es.drop k).take n)) else none | none=>none
 | .ref i k off=>match hget H i with | some b=>if 0<b.sz then (match b.es[k]? with | some e=>(rec e).map (.eptr · off) | none=>none) else none | none=>none
 | .mapv i=>match hget H i with | some b=>if b.sz=0∧b.ty=1 then some (.mapc b.es) else none | none=>none
 | .undef=>none
where
 go (rec:AV→Option AV) (H:List (Nat×Box)):List AV→Option (List AV)
 | []=>some []
 | c::cs=>match viewK rec H c,go rec H cs with | some x,some xs=>some (x::xs) | _,_ =>none
def viewB:Nat→List (Nat×Box)→AV→Option AV
 | 0,H=>viewK (fun _ =>none) H
 | n+1,H=>viewK (viewB n H) H
def viewBs (H:List (Nat×Box)):List AV→Option (List AV)
 | []=>some []
 | v::vs=>match viewB 6 H v,viewBs H vs with | some x,some xs=>some (x::xs) | _,_ =>none
def r13:AV→List Nat
 | .arr i _ _ =>[i]
 | .agg cs=>go cs
 | .tup cs=>go cs
 | .fn _ cs=>go cs
 | .iface _ v=>r13 v
 | _ =>[]
where
 go:List AV→List Nat
 | []=>[]
 | c::cs=>r13 c++go cs
def St.thaw1 (st:St) (i:Nat):St:=
 match hget st.heap i with
 | some b=>{st with env:=t25 i b st.env,heap:=t24 i b st.heap}
 | none=>st
def St.thaws (st:St):List Nat→St
 | []=>st
 | i::is=>(st.thaw1 i).thaws is
def flat:AV→Bool
 | .top | .bool _ | .int _ _ | .str _ | .nils | .nilp | .nilfn | .nili | .nilm | .undef | .rawp _ _ =>true
 | .agg cs=>go cs
 | .tup cs=>go cs
 | .iface _ v=>flat v
 | _ =>false
where
 go:List AV→Bool
 | []=>true
 | c::cs=>flat c&&go cs
def St.trimE (st:St):List Nat→List (Nat×AV)
 | []=>[]
 | t::ts=>(t,eget st.env t)::st.trimE ts
def St.trimH (st:St):List Nat→List (Nat×Box)
 | []=>[]
 | i::is=>match hget st.heap i with | some b=>(i,b)::st.trimH is | none=>st.trimH is
def f14 (N:Nat):List (Nat×Box)→List (Nat×Box)
 | []=>[]
 | (i,b)::r=>if N≤i then (i,b)::f14 N r else f14 N r
def happ:List (Nat×Box)→List (Nat×Box)→List (Nat×Box)
 | [],r=>r
 | x::l,r=>x::happ l r
def St.trim (st:St) (kt kb:List Nat):St:={st with env:=st.trimE kt,heap:=happ (st.trimH kb) (f14 st.N st.heap)}
end Go.Proofs.YtjbcfpkibnhodaaGreatDoor.Ab
namespace Go.Proofs.YtjbcfpkibnhodaaGreatDoor.Ab
open Go
inductive AOp where
 | mov (x:Opd)
 | nilrow (ty sz:Nat)
 | pick (c a b:Opd)
 | alloc (ty sz:Nat) (z:AV)
 | box (ty sz:Nat) (x:Opd)
 | build (zs:List AV) (parts:List (Nat×Nat×Opd))
 | mkrow (ty sz n:Nat) (z:AV) (parts:List (Nat×Opd))
 | load (p:Opd)
 | loadN (p:Opd) (n:Nat)
 | store (p x:Opd) (n:Nat)
 | bin (op:BinOp) (x y:Opd)
 | eqA (neg:Bool) (ks:List Nat) (x y:Opd)
 | eqB (neg:Bool) (x y:Opd)
 | eqP (neg:Bool) (x y:Opd)
 | un (op:UnOp) (x:Opd)
 | conv (k:IntKind) (x:Opd)
 | fld (x:Opd) (off:Nat)
 | fldN (x:Opd) (off n:Nat)
 | faddr (p:Opd) (off:Nat)
 | iaddr (sz:Nat) (x i:Opd)
 | idx (x i:Opd)
 | slc (sz:Nat) (x:Opd) (lo hi:Option Opd)
 | len (isStr:Bool) (x:Opd)
 | app (ty sz bytes:Nat) (x y:Opd)
 | ext (x:Opd) (i:Nat)
 | nchk (x:Opd)
 | mkfn (f:Nat) (caps:List Opd)
 | call (f:Nat) (args:List Opd)
 | callv (x:Opd) (args:List Opd)
 | callB (f:Nat) (args:List Opd)
 | callvB (x:Opd) (args:List Opd)
 | bad
 | mks (ty sz bytes:Nat) (z:AV) (n c:Opd)
 | slcG (n:Nat) (x:Opd)
 | mx (mn:Bool) (x y:Opd)
 | rng (x:Opd)
 | nxt (x:Opd)
 | b2s (x:Opd)
 | iaddrA (sz n:Nat) (x i:Opd)
 | idxA (sz n:Nat) (x i:Opd)
 | mki (t:Nat) (x:Opd)
 | eqI (neg:Bool) (x y:Opd)
 | clr (sz:Nat) (z:AV) (x:Opd)
 | mkmap
 | mlen (x:Opd)
 | mget (ok ag:Bool) (ks:List Nat) (z:AV) (x k:Opd)
 | mput (ag:Bool) (ks:List Nat) (x k v:Opd)
structure AO where
 d:Option Nat
 op:AOp
 g:Option (Nat×Bool)
def bAnd (k:IntKind) (a b:Int):Int:=k.wrap (BitVec.ofInt k.bits a&&& BitVec.ofInt k.bits b).toNat
def bOr (k:IntKind) (a b:Int):Int:=k.wrap (BitVec.ofInt k.bits a||| BitVec.ofInt k.bits b).toNat
def bXor (k:IntKind) (a b:Int):Int:=k.wrap (BitVec.ofInt k.bits a ^^^ BitVec.ofInt k.bits b).toNat
def b17 (k:IntKind) (a b:Int):Int:=k.wrap (BitVec.ofInt k.bits a&&& ~~~BitVec.ofInt k.bits b).toNat
def bShl (k:IntKind) (a b:Int):Int:=k.wrap (a*2 ^ (min b.toNat k.bits))
def bShr (k:IntKind) (a b:Int):Int:=a.fdiv (2 ^ (min b.toNat k.bits))
def abin (op:BinOp):AV→AV→Option AV
 | .int k a,.int k' b=>
  match op with
  | .shl=>if b<0 then none else some (.int k (bShl k a b))
  | .shr=>if b<0 then none else some (.int k (bShr k a b))
  | .add=>if k=k' then some (.int k (k.wrap (a+b))) else none
  | .sub=>if k=k' then some (.int k (k.wrap (a - b))) else none
  | .mul=>if k=k' then some (.int k (k.wrap (a*b))) else none
  | .quo=>if k=k'∧b≠0 then some (.int k (k.wrap (a.tdiv b))) else none
  | .rem=>if k=k'∧b≠0 then some (.int k (a.tmod b)) else none
  | .and=>if k=k' then some (.int k (bAnd k a b)) else none
  | .or=>if k=k' then some (.int k (bOr k a b)) else none
  | .xor=>if k=k' then some (.int k (bXor k a b)) else none
  | .andNot=>if k=k' then some (.int k (b17 k a b)) else none
  | .eql=>if k=k' then some (.bool (a==b)) else none
  | .neq=>if k=k' then some (.bool (a != b)) else none
  | .lss=>if k=k' then some (.bool (decide (a<b))) else none
  | .leq=>if k=k' then some (.bool (decide (a≤b))) else none
  | .gtr=>if k=k' then some (.bool (decide (b<a))) else none
  | .geq=>if k=k' then some (.bool (decide (b≤a))) else none
 | .str a,.str b=>
  match op with
  | .add=>if a.length+b.length≤9223372036854775807 then some (.str (a++b)) else none
  | .eql=>some (.bool (a==b))
  | .neq=>some (.bool (!(a==b)))
  | .lss=>some (.bool (Op.bytesLess a b))
  | .leq=>some (.bool (Op.bytesLess a b||a==b))
  | .gtr=>some (.bool (!(Op.bytesLess a b||a==b)))
  | .geq=>some (.bool (!(Op.bytesLess a b)))
  | _ =>none
 | _,_ =>none
def aeqB (neg:Bool):AV→AV→Option AV
 | .bool a,.bool b=>some (.bool (if neg then !(a==b) else a==b))
 | _,_ =>none
def aeqP (neg:Bool):AV→AV→Option AV
 | .nilp,.nilp=>some (.bool (!neg))
 | .ref ..,.nilp | .eptr ..,.nilp=>some (.bool neg)
 | _,_ =>none
def aeqI (neg:Bool):AV→AV→Option AV
 | .nili,.nili=>some (.bool (!neg))
 | .iface ..,.nili=>some (.bool neg)
 | _,_ =>none
def l10:Nat→AV→AV→Option Bool
 | 0,.int k a,.int k' b=>if k=k' then some (a==b) else none
 | 1,.str a,.str b=>some (a==b)
 | 2,.bool a,.bool b=>some (a==b)
 | _,_,_ =>none
def andO:Option Bool→Option Bool→Option Bool
 | some a,some b=>some (a&&b)
 | _,_ =>none
def aeqs:List Nat→List AV→List AV→Option Bool
 | [],[],[]=>some true
 | k::ks,c::cs,d::ds=>andO (l10 k c d) (aeqs ks cs ds)
 | _,_,_ =>none
def aeqA (neg:Bool) (ks:List Nat):AV→AV→Option AV
 | .agg cs,.agg ds=>match aeqs ks cs ds with | some b=>some (.bool (if neg then !b else b)) | none=>none
 | _,_ =>none
def aun (op:UnOp):AV→Option AV
 | .bool b=>match op with | .not=>some (.bool (!b)) | _ =>none
 | .int k n=>match op with | .neg=>some (.int k (k.wrap (0 - n))) | _ =>none
 | _ =>none
def a44 (k:IntKind):AV→Option AV
 | .int _ n=>some (.int k (k.wrap n))
 | _ =>none
def a38:AV→AV→AV→Option AV
 | .bool c,a,b=>match c,a,b with
  | true,a,_ =>some a
  | false,_,b=>some b
 | _,_,_ =>none
def alen (isStr:Bool):AV→Option AV
 | .str s=>if isStr then some (.int .i64 s.length) else none
 | .seq _ es=>if isStr then none else some (.int .i64 es.length)
 | .nils=>if isStr then none else some (.int .i64 0)
 | .arr _ _ n=>if isStr then none else some (.int .i64 n)
 | _ =>none
def aext:AV→Nat→Option AV
 | .tup cs,i=>cs[i]?
 | _,_ =>none
def a48:AV→Option AV
 | .ref i k off=>some (.ref i k off)
 | .eptr e off=>some (.eptr e off)
 | .fn f cs=>some (.fn f cs)
 | .iface t v=>some (.iface t v)
 | _ =>none
def afld:AV→Nat→Option AV
 | .agg cs,off=>cs[off]?
 | _,_ =>none
def a43:AV→Nat→Nat→Option AV
 | .agg cs,off,n=>if off+n≤cs.length then some (.agg ((cs.drop off).take n)) else none
 | _,_,_ =>none
def a33:AV→Nat→Option AV
 | .ref i k off,o=>some (.ref i k (off+o))
 | .eptr e off,o=>some (.eptr e (off+o))
 | _,_ =>none
def a14 (H:List (Nat×Box)) (sz:Nat):AV→AV→Option AV
 | .seq z es,.int _ n=>if z=sz∧0≤n then (es[n.toNat]?).map (.eptr · 0) else none
 | .arr i k m,.int _ n=>match hget H i with
  | some b=>if b.sz=sz∧0≤n∧n<m then some (.ref i (k+n.toNat) 0) else none
  | none=>none
 | _,_ =>none
def aidx:AV→AV→Option AV
 | .str s,.int _ n=>if 0≤n then (s[n.toNat]?).map (fun b=>.int .u8 b.toNat) else none
 | _,_ =>none
def aslc (z:Nat):AV→Option AV→Option AV→Option AV
 | .str s,lo,hi=>if z=0 then match lo.getD (.int .i64 0),hi.getD (.int .i64 s.length) with
  | .int _ l,.int _ h=>if 0≤l∧l≤h∧h≤s.length then some (.str ((s.drop l.toNat).take (h.toNat - l.toNat))) else none
  | _,_ =>none
  else none
 | .seq sz es,lo,hi=>if z=sz∧0<z then match lo.getD (.int .i64 0),hi.getD (.int .i64 es.length) with
  | .int _ l,.int _ h=>if 0≤l∧l≤h∧h≤es.length then some (.seq sz ((es.drop l.toNat).take (h.toNat - l.toNat))) else none
  | _,_ =>none
  else none
 | _,_,_ =>none
def h15 (H:List (Nat×Box)):AV→Option (List AV×Nat)
 | .ref i k off=>match hget H i with
  | some b=>if 0<b.sz then (b.es[k]?).map fun e=>(e.cells,off) else none
  | none=>none
 | .eptr e off=>some (e.cells,off)
 | _ =>none
def a35 (H:List (Nat×Box)) (p:AV):Option AV:=
 match h15 H p with
 | some (cs,off)=>cs[off]?
 | none=>none
def a18 (H:List (Nat×Box)) (p:AV) (n:Nat):Option AV:=
 match h15 H p with
 | some (cs,off)=>if off+n≤cs.length then some (.agg ((cs.drop off).take n)) else none
 | none=>none
def s18:List AV→Nat→List AV→List AV
 | cs,0,[]=>cs
 | [],_,_ =>[]
 | _ ::cs,0,d::ds=>d::s18 cs 0 ds
 | c::cs,o+1,ds=>c::s18 cs o ds
def c24:AV→Bool
 | .top | .undef | .agg _ | .tup _ =>false
 | _ =>true
def fits (v:AV) (n:Nat):Bool:=match v with
 | .agg cs=>cs.length==n&&cs.all c24
 | v=>n==1&&c24 v
def r18:AV→List AV→Option AV
 | .agg _,cs=>some (.agg cs)
 | _,[x]=>if c24 x then some x else none
 | _,_ =>none
def clean:AV→Bool
 | .arr .. | .ref .. | .mapv _ =>false
 | .agg cs=>go cs
 | .tup cs=>go cs
 | .fn _ cs=>go cs
 | .iface _ v=>clean v
 | _ =>true
where
 go:List AV→Bool
 | []=>true
 | c::cs=>clean c&&go cs
def a23 (st:St) (p v:AV) (n:Nat):Option St:=
 match p with
 | .ref i k off=>match hget st.heap i with
  | some b=>if b.row=true∧(clean v=false∨b.sz=0) then none else match b.es[k]? with
   | some e=>if fits v n∧off+n≤e.cells.length then match r18 e (s18 e.cells off v.cells) with
     | some e'=>some {st with heap:=hset st.heap i {b with es:=b.es.set k e'}}
     | none=>none
    else none
   | none=>none
  | none=>none
 | _ =>none
def a36 (n:Nat):AV→Option AV
 | .eptr (.agg cs) 0=>if cs.length=n∧cs.all c24=true then some (.seq 1 cs) else none
 | _ =>none
def amx (mn:Bool):AV→AV→Option AV
 | .int k a,.int k' b=>if k=k' then some (.int k (if mn then (if b<a then b else a) else (if b>a then b else a))) else none
 | _,_ =>none
def adec (s:List UInt8) (p:Nat):Nat×Nat:=Utf8.decode ⟨s.toArray⟩ p
def anxt (st:St) (d:Option Nat) (x:AV):Option St:=
 match d,x with
 | some d,.ref i 0 0=>match hget st.heap i with
  | some b=>match b.es with
   | [.str s,.int .i64 p]=>if b.row=true∧b.sz=0∧b.ty=0∧0≤p∧d<st.N then
       (if p.toNat<s.length then some {st with env:=(d,.tup [.bool true,.int .i64 p,.int .i32 ((adec s p.toNat).1:Nat)])::st.env,heap:=hset st.heap i {b with es:=[.str s,.int .i64 ((p.toNat+(adec s p.toNat).2:Nat):Int)]}}
        else some {st with env:=(d,.tup [.bool false])::st.env}) else none
   | _ =>none
  | none=>none
 | _,_ =>none
def arng (st:St) (d:Option Nat) (x:AV):Option St:=
 match d,x with
 | some d,.str s=>st.new (some d) ⟨true,0,0,[.str s,.int .i64 0]⟩ (.ref d 0 0)
 | _,_ =>none
def a11:List AV→Option (List UInt8)
 | []=>some []
 | .int .u8 n::r=>match a11 r with | some bs=>some (UInt8.ofNat n.toNat::bs) | none=>none
 | _ =>none
def ab2s (H:List (Nat×Box)):AV→Option AV
 | .nils=>some (.str [])
 | .seq 1 es=>(a11 es).map .str
 | .arr i k n=>match hget H i with
  | some b=>if b.row=true∧b.sz=1∧k+n≤b.es.length then (a11 ((b.es.drop k).take n)).map .str else none
  | none=>none
 | _ =>none
def a28 (sz n:Nat):AV→AV→Option AV
 | .ref i k off,.int _ j=>if 0≤j∧j<n then some (.ref i k (off+j.toNat*sz)) else none
 | .eptr e off,.int _ j=>if 0≤j∧j<n then some (.eptr e (off+j.toNat*sz)) else none
 | _,_ =>none
def a42 (sz n:Nat):AV→AV→Option AV
 | .agg cs,.int _ j=>if 0≤j∧j<n∧sz=1 then cs[j.toNat]? else none
 | _,_ =>none
def amks (st:St) (d:Option Nat) (ty sz bytes:Nat) (z n c:AV):Option St:=
 match d,n,c with
 | some d,.int _ a,.int _ b=>if 0≤a∧a≤b∧b*bytes≤140737488355328 then st.new (some d) ⟨true,ty,sz,List.replicate a.toNat z⟩ (.arr d 0 a.toNat) else none
 | _,_,_ =>none
def evs (G:Nat→Option AV) (st:St):List Opd→List AV
 | []=>[]
 | x::xs=>st.ev G x::evs G st xs
def v11 (H:List (Nat×Box)):List AV→Option (List AV)
 | []=>some []
 | v::vs=>match view H v,v11 H vs with | some x,some xs=>some (x::xs) | _,_ =>none
def r11:List AV→List Nat
 | []=>[]
 | v::vs=>r13 v++r11 vs
def a19 (G:Nat→Option AV) (st:St) (zs:List AV):List (Nat×Nat×Opd)→Option AV
 | []=>some (.agg zs)
 | (off,n,x)::ps=>if fits (st.ev G x) n∧off+n≤zs.length then a19 G st (s18 zs off (st.ev G x).cells) ps else none
def r12 (sz:Nat) (es:List AV):List (Nat×AV)→Option (List AV)
 | []=>some es
 | (i,v)::ps=>if fits v sz∧i<es.length then r12 sz (es.set i v) ps else none
def news (H:List (Nat×Box)) (sz i:Nat):AV→Option (List AV)
 | .seq z es=>if z=sz then some es else none
 | .nils=>some []
 | .arr j k m=>if j=i then none else match hget H j with
  | some b=>if b.row∧b.sz=sz∧k+m≤b.es.length then some ((b.es.drop k).take m) else none
  | none=>none
 | _ =>none
def aapp (st:St) (d:Option Nat) (ty sz bytes:Nat) (x y:AV):Option St:=
 match x with
 | .nils=>match d with
  | some d=>match news st.heap sz d y with
   | some es=>if es.length*bytes≤140737488355328 then st.new (some d) ⟨true,ty,sz,es⟩ (.arr d 0 es.length) else none
   | none=>none
  | none=>none
 | .arr i 0 n=>match d,hget st.heap i,news st.heap sz i y with
  | some d,some b,some es=>
   if b.row=true∧b.ty=ty∧b.sz=sz∧b.es.length=n∧(n+es.length)*bytes≤140737488355328∧d<st.N then
    some {st with env:=(d,.arr i 0 (n+es.length))::p_ i st.env,heap:=hset (p10 i st.heap) i {b with es:=b.es++es}} else none
  | _,_,_ =>none
 | _ =>none
def a34 (H:List (Nat×Box)) (z:Nat) (x:AV) (lo hi:Option AV):Option AV:=
 match x with
 | .arr i k n=>match hget H i with
  | some b=>if b.sz=z∧0<z then match lo.getD (.int .i64 0),hi.getD (.int .i64 n) with
   | .int _ l,.int _ h=>if 0≤l∧l≤h∧h≤n then some (.arr i (k+l.toNat) (h.toNat - l.toNat)) else none
   | _,_ =>none
   else none
  | none=>none
 | x=>aslc z x lo hi
def aclr (st:St) (d:Option Nat) (sz:Nat) (z:AV) (x:AV):Option St:=
 match x with
 | .arr i k n=>match hget st.heap i with
  | some b=>if 0<n∧b.row=true∧0<b.sz∧b.sz=sz∧k+n≤b.es.length then ({st with heap:=hset st.heap i {b with es:=b.es.take k++List.replicate n z++b.es.drop (k+n)}}:St).put d (.tup []) else none
  | none=>none
 | _ =>none
def i13:AV→Bool
 | .agg _ =>true
 | _ =>false
def k13 (ag:Bool) (ks:List Nat) (x y:AV):Option Bool:=if i13 x=ag∧i13 y=ag then aeqs ks x.cells y.cells else none
def k14 (ag:Bool) (ks:List Nat) (x:AV):Bool:=match k13 ag ks x x with | some true=>true | _ =>false
def m_ (ag:Bool) (ks:List Nat) (k:AV):List AV→Nat→Option (Option (Nat×AV))
 | [],_ =>some none
 | .tup [a,b]::r,i=>match k13 ag ks k a with
  | some true=>some (some (i,b))
  | some false=>m_ ag ks k r (i+1)
  | none=>none
 | _ ::_,_ =>none
def mres (ok:Bool) (z:AV):Option (Nat×AV)→AV
 | some (_,v)=>if ok then .tup [v,.bool true] else v
 | none=>if ok then .tup [z,.bool false] else z
def a41 (H:List (Nat×Box)) (ok ag:Bool) (ks:List Nat) (z:AV) (x k:AV):Option AV:=
 match x with
 | .nilm=>if k14 ag ks k=true then some (mres ok z none) else none
 | .mapv i=>match hget H i with
  | some b=>if b.sz=0∧b.ty=1∧k14 ag ks k=true then (m_ ag ks k b.es 0).map (mres ok z) else none
  | none=>none
 | .mapc es=>if k14 ag ks k=true then (m_ ag ks k es 0).map (mres ok z) else none
 | _ =>none
def a39 (H:List (Nat×Box)):AV→Option AV
 | .nilm=>some (.int .i64 0)
 | .mapv i=>match hget H i with
  | some b=>if b.sz=0∧b.ty=1 then some (.int .i64 b.es.length) else none
  | none=>none
 | .mapc es=>some (.int .i64 es.length)
 | _ =>none
def a50 (st:St) (ag:Bool) (ks:List Nat) (x k v:AV):Option St:=
 match x with
 | .mapv i=>match hget st.heap i with
  | some b=>if b.sz=0∧b.ty=1∧k14 ag ks k=true∧clean v=true then match m_ ag ks k b.es 0 with
   | some (some (j,_))=>some {st with heap:=hset st.heap i {b with es:=b.es.set j (.tup [k,v])}}
   | some none=>some {st with heap:=hset st.heap i {b with es:=b.es++[.tup [k,v]]}}
   | none=>none
   else none
  | none=>none
 | _ =>none
def e_ (G:Nat→Option AV) (d:Option Nat) (op:AOp) (st:St):Option St:=
 match op with
 | .mov x=>st.put d (st.ev G x)
 | .nilrow ty sz=>match d with | some d=>st.new (some d) ⟨true,ty,sz,[]⟩ (.arr d 0 0) | none=>none
 | .pick c a b=>(a38 (st.ev G c) (st.ev G a) (st.ev G b)).bind (st.put d)
 | .alloc ty sz z=>match d with | some d=>st.new (some d) ⟨false,ty,sz,[z]⟩ (.ref d 0 0) | none=>none
 | .box ty sz x=>match d with | some d=>if fits (purge d (st.ev G x)) sz then st.new (some d) ⟨false,ty,sz,[purge d (st.ev G x)]⟩ (.ref d 0 0) else none | none=>none
 | .build zs ps=>(a19 G st zs ps).bind (st.put d)
 | .mkrow ty sz n z ps=>match d with
  | some d=>match v11 st.heap (evs G st (ps.map (·.2))) with
   | some vs=>match r12 sz (List.replicate n z) ((ps.map (·.1)).zip vs) with
    | some es=>(st.thaws (r11 (evs G st (ps.map (·.2))))).new (some d) ⟨true,ty,sz,es⟩ (.arr d 0 n)
    | none=>none
   | none=>none
  | none=>none
 | .load p=>(a35 st.heap (st.ev G p)).bind (st.put d)
 | .loadN p n=>(a18 st.heap (st.ev G p) n).bind (st.put d)
 | .store p x n=>a23 st (st.ev G p) (st.ev G x) n
 | .bin op x y=>(abin op (st.ev G x) (st.ev G y)).bind (st.put d)
 | .eqA neg ks x y=>(aeqA neg ks (st.ev G x) (st.ev G y)).bind (st.put d)
 | .eqB neg x y=>(aeqB neg (st.ev G x) (st.ev G y)).bind (st.put d)
 | .eqP neg x y=>(aeqP neg (st.ev G x) (st.ev G y)).bind (st.put d)
 | .un op x=>(aun op (st.ev G x)).bind (st.put d)
 | .conv k x=>(a44 k (st.ev G x)).bind (st.put d)
 | .fld x off=>(afld (st.ev G x) off).bind (st.put d)
 | .fldN x off n=>(a43 (st.ev G x) off n).bind (st.put d)
 | .faddr p off=>(a33 (st.ev G p) off).bind (st.put d)
 | .iaddr sz x i=>(a14 st.heap sz (st.ev G x) (st.ev G i)).bind (st.put d)
 | .idx x i=>(aidx (st.ev G x) (st.ev G i)).bind (st.put d)
 | .slc z x lo hi=>(a34 st.heap z (st.ev G x) (lo.map (st.ev G)) (hi.map (st.ev G))).bind (st.put d)
 | .len b x=>(alen b (st.ev G x)).bind (st.put d)
 | .app ty sz bytes x y=>aapp st d ty sz bytes (st.ev G x) (st.ev G y)
 | .ext x i=>(aext (st.ev G x) i).bind (st.put d)
 | .nchk x=>(a48 (st.ev G x)).bind (st.put d)
 | .mkfn f caps=>st.put d (.fn f (evs G st caps))
 | .mks ty sz bytes z n c=>amks st d ty sz bytes z (st.ev G n) (st.ev G c)
 | .slcG n x=>(a36 n (st.ev G x)).bind (st.put d)
 | .mx mn x y=>(amx mn (st.ev G x) (st.ev G y)).bind (st.put d)
 | .rng x=>arng st d (st.ev G x)
 | .nxt x=>anxt st d (st.ev G x)
 | .b2s x=>(ab2s st.heap (st.ev G x)).bind (st.put d)
 | .iaddrA sz n x i=>(a28 sz n (st.ev G x) (st.ev G i)).bind (st.put d)
 | .idxA sz n x i=>(a42 sz n (st.ev G x) (st.ev G i)).bind (st.put d)
 | .mki t x=>st.put d (.iface t (st.ev G x))
 | .eqI neg x y=>(aeqI neg (st.ev G x) (st.ev G y)).bind (st.put d)
 | .clr sz z x=>aclr st d sz z (st.ev G x)
 | .mkmap=>match d with | some d=>st.new (some d) ⟨true,1,0,[]⟩ (.mapv d) | none=>none
 | .mlen x=>(a39 st.heap (st.ev G x)).bind (st.put d)
 | .mget ok ag ks z x k=>(a41 st.heap ok ag ks z (st.ev G x) (st.ev G k)).bind (st.put d)
 | .mput ag ks x k v=>match d with | none=>a50 st ag ks (st.ev G x) (st.ev G k) (st.ev G v) | some _ =>none
 | .bad | .call _ _ | .callv _ _ | .callB _ _ | .callvB _ _ =>none
end Go.Proofs.YtjbcfpkibnhodaaGreatDoor.Ab
namespace Go.Proofs.YtjbcfpkibnhodaaGreatDoor.Ab
open Go Go.RowKit
theorem Rd.mono {w w':World} {F F':Nat→Prop} {nm:N_} {c:AV} {v:Value} (h:Rd w F nm c v)
  (hw:∀b,F b→w'.heap[b]? =w.heap[b]?) (hF:∀b,F b→F' b):Rd w' F' nm c v:=by
 induction h with
 | top nm v=>exact .top _ _
 | undef nm=>exact .undef _
 | bool nm b=>exact .bool _ _
 | int nm k n=>exact .int _ _ _
 | str nm s=>exact .str _ _
 | agg nm cs us hl h ih=>exact .agg _ _ _ hl ih
 | tup nm cs us hl h ih=>exact .tup _ _ _ hl ih
 | seq0 nm sz a cap=>exact .seq0 _ _ _ _
 | seq nm sz es g o cap u h0 hFg hc hm hs hw' h1 h ih=>
  exact .seq _ _ _ _ _ _ u h0 (hF _ hFg) hc hm hs (fun p hp=>by rw[World.cell?_of_block (w:=w) (hw g hFg)];exact hw' p hp) h1 ih
 | nils nm=>exact .nils _
 | arr nm i k n m hi hn hp=>exact .arr _ _ _ _ _ hi hn hp
 | arrE nm i k a cap hk=>exact .arrE _ _ _ _ _ hk
 | arrN nm i=>exact .arrN _ _
 | ref nm i k off m hi=>exact .ref _ _ _ _ _ hi
 | eptr nm e off g o u hFg hw' h1 h ih=>
  exact .eptr _ _ _ _ _ u (hF _ hFg) (fun p hp=>by rw[World.cell?_of_block (w:=w) (hw g hFg)];exact hw' p hp) h1 ih
 | nilp nm=>exact .nilp _
 | fn nm f cs us hl h ih=>exact .fn _ _ _ _ hl ih
 | nilfn nm=>exact .nilfn _
 | nili nm=>exact .nili _
 | iface nm t c u h ih=>exact .iface _ _ _ _ ih
 | mapv nm i m hi=>exact .mapv _ _ _ hi
 | nilm nm=>exact .nilm _
 | rawp nm b o=>exact .rawp _ _ _
 | mapc nm es g ents clock hFg hh hl ht hk hv ihk ihv=>exact .mapc _ _ _ ents clock (hF _ hFg) (by rw[hw _ hFg];exact hh) hl ht ihk ihv
theorem purge.go_len (i:Nat) (cs:List AV):(purge.go i cs).length=cs.length:=by
 induction cs with
 | nil=>rfl
 | cons c cs ih=>simp [purge.go,ih]
theorem purge.go_at (i:Nat) (cs:List AV) (j:Nat):(purge.go i cs)[j]? =cs[j]?.map (purge i):=by
 induction cs generalizing j with
 | nil=>simp [purge.go]
 | cons c cs ih=>cases j <;> simp [purge.go,ih]
theorem Rd.purge {w:World} {F:Nat→Prop} {nm nm':N_} {c:AV} {v:Value} {i:Nat} (h:Rd w F nm c v)
  (hn:∀j,j≠i→nm' j=nm j):Rd w F nm' (purge i c) v:=by
 induction h with
 | top nm v=>exact .top _ _
 | undef nm=>exact .undef _
 | bool nm b=>exact .bool _ _
 | int nm k n=>exact .int _ _ _
 | str nm s=>exact .str _ _
 | agg nm cs us hl h ih=>
  refine .agg _ _ _ (by rw[purge.go_len];exact hl) fun j c u hc hu=>?_
  rw[purge.go_at] at hc
  obtain⟨c',hc',rfl⟩:=Option.map_eq_some_iff.1 hc
  exact ih j c' u hc' hu hn
 | tup nm cs us hl h ih=>
  refine .tup _ _ _ (by rw[purge.go_len];exact hl) fun j c u hc hu=>?_
  rw[purge.go_at] at hc
  obtain⟨c',hc',rfl⟩:=Option.map_eq_some_iff.1 hc
  exact ih j c' u hc' hu hn
 | seq0 nm sz a cap=>exact .seq0 _ _ _ _
 | seq nm sz es g o cap u h0 hFg hc hm hs hw' h1 h ih=>exact .seq _ _ _ _ _ _ u h0 hFg hc hm hs hw' h1 h
 | nils nm=>exact .nils _
 | arr nm j k n m hi hk hp=>
  unfold Ab.purge
  split
  ·exact .top _ _
  ·rename_i hne;exact .arr _ _ _ _ _ (by rw[hn j hne];exact hi) hk hp
 | arrE nm j k a cap hk=>
  unfold Ab.purge
  split
  ·exact .top _ _
  ·exact .arrE _ _ _ _ _ hk
 | arrN nm j=>
  unfold Ab.purge
  split
  ·exact .top _ _
  ·exact .arrN _ _
 | ref nm j k off m hi=>
  unfold Ab.purge
  split
  ·exact .top _ _
  ·rename_i hne;exact .ref _ _ _ _ _ (by rw[hn j hne];exact hi)
 | eptr nm e off g o u hFg hw' h1 h ih=>exact .eptr _ _ _ _ _ u hFg hw' h1 h
 | nilp nm=>exact .nilp _
 | fn nm f cs us hl h ih=>
  refine .fn _ _ _ _ (by rw[purge.go_len];exact hl) fun j c u hc hu=>?_
  rw[purge.go_at] at hc
  obtain⟨c',hc',rfl⟩:=Option.map_eq_some_iff.1 hc
  exact ih j c' u hc' hu hn
 | nilfn nm=>exact .nilfn _
 | nili nm=>exact .nili _
 | iface nm t c u h ih=>exact .iface _ _ _ _ (ih hn)
 | mapv nm j m hi=>
  unfold Ab.purge
  split
  ·exact .top _ _
  ·rename_i hne;exact .mapv _ _ _ (by rw[hn j hne];exact hi)
 | nilm nm=>exact .nilm _
 | rawp nm b o=>exact .rawp _ _ _
 | mapc nm es g ents clock hFg hh hl ht hk hv ihk ihv=>exact .mapc _ _ _ ents clock hFg hh hl ht hk hv
theorem Rd.named {w:World} {F:Nat→Prop} {nm:N_} {c:AV} {v:Value} (h:Rd w F nm c v) (hz:∀j,nm j=none) (nm':N_):Rd w F nm' c v:=by
 induction h with
 | top nm v=>exact .top _ _
 | undef nm=>exact .undef _
 | bool nm b=>exact .bool _ _
 | int nm k n=>exact .int _ _ _
 | str nm s=>exact .str _ _
 | agg nm cs us hl h ih=>exact .agg _ _ _ hl fun j c u hc hu=>ih j c u hc hu hz
 | tup nm cs us hl h ih=>exact .tup _ _ _ hl fun j c u hc hu=>ih j c u hc hu hz
 | seq0 nm sz a cap=>exact .seq0 _ _ _ _
 | seq nm sz es g o cap u h0 hFg hc hm hs hw' h1 h ih=>exact .seq _ _ _ _ _ _ u h0 hFg hc hm hs hw' h1 h
 | nils nm=>exact .nils _
 | arr nm j k n m hi hk hp=>rw[hz] at hi;cases hi
 | arrE nm j k a cap hk=>exact .arrE _ _ _ _ _ hk
 | arrN nm j=>exact .arrN _ _
 | ref nm j k off m hi=>rw[hz] at hi;cases hi
 | eptr nm e off g o u hFg hw' h1 h ih=>exact .eptr _ _ _ _ _ u hFg hw' h1 h
 | nilp nm=>exact .nilp _
 | fn nm f cs us hl h ih=>exact .fn _ _ _ _ hl fun j c u hc hu=>ih j c u hc hu hz
 | nilfn nm=>exact .nilfn _
 | nili nm=>exact .nili _
 | iface nm t c u h ih=>exact .iface _ _ _ _ (ih hz)
 | mapv nm j m hi=>rw[hz] at hi;cases hi
 | nilm nm=>exact .nilm _
 | rawp nm b o=>exact .rawp _ _ _
 | mapc nm es g ents clock hFg hh hl ht hk hv ihk ihv=>exact .mapc _ _ _ ents clock hFg hh hl ht hk hv
theorem Rd.any {w:World} {F:Nat→Prop} {c:AV} {v:Value} (h:Rd w F n10 c v) (nm:N_):Rd w F nm c v:=h.named (fun _ =>rfl) nm
theorem Rd.cells_len {w:World} {F:Nat→Prop} {nm:N_} {c:AV} {v:Value} (h:Rd w F nm c v) (ht:c≠ .top):c.cells.length=v.cells.size:=by
 cases h <;> first | rfl | (exact absurd rfl ht) | skip
 case agg us hl h=>simp [AV.cells,Value.cells,hl]
theorem Rd.cell_at {w:World} {F:Nat→Prop} {nm:N_} {c:AV} {v:Value} (h:Rd w F nm c v) (ht:c≠ .top) {j:Nat} {x:AV} (hx:c.cells[j]? =some x):
  ∃u,v.cells[j]? =some u∧Rd w F nm x u:=by
 have one:∀{c:AV} {v:Value},Rd w F nm c v→c.cells=[c]→v.cells=#[v]→c.cells[j]? =some x→∃u,v.cells[j]? =some u∧Rd w F nm x u:=by
  intro c v h e1 e2 hx
  rw[e1] at hx
  match j,hx with
  | 0,hx=>simp at hx;subst hx;exact⟨v,by rw[e2];rfl,h⟩
  | j+1,hx=>simp at hx
 cases hc:c with
 | agg cs=>
  subst hc
  cases h with
  | agg _ _ us hl h=>
   simp only[AV.cells] at hx
   have hj:j<cs.length:=(List.getElem?_eq_some_iff.1 hx).1
   rw[hl] at hj
   exact⟨us[j],by simp [Value.cells,hj],h j x _ hx (List.getElem?_eq_getElem hj)⟩
 | top=>exact absurd hc ht
 | _ =>
  subst hc
  refine one h rfl ?_ hx
  cases h <;> rfl
end Go.Proofs.YtjbcfpkibnhodaaGreatDoor.Ab
namespace Go.Proofs.YtjbcfpkibnhodaaGreatDoor.Ab
open Go Go.RowKit
theorem hh_ (H:List (Nat×Box)) (i j:Nat) (b:Box):hget (hset H i b) j=if i=j then some b else hget H j:=by
 induction H with
 | nil=>simp [hset,hget]
 | cons x r ih=>
  obtain⟨k,c⟩:=x
  simp only[hset]
  split
  ·rename_i h;subst h;simp only[hget];split <;> rfl
  ·rename_i h
   simp only[hget,ih]
   split
   ·rename_i h2;subst h2;rw[if_neg (fun e=>h e.symm)]
   ·rfl
theorem hp_ (H:List (Nat×Box)) (i j:Nat):hget (p10 i H) j=if j=i then none else (hget H j).map (p11 i):=by
 induction H with
 | nil=>simp [p10,hget]
 | cons x r ih=>
  obtain⟨k,c⟩:=x
  simp only[p10]
  split
  ·rename_i h;subst h;rw[ih];simp only[hget];split
   ·rfl
   ·rename_i h2;rw[if_neg (fun e=>h2 e.symm)]
  ·rename_i h
   simp only[hget,ih]
   split
   ·rename_i h2;subst h2;rw[if_neg h];rfl
   ·rfl
theorem ht10 (H:List (Nat×Box)) (i j:Nat) (b:Box):hget (t24 i b H) j=if j=i then none else (hget H j).map (t22 i b):=by
 induction H with
 | nil=>simp [t24,hget]
 | cons x r ih=>
  obtain⟨k,c⟩:=x
  simp only[t24]
  split
  ·rename_i h;subst h;rw[ih];simp only[hget];split
   ·rfl
   ·rename_i h2;rw[if_neg (fun e=>h2 e.symm)]
  ·rename_i h
   simp only[hget,ih]
   split
   ·rename_i h2;subst h2;rw[if_neg h];rfl
   ·rfl
theorem ep_ (E:List (Nat×AV)) (i t:Nat):eget (p_ i E) t=purge i (eget E t):=by
 induction E with
 | nil=>simp [p_,eget,purge]
 | cons x r ih=>obtain⟨k,c⟩:=x;simp only[p_,eget,ih];split <;> rfl
theorem et12 (E:List (Nat×AV)) (i t:Nat) (b:Box):eget (t25 i b E) t=thaw i b (eget E t):=by
 induction E with
 | nil=>simp [t25,eget,thaw]
 | cons x r ih=>obtain⟨k,c⟩:=x;simp only[t25,eget,ih];split <;> rfl
theorem et11 (st:St) (ts:List Nat) (t:Nat):eget (st.trimE ts) t= .top∨eget (st.trimE ts) t=eget st.env t:=by
 induction ts with
 | nil=>exact .inl rfl
 | cons x ts ih=>
  simp only[St.trimE,eget]
  split
  ·rename_i h;subst h;exact .inr rfl
  ·exact ih
theorem ht13 (st:St) (is:List Nat) (i:Nat) (b:Box) (h:hget (st.trimH is) i=some b):hget st.heap i=some b:=by
 induction is with
 | nil=>simp [St.trimH,hget] at h
 | cons x is ih=>
  simp only[St.trimH] at h
  split at h
  ·rename_i c hc
   simp only[hget] at h
   split at h
   ·rename_i e;subst e;rw[hc];exact h
   ·exact ih h
  ·exact ih h
theorem hf_ (N:Nat) (H:List (Nat×Box)) (i:Nat) (b:Box) (h:hget (f14 N H) i=some b):hget H i=some b:=by
 induction H with
 | nil=>simp [f14,hget] at h
 | cons x r ih=>
  obtain⟨j,c⟩:=x
  simp only[f14] at h
  split at h
  ·simp only[hget] at h ⊢
   split
   ·rename_i e;rw[if_pos e] at h;exact h
   ·rename_i e;rw[if_neg e] at h;exact ih h
  ·rename_i hn
   simp only[hget]
   split
   ·rename_i e
    subst e
    exfalso
    have:∀(r:List (Nat×Box)),hget (f14 N r) j=none:=by
     intro r
     induction r with
     | nil=>rfl
     | cons y r ihr=>
      obtain⟨k,d⟩:=y
      simp only[f14]
      split
      ·rename_i hk
       simp only[hget]
       rw[if_neg (fun (e:k=j)=>hn (e ▸ hk))]
       exact ihr
      ·exact ihr
    rw[this] at h
    cases h
   ·exact ih h
theorem hh10 (l r:List (Nat×Box)) (i:Nat):hget (happ l r) i=match hget l i with | some b=>some b | none=>hget r i:=by
 induction l with
 | nil=>rfl
 | cons x l ih=>
  obtain⟨j,c⟩:=x
  simp only[happ,hget,ih]
  split <;> rfl
theorem ht_ (st:St) (kt kb:List Nat) (i:Nat) (b:Box) (h:hget (st.trim kt kb).heap i=some b):hget st.heap i=some b:=by
 simp only[St.trim,hh10] at h
 split at h
 ·rename_i c hc;rw[h] at hc;exact ht13 _ _ _ _ hc
 ·exact hf_ _ _ _ _ h
def L_ (w:World) (F:Nat→Prop) (nm:N_) (m:Nm) (b:Box):Prop:=
 m.sz=b.sz∧m.ty=b.ty∧0<b.sz∧∃cs:Array Value,w.heap[m.g]? =some (.cells cs m.ty (0,0))∧cs.size=m.cap*m.sz∧b.es.length≤m.cap∧m.cap≤maxLen∧
  (∀e∈b.es,e.cells.length=b.sz)∧
  ∀(k:Nat) e (j:Nat) c,b.es[k]? =some e→e.cells[j]? =some c→∃u,cs[k*m.sz+j]? =some u∧u.oneCell'=true∧Rd w F (if b.row then n10 else nm) c u
def MapR (w:World) (F:Nat→Prop) (m:Nm) (b:Box):Prop:=
 ∃(ents:Array MapEntry) (clock:Nat),w.heap[m.g]? =some (.map ents clock)∧ents.size=b.es.length∧(∀e∈ents.toList,e.born<clock)∧(ents.toList.map (·.born)).Nodup∧
  ∀(j:Nat) e,ents[j]? =some e→∃k v,b.es[j]? =some (.tup [k,v])∧Rd w F n10 k e.key∧Rd w F n10 v e.val
def L10 (w:World) (F:Nat→Prop) (m:Nm) (b:Box):Prop:=
 b.sz=0∧b.row=true∧m.sz=0∧((b.ty=0∧∃(s:List UInt8) (p:Nat),b.es=[.str s,.int .i64 p]∧w.heap[m.g]? =some (.stringIter ⟨s.toArray⟩ p))∨(b.ty≠0∧MapR w F m b))
def Lies (w:World) (F:Nat→Prop) (nm:N_) (m:Nm) (b:Box):Prop:=L_ w F nm m b∨L10 w F m b
theorem Lies.c {w:World} {F:Nat→Prop} {nm:N_} {m:Nm} {b:Box} (h:Lies w F nm m b) (h0:0<b.sz):L_ w F nm m b:=by
 rcases h with h | h
 ·exact h
 ·exact absurd h.1 (by omega)
theorem Lies.v {w:World} {F:Nat→Prop} {nm:N_} {m:Nm} {b:Box} (h:Lies w F nm m b) (h0:b.row≠true):L_ w F nm m b:=by
 rcases h with h | h
 ·exact h
 ·exact absurd h.2.1 h0
theorem Lies.there {w:World} {F:Nat→Prop} {nm:N_} {m:Nm} {b:Box} (h:Lies w F nm m b):m.g<w.heap.size:=by
 rcases h with ⟨_,_,_,cs,hcs,_⟩ | ⟨_,_,_,⟨_,s,p,_,hs⟩ | ⟨_,e,c,hm,_⟩⟩
 ·exact (Array.getElem?_eq_some_iff.1 hcs).1
 ·exact (Array.getElem?_eq_some_iff.1 hs).1
 ·exact (Array.getElem?_eq_some_iff.1 hm).1
theorem L10.mono {w w':World} {F F':Nat→Prop} {m:Nm} {b:Box} (h:L10 w F m b) (hb:w'.heap[m.g]? =w.heap[m.g]?)
  (hw:∀b,F b→w'.heap[b]? =w.heap[b]?) (hF:∀b,F b→F' b):L10 w' F' m b:=by
 obtain⟨h1,h2,h3,⟨h4,s,p,h5,h6⟩ | ⟨h4,e,c,h5,h6,h7,h8,h9⟩⟩:=h
 ·exact⟨h1,h2,h3,.inl ⟨h4,s,p,h5,by rw[hb];exact h6⟩⟩
 ·exact⟨h1,h2,h3,.inr ⟨h4,e,c,by rw[hb];exact h5,h6,h7,h8,fun j x hx=>let ⟨k,v,a1,a2,a3⟩:=h9 j x hx;⟨k,v,a1,a2.mono hw hF,a3.mono hw hF⟩⟩⟩
def BoxR (w:World) (F:Nat→Prop) (nm:N_) (i:Nat) (b:Box):Prop:=
 (nm i=none∧b.es=[]∧b.row=true∧0<b.sz)∨∃m,nm i=some m∧Lies w F nm m b
theorem Lies.mono {w w':World} {F F':Nat→Prop} {nm:N_} {m:Nm} {b:Box} (h:Lies w F nm m b) (hb:w'.heap[m.g]? =w.heap[m.g]?)
  (hw:∀b,F b→w'.heap[b]? =w.heap[b]?) (hF:∀b,F b→F' b):Lies w' F' nm m b:=by
 rcases h with h | h
 case inr=>exact .inr (h.mono hb hw hF)
 obtain⟨h1,h2,h3,cs,h4,h5,h6,h7,h8,h9⟩:=h
 refine .inl ⟨h1,h2,h3,cs,by rw[hb];exact h4,h5,h6,h7,h8,fun k e j c he hc=>?_⟩
 obtain⟨u,hu,hu1,hr⟩:=h9 k e j c he hc
 exact⟨u,hu,hu1,hr.mono hw hF⟩
theorem purge.go_cells (i:Nat) (e:AV):(purge i e).cells=purge.go i e.cells:=by
 cases e <;> first | rfl | (rename_i j k n;by_cases h:j=i <;> simp [purge,AV.cells,purge.go,h];done) | (rename_i j;by_cases h:j=i <;> simp [purge,AV.cells,purge.go,h])
theorem purge.cells_len (i:Nat) (e:AV):(purge i e).cells.length=e.cells.length:=by rw[purge.go_cells,purge.go_len]
theorem Lies.purge {w:World} {F:Nat→Prop} {nm nm':N_} {m:Nm} {b:Box} {i:Nat} (h:Lies w F nm m b) (hn:∀j,j≠i→nm' j=nm j):Lies w F nm' m (p11 i b):=by
 rcases h with h | h
 case inr=>exact .inr (by simp only[p11,h.2.1,if_true];exact h)
 obtain⟨h1,h2,h3,cs,h4,h5,h6,h7,h8,h9⟩:=h
 unfold p11
 split
 ·rename_i hr
  refine .inl ⟨h1,h2,h3,cs,h4,h5,h6,h7,h8,fun k e j c he hc=>?_⟩
  obtain⟨u,hu,hu1,hrd⟩:=h9 k e j c he hc
  rw[if_pos hr] at hrd ⊢
  exact⟨u,hu,hu1,hrd⟩
 ·rename_i hr
  refine .inl ⟨h1,h2,h3,cs,h4,h5,by simpa [purge.go_len] using h6,h7,fun e he=>?_,fun k e j c he hc=>?_⟩
  ·obtain⟨k,hk⟩:=List.getElem?_of_mem he
   rw[purge.go_at] at hk
   obtain⟨e',he',rfl⟩:=Option.map_eq_some_iff.1 hk
   rw[purge.cells_len]
   exact h8 e' (List.mem_of_getElem? he')
  ·simp only at he
   rw[purge.go_at] at he
   obtain⟨e',he',rfl⟩:=Option.map_eq_some_iff.1 he
   rw[purge.go_cells,purge.go_at] at hc
   obtain⟨c',hc',rfl⟩:=Option.map_eq_some_iff.1 hc
   obtain⟨u,hu,hu1,hrd⟩:=h9 k e' j c' he' hc'
   simp only[hr] at hrd ⊢
   exact⟨u,hu,hu1,hrd.purge hn⟩
structure Ctx where
 w0:World
 F:Nat→Prop
 L:Nat→Prop
 V:Nat→Prop
 n0:N_
structure Kept (C:Ctx) (w:World):Prop where
 os:w.os=C.w0.os
 tape:w.tape=C.w0.tape
 output:w.output=C.w0.output
 size:C.w0.heap.size≤w.heap.size
 block:∀b,b<C.w0.heap.size→¬C.L b→w.heap[b]? =C.w0.heap[b]?
def W_ (w:World) (g:Nat) (e:AV):Prop:=∃arr t fz,w.heap[g]? =some (.cells arr t fz)∧arr.size=e.cells.length
def Good (w:World) (F:Nat→Prop) (G:Nat→Option AV):Prop:=
 (∀b,F b→b<w.heap.size)∧∀g e,G g=some e→Rd w F n10 (.eptr e 0) (.pointer (some ⟨g,0,none⟩))∧W_ w g e
theorem Rd.eptr_F {w:World} {F:Nat→Prop} {nm:N_} {e:AV} {off g o:Nat} (h:Rd w F nm (.eptr e off) (.pointer (some ⟨g,o,none⟩))):F g:=by
 cases h
 assumption
structure RelX (G:Nat→Option AV) (C:Ctx) (nm:N_) (F:Nat→Prop) (st:St) (a:Act) (w:World):Prop where
 N:a.tmps.size=st.N
 df:a.defers=[]
 env:∀t,Rd w F nm (st.get t) (a.tmps.getD t undef)
 box:∀i b,hget st.heap i=some b→BoxR w F nm i b
 inj:∀i j b c m m',hget st.heap i=some b→hget st.heap j=some c→nm i=some m→nm j=some m'→m.g=m'.g→i=j
 fr:∀i b m,hget st.heap i=some b→nm i=some m→¬F m.g
 own:∀i b m,hget st.heap i=some b→nm i=some m→C.w0.heap.size≤m.g∨C.L m.g
 good:Good w F G
 f0:∀b,C.F b→F b
 fb:∀b,F b→C.F b∨C.w0.heap.size≤b∨C.L b
 keep:Kept C w
 vn:∀i,C.V i→st.N≤i∧nm i=C.n0 i∧∀b,hget st.heap i=some b→b.row=false
def Rel (G:Nat→Option AV) (C:Ctx) (st:St) (a:Act) (w:World):Prop:=∃nm F,RelX G C nm F st a w
section
variable {G:Nat→Option AV} {C:Ctx} {nm:N_} {F:Nat→Prop} {st:St} {a:Act} {w:World}
abbrev upd (nm:N_) (d:Nat) (m:Option Nm):N_:=fun j=>if j=d then m else nm j
theorem Good.mono {w':World} {F':Nat→Prop} (h:Good w F G) (hw:∀b,F b→w'.heap[b]? =w.heap[b]?) (hF:∀b,F b→F' b) (hs:∀b,F' b→b<w'.heap.size):Good w' F' G:=
 ⟨hs,fun g e he=>⟨(h.2 g e he).1.mono hw hF,by
  obtain⟨arr,t,fz,h1,h2⟩:=(h.2 g e he).2
  exact⟨arr,t,fz,by rw[hw g (h.2 g e he).1.eptr_F];exact h1,h2⟩⟩⟩
theorem gp_ (tmps:Array Value) (d t:Nat) (v:Value) (hd:d<tmps.size):(tmps.setIfInBounds d v).getD t undef=if d=t then v else tmps.getD t undef:=by
 simp only[Array.getD_eq_getD_getElem?,Array.getElem?_setIfInBounds,hd,if_true]
 split
 ·rename_i h;subst h;first | rfl | (rw[if_pos hd];rfl)
 ·rfl
theorem RelX.ev (h:RelX G C nm F st a w) {x:Operand} {y:Opd} (hx:match x,y with | .tmp t,.t n=>t=n | .func f,.f n=>f=n | .global g,.g n=>g=n | .const v,.k c=>∀w F nm,Rd w F nm c v | _,_ =>False):
  Rd w F nm (st.ev G y) (a.eval x):=by
 cases x <;> cases y <;> simp only at hx
 ·subst hx;exact h.env _
 ·exact hx _ _ _
 ·subst hx
  simp only[St.ev,Act.eval]
  split
  ·rename_i e he;exact (h.good.2 _ e he).1.any nm
  ·exact .top _ _
 ·subst hx
  exact Rd.fn nm _ [] [] rfl (by simp)
theorem RelX.put (h:RelX G C nm F st a w) {d:Option Nat} {c:AV} {v:Value} (hv:Rd w F nm c v) {st':St} (hp:st.put d c=some st'):RelX G C nm F st' (a.put d v) w:=by
 cases d with
 | none=>simp only[St.put,Option.some.injEq] at hp;subst hp;exact h
 | some d=>
  simp only[St.put] at hp
  split at hp
  ·rename_i hd
   simp only[Option.some.injEq] at hp
   subst hp
   refine⟨by simp [Act.put,h.N],h.df,fun t=>?_,h.box,h.inj,h.fr,h.own,h.good,h.f0,h.fb,h.keep,h.vn⟩
   simp only[Act.put,St.get,eget]
   rw[gp_ _ _ _ _ (by rw[h.N];exact hd)]
   split
   ·exact hv
   ·exact h.env t
  ·cases hp
theorem RelX.world (h:RelX G C nm F st a w) {w':World} {F':Nat→Prop} (hk:Kept C w') (hF:∀b,F b→F' b) (hF':∀b,F' b→F b∨w.heap.size≤b) (hs:∀b,F' b→b<w'.heap.size)
  (hw:∀b,b<w.heap.size→w'.heap[b]? =w.heap[b]?):RelX G C nm F' st a w':=by
 have hFw:∀b,F b→w'.heap[b]? =w.heap[b]? :=fun b hb=>hw b (h.good.1 b hb)
 have lt:∀i b m,hget st.heap i=some b→nm i=some m→m.g<w.heap.size:=fun i b m hi hm=>by
  rcases h.box i b hi with ⟨hn,_⟩ | ⟨m',hm',hl⟩
  ·rw[hm] at hn;cases hn
  ·rw[hm] at hm';cases hm';exact hl.there
 refine⟨h.N,h.df,fun t=>(h.env t).mono hFw hF,fun i b hi=>?_,h.inj,fun i b m hi hm hf=>?_,h.own,h.good.mono hFw hF hs,fun b hb=>hF b (h.f0 b hb),fun b hb=>?_,hk,h.vn⟩
 ·rcases h.box i b hi with hn | ⟨m,hm,hl⟩
  ·exact .inl hn
  ·exact .inr ⟨m,hm,hl.mono (hw _ (lt i b m hi hm)) hFw hF⟩
 ·rcases hF' _ hf with h1 | h1
  ·exact h.fr i b m hi hm h1
  ·have:=lt i b m hi hm;omega
 ·rcases hF' b hb with h1 | h1
  ·exact h.fb b h1
  ·right;left;have:=h.keep.size;omega
theorem RelX.trim (h:RelX G C nm F st a w) (kt kb:List Nat):RelX G C nm F (st.trim kt kb) a w:=by
 refine⟨h.N,h.df,fun t=>?_,fun i b hi=>h.box i b (ht_ _ _ _ _ _ hi),fun i j b c m m' hi hj=>h.inj i j b c m m' (ht_ _ _ _ _ _ hi) (ht_ _ _ _ _ _ hj),
  fun i b m hi=>h.fr i b m (ht_ _ _ _ _ _ hi),fun i b m hi=>h.own i b m (ht_ _ _ _ _ _ hi),h.good,h.f0,h.fb,h.keep,fun i hi=>⟨(h.vn i hi).1,(h.vn i hi).2.1,fun b hb=>(h.vn i hi).2.2 b (ht_ _ _ _ _ _ hb)⟩⟩
 rcases et11 st kt t with e | e
 ·simp only[St.get,St.trim,e];exact .top _ _
 ·simp only[St.get,St.trim,e];exact h.env t
theorem RelX.trimEnv (h:RelX G C nm F st a w) (kt:List Nat):RelX G C nm F {st with env:=st.trimE kt} a w:=by
 refine⟨h.N,h.df,fun t=>?_,h.box,h.inj,h.fr,h.own,h.good,h.f0,h.fb,h.keep,h.vn⟩
 rcases et11 st kt t with e | e
 ·simp only[St.get,e];exact .top _ _
 ·simp only[St.get,e];exact h.env t
theorem RelX.new (h:RelX G C nm F st a w) {d:Nat} {b:Box} {c:AV} {st':St} (hp:st.new (some d) b c=some st') {w':World} {v:Value} {m:Option Nm}
  (hk:Kept C w') (hw:∀k,k<w.heap.size→w'.heap[k]? =w.heap[k]?) (hs:w.heap.size≤w'.heap.size)
  (hm:∀m',m=some m'→w.heap.size≤m'.g)
  (hv:Rd w' F (upd nm d m) c v)
  (hb:BoxR w' F (upd nm d m) d b):RelX G C (upd nm d m) F st' (a.put (some d) v) w':=by
 have h':RelX G C nm F st a w':=h.world hk (fun _ h=>h) (fun _ h=>.inl h) (fun b hb=>Nat.lt_of_lt_of_le (h.good.1 b hb) hs) hw
 have hn:∀j,j≠d→upd nm d m j=nm j:=fun j hj=>if_neg hj
 simp only[St.new] at hp
 split at hp
 ·rename_i hd
  simp only[Option.some.injEq] at hp
  subst hp
  have get:∀i c,hget ((d,b)::p10 d st.heap) i=some c→(i=d∧c=b)∨(i≠d∧∃c',hget st.heap i=some c'∧c=p11 d c'):=by
   intro i c hi
   simp only[hget] at hi
   split at hi
   ·rename_i e;subst e;left;simp only[Option.some.injEq] at hi;exact⟨rfl,hi.symm⟩
   ·rename_i e
    rw[hp_,if_neg (fun x=>e x.symm)] at hi
    obtain⟨c',hc',rfl⟩:=Option.map_eq_some_iff.1 hi
    exact .inr ⟨fun x=>e x.symm,c',hc',rfl⟩
  have lt:∀i b m,hget st.heap i=some b→nm i=some m→m.g<w.heap.size:=fun i b m hi hm=>by
   rcases h.box i b hi with ⟨hn,_⟩ | ⟨m',hm',hl⟩
   ·rw[hm] at hn;cases hn
   ·rw[hm] at hm';cases hm';exact hl.there
  refine⟨by simp [Act.put,h.N],h.df,fun t=>?_,fun i c hi=>?_,fun i j c e m1 m2 hi hj h1 h2 hg=>?_,fun i c m1 hi h1 hf=>?_,fun i c m1 hi h1=>?_,h'.good,h.f0,h.fb,hk,fun i hi=>?_⟩
  ·simp only[Act.put,St.get,eget]
   rw[gp_ _ _ _ _ (by rw[h.N];exact hd)]
   split
   ·exact hv
   ·rw[ep_];exact (h'.env t).purge hn
  ·rcases get i c hi with ⟨rfl,rfl⟩ | ⟨hne,c',hc',rfl⟩
   ·exact hb
   ·rcases h'.box i c' hc' with ⟨e1,e2,e3,e4⟩ | ⟨m1,e1,hl⟩
    ·left
     refine⟨by simp [upd,hne,e1],?_,?_,?_⟩ <;> simp [p11,e2,e3,e4]
    ·exact .inr ⟨m1,by simp [upd,hne,e1],hl.purge hn⟩
  ·rcases get i c hi with ⟨rfl,rfl⟩ | ⟨hne,c',hc',rfl⟩ <;> rcases get j e hj with ⟨rfl,rfl⟩ | ⟨hne2,e',he',rfl⟩
   ·rfl
   ·simp only[upd,hne2,if_true,if_false] at h1 h2
    have:=hm m1 h1
    have:=lt j e' m2 he' h2
    omega
   ·simp only[upd,hne,if_true,if_false] at h1 h2
    have:=hm m2 h2
    have:=lt i c' m1 hc' h1
    omega
   ·simp only[upd,hne,hne2,if_false] at h1 h2
    exact h.inj i j c' e' m1 m2 hc' he' h1 h2 hg
  ·rcases get i c hi with ⟨rfl,rfl⟩ | ⟨hne,c',hc',rfl⟩
   ·simp only[upd,if_true] at h1
    have:=hm m1 h1
    have:=h.good.1 _ hf
    omega
   ·simp only[upd,hne,if_false] at h1
    exact h.fr i c' m1 hc' h1 hf
  ·rcases get i c hi with ⟨rfl,rfl⟩ | ⟨hne,c',hc',rfl⟩
   ·simp only[upd,if_true] at h1
    left
    have:=hm m1 h1
    have:=h.keep.size
    omega
   ·simp only[upd,hne,if_false] at h1
    exact h.own i c' m1 hc' h1
  ·obtain⟨v1,v2,v3⟩:=h.vn i hi
   have hne:i≠d:=fun e=>by omega
   refine⟨v1,by simp only[upd,hne,if_false];exact v2,fun c hc=>?_⟩
   rcases get i c hc with ⟨e,_⟩ | ⟨_,c',hc',rfl⟩
   ·exact absurd e hne
   ·have:=v3 c' hc'
    simp [p11,this]
 ·cases hp
end
end Go.Proofs.YtjbcfpkibnhodaaGreatDoor.Ab
