/-
  The operations of straight-line code on abstract states. No claim is proved here.
-/
import Derived.Test.YtkejmcgngblfnaaGreatDoorYAbDefs
namespace Go.Proofs.YtkejmcgngblfnaaGreatDoor.Ab
open Go
inductive AOp where
 | mov (x:Opd)
 | nilrow (ty sz:Nat)
 | pick (c a b:Opd)
 | alloc (ty sz:Nat) (z:AV)
 | box (ty sz:Nat) (x:Opd)
 | build (zs:List AV) (parts:List (Nat×Nat×Opd))
 | mkrow (ty sz n:Nat) (z:AV) (parts:List (Nat×Opd))
 | load (p:Opd)
 | loadN (p:Opd) (n:Nat)
 | store (p x:Opd) (n:Nat)
 | bin (op:BinOp) (x y:Opd)
 | eqA (neg:Bool) (ks:List Nat) (x y:Opd)
 | eqB (neg:Bool) (x y:Opd)
 | eqP (neg:Bool) (x y:Opd)
 | un (op:UnOp) (x:Opd)
 | conv (k:IntKind) (x:Opd)
 | fld (x:Opd) (off:Nat)
 | fldN (x:Opd) (off n:Nat)
 | faddr (p:Opd) (off:Nat)
 | iaddr (sz:Nat) (x i:Opd)
 | idx (x i:Opd)
 | slc (sz:Nat) (x:Opd) (lo hi:Option Opd)
 | len (isStr:Bool) (x:Opd)
 | app (ty sz bytes:Nat) (x y:Opd)
 | ext (x:Opd) (i:Nat)
 | nchk (x:Opd)
 | mkfn (f:Nat) (caps:List Opd)
 | call (f:Nat) (args:List Opd)
 | callv (x:Opd) (args:List Opd)
 | callB (f:Nat) (args:List Opd)
 | callvB (x:Opd) (args:List Opd)
 | bad
 | mks (ty sz bytes:Nat) (z:AV) (n c:Opd)
 | slcG (n:Nat) (x:Opd)
 | mx (mn:Bool) (x y:Opd)
 | rng (x:Opd)
 | nxt (x:Opd)
 | b2s (x:Opd)
 | iaddrA (sz n:Nat) (x i:Opd)
 | idxA (sz n:Nat) (x i:Opd)
 | mki (t:Nat) (x:Opd)
 | eqI (neg:Bool) (x y:Opd)
 | clr (sz:Nat) (z:AV) (x:Opd)
 | mkmap
 | mlen (x:Opd)
 | mget (ok ag:Bool) (ks:List Nat) (z:AV) (x k:Opd)
 | mput (ag:Bool) (ks:List Nat) (x k v:Opd)
 | mrng (x:Opd)
 | mnxt (x:Opd)
 | ment (x:Opd)
 | mkmapS
 | mentry (ag:Bool) (ks:List Nat) (z:AV) (x k:Opd)
 | estore (x s v:Opd)
 | mdel (ag:Bool) (ks:List Nat) (x k:Opd)
 | eqN (neg:Bool) (x:Opd)
structure AO where
 d:Option Nat
 op:AOp
 g:Option (Nat×Bool)
def bAnd (k:IntKind) (a b:Int):Int:=k.wrap (BitVec.ofInt k.bits a&&& BitVec.ofInt k.bits b).toNat
def bOr (k:IntKind) (a b:Int):Int:=k.wrap (BitVec.ofInt k.bits a||| BitVec.ofInt k.bits b).toNat
def bXor (k:IntKind) (a b:Int):Int:=k.wrap (BitVec.ofInt k.bits a ^^^ BitVec.ofInt k.bits b).toNat
def b15 (k:IntKind) (a b:Int):Int:=k.wrap (BitVec.ofInt k.bits a&&& ~~~BitVec.ofInt k.bits b).toNat
def bShl (k:IntKind) (a b:Int):Int:=k.wrap (a*2 ^ (min b.toNat k.bits))
def bShr (k:IntKind) (a b:Int):Int:=a.fdiv (2 ^ (min b.toNat k.bits))
def abin (op:BinOp):AV→AV→Option AV
 | .int k a,.int k' b=>
  match op with
  | .shl=>if b<0 then none else some (.int k (bShl k a b))
  | .shr=>if b<0 then none else some (.int k (bShr k a b))
  | .add=>if k=k' then some (.int k (k.wrap (a+b))) else none
  | .sub=>if k=k' then some (.int k (k.wrap (a - b))) else none
  | .mul=>if k=k' then some (.int k (k.wrap (a*b))) else none
  | .quo=>if k=k'∧b≠0 then some (.int k (k.wrap (a.tdiv b))) else none
  | .rem=>if k=k'∧b≠0 then some (.int k (a.tmod b)) else none
  | .and=>if k=k' then some (.int k (bAnd k a b)) else none
  | .or=>if k=k' then some (.int k (bOr k a b)) else none
  | .xor=>if k=k' then some (.int k (bXor k a b)) else none
  | .andNot=>if k=k' then some (.int k (b15 k a b)) else none
  | .eql=>if k=k' then some (.bool (a==b)) else none
  | .neq=>if k=k' then some (.bool (a != b)) else none
  | .lss=>if k=k' then some (.bool (decide (a<b))) else none
  | .leq=>if k=k' then some (.bool (decide (a≤b))) else none
  | .gtr=>if k=k' then some (.bool (decide (b<a))) else none
  | .geq=>if k=k' then some (.bool (decide (b≤a))) else none
 | .str a,.str b=>
  match op with
  | .add=>if a.length+b.length≤9223372036854775807 then some (.str (a++b)) else none
  | .eql=>some (.bool (a==b))
  | .neq=>some (.bool (!(a==b)))
  | .lss=>some (.bool (Op.bytesLess a b))
  | .leq=>some (.bool (Op.bytesLess a b||a==b))
  | .gtr=>some (.bool (!(Op.bytesLess a b||a==b)))
  | .geq=>some (.bool (!(Op.bytesLess a b)))
  | _ =>none
 | _,_ =>none
def aeqB (neg:Bool):AV→AV→Option AV
 | .bool a,.bool b=>some (.bool (if neg then !(a==b) else a==b))
 | _,_ =>none
def aeqP (neg:Bool):AV→AV→Option AV
 | .nilp,.nilp=>some (.bool (!neg))
 | .ref ..,.nilp | .eptr ..,.nilp=>some (.bool neg)
 | _,_ =>none
def aeqI (neg:Bool):AV→AV→Option AV
 | .nili,.nili=>some (.bool (!neg))
 | .iface ..,.nili=>some (.bool neg)
 | _,_ =>none
def l12:Nat→AV→AV→Option Bool
 | 0,.int k a,.int k' b=>if k=k' then some (a==b) else none
 | 1,.str a,.str b=>some (a==b)
 | 2,.bool a,.bool b=>some (a==b)
 | _,_,_ =>none
def andO:Option Bool→Option Bool→Option Bool
 | some a,some b=>some (a&&b)
 | _,_ =>none
def aeqs:List Nat→List AV→List AV→Option Bool
 | [],[],[]=>some true
 | k::ks,c::cs,d::ds=>andO (l12 k c d) (aeqs ks cs ds)
 | _,_,_ =>none
def aeqA (neg:Bool) (ks:List Nat):AV→AV→Option AV
 | .agg cs,.agg ds=>match aeqs ks cs ds with | some b=>some (.bool (if neg then !b else b)) | none=>none
 | _,_ =>none
def aun (op:UnOp):AV→Option AV
 | .bool b=>match op with | .not=>some (.bool (!b)) | _ =>none
 | .int k n=>match op with | .neg=>some (.int k (k.wrap (0 - n))) | _ =>none
 | _ =>none
def a36 (k:IntKind):AV→Option AV
 | .int _ n=>some (.int k (k.wrap n))
 | _ =>none
def a29:AV→AV→AV→Option AV
 | .bool c,a,b=>match c,a,b with
  | true,a,_ =>some a
  | false,_,b=>some b
 | _,_,_ =>none
def alen (isStr:Bool):AV→Option AV
 | .str s=>if isStr then some (.int .i64 s.length) else none
 | .seq _ es=>if isStr then none else some (.int .i64 es.length)
 | .nils=>if isStr then none else some (.int .i64 0)
 | .arr _ _ n=>if isStr then none else some (.int .i64 n)
 | .full _ es=>if isStr then none else some (.int .i64 es.length)
 | _ =>none
def aext:AV→Nat→Option AV
 | .tup cs,i=>cs[i]?
 | _,_ =>none
def a37:AV→Option AV
 | .ref i k off=>some (.ref i k off)
 | .eptr e off=>some (.eptr e off)
 | .fn f cs=>some (.fn f cs)
 | .iface t v=>some (.iface t v)
 | _ =>none
def afld:AV→Nat→Option AV
 | .agg cs,off=>cs[off]?
 | _,_ =>none
def a35:AV→Nat→Nat→Option AV
 | .agg cs,off,n=>if off+n≤cs.length then some (.agg ((cs.drop off).take n)) else none
 | _,_,_ =>none
def a25:AV→Nat→Option AV
 | .ref i k off,o=>some (.ref i k (off+o))
 | .eptr e off,o=>some (.eptr e (off+o))
 | _,_ =>none
def a10 (H:List (Nat×Box)) (sz:Nat):AV→AV→Option AV
 | .seq z es,.int _ n=>if z=sz∧0≤n then (es[n.toNat]?).map (.eptr · 0) else none
 | .arr i k m,.int _ n=>match hget H i with
  | some b=>if b.sz=sz∧0≤n∧n<m then some (.ref i (k+n.toNat) 0) else none
  | none=>none
 | .full z es,.int _ n=>if z=sz∧0≤n then (es[n.toNat]?).map (.eptr · 0) else none
 | _,_ =>none
def aidx:AV→AV→Option AV
 | .str s,.int _ n=>if 0≤n then (s[n.toNat]?).map (fun b=>.int .u8 b.toNat) else none
 | _,_ =>none
def aslc (z:Nat):AV→Option AV→Option AV→Option AV
 | .str s,lo,hi=>if z=0 then match lo.getD (.int .i64 0),hi.getD (.int .i64 s.length) with
  | .int _ l,.int _ h=>if 0≤l∧l≤h∧h≤s.length then some (.str ((s.drop l.toNat).take (h.toNat - l.toNat))) else none
  | _,_ =>none
  else none
 | .seq sz es,lo,hi=>if z=sz∧0<z then match lo.getD (.int .i64 0),hi.getD (.int .i64 es.length) with
  | .int _ l,.int _ h=>if 0≤l∧l≤h∧h≤es.length then some (.seq sz ((es.drop l.toNat).take (h.toNat - l.toNat))) else none
  | _,_ =>none
  else none
 | _,_,_ =>none
def h14 (H:List (Nat×Box)):AV→Option (List AV×Nat)
 | .ref i k off=>match hget H i with
  | some b=>if 0<b.sz then (b.es[k]?).map fun e=>(e.cells,off) else none
  | none=>none
 | .eptr e off=>some (e.cells,off)
 | _ =>none
def a27 (H:List (Nat×Box)) (p:AV):Option AV:=
 match h14 H p with
 | some (cs,off)=>cs[off]?
 | none=>none
def a22 (H:List (Nat×Box)) (p:AV) (n:Nat):Option AV:=
 match h14 H p with
 | some (cs,off)=>if off+n≤cs.length then some (.agg ((cs.drop off).take n)) else none
 | none=>none
def s_:List AV→Nat→List AV→List AV
 | cs,0,[]=>cs
 | [],_,_ =>[]
 | _ ::cs,0,d::ds=>d::s_ cs 0 ds
 | c::cs,o+1,ds=>c::s_ cs o ds
def c21:AV→Bool
 | .top | .undef | .agg _ | .tup _ =>false
 | _ =>true
def fits (v:AV) (n:Nat):Bool:=match v with
 | .agg cs=>cs.length==n&&cs.all c21
 | v=>n==1&&c21 v
def r16:AV→List AV→Option AV
 | .agg _,cs=>some (.agg cs)
 | _,[x]=>if c21 x then some x else none
 | _,_ =>none
def clean:AV→Bool
 | .arr .. | .ref .. | .mapv _ =>false
 | .agg cs=>go cs
 | .tup cs=>go cs
 | .fn _ cs=>go cs
 | .iface _ v=>clean v
 | _ =>true
where
 go:List AV→Bool
 | []=>true
 | c::cs=>clean c&&go cs
def a18 (st:St) (p v:AV) (n:Nat):Option St:=
 match p with
 | .ref i k off=>match hget st.heap i with
  | some b=>if b.row=true∧(clean v=false∨b.sz=0) then none else match b.es[k]? with
   | some e=>if fits v n∧off+n≤e.cells.length then match r16 e (s_ e.cells off v.cells) with
     | some e'=>some {st with heap:=hset st.heap i {b with es:=b.es.set k e'}}
     | none=>none
    else none
   | none=>none
  | none=>none
 | _ =>none
def a28 (n:Nat):AV→Option AV
 | .eptr (.agg cs) 0=>if cs.length=n∧cs.all c21=true then some (.seq 1 cs) else none
 | _ =>none
def amx (mn:Bool):AV→AV→Option AV
 | .int k a,.int k' b=>if k=k' then some (.int k (if mn then (if b<a then b else a) else (if b>a then b else a))) else none
 | _,_ =>none
def adec (s:List UInt8) (p:Nat):Nat×Nat:=Utf8.decode ⟨s.toArray⟩ p
def anxt (st:St) (d:Option Nat) (x:AV):Option St:=
 match d,x with
 | some d,.ref i 0 0=>match hget st.heap i with
  | some b=>match b.es with
   | [.str s,.int .i64 p]=>if b.row=true∧b.sz=0∧b.ty=0∧0≤p∧d<st.N then
       (if p.toNat<s.length then some {st with env:=(d,.tup [.bool true,.int .i64 p,.int .i32 ((adec s p.toNat).1:Nat)])::st.env,heap:=hset st.heap i {b with es:=[.str s,.int .i64 ((p.toNat+(adec s p.toNat).2:Nat):Int)]}}
        else some {st with env:=(d,.tup [.bool false])::st.env}) else none
   | _ =>none
  | none=>none
 | _,_ =>none
def arng (st:St) (d:Option Nat) (x:AV):Option St:=
 match d,x with
 | some d,.str s=>st.new (some d) ⟨true,0,0,[.str s,.int .i64 0]⟩ (.ref d 0 0)
 | _,_ =>none
def a_:List AV→Option (List UInt8)
 | []=>some []
 | .int .u8 n::r=>match a_ r with | some bs=>some (UInt8.ofNat n.toNat::bs) | none=>none
 | _ =>none
def ab2s (H:List (Nat×Box)):AV→Option AV
 | .nils=>some (.str [])
 | .seq 1 es=>(a_ es).map .str
 | .arr i k n=>match hget H i with
  | some b=>if b.row=true∧b.sz=1∧k+n≤b.es.length then (a_ ((b.es.drop k).take n)).map .str else none
  | none=>none
 | _ =>none
def a20 (sz n:Nat):AV→AV→Option AV
 | .ref i k off,.int _ j=>if 0≤j∧j<n then some (.ref i k (off+j.toNat*sz)) else none
 | .eptr e off,.int _ j=>if 0≤j∧j<n then some (.eptr e (off+j.toNat*sz)) else none
 | _,_ =>none
def a33 (sz n:Nat):AV→AV→Option AV
 | .agg cs,.int _ j=>if 0≤j∧j<n∧sz=1 then cs[j.toNat]? else none
 | _,_ =>none
def amks (st:St) (d:Option Nat) (ty sz bytes:Nat) (z n c:AV):Option St:=
 match d,n,c with
 | some d,.int _ a,.int _ b=>if 0≤a∧a≤b∧b*bytes≤140737488355328 then st.new (some d) ⟨true,ty,sz,List.replicate a.toNat z⟩ (.arr d 0 a.toNat) else none
 | _,_,_ =>none
def evs (G:Nat→Option AV) (st:St):List Opd→List AV
 | []=>[]
 | x::xs=>st.ev G x::evs G st xs
def v10 (H:List (Nat×Box)):List AV→Option (List AV)
 | []=>some []
 | v::vs=>match view H v,v10 H vs with | some x,some xs=>some (x::xs) | _,_ =>none
def r10:List AV→List Nat
 | []=>[]
 | v::vs=>r13 v++r10 vs
def a17 (G:Nat→Option AV) (st:St) (zs:List AV):List (Nat×Nat×Opd)→Option AV
 | []=>some (.agg zs)
 | (off,n,x)::ps=>if fits (st.ev G x) n∧off+n≤zs.length then a17 G st (s_ zs off (st.ev G x).cells) ps else none
def r11 (sz:Nat) (es:List AV):List (Nat×AV)→Option (List AV)
 | []=>some es
 | (i,v)::ps=>if fits v sz∧i<es.length then r11 sz (es.set i v) ps else none
def news (H:List (Nat×Box)) (sz i:Nat):AV→Option (List AV)
 | .seq z es=>if z=sz then some es else none
 | .nils=>some []
 | .arr j k m=>if j=i then none else match hget H j with
  | some b=>if b.row∧b.sz=sz∧k+m≤b.es.length then some ((b.es.drop k).take m) else none
  | none=>none
 | _ =>none
def aapp (st:St) (d:Option Nat) (ty sz bytes:Nat) (x y:AV):Option St:=
 match x with
 | .nils=>match d with
  | some d=>match news st.heap sz d y with
   | some es=>if es.length*bytes≤140737488355328 then st.new (some d) ⟨true,ty,sz,es⟩ (.arr d 0 es.length) else none
   | none=>none
  | none=>none
 | .arr i 0 n=>match d,hget st.heap i,news st.heap sz i y with
  | some d,some b,some es=>
   if b.row=true∧b.ty=ty∧b.sz=sz∧b.es.length=n∧(n+es.length)*bytes≤140737488355328∧d<st.N then
    some {st with env:=(d,.arr i 0 (n+es.length))::p_ i st.env,heap:=hset (p12 i st.heap) i {b with es:=b.es++es}} else none
  | _,_,_ =>none
 | .full z es0=>match news st.heap sz (d.getD 0) y with
  | some es=>if z=sz∧es.isEmpty=false∧(es0.length+es.length)*bytes≤140737488355328 then st.put d (.seq sz (es0++es)) else none
  | none=>none
 | _ =>none
def a26 (H:List (Nat×Box)) (z:Nat) (x:AV) (lo hi:Option AV):Option AV:=
 match x with
 | .arr i k n=>match hget H i with
  | some b=>if b.sz=z∧0<z then match lo.getD (.int .i64 0),hi.getD (.int .i64 n) with
   | .int _ l,.int _ h=>if 0≤l∧l≤h∧h≤n then some (.arr i (k+l.toNat) (h.toNat - l.toNat)) else none
   | _,_ =>none
   else none
  | none=>none
 | x=>aslc z x lo hi
def aclr (st:St) (d:Option Nat) (sz:Nat) (z:AV) (x:AV):Option St:=
 match x with
 | .arr i k n=>match hget st.heap i with
  | some b=>if 0<n∧b.row=true∧0<b.sz∧b.sz=sz∧k+n≤b.es.length then ({st with heap:=hset st.heap i {b with es:=b.es.take k++List.replicate n z++b.es.drop (k+n)}}:St).put d (.tup []) else none
  | none=>none
 | _ =>none
def i12:AV→Bool
 | .agg _ =>true
 | _ =>false
def k16 (ag:Bool) (ks:List Nat) (x y:AV):Option Bool:=if i12 x=ag∧i12 y=ag then aeqs ks x.cells y.cells else none
def k15 (ag:Bool) (ks:List Nat) (x:AV):Bool:=match k16 ag ks x x with | some true=>true | _ =>false
def m_ (ag:Bool) (ks:List Nat) (k:AV):List AV→Nat→Option (Option (Nat×AV))
 | [],_ =>some none
 | .tup [a,b]::r,i=>match k16 ag ks k a with
  | some true=>some (some (i,b))
  | some false=>m_ ag ks k r (i+1)
  | none=>none
 | _ ::_,_ =>none
def mres (ok:Bool) (z:AV):Option (Nat×AV)→AV
 | some (_,v)=>if ok then .tup [v,.bool true] else v
 | none=>if ok then .tup [z,.bool false] else z
def a31 (H:List (Nat×Box)) (ok ag:Bool) (ks:List Nat) (z:AV) (x k:AV):Option AV:=
 match x with
 | .nilm=>if k15 ag ks k=true then some (mres ok z none) else none
 | .mapv i=>match hget H i with
  | some b=>if b.sz=0∧(b.ty=1∨3≤b.ty)∧k15 ag ks k=true then (m_ ag ks k b.es 0).map (mres ok z) else none
  | none=>none
 | .mapc es=>if k15 ag ks k=true then (m_ ag ks k es 0).map (mres ok z) else none
 | _ =>none
def a30 (H:List (Nat×Box)):AV→Option AV
 | .nilm=>some (.int .i64 0)
 | .mapv i=>match hget H i with
  | some b=>if b.sz=0∧(b.ty=1∨3≤b.ty) then some (.int .i64 b.es.length) else none
  | none=>none
 | .mapc es=>some (.int .i64 es.length)
 | _ =>none
def a39 (st:St) (ag:Bool) (ks:List Nat) (x k v:AV):Option St:=
 match x with
 | .mapv i=>match hget st.heap i with
  | some b=>if b.sz=0∧(b.ty=1∨3≤b.ty)∧k15 ag ks k=true∧clean v=true then match m_ ag ks k b.es 0 with
   | some (some (j,_))=>some {st with heap:=hset st.heap i {b with es:=b.es.set j (.tup [k,v])}}
   | some none=>some {st with heap:=hset st.heap i {b with es:=b.es++[.tup [k,v]]}}
   | none=>none
   else none
  | none=>none
 | _ =>none
def a38 (st:St) (d:Option Nat) (x:AV):Option St:=
 match d,x with
 | some d,.mapc es=>st.new (some d) ⟨true,2,0,.undef::es⟩ (.ref d 0 0)
 | some d,.mapv i=>match hget st.heap i with
  | some b=>if b.sz=0∧(b.ty=1∨3≤b.ty) then (st.thaw1 i).new (some d) ⟨true,2,0,.undef::b.es⟩ (.ref d 0 0) else none
  | none=>none
 | _,_ =>none
def a40 (st:St) (d:Option Nat) (x:AV):Option St:=
 match d,x with
 | some d,.ref i 0 0=>match hget st.heap i with
  | some b=>if b.sz=0∧b.ty=2∧d<st.N then (match b.es with
   | [_]=>some {st with env:=(d,.tup [.bool false])::st.env}
   | [_,.tup [k,v]]=>some {st with env:=(d,.tup [.bool true,k,v])::st.env,heap:=hset st.heap i {b with es:=[.tup [k,v]]}}
   | _ =>none) else none
  | none=>none
 | _,_ =>none
def a32 (H:List (Nat×Box)):AV→Option AV
 | .ref i 0 0=>match hget H i with
  | some b=>if b.sz=0∧b.ty=2 then (match b.es with | .tup [k,v]::_ =>some (.tup [k,v]) | _ =>none) else none
  | none=>none
 | _ =>none
def a15 (st:St) (d:Option Nat) (ag:Bool) (ks:List Nat) (z x k:AV):Option St:=
 match x with
 | .mapv i=>match hget st.heap i with
  | some b=>if b.sz=0∧3≤b.ty∧k15 ag ks k=true then match m_ ag ks k b.es 0 with
   | some (some (j,v))=>({st with heap:=hset st.heap i {b with es:=b.es.set j (.tup [k,v])}}:St).put d (.tup [v,.int .i64 ((b.ty - 3+j:Nat):Int)])
   | some none=>({st with heap:=hset st.heap i {b with es:=b.es++[.tup [k,z]]}}:St).put d (.tup [z,.int .i64 ((b.ty - 3+b.es.length:Nat):Int)])
   | none=>none
   else none
  | none=>none
 | _ =>none
def a16 (st:St) (x s v:AV):Option St:=
 match x,s with
 | .mapv i,.int _ n=>match hget st.heap i with
  | some b=>if b.sz=0∧3≤b.ty∧clean v=true∧((b.ty - 3:Nat):Int)≤n then match b.es[(n - ((b.ty - 3:Nat):Int)).toNat]? with
   | some (.tup [k,_])=>some {st with heap:=hset st.heap i {b with es:=b.es.set (n - ((b.ty - 3:Nat):Int)).toNat (.tup [k,v])}}
   | _ =>none
   else none
  | none=>none
 | _,_ =>none
def a41 (st:St) (d:Option Nat) (ag:Bool) (ks:List Nat) (x k:AV):Option St:=
 match x with
 | .mapv i=>match hget st.heap i with
  | some b=>if b.sz=0∧(b.ty=1∨3≤b.ty)∧k15 ag ks k=true then match m_ ag ks k b.es 0 with
   | some (some (j,_))=>if b.ty=1 then ({st with heap:=hset st.heap i {b with es:=b.es.eraseIdx j}}:St).put d (.tup []) else
     if j=0 then ({st with heap:=hset st.heap i {b with ty:=b.ty+1,es:=b.es.eraseIdx 0}}:St).put d (.tup []) else none
   | some none=>st.put d (.tup [])
   | none=>none
   else none
  | none=>none
 | _ =>none
def aeqN (neg:Bool):AV→Option AV
 | .nils=>some (.bool (!neg))
 | .seq _ (_ ::_)=>some (.bool neg)
 | .full _ _ =>some (.bool neg)
 | .arr _ _ (_ +1)=>some (.bool neg)
 | _ =>none
def zV:AV→AV
 | .tup [z]=>z
 | .tup [z,_]=>z
 | z=>z
def e_ (G:Nat→Option AV) (d:Option Nat) (op:AOp) (st:St):Option St:=
 match op with
 | .mov x=>st.put d (st.ev G x)
 | .nilrow ty sz=>match d with | some d=>st.new (some d) ⟨true,ty,sz,[]⟩ (.arr d 0 0) | none=>none
 | .pick c a b=>(a29 (st.ev G c) (st.ev G a) (st.ev G b)).bind (st.put d)
 | .alloc ty sz z=>match d with | some d=>st.new (some d) ⟨false,ty,sz,[z]⟩ (.ref d 0 0) | none=>none
 | .box ty sz x=>match d with | some d=>if fits (purge d (st.ev G x)) sz then st.new (some d) ⟨false,ty,sz,[purge d (st.ev G x)]⟩ (.ref d 0 0) else none | none=>none
 | .build zs ps=>(a17 G st zs ps).bind (st.put d)
 | .mkrow ty sz n z ps=>match d with
  | some d=>match z with
   | .tup [z]=>match r11 sz (List.replicate n z) ((ps.map (·.1)).zip ((evs G st (ps.map (·.2))).map (purge d))) with
    | some es=>st.new (some d) ⟨false,ty,sz,es⟩ (.arr d 0 n)
    | none=>none
   | .tup [z,_]=>match v10 st.heap (evs G st (ps.map (·.2))) with
    | some vs=>match r11 sz (List.replicate n z) ((ps.map (·.1)).zip vs) with
     | some es=>if (r10 (evs G st (ps.map (·.2)))).isEmpty=true then st.put (some d) (.full sz es) else none
     | none=>none
    | none=>none
   | z=>match v10 st.heap (evs G st (ps.map (·.2))) with
    | some vs=>match r11 sz (List.replicate n z) ((ps.map (·.1)).zip vs) with
     | some es=>(st.thaws (r10 (evs G st (ps.map (·.2))))).new (some d) ⟨true,ty,sz,es⟩ (.arr d 0 n)
     | none=>none
    | none=>none
  | none=>none
 | .load p=>(a27 st.heap (st.ev G p)).bind (st.put d)
 | .loadN p n=>(a22 st.heap (st.ev G p) n).bind (st.put d)
 | .store p x n=>a18 st (st.ev G p) (st.ev G x) n
 | .bin op x y=>(abin op (st.ev G x) (st.ev G y)).bind (st.put d)
 | .eqA neg ks x y=>(aeqA neg ks (st.ev G x) (st.ev G y)).bind (st.put d)
 | .eqB neg x y=>(aeqB neg (st.ev G x) (st.ev G y)).bind (st.put d)
 | .eqP neg x y=>(aeqP neg (st.ev G x) (st.ev G y)).bind (st.put d)
 | .un op x=>(aun op (st.ev G x)).bind (st.put d)
 | .conv k x=>(a36 k (st.ev G x)).bind (st.put d)
 | .fld x off=>(afld (st.ev G x) off).bind (st.put d)
 | .fldN x off n=>(a35 (st.ev G x) off n).bind (st.put d)
 | .faddr p off=>(a25 (st.ev G p) off).bind (st.put d)
 | .iaddr sz x i=>(a10 st.heap sz (st.ev G x) (st.ev G i)).bind (st.put d)
 | .idx x i=>(aidx (st.ev G x) (st.ev G i)).bind (st.put d)
 | .slc z x lo hi=>(a26 st.heap z (st.ev G x) (lo.map (st.ev G)) (hi.map (st.ev G))).bind (st.put d)
 | .len b x=>(alen b (st.ev G x)).bind (st.put d)
 | .app ty sz bytes x y=>aapp st d ty sz bytes (st.ev G x) (st.ev G y)
 | .ext x i=>(aext (st.ev G x) i).bind (st.put d)
 | .nchk x=>(a37 (st.ev G x)).bind (st.put d)
 | .mkfn f caps=>st.put d (.fn f (evs G st caps))
 | .mks ty sz bytes z n c=>amks st d ty sz bytes z (st.ev G n) (st.ev G c)
 | .slcG n x=>(a28 n (st.ev G x)).bind (st.put d)
 | .mx mn x y=>(amx mn (st.ev G x) (st.ev G y)).bind (st.put d)
 | .rng x=>arng st d (st.ev G x)
 | .nxt x=>anxt st d (st.ev G x)
 | .b2s x=>(ab2s st.heap (st.ev G x)).bind (st.put d)
 | .iaddrA sz n x i=>(a20 sz n (st.ev G x) (st.ev G i)).bind (st.put d)
 | .idxA sz n x i=>(a33 sz n (st.ev G x) (st.ev G i)).bind (st.put d)
 | .mki t x=>st.put d (.iface t (st.ev G x))
 | .eqI neg x y=>(aeqI neg (st.ev G x) (st.ev G y)).bind (st.put d)
 | .clr sz z x=>aclr st d sz z (st.ev G x)
 | .mkmap=>match d with | some d=>st.new (some d) ⟨true,1,0,[]⟩ (.mapv d) | none=>none
 | .mlen x=>(a30 st.heap (st.ev G x)).bind (st.put d)
 | .mget ok ag ks z x k=>(a31 st.heap ok ag ks z (st.ev G x) (st.ev G k)).bind (st.put d)
 | .mput ag ks x k v=>match d with | none=>a39 st ag ks (st.ev G x) (st.ev G k) (st.ev G v) | some _ =>none
 | .mrng x=>a38 st d (st.ev G x)
 | .mnxt x=>a40 st d (st.ev G x)
 | .ment x=>(a32 st.heap (st.ev G x)).bind (st.put d)
 | .mkmapS=>match d with | some d=>st.new (some d) ⟨true,3,0,[]⟩ (.mapv d) | none=>none
 | .mentry ag ks z x k=>a15 st d ag ks z (st.ev G x) (st.ev G k)
 | .estore x s v=>match d with | none=>a16 st (st.ev G x) (st.ev G s) (st.ev G v) | some _ =>none
 | .mdel ag ks x k=>a41 st d ag ks (st.ev G x) (st.ev G k)
 | .eqN neg x=>(aeqN neg (st.ev G x)).bind (st.put d)
 | .bad | .call _ _ | .callv _ _ | .callB _ _ | .callvB _ _ =>none
end Go.Proofs.YtkejmcgngblfnaaGreatDoor.Ab
