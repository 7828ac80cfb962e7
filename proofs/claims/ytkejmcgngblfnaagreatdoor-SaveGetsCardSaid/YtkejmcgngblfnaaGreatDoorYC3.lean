/-
  The plain laws of SavePuts and SaveGets: what is put is got; what is got was put. num.Op, value.truth, text, Less, Op: what operators make of values. proctorref03: the order of texts and values, what operators make of values. Automata's parts as values; slices' and core's generic functions over them. N_, in plain words: bytes, signs, words. strings, schema, proctorref07: names and declarations. schema, proctorref07: declarations. core: expressions. binding, proctorref05: what a binding has; which may be. eval, proctorref16: whether values fit. core.trans, from the inside: whole. proctorref13.Kind. core.trans, from the inside: one, and all. config, proctorref18: the order of configurations, and whether they are the same. proctorref18: sets of configurations; the law's own words. key, config.Key: keys of values and of sets of configurations. No claim is proved here.
-/
import Derived.Test.YtkejmcgngblfnaaGreatDoorYSv6
import Derived.Shelf.Bits.Mul64
set_option linter.unusedSimpArgs false
set_option maxHeartbeats 4000000
set_option maxRecDepth 100000
namespace Go.Proofs.YtkejmcgngblfnaaGreatDoor.Ab
open Go
theorem sog_ {s:V_} (h:g10 s):s28 s:=by
 obtain⟨_,_,_,_,h5,h6,h7⟩:=h
 exact⟨⟨h5.1,fun l hl=>⟨(h5.2 l hl).1,fun v hv=>((h5.2 l hl).2 v hv).2⟩⟩,h6,fun r hr=>⟨⟨(h7 r hr).1.1,fun x hx=>((h7 r hr).1.2 x hx).2.2⟩,(h7 r hr).2.1,fun c hc=>⟨((h7 r hr).2.2 c hc).2.1,fun v hv=>(((h7 r hr).2.2 c hc).2.2 v hv).2⟩⟩⟩
def putS (s:V_):Option (List UInt8)×Int:=if (s21 s).2=0 then (some (s21 s).1,0) else (none,(s21 s).2)
def getS (b:List UInt8):V_×Bool:=if (s12 b).2=true then ((s12 b).1,true) else (V_.none,false)
theorem pg10 {s:V_} (hz:s28 s) (hb:badS s=0):putS s=(some (s19 s),0):=by
 obtain⟨h1,h2⟩:=pi_ s hz
 unfold putS
 rw[h1,if_pos hb,h2 hb]
theorem pg11 {b:List UInt8} (h:(getS b).2=true):s28 (getS b).1∧badS (getS b).1=0∧s19 (getS b).1=b∧putS (getS b).1=(some b,0):=by
 have hr:(s12 b).2=true:=by
  unfold getS at h
  split at h
  ·assumption
  ·cases h
 have hg:(getS b).1=(s12 b).1:=by
  unfold getS
  rw[if_pos hr]
 generalize hp:s30 b=o
 match o,hp with
 | none,hp=>rw[(si_ b).2 hp] at hr;cases hr
 | some s,hp=>
  have e:=(si_ b).1 s hp
  obtain⟨g,hb⟩:=sb10 b s hp
  have e2:(getS b).1=s:=by rw[hg,e]
  rw[e2]
  have hz:=sog_ g
  have h0:=bog_ g
  exact⟨hz,h0,hb.symm,by rw[pg10 hz h0,←hb]⟩
end Go.Proofs.YtkejmcgngblfnaaGreatDoor.Ab
namespace Go.Proofs.YtkejmcgngblfnaaGreatDoor.Ab
open Go
variable {G:Nat→Option AV}
end Go.Proofs.YtkejmcgngblfnaaGreatDoor.Ab
namespace Go.Proofs.YtkejmcgngblfnaaGreatDoor.Ab
open Go
variable {G:Nat→Option AV}
end Go.Proofs.YtkejmcgngblfnaaGreatDoor.Ab
namespace Go.Proofs.YtkejmcgngblfnaaGreatDoor.Ab
open Go
variable {G:Nat→Option AV}
end Go.Proofs.YtkejmcgngblfnaaGreatDoor.Ab
namespace Go.Proofs.YtkejmcgngblfnaaGreatDoor.Ab
open Go
def w10:List Str:=[[97,99,99,101,112,116],[97,108,115,111],[97,110,100],[98,111,111,108],[100,111],[101,118,101,110,116],[101,120,105,115,116,115],[102,97,108,115,101],[102,111,114,97,108,108],[102,114,101,101],[105,102],[105,110,116],[110,101,120,116],[110,111,116],[111,110],[111,114],[113,101,97],[115,107,105,112],[115,116,97,114,116],[115,116,114,105,110,103],[116,111],[116,114,117,101]]
end Go.Proofs.YtkejmcgngblfnaaGreatDoor.Ab
namespace Go.Proofs.YtkejmcgngblfnaaGreatDoor.Ab
open Go
variable {G:Nat→Option AV}
end Go.Proofs.YtkejmcgngblfnaaGreatDoor.Ab
namespace Go.Proofs.YtkejmcgngblfnaaGreatDoor.Ab
open Go
variable {G:Nat→Option AV}
theorem aa13 {s:Str} {i:Nat} {c:UInt8} (h:s[i]? =some c):aidx (.str s) (.int .i64 (i:Int))=some (.int .u8 c.toNat):=by
 have h0:¬(i:Int)<0:=by omega
 simp [aidx,h]
end Go.Proofs.YtkejmcgngblfnaaGreatDoor.Ab
namespace Go.Proofs.YtkejmcgngblfnaaGreatDoor.Ab
open Go
variable {G:Nat→Option AV}
structure ExT where
 kind:Int
 depth:Int
 from_:Int
deriving DecidableEq
abbrev e0:ExT:=⟨0,0,0⟩
end Go.Proofs.YtkejmcgngblfnaaGreatDoor.Ab
namespace Go.Proofs.YtkejmcgngblfnaaGreatDoor.Ab
open Go
variable {G:Nat→Option AV}
def v_ (l:List Val):AV:=.seq 4 (l.map valV)
end Go.Proofs.YtkejmcgngblfnaaGreatDoor.Ab
namespace Go.Proofs.YtkejmcgngblfnaaGreatDoor.Ab
open Go
variable {G:Nat→Option AV}
def subH (heap:List (Nat×Box)):List (Nat×Box)→Prop
 | []=>True
 | (i,b)::r=>hget heap i=some b∧subH heap r
theorem subH.at {heap:List (Nat×Box)}:∀{H:List (Nat×Box)},subH heap H→∀i b,hget H i=some b→hget heap i=some b
 | [],_,i,b,h=>by simp [hget] at h
 | (j,c)::r,hs,i,b,h=>by
  simp only[hget] at h
  split at h
  ·rename_i e;subst e;cases h;exact hs.1
  ·exact hs.2.at i b h
end Go.Proofs.YtkejmcgngblfnaaGreatDoor.Ab
namespace Go.Proofs.YtkejmcgngblfnaaGreatDoor.Ab
open Go
variable {G:Nat→Option AV}
end Go.Proofs.YtkejmcgngblfnaaGreatDoor.Ab
namespace Go.Proofs.YtkejmcgngblfnaaGreatDoor.Ab
open Go Go.RowKit
variable {G:Nat→Option AV}
structure CfgT where
 state:Int
 vals:List Val
deriving DecidableEq
def CfgT.St (c:CfgT):Prop:=0≤c.state∧c.state<1000∧c.vals.length≤1000
end Go.Proofs.YtkejmcgngblfnaaGreatDoor.Ab
namespace Go.Proofs.YtkejmcgngblfnaaGreatDoor.Ab
open Go Go.RowKit
variable {G:Nat→Option AV}
theorem ad_ {α:Type} {e:α→AV} {sz:Nat} {l:List α} {i:Nat} (hs:0<sz) (h:i≤l.length):aslc sz (.seq sz (l.map e)) (some (.int .i64 (i:Int))) none=some (.seq sz ((l.drop i).map e)):=by
 simp [aslc,hs,h,List.map_drop]
 rw[List.take_of_length_le (by simp)]
end Go.Proofs.YtkejmcgngblfnaaGreatDoor.Ab
namespace Go.Proofs.YtkejmcgngblfnaaGreatDoor.Ab
open Go Go.RowKit
variable {G:Nat→Option AV}
def byV (c:UInt8):AV:=.int .u8 (c.toNat:Int)
def b_ (l:Str):AV:=.seq 1 (l.map byV)
theorem am10:∀(l:Str),a_ (l.map byV)=some l
 | []=>rfl
 | c::l=>by
  simp only[List.map_cons,byV,a_]
  rw[am10 l]
  simp
theorem vb_ {H:List (Nat×Box)} {i n:Nat} {ty:Nat} {out:Str} (hH:hget H i=some ⟨true,ty,1,out.map byV⟩) (hn:out.length=n):view H (.arr i 0 n)=some (b_ out):=by
 simp only[view,hH,List.drop_zero,List.length_map,hn]
 simp [b_,←hn]
 exact List.take_of_length_le (by simp)
def escT:Str→Str
 | []=>[]
 | c::r=>(if c=0 then [0,255] else [c])++escT r
theorem ea_:∀(a b:Str),escT (a++b)=escT a++escT b
 | [],b=>rfl
 | c::a,b=>by rw[List.cons_append,escT,escT,ea_ a b,List.append_assoc]
theorem ke_:∀(s:Str),k11 s=escT s++[0,1]
 | []=>rfl
 | c::r=>by
  rw[k11,escT,ke_ r]
  split <;> simp
theorem el_:∀(s:Str),(escT s).length≤2*s.length
 | []=>Nat.le_refl _
 | c::r=>by
  have:=el_ r
  rw[escT]
  split <;> simp <;> omega
theorem ta_ {α:Type} {l:List α} {i:Nat} {x:α} (h:l[i]? =some x):l.take (i+1)=l.take i++[x]:=by
 rw[List.take_add_one,h];rfl
theorem ktp_ (s:Str) (hs:s.length≤1000000):P_ Tryz.prog G nkt_ [.str s] (b_ (k11 s)):=by
 refine pkt_ (Runs.of fun Φ h=>?_)
 unfold ckt_
 simp -implicitDefEqProofs only[go_sem]
 refine al10 (fun n st=>∃(i:Nat) (m:Str),i+n=s.length∧st=⟨27,[(0,.str s),(3,.arr 3 0 m.length),(6,iv s.length),(7,iv i)],[(2,⟨true,tu_,1,[]⟩),(3,⟨true,tu_,1,m.map byV⟩)]⟩∧m=escT (s.take i)) s.length ⟨0,[],by simp,rfl,rfl⟩ ?_
 rintro I hI n st ⟨i,m,hi,rfl,hm⟩
 have hml:m.length≤2000000:=by
  have:=el_ (s.take i)
  rw[hm]
  simp only[List.length_take] at this
  omega
 simp -implicitDefEqProofs only[go_sem,List.length_map]
 refine⟨fun hlt=>?_,fun hge=>?_⟩
 ·have hlt':i<s.length:=by omega
  obtain⟨c,hc,_⟩:=as10 hlt'
  have hw:=ws_ hlt' (by omega)
  have hnx:escT (s.take (i+1))=m++(if c=0 then [0,255] else [c]):=by rw[ta_ hc,ea_,←hm,escT,escT];simp
  have hb1:m.length+1≤140737488355328:=by omega
  have hb2:m.length+1+1≤140737488355328:=by omega
  have hm1:m.map byV++[.int .u8 (c.toNat:Int)]=(m++[c]).map byV:=by simp [byV]
  by_cases h0:c=0
  ·subst h0
   rw[if_pos rfl] at hnx
   have e0:(((0:UInt8).toNat:Int)==0)=true:=rfl
   repeat' (first|simp -implicitDefEqProofs only[go_sem,aa13 hc,hw,e0,List.length_map,List.length_append,hb1,hb2,Nat.mul_one]|refine ag_ (fun hb=>?_) (fun hb=>?_)|refine⟨fun hb=>?_,fun hb=>?_⟩|fail)
   refine aa_ (n - 1) (by omega) (hI _ _ ⟨i+1,m++[0,255],by omega,?_,hnx.symm⟩)
   simp [byV]
  ·rw[if_neg h0] at hnx
   have e0:((c.toNat:Int)==0)=false:=by
    have:c.toNat≠0:=fun e=>h0 (UInt8.toNat_inj.1 e)
    simp;omega
   repeat' (first|simp -implicitDefEqProofs only[go_sem,aa13 hc,hw,e0,List.length_map,List.length_append,hb1,hb2,Nat.mul_one]|refine ag_ (fun hb=>?_) (fun hb=>?_)|refine⟨fun hb=>?_,fun hb=>?_⟩|fail)
   refine aa_ (n - 1) (by omega) (hI _ _ ⟨i+1,m++[c],by omega,?_,hnx.symm⟩)
   simp [byV]
 ·rw[List.take_of_length_le (by omega)] at hm
  rw[ke_,←hm] at h
  have hb1:m.length+2≤140737488355328:=by omega
  have hb2:m.length+1+1≤140737488355328:=by omega
  repeat' (first|simp -implicitDefEqProofs only[go_sem,List.length_map,List.length_append,hb1,hb2,Nat.mul_one]|refine ag_ (fun hb=>?_) (fun hb=>?_)|refine⟨fun hb=>?_,fun hb=>?_⟩|fail)
  exact h _ ⟨_,_,rfl,vb_ (out:=m++[0,1]) (by simp [hget,byV];rfl) (by simp),.refl _⟩
end Go.Proofs.YtkejmcgngblfnaaGreatDoor.Ab
