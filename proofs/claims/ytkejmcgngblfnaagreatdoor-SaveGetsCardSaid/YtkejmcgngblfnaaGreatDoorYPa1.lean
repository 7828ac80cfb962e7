/-
  key.one, key.Of, config.Key. proctorref04.Key: a value's key. No claim is proved here.
-/
import Derived.Test.YtkejmcgngblfnaaGreatDoorYK8
set_option linter.unusedSimpArgs false
set_option maxHeartbeats 4000000
set_option maxRecDepth 100000
namespace Go.Proofs.YtkejmcgngblfnaaGreatDoor.Ab
open Go Go.RowKit
variable {G:Nat→Option AV}
theorem ok_ {v:Val} (h:v.ok=true):v.kind=1∨v.kind=2∨v.kind=3:=by
 unfold Val.ok at h
 split at h
 ·exact .inl ‹_›
 ·split at h
  ·exact .inr (.inl ‹_›)
  ·simp only[Bool.and_eq_true,decide_eq_true_eq] at h
   exact .inr (.inr h.1)
theorem kl12:∀s:Str,(k11 s).length≤2*s.length+2:=fun s=>by
 rw[ke_]
 have:=el_ s
 simp only[List.length_append,List.length_cons,List.length_nil]
 omega
theorem kl10 (v:Val):(k_ v).length≤2*v.str.length+9:=by
 unfold k_
 have:=kl12 v.str
 split
 ·simp [k12,beB]
 ·split
  ·simp only[List.length_cons];omega
  ·simp
theorem ks16 {l:List Val} {i:Nat} {v:Val} (h:l[i]? =some v):k14 (l.take (i+1))=k14 (l.take i)++k_ v:=by
 rw[ta_ h]
 simp [k14]
end Go.Proofs.YtkejmcgngblfnaaGreatDoor.Ab
namespace Go.Proofs.YtkejmcgngblfnaaGreatDoor.Ab
open Go Go.RowKit
variable {G:Nat→Option AV}
theorem ut_ {n:Int} (hn:i64 n):IntKind.u64.wrap (IntKind.u64.wrap n+9223372036854775808)=((n+9223372036854775808).toNat:Int):=by
 unfold i64 at hn
 simp [IntKind.wrap,IntKind.bits,IntKind.signed]
 omega
theorem un_ {m:Nat} (h:m<18446744073709551616):IntKind.u64.wrap (m:Int)=(m:Int):=by
 simp [IntKind.wrap,IntKind.bits,IntKind.signed]
 omega
theorem quoU {a b:Nat} (ha:a<18446744073709551616) (hb:0<b):abin .quo (.int .u64 (a:Int)) (.int .u64 (b:Int))=some (.int .u64 ((a / b:Nat):Int)):=by
 rw[aq_ _ _ _ (by omega)]
 have:(a:Int).tdiv (b:Int)=((a / b:Nat):Int):=by
  rw[Int.tdiv_eq_ediv_of_nonneg (by omega)]
  simp
 rw[this,un_ (Nat.lt_of_le_of_lt (Nat.div_le_self _ _) ha)]
theorem remU (a:Nat):abin .rem (.int .u64 (a:Int)) (.int .u64 256)=some (.int .u64 ((a % 256:Nat):Int)):=by
 rw[ar10 _ _ _ (by decide)]
 have:(a:Int).tmod 256=((a % 256:Nat):Int):=by
  rw[Int.tmod_eq_emod_of_nonneg (by omega)]
  simp
 rw[this]
theorem b18 (a:Nat):IntKind.u8.wrap ((a % 256:Nat):Int)=((UInt8.ofNat a).toNat:Int):=by
 simp [IntKind.wrap,IntKind.bits,IntKind.signed]
def divU (i:Nat):Nat:=if i<8 then 256 ^ (7 - i) else 0
theorem dn_:∀i,i<8→divU i / 256=divU (i+1)
 | 0,_ =>by decide
 | 1,_ =>by decide
 | 2,_ =>by decide
 | 3,_ =>by decide
 | 4,_ =>by decide
 | 5,_ =>by decide
 | 6,_ =>by decide
 | 7,_ =>by decide
 | i+8,h=>by omega
theorem dl_:∀i,i<8→0<divU i∧divU i<18446744073709551616
 | 0,_ =>by decide
 | 1,_ =>by decide
 | 2,_ =>by decide
 | 3,_ =>by decide
 | 4,_ =>by decide
 | 5,_ =>by decide
 | 6,_ =>by decide
 | 7,_ =>by decide
 | i+8,h=>by omega
theorem ba10 (U:Nat):∀i,i<8→(beB U)[i]? =some (UInt8.ofNat (U / divU i))
 | 0,_ =>rfl
 | 1,_ =>rfl
 | 2,_ =>rfl
 | 3,_ =>rfl
 | 4,_ =>rfl
 | 5,_ =>rfl
 | 6,_ =>rfl
 | 7,_ =>by simp [beB,divU]
 | i+8,h=>by omega
end Go.Proofs.YtkejmcgngblfnaaGreatDoor.Ab
