/-
  key, config.Key: keys of values and of sets of configurations. key.number: a number's bytes. key.one, key.Of, config.Key. Texts of values, in plain words; proctorref01.Text, proctorref02.Quote, proctorref03.Text. The library's texts, by the shelf's contracts: strings.Join, strconv.FormatInt, strings.Builder; quote.one, quote.Quote. quote.one, quote.Quote. num.Text, value.Text, core.Symbol: a symbol's text. The law CoreSymbols: plain part. The law CoreSymbols; how its automaton is read. How an automaton is read whose symbols' numbers are numbers. config.Start, States, Text and the reference's, proctorref04.Keys. Sets of states and of symbols as bits; joint.Next, proctorref22.Next: to which states symbols lead. A row of the call's own is written no more. The law ConfigPairs. What an expression comes to has the expression's kind. A strict order, total at what is sound: rows in order, each once: two ways. binding, proctorref05: which may be; under, fits, union. binding.Under, walked. binding.Fits, walked. binding.Same; proctorref05.Under, Fits. The order of bindings: total, of values that may be. The order of configurations: total, of values that may be; their sets, two ways. The law EvalFree. step: what a hit makes of a configuration may be. Where a guard begins, and guards without variables. The law SubsetSteps. proctorref17: which symbols an event is of; slots in order. How an event is read. A strings.Builder of a function's own: what its writing leaves as it lay (N4, turned). Which states transitions lead to: by a list that grows, and by marks. No claim is proved here.
-/
import Derived.Test.YtjbcfpkibnhodaaGreatDoorQN1
import Derived.Laws.CopyOwn
import Derived.Shelf.Spec.SlicesInsertGrow
import Derived.RangeFuncNested
import Derived.RangeFuncBound
import Derived.OwnWalkIn
import Derived.LoopNIn
import Derived.LoopIn
import Derived.Shelf.RegionOpen
namespace Go.Proofs.YtjbcfpkibnhodaaGreatDoor.Ab
open Go Go.RowKit
set_option linter.unusedSimpArgs false
set_option maxHeartbeats 4000000
set_option maxRecDepth 100000
variable {G:Nat→Option AV}
theorem ta16 {α:Type} {l:List α} {i:Nat} {x:α} (h:l[i]? =some x):l.take (i+1)=l.take i++[x]:=by
 rw[List.take_add_one,h];rfl
end Go.Proofs.YtjbcfpkibnhodaaGreatDoor.Ab
namespace Go.Proofs.YtjbcfpkibnhodaaGreatDoor.Ab
open Go Go.RowKit
set_option linter.unusedSimpArgs false
set_option maxHeartbeats 4000000
set_option maxRecDepth 100000
variable {G:Nat→Option AV}
abbrev z8:AV:=.int .u8 0
end Go.Proofs.YtjbcfpkibnhodaaGreatDoor.Ab
namespace Go.Proofs.YtjbcfpkibnhodaaGreatDoor.Ab
open Go Go.RowKit
set_option linter.unusedSimpArgs false
set_option maxHeartbeats 4000000
set_option maxRecDepth 100000
variable {G:Nat→Option AV}
theorem ok_kind {v:Val} (h:v.ok=true):v.kind=1∨v.kind=2∨v.kind=3:=by
 unfold Val.ok at h
 split at h
 ·exact .inl ‹_›
 ·split at h
  ·exact .inr (.inl ‹_›)
  ·simp only[Bool.and_eq_true,decide_eq_true_eq] at h
   exact .inr (.inr h.1)
end Go.Proofs.YtjbcfpkibnhodaaGreatDoor.Ab
namespace Go.Proofs.YtjbcfpkibnhodaaGreatDoor.Ab
set_option linter.unusedSimpArgs false
open Go
set_option maxHeartbeats 4000000
variable {G:Nat→Option AV}
end Go.Proofs.YtjbcfpkibnhodaaGreatDoor.Ab
namespace Go.Proofs.YtjbcfpkibnhodaaGreatDoor.Ab
set_option linter.unusedSimpArgs false
open Go Go.RowKit
variable {G:Nat→Option AV} {P:Program}
end Go.Proofs.YtjbcfpkibnhodaaGreatDoor.Ab
namespace Go.Proofs.YtjbcfpkibnhodaaGreatDoor.Ab
set_option linter.unusedSimpArgs false
open Go Go.RowKit
variable {G:Nat→Option AV}
end Go.Proofs.YtjbcfpkibnhodaaGreatDoor.Ab
namespace Go.Proofs.YtjbcfpkibnhodaaGreatDoor.Ab
set_option linter.unusedSimpArgs false
open Go
set_option maxHeartbeats 4000000
variable {G:Nat→Option AV}
end Go.Proofs.YtjbcfpkibnhodaaGreatDoor.Ab
namespace Go.Proofs.YtjbcfpkibnhodaaGreatDoor.Ab
set_option linter.unusedSimpArgs false
open Go
set_option maxHeartbeats 4000000
variable {G:Nat→Option AV}
theorem nl13 {s:Str} (h:n13 s=true):s.length≤32:=by
 unfold n13 at h
 rw[Bool.and_eq_true] at h
 have h1:=h.1
 unfold s20 at h1
 split at h1
 ·cases h1
 ·simp only[Bool.and_eq_true,decide_eq_true_eq] at h1
  exact h1.1
theorem rp_ {q:QeaT} (h:r10 q=true):h15 q=true∧(allS (s26 q) q.trans 0 0).1=true∧allI (symR q) q.symbols=true:=by
 unfold r10 topR t13 s15 at h
 simp only[Bool.and_eq_true] at h
 exact⟨h.1.2.2.2.2,h.2.1.1,h.2.2.2.1⟩
end Go.Proofs.YtjbcfpkibnhodaaGreatDoor.Ab
namespace Go.Proofs.YtjbcfpkibnhodaaGreatDoor.Ab
set_option linter.unusedSimpArgs false
open Go
set_option maxHeartbeats 4000000
variable {G:Nat→Option AV}
end Go.Proofs.YtjbcfpkibnhodaaGreatDoor.Ab
namespace Go.Proofs.YtjbcfpkibnhodaaGreatDoor.Ab
set_option linter.unusedSimpArgs false
open Go Go.ChangeShapes Go.WideShapes Go.RowKit
set_option maxRecDepth 100000
end Go.Proofs.YtjbcfpkibnhodaaGreatDoor.Ab
namespace Go.Proofs.YtjbcfpkibnhodaaGreatDoor.Ab
open Go Go.RowKit
set_option linter.unusedSimpArgs false
set_option maxHeartbeats 4000000
set_option maxRecDepth 100000
variable {G:Nat→Option AV}
theorem da_ {α:Type} {l:List α} {i:Nat} {x:α} (hx:l[i]? =some x):l.drop i=x::l.drop (i+1):=by
 obtain⟨h1,rfl⟩:=List.getElem?_eq_some_iff.1 hx
 exact List.drop_eq_getElem_cons h1
end Go.Proofs.YtjbcfpkibnhodaaGreatDoor.Ab
namespace Go.Proofs.YtjbcfpkibnhodaaGreatDoor.Ab
open Go Go.RowKit
set_option linter.unusedSimpArgs false
set_option maxHeartbeats 4000000
set_option maxRecDepth 100000
variable {G:Nat→Option AV}
structure MaskQ (q:QeaT):Prop where
 states:q.states.length≤12
 symbols:q.symbols.length≤12
 trans:q.trans.length≤12
 sym:∀t∈q.trans,0≤t.symbol∧t.symbol<q.symbols.length
 to_:∀t∈q.trans,0≤t.to_∧t.to_<q.states.length
 start:0≤q.start∧q.start<q.states.length
end Go.Proofs.YtjbcfpkibnhodaaGreatDoor.Ab
namespace Go.Proofs.YtjbcfpkibnhodaaGreatDoor.Ab
open Go Go.RowKit
end Go.Proofs.YtjbcfpkibnhodaaGreatDoor.Ab
namespace Go.Proofs.YtjbcfpkibnhodaaGreatDoor.Ab
open Go Go.RowKit
set_option linter.unusedSimpArgs false
set_option maxHeartbeats 4000000
set_option maxRecDepth 100000
variable {G:Nat→Option AV}
end Go.Proofs.YtjbcfpkibnhodaaGreatDoor.Ab
namespace Go.Proofs.YtjbcfpkibnhodaaGreatDoor.Ab
open Go
set_option linter.unusedSimpArgs false
theorem wk_ {q:QeaT} {a r k:Int} (h:w_ (e10 q) a r k=true):∃(i:Nat) (e:ExT),r=i∧(e10 q)[i]? =some e∧e.kind=k∧¬e.kind=0:=by
 unfold w_ at h
 split at h
 ·cases h
 ·rename_i e he
  obtain⟨i,hi,hei⟩:=at?_some he
  simp only[Bool.and_eq_true,beq_iff_eq,Bool.not_eq_true',beq_eq_false_iff_ne,ne_eq,decide_eq_true_eq] at h
  exact⟨i,e,hi,hei,h.2.1,by rw[h.2.1];exact h.2.2.1⟩
end Go.Proofs.YtjbcfpkibnhodaaGreatDoor.Ab
namespace Go.Proofs.YtjbcfpkibnhodaaGreatDoor.Ab
open Go
set_option linter.unusedSimpArgs false
section
variable {α:Type} [DecidableEq α]
end
section
variable {α:Type} {lt:α→α→Bool} {ok:α→Prop}
end
end Go.Proofs.YtjbcfpkibnhodaaGreatDoor.Ab
namespace Go.Proofs.YtjbcfpkibnhodaaGreatDoor.Ab
open Go
set_option linter.unusedSimpArgs false
set_option maxHeartbeats 4000000
set_option maxRecDepth 100000
variable {G:Nat→Option AV}
end Go.Proofs.YtjbcfpkibnhodaaGreatDoor.Ab
namespace Go.Proofs.YtjbcfpkibnhodaaGreatDoor.Ab
open Go Go.RowKit Go.Shelf
attribute [local go_sem] Oper.semAt_some
set_option linter.unusedSimpArgs false
set_option maxHeartbeats 4000000
set_option maxRecDepth 100000
variable {G:Nat→Option AV}
end Go.Proofs.YtjbcfpkibnhodaaGreatDoor.Ab
namespace Go.Proofs.YtjbcfpkibnhodaaGreatDoor.Ab
open Go Go.RowKit Go.Shelf
attribute [local go_sem] Oper.semAt_some
set_option linter.unusedSimpArgs false
set_option maxHeartbeats 4000000
set_option maxRecDepth 100000
variable {G:Nat→Option AV}
end Go.Proofs.YtjbcfpkibnhodaaGreatDoor.Ab
namespace Go.Proofs.YtjbcfpkibnhodaaGreatDoor.Ab
open Go Go.RowKit
set_option linter.unusedSimpArgs false
set_option maxHeartbeats 4000000
set_option maxRecDepth 100000
variable {G:Nat→Option AV}
end Go.Proofs.YtjbcfpkibnhodaaGreatDoor.Ab
namespace Go.Proofs.YtjbcfpkibnhodaaGreatDoor.Ab
open Go
set_option linter.unusedSimpArgs false
end Go.Proofs.YtjbcfpkibnhodaaGreatDoor.Ab
namespace Go.Proofs.YtjbcfpkibnhodaaGreatDoor.Ab
open Go
set_option linter.unusedSimpArgs false
def okVs (l:List Val):Prop:=∀v∈l,v.ok=true
def o17 (c:CfgT):Prop:=okVs c.vals
end Go.Proofs.YtjbcfpkibnhodaaGreatDoor.Ab
namespace Go.Proofs.YtjbcfpkibnhodaaGreatDoor.Ab
open Go Go.RowKit
set_option linter.unusedSimpArgs false
set_option maxHeartbeats 4000000
set_option maxRecDepth 100000
variable {G:Nat→Option AV}
end Go.Proofs.YtjbcfpkibnhodaaGreatDoor.Ab
namespace Go.Proofs.YtjbcfpkibnhodaaGreatDoor.Ab
open Go
set_option linter.unusedSimpArgs false
structure HitT where
 symbol:Int
 bind:List SlotT
 frees:List SlotT
deriving DecidableEq
def F_ (q:QeaT) (s:SlotT):Prop:=∃(j:Nat) (f:FreeT),s.var=j∧q.frees[j]? =some f∧s.value.ok=true∧s.value.kind=f.init.kind
structure HitT.Ok (q:QeaT) (h:HitT):Prop where
 bl:h.bind.length≤1000000
 fl:h.frees.length≤1000000
 bok:∀s∈h.bind,VOk s.value
 fok:∀s∈h.frees,F_ q s∧i64 s.value.int
structure CfgT.Ok (q:QeaT) (c:CfgT):Prop where
 right:cfgR q c=true
 n64:∀v∈c.vals,i64 v.int
theorem CfgT.Ok.st {q:QeaT} {c:CfgT} (h:c.Ok q):0≤c.state∧c.state<q.states.length∧f17 c.vals q.frees=true:=by
 have:=h.right
 unfold cfgR at this
 simp only[Bool.and_eq_true,decide_eq_true_eq] at this
 exact⟨this.1,this.2.1,this.2.2⟩
theorem CfgT.Ok.vok {q:QeaT} {c:CfgT} (h:c.Ok q):o17 c:=fun v hv=>by
 obtain⟨j,hj⟩:=List.getElem?_of_mem hv
 obtain⟨a1,a2⟩:=fa11 h.st.2.2
 obtain⟨f,hf,_⟩:=as10 (l:=q.frees) (i:=j) (by have:=(List.getElem?_eq_some_iff.1 hj).1;omega)
 exact (a2 j v f hj hf).1
def SetK (q:QeaT) (s:SetT):Prop:=∃(e f:Nat) (x:ExT) (fr:FreeT),s.expr=e∧s.free=f∧(e10 q)[e]? =some x∧¬x.kind=0∧q.frees[f]? =some fr∧x.kind=fr.init.kind
structure TransK (q:QeaT) (t:TransT):Prop where
 from0:0≤t.from_
 fromL:t.from_<q.states.length
 to0:0≤t.to_
 toL:t.to_<q.states.length
 sym0:0≤t.symbol
 symL:t.symbol<q.symbols.length
 guard:0≤t.guard→K_ q t.guard.toNat
 sets:∀s∈t.sets,SetK q s
structure QeaT.Good (q:QeaT):Prop where
 tk:∀t∈q.trans,TransK q t
 n64:∀x∈q.nodes,i64 x.value.int
 fl:q.frees.length≤1000
 sl:q.states.length≤1000
theorem t19 {q:QeaT} (h:r10 q=true) {t:TransT} (ht:t∈q.trans):TransK q t:=by
 have hg:=(to12 h ht).1
 unfold r10 t13 at h
 simp only[Bool.and_eq_true] at h
 obtain⟨a,j,hs⟩:=aa13 h.2.1.1 t ht
 have hs:(t12 q t a).2=true:=hs
 have rest:∀a1,(r14 q t a a1).2=true→∀s∈t.sets,SetK q s:=fun a1 hr s hsm=>by
  unfold r14 at hr
  dsimp only at hr
  split at hr
  ·rename_i hall
   obtain⟨a2,k,hss⟩:=aa13 hall s hsm
   unfold s12 at hss
   split at hss
   ·cases hss
   ·rename_i f hf
    obtain⟨m,hm,hfm⟩:=at?_some hf
    split at hss
    ·cases hss
    ·split at hss
     ·rename_i hw
      obtain⟨e,x,he,hx,hk,hk0⟩:=wk_ hw
      exact⟨e,m,x,f,he,hm,hx,hk0,hfm,hk⟩
     ·cases hss
  ·cases hr
 unfold t12 at hs
 split at hs
 ·cases hs
 ·rename_i hin
  simp only[Bool.and_eq_false_iff,not_or,Bool.not_eq_false] at hin
  unfold inR at hin
  simp only[Bool.and_eq_true,decide_eq_true_eq] at hin
  obtain⟨⟨a1,a2⟩,⟨b1,b2⟩,c1,c2⟩:=hin
  refine⟨a1,a2,b1,b2,c1,c2,hg,?_⟩
  split at hs
  ·exact rest _ hs
  ·split at hs
   ·exact rest _ hs
   ·cases hs
def e16 (e:Int):Prop:=e=3∨e=6∨e=7∨e=8∨e=9
end Go.Proofs.YtjbcfpkibnhodaaGreatDoor.Ab
namespace Go.Proofs.YtjbcfpkibnhodaaGreatDoor.Ab
open Go
set_option linter.unusedSimpArgs false
theorem ed_ {q:QeaT} {i:Nat} {e:ExT} {x:NodeT} (he:(e10 q)[i]? =some e) (hk:¬e.kind=0) (hx:q.nodes[i]? =some x):
  (1≤x.op∧x.op≤3∧e.from_=i)∨(4≤x.op∧x.op≤5∧∃(j:Nat) (c:ExT),i=j+1∧x.a=j∧(e10 q)[j]? =some c∧¬c.kind=0∧c.from_=e.from_)∨
   (6≤x.op∧x.op≤16∧∃(j k:Nat) (b c:ExT),i=j+1∧x.b=j∧x.a=k∧k<j∧(e10 q)[j]? =some b∧¬b.kind=0∧b.from_=(k:Int)+1∧(e10 q)[k]? =some c∧¬c.kind=0∧c.from_=e.from_):=by
 have hlen:=el_ q q.nodes.length (Nat.le_refl _)
 have hi:=(List.getElem?_eq_some_iff.1 hx).1
 have hel:=el_ q i (by omega)
 have hok:exOk (exL q i):=eo_ q i (by omega)
 unfold e10 at he
 rw[eg_ hx _ hi (Nat.le_refl _)] at he
 simp only[Option.some.injEq] at he
 subst he
 unfold e12 at hk ⊢
 cases hleaf:l_ q i x with
 | some e=>
  dsimp only
  left
  have h1:=(lo_ hleaf).2
  unfold l_ at hleaf
  by_cases o1:x.op=1
  ·exact⟨by omega,by omega,h1⟩
  rw[if_neg o1] at hleaf
  by_cases o2:x.op=2
  ·exact⟨by omega,by omega,h1⟩
  rw[if_neg o2] at hleaf
  by_cases o3:x.op=3
  ·exact⟨by omega,by omega,h1⟩
  rw[if_neg o3] at hleaf
  cases hleaf
 | none=>
  right
  rw[hleaf] at hk
  dsimp only at hk ⊢
  split at hk
  ·exact absurd rfl hk
  rename_i hop
  rw[if_neg hop]
  have hop4:4≤x.op∧x.op≤16:=by
   constructor
   ·by_cases h:4≤x.op
    ·exact h
    ·exact absurd (.inl (by omega)) hop
   ·by_cases h:x.op≤16
    ·exact h
    ·exact absurd (.inr (.inl (by omega))) hop
  cases hb:at? (exL q i) ((i:Int) - 1) with
  | none=>rw[hb] at hk;exact absurd rfl hk
  | some bb=>
   rw[hb] at hk
   dsimp only at hk ⊢
   obtain⟨j,hj,hbj⟩:=at?_some hb
   split at hk
   ·exact absurd rfl hk
   rename_i hbk
   rw[if_neg hbk]
   split at hk
   ·rename_i h5
    left
    rw[if_pos h5]
    split at hk
    ·rename_i hc
     rw[if_pos hc]
     exact⟨hop4.1,h5,j,bb,by omega,by omega,ep10 (by omega) hbj,hbk,rfl⟩
    ·exact absurd rfl hk
   ·rename_i h5
    right
    rw[if_neg h5]
    split at hk
    ·rename_i hc
     rw[if_pos hc]
     cases ha:at? (exL q i) x.a with
     | none=>rw[ha] at hk;exact absurd rfl hk
     | some aa=>
      rw[ha] at hk
      dsimp only at hk ⊢
      split at hk
      ·exact absurd rfl hk
      rename_i hak
      rw[if_neg hak]
      obtain⟨k,hxk,hak'⟩:=at?_some ha
      have hbo:=hok j bb hbj
      exact⟨by omega,hop4.2,j,k,bb,aa,by omega,by omega,hxk,by omega,ep10 (by omega) hbj,hbk,by omega,ep10 (by omega) hak',hak,rfl⟩
    ·exact absurd rfl hk
theorem ef_ {q:QeaT}:∀(i:Nat) (e:ExT),(e10 q)[i]? =some e→¬e.kind=0→0≤e.from_∧e.from_≤i:=by
 intro i e he hk
 have hok:exOk (e10 q):=eo_ q q.nodes.length (Nat.le_refl _)
 have:=hok i e he
 omega
def C10 (q:QeaT) (a:Int) (i:Nat):Prop:=∀(j:Nat) (x:NodeT),a≤j→j≤i→q.nodes[j]? =some x→¬x.op=2∧¬x.op=3
theorem ec11 {q:QeaT} {b b':List SlotT} {vals vals':List Val}:∀(i:Nat) (e:ExT),(e10 q)[i]? =some e→¬e.kind=0→C10 q e.from_ i→ev q b vals i=ev q b' vals' i:=by
 intro i
 induction i using Nat.strongRecOn with
 | _ i ih=>
  intro e he hk hc
  have hlen:=el_ q q.nodes.length (Nat.le_refl _)
  have hi:i<q.nodes.length:=by
   have:=(List.getElem?_eq_some_iff.1 he).1
   unfold e10 at this
   omega
  obtain⟨x,hx,_⟩:=as10 hi
  have hr:=ef_ i e he hk
  rcases ed_ he hk hx with ⟨h1,h2,h3⟩ | ⟨h1,h2,j,c,rfl,h4,h5,h6,h7⟩ | ⟨h1,h2,j,k,bb,c,rfl,h4,h5,h6,h7,h8,h9,h10,h11,h12⟩
  ·have hn:=hc i x (by omega) (Nat.le_refl _) hx
   rw[ea_ hx,ea_ hx]
   have:x.op=1:=by omega
   unfold evN
   rw[if_pos this,if_pos this]
  ·have hj:=ih j (by omega) c h5 h6 fun j' x' a1 a2=>hc j' x' (by omega) (by omega)
   rw[eu_ hx (by omega) h4 (by omega),eu_ hx (by omega) h4 (by omega),hj]
  ·have hj:=ih j (by omega) bb h7 h8 fun j' x' a1 a2=>hc j' x' (by have:=ef_ k c h10 h11;omega) (by omega)
   have hk':=ih k (by omega) c h10 h11 fun j' x' a1 a2=>hc j' x' (by omega) (by omega)
   rw[eb_ hx ⟨h1,h2⟩ h5 h4 (by omega) (by omega),eb_ hx ⟨h1,h2⟩ h5 h4 (by omega) (by omega),hj,hk']
def f12 (a:Int) (t:TransT):Int:=match t.sets.getLast? with | some s=>s.expr+1 | none=>if 0≤t.guard then t.guard+1 else a
def f21 (l:List TransT) (i:Nat):Int:=(l.take i).foldl f12 0
theorem as26 {q:QeaT} {sets:List SetT}:∀{l:List SetT} {i:Nat} {a:Int},(allS (s12 q (e10 q) sets) l i a).1=true→(allS (s12 q (e10 q) sets) l i a).2=match l.getLast? with | some s=>s.expr+1 | none=>a
 | [],_,_,_ =>rfl
 | s::l,i,a,h=>by
  rw[allS] at h ⊢
  split at h
  ·rename_i hs
   rw[if_pos hs]
   have e:(s12 q (e10 q) sets a i s).2=s.expr+1:=by
    unfold s12 at hs ⊢
    split at hs
    ·cases hs
    ·split at hs
     ·cases hs
     ·split at hs
      ·rename_i hn hw
       rw[if_neg hn,if_pos hw]
      ·cases hs
   have:=as26 h
   rw[e] at this ⊢
   rw[this]
   cases l with
   | nil=>rfl
   | cons s' l=>first | (rw[List.getLast?_cons_cons];done) | (rw[List.getLast?_cons_cons];simp [List.getLast?_cons])
  ·cases h
theorem sf_ {q:QeaT} {t:TransT} {a:Int} (h:(t12 q t a).2=true):(t12 q t a).1=f12 a t∧(0≤t.guard→∃(g:Nat) (e:ExT),t.guard=g∧(e10 q)[g]? =some e∧e.kind=3∧e.from_=a)∧(t.guard= -1∨0≤t.guard):=by
 have rest:∀a1,(r14 q t a a1).2=true→(r14 q t a a1).1=match t.sets.getLast? with | some s=>s.expr+1 | none=>a1:=fun a1 hr=>by
  unfold r14 at hr ⊢
  dsimp only at hr ⊢
  split at hr
  ·rename_i hall
   rw[if_pos hall]
   exact as26 hall
  ·cases hr
 unfold t12 at h ⊢
 split at h
 ·cases h
 ·rename_i hin
  rw[if_neg hin]
  split at h
  ·rename_i hg
   rw[if_pos hg]
   refine⟨?_,fun h0=>by omega,.inl hg⟩
   rw[rest _ h]
   unfold f12
   rw[if_neg (by omega)]
  ·rename_i hg
   rw[if_neg hg]
   split at h
   ·rename_i hw
    rw[if_pos hw]
    obtain⟨g,e,h1,h2,h3,h4⟩:=wk_ hw
    refine⟨?_,fun _ =>⟨g,e,h1,h2,h3,?_⟩,.inr (by omega)⟩
    ·rw[rest _ h]
     unfold f12
     rw[if_pos (by omega)]
    ·unfold w_ at hw
     rw[h1,at?_nat h2] at hw
     simp only[Bool.and_eq_true,beq_iff_eq] at hw
     exact hw.2.2.2.1
   ·cases h
theorem fg_ {q:QeaT}:∀{l:List TransT} {i:Nat} {a:Int},(allS (s26 q) l i a).1=true→∀(k:Nat) (t:TransT),l[k]? =some t→(t12 q t ((l.take k).foldl f12 a)).2=true
 | [],_,_,_,k,t,h=>by simp at h
 | u::l,i,a,h,k,t,ht=>by
  rw[allS] at h
  split at h
  ·rename_i hs
   have hs':(t12 q u a).2=true:=hs
   cases k with
   | zero=>cases ht;exact hs'
   | succ k=>
    have h':=h
    rw[show (s26 q a i u).2=(t12 q u a).1 from rfl,(sf_ hs').1] at h'
    simpa using fg_ h' k t (by simpa using ht)
  ·cases h
theorem gf_ {q:QeaT} (hr:r10 q=true) {k:Nat} {t:TransT} (ht:q.trans[k]? =some t):(t.guard= -1∨0≤t.guard)∧(0≤t.guard→∃(g:Nat) (e:ExT),t.guard=g∧(e10 q)[g]? =some e∧e.kind=3∧e.from_=f21 q.trans k):=by
 unfold r10 t13 at hr
 simp only[Bool.and_eq_true] at hr
 obtain⟨_,h2,h3⟩:=sf_ (fg_ hr.2.1.1 k t ht)
 exact⟨h3,h2⟩
theorem fs17 {l:List TransT} {i:Nat} {t:TransT} (h:l[i]? =some t):f21 l (i+1)=f12 (f21 l i) t:=by
 unfold f21
 rw[List.take_add_one,h,List.foldl_append]
 rfl
end Go.Proofs.YtjbcfpkibnhodaaGreatDoor.Ab
namespace Go.Proofs.YtjbcfpkibnhodaaGreatDoor.Ab
open Go Go.RowKit
set_option linter.unusedSimpArgs false
set_option maxHeartbeats 4000000
set_option maxRecDepth 100000
variable {G:Nat→Option AV}
end Go.Proofs.YtjbcfpkibnhodaaGreatDoor.Ab
namespace Go.Proofs.YtjbcfpkibnhodaaGreatDoor.Ab
open Go Go.RowKit
set_option linter.unusedSimpArgs false
set_option maxHeartbeats 4000000
set_option maxRecDepth 100000
variable {G:Nat→Option AV}
end Go.Proofs.YtjbcfpkibnhodaaGreatDoor.Ab
namespace Go.Proofs.YtjbcfpkibnhodaaGreatDoor.Ab
open Go Go.ChangeShapes Go.WideShapes Go.RowKit
set_option linter.unusedSimpArgs false
set_option maxRecDepth 100000
end Go.Proofs.YtjbcfpkibnhodaaGreatDoor.Ab
namespace Go.Proofs.YtjbcfpkibnhodaaGreatDoor.Ab
open Go Go.RowKit
set_option linter.unusedSimpArgs false
abbrev sbT:Nat:=168
abbrev u8T:Nat:=5
def SbAt (B b:Nat) (p:Value) (bs:List Value) (w:World):Prop:=b<B∧∃v,w.heap[b]? =some (.cells #[p,v] sbT (0,0))∧w.ownsRow B u8T 1 v bs.length bs
def IsSb (B b:Nat) (bs:List Value) (w:World):Prop:=SbAt B b (.pointer none) bs w∨SbAt B b (.pointer (some ⟨b,0,none⟩)) bs w
def Rest (B b:Nat) (w w':World):Prop:=∀k,k<B→k≠b→w'.heap[k]? =w.heap[k]?
theorem Rest.refl (B b:Nat) (w:World):Rest B b w w:=fun _ _ _ =>rfl
theorem Rest.trans {B b:Nat} {w w' w'':World} (h:Rest B b w w') (h':Rest B b w' w''):Rest B b w w'':=fun k h1 h2=>(h' k h1 h2).trans (h k h1 h2)
theorem Rest.setCell {B b:Nat} {w w':World} (h:Rest B b w w') (i:Nat) (v:Value):Rest B b w (w'.setCell ⟨b,i,none⟩ v):=fun k h1 h2=>by
 simp only[World.setCell,Array.getElem?_modify]
 rw[if_neg (fun e=>h2 e.symm)]
 exact h k h1 h2
theorem SbAt.cell0 {B b:Nat} {p:Value} {bs:List Value} {w:World} (h:SbAt B b p bs w):w.cell? ⟨b,0,none⟩=some p:=by
 obtain⟨_,v,hb,_⟩:=h
 simp [World.cell?,hb]
theorem SbAt.shape {B b:Nat} {p:Value} {bs:List Value} {w:World} (h:SbAt B b p bs w):w.shape? b=some (sbT,2):=by
 obtain⟨_,v,hb,_⟩:=h
 simp [World.shape?,hb]
theorem SbAt.frozen0 {B b:Nat} {p:Value} {bs:List Value} {w:World} (h:SbAt B b p bs w):w.frozen? ⟨b,0,none⟩=false:=by
 obtain⟨_,v,hb,_⟩:=h
 simp [World.frozen?,hb]
theorem on11 {B b n:Nat} {v:Value} {bs:List Value} {w:World} (h:b<B) (ho:w.ownsRow B u8T 1 v n bs):v.ownBlock=none∨v.ownBlock≠some b:=by
 refine .inr fun e=>?_
 have:=(ho.lt b e).1
 omega
theorem SbAt.put {B b:Nat} {p v v':Value} {bs':List Value} {w:World} (hB:b<B) (hb:w.heap[b]? =some (.cells #[p,v] sbT (0,0))) (hown:w.ownsRow B u8T 1 v' bs'.length bs'):SbAt B b p bs' (w.setCell ⟨b,1,none⟩ v'):=
 ⟨hB,v',by simp [World.setCell,Array.getElem?_modify,hb],hown.kept (row:=some b) ⟨rfl,rfl,rfl,by simp [World.setCell],fun k _ hk=>Below.heap_setCell _ _ _ _ (fun e=>hk (by simp [e]))⟩ (on11 hB hown)⟩
theorem SbAt.used {B b:Nat} {p:Value} {bs:List Value} {w:World} (h:SbAt B b p bs w) (q:Value):SbAt B b q bs (w.setCell ⟨b,0,none⟩ q):=by
 obtain⟨hB,v,hb,hown⟩:=h
 exact⟨hB,v,by simp [World.setCell,Array.getElem?_modify,hb],hown.kept (row:=some b) ⟨rfl,rfl,rfl,by simp [World.setCell],fun k _ hk=>Below.heap_setCell _ _ _ _ (fun e=>hk (by simp [e]))⟩ (on11 hB hown)⟩
set_option maxHeartbeats 1000000 in
set_option maxRecDepth 100000 in
theorem scu_ (b:Nat) (w:World) (h0:w.cell? ⟨b,0,none⟩=some (.pointer (some ⟨b,0,none⟩))):
  Calls Tryz.prog 162 #[.pointer (some ⟨b,0,none⟩)] w fun e w'=>e= .returned (.tuple #[])∧w'=w:=by
 obtain⟨j,hj,_⟩:=Option.map_eq_some_iff.1 (show (Tryz.prog.info? 168).map (·.size)=some 2 by kernel_rfl)
 go_enter Tryz.func162,Tryz.ntmps162
 go_wp2
 rw[Lib.run_neq_ptr_same w _ Tryz.underlying166 hj]
 go_wp2
 go_end0
 exact⟨rfl,rfl⟩
set_option maxHeartbeats 1000000 in
set_option maxRecDepth 100000 in
theorem scf_ (b:Nat) (w:World) (h0:w.cell? ⟨b,0,none⟩=some (.pointer none)) (hsh:w.shape? b=some (sbT,2)) (hfz:w.frozen? ⟨b,0,none⟩=false):
  Calls Tryz.prog 162 #[.pointer (some ⟨b,0,none⟩)] w fun e w'=>e= .returned (.tuple #[])∧w'=w.setCell ⟨b,0,none⟩ (.pointer (some ⟨b,0,none⟩)):=by
 obtain⟨j,hj,hjs⟩:=Option.map_eq_some_iff.1 (show (Tryz.prog.info? 168).map (·.size)=some 2 by kernel_rfl)
 go_enter Tryz.func162,Tryz.ntmps162
 go_wp2
 rw[Lib.run_to_unsafe w ⟨b,0,none⟩ Tryz.underlying166 Tryz.underlying285 hj (by rw[hjs];decide) hsh (Nat.zero_lt_succ 1)]
 simp only[Result.andThen]
 rw[Oper.upon_value]
 go_wp2
 rw[run_callFunc_extern Tryz.func230 (by kernel_rfl) (by kernel_rfl) (by kernel_rfl) (e:=Extern.AbiNoEscape.same) (by kernel_rfl)]
 rw[Lib.run_noEscape]
 simp only[Result.andThen]
 rw[Oper.upon_value]
 go_wp2
 rw[Lib.run_from_unsafe w ⟨b,0,none⟩ Tryz.underlying285 Tryz.underlying166 hj hsh (by kernel_rfl)]
 simp only[Result.andThen]
 rw[Oper.upon_value]
 go_wp2
 go_end0
 exact⟨rfl,rfl⟩
theorem sc10 (B b:Nat) (bs:List Value) (w:World) (h:IsSb B b bs w):
  Calls Tryz.prog 162 #[.pointer (some ⟨b,0,none⟩)] w fun e w'=>e= .returned (.tuple #[])∧(SbAt B b (.pointer (some ⟨b,0,none⟩)) bs w'∧Below b w w'∧Rest B b w w'):=by
 rcases h with h | h
 ·refine (scf_ b w h.cell0 h.shape h.frozen0).mono ?_
  rintro e w' ⟨rfl,rfl⟩
  exact⟨rfl,h.used _,(Below.refl b w).setCell (p:=⟨b,0,none⟩) (Nat.le_refl _) _,(Rest.refl B b w).setCell 0 _⟩
 ·refine (scu_ b w h.cell0).mono ?_
  rintro e w' ⟨rfl,rfl⟩
  exact⟨rfl,h,Below.refl b _,Rest.refl B b _⟩
set_option maxHeartbeats 2000000 in
set_option maxRecDepth 100000 in
theorem sW_ (B b:Nat) (bs:List Value) (s:ByteArray) (w:World) (h:IsSb B b bs w) (hlen:bs.length+s.size≤140737488355328) (hBw:B≤w.heap.size):
  Calls Tryz.prog 101 #[.pointer (some ⟨b,0,none⟩),.string s] w fun e w'=>e= .returned (.tuple #[.int .i64 s.size,.nilIface])∧(IsSb B b (bs++Lib.strCells s) w'∧Below b w w'∧Rest B b w w'):=by
 obtain⟨i0,hi,hz0,hz1,hz2⟩:=info_parts (show (Tryz.prog.info? u8T).map (fun i=>(i.zero,i.size,i.bytes))=some (some (.int .u8 0),1,1) by kernel_rfl)
 go_enter Tryz.func101,Tryz.ntmps101
 go_wp2_with (go_at_call 162;refine (sc10 B b bs _ h).mono ?_)
 rintro e w1 ⟨rfl,h1,hb1,hr1⟩
 obtain⟨hB,v,hbk,hown⟩:=h1
 have hne:v.ownBlock≠some b:=fun e=>by
  have:=(hown.lt b e).1
  omega
 have c0:w1.cell? ⟨b,0,none⟩=some (.pointer (some ⟨b,0,none⟩)):=by rw[Lib.cell_of_heap hbk];rfl
 have c1:w1.cell? ⟨b,1,none⟩=some v:=by rw[Lib.cell_of_heap hbk];rfl
 go_wp2_with (at_builtin;refine Lib.wpList_append_own_string _ rfl _ _ 39 9 rfl B u8T i0 Tryz.underlying39 Tryz.underlying9 hi hz0 hz1 hz2 _ _ _ rfl hown s rfl ?c3 ?c4 ?c5 ?_)
 case c3=>unfold maxLen;omega
 case c4=>omega
 case c5=>have:=hb1.size;omega
 intro v' w2 hown' hgrow _
 have hlt:b<w1.heap.size:=by
  rcases Nat.lt_or_ge b w1.heap.size with h' | h'
  ·exact h'
  ·simp [Array.getElem?_eq_none h'] at hbk
 have hb2:w2.heap[b]? =some (.cells #[.pointer (some ⟨b,0,none⟩),v] sbT (0,0)):=by
  rw[hgrow.block b hlt (fun e=>hne e.symm)]
  exact hbk
 have hr2:Rest B b w1 w2:=fun k h1 h2=>hgrow.block k (by have:=hb1.size;omega) (fun e=>by
  have:=(hown.lt k e.symm).1
  omega)
 have d0:w2.cell? ⟨b,0,none⟩=some (.pointer (some ⟨b,0,none⟩)):=by rw[Lib.cell_of_heap hb2];rfl
 have d1:w2.cell? ⟨b,1,none⟩=some v:=by rw[Lib.cell_of_heap hb2];rfl
 have f1:w2.frozen? ⟨b,1,none⟩=false:=Lib.frozen_of_heap hb2 1
 obtain⟨ao,n',cap,rfl⟩:∃ao n' cap,v'= .slice ao n' cap:=by
  rcases hown'.2 with ⟨hv,_⟩ | ⟨g,cap,cur,hv,_⟩
  ·exact⟨_,_,_,hv⟩
  ·exact⟨_,_,_,hv⟩
 go_wp2
 go_ret2
 refine⟨rfl,.inr ?_,?_,?_⟩
 ·exact SbAt.put hB hb2 (bs':=bs++Lib.strCells s) (by simpa [Lib.strCells_length] using hown')
 ·exact (hb1.grown hgrow (by have:=hb1.size;omega) (fun k hk=>by have:=(hown.lt k hk).1;omega)).setCell (p:=⟨b,1,none⟩) (Nat.le_refl _) _
 ·exact (hr1.trans hr2).setCell 1 _
theorem sW10 (B b:Nat) (bs:List Value) (s:Str) (w:World) (h:IsSb B b bs w) (hlen:bs.length+s.length≤140737488355328) (hBw:B≤w.heap.size):
  Calls Tryz.prog 101 #[.pointer (some ⟨b,0,none⟩),.string ⟨s.toArray⟩] w fun e w'=>e= .returned (.tuple #[.int .i64 s.length,.nilIface])∧(IsSb B b (bs++Lib.byteCells s) w'∧Below b w w'∧Rest B b w w'):=by
 have hs:(⟨s.toArray⟩:ByteArray).size=s.length:=by simp [ByteArray.size]
 refine (sW_ B b bs ⟨s.toArray⟩ w h (by rw[hs];exact hlen) hBw).mono ?_
 rintro e w' ⟨rfl,h2,h3⟩
 rw[hs]
 exact⟨rfl,by rw[←Lib.strCells_toArray];exact h2,h3⟩
end Go.Proofs.YtjbcfpkibnhodaaGreatDoor.Ab
namespace Go.Proofs.YtjbcfpkibnhodaaGreatDoor.Ab
open Go
set_option linter.unusedSimpArgs false
def bfT (s:Int) (out:List Int) (t:TransT):List Int:=if t.from_=s∧t.to_∉out then out++[t.to_] else out
def bfS (l:List TransT) (s:Int) (out:List Int):List Int:=l.foldl (bfT s) out
def bfs (l:List TransT):Nat→Nat→List Int→List Int
 | 0,_,out=>out
 | f+1,i,out=>match out[i]? with
  | none=>out
  | some s=>bfs l f (i+1) (bfS l s out)
def toL (l:List TransT) (n:Nat) (s:Int):List Int:=bfs l (n+1) 0 [s]
theorem bp10 (s:Int) (out:List Int) (t:TransT):∃r,bfT s out t=out++r:=by
 unfold bfT
 split
 ·exact⟨_,rfl⟩
 ·exact⟨[],by simp⟩
theorem bp11:∀(l:List TransT) (s:Int) (out:List Int),∃r,bfS l s out=out++r
 | [],_,out=>⟨[],by simp [bfS]⟩
 | t::l,s,out=>by
  obtain⟨r1,h1⟩:=bp10 s out t
  obtain⟨r2,h2⟩:=bp11 l s (bfT s out t)
  exact⟨r1++r2,by rw[show bfS (t::l) s out=bfS l s (bfT s out t) from rfl,h2,h1,List.append_assoc]⟩
theorem pa11 {out r:List Int} {i:Nat} {s:Int} (h:out[i]? =some s):(out++r)[i]? =some s:=by
 rw[List.getElem?_append_left (List.getElem?_eq_some_iff.1 h).1]
 exact h
structure BfOk (l:List TransT) (n:Nat) (s:Int) (out:List Int):Prop where
 nd:out.Nodup
 rng:∀x∈out,0≤x∧x<n
 st:out[0]? =some s
 par:∀(j:Nat) y,out[j+1]? =some y→∃(i:Nat) (x:Int) (t:TransT),i≤j∧out[i]? =some x∧t∈l∧t.from_=x∧t.to_=y
theorem nl_:∀(n:Nat) (l:List Int),l.Nodup→(∀x∈l,0≤x∧x<n)→l.length≤n
 | 0,[],_,_ =>Nat.le_refl _
 | 0,x::l,_,h=>by have:=h x (by simp);omega
 | n+1,l,hn,h=>by
  by_cases hm:(n:Int)∈l
  ·have:=nl_ n (l.erase n) (hn.erase _) fun x hx=>by
    obtain⟨h1,h2⟩:=(List.Nodup.mem_erase_iff hn).1 hx
    have:=h x h2
    omega
   rw[List.length_erase_of_mem hm] at this
   omega
  ·refine Nat.le_succ_of_le (nl_ n l hn fun x hx=>?_)
   have:=h x hx
   have:x≠n:=fun e=>hm (e ▸ hx)
   omega
theorem BfOk.len {l:List TransT} {n:Nat} {s:Int} {out:List Int} (h:BfOk l n s out):out.length≤n:=nl_ n out h.nd h.rng
theorem bo12 {l:List TransT} {n:Nat} {s:Int} {out:List Int} (h:BfOk l n s out) {i:Nat} {x:Int} (hx:out[i]? =some x) {t:TransT} (ht:t∈l) (hto:0≤t.to_∧t.to_<n):BfOk l n s (bfT x out t):=by
 unfold bfT
 split
 ·rename_i hc
  have hi:=(List.getElem?_eq_some_iff.1 hx).1
  refine⟨?_,fun y hy=>?_,pa11 h.st,fun j y hy=>?_⟩
  ·rw[List.nodup_append]
   exact⟨h.nd,by simp,fun a ha b hb e=>by
    obtain rfl:=List.mem_singleton.1 hb
    exact hc.2 (e ▸ ha)⟩
  ·rcases List.mem_append.1 hy with hy | hy
   ·exact h.rng y hy
   ·obtain rfl:=List.mem_singleton.1 hy
    exact hto
  ·by_cases hj:j+1<out.length
   ·rw[List.getElem?_append_left hj] at hy
    obtain⟨i',x',t',g1,g2,g3⟩:=h.par j y hy
    exact⟨i',x',t',g1,pa11 g2,g3⟩
   ·have hjl:j+1=out.length:=by
     have:=(List.getElem?_eq_some_iff.1 hy).1
     simp only[List.length_append,List.length_cons,List.length_nil] at this
     omega
    rw[hjl,List.getElem?_append_right (Nat.le_refl _),Nat.sub_self] at hy
    cases hy
    exact⟨i,x,t,by omega,pa11 hx,ht,hc.1,rfl⟩
 ·exact h
theorem bo15 {l:List TransT} {n:Nat} {s:Int} (hto:∀t∈l,0≤t.to_∧t.to_<n) {i:Nat} {x:Int}:∀(k:List TransT),(∀t∈k,t∈l)→∀(out:List Int),BfOk l n s out→out[i]? =some x→BfOk l n s (bfS k x out)
 | [],_,_,h,_ =>h
 | t::k,hk,out,h,hx=>by
  obtain⟨r,hr⟩:=bp10 x out t
  have ht:=hk t (by simp)
  exact bo15 hto k (fun t h=>hk t (by simp [h])) _ (bo12 h hx ht (hto t ht)) (by rw[hr];exact pa11 hx)
theorem bc_:∀(l:List TransT) (x:Int) (out:List Int),∀t∈l,t.from_=x→t.to_∈bfS l x out
 | u::l,x,out,t,ht,hf=>by
  show t.to_∈bfS l x (bfT x out u)
  rcases List.mem_cons.1 ht with e | ht
  ·subst e
   obtain⟨r,hr⟩:=bp11 l x (bfT x out t)
   rw[hr]
   refine List.mem_append.2 (.inl ?_)
   unfold bfT
   split
   ·simp
   ·rename_i hc
    exact Classical.byContradiction fun hn=>hc ⟨hf,hn⟩
  ·exact bc_ l x _ t ht hf
theorem bo14 {l:List TransT} {n:Nat} {s:Int} (hto:∀t∈l,0≤t.to_∧t.to_<n):∀(f i:Nat) (out:List Int),BfOk l n s out→(∀(j:Nat) x,j<i→out[j]? =some x→∀t∈l,t.from_=x→t.to_∈out)→n<f+i→i≤out.length→
  BfOk l n s (bfs l f i out)∧∀x∈bfs l f i out,∀t∈l,t.from_=x→t.to_∈bfs l f i out
 | 0,i,out,h,hc,hf,hi=>by
  have:=h.len
  omega
 | f+1,i,out,h,hc,hf,hi=>by
  rw[bfs]
  cases hx:out[i]? with
  | none=>
   dsimp only
   refine⟨h,fun x hx2 t ht hft=>?_⟩
   obtain⟨j,hj⟩:=List.getElem?_of_mem hx2
   have h1:=(List.getElem?_eq_some_iff.1 hj).1
   have h2:=List.getElem?_eq_none_iff.1 hx
   exact hc j x (by omega) hj t ht hft
  | some x=>
   dsimp only
   obtain⟨r,hr⟩:=bp11 l x out
   have hl:=(List.getElem?_eq_some_iff.1 hx).1
   refine bo14 hto f (i+1) (bfS l x out) (bo15 hto l (fun _ h=>h) out h hx) (fun j y hj hy t ht hft=>?_) (by omega) (by rw[hr,List.length_append];omega)
   by_cases hji:j=i
   ·subst hji
    rw[hr,pa11 hx] at hy
    cases hy
    exact bc_ l _ out t ht hft
   ·rw[hr,List.getElem?_append_left (by omega)] at hy
    rw[hr]
    exact List.mem_append.2 (.inl (hc j y (by omega) hy t ht hft))
theorem to11 {l:List TransT} {n:Nat} {s:Int} (hto:∀t∈l,0≤t.to_∧t.to_<n) (hs:0≤s∧s<n):BfOk l n s (toL l n s)∧∀x∈toL l n s,∀t∈l,t.from_=x→t.to_∈toL l n s:=by
 refine bo14 hto (n+1) 0 [s] ⟨by simp,fun x hx=>?_,rfl,fun j y hy=>by simp at hy⟩ (fun j x hj=>by omega) (by omega) (by simp)
 obtain rfl:=List.mem_singleton.1 hx
 exact hs
def mkTo (out:List Bool) (t:TransT):List Bool:=if out[t.from_.toNat]? =some true then out.set t.to_.toNat true else out
def mkR (l:List TransT) (out:List Bool):List Bool:=l.foldl mkTo out
def mkN (l:List TransT):Nat→List Bool→List Bool
 | 0,out=>out
 | k+1,out=>mkN l k (mkR l out)
def toM (l:List TransT) (n:Nat) (s:Int):List Bool:=mkN l n ((List.replicate n false).set s.toNat true)
theorem ml11 (out:List Bool) (t:TransT):(mkTo out t).length=out.length:=by unfold mkTo;split <;> simp
theorem ml10:∀(l:List TransT) (out:List Bool),(mkR l out).length=out.length
 | [],_ =>rfl
 | t::l,out=>(ml10 l (mkTo out t)).trans (ml11 out t)
theorem ml12 (l:List TransT):∀(k:Nat) (out:List Bool),(mkN l k out).length=out.length
 | 0,_ =>rfl
 | k+1,out=>(ml12 l k _).trans (ml10 l out)
theorem tl13 (l:List TransT) (n:Nat) (s:Int):(toM l n s).length=n:=by unfold toM;rw[ml12];simp
theorem mm10 {out:List Bool} {t:TransT} {i:Nat} (h:out[i]? =some true):(mkTo out t)[i]? =some true:=by
 unfold mkTo
 split
 ·rw[List.getElem?_set]
  split
  ·rename_i e
   rw[if_pos (by rw[e];exact (List.getElem?_eq_some_iff.1 h).1)]
  ·exact h
 ·exact h
theorem mm_:∀(l:List TransT) {out:List Bool} {i:Nat},out[i]? =some true→(mkR l out)[i]? =some true
 | [],_,_,h=>h
 | t::l,_,_,h=>mm_ l (mm10 (t:=t) h)
theorem mh_:∀(l:List TransT) {out:List Bool} {t:TransT},t∈l→out[t.from_.toNat]? =some true→t.to_.toNat<out.length→(mkR l out)[t.to_.toNat]? =some true
 | u::l,out,t,ht,h,hl=>by
  show (mkR l (mkTo out u))[t.to_.toNat]? =some true
  rcases List.mem_cons.1 ht with e | ht
  ·subst e
   apply mm_
   unfold mkTo
   rw[if_pos h,List.getElem?_set]
   simp [hl]
  ·exact mh_ l ht (mm10 h) (by rw[ml11];exact hl)
theorem ms_ {l:List TransT} {S:Int→Prop} (hS:∀t∈l,S t.from_→S t.to_) (hr:∀t∈l,0≤t.from_∧0≤t.to_):∀(k:List TransT),(∀t∈k,t∈l)→∀(out:List Bool),(∀i:Nat,out[i]? =some true→S i)→∀i:Nat,(mkR k out)[i]? =some true→S i
 | [],_,_,h=>h
 | t::k,hk,out,h=>by
  refine ms_ hS hr k (fun t h=>hk t (by simp [h])) (mkTo out t) fun i hi=>?_
  have ht:=hk t (by simp)
  obtain⟨r1,r2⟩:=hr t ht
  unfold mkTo at hi
  split at hi
  ·rename_i hf
   rw[List.getElem?_set] at hi
   split at hi
   ·rename_i e
    have:=hS t ht (by have:=h _ hf;rwa [Int.toNat_of_nonneg r1] at this)
    rw[←e,Int.toNat_of_nonneg r2]
    exact this
   ·exact h i hi
  ·exact h i hi
theorem ms10 {l:List TransT} {S:Int→Prop} (hS:∀t∈l,S t.from_→S t.to_) (hr:∀t∈l,0≤t.from_∧0≤t.to_):∀(k:Nat) (out:List Bool),(∀i:Nat,out[i]? =some true→S i)→∀i:Nat,(mkN l k out)[i]? =some true→S i
 | 0,_,h=>h
 | k+1,out,h=>ms10 hS hr k _ (ms_ hS hr l (fun _ h=>h) out h)
theorem mh10 {l:List TransT} {n:Nat} {s:Int} {bl:List Int} (hb:BfOk l n s bl):∀(k q:Nat) (out:List Bool),out.length=n→(∀(j:Nat) x,j≤q→bl[j]? =some x→out[x.toNat]? =some true)→∀(j:Nat) x,j≤q+k→bl[j]? =some x→(mkN l k out)[x.toNat]? =some true
 | 0,q,out,_,h,j,x,hj,hx=>h j x hj hx
 | k+1,q,out,hl,h,j,x,hj,hx=>by
  rw[mkN]
  refine mh10 hb k (q+1) (mkR l out) (by rw[ml10];exact hl) (fun j x hj hx=>?_) j x (by omega) hx
  by_cases hjq:j≤q
  ·exact mm_ l (h j x hjq hx)
  ·have hjq:j=q+1:=by omega
   subst hjq
   obtain⟨i,y,t,h1,h2,h3,rfl,rfl⟩:=hb.par q x hx
   have hr:=hb.rng _ (List.mem_of_getElem? hx)
   exact mh_ l h3 (h i _ h1 h2) (by omega)
theorem to_eq {l:List TransT} {n:Nat} {s:Int} (hto:∀t∈l,0≤t.to_∧t.to_<n) (hfr:∀t∈l,0≤t.from_) (hs:0≤s∧s<n) (i:Nat) (hi:i<n):(toM l n s)[i]? =some (decide ((i:Int)∈toL l n s)):=by
 obtain⟨h1,h2⟩:=to11 hto hs
 obtain⟨b,hb⟩:∃b,(toM l n s)[i]? =some b:=⟨_,List.getElem?_eq_getElem (by rw[tl13];exact hi)⟩
 rw[hb]
 congr 1
 rw[Bool.eq_iff_iff,decide_eq_true_eq]
 constructor
 ·intro e
  subst e
  refine ms10 (l:=l) (S:=fun x=>x∈toL l n s) (fun t ht hf=>h2 _ hf t ht rfl) (fun t ht=>⟨hfr t ht,(hto t ht).1⟩) n _ (fun j hj=>?_) i hb
  rw[List.getElem?_set] at hj
  split at hj
  ·rename_i e
   have:(j:Int)=s:=by omega
   rw[this]
   exact List.mem_of_getElem? h1.st
  ·rw[List.getElem?_replicate] at hj
   split at hj <;> simp at hj
 ·intro hm
  obtain⟨j,hj⟩:=List.getElem?_of_mem hm
  have hjl:=(List.getElem?_eq_some_iff.1 hj).1
  have hlen:=h1.len
  have:=mh10 h1 n 0 ((List.replicate n false).set s.toNat true) (by simp) (fun j x hj hx=>by
   obtain rfl:j=0:=by omega
   rw[h1.st] at hx
   cases hx
   rw[List.getElem?_set]
   simp
   omega) j (i:Int) (by omega) hj
  rw[Int.toNat_natCast] at this
  unfold toM at hb
  rw[hb] at this
  exact Option.some.inj this
end Go.Proofs.YtjbcfpkibnhodaaGreatDoor.Ab
