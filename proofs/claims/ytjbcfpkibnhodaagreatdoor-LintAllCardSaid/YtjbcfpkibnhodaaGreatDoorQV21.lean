/-
  proctorref17.All, Under. step: what hits make of configurations and of sets: two ways. proctorref19: free, worse, fired. proctorref19: One, All. The binding of slots: the search's one is the document's (the end). proctorref08.Right; what hits of such an event are. N_ of an automaton that may be; the hits of an event of its schema. lint.Texts. lint.All and the reference's answer alike. The law LintAll. An automaton without the transitions that never fire: an event makes the same of configurations, if nothing goes wrong; and states that are reached. proctorlaw39.without, proctorref19.Event, proctorref18.Start. What hits make of states of an automaton without free variables and guards: the reference's configurations are the bits' states. subset.Hits; hits under a binding, of an automaton without free variables. The law LintTrue. How an automaton is read whose numbers are numbers, and events. No claim is proved here.
-/
import Derived.Test.YtjbcfpkibnhodaaGreatDoorQLi8
import Derived.Test.YtjbcfpkibnhodaaGreatDoorQLt2
namespace Go.Proofs.YtjbcfpkibnhodaaGreatDoor.Ab
open Go Go.RowKit
set_option linter.unusedSimpArgs false
set_option maxHeartbeats 4000000
set_option maxRecDepth 100000
variable {G:Nat→Option AV}
end Go.Proofs.YtjbcfpkibnhodaaGreatDoor.Ab
namespace Go.Proofs.YtjbcfpkibnhodaaGreatDoor.Ab
open Go
set_option linter.unusedSimpArgs false
theorem e16.pos {x:Int} (h:e16 x):0<x:=by unfold e16 at h;omega
end Go.Proofs.YtjbcfpkibnhodaaGreatDoor.Ab
namespace Go.Proofs.YtjbcfpkibnhodaaGreatDoor.Ab
open Go Go.RowKit
set_option linter.unusedSimpArgs false
set_option maxHeartbeats 4000000
set_option maxRecDepth 100000
variable {G:Nat→Option AV}
end Go.Proofs.YtjbcfpkibnhodaaGreatDoor.Ab
namespace Go.Proofs.YtjbcfpkibnhodaaGreatDoor.Ab
open Go Go.RowKit
set_option linter.unusedSimpArgs false
set_option maxHeartbeats 4000000
set_option maxRecDepth 100000
variable {G:Nat→Option AV}
def h8 (out:List CfgT):List (Nat×Box):=if out=[] then [(8,⟨true,taC_,2,[]⟩)] else []
end Go.Proofs.YtjbcfpkibnhodaaGreatDoor.Ab
namespace Go.Proofs.YtjbcfpkibnhodaaGreatDoor.Ab
open Go
set_option linter.unusedSimpArgs false
end Go.Proofs.YtjbcfpkibnhodaaGreatDoor.Ab
namespace Go.Proofs.YtjbcfpkibnhodaaGreatDoor.Ab
open Go Go.RowKit
set_option linter.unusedSimpArgs false
set_option maxHeartbeats 4000000
set_option maxRecDepth 100000
variable {G:Nat→Option AV}
end Go.Proofs.YtjbcfpkibnhodaaGreatDoor.Ab
namespace Go.Proofs.YtjbcfpkibnhodaaGreatDoor.Ab
open Go Go.RowKit
set_option linter.unusedSimpArgs false
set_option maxHeartbeats 4000000
set_option maxRecDepth 100000
theorem fz_ {α:Type} {f:Nat→α→Int}:∀(l:List α) (i:Nat),(f14 f l i).1=0→∀(j:Nat) x,l[j]? =some x→f (i+j) x=0
 | [],_,_,j,x,hx=>by simp at hx
 | y::l,i,h,j,x,hx=>by
  rw[f14] at h
  split at h
  ·rename_i h0
   cases j with
   | zero=>cases hx;exact h0
   | succ j=>
    have:=fz_ l (i+1) h j x (by simpa using hx)
    rw[show i+(j+1)=i+1+j by omega]
    exact this
  ·rename_i h0
   exact absurd h h0
theorem il12 {α:Type} {p:α→Bool} {l:List α} {i:Nat} {x:α} (hx:l[i]? =some x) (hp:p x=true):0≤idxF p l∧idxF p l≤i:=by
 have h0:decide (0≤idxF p l)=true:=by
  rw[ia_,List.any_eq_true]
  exact⟨x,List.mem_of_getElem? hx,hp⟩
 refine⟨by simpa using h0,?_⟩
 unfold idxF
 cases h:l.findIdx? p with
 | none=>dsimp only;omega
 | some k=>
  dsimp only
  rw[List.findIdx?_eq_some_iff_getElem] at h
  obtain⟨hk,_,hno⟩:=h
  obtain⟨hi,rfl⟩:=List.getElem?_eq_some_iff.1 hx
  rcases Nat.lt_or_ge i k with hlt | hge
  ·exact absurd hp (hno i hlt)
  ·omega
theorem nn11 {s:Str} (h:n13 s=true):s≠[]:=by
 rintro rfl
 exact absurd h (by decide)
theorem df_ {q:QeaT} (h:r10 q=true) {i:Nat} {d:DeclT} (hd:q.decls[i]? =some d):n13 d.name=true∧idxF (fun e:DeclT=>e.name==d.name) q.decls=i:=by
 unfold r10 topR at h
 simp only[Bool.and_eq_true] at h
 have h1:=h.1.1
 rw[beq_iff_eq] at h1
 unfold d10 at h1
 split at h1
 ·cases h1
 ·have h2:=fz_ q.decls 0 h1 i d hd
  rw[Nat.zero_add] at h2
  unfold d11 at h2
  split at h2
  ·cases h2
  ·rename_i hn
   split at h2
   ·cases h2
   ·rename_i hx
    have:=il12 (p:=fun e:DeclT=>e.name==d.name) hd (by simp)
    exact⟨by simpa using hn,by omega⟩
theorem no10 {q:QeaT} (h:q.LintQ):q.Named:=by
 have hsz:=fs11 h.few
 have hh:=(rp_ h.right).1
 unfold h15 at hh
 simp only[Bool.and_eq_true] at hh
 have hok:∀(l:List Str),allI (n18 l) l=true→∀s∈l,s≠[]∧s.length≤1000000:=fun l hl s hs=>by
  obtain⟨i,hi⟩:=List.getElem?_of_mem hs
  have:=at10.1 hl i s hi
  unfold n18 at this
  rw[Bool.and_eq_true] at this
  have h2:=nl13 this.1
  exact⟨nn11 this.1,by omega⟩
 refine⟨by omega,fun x hx=>hok _ hh.2.2.2.1 x.name (List.mem_map.2 ⟨x,hx,rfl⟩),fun x hx=>hok _ hh.2.2.1 x.name ?_,fun x hx=>?_⟩
 ·unfold QeaT.vars
  exact List.mem_append.2 (.inr (List.mem_map.2 ⟨x,hx,rfl⟩))
 ·obtain⟨i,hi⟩:=List.getElem?_of_mem hx
  have h1:=(df_ h.right hi).1
  have h2:=nl13 h1
  exact⟨nn11 h1,by omega⟩
end Go.Proofs.YtjbcfpkibnhodaaGreatDoor.Ab
namespace Go.Proofs.YtjbcfpkibnhodaaGreatDoor.Ab
open Go Go.RowKit
set_option linter.unusedSimpArgs false
variable {G:Nat→Option AV}
def t25 (q:QeaT):Str:=(allC q).flatMap fun o=>t16 q o.kind o.n++[10]
def t22 (q:QeaT) (l:List OddT):Str:=l.flatMap fun o=>t16 q o.kind o.n++[10]
theorem ts12 {q:QeaT} {l:List OddT} {i:Nat} {o:OddT} (h:l[i]? =some o):t22 q (l.take (i+1))=t22 q (l.take i)++(t16 q o.kind o.n++[10]):=by
 unfold t22
 rw[List.take_add_one,h]
 simp
theorem tl15 {q:QeaT} (hq:q.Named) (k n:Int):(t16 q k n).length≤1000010:=by
 have h1:=na_ hq k n
 unfold t16
 split
 ·simp
 ·rw[List.length_append]
  repeat' split
  all_goals (simp only[List.length_cons,List.length_nil];omega)
theorem tl10 {q:QeaT}:∀l:List OddT,(∀o∈l,(t16 q o.kind o.n).length≤1000010)→(t22 q l).length≤1000011*l.length
 | [],_ =>by simp [t22]
 | o::l,h=>by
  have h1:=h o (by simp)
  have h2:=tl10 l fun x hx=>h x (by simp [hx])
  unfold t22 at*
  rw[List.flatMap_cons,List.length_append,List.length_append,List.length_cons,List.length_cons,List.length_nil]
  omega
theorem sb_ {B B' b:Nat} {bs:List Value} {w:World} (h:IsSb B' b bs w) (h1:B≤b):Lib.IsBuilder sbT u8T B b bs w:=by
 have one:∀p,SbAt B' b p bs w→Lib.BuilderAt sbT u8T B b p bs w:=fun p h=>by
  obtain⟨hB,v,hbk,hown⟩:=h
  have hne:v.ownBlock≠some b:=fun e=>by
   have:=(hown.lt b e).1
   omega
  obtain⟨hl,ho⟩:=hown
  refine⟨h1,v,hbk,⟨hl,?_⟩,hne⟩
  rcases ho with h | ⟨g,cap,cur,hv,hBg,hg,rest⟩
  ·exact .inl h
  ·exact .inr ⟨g,cap,cur,hv,by omega,hg,rest⟩
 exact h.imp (one _) (one _)
theorem al13 {q:QeaT} (h:q.LintQ):(allC q).length≤72:=by
 have hsz:=fs11 h.few
 unfold allC l13
 simp only[List.flatten_cons,List.flatten_nil,List.append_nil,List.length_append]
 have h1:=gl_ 1 (pC1 q) q.states.length
 have h2:=gl_ 2 (pC2 q) q.states.length
 have h3:=gl_ 3 (pC3 q) q.frees.length
 have h4:=gl_ 4 (pC4 q) q.frees.length
 have h5:=gl_ 5 (pN q) q.trans.length
 have h6:=gl_ 6 (pU q) q.decls.length
 omega
theorem ta_ (a b:List UInt8):(⟨a.toArray⟩++⟨b.toArray⟩:ByteArray)=⟨(a++b).toArray⟩:=by
 apply ByteArray.ext
 simp
theorem tb10 {P:Program} {f:Nat} {args:List AV} {r:Str} (h:P_ P G f args (.str r)) {w:World} {F:Nat→Prop} {vs:Array Value} (hg:Good w F G) (ha:A_ w F args vs):Calls P f vs w fun e w'=>e= .returned (.string ⟨r.toArray⟩)∧Below w.heap.size w w':=by
 refine (h w F vs hg ha).mono ?_
 rintro e w' ⟨v,F',rfl,_,_,_,hr,hb⟩
 cases hr
 exact⟨rfl,hb⟩
theorem ro12 {w:World} {F:Nat→Prop} {L:List OddT} {v:Value} (h:Rd w F n10 (o14 L) v):∃a cap,v= .slice a L.length cap∧
  ∀(i:Nat) o,L[i]? =some o→∃g off,a=some ⟨g,off,none⟩∧F g∧L.length≤cap∧cap≤maxLen∧w.cell? ⟨g,off+i*2,none⟩=some (.int .i64 o.kind)∧w.cell? ⟨g,off+(i*2+1),none⟩=some (.int .i64 o.n):=by
 unfold o14 at h
 generalize hz:AV.seq 2 (L.map oddV)=z at h
 cases h with
 | seq0 _ sz a cap=>
  simp only[AV.seq.injEq] at hz
  have:L=[]:=by simpa using hz.2
  subst this
  exact⟨a,cap,rfl,fun i o ho=>by simp at ho⟩
 | seq _ sz es g o cap u h0 hF hc hm hss hw h1 hh=>
  simp only[AV.seq.injEq] at hz
  obtain⟨rfl,rfl⟩:=hz
  refine⟨_,cap,by rw[List.length_map],fun i od ho=>⟨g,o,rfl,hF,by simpa using hc,hm,?_,?_⟩⟩
  ·have hi:=(List.getElem?_eq_some_iff.1 ho).1
   have e:=hw (i*2) (by rw[List.length_map];omega)
   have r:=hh i (oddV od) 0 _ (by rw[List.getElem?_map,ho];rfl) rfl
   rw[Nat.add_zero] at r
   cases hu:u (i*2) with
   | int k n=>rw[hu] at r e;cases r;exact e
   | _ =>rw[hu] at r;cases r
  ·have hi:=(List.getElem?_eq_some_iff.1 ho).1
   have e:=hw (i*2+1) (by rw[List.length_map];omega)
   have r:=hh i (oddV od) 1 _ (by rw[List.getElem?_map,ho];rfl) rfl
   cases hu:u (i*2+1) with
   | int k n=>rw[hu] at r e;cases r;exact e
   | _ =>rw[hu] at r;cases r
 | _ =>cases hz
theorem sb10 {B b:Nat} {bs:List Value} {w w':World} (h:IsSb B b bs w) (hb:Below w.heap.size w w'):IsSb B b bs w':=by
 have one:∀p,SbAt B b p bs w→SbAt B b p bs w':=fun p h=>by
  obtain⟨hB,v,hbk,hl,hown⟩:=h
  refine⟨hB,v,by rw[hb.block b (Array.getElem?_eq_some_iff.1 hbk).1];exact hbk,hl,?_⟩
  rcases hown with h | ⟨g,cap,cur,hv,hBg,hg,rest⟩
  ·exact .inl h
  ·exact .inr ⟨g,cap,cur,hv,hBg,by rw[hb.block g (Array.getElem?_eq_some_iff.1 hg).1];exact hg,rest⟩
 exact h.imp (one _) (one _)
set_option maxHeartbeats 4000000 in
set_option maxRecDepth 100000 in
theorem tw_ (q:QeaT) (L:List OddT) (hLl:L.length≤1000) (hTl:∀o∈L,(t16 q o.kind o.n).length≤1000010) (hA:P_ Tryz.prog G nlA_ [qeaV q] (o14 L)) (hT:∀o∈L,P_ Tryz.prog G nl10 [qeaV q,.agg [iv o.kind,iv o.n]] (.str (t16 q o.kind o.n)))
  (w:World) (F:Nat→Prop) (hg:Good w F G) (c0 c1 c2 c3 c4 c5 c6 c7 c8:Value) (hq:Rd w F n10 (qeaV q) (.agg #[c0,c1,c2,c3,c4,c5,c6,c7,c8])):
  Calls Tryz.prog nlT_ #[.agg #[c0,c1,c2,c3,c4,c5,c6,c7,c8]] w fun e w'=>e= .returned (.string ⟨(t22 q L).toArray⟩)∧Below w.heap.size w w':=by
 have hb2:Below w.heap.size w ((w.alloc (.cells #[c0,c1,c2,c3,c4,c5,c6,c7,c8] taQ_)).alloc (.cells #[.pointer none,.slice none 0 0] sbT)):=((Below.refl _ w).alloc (Nat.le_refl _) _).alloc (by simp) _
 have hA2:=hA _ F #[.agg #[c0,c1,c2,c3,c4,c5,c6,c7,c8]] (gb_ hg (Nat.le_refl _) hb2) (ac12 (hq.mono (fun b h=>hb2.block b (hg.1 b h)) fun _ h=>h) an_)
 go_enter Tryz.func48,Tryz.ntmps48
 go_wp2_with (go_at_call 47;refine hA2.mono ?_)
 rintro e W3 ⟨v,F',rfl,hF1,hF2,hF3,hv,hb3⟩
 obtain⟨a,cap,rfl,hcell⟩:=ro12 hv
 have hs3:=hb3.size
 simp only[World.size_alloc] at hs3 hF2 hb3
 have f0:W3.heap[w.heap.size]? =some (.cells #[c0,c1,c2,c3,c4,c5,c6,c7,c8] taQ_ (0,0)):=by
  rw[hb3.block _ (by omega)]
  rw[heap_alloc_old _ _ (by rw[World.size_alloc];omega)]
  exact heap_alloc_new w _
 have f1:W3.heap[w.heap.size+1]? =some (.cells #[.pointer none,.slice none 0 0] sbT (0,0)):=by
  rw[hb3.block _ (by omega)]
  have:=heap_alloc_new (w.alloc (.cells #[c0,c1,c2,c3,c4,c5,c6,c7,c8] taQ_)) (.cells #[.pointer none,.slice none 0 0] sbT)
  rw[World.size_alloc] at this
  exact this
 have hS:SbAt W3.heap.size (w.heap.size+1) (.pointer none) [] W3:=⟨by omega,.slice none 0 0,f1,⟨rfl,.inl ⟨rfl,rfl⟩⟩⟩
 have hbW3:Below w.heap.size w W3:=hb2.trans (hb3.mono (by omega))
 go_wp2
 go_loopw [9] (fun v wr=>∃i:Nat,i≤L.length∧v= .int .i64 i∧IsSb W3.heap.size (w.heap.size+1) (Lib.byteCells (t22 q (L.take i))) wr∧Below w.heap.size w wr∧Rest W3.heap.size (w.heap.size+1) W3 wr∧W3.heap.size≤wr.heap.size) (fun v _ =>L.length - (intOf v).toNat)
 case atStart=>exact⟨0,Nat.zero_le _,rfl,.inl hS,hbW3,Rest.refl _ _ _,Nat.le_refl _⟩
 case round=>
  obtain⟨i,hi,rfl,hB,hb,hr,hz⟩:=hrel
  have hlen:=tl10 (L.take i) fun x hx=>hTl x (List.mem_of_mem_take hx)
  rw[List.length_take] at hlen
  by_cases hlt:i<L.length
  ·obtain⟨o,ho,hom⟩:=as10 hlt
   obtain⟨g,off,rfl,hFg,hc,hm,e1,e2⟩:=hcell i o ho
   have hgB:=hF3 g hFg
   have hgb:g≠w.heap.size+1:=by
    rcases hF2 g hFg with h | h
    ·have:=hg.1 g h
     omega
    ·omega
   have k1:wr.cell? ⟨g,off+i*2,none⟩=some (.int .i64 o.kind):=by rw[World.cell?_of_block (hr g hgB hgb)];exact e1
   have k2:wr.cell? ⟨g,off+i*2+1,none⟩=some (.int .i64 o.n):=by rw[World.cell?_of_block (hr g hgB hgb),Nat.add_assoc];exact e2
   have q0:wr.heap[w.heap.size]? =some (.cells #[c0,c1,c2,c3,c4,c5,c6,c7,c8] taQ_ (0,0)):=by rw[hr w.heap.size (by omega) (by omega)];exact f0
   have hl2:(i:Int)<(L.length:Int):=by omega
   have q4:(wr.alloc (.cells #[.int .i64 o.kind,.int .i64 o.n] 89)).heap[w.heap.size]? =some (.cells #[c0,c1,c2,c3,c4,c5,c6,c7,c8] taQ_ (0,0)):=by
    rw[heap_alloc_old _ _ (by omega)]
    exact q0
   have z0:(wr.alloc (.cells #[.int .i64 o.kind,.int .i64 o.n] 89)).cell? ⟨w.heap.size,0,none⟩=some c0:=by rw[Lib.cell_of_heap q4];rfl
   have z1:(wr.alloc (.cells #[.int .i64 o.kind,.int .i64 o.n] 89)).cell? ⟨w.heap.size,1,none⟩=some c1:=by rw[Lib.cell_of_heap q4];rfl
   have z2:(wr.alloc (.cells #[.int .i64 o.kind,.int .i64 o.n] 89)).cell? ⟨w.heap.size,2,none⟩=some c2:=by rw[Lib.cell_of_heap q4];rfl
   have z3:(wr.alloc (.cells #[.int .i64 o.kind,.int .i64 o.n] 89)).cell? ⟨w.heap.size,3,none⟩=some c3:=by rw[Lib.cell_of_heap q4];rfl
   have z4:(wr.alloc (.cells #[.int .i64 o.kind,.int .i64 o.n] 89)).cell? ⟨w.heap.size,4,none⟩=some c4:=by rw[Lib.cell_of_heap q4];rfl
   have z5:(wr.alloc (.cells #[.int .i64 o.kind,.int .i64 o.n] 89)).cell? ⟨w.heap.size,5,none⟩=some c5:=by rw[Lib.cell_of_heap q4];rfl
   have z6:(wr.alloc (.cells #[.int .i64 o.kind,.int .i64 o.n] 89)).cell? ⟨w.heap.size,6,none⟩=some c6:=by rw[Lib.cell_of_heap q4];rfl
   have z7:(wr.alloc (.cells #[.int .i64 o.kind,.int .i64 o.n] 89)).cell? ⟨w.heap.size,7,none⟩=some c7:=by rw[Lib.cell_of_heap q4];rfl
   have z8:(wr.alloc (.cells #[.int .i64 o.kind,.int .i64 o.n] 89)).cell? ⟨w.heap.size,8,none⟩=some c8:=by rw[Lib.cell_of_heap q4];rfl
   have hb4:Below w.heap.size w (wr.alloc (.cells #[.int .i64 o.kind,.int .i64 o.n] 89)):=hb.alloc (by omega) _
   have hro:Rd (wr.alloc (.cells #[.int .i64 o.kind,.int .i64 o.n] 89)) F n10 (.agg [iv o.kind,iv o.n]) (.agg #[.int .i64 o.kind,.int .i64 o.n]):=.agg _ [iv o.kind,iv o.n] [.int .i64 o.kind,.int .i64 o.n] rfl fun j c u hc hu=>by
    match j,hc,hu with
    | 0,hc,hu=>cases hc;cases hu;exact .int _ _ _
    | 1,hc,hu=>cases hc;cases hu;exact .int _ _ _
    | j+2,hc,hu=>simp at hc
   have hT4:=tb10 (hT o hom) (gb_ hg (Nat.le_refl _) hb4) (ac12 (hq.mono (fun b h=>hb4.block b (hg.1 b h)) fun _ h=>h) (ac12 hro an_))
   have hrt:=hTl o hom
   clear hT hTl hA hA2 hcell hv
   go_wp2_with (go_at_call 50;refine hT4.mono ?_)
   rintro e W5 ⟨rfl,b5⟩
   rw[World.size_alloc] at b5
   have b6:Below wr.heap.size wr W5:=((Below.refl _ wr).alloc (Nat.le_refl _) _).trans (b5.mono (by omega))
   have hs6:=b6.size
   have hWS:=sW10 W3.heap.size (w.heap.size+1) _ (t16 q o.kind o.n++[10]) W5 (sb10 hB b6) (by rw[Lib.byteCells_length,List.length_append,List.length_cons,List.length_nil];omega) (by omega)
   rw[←ta_] at hWS
   have hnx:=ts12 (q:=q) ho
   have hcat:¬9223372036854775807<(t16 q o.kind o.n).length+1:=by omega
   have hcat2:(t16 q o.kind o.n).length+1≤9223372036854775807:=by omega
   go_wp2_with (go_at_call 101;refine hWS.mono ?_)
   rintro e W7 ⟨rfl,hB7,b7,r7⟩
   go_wp2
   go_roundw
   case rel=>
    refine⟨i+1,hlt,by simp,?_,?_,?_,?_⟩
    ·rw[hnx,Lib.byteCells_append]
     exact hB7
    ·exact (hb.trans (b6.mono (by omega))).trans (b7.mono (by omega))
    ·exact (hr.trans (fun k h1 h2=>b6.block k (by omega))).trans r7
    ·have:=b7.size
     omega
   case measure=>
    simp [intOf]
    omega
  ·have hie:i=L.length:=by omega
   subst hie
   have hl2:¬(L.length:Int)<(L.length:Int):=by omega
   rw[List.take_length] at hB
   have hBb:=sb_ (B:=w.heap.size) hB (by omega)
   have hst:=Tryz.Builder_String_any w.heap.size (w.heap.size+1) _ _ hBb (by omega)
   go_wp2_with (go_at_call 102;refine hst.mono ?_)
   rintro e W5 ⟨rfl,b5⟩
   go_wp2
   intro b5
   go_wp2
   go_ret
   exact⟨rfl,hb.trans b5⟩
theorem lTb_ (hW:wg_ G) (q:QeaT) (hq:q.Few) (hr:r10 q=false):P_ Tryz.prog G nlT_ [qeaV q] (.str []):=by
 refine P_.of_str fun w F vs hg ha=>?_
 obtain⟨v,rfl,hv⟩:=a1_ ha
 obtain⟨us,rfl,hul,hr'⟩:=ra_ hv
 match us,hul,hv with
 | [c0,c1,c2,c3,c4,c5,c6,c7,c8],_,hv=>
  exact tw_ q [] (by simp) (fun o h=>by cases h) (lAb_ hW q hq hr) (fun o h=>by cases h) w F hg c0 c1 c2 c3 c4 c5 c6 c7 c8 hv
theorem lTp_ (hW:wg_ G) (hE:errG G) (hL:LintG G) {q:QeaT} (hq:q.LintQ):P_ Tryz.prog G nlT_ [qeaV q] (.str (t25 q)):=by
 have hnm:=no10 hq
 have hl:=al13 hq
 refine P_.of_str fun w F vs hg ha=>?_
 obtain⟨v,rfl,hv⟩:=a1_ ha
 obtain⟨us,rfl,hul,hr⟩:=ra_ hv
 match us,hul,hv with
 | [c0,c1,c2,c3,c4,c5,c6,c7,c8],_,hv=>
  exact tw_ q (allC q) (by omega) (fun o _ =>tl15 hnm o.kind o.n) (lAp_ hW hE hq) (fun o _ =>lT10 hL q hnm.trans o.kind o.n (na_ hnm o.kind o.n)) w F hg c0 c1 c2 c3 c4 c5 c6 c7 c8 hv
end Go.Proofs.YtjbcfpkibnhodaaGreatDoor.Ab
namespace Go.Proofs.YtjbcfpkibnhodaaGreatDoor.Ab
open Go Go.RowKit
set_option linter.unusedSimpArgs false
set_option maxHeartbeats 4000000
set_option maxRecDepth 100000
theorem as18 {α:Type} {p p':α→Bool}:∀{l:List α},(∀x∈l,p x=p' x)→l.any p=l.any p'
 | [],_ =>rfl
 | x::l,h=>by rw[List.any_cons,List.any_cons,h x List.mem_cons_self,as18 fun y hy=>h y (List.mem_cons_of_mem _ hy)]
theorem nf_ {q:QeaT} (h:q.LintQ) {x:NodeT} (hx:x∈q.nodes) (ho:x.op=3):x.b=0∧x.value=v0:=by
 obtain⟨i,hi⟩:=List.getElem?_of_mem hx
 have hlt:=(List.getElem?_eq_some_iff.1 hi).1
 obtain⟨e,he,hk⟩:=ak_ h.right i hlt
 have hg:=eg_ hi q.nodes.length hlt (Nat.le_refl _)
 rw[show exL q q.nodes.length=e10 q from rfl,he] at hg
 refine Decidable.by_contra fun hn=>hk ?_
 have hl:l_ q i x=none:=by
  unfold l_
  rw[if_neg (by omega),if_neg (by omega),if_pos ho,if_neg hn]
 rw[Option.some.inj hg]
 unfold e12
 rw[hl]
 dsimp only
 rw[if_pos (.inl (by omega))]
theorem rs17 {q:QeaT} (h:q.LintQ) (f:Int):(q.nodes.any fun x=>f22 f==x)=r15 q f:=by
 refine as18 fun x hx=>?_
 obtain⟨op,a,b,v⟩:=x
 by_cases ho:op=3
 ·obtain⟨h1,h2⟩:=nf_ h hx ho
  dsimp only at h1 h2
  subst ho h1 h2
  rw[Bool.eq_iff_iff]
  simp only[f22,beq_iff_eq,NodeT.mk.injEq,Bool.and_eq_true,true_and,and_true]
  exact eq_comm
 ·rw[Bool.eq_iff_iff]
  simp only[f22,beq_iff_eq,NodeT.mk.injEq,Bool.and_eq_true]
  exact⟨fun h=>absurd h.1.symm ho,fun h=>absurd h.1 ho⟩
theorem ss16 {q:QeaT} (h:q.LintQ) (f:Int) (t:TransT):s21 q f t=s29 q f t:=by
 unfold s21 s29
 cases hs:at? q.symbols t.symbol with
 | none=>rfl
 | some s=>
  dsimp only
  obtain⟨j,_,hj⟩:=at?_some hs
  have hsy:=at10.1 (rp_ h.right).2.2 j s hj
  unfold symR symS at hsy
  rw[Bool.and_eq_true] at hsy
  have hz:=hsy.1
  cases hd:at? q.decls s.event with
  | none=>rw[hd] at hz;cases hz
  | some d=>
   rw[hd] at hz
   dsimp only at hz
   refine as18 fun a ha=>?_
   obtain⟨k,_,hat⟩:=zm_ hz a ha
   obtain⟨ak,an,av⟩:=a
   unfold argS at hat
   dsimp only at hat
   by_cases hk:ak=3
   ·subst hk
    rw[if_neg (by omega),if_neg (by omega),if_pos rfl] at hat
    have hv:av=v0:=by
     split at hat
     ·cases hat
     ·simp only[Bool.and_eq_true,decide_eq_true_eq] at hat
      exact hat.2
    subst hv
    rw[Bool.eq_iff_iff]
    simp only[f23,beq_iff_eq,ArgT.mk.injEq,Bool.and_eq_true,true_and,and_true]
    exact eq_comm
   ·rw[Bool.eq_iff_iff]
    simp only[f23,beq_iff_eq,ArgT.mk.injEq,Bool.and_eq_true]
    exact⟨fun h=>absurd h.1.symm hk,fun h=>absurd h.1 hk⟩
theorem cs21 {q:QeaT} (h:q.LintQ) (f:Int):c16 q f=c12 q f:=by
 unfold c16 c12
 exact as18 fun t _ =>by rw[ss16 h]
theorem si_:∀{l:List StateT} {m:List Bool},s16 l m=true↔∀(i:Nat) x,l[i]? =some x→m[i]? =some true→(!x.accept||x.next)=false
 | [],_ =>by simp [s16]
 | _ ::_,[]=>by simp [s16]
 | x::l,b::m=>by
  rw[s16,Bool.and_eq_true,si_]
  constructor
  ·rintro⟨h1,h2⟩ i y hy hm
   cases i with
   | zero=>
    simp only[List.getElem?_cons_zero,Option.some.injEq] at hy hm
    subst hy hm
    rw[Bool.true_and] at h1
    simpa only[Bool.not_eq_true'] using h1
   | succ i=>exact h2 i y (by simpa using hy) (by simpa using hm)
  ·intro h
   refine⟨?_,fun i y hy hm=>h (i+1) y (by simpa using hy) (by simpa using hm)⟩
   cases b
   ·rfl
   ·have h0:=h 0 x rfl rfl
    rw[Bool.true_and,h0]
    rfl
theorem di_:∀{l:List StateT} {m:List Bool},d14 l m=true↔∀(i:Nat) x,l[i]? =some x→m[i]? =some true→x.accept=false
 | [],_ =>by simp [d14]
 | _ ::_,[]=>by simp [d14]
 | x::l,b::m=>by
  rw[d14,Bool.and_eq_true,di_]
  constructor
  ·rintro⟨h1,h2⟩ i y hy hm
   cases i with
   | zero=>
    simp only[List.getElem?_cons_zero,Option.some.injEq] at hy hm
    subst hy hm
    rw[Bool.true_and] at h1
    simpa only[Bool.not_eq_true'] using h1
   | succ i=>exact h2 i y (by simpa using hy) (by simpa using hm)
  ·intro h
   refine⟨?_,fun i y hy hm=>h (i+1) y (by simpa using hy) (by simpa using hm)⟩
   cases b
   ·rfl
   ·have h0:=h 0 x rfl rfl
    rw[Bool.true_and,h0]
    rfl
theorem am11 {q:QeaT} {s:Int} (h:q.LintQ) (hs:0≤s∧s<q.states.length) (p:StateT→Bool):
  ((toL q.trans q.states.length s).any fun y=>match at? q.states y with | some x=>p x | none=>false)=false↔∀(i:Nat) x,q.states[i]? =some x→(toM q.trans q.states.length s)[i]? =some true→p x=false:=by
 have hti:=h.trans_in
 obtain⟨hok,_⟩:=to11 (l:=q.trans) (n:=q.states.length) (s:=s) (fun t ht=>(hti t ht).2) hs
 have he:=fun i hi=>to_eq (l:=q.trans) (n:=q.states.length) (s:=s) (fun t ht=>(hti t ht).2) (fun t ht=>(hti t ht).1.1) hs i hi
 rw[List.any_eq_false]
 constructor
 ·intro ha i x hx hm
  have hlt:=(List.getElem?_eq_some_iff.1 hx).1
  rw[he i hlt,Option.some.injEq,decide_eq_true_eq] at hm
  have:=ha _ hm
  rw[at?_nat hx] at this
  simpa using this
 ·intro ha y hy
  obtain⟨h0,h1⟩:=hok.rng y hy
  obtain⟨j,rfl⟩:=Int.eq_ofNat_of_zero_le h0
  obtain⟨x,hx,_⟩:=as10 (l:=q.states) (i:=j) (by omega)
  have:=ha j x hx (by rw[he j (by omega)];simp [hy])
  rw[at?_nat hx]
  simpa using this
theorem ks14 {q:QeaT} (h:q.LintQ) (s:Nat) (hs:s<q.states.length):k16 q s=k12 q s:=by
 have hb:(0:Int)≤s∧(s:Int)<q.states.length:=by omega
 have h1:(!((toL q.trans q.states.length (s:Int)).any (b16 q)))=s16 q.states (toM q.trans q.states.length (s:Int)):=by
  rw[Bool.eq_iff_iff,si_,Bool.not_eq_true']
  exact am11 h hb fun y=>!y.accept||y.next
 have h2:(!((toL q.trans q.states.length (s:Int)).any (a32 q)))=d14 q.states (toM q.trans q.states.length (s:Int)):=by
  rw[Bool.eq_iff_iff,di_,Bool.not_eq_true']
  exact am11 h hb fun y=>y.accept
 unfold k16 k12
 rw[h1,h2]
theorem ms11 {q:QeaT} (h:q.LintQ) (i:Nat) (hi:i<q.states.length):((toL q.trans q.states.length q.start).any fun y=>(i:Int)==y)=m11 q i:=by
 have hti:=h.trans_in
 unfold m11
 rw[to_eq (fun t ht=>(hti t ht).2) (fun t ht=>(hti t ht).1.1) h.start_in i hi,Option.getD_some,Bool.eq_iff_iff,List.any_eq_true,decide_eq_true_eq]
 constructor
 ·rintro⟨y,hy,he⟩
  rw[beq_iff_eq] at he
  rw[he]
  exact hy
 ·intro hy
  exact⟨_,hy,by simp⟩
theorem as60 {q:QeaT} (h:q.LintQ):allC q=allR q:=by
 unfold allC l13 allR
 rw[gc_ (k:=1) (p:=pC1 q) (p':=pR1 q) fun i hi=>by unfold pC1 pR1;rw[ms11 h i hi],
  gc_ (k:=2) (p:=pC2 q) (p':=pR2 q) fun i hi=>by unfold pC2 pR2;rw[ms11 h i hi,ks14 h i hi],
  gc_ (k:=3) (p:=pC3 q) (p':=pR3 q) fun i _ =>by unfold pC3 pR3;rw[rs17 h],
  gc_ (k:=4) (p:=pC4 q) (p':=pR4 q) fun i _ =>by unfold pC4 pR4;rw[cs21 h]]
 simp only[List.flatten_cons,List.flatten_nil,List.nil_append,List.append_nil,List.append_assoc]
end Go.Proofs.YtjbcfpkibnhodaaGreatDoor.Ab
namespace Go.Proofs.YtjbcfpkibnhodaaGreatDoor.Ab
open Go Go.RowKit
set_option linter.unusedSimpArgs false
set_option maxHeartbeats 4000000
set_option maxRecDepth 100000
variable {G:Nat→Option AV}
def q15:QeaT:=⟨[113],[],[],[],[⟨[115],false,false⟩],0,[],[],[]⟩
theorem ql_:q15.LintQ:=⟨by decide,by decide,fun x hx=>(by cases hx),fun x hx=>(by cases hx)⟩
theorem lap_ (hW:wg_ G) (hE:errG G) (hL:LintG G):P_ Tryz.prog G np10 [] (.bool true):=by
 have ht:=lTp_ hW hE hL ql_
 rw[show t25 q15=[100,101,97,100,32,115,10] by decide] at ht
 have hf:FitL [.agg [.str [113],.nils,.nils,.nils,.seq 3 [.agg [.str [115],.bool false,.bool false]],iv 0,.nils,.nils,.nils]] [qeaV q15]:=by
  refine⟨.agg _ _ rfl fun j c d hc hd=>?_,trivial⟩
  match j,hc,hd with
  | 0,hc,hd=>cases hc;cases hd;exact .refl _
  | 1,hc,hd=>cases hc;cases hd;exact .nil _
  | 2,hc,hd=>cases hc;cases hd;exact .nil _
  | 3,hc,hd=>cases hc;cases hd;exact .nil _
  | 4,hc,hd=>cases hc;cases hd;exact .refl _
  | 5,hc,hd=>cases hc;cases hd;exact .refl _
  | 6,hc,hd=>cases hc;cases hd;exact .nil _
  | 7,hc,hd=>cases hc;cases hd;exact .nil _
  | 8,hc,hd=>cases hc;cases hd;exact .nil _
  | j+9,hc,hd=>cases hc
 refine pp20 fun c hc=>Runs.of fun Φ h=>?_
 subst hc
 unfold cpa_
 have e0:(([100,101,97,100,32,115,10]:List UInt8)==[100,101,97,100,32,115,10])=true:=by decide
 repeat' (first | (simp -implicitDefEqProofs only[go_sem,e0]) | refine ag_ (fun hb=>?_) (fun hb=>?_) | refine⟨fun hb=>?_,fun hb=>?_⟩ | (refine acf_ ht rfl hf rfl ?_) | fail)
 exact h _ ⟨_,_,rfl,rfl,.refl _⟩
theorem tl12 {q:QeaT} (hq:q.Named) (k n:Int):(t14 q k n).length≤1000010:=by
 have h1:=na_ hq k n
 rw[←ts11 hq]
 unfold t16
 split
 ·simp
 ·rw[List.length_append]
  repeat' split
  all_goals (simp only[List.length_cons,List.length_nil];omega)
def t18 (q:QeaT) (l:List OddT):Str:=l.flatMap fun o=>t14 q o.kind o.n++[10]
theorem ts14 {q:QeaT} (h:q.LintQ):t25 q=t18 q (allC q):=by
 unfold t25 t18
 congr 1
 funext o
 rw[ts11 (no10 h)]
theorem ts13 {q:QeaT} {l:List OddT} {i:Nat} {o:OddT} (h:l[i]? =some o):t18 q (l.take (i+1))=t18 q (l.take i)++t14 q o.kind o.n++[10]:=by
 unfold t18
 rw[ta16 h,List.flatMap_append]
 simp
theorem tl11 {q:QeaT} (hq:q.Named):∀l:List OddT,(t18 q l).length≤1000011*l.length
 | []=>by simp [t18]
 | o::l=>by
  have h1:=tl12 hq o.kind o.n
  have h2:=tl11 hq l
  unfold t18 at*
  rw[List.flatMap_cons,List.length_append,List.length_append,List.length_cons,List.length_cons,List.length_nil]
  omega
theorem lLp_ (hW:wg_ G) (hE:errG G) (hL:LintG G) (q:QeaT) (hn64:∀x∈q.nodes,i64 x.value.int) (hf64:∀x∈q.frees,i64 x.init.int) (k n:Int):P_ Tryz.prog G np29 [qeaV q,iv k,iv n] (.bool true):=by
 have ha:=lap_ hW hE hL
 have hfw:=rF11 (G:=G) q
 refine pp11 (Runs.of fun Φ h=>?_)
 unfold cp12
 cases hf:fewQ q with
 | false=>
  rw[hf,if_neg (by decide)] at hfw
  simp only[qeaV,d_,q_,f_,s_,s10,n_,t_] at hfw
  repeat' (first | (simp -implicitDefEqProofs only[go_sem,qeaV,d_,q_,f_,s_,s10,n_,t_]) | refine ag_ (fun hb=>?_) (fun hb=>?_) | refine⟨fun hb=>?_,fun hb=>?_⟩ | refine ac_ (hfw) rfl rfl ?_ | refine ac_ (ha) rfl rfl ?_ | fail)
  exact h _ ⟨_,_,rfl,rfl,.refl _⟩
 | true=>
  rw[hf,if_pos rfl] at hfw
  have hfew:=fo_ q hf
  have hr13:=rR10 (G:=G) q hfew
  cases hz:r10 q with
  | false=>
   rw[hz] at hr13
   have hal:=lAb_ hW q hfew hz
   have htx:=lTb_ hW q hfew hz
   simp only[qeaV,d_,q_,f_,s_,s10,n_,t_,o14,List.map_nil] at hfw hr13 hal htx
   have e0:(([]:List UInt8)==[])=true:=rfl
   have hz0:((0:Nat):Int)=0:=rfl
   have e1:((0:Int)==0)=true:=rfl
   repeat' (first | (simp -implicitDefEqProofs only[go_sem,qeaV,d_,q_,f_,s_,s10,n_,t_,List.length_nil,e0,hz0,e1]) | refine ag_ (fun hb=>?_) (fun hb=>?_) | refine⟨fun hb=>?_,fun hb=>?_⟩ | refine ac_ (hfw) rfl rfl ?_ | refine ac_ (hal) rfl rfl ?_ | refine ac_ (hr13) rfl rfl ?_ | refine ac_ (htx) rfl rfl ?_ | refine ac_ (ha) rfl rfl ?_ | fail)
   exact h _ ⟨_,_,rfl,rfl,.refl _⟩
  | true=>
   rw[hz] at hr13
   have hq:q.LintQ:=⟨hf,hz,hn64,hf64⟩
   have hnm:=no10 hq
   have hal:=lAp_ hW hE hq
   have har:=rAp_ (G:=G) hq
   rw[←as60 hq] at har
   have hlt:=lT10 hL q (by have:=hnm.trans;omega) k n (na_ hnm k n)
   rw[ts11 hnm] at hlt
   have hl3:=ltp_ (G:=G) q hnm k n
   have hl4:=fun (a b:Int)=>ltp_ (G:=G) q hnm a b
   have htx:=lTp_ hW hE hL hq
   rw[ts14 hq] at htx
   have hll:=al13 hq
   have htl:=fun l=>tl11 hnm (q:=q) l
   have hln:=fun a b=>tl12 hnm a b
   have hsc:=fun (l:List OddT) (i:Nat) (o:OddT) (hx:l[i]? =some o)=>ts13 (q:=q) hx
   have hz0:t18 q []=[]:=rfl
   generalize allC q=L at*
   have hlL:=htl L
   generalize t14 q k n=tx at*
   have e1:(tx != tx)=false:=by simp
   have e2:((L.length:Int) != (L.length:Int))=false:=by simp
   simp only[qeaV,d_,q_,f_,s_,s10,n_,t_,o14] at hfw hr13 hal har hlt hl3 hl4 htx
   repeat' (first | (simp -implicitDefEqProofs only[go_sem,qeaV,d_,q_,f_,s_,s10,n_,t_,List.length_map,e1,e2]) | refine ag_ (fun hb=>?_) (fun hb=>?_) | refine⟨fun hb=>?_,fun hb=>?_⟩ | refine ac_ (hfw) rfl rfl ?_ | refine ac_ (hal) rfl rfl ?_ | refine ac_ (hr13) rfl rfl ?_ | refine ac_ (har) rfl rfl ?_ | refine ac_ (hlt) rfl rfl ?_ | refine ac_ (hl3) rfl rfl ?_ | fail)
   clear hlt hl3
   refine al_ (fun n' st=>∃(i:Nat) (m:Str),i+n'=L.length∧st=⟨102,[(3,.ref 3 0 0),(7,.seq 2 (L.map oddV)),(8,.seq 2 (L.map oddV)),(9,.str m),(10,iv i)],[(3,⟨false,taQ_,9,[qeaV q]⟩)]⟩∧m=t18 q (L.take i)) L.length ⟨0,[],by simp,by first | rfl | (simp [qeaV,d_,q_,f_,s_,s10,n_,t_];done) | (simp [qeaV,d_,q_,f_,s_,s10,n_,t_];rfl),rfl⟩ ?_
   rintro I hI n' st ⟨i,m,hi,rfl,hm⟩
   by_cases hlt':i<L.length
   ·obtain⟨o,ho,_⟩:=as10 hlt'
    have hw:=ws_ hlt' (by omega)
    have hlt:((i:Int)<(L.length:Int))=True:=by simp;exact hlt'
    have hnx:=hsc L i o ho
    rw[←hm] at hnx
    have hml:=htl (L.take i)
    rw[←hm,List.length_take] at hml
    obtain⟨ok,on⟩:=o
    dsimp only at hnx
    have hl4:=hl4 ok on
    have hln:=hln ok on
    generalize t14 q ok on=ty at*
    have a1:abin .add (.str m) (.str ty)=some (.str (m++ty)):=aa11 (by first | omega | (simp;omega))
    have a2:abin .add (.str (m++ty)) (.str [10])=some (.str (m++ty++[10])):=aa11 (by first | omega | (simp;omega))
    have e3:(ok != ok)=false:=by simp
    have e4:(on != on)=false:=by simp
    clear h hsc htl
    repeat' (first | (simp -implicitDefEqProofs only[go_sem,qeaV,d_,q_,f_,s_,s10,n_,t_,List.length_map,hlt,decide_true,am_ ho,oddV,e3,e4,a1,a2,hw]) | refine ag_ (fun hb=>?_) (fun hb=>?_) | refine⟨fun hb=>?_,fun hb=>?_⟩ | refine ac_ (hl4) rfl rfl ?_ | fail)
    exact aa_ (n' - 1) (by omega) (hI _ _ ⟨i+1,_,by omega,rfl,hnx.symm⟩)
   ·have hlt:((i:Int)<(L.length:Int))=False:=by simp;omega
    rw[List.take_of_length_le (by omega)] at hm
    rw[←hm] at htx
    have e5:(m==m)=true:=by simp
    clear hI hsc htl hl4 hln
    repeat' (first | (simp -implicitDefEqProofs only[go_sem,qeaV,d_,q_,f_,s_,s10,n_,t_,List.length_map,hlt,decide_false,e5]) | refine ag_ (fun hb=>?_) (fun hb=>?_) | refine⟨fun hb=>?_,fun hb=>?_⟩ | refine ac_ (htx) rfl rfl ?_ | refine ac_ (ha) rfl rfl ?_ | fail)
    exact h _ ⟨_,_,rfl,rfl,.refl _⟩
end Go.Proofs.YtjbcfpkibnhodaaGreatDoor.Ab
namespace Go.Proofs.YtjbcfpkibnhodaaGreatDoor.Ab
open Go Go.RowKit
set_option linter.unusedSimpArgs false
set_option maxHeartbeats 4000000
set_option maxRecDepth 100000
end Go.Proofs.YtjbcfpkibnhodaaGreatDoor.Ab
namespace Go.Proofs.YtjbcfpkibnhodaaGreatDoor.Ab
open Go Go.RowKit
set_option linter.unusedSimpArgs false
set_option maxHeartbeats 4000000
set_option maxRecDepth 100000
variable {G:Nat→Option AV}
end Go.Proofs.YtjbcfpkibnhodaaGreatDoor.Ab
namespace Go.Proofs.YtjbcfpkibnhodaaGreatDoor.Ab
open Go
set_option linter.unusedSimpArgs false
structure P12 (q:QeaT):Prop where
 right:r10 q=true
 good:q.Good
 mask:MaskQ q
 frees:q.frees=[]
 guard:∀t∈q.trans,t.guard<0
section
variable {q:QeaT} {hits:List HitT}
theorem P12.sets (hq:P12 q) {t:TransT} (ht:t∈q.trans):t.sets=[]:=by
 cases hs:t.sets with
 | nil=>rfl
 | cons s l=>
  obtain⟨e,f,x,fr,_,_,_,_,hf,_⟩:=(hq.good.tk t ht).sets s (by rw[hs];simp)
  rw[hq.frees] at hf
  cases hf
end
end Go.Proofs.YtjbcfpkibnhodaaGreatDoor.Ab
namespace Go.Proofs.YtjbcfpkibnhodaaGreatDoor.Ab
open Go Go.RowKit
set_option linter.unusedSimpArgs false
set_option maxHeartbeats 4000000
set_option maxRecDepth 100000
variable {G:Nat→Option AV}
end Go.Proofs.YtjbcfpkibnhodaaGreatDoor.Ab
namespace Go.Proofs.YtjbcfpkibnhodaaGreatDoor.Ab
open Go Go.RowKit
set_option linter.unusedSimpArgs false
set_option maxHeartbeats 4000000
set_option maxRecDepth 100000
variable {G:Nat→Option AV}
end Go.Proofs.YtjbcfpkibnhodaaGreatDoor.Ab
namespace Go.Proofs.YtjbcfpkibnhodaaGreatDoor.Ab
open Go Go.ChangeShapes Go.WideShapes Go.RowKit
set_option linter.unusedSimpArgs false
set_option maxRecDepth 100000
structure QL64 (q:QeaT):Prop where
 nodes:∀x∈q.nodes,i64 x.value.int
 frees:∀x∈q.frees,i64 x.init.int
theorem r23:RdT Tryz.prog 104 5 fun cs=>∃a:FreeT,.agg cs=f11 a∧i64 a.init.int:=
 (rs_ (t:=104) (fs:=(Tryz.prog.fieldsOf 104)) (by kernel_rfl) (by kernel_rfl) (rc_ (f:=(Tryz.prog.fieldsOf 104)[0]!) (rStr (by kernel_rfl) (by kernel_rfl)) (by kernel_rfl) rfl (rc_ (f:=(Tryz.prog.fieldsOf 104)[1]!) r21 (by kernel_rfl) rfl (rn_ _)))).mono (by
  rintro _ ⟨_,_,rfl,⟨a,rfl⟩,_,_,rfl,⟨v,rfl,hv⟩,rfl⟩
  exact⟨⟨a,v⟩,rfl,hv⟩)
theorem r27:RdT Tryz.prog 30 9 fun cs=>∃q:{q:QeaT // QL64 q},.agg cs=qeaV q.1:=
 (rs_ (t:=30) (fs:=(Tryz.prog.fieldsOf 30)) (by kernel_rfl) (by kernel_rfl) (rc_ (f:=(Tryz.prog.fieldsOf 30)[0]!) (rStr (by kernel_rfl) (by kernel_rfl)) (by kernel_rfl) rfl (rc_ (f:=(Tryz.prog.fieldsOf 30)[1]!) (rl_ (t:=22) (by kernel_rfl) (by kernel_rfl) r29 (by decide)) (by kernel_rfl) rfl (rc_ (f:=(Tryz.prog.fieldsOf 30)[2]!) (rl_ (t:=23) (by kernel_rfl) (by kernel_rfl) r26 (by decide)) (by kernel_rfl) rfl (rc_ (f:=(Tryz.prog.fieldsOf 30)[3]!) (rl10 (t:=24) (by kernel_rfl) (by kernel_rfl) r23 (by decide)) (by kernel_rfl) rfl (rc_ (f:=(Tryz.prog.fieldsOf 30)[4]!) (rl_ (t:=25) (by kernel_rfl) (by kernel_rfl) r25 (by decide)) (by kernel_rfl) rfl (rc_ (f:=(Tryz.prog.fieldsOf 30)[5]!) (rInt (by kernel_rfl) (by kernel_rfl)) (by kernel_rfl) rfl (rc_ (f:=(Tryz.prog.fieldsOf 30)[6]!) (rl_ (t:=26) (by kernel_rfl) (by kernel_rfl) rSym (by decide)) (by kernel_rfl) rfl (rc_ (f:=(Tryz.prog.fieldsOf 30)[7]!) (rl10 (t:=27) (by kernel_rfl) (by kernel_rfl) r22 (by decide)) (by kernel_rfl) rfl (rc_ (f:=(Tryz.prog.fieldsOf 30)[8]!) (rl_ (t:=28) (by kernel_rfl) (by kernel_rfl) r24 (by decide)) (by kernel_rfl) rfl (rn_ _))))))))))).mono (by
  rintro _ ⟨_,_,rfl,⟨a,rfl⟩,_,_,rfl,⟨l1,rfl,_⟩,_,_,rfl,⟨l2,rfl,_⟩,_,_,rfl,⟨l3,rfl,_,h3⟩,_,_,rfl,⟨l4,rfl,_⟩,_,_,rfl,⟨s,rfl⟩,_,_,rfl,⟨l5,rfl,_⟩,_,_,rfl,⟨l6,rfl,_,h6⟩,_,_,rfl,⟨l7,rfl,_⟩,rfl⟩
  exact⟨⟨⟨a,l1,l2,l3,l4,s,l5,l6,l7⟩,⟨h6,h3⟩⟩,rfl⟩)
theorem ha_ {W:World} {u:Nat} {x:Value} (h:W.var? Tryz.prog "errors.errorType" =some #[.iface u (.agg #[x])]) {e:AV} (hx:∀F nm,Rd W F nm e x):Rd W (oldF W) n10 (.eptr (.iface u (.agg [e])) 0) (.pointer (some ⟨6,0,none⟩))∧W_ W 6 (.iface u (.agg [e])):=by
 have hg:Tryz.prog.globalNamed "errors.errorType" =some 6:=by kernel_rfl
 simp only[World.var?,hg,Option.bind_some] at h
 split at h
 ·rename_i cs t fz hb
  simp only[Option.some.injEq] at h
  subst h
  refine⟨?_,_,t,fz,hb,rfl⟩
  have key:=Rd.eptr (w:=W) (F:=oldF W) n10 (.iface u (.agg [e])) 0 6 0 (fun _ =>.iface u (.agg #[x])) (Array.getElem?_eq_some_iff.1 hb).1
   (fun p hp=>by
    have:p=0:=by simp [AV.cells] at hp;omega
    subst this
    simp [World.cell?,hb])
   (fun p hp=>rfl)
   (fun j c hj=>by
    match j,hj with
    | 0,hj=>cases hj;exact .iface _ _ _ _ (.agg _ [_] [_] rfl fun j c z hc hz=>by
      match j,hc,hz with
      | 0,hc,hz=>cases hc;cases hz;exact hx _ _))
  simpa using key
 ·cases h
end Go.Proofs.YtjbcfpkibnhodaaGreatDoor.Ab
