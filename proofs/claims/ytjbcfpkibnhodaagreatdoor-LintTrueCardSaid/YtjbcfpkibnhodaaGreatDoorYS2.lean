/-
  How an event is read. A strings.Builder of a function's own: what its writing leaves as it lay (N4, turned). Which states transitions lead to: by a list that grows, and by marks. proctorref39: reads, changes, From, used; proctorref23: To, Kind. proctorref23: To, Kind; reach.to, lint.reached. core.Same, and what it calls. No claim is proved here.
-/
import Derived.Test.YtjbcfpkibnhodaaGreatDoorYHt1
set_option linter.unusedSimpArgs false
set_option maxHeartbeats 4000000
set_option maxRecDepth 100000
namespace Go.Proofs.YtjbcfpkibnhodaaGreatDoor.Ab
open Go Go.ChangeShapes Go.WideShapes Go.RowKit
theorem r30:RdT Tryz.prog 72 2 fun cs=>∃e:{e:EvT // ∀v∈e.args,i64 v.int},.agg cs=e11 e.1:=
 (rs_ (t:=72) (fs:=(Tryz.prog.fieldsOf 72)) (by kernel_rfl) (by kernel_rfl) (rc_ (f:=(Tryz.prog.fieldsOf 72)[0]!) (rStr (by kernel_rfl) (by kernel_rfl)) (by kernel_rfl) rfl (rc_ (f:=(Tryz.prog.fieldsOf 72)[1]!) r31 (by kernel_rfl) rfl (rn_ _)))).mono (by
  rintro _ ⟨_,_,rfl,⟨a,rfl⟩,_,_,rfl,⟨⟨l,hl⟩,rfl⟩,rfl⟩
  exact⟨⟨⟨a,l⟩,hl⟩,rfl⟩)
end Go.Proofs.YtjbcfpkibnhodaaGreatDoor.Ab
namespace Go.Proofs.YtjbcfpkibnhodaaGreatDoor.Ab
open Go Go.RowKit
abbrev sbT:Nat:=168
abbrev u8T:Nat:=5
def SbAt (B b:Nat) (p:Value) (bs:List Value) (w:World):Prop:=b<B∧∃v,w.heap[b]? =some (.cells #[p,v] sbT (0,0))∧w.ownsRow B u8T 1 v bs.length bs
def IsSb (B b:Nat) (bs:List Value) (w:World):Prop:=SbAt B b (.pointer none) bs w∨SbAt B b (.pointer (some ⟨b,0,none⟩)) bs w
def Rest (B b:Nat) (w w':World):Prop:=∀k,k<B→k≠b→w'.heap[k]? =w.heap[k]?
theorem Rest.refl (B b:Nat) (w:World):Rest B b w w:=fun _ _ _ =>rfl
theorem Rest.trans {B b:Nat} {w w' w'':World} (h:Rest B b w w') (h':Rest B b w' w''):Rest B b w w'':=fun k h1 h2=>(h' k h1 h2).trans (h k h1 h2)
theorem Rest.setCell {B b:Nat} {w w':World} (h:Rest B b w w') (i:Nat) (v:Value):Rest B b w (w'.setCell ⟨b,i,none⟩ v):=fun k h1 h2=>by
 simp only[World.setCell,Array.getElem?_modify]
 rw[if_neg (fun e=>h2 e.symm)]
 exact h k h1 h2
theorem SbAt.cell0 {B b:Nat} {p:Value} {bs:List Value} {w:World} (h:SbAt B b p bs w):w.cell? ⟨b,0,none⟩=some p:=by
 obtain⟨_,v,hb,_⟩:=h
 simp [World.cell?,hb]
theorem SbAt.shape {B b:Nat} {p:Value} {bs:List Value} {w:World} (h:SbAt B b p bs w):w.shape? b=some (sbT,2):=by
 obtain⟨_,v,hb,_⟩:=h
 simp [World.shape?,hb]
theorem SbAt.frozen0 {B b:Nat} {p:Value} {bs:List Value} {w:World} (h:SbAt B b p bs w):w.frozen? ⟨b,0,none⟩=false:=by
 obtain⟨_,v,hb,_⟩:=h
 simp [World.frozen?,hb]
theorem on13 {B b n:Nat} {v:Value} {bs:List Value} {w:World} (h:b<B) (ho:w.ownsRow B u8T 1 v n bs):v.ownBlock=none∨v.ownBlock≠some b:=by
 refine .inr fun e=>?_
 have:=(ho.lt b e).1
 omega
theorem SbAt.put {B b:Nat} {p v v':Value} {bs':List Value} {w:World} (hB:b<B) (hb:w.heap[b]? =some (.cells #[p,v] sbT (0,0))) (hown:w.ownsRow B u8T 1 v' bs'.length bs'):SbAt B b p bs' (w.setCell ⟨b,1,none⟩ v'):=
 ⟨hB,v',by simp [World.setCell,Array.getElem?_modify,hb],hown.kept (row:=some b) ⟨rfl,rfl,rfl,by simp [World.setCell],fun k _ hk=>Below.heap_setCell _ _ _ _ (fun e=>hk (by simp [e]))⟩ (on13 hB hown)⟩
theorem SbAt.used {B b:Nat} {p:Value} {bs:List Value} {w:World} (h:SbAt B b p bs w) (q:Value):SbAt B b q bs (w.setCell ⟨b,0,none⟩ q):=by
 obtain⟨hB,v,hb,hown⟩:=h
 exact⟨hB,v,by simp [World.setCell,Array.getElem?_modify,hb],hown.kept (row:=some b) ⟨rfl,rfl,rfl,by simp [World.setCell],fun k _ hk=>Below.heap_setCell _ _ _ _ (fun e=>hk (by simp [e]))⟩ (on13 hB hown)⟩
set_option maxHeartbeats 1000000 in
set_option maxRecDepth 100000 in
theorem scu_ (b:Nat) (w:World) (h0:w.cell? ⟨b,0,none⟩=some (.pointer (some ⟨b,0,none⟩))):
  Calls Tryz.prog 162 #[.pointer (some ⟨b,0,none⟩)] w fun e w'=>e= .returned (.tuple #[])∧w'=w:=by
 obtain⟨j,hj,_⟩:=Option.map_eq_some_iff.1 (show (Tryz.prog.info? 168).map (·.size)=some 2 by kernel_rfl)
 go_enter Tryz.func162,Tryz.ntmps162
 go_wp2
 rw[Lib.run_neq_ptr_same w _ Tryz.underlying166 hj]
 go_wp2
 go_end0
 exact⟨rfl,rfl⟩
set_option maxHeartbeats 1000000 in
set_option maxRecDepth 100000 in
theorem scf_ (b:Nat) (w:World) (h0:w.cell? ⟨b,0,none⟩=some (.pointer none)) (hsh:w.shape? b=some (sbT,2)) (hfz:w.frozen? ⟨b,0,none⟩=false):
  Calls Tryz.prog 162 #[.pointer (some ⟨b,0,none⟩)] w fun e w'=>e= .returned (.tuple #[])∧w'=w.setCell ⟨b,0,none⟩ (.pointer (some ⟨b,0,none⟩)):=by
 obtain⟨j,hj,hjs⟩:=Option.map_eq_some_iff.1 (show (Tryz.prog.info? 168).map (·.size)=some 2 by kernel_rfl)
 go_enter Tryz.func162,Tryz.ntmps162
 go_wp2
 rw[Lib.run_to_unsafe w ⟨b,0,none⟩ Tryz.underlying166 Tryz.underlying285 hj (by rw[hjs];decide) hsh (Nat.zero_lt_succ 1)]
 simp only[Result.andThen]
 rw[Oper.upon_value]
 go_wp2
 rw[run_callFunc_extern Tryz.func230 (by kernel_rfl) (by kernel_rfl) (by kernel_rfl) (e:=Extern.AbiNoEscape.same) (by kernel_rfl)]
 rw[Lib.run_noEscape]
 simp only[Result.andThen]
 rw[Oper.upon_value]
 go_wp2
 rw[Lib.run_from_unsafe w ⟨b,0,none⟩ Tryz.underlying285 Tryz.underlying166 hj hsh (by kernel_rfl)]
 simp only[Result.andThen]
 rw[Oper.upon_value]
 go_wp2
 go_end0
 exact⟨rfl,rfl⟩
theorem sc_ (B b:Nat) (bs:List Value) (w:World) (h:IsSb B b bs w):
  Calls Tryz.prog 162 #[.pointer (some ⟨b,0,none⟩)] w fun e w'=>e= .returned (.tuple #[])∧(SbAt B b (.pointer (some ⟨b,0,none⟩)) bs w'∧Below b w w'∧Rest B b w w'):=by
 rcases h with h | h
 ·refine (scf_ b w h.cell0 h.shape h.frozen0).mono ?_
  rintro e w' ⟨rfl,rfl⟩
  exact⟨rfl,h.used _,(Below.refl b w).setCell (p:=⟨b,0,none⟩) (Nat.le_refl _) _,(Rest.refl B b w).setCell 0 _⟩
 ·refine (scu_ b w h.cell0).mono ?_
  rintro e w' ⟨rfl,rfl⟩
  exact⟨rfl,h,Below.refl b _,Rest.refl B b _⟩
set_option maxHeartbeats 2000000 in
set_option maxRecDepth 100000 in
theorem sW_ (B b:Nat) (bs:List Value) (s:ByteArray) (w:World) (h:IsSb B b bs w) (hlen:bs.length+s.size≤140737488355328) (hBw:B≤w.heap.size):
  Calls Tryz.prog 101 #[.pointer (some ⟨b,0,none⟩),.string s] w fun e w'=>e= .returned (.tuple #[.int .i64 s.size,.nilIface])∧(IsSb B b (bs++Lib.strCells s) w'∧Below b w w'∧Rest B b w w'):=by
 obtain⟨i0,hi,hz0,hz1,hz2⟩:=info_parts (show (Tryz.prog.info? u8T).map (fun i=>(i.zero,i.size,i.bytes))=some (some (.int .u8 0),1,1) by kernel_rfl)
 go_enter Tryz.func101,Tryz.ntmps101
 go_wp2_with (go_at_call 162;refine (sc_ B b bs _ h).mono ?_)
 rintro e w1 ⟨rfl,h1,hb1,hr1⟩
 obtain⟨hB,v,hbk,hown⟩:=h1
 have hne:v.ownBlock≠some b:=fun e=>by
  have:=(hown.lt b e).1
  omega
 have c0:w1.cell? ⟨b,0,none⟩=some (.pointer (some ⟨b,0,none⟩)):=by rw[Lib.cell_of_heap hbk];rfl
 have c1:w1.cell? ⟨b,1,none⟩=some v:=by rw[Lib.cell_of_heap hbk];rfl
 go_wp2_with (at_builtin;refine Lib.wpList_append_own_string _ rfl _ _ 39 9 rfl B u8T i0 Tryz.underlying39 Tryz.underlying9 hi hz0 hz1 hz2 _ _ _ rfl hown s rfl ?c3 ?c4 ?c5 ?_)
 case c3=>unfold maxLen;omega
 case c4=>omega
 case c5=>have:=hb1.size;omega
 intro v' w2 hown' hgrow _
 have hlt:b<w1.heap.size:=by
  rcases Nat.lt_or_ge b w1.heap.size with h' | h'
  ·exact h'
  ·simp [Array.getElem?_eq_none h'] at hbk
 have hb2:w2.heap[b]? =some (.cells #[.pointer (some ⟨b,0,none⟩),v] sbT (0,0)):=by
  rw[hgrow.block b hlt (fun e=>hne e.symm)]
  exact hbk
 have hr2:Rest B b w1 w2:=fun k h1 h2=>hgrow.block k (by have:=hb1.size;omega) (fun e=>by
  have:=(hown.lt k e.symm).1
  omega)
 have d0:w2.cell? ⟨b,0,none⟩=some (.pointer (some ⟨b,0,none⟩)):=by rw[Lib.cell_of_heap hb2];rfl
 have d1:w2.cell? ⟨b,1,none⟩=some v:=by rw[Lib.cell_of_heap hb2];rfl
 have f1:w2.frozen? ⟨b,1,none⟩=false:=Lib.frozen_of_heap hb2 1
 obtain⟨ao,n',cap,rfl⟩:∃ao n' cap,v'= .slice ao n' cap:=by
  rcases hown'.2 with ⟨hv,_⟩ | ⟨g,cap,cur,hv,_⟩
  ·exact⟨_,_,_,hv⟩
  ·exact⟨_,_,_,hv⟩
 go_wp2
 go_ret2
 refine⟨rfl,.inr ?_,?_,?_⟩
 ·exact SbAt.put hB hb2 (bs':=bs++Lib.strCells s) (by simpa [Lib.strCells_length] using hown')
 ·exact (hb1.grown hgrow (by have:=hb1.size;omega) (fun k hk=>by have:=(hown.lt k hk).1;omega)).setCell (p:=⟨b,1,none⟩) (Nat.le_refl _) _
 ·exact (hr1.trans hr2).setCell 1 _
theorem sW10 (B b:Nat) (bs:List Value) (s:Str) (w:World) (h:IsSb B b bs w) (hlen:bs.length+s.length≤140737488355328) (hBw:B≤w.heap.size):
  Calls Tryz.prog 101 #[.pointer (some ⟨b,0,none⟩),.string ⟨s.toArray⟩] w fun e w'=>e= .returned (.tuple #[.int .i64 s.length,.nilIface])∧(IsSb B b (bs++Lib.byteCells s) w'∧Below b w w'∧Rest B b w w'):=by
 have hs:(⟨s.toArray⟩:ByteArray).size=s.length:=by simp [ByteArray.size]
 refine (sW_ B b bs ⟨s.toArray⟩ w h (by rw[hs];exact hlen) hBw).mono ?_
 rintro e w' ⟨rfl,h2,h3⟩
 rw[hs]
 exact⟨rfl,by rw[←Lib.strCells_toArray];exact h2,h3⟩
end Go.Proofs.YtjbcfpkibnhodaaGreatDoor.Ab
namespace Go.Proofs.YtjbcfpkibnhodaaGreatDoor.Ab
open Go
def bfT (s:Int) (out:List Int) (t:TransT):List Int:=if t.from_=s∧t.to_∉out then out++[t.to_] else out
def bfS (l:List TransT) (s:Int) (out:List Int):List Int:=l.foldl (bfT s) out
def bfs (l:List TransT):Nat→Nat→List Int→List Int
 | 0,_,out=>out
 | f+1,i,out=>match out[i]? with
  | none=>out
  | some s=>bfs l f (i+1) (bfS l s out)
def toL (l:List TransT) (n:Nat) (s:Int):List Int:=bfs l (n+1) 0 [s]
theorem bp10 (s:Int) (out:List Int) (t:TransT):∃r,bfT s out t=out++r:=by
 unfold bfT
 split
 ·exact⟨_,rfl⟩
 ·exact⟨[],by simp⟩
theorem bp11:∀(l:List TransT) (s:Int) (out:List Int),∃r,bfS l s out=out++r
 | [],_,out=>⟨[],by simp [bfS]⟩
 | t::l,s,out=>by
  obtain⟨r1,h1⟩:=bp10 s out t
  obtain⟨r2,h2⟩:=bp11 l s (bfT s out t)
  exact⟨r1++r2,by rw[show bfS (t::l) s out=bfS l s (bfT s out t) from rfl,h2,h1,List.append_assoc]⟩
theorem pa11 {out r:List Int} {i:Nat} {s:Int} (h:out[i]? =some s):(out++r)[i]? =some s:=by
 rw[List.getElem?_append_left (List.getElem?_eq_some_iff.1 h).1]
 exact h
structure BfOk (l:List TransT) (n:Nat) (s:Int) (out:List Int):Prop where
 nd:out.Nodup
 rng:∀x∈out,0≤x∧x<n
 st:out[0]? =some s
 par:∀(j:Nat) y,out[j+1]? =some y→∃(i:Nat) (x:Int) (t:TransT),i≤j∧out[i]? =some x∧t∈l∧t.from_=x∧t.to_=y
theorem nl_:∀(n:Nat) (l:List Int),l.Nodup→(∀x∈l,0≤x∧x<n)→l.length≤n
 | 0,[],_,_ =>Nat.le_refl _
 | 0,x::l,_,h=>by have:=h x (by simp);omega
 | n+1,l,hn,h=>by
  by_cases hm:(n:Int)∈l
  ·have:=nl_ n (l.erase n) (hn.erase _) fun x hx=>by
    obtain⟨h1,h2⟩:=(List.Nodup.mem_erase_iff hn).1 hx
    have:=h x h2
    omega
   rw[List.length_erase_of_mem hm] at this
   omega
  ·refine Nat.le_succ_of_le (nl_ n l hn fun x hx=>?_)
   have:=h x hx
   have:x≠n:=fun e=>hm (e ▸ hx)
   omega
theorem BfOk.len {l:List TransT} {n:Nat} {s:Int} {out:List Int} (h:BfOk l n s out):out.length≤n:=nl_ n out h.nd h.rng
theorem bo12 {l:List TransT} {n:Nat} {s:Int} {out:List Int} (h:BfOk l n s out) {i:Nat} {x:Int} (hx:out[i]? =some x) {t:TransT} (ht:t∈l) (hto:0≤t.to_∧t.to_<n):BfOk l n s (bfT x out t):=by
 unfold bfT
 split
 ·rename_i hc
  have hi:=(List.getElem?_eq_some_iff.1 hx).1
  refine⟨?_,fun y hy=>?_,pa11 h.st,fun j y hy=>?_⟩
  ·rw[List.nodup_append]
   exact⟨h.nd,by simp,fun a ha b hb e=>by
    obtain rfl:=List.mem_singleton.1 hb
    exact hc.2 (e ▸ ha)⟩
  ·rcases List.mem_append.1 hy with hy | hy
   ·exact h.rng y hy
   ·obtain rfl:=List.mem_singleton.1 hy
    exact hto
  ·by_cases hj:j+1<out.length
   ·rw[List.getElem?_append_left hj] at hy
    obtain⟨i',x',t',g1,g2,g3⟩:=h.par j y hy
    exact⟨i',x',t',g1,pa11 g2,g3⟩
   ·have hjl:j+1=out.length:=by
     have:=(List.getElem?_eq_some_iff.1 hy).1
     simp only[List.length_append,List.length_cons,List.length_nil] at this
     omega
    rw[hjl,List.getElem?_append_right (Nat.le_refl _),Nat.sub_self] at hy
    cases hy
    exact⟨i,x,t,by omega,pa11 hx,ht,hc.1,rfl⟩
 ·exact h
theorem bo15 {l:List TransT} {n:Nat} {s:Int} (hto:∀t∈l,0≤t.to_∧t.to_<n) {i:Nat} {x:Int}:∀(k:List TransT),(∀t∈k,t∈l)→∀(out:List Int),BfOk l n s out→out[i]? =some x→BfOk l n s (bfS k x out)
 | [],_,_,h,_ =>h
 | t::k,hk,out,h,hx=>by
  obtain⟨r,hr⟩:=bp10 x out t
  have ht:=hk t (by simp)
  exact bo15 hto k (fun t h=>hk t (by simp [h])) _ (bo12 h hx ht (hto t ht)) (by rw[hr];exact pa11 hx)
theorem bc_:∀(l:List TransT) (x:Int) (out:List Int),∀t∈l,t.from_=x→t.to_∈bfS l x out
 | u::l,x,out,t,ht,hf=>by
  show t.to_∈bfS l x (bfT x out u)
  rcases List.mem_cons.1 ht with e | ht
  ·subst e
   obtain⟨r,hr⟩:=bp11 l x (bfT x out t)
   rw[hr]
   refine List.mem_append.2 (.inl ?_)
   unfold bfT
   split
   ·simp
   ·rename_i hc
    exact Classical.byContradiction fun hn=>hc ⟨hf,hn⟩
  ·exact bc_ l x _ t ht hf
theorem bo14 {l:List TransT} {n:Nat} {s:Int} (hto:∀t∈l,0≤t.to_∧t.to_<n):∀(f i:Nat) (out:List Int),BfOk l n s out→(∀(j:Nat) x,j<i→out[j]? =some x→∀t∈l,t.from_=x→t.to_∈out)→n<f+i→i≤out.length→
  BfOk l n s (bfs l f i out)∧∀x∈bfs l f i out,∀t∈l,t.from_=x→t.to_∈bfs l f i out
 | 0,i,out,h,hc,hf,hi=>by
  have:=h.len
  omega
 | f+1,i,out,h,hc,hf,hi=>by
  rw[bfs]
  cases hx:out[i]? with
  | none=>
   dsimp only
   refine⟨h,fun x hx2 t ht hft=>?_⟩
   obtain⟨j,hj⟩:=List.getElem?_of_mem hx2
   have h1:=(List.getElem?_eq_some_iff.1 hj).1
   have h2:=List.getElem?_eq_none_iff.1 hx
   exact hc j x (by omega) hj t ht hft
  | some x=>
   dsimp only
   obtain⟨r,hr⟩:=bp11 l x out
   have hl:=(List.getElem?_eq_some_iff.1 hx).1
   refine bo14 hto f (i+1) (bfS l x out) (bo15 hto l (fun _ h=>h) out h hx) (fun j y hj hy t ht hft=>?_) (by omega) (by rw[hr,List.length_append];omega)
   by_cases hji:j=i
   ·subst hji
    rw[hr,pa11 hx] at hy
    cases hy
    exact bc_ l _ out t ht hft
   ·rw[hr,List.getElem?_append_left (by omega)] at hy
    rw[hr]
    exact List.mem_append.2 (.inl (hc j y (by omega) hy t ht hft))
theorem to11 {l:List TransT} {n:Nat} {s:Int} (hto:∀t∈l,0≤t.to_∧t.to_<n) (hs:0≤s∧s<n):BfOk l n s (toL l n s)∧∀x∈toL l n s,∀t∈l,t.from_=x→t.to_∈toL l n s:=by
 refine bo14 hto (n+1) 0 [s] ⟨by simp,fun x hx=>?_,rfl,fun j y hy=>by simp at hy⟩ (fun j x hj=>by omega) (by omega) (by simp)
 obtain rfl:=List.mem_singleton.1 hx
 exact hs
end Go.Proofs.YtjbcfpkibnhodaaGreatDoor.Ab
namespace Go.Proofs.YtjbcfpkibnhodaaGreatDoor.Ab
open Go Go.RowKit
variable {G:Nat→Option AV}
def u20 (q:QeaT) (d:Int):Bool:=q.symbols.any fun x=>x.event==d
def s32 (f:Int) (t:TransT):Bool:=t.sets.any fun s=>s.free==f
end Go.Proofs.YtjbcfpkibnhodaaGreatDoor.Ab
namespace Go.Proofs.YtjbcfpkibnhodaaGreatDoor.Ab
open Go Go.RowKit
variable {G:Nat→Option AV}
def T_ (l:List TransT) (n:Nat):Prop:=∀t∈l,(0≤t.from_∧t.from_<n)∧0≤t.to_∧t.to_<n
def k20 (s d:Bool):Int:=if s=true then 1 else if d=true then 2 else 0
theorem rt12 (q:QeaT) (s:Nat) (hs:s<q.states.length) (hto:T_ q.trans q.states.length) (hn:q.states.length≤1000) (hl:q.trans.length≤1000000):P_ Tryz.prog G nrt_ [qeaV q,iv s] (.seq 1 ((toL q.trans q.states.length (s:Int)).map iv)):=by
 refine prt_ (Runs.of fun Φ h=>?_)
 unfold crt_
 have hto':∀t∈q.trans,0≤t.to_∧t.to_<q.states.length:=fun t ht=>(hto t ht).2
 generalize hv:toL q.trans q.states.length (s:Int)=v at*
 unfold toL at hv
 simp -implicitDefEqProofs only[go_sem,qeaV,d_,q_,f_,s_,s10,n_,t_]
 refine al_ (fun f st=>∃(i:Nat) (out:List Int),i+f=q.states.length+1∧BfOk q.trans q.states.length (s:Int) out∧i≤out.length∧bfs q.trans f i out=v∧st=⟨45,[(2,.ref 2 0 0),(5,.arr 10 0 out.length),(6,iv i)],[(2,⟨false,taQ_,9,[qeaV q]⟩),(4,⟨true,ti_,1,[]⟩),(10,⟨true,ti_,1,out.map iv⟩)]⟩) (q.states.length+1) ⟨0,[(s:Int)],by simp,⟨by simp,fun x hx=>(List.mem_singleton.1 hx) ▸ ⟨by omega,by omega⟩,rfl,fun j y hy=>by simp at hy⟩,by simp,hv,rfl⟩ ?_
 rintro I hI f st ⟨i,out,hi,hok,hil,hgo,rfl⟩
 have holn:=hok.len
 by_cases hlt':i<out.length
 ·obtain⟨x,hx,hxm⟩:=as10 hlt'
  have hw:=ws_ hlt' (by omega)
  have hlt:((i:Int)<(out.length:Int))=True:=by simp;exact hlt'
  obtain⟨f',rfl⟩:∃f',f=f'+1:=⟨f - 1,by omega⟩
  rw[bfs,hx] at hgo
  dsimp only at hgo
  repeat' (first|simp -implicitDefEqProofs only[go_sem,qeaV,d_,q_,f_,s_,s10,n_,t_,List.length_map,hlt,decide_true]|refine ag_ (fun hb=>?_) (fun hb=>?_)|refine⟨fun hb=>?_,fun hb=>?_⟩|fail)
  refine al_ (fun n' st=>∃(j:Nat) (out2:List Int),j+n'=q.trans.length∧BfOk q.trans q.states.length (s:Int) out2∧out2[i]? =some x∧(q.trans.drop j).foldl (bfT x) out2=bfS q.trans x out∧st=⟨45,[(2,.ref 2 0 0),(5,.arr 10 0 out2.length),(6,iv i),(18,.seq 5 (q.trans.map t11)),(19,iv q.trans.length),(20,iv j)],[(2,⟨false,taQ_,9,[qeaV q]⟩),(4,⟨true,ti_,1,[]⟩),(10,⟨true,ti_,1,out2.map iv⟩)]⟩) q.trans.length ⟨0,out,by simp,hok,hx,rfl,rfl⟩ ?_
  rintro J hJ n' st ⟨j,out2,hj,hok2,hx2,hg2,rfl⟩
  have hol2:=hok2.len
  have hil2:=(List.getElem?_eq_some_iff.1 hx2).1
  by_cases hlj:j<q.trans.length
  ·obtain⟨t,ht,htm⟩:=as10 hlj
   have hwj:=ws_ hlj (by omega)
   have hltj:((j:Int)<(q.trans.length:Int))=True:=by simp;exact hlj
   rw[da_ ht,List.foldl_cons] at hg2
   have hok3:=bo12 hok2 hx2 htm (hto' t htm)
   obtain⟨r3,hr3⟩:=bp10 x out2 t
   have hx3:(bfT x out2 t)[i]? =some x:=by rw[hr3];exact pa11 hx2
   have hst:bfT x out2 t=if t.from_=x∧t.to_∉out2 then out2++[t.to_] else out2:=rfl
   have hnx:=hJ (n' - 1) _ ⟨j+1,bfT x out2 t,by omega,hok3,hx3,hg2,rfl⟩
   clear hJ hg2 hok3 hr3 hx3
   rw[hst] at hnx
   have hcon:=sCiip_ (G:=G) out2 t.to_ (by omega)
   have hcb:(out2.any fun y=>t.to_==y)=decide (t.to_∈out2):=by
    rw[Bool.eq_iff_iff,List.any_eq_true,decide_eq_true_eq]
    exact⟨fun⟨y,hy,e⟩=>by rw[eq_of_beq e];exact hy,fun hy=>⟨_,hy,by simp⟩⟩
   rw[hcb] at hcon
   have hxr:(out2.map iv)[i]? =some (iv x):=by rw[List.getElem?_map,hx2];rfl
   have hlk:(out2.map iv).length=out2.length:=by simp
   have htk:List.take out2.length (out2.map iv)=out2.map iv:=List.take_of_length_le (by simp)
   have hb1:(out2.length+1)*8≤140737488355328:=by omega
   obtain⟨tf,ts,tt,tg,tsets⟩:=t
   dsimp only at hnx hcon
   by_cases hf:tf=x
   ·have hfe:(tf==x)=true:=by simp [hf]
    by_cases hm:tt∈out2
    ·rw[if_neg (fun e=>e.2 hm)] at hnx
     rw[decide_eq_true hm] at hcon
     repeat' (first|simp -implicitDefEqProofs only[go_sem,qeaV,d_,q_,f_,s_,s10,n_,t_,List.length_map,hltj,decide_true,am_ ht,t11,s14,aa10 hil2,hxr,hfe,hwj]|refine ag_ (fun hb=>?_) (fun hb=>?_)|refine⟨fun hb=>?_,fun hb=>?_⟩|(refine ac_ hcon ?_ rfl ?_;(focus (simp [v10,flat,viewBs,viewB,viewK,viewK.go,hget,htk,hlk];done)))|fail)
     exact aa_ (n' - 1) (by omega) hnx
    ·rw[if_pos ⟨hf,hm⟩] at hnx
     rw[decide_eq_false hm] at hcon
     rw[List.length_append,List.map_append,List.length_cons,List.length_nil,Nat.zero_add,List.map_cons,List.map_nil] at hnx
     repeat' (first|simp -implicitDefEqProofs only[go_sem,qeaV,d_,q_,f_,s_,s10,n_,t_,List.length_map,hltj,decide_true,am_ ht,t11,s14,aa10 hil2,hxr,hfe,hwj,hlk,hb1]|refine ag_ (fun hb=>?_) (fun hb=>?_)|refine⟨fun hb=>?_,fun hb=>?_⟩|(refine ac_ hcon ?_ rfl ?_;(focus (simp [v10,flat,viewBs,viewB,viewK,viewK.go,hget,htk,hlk];done)))|fail)
     exact aa_ (n' - 1) (by omega) hnx
   ·have hfe:(tf==x)=false:=by simp [hf]
    rw[if_neg (fun e=>hf e.1)] at hnx
    repeat' (first|simp -implicitDefEqProofs only[go_sem,qeaV,d_,q_,f_,s_,s10,n_,t_,List.length_map,hltj,decide_true,am_ ht,t11,s14,aa10 hil2,hxr,hfe,hwj]|refine ag_ (fun hb=>?_) (fun hb=>?_)|refine⟨fun hb=>?_,fun hb=>?_⟩|fail)
    exact aa_ (n' - 1) (by omega) hnx
  ·have hltj:((j:Int)<(q.trans.length:Int))=False:=by simp;omega
   rw[List.drop_eq_nil_of_le (by omega),List.foldl_nil] at hg2
   rw[←hg2] at hgo
   have hnx:=hI f' _ ⟨i+1,out2,by omega,hok2,by omega,hgo,rfl⟩
   clear hJ hI
   repeat' (first|simp -implicitDefEqProofs only[go_sem,qeaV,d_,q_,f_,s_,s10,n_,t_,List.length_map,hltj,decide_false,hw]|refine ag_ (fun hb=>?_) (fun hb=>?_)|refine⟨fun hb=>?_,fun hb=>?_⟩|fail)
   exact aa_ f' (by omega) hnx
 ·have hlt:((i:Int)<(out.length:Int))=False:=by simp;omega
  have hnone:out[i]? =none:=List.getElem?_eq_none (by omega)
  have hgo:out=v:=by
   cases f with
   | zero=>exact hgo
   | succ f=>rw[bfs,hnone] at hgo;exact hgo
  subst hgo
  clear hI
  repeat' (first|simp -implicitDefEqProofs only[go_sem,qeaV,d_,q_,f_,s_,s10,n_,t_,List.length_map,hlt,decide_false]|refine ag_ (fun hb=>?_) (fun hb=>?_)|refine⟨fun hb=>?_,fun hb=>?_⟩|fail)
  exact h _ ⟨_,_,rfl,vm_ (e:=iv) (l:=out) (ty:=ti_) (by decide) (by simp [hget]) rfl,.refl _⟩
theorem lrp_ (q:QeaT) (hs:0≤q.start∧q.start<q.states.length) (hto:T_ q.trans q.states.length) (hn:q.states.length≤1000) (hl:q.trans.length≤1000000):P_ Tryz.prog G nlr_ [qeaV q] (.seq 1 ((toL q.trans q.states.length q.start).map iv)):=by
 refine plr_ (Runs.of fun Φ h=>?_)
 unfold clr_
 have hto':∀t∈q.trans,0≤t.to_∧t.to_<q.states.length:=fun t ht=>(hto t ht).2
 generalize hv:toL q.trans q.states.length q.start=v at*
 unfold toL at hv
 simp -implicitDefEqProofs only[go_sem,qeaV,d_,q_,f_,s_,s10,n_,t_]
 refine al_ (fun f st=>∃(i:Nat) (out:List Int),i+f=q.states.length+1∧BfOk q.trans q.states.length q.start out∧i≤out.length∧bfs q.trans f i out=v∧st=⟨44,[(1,.ref 1 0 0),(3,.arr 9 0 out.length),(4,iv i)],[(1,⟨false,taQ_,9,[qeaV q]⟩),(2,⟨true,ti_,1,[]⟩),(9,⟨true,ti_,1,out.map iv⟩)]⟩) (q.states.length+1) ⟨0,[q.start],by simp,⟨by simp,fun x hx=>(List.mem_singleton.1 hx) ▸ hs,rfl,fun j y hy=>by simp at hy⟩,by simp,hv,rfl⟩ ?_
 rintro I hI f st ⟨i,out,hi,hok,hil,hgo,rfl⟩
 have holn:=hok.len
 by_cases hlt':i<out.length
 ·obtain⟨x,hx,hxm⟩:=as10 hlt'
  have hw:=ws_ hlt' (by omega)
  have hlt:((i:Int)<(out.length:Int))=True:=by simp;exact hlt'
  obtain⟨f',rfl⟩:∃f',f=f'+1:=⟨f - 1,by omega⟩
  rw[bfs,hx] at hgo
  dsimp only at hgo
  repeat' (first|simp -implicitDefEqProofs only[go_sem,qeaV,d_,q_,f_,s_,s10,n_,t_,List.length_map,hlt,decide_true]|refine ag_ (fun hb=>?_) (fun hb=>?_)|refine⟨fun hb=>?_,fun hb=>?_⟩|fail)
  refine al_ (fun n' st=>∃(j:Nat) (out2:List Int),j+n'=q.trans.length∧BfOk q.trans q.states.length q.start out2∧out2[i]? =some x∧(q.trans.drop j).foldl (bfT x) out2=bfS q.trans x out∧st=⟨44,[(1,.ref 1 0 0),(3,.arr 9 0 out2.length),(4,iv i),(17,.seq 5 (q.trans.map t11)),(18,iv q.trans.length),(19,iv j)],[(1,⟨false,taQ_,9,[qeaV q]⟩),(2,⟨true,ti_,1,[]⟩),(9,⟨true,ti_,1,out2.map iv⟩)]⟩) q.trans.length ⟨0,out,by simp,hok,hx,rfl,rfl⟩ ?_
  rintro J hJ n' st ⟨j,out2,hj,hok2,hx2,hg2,rfl⟩
  have hol2:=hok2.len
  have hil2:=(List.getElem?_eq_some_iff.1 hx2).1
  by_cases hlj:j<q.trans.length
  ·obtain⟨t,ht,htm⟩:=as10 hlj
   have hwj:=ws_ hlj (by omega)
   have hltj:((j:Int)<(q.trans.length:Int))=True:=by simp;exact hlj
   rw[da_ ht,List.foldl_cons] at hg2
   have hok3:=bo12 hok2 hx2 htm (hto' t htm)
   obtain⟨r3,hr3⟩:=bp10 x out2 t
   have hx3:(bfT x out2 t)[i]? =some x:=by rw[hr3];exact pa11 hx2
   have hst:bfT x out2 t=if t.from_=x∧t.to_∉out2 then out2++[t.to_] else out2:=rfl
   have hnx:=hJ (n' - 1) _ ⟨j+1,bfT x out2 t,by omega,hok3,hx3,hg2,rfl⟩
   clear hJ hg2 hok3 hr3 hx3
   rw[hst] at hnx
   have hcon:=sCiip_ (G:=G) out2 t.to_ (by omega)
   have hcb:(out2.any fun y=>t.to_==y)=decide (t.to_∈out2):=by
    rw[Bool.eq_iff_iff,List.any_eq_true,decide_eq_true_eq]
    exact⟨fun⟨y,hy,e⟩=>by rw[eq_of_beq e];exact hy,fun hy=>⟨_,hy,by simp⟩⟩
   rw[hcb] at hcon
   have hxr:(out2.map iv)[i]? =some (iv x):=by rw[List.getElem?_map,hx2];rfl
   have hlk:(out2.map iv).length=out2.length:=by simp
   have htk:List.take out2.length (out2.map iv)=out2.map iv:=List.take_of_length_le (by simp)
   have hb1:(out2.length+1)*8≤140737488355328:=by omega
   obtain⟨tf,ts,tt,tg,tsets⟩:=t
   dsimp only at hnx hcon
   by_cases hf:tf=x
   ·have hfe:(tf==x)=true:=by simp [hf]
    by_cases hm:tt∈out2
    ·rw[if_neg (fun e=>e.2 hm)] at hnx
     rw[decide_eq_true hm] at hcon
     repeat' (first|simp -implicitDefEqProofs only[go_sem,qeaV,d_,q_,f_,s_,s10,n_,t_,List.length_map,hltj,decide_true,am_ ht,t11,s14,aa10 hil2,hxr,hfe,hwj]|refine ag_ (fun hb=>?_) (fun hb=>?_)|refine⟨fun hb=>?_,fun hb=>?_⟩|(refine ac_ hcon ?_ rfl ?_;(focus (simp [v10,flat,viewBs,viewB,viewK,viewK.go,hget,htk,hlk];done)))|fail)
     exact aa_ (n' - 1) (by omega) hnx
    ·rw[if_pos ⟨hf,hm⟩] at hnx
     rw[decide_eq_false hm] at hcon
     rw[List.length_append,List.map_append,List.length_cons,List.length_nil,Nat.zero_add,List.map_cons,List.map_nil] at hnx
     repeat' (first|simp -implicitDefEqProofs only[go_sem,qeaV,d_,q_,f_,s_,s10,n_,t_,List.length_map,hltj,decide_true,am_ ht,t11,s14,aa10 hil2,hxr,hfe,hwj,hlk,hb1]|refine ag_ (fun hb=>?_) (fun hb=>?_)|refine⟨fun hb=>?_,fun hb=>?_⟩|(refine ac_ hcon ?_ rfl ?_;(focus (simp [v10,flat,viewBs,viewB,viewK,viewK.go,hget,htk,hlk];done)))|fail)
     exact aa_ (n' - 1) (by omega) hnx
   ·have hfe:(tf==x)=false:=by simp [hf]
    rw[if_neg (fun e=>hf e.1)] at hnx
    repeat' (first|simp -implicitDefEqProofs only[go_sem,qeaV,d_,q_,f_,s_,s10,n_,t_,List.length_map,hltj,decide_true,am_ ht,t11,s14,aa10 hil2,hxr,hfe,hwj]|refine ag_ (fun hb=>?_) (fun hb=>?_)|refine⟨fun hb=>?_,fun hb=>?_⟩|fail)
    exact aa_ (n' - 1) (by omega) hnx
  ·have hltj:((j:Int)<(q.trans.length:Int))=False:=by simp;omega
   rw[List.drop_eq_nil_of_le (by omega),List.foldl_nil] at hg2
   rw[←hg2] at hgo
   have hnx:=hI f' _ ⟨i+1,out2,by omega,hok2,by omega,hgo,rfl⟩
   clear hJ hI
   repeat' (first|simp -implicitDefEqProofs only[go_sem,qeaV,d_,q_,f_,s_,s10,n_,t_,List.length_map,hltj,decide_false,hw]|refine ag_ (fun hb=>?_) (fun hb=>?_)|refine⟨fun hb=>?_,fun hb=>?_⟩|fail)
   exact aa_ f' (by omega) hnx
 ·have hlt:((i:Int)<(out.length:Int))=False:=by simp;omega
  have hnone:out[i]? =none:=List.getElem?_eq_none (by omega)
  have hgo:out=v:=by
   cases f with
   | zero=>exact hgo
   | succ f=>rw[bfs,hnone] at hgo;exact hgo
  subst hgo
  clear hI
  repeat' (first|simp -implicitDefEqProofs only[go_sem,qeaV,d_,q_,f_,s_,s10,n_,t_,List.length_map,hlt,decide_false]|refine ag_ (fun hb=>?_) (fun hb=>?_)|refine⟨fun hb=>?_,fun hb=>?_⟩|fail)
  exact h _ ⟨_,_,rfl,vm_ (e:=iv) (l:=out) (ty:=ti_) (by decide) (by simp [hget]) rfl,.refl _⟩
end Go.Proofs.YtjbcfpkibnhodaaGreatDoor.Ab
namespace Go.Proofs.YtjbcfpkibnhodaaGreatDoor.Ab
open Go
variable {G:Nat→Option AV}
theorem n22 (a b:NodeT):(a==b)=(a.op==b.op&&(a.a==b.a&&(a.b==b.b&&(a.value.kind==b.value.kind&&(a.value.int==b.value.int&&(a.value.str==b.value.str&&(a.value.bool==b.value.bool&&true))))))):=by
 obtain⟨a1,a2,a3,a4,a5,a6,a7⟩:=a
 obtain⟨b1,b2,b3,b4,b5,b6,b7⟩:=b
 rw[Bool.eq_iff_iff]
 simp
end Go.Proofs.YtjbcfpkibnhodaaGreatDoor.Ab
