/-
  proctorref18.Right, config.Right; what the law asks of its arguments. DERIVED: THE SHELF's CONTRACTS AT THIS DUMP, IN PLAIN WORDS (tools/lay-plain.mjs out of 'TryzHomeShelf.lean', which tools/lay-shelf.mjs wrote): THE SAME DECLARATIONS UNDER THE SAME NAMES: 'import', 'namespace', 'open', 'def', 'theorem' AND NOTHING ELSE: no command of the shelf's: FOR A HAND-IN. Each laying: the table of numbers ('.._ren') and one theorem, a field a fact of the dump's own or the kernel's comparison; each contract: ONE APPLICATION. Numbers as texts; the library's texts, by the shelf's contracts: strconv.FormatInt, strings.Builder; report's texts. key, config.Key: keys of values and of sets of configurations. key.number: a number's bytes. key.one, key.Of, config.Key. Texts of values, in plain words; proctorref01.Text, proctorref02.Quote, proctorref03.Text. The library's texts, by the shelf's contracts: strings.Join, strconv.FormatInt, strings.Builder; quote.one, quote.Quote. quote.one, quote.Quote. num.Text, value.Text, core.Symbol: a symbol's text. The law CoreSymbols: plain part. The law CoreSymbols; how its automaton is read. How an automaton is read whose symbols' numbers are numbers. config.Start, States, Text and the reference's, proctorref04.Keys. Sets of states and of symbols as bits; joint.Next, proctorref22.Next: to which states symbols lead. A row of the call's own is written no more. The law ConfigPairs. What an expression comes to has the expression's kind. A strict order, total at what is sound: rows in order, each once: two ways. binding, proctorref05: which may be; under, fits, union. binding.Under, walked. binding.Fits, walked. No claim is proved here.
-/
import Derived.Test.YtjbcfpkibnhodaaGreatDoorYC2
import Derived.Shelf.Strings.OnBuilder
import Derived.Shelf.Strconv.Itoa4
import Derived.Test.YtjbcfpkibnhodaaGreatDoorYV14
import Derived.Lib.AppendIntMem
import Derived.Laws.CopyOwn
import Derived.OwnWalkIn
import Derived.TacticsInMore
import Derived.LoopNIn
import Derived.LoopIn
set_option linter.unusedSimpArgs false
set_option maxHeartbeats 4000000
set_option maxRecDepth 100000
namespace Go.Proofs.YtjbcfpkibnhodaaGreatDoor.Ab
open Go Go.RowKit
variable {G:Nat→Option AV}
def cfgR (q:QeaT) (c:CfgT):Bool:=decide (0≤c.state)&&(decide (c.state<q.states.length)&&f15 c.vals q.frees)
end Go.Proofs.YtjbcfpkibnhodaaGreatDoor.Ab
namespace Go.Proofs
open Go.Shelf
def Tryz.lays169_ren:Go.Shelf.Ren:=⟨fun | 169=>102 | n=>n,fun | 70=>166 | 9=>9 | 0=>0 | 72=>168 | 37=>39 | 127=>221 | 3=>3 | 5=>5 | n=>n,fun | n=>n⟩
theorem Tryz.lays169:Go.Proofs.Lays.n169 Tryz.prog Tryz.lays169_ren:={
 mixed:=by kernel_rfl
 f169:=Tryz.func102.trans (congrArg some (by kernel_rfl))
 t0:=Tryz.underlying0
 a0:=Tryz.isAgg0
 z0:=Tryz.sizeOf0
 v0:=Tryz.zeroValue0
 t3:=Tryz.underlying3
 a3:=Tryz.isAgg3
 z3:=Tryz.sizeOf3
 v3:=Tryz.zeroValue3
 t9:=Tryz.underlying9
 a9:=Tryz.isAgg9
 z9:=Tryz.sizeOf9
 v9:=Tryz.zeroValue9
 t37:=Tryz.underlying39
 a37:=Tryz.isAgg39
 z37:=Tryz.sizeOf39
 v37:=Tryz.zeroValue39
 t70:=Tryz.underlying166
 a70:=Tryz.isAgg166
 z70:=Tryz.sizeOf166
 v70:=Tryz.zeroValue166
 t72:=Tryz.underlying168
 a72:=Tryz.isAgg168
 z72:=Tryz.sizeOf168
 v72:=Tryz.zeroValue168
 t127:=Tryz.underlying221
 a127:=Tryz.isAgg221
 z127:=Tryz.sizeOf221
 v127:=Tryz.zeroValue221}
theorem Tryz.Builder_Extra_169:Builder.Extra Tryz.prog Tryz.lays169_ren:={
 sizeBuilder:=by kernel_rfl
 liesBuilder:=by kernel_rfl
 t5:=Tryz.underlying5
 a5:=Tryz.isAgg5
 z5:=Tryz.sizeOf5
 v5:=Tryz.zeroValue5
 infoByte:=by kernel_rfl
 cellsByte:=by kernel_rfl
 sizeByte:=by kernel_rfl
 neB5:=by decide}
open Go.RowKit in
theorem Tryz.Builder_String_any (B b:Nat) (l:List UInt8) (w:World) (h:Lib.IsBuilder 168 5 B b (Lib.byteCells l) w) (hBw:B≤w.heap.size):
  Calls Tryz.prog 102 #[.pointer (some ⟨b,0,none⟩)] w fun e w'=>e= .returned (.string ⟨l.toArray⟩)∧Below B w w':=Any.Builder_String_any Tryz.lays169 Tryz.Builder_Extra_169 B b l w h hBw
def Tryz.laysM173_ren:Go.Shelf.Ren:=⟨fun | 173=>181 | 246=>239 | 283=>266 | 284=>267 | 285=>268 | 286=>269 | 129=>177 | 317=>290 | 318=>291 | 319=>292 | 320=>293 | 337=>303 | 338=>304 | n=>n,fun | 2=>2 | 3=>3 | 9=>9 | 4=>4 | 171=>339 | 0=>0 | 53=>57 | 37=>39 | 5=>5 | 173=>341 | 212=>373 | 51=>40 | 20=>20 | 213=>374 | 46=>45 | 232=>399 | 233=>400 | n=>n,fun | 17=>7 | 18=>8 | 19=>9 | n=>n⟩
theorem Tryz.laysM173:Go.Proofs.LaysM.n173 Tryz.prog Tryz.laysM173_ren:={
 mixed:=by kernel_rfl
 f129:=Tryz.func177.trans (congrArg some (by kernel_rfl))
 f173:=Tryz.func181.trans (congrArg some (by kernel_rfl))
 f246:=Tryz.func239.trans (congrArg some (by kernel_rfl))
 f283:=Tryz.func266.trans (congrArg some (by kernel_rfl))
 f284:=Tryz.func267.trans (congrArg some (by kernel_rfl))
 f285:=Tryz.func268.trans (congrArg some (by kernel_rfl))
 f286:=Tryz.func269.trans (congrArg some (by kernel_rfl))
 f317:=Tryz.func290.trans (congrArg some (by kernel_rfl))
 f318:=Tryz.func291.trans (congrArg some (by kernel_rfl))
 f319:=Tryz.func292.trans (congrArg some (by kernel_rfl))
 f320:=Tryz.func293.trans (congrArg some (by kernel_rfl))
 f337:=Tryz.func303.trans (congrArg some (by kernel_rfl))
 f338:=Tryz.func304.trans (congrArg some (by kernel_rfl))
 t0:=Tryz.underlying0
 a0:=Tryz.isAgg0
 z0:=Tryz.sizeOf0
 v0:=Tryz.zeroValue0
 t2:=Tryz.underlying2
 a2:=Tryz.isAgg2
 z2:=Tryz.sizeOf2
 v2:=Tryz.zeroValue2
 t3:=Tryz.underlying3
 a3:=Tryz.isAgg3
 z3:=Tryz.sizeOf3
 v3:=Tryz.zeroValue3
 t4:=Tryz.underlying4
 a4:=Tryz.isAgg4
 z4:=Tryz.sizeOf4
 v4:=Tryz.zeroValue4
 t5:=Tryz.underlying5
 a5:=Tryz.isAgg5
 z5:=Tryz.sizeOf5
 v5:=Tryz.zeroValue5
 t9:=Tryz.underlying9
 a9:=Tryz.isAgg9
 z9:=Tryz.sizeOf9
 v9:=Tryz.zeroValue9
 t20:=Tryz.underlying20
 a20:=Tryz.isAgg20
 z20:=Tryz.sizeOf20
 v20:=Tryz.zeroValue20
 t37:=Tryz.underlying39
 a37:=Tryz.isAgg39
 z37:=Tryz.sizeOf39
 v37:=Tryz.zeroValue39
 t46:=Tryz.underlying45
 a46:=Tryz.isAgg45
 z46:=Tryz.sizeOf45
 v46:=Tryz.zeroValue45
 t51:=Tryz.underlying40
 a51:=Tryz.isAgg40
 z51:=Tryz.sizeOf40
 v51:=Tryz.zeroValue40
 t53:=Tryz.underlying57
 a53:=Tryz.isAgg57
 z53:=Tryz.sizeOf57
 v53:=Tryz.zeroValue57
 t171:=Tryz.underlying339
 a171:=Tryz.isAgg339
 z171:=Tryz.sizeOf339
 v171:=Tryz.zeroValue339
 t173:=Tryz.underlying341
 a173:=Tryz.isAgg341
 z173:=Tryz.sizeOf341
 v173:=Tryz.zeroValue341
 t212:=Tryz.underlying373
 a212:=Tryz.isAgg373
 z212:=Tryz.sizeOf373
 v212:=Tryz.zeroValue373
 t213:=Tryz.underlying374
 a213:=Tryz.isAgg374
 z213:=Tryz.sizeOf374
 t232:=Tryz.underlying399
 a232:=Tryz.isAgg399
 z232:=Tryz.sizeOf399
 v232:=Tryz.zeroValue399
 t233:=Tryz.underlying400
 a233:=Tryz.isAgg400
 z233:=Tryz.sizeOf400
 v233:=Tryz.zeroValue400
 g17:=by kernel_rfl
 g18:=by kernel_rfl
 g19:=by kernel_rfl
 i0:=by kernel_rfl
 i2:=by kernel_rfl
 i3:=by kernel_rfl
 i4:=by kernel_rfl
 i5:=by kernel_rfl
 i9:=by kernel_rfl
 i20:=by kernel_rfl
 i37:=by kernel_rfl
 i46:=by kernel_rfl
 i51:=by kernel_rfl
 i53:=by kernel_rfl
 i171:=by kernel_rfl
 i173:=by kernel_rfl
 i212:=by kernel_rfl
 i232:=by kernel_rfl
 i233:=by kernel_rfl
 m17:=by kernel_rfl
 m18:=by kernel_rfl
 m19:=by kernel_rfl}
open Go.RowKit Go.Sort Go.Lib in
theorem Tryz.strconv_FormatInt_10 (n:Int) (h0: -9223372036854775808≤n) (h1:n≤9223372036854775807) (w:World) (htab:Lib.TabIs Tryz.prog w "internal/strconv.uint64pow10" .u64 Lib.pow10Tab):
  Calls Tryz.prog 181 #[.int .i64 n,.int .i64 10] w fun e w'=>e= .returned (.string ⟨(Lib.itoa n).toArray⟩)∧∃k os,w'=grow (w.drewN k) os:=Any.strconv_FormatInt_10 Tryz.laysM173 n h0 h1 w htab
end Go.Proofs
namespace Go.Proofs.YtjbcfpkibnhodaaGreatDoor.Ab
open Go
section
variable {G:Nat→Option AV}
end
section
open Go.RowKit
variable {G:Nat→Option AV} {P:Program}
theorem P_.of_str {f:Nat} {args:List AV} {r:Str} (h:∀(w:World) (F:Nat→Prop) (vs:Array Value),Good w F G→A_ w F args vs→Calls P f vs w fun e w'=>e= .returned (.string ⟨r.toArray⟩)∧Below w.heap.size w w'):P_ P G f args (.str r):=by
 intro w F vs hg ha
 refine (h w F vs hg ha).mono ?_
 rintro e w' ⟨rfl,hb⟩
 exact⟨_,F,rfl,fun b h=>h,fun b h=>.inl h,fun b h=>Nat.lt_of_lt_of_le (hg.1 b h) hb.size,.str _ _,hb⟩
theorem a1_ {w:World} {F:Nat→Prop} {c:AV} {vs:Array Value} (h:A_ w F [c] vs):∃v,vs=#[v]∧Rd w F n10 c v:=by
 obtain⟨hs,hr⟩:=h
 obtain⟨l⟩:=vs
 match l,hs with
 | [v],_ =>exact⟨v,rfl,hr 0 c v rfl rfl⟩
theorem a2_ {w:World} {F:Nat→Prop} {c d:AV} {vs:Array Value} (h:A_ w F [c,d] vs):∃v u,vs=#[v,u]∧Rd w F n10 c v∧Rd w F n10 d u:=by
 obtain⟨hs,hr⟩:=h
 obtain⟨l⟩:=vs
 match l,hs with
 | [v,u],_ =>exact⟨v,u,rfl,hr 0 c v rfl rfl,hr 1 d u rfl rfl⟩
theorem to14 {w:World} {F:Nat→Prop} {g:Nat} {n:String} {k:IntKind} {l:List Int} (hn:P.globalNamed n=some g) (hg:Good w F G) (h:G g=some (.agg (l.map (AV.int k)))):Lib.TabIs P w n k l:=by
 obtain⟨h1,arr,t,fz,h2,h3⟩:=hg.2 g _ h
 unfold Lib.TabIs World.var?
 rw[hn]
 simp only[Option.bind_some,h2]
 have hs:arr.size=l.length:=by simpa [AV.cells] using h3
 congr 1
 apply Array.ext
 ·simp [hs]
 ·intro i hi hi'
  rw[hs] at hi
  cases h1 with
  | eptr _ _ _ _ _ u hF hw h1 h=>
   have e1:=hw i (by simpa [AV.cells] using hi)
   have e2:=h i (.int k l[i]) (by simp [AV.cells,hi])
   simp only[World.cell?,Nat.zero_add,h2,Option.isSome_none,if_false] at e1
   simp only[List.getElem_toArray,List.getElem_map]
   cases e2':u i with
   | int k' n'=>
    rw[e2'] at e2
    cases e2
    rw[e2'] at e1
    have e3:arr[i]? =some (Value.int k l[i]):=by simpa using e1
    exact (Array.getElem?_eq_some_iff.1 e3).2
   | _ =>rw[e2'] at e2;cases e2
theorem sFp_ (hG:G 7=some (.agg (Lib.pow10Tab.map (AV.int .u64)))) (n:Int) (hn:i64 n):P_ Tryz.prog G nsF_ [iv n,iv 10] (.str (Lib.itoa n)):=by
 refine P_.of_str fun w F vs hg ha=>?_
 obtain⟨v,u,rfl,h1,h2⟩:=a2_ ha
 cases h1
 cases h2
 unfold i64 at hn
 refine (Tryz.strconv_FormatInt_10 n hn.1 (by omega) w (to14 (by kernel_rfl) hg hG)).mono ?_
 rintro e w' ⟨rfl,k,os,rfl⟩
 exact⟨rfl,Lib.below_grow _ _ (Nat.le_refl _) _ _⟩
end
end Go.Proofs.YtjbcfpkibnhodaaGreatDoor.Ab
namespace Go.Proofs.YtjbcfpkibnhodaaGreatDoor.Ab
open Go Go.RowKit
variable {G:Nat→Option AV}
theorem ta15 {α:Type} {l:List α} {i:Nat} {x:α} (h:l[i]? =some x):l.take (i+1)=l.take i++[x]:=by
 rw[List.take_add_one,h];rfl
end Go.Proofs.YtjbcfpkibnhodaaGreatDoor.Ab
namespace Go.Proofs.YtjbcfpkibnhodaaGreatDoor.Ab
open Go Go.RowKit
variable {G:Nat→Option AV}
abbrev z8:AV:=.int .u8 0
end Go.Proofs.YtjbcfpkibnhodaaGreatDoor.Ab
namespace Go.Proofs.YtjbcfpkibnhodaaGreatDoor.Ab
open Go Go.RowKit
variable {G:Nat→Option AV}
theorem ok_kind {v:Val} (h:v.ok=true):v.kind=1∨v.kind=2∨v.kind=3:=by
 unfold Val.ok at h
 split at h
 ·exact .inl ‹_›
 ·split at h
  ·exact .inr (.inl ‹_›)
  ·simp only[Bool.and_eq_true,decide_eq_true_eq] at h
   exact .inr (.inr h.1)
end Go.Proofs.YtjbcfpkibnhodaaGreatDoor.Ab
namespace Go.Proofs.YtjbcfpkibnhodaaGreatDoor.Ab
open Go
variable {G:Nat→Option AV}
end Go.Proofs.YtjbcfpkibnhodaaGreatDoor.Ab
namespace Go.Proofs.YtjbcfpkibnhodaaGreatDoor.Ab
open Go Go.RowKit
variable {G:Nat→Option AV} {P:Program}
end Go.Proofs.YtjbcfpkibnhodaaGreatDoor.Ab
namespace Go.Proofs.YtjbcfpkibnhodaaGreatDoor.Ab
open Go Go.RowKit
variable {G:Nat→Option AV}
end Go.Proofs.YtjbcfpkibnhodaaGreatDoor.Ab
namespace Go.Proofs.YtjbcfpkibnhodaaGreatDoor.Ab
open Go
variable {G:Nat→Option AV}
end Go.Proofs.YtjbcfpkibnhodaaGreatDoor.Ab
namespace Go.Proofs.YtjbcfpkibnhodaaGreatDoor.Ab
open Go
variable {G:Nat→Option AV}
theorem nl13 {s:Str} (h:n13 s=true):s.length≤32:=by
 unfold n13 at h
 rw[Bool.and_eq_true] at h
 have h1:=h.1
 unfold s20 at h1
 split at h1
 ·cases h1
 ·simp only[Bool.and_eq_true,decide_eq_true_eq] at h1
  exact h1.1
theorem rp_ {q:QeaT} (h:r10 q=true):h18 q=true∧(allS (s30 q) q.trans 0 0).1=true∧allI (symR q) q.symbols=true:=by
 unfold r10 topR t13 s15 at h
 simp only[Bool.and_eq_true] at h
 exact⟨h.1.2.2.2.2,h.2.1.1,h.2.2.2.1⟩
end Go.Proofs.YtjbcfpkibnhodaaGreatDoor.Ab
namespace Go.Proofs.YtjbcfpkibnhodaaGreatDoor.Ab
open Go
variable {G:Nat→Option AV}
end Go.Proofs.YtjbcfpkibnhodaaGreatDoor.Ab
namespace Go.Proofs.YtjbcfpkibnhodaaGreatDoor.Ab
open Go Go.ChangeShapes Go.WideShapes Go.RowKit
end Go.Proofs.YtjbcfpkibnhodaaGreatDoor.Ab
namespace Go.Proofs.YtjbcfpkibnhodaaGreatDoor.Ab
open Go Go.RowKit
variable {G:Nat→Option AV}
def s29 (q:QeaT):CfgT:=⟨q.start,q.frees.map (·.init)⟩
theorem is10 {q:QeaT} {i:Nat} {f:FreeT} (h:q.frees[i]? =some f):(q.frees.take (i+1)).map (·.init)=(q.frees.take i).map (·.init)++[f.init]:=by rw[ta15 h];simp
def s31 (q:QeaT):AV:=.agg [iv q.start,if q.frees=[] then .nils else .seq 4 ((q.frees.map (·.init)).map valV)]
theorem sf_ (q:QeaT):Fit2 (.seq 2 [s31 q]) (c11 [s29 q]):=by
 refine .seq _ _ _ rfl (fun f hf=>by obtain rfl:=List.mem_singleton.1 hf;rfl) fun j a b ha hb=>?_
 match j,ha,hb with
 | 0,ha,hb=>
  cases ha;cases hb
  refine .agg _ _ rfl fun j a b ha hb=>?_
  match j,ha,hb with
  | 0,ha,hb=>cases ha;cases hb;exact .refl _
  | 1,ha,hb=>
   cases ha;cases hb
   by_cases h:q.frees=[]
   ·rw[if_pos h]
    unfold s29
    simp only[h,List.map_nil]
    exact .nil _
   ·rw[if_neg h]
    exact .refl _
theorem rS12 (q:QeaT) (hf:q.frees.length≤1000):P_ Tryz.prog G np11 [qeaV q] (.seq 2 [s31 q]):=by
 refine pp14 (Runs.of fun Φ h=>?_)
 unfold cp15
 simp -implicitDefEqProofs only[go_sem,qeaV,d_,q_,f_,s_,s10,n_,t_,List.length_map]
 refine al_ (fun n st=>∃(i:Nat) (m:List Val),i+n=q.frees.length∧m=(q.frees.take i).map (·.init)∧m.length=i∧((i=0∧st=⟨28,[(1,.ref 1 0 0),(3,.ref 3 0 0),(4,iv i)],[(1,⟨false,taQ_,9,[qeaV q]⟩),(2,⟨true,taC_,2,[]⟩),(3,⟨false,taC_,2,[.agg [iv q.start,.nils]]⟩)]⟩)∨(0<i∧st=⟨28,[(1,.ref 1 0 0),(3,.ref 3 0 0),(4,iv i)],[(1,⟨false,taQ_,9,[qeaV q]⟩),(2,⟨true,taC_,2,[]⟩),(3,⟨false,taC_,2,[.agg [iv q.start,.arr 24 0 m.length]]⟩),(24,⟨true,taV_,4,m.map valV⟩)]⟩))) q.frees.length ⟨0,[],by simp,rfl,rfl,.inl ⟨rfl,by simp [qeaV,d_,q_,f_,s_,s10,n_,t_];rfl⟩⟩ ?_
 rintro I hI n st ⟨i,m,hi,hm,hml,⟨h0,rfl⟩ | ⟨h0,rfl⟩⟩
 ·subst h0
  obtain rfl:m=[]:=List.eq_nil_of_length_eq_zero hml
  simp -implicitDefEqProofs only[go_sem,qeaV,d_,q_,f_,s_,s10,n_,t_,List.length_map]
  refine⟨fun hlt=>?_,fun hge=>?_⟩
  ·have hlt':0<q.frees.length:=by omega
   obtain⟨f,hf',_⟩:=as10 hlt'
   have hw:=ws_ hlt' (by omega)
   have hnx:=is10 hf'
   obtain⟨nm,v⟩:=f
   obtain⟨a,b,c,d⟩:=v
   repeat' (first|simp -implicitDefEqProofs only[go_sem,qeaV,d_,q_,f_,s_,s10,n_,t_,am_ hf',f11,hw,List.length_map]|refine ag_ (fun hb=>?_) (fun hb=>?_)|refine⟨fun hb=>?_,fun hb=>?_⟩|fail)
   refine aa_ (n - 1) (by omega) (hI _ _ ⟨1,[⟨a,b,c,d⟩],by omega,hnx.symm,rfl,.inr ⟨by decide,?_⟩⟩)
   simp [valV,qeaV,d_,q_,f_,s_,s10,n_,t_]
  ·have e:s31 q= .agg [iv q.start,.nils]:=by
    unfold s31
    rw[if_pos (List.eq_nil_of_length_eq_zero (by omega))]
   rw[e] at h
   repeat' (first|simp -implicitDefEqProofs only[go_sem,qeaV,d_,q_,f_,s_,s10,n_,t_]|refine ag_ (fun hb=>?_) (fun hb=>?_)|refine⟨fun hb=>?_,fun hb=>?_⟩|fail)
   exact h _ ⟨_,_,rfl,rfl,.refl _⟩
 ·have hb1:(m.length+1)*40≤140737488355328:=by omega
  simp -implicitDefEqProofs only[go_sem,qeaV,d_,q_,f_,s_,s10,n_,t_,List.length_map]
  refine⟨fun hlt=>?_,fun hge=>?_⟩
  ·have hlt':i<q.frees.length:=by omega
   obtain⟨f,hf',_⟩:=as10 hlt'
   have hw:=ws_ hlt' (by omega)
   have hnx:=is10 hf'
   rw[←hm] at hnx
   obtain⟨nm,v⟩:=f
   obtain⟨a,b,c,d⟩:=v
   repeat' (first|simp -implicitDefEqProofs only[go_sem,qeaV,d_,q_,f_,s_,s10,n_,t_,am_ hf',f11,hw,List.length_map,List.length_append,hb1]|refine ag_ (fun hb=>?_) (fun hb=>?_)|refine⟨fun hb=>?_,fun hb=>?_⟩|fail)
   refine aa_ (n - 1) (by omega) (hI _ _ ⟨i+1,m++[⟨a,b,c,d⟩],by omega,hnx.symm,by simp [hml],.inr ⟨by omega,?_⟩⟩)
   simp [valV,qeaV,d_,q_,f_,s_,s10,n_,t_]
  ·have e:s31 q= .agg [iv q.start,.seq 4 (m.map valV)]:=by
    unfold s31
    rw[hm,List.take_of_length_le (by omega),if_neg (fun e=>by rw[e] at hi;simp at hi;omega)]
   rw[e] at h
   have htk:List.take m.length (m.map valV)=m.map valV:=List.take_of_length_le (by simp)
   repeat' (first|simp -implicitDefEqProofs only[go_sem,qeaV,d_,q_,f_,s_,s10,n_,t_,Nat.le_refl,htk]|refine ag_ (fun hb=>?_) (fun hb=>?_)|refine⟨fun hb=>?_,fun hb=>?_⟩|fail)
   exact h _ ⟨_,_,rfl,rfl,.refl _⟩
theorem da_ {α:Type} {l:List α} {i:Nat} {x:α} (hx:l[i]? =some x):l.drop i=x::l.drop (i+1):=by
 obtain⟨h1,rfl⟩:=List.getElem?_eq_some_iff.1 hx
 exact List.drop_eq_getElem_cons h1
end Go.Proofs.YtjbcfpkibnhodaaGreatDoor.Ab
namespace Go.Proofs.YtjbcfpkibnhodaaGreatDoor.Ab
open Go Go.RowKit
variable {G:Nat→Option AV}
structure MaskQ (q:QeaT):Prop where
 states:q.states.length≤12
 symbols:q.symbols.length≤12
 trans:q.trans.length≤12
 sym:∀t∈q.trans,0≤t.symbol∧t.symbol<q.symbols.length
 to_:∀t∈q.trans,0≤t.to_∧t.to_<q.states.length
 start:0≤q.start∧q.start<q.states.length
end Go.Proofs.YtjbcfpkibnhodaaGreatDoor.Ab
namespace Go.Proofs.YtjbcfpkibnhodaaGreatDoor.Ab
open Go Go.RowKit
theorem wt_ {st:St} {i:Nat} {b:Box} (hi:hget st.heap i=some b) (hrow:b.row=true):Weak st (st.thaw1 i):=fun _ _ _ _ ⟨nm,_,h⟩=>⟨nm,_,h.thaw1 hi hrow⟩
end Go.Proofs.YtjbcfpkibnhodaaGreatDoor.Ab
namespace Go.Proofs.YtjbcfpkibnhodaaGreatDoor.Ab
open Go Go.RowKit
variable {G:Nat→Option AV}
theorem fs20 {q:QeaT} (h:fewQ q=true):q.states.length≤12:=by
 unfold fewQ f23 at h
 simp only[Bool.and_eq_true,decide_eq_true_eq] at h
 have:=h.1.2.2.2.1
 omega
end Go.Proofs.YtjbcfpkibnhodaaGreatDoor.Ab
namespace Go.Proofs.YtjbcfpkibnhodaaGreatDoor.Ab
open Go
theorem tk10 {s:Str} (h:(t26 s).2=0):(t26 s).1.kind=2:=by
 unfold t26 at*
 split at h
 ·simp at h
 ·rename_i h1;rw[if_neg h1]
theorem ok_ {op:Int} {a b:Val} (h:(opR op a b).2=0):(opR op a b).1.kind=o11 op a.kind b.kind:=by
 have hk0:¬o11 op a.kind b.kind=0:=fun e=>by
  unfold opR at h
  split at h
  ·simp at h
  ·first | (rw[if_pos e] at h;simp at h;done) | (simp at h;done)
 have hop:¬(op<4∨16<op):=fun e=>by
  unfold opR at h
  rw[if_pos e] at h
  simp at h
 have hcase:op=4∨op=5∨op=6∨op=7∨op=8∨op=9∨op=10∨op=11∨op=12∨op=13∨op=14∨op=15∨op=16:=by omega
 unfold opR at h ⊢
 rw[if_neg hop,if_neg hk0] at h ⊢
 have num:∀(r:Int×Int),(if r.2=0 then ((⟨1,r.1,[],false⟩:Val),(0:Int)) else (v0,r.2)).2=0→(if r.2=0 then ((⟨1,r.1,[],false⟩:Val),(0:Int)) else (v0,r.2)).1.kind=1:=fun r hr=>by
  by_cases h0:r.2=0
  ·rw[if_pos h0]
  ·rw[if_neg h0] at hr;exact absurd hr h0
 unfold o11 at hk0 ⊢
 rcases hcase with rfl | rfl | rfl | rfl | rfl | rfl | rfl | rfl | rfl | rfl | rfl | rfl | rfl
 all_goals simp at hk0 h ⊢
 ·exact hk0
 ·split at h
  ·omega
  ·rw[if_neg (by omega)]
   rw[num _ h,if_pos hk0]
 ·simp [hk0]
 ·simp [hk0]
 ·rw[if_pos (show (a.kind=1∨a.kind=2)∧b.kind=a.kind from ⟨hk0.1,hk0.2.1⟩)]
  split at h
  ·rename_i h2
   rw[if_pos h2,tk10 h,h2]
  ·rename_i h2
   rw[if_neg h2,num _ h]
   omega
 ·rw[if_neg (by omega)] at h ⊢
  rw[num _ h,if_pos ⟨hk0.1,hk0.2.1⟩];omega
 ·rw[if_neg (by omega)] at h ⊢
  rw[num _ h,if_pos ⟨hk0.1,hk0.2.1⟩];omega
 ·rw[if_neg (by omega)] at h ⊢
  rw[num _ h,if_pos ⟨hk0.1,hk0.2.1⟩];omega
 ·rw[if_neg (by omega)] at h ⊢
  rw[num _ h,if_pos ⟨hk0.1,hk0.2.1⟩];omega
 ·simp [hk0]
 ·simp [hk0]
 ·simp [hk0]
 ·simp [hk0]
theorem ek11 {q:QeaT} {b:List SlotT} {vals:List Val} (hf:f15 vals q.frees=true):∀(i:Nat) (e:ExT),(e13 q)[i]? =some e→¬e.kind=0→(ev q b vals i).2=0→(ev q b vals i).1.kind=e.kind:=by
 intro i
 induction i using Nat.strongRecOn with
 | _ i ih=>
  intro e he hk h0
  have hlen:=el_ q q.nodes.length (Nat.le_refl _)
  have hi:i<q.nodes.length:=by
   have:=(List.getElem?_eq_some_iff.1 he).1
   unfold e13 at this
   omega
  obtain⟨x,hx,hm⟩:=as10 hi
  have hel:=el_ q i (by omega)
  unfold e13 at he
  rw[eg_ hx _ hi (Nat.le_refl _)] at he
  simp only[Option.some.injEq] at he
  subst he
  have sub:∀(j:Nat) c,(exL q i)[j]? =some c→j<i∧(e13 q)[j]? =some c:=fun j c h=>⟨by have:=(List.getElem?_eq_some_iff.1 h).1;omega,ep10 (by omega) h⟩
  rw[ea_ hx] at h0 ⊢
  unfold e15 at hk ⊢
  unfold evN at h0 ⊢
  cases hleaf:l12 q i x with
  | some e=>
   unfold l12 at hleaf
   by_cases h1:x.op=1
   ·rw[if_pos h1] at hleaf
    rw[if_pos h1]
    split at hleaf
    ·cases hleaf;rfl
    ·cases hleaf
   rw[if_neg h1] at hleaf h0 ⊢
   by_cases h2:x.op=2
   ·rw[if_pos h2] at hleaf h0 ⊢
    split at hleaf
    ·obtain⟨y,hy,rfl⟩:=Option.map_eq_some_iff.1 hleaf
     rw[hy] at h0 ⊢
     dsimp only at h0 ⊢
     unfold q12 at h0 ⊢
     split at h0
     ·rename_i hg
      rw[if_pos hg]
      exact hg.2
     ·simp at h0
    ·cases hleaf
   rw[if_neg h2] at hleaf h0 ⊢
   by_cases h3:x.op=3
   ·rw[if_pos h3] at hleaf h0 ⊢
    split at hleaf
    ·obtain⟨y,hy,rfl⟩:=Option.map_eq_some_iff.1 hleaf
     obtain⟨f1,f2⟩:=fa_ hf
     obtain⟨j,hj,hyj⟩:=at?_some hy
     obtain⟨v,hv,_⟩:=as10 (l:=vals) (i:=j) (by have:=(List.getElem?_eq_some_iff.1 hyj).1;omega)
     rw[hj,at?_nat hv] at h0 ⊢
     exact (f2 j v y hv hyj).2
    ·cases hleaf
   rw[if_neg h3] at hleaf
   cases hleaf
  | none=>
   rw[hleaf] at hk
   dsimp only at hk ⊢
   split at hk
   ·exact absurd rfl hk
   rename_i hop
   rw[if_neg hop]
   have hop4:4≤x.op∧x.op≤16:=by
    constructor
    ·by_cases h:4≤x.op
     ·exact h
     ·exact absurd (.inl (by omega)) hop
    ·by_cases h:x.op≤16
     ·exact h
     ·exact absurd (.inr (.inl (by omega))) hop
   rw[if_neg (by omega),if_neg (by omega),if_neg (by omega)] at h0 ⊢
   cases hb:at? (exL q i) ((i:Int) - 1) with
   | none=>rw[hb] at hk;exact absurd rfl hk
   | some bb=>
    rw[hb] at hk
    dsimp only at hk ⊢
    obtain⟨j,hj,hbj⟩:=at?_some hb
    obtain⟨hji,hbe⟩:=sub j bb hbj
    split at hk
    ·exact absurd rfl hk
    rename_i hbk
    rw[if_neg hbk]
    have ihj:=ih j hji bb hbe hbk
    split at hk
    ·rename_i h5
     rw[if_pos h5]
     split at hk
     ·rename_i hc
      rw[if_pos hc]
      have hxa:x.a=j:=by omega
      rw[hxa] at h0 ⊢
      simp only[Int.toNat_natCast,if_pos hji] at h0 ⊢
      unfold evOp at h0 ⊢
      by_cases hr:(ev q b vals j).2=0
      ·rw[if_neg (by simpa using hr),if_pos h5] at h0 ⊢
       rw[ok_ h0,ihj hr]
       dsimp only
       have:x.op=4∨x.op=5:=by omega
       rcases this with e | e <;> rw[e] <;> simp [o11]
      ·rw[if_pos hr] at h0
       exact absurd h0 hr
     ·exact absurd rfl hk
    ·rename_i h5
     rw[if_neg h5]
     split at hk
     ·rename_i hc
      rw[if_pos hc]
      cases ha:at? (exL q i) x.a with
      | none=>rw[ha] at hk;exact absurd rfl hk
      | some aa=>
       rw[ha] at hk
       dsimp only at hk ⊢
       split at hk
       ·exact absurd rfl hk
       rename_i hak
       rw[if_neg hak]
       obtain⟨k,hxk,hak'⟩:=at?_some ha
       obtain⟨hki,hae⟩:=sub k aa hak'
       have ihk:=ih k hki aa hae hak
       have hxb:x.b=j:=by omega
       rw[hxk,hxb] at h0 ⊢
       simp only[Int.toNat_natCast,if_pos hji,if_pos hki] at h0 ⊢
       unfold evOp at h0 ⊢
       by_cases hr:(ev q b vals k).2=0
       ·rw[if_neg (by simpa using hr),if_neg h5] at h0 ⊢
        by_cases hs:(x.op=6∧(ev q b vals k).1.bool=false)∨(x.op=7∧(ev q b vals k).1.bool=true)
        ·rw[if_pos hs] at h0 ⊢
         dsimp only at hk ⊢
         rw[ihk hr]
         have:x.op=6∨x.op=7:=by omega
         unfold o11 at hk ⊢
         rcases this with e | e <;> (rw[e] at hk ⊢;simp at hk ⊢;simp [hk])
        ·rw[if_neg hs] at h0 ⊢
         by_cases hs2:(ev q b vals j).2=0
         ·rw[if_neg (by simpa using hs2)] at h0 ⊢
          rw[ok_ h0,ihk hr,ihj hs2]
         ·rw[if_pos hs2] at h0
          exact absurd h0 hs2
       ·rw[if_pos hr] at h0
        exact absurd h0 hr
     ·exact absurd rfl hk
theorem wk10 {q:QeaT} {a r k:Int} (h:w_ (e13 q) a r k=true):∃(i:Nat) (e:ExT),r=i∧(e13 q)[i]? =some e∧e.kind=k∧¬e.kind=0:=by
 unfold w_ at h
 split at h
 ·cases h
 ·rename_i e he
  obtain⟨i,hi,hei⟩:=at?_some he
  simp only[Bool.and_eq_true,beq_iff_eq,Bool.not_eq_true',beq_eq_false_iff_ne,ne_eq,decide_eq_true_eq] at h
  exact⟨i,e,hi,hei,h.2.1,by rw[h.2.1];exact h.2.2.1⟩
end Go.Proofs.YtjbcfpkibnhodaaGreatDoor.Ab
namespace Go.Proofs.YtjbcfpkibnhodaaGreatDoor.Ab
open Go
section
variable {α:Type} [DecidableEq α]
end
structure TO {α:Type} (lt:α→α→Bool) (ok:α→Prop):Prop where
 irr:∀a,lt a a=false
 trans:∀{a b c},lt a b=true→lt b c=true→lt a c=true
 tot:∀{a b},ok a→ok b→a≠b→lt a b=true∨lt b a=true
section
variable {α:Type} {lt:α→α→Bool} {ok:α→Prop}
end
end Go.Proofs.YtjbcfpkibnhodaaGreatDoor.Ab
namespace Go.Proofs.YtjbcfpkibnhodaaGreatDoor.Ab
open Go
variable {G:Nat→Option AV}
theorem vr14 {α:Type} {e:α→AV} {sz:Nat} {H:List (Nat×Box)} {i n:Nat} {ty:Nat} {l:List α} (h0:0<sz) (hH:hget H i=some ⟨true,ty,sz,l.map e⟩) (hn:l.length=n):view H (.arr i 0 n)=some (.seq sz (l.map e)):=by
 simp only[view,hH,List.drop_zero,List.length_map,hn]
 simp [h0,←hn]
 exact List.take_of_length_le (by simp)
def u11 (a b:List SlotT) (v:Nat):List SlotT:=if (getR a v).2 then [⟨v,(getR a v).1⟩] else if (getR b v).2 then [⟨v,(getR b v).1⟩] else []
def u18 (a b:List SlotT):List SlotT:=(List.range 8).flatMap (u11 a b)
def u15 (a b:List SlotT) (n:Nat):List SlotT:=(List.range n).flatMap (u11 a b)
theorem us_ (a b:List SlotT) (n:Nat):u15 a b (n+1)=u15 a b n++u11 a b n:=by simp [u15,List.range_succ]
theorem ul_ (a b:List SlotT) (v:Nat):(u11 a b v).length≤1:=by
 unfold u11
 split
 ·simp
 ·split <;> simp
theorem ul10 (a b:List SlotT):∀n,(u15 a b n).length≤n
 | 0=>by simp [u15]
 | n+1=>by
  have h1:=ul10 a b n
  have h2:=ul_ a b n
  rw[us_,List.length_append]
  omega
theorem rU10 (a b:List SlotT) (ha:a.length<9223372036854775807) (hb:b.length<9223372036854775807):P_ Tryz.prog G np27 [s11 a,s11 b] (s11 (u18 a b)):=by
 refine pp21 (Runs.of fun Φ h=>?_)
 unfold cp22
 simp -implicitDefEqProofs only[go_sem,s11]
 refine al_ (fun n st=>∃(i:Nat) (m:List SlotT),i+n=8∧st=⟨42,[(0,.seq 5 (a.map s16)),(1,.seq 5 (b.map s16)),(5,.arr 5 0 m.length),(6,iv i)],[(4,⟨true,ta10,5,[]⟩),(5,⟨true,ta10,5,m.map s16⟩)]⟩∧m=u15 a b i) 8 ⟨0,[],by simp,rfl,rfl⟩ ?_
 rintro I hI n st ⟨i,m,hi,rfl,hm⟩
 have hml:m.length≤8:=by have:=ul10 a b i;rw[hm];omega
 simp -implicitDefEqProofs only[go_sem]
 refine⟨fun hlt=>?_,fun hge=>?_⟩
 ·have hlt':i<8:=by omega
  have hw:=ws_ hlt' (by omega)
  have h1:=rGp_ (G:=G) a ha i
  have h2:=rGp_ (G:=G) b hb i
  have hnx:=us_ a b i
  rw[←hm] at hnx
  unfold u11 at hnx
  have hb1:(m.length+1)*48≤140737488355328:=by omega
  generalize getR a i=x at*
  generalize getR b i=y at*
  obtain⟨⟨k1,n1,s1,t1⟩,o1⟩:=x
  obtain⟨⟨k2,n2,s2,t2⟩,o2⟩:=y
  simp only[s11,vbt,valV] at h1 h2
  cases o1
  ·cases o2
   ·simp only[Bool.false_eq_true,if_false,List.append_nil] at hnx
    repeat' (first|simp -implicitDefEqProofs only[go_sem,hw]|refine ag_ (fun hb=>?_) (fun hb=>?_)|refine⟨fun hb=>?_,fun hb=>?_⟩|refine ac_ h1 rfl rfl ?_|refine ac_ h2 rfl rfl ?_|fail)
    exact aa_ (n - 1) (by omega) (hI _ _ ⟨i+1,m,by omega,rfl,hnx.symm⟩)
   ·simp only[Bool.false_eq_true,if_false,if_true] at hnx
    repeat' (first|simp -implicitDefEqProofs only[go_sem,hw,List.length_map,List.length_append,hb1]|refine ag_ (fun hb=>?_) (fun hb=>?_)|refine⟨fun hb=>?_,fun hb=>?_⟩|refine ac_ h1 rfl rfl ?_|refine ac_ h2 rfl rfl ?_|fail)
    refine aa_ (n - 1) (by omega) (hI _ _ ⟨i+1,m++[⟨i,⟨k2,n2,s2,t2⟩⟩],by omega,?_,hnx.symm⟩)
    simp [s16]
  ·simp only[if_true] at hnx
   repeat' (first|simp -implicitDefEqProofs only[go_sem,hw,List.length_map,List.length_append,hb1]|refine ag_ (fun hb=>?_) (fun hb=>?_)|refine⟨fun hb=>?_,fun hb=>?_⟩|refine ac_ h1 rfl rfl ?_|refine ac_ h2 rfl rfl ?_|fail)
   refine aa_ (n - 1) (by omega) (hI _ _ ⟨i+1,m++[⟨i,⟨k1,n1,s1,t1⟩⟩],by omega,?_,hnx.symm⟩)
   simp [s16]
 ·have:i=8:=by omega
  subst this
  have hm:m=u18 a b:=hm
  subst hm
  repeat' (first|simp -implicitDefEqProofs only[go_sem]|refine ag_ (fun hb=>?_) (fun hb=>?_)|refine⟨fun hb=>?_,fun hb=>?_⟩|fail)
  exact h _ ⟨_,_,rfl,vr14 (ty:=ta10) (e:=s16) (by decide) (by simp [hget]) rfl,.refl _⟩
end Go.Proofs.YtjbcfpkibnhodaaGreatDoor.Ab
namespace Go.Proofs.YtjbcfpkibnhodaaGreatDoor.Ab
open Go Go.RowKit Go.Shelf
attribute [local go_sem] Oper.semAt_some
variable {G:Nat→Option AV}
def u13 (b:List SlotT) (s:SlotT):Bool:=(getR b s.var).2&&decide ((getR b s.var).1=s.value)
def u12 (a b:List SlotT):Bool:=a.all (u13 b)
end Go.Proofs.YtjbcfpkibnhodaaGreatDoor.Ab
namespace Go.Proofs.YtjbcfpkibnhodaaGreatDoor.Ab
open Go Go.RowKit Go.Shelf
attribute [local go_sem] Oper.semAt_some
variable {G:Nat→Option AV}
def f22 (b:List SlotT) (s:SlotT):Bool:=!(getR b s.var).2||decide ((getR b s.var).1=s.value)
def f29 (a b:List SlotT):Bool:=a.all (f22 b)
end Go.Proofs.YtjbcfpkibnhodaaGreatDoor.Ab
