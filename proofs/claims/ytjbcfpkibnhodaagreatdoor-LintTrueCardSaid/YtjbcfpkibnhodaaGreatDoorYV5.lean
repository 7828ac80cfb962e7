/-
  core: the expressions of all nodes. binding, proctorref05: what a binding has; which may be. eval, proctorref16: whether values fit. No claim is proved here.
-/
import Derived.Test.YtjbcfpkibnhodaaGreatDoorYD7
set_option linter.unusedSimpArgs false
set_option maxHeartbeats 4000000
set_option maxRecDepth 100000
namespace Go.Proofs.YtjbcfpkibnhodaaGreatDoor.Ab
open Go
variable {G:Nat→Option AV}
def e15 (q:QeaT) (out:List ExT) (i:Nat) (x:NodeT):ExT:=
 match l12 q i x with
 | some e=>e
 | none=>if x.op<4∨16<x.op∨¬x.value=v0 then e0 else
  match at? out ((i:Int) - 1) with
  | none=>e0
  | some b=>if b.kind=0 then e0 else
   if x.op≤5 then (if x.a=(i:Int) - 1∧x.b=0 then ⟨o11 x.op b.kind b.kind,b.depth+1,b.from_⟩ else e0)
   else if x.b=(i:Int) - 1∧x.a=b.from_ - 1 then
    match at? out x.a with
    | none=>e0
    | some a=>if a.kind=0 then e0 else ⟨o11 x.op a.kind b.kind,max a.depth b.depth+1,a.from_⟩
   else e0
def exL (q:QeaT):Nat→List ExT
 | 0=>[]
 | n+1=>match q.nodes[n]? with
  | some x=>exL q n++[e15 q (exL q n) n x]
  | none=>exL q n
def e13 (q:QeaT):List ExT:=exL q q.nodes.length
theorem es_ {q:QeaT} {n:Nat} {x:NodeT} (h:q.nodes[n]? =some x):exL q (n+1)=exL q n++[e15 q (exL q n) n x]:=by rw[exL,h]
theorem el_ (q:QeaT):∀n,n≤q.nodes.length→(exL q n).length=n
 | 0,_ =>rfl
 | n+1,h=>by
  obtain⟨x,hx,_⟩:=as10 (l:=q.nodes) (i:=n) (by omega)
  rw[es_ hx,List.length_append,el_ q n (by omega)]
  rfl
def exOk (l:List ExT):Prop:=∀(j:Nat) (e:ExT),l[j]? =some e→0≤e.from_∧e.from_≤(j:Int)∧0≤e.depth∧e.depth≤(j:Int)+1
theorem lo_ {q:QeaT} {i:Nat} {x:NodeT} {e:ExT} (h:l12 q i x=some e):e.depth=1∧e.from_=i:=by
 unfold l12 at h
 split at h
 ·split at h <;> simp at h;subst h;exact⟨rfl,rfl⟩
 split at h
 ·split at h <;> simp at h;obtain⟨y,_,rfl⟩:=h;exact⟨rfl,rfl⟩
 split at h
 ·split at h <;> simp at h;obtain⟨y,_,rfl⟩:=h;exact⟨rfl,rfl⟩
 ·simp at h
theorem eo10 {q:QeaT} {out:List ExT} {i:Nat} {x:NodeT} (ho:exOk out) (hl:out.length=i):0≤(e15 q out i x).from_∧(e15 q out i x).from_≤i∧0≤(e15 q out i x).depth∧(e15 q out i x).depth≤i+1:=by
 have hz:0≤e0.from_∧e0.from_≤(i:Int)∧0≤e0.depth∧e0.depth≤(i:Int)+1:=by simp;omega
 unfold e15
 split
 ·obtain⟨h1,h2⟩:=lo_ ‹_›
  omega
 ·split
  ·exact hz
  ·split
   ·exact hz
   ·rename_i b hb
    obtain⟨j,hj,hb⟩:=at?_some hb
    have:=ho j b hb
    split
    ·exact hz
    split
    ·split
     ·dsimp only;omega
     ·exact hz
    ·split
     ·split
      ·exact hz
      ·rename_i a ha
       obtain⟨k,hk,ha⟩:=at?_some ha
       have:=ho k a ha
       split
       ·exact hz
       ·dsimp only;omega
     ·exact hz
theorem eo_ (q:QeaT):∀n,n≤q.nodes.length→exOk (exL q n)
 | 0,_ =>fun j e h=>by simp [exL] at h
 | n+1,h=>by
  obtain⟨x,hx,_⟩:=as10 (l:=q.nodes) (i:=n) (by omega)
  have hn:=el_ q n (by omega)
  rw[es_ hx]
  intro j e hj
  rw[List.getElem?_append] at hj
  split at hj
  ·exact eo_ q n (by omega) j e hj
  ·rename_i hlt
   rw[hn] at hj
   rw[List.getElem?_cons] at hj
   split at hj
   ·cases hj
    have:=eo10 (q:=q) (x:=x) (eo_ q n (by omega)) hn
    have:j=n:=by omega
    subst this
    assumption
   ·simp at hj
theorem vz_ (v:Val):(v.kind==0&&(v.int==0&&(v.str==[]&& !v.bool)))=decide (v=v0):=by
 obtain⟨a,b,c,d⟩:=v
 rw[Bool.eq_iff_iff]
 simp
theorem aa10 {H:List (Nat×Box)} {sz i k m n:Nat} (hn:n<m):a14 H sz (.arr i k m) (.int .i64 (n:Int))=(hget H i).bind fun b=>if b.sz=sz then some (.ref i (k+n) 0) else none:=by
 simp only[a14]
 cases hget H i with
 | none=>rfl
 | some b=>simp [show (n:Int)<m by omega]
def e18 (q:QeaT) (i:Nat):List AV:=(exL q i).map exV++List.replicate (q.nodes.length - i) (exV e0)
theorem ea10 {q:QeaT} {i j:Nat} {b:ExT} (h:(exL q i)[j]? =some b):(e18 q i)[j]? =some (exV b):=by
 have hj:=(List.getElem?_eq_some_iff.1 h).1
 unfold e18
 rw[List.getElem?_append_left (by simpa using hj),List.getElem?_map,h]
 rfl
theorem en_ {q:QeaT} {i:Nat} (h:i<q.nodes.length):(e18 q i)[i]? =some (exV e0):=by
 have:=el_ q i (by omega)
 unfold e18
 rw[List.getElem?_append_right (by simp [this]),List.getElem?_replicate]
 simp [this]
 omega
theorem es11 {q:QeaT} {i:Nat} {x:NodeT} (hx:q.nodes[i]? =some x):(e18 q i).set i (exV (e15 q (exL q i) i x))=e18 q (i+1):=by
 have hi:=(List.getElem?_eq_some_iff.1 hx).1
 have hn:=el_ q i (by omega)
 unfold e18
 rw[es_ hx]
 obtain⟨m,hm⟩:∃m,q.nodes.length - i=m+1:=⟨q.nodes.length - i - 1,by omega⟩
 rw[hm,show q.nodes.length - (i+1)=m by omega]
 simp [hn,List.replicate_succ,List.set_append]
theorem ea12 (q:QeaT):e18 q q.nodes.length=(e13 q).map exV:=by simp [e18,e13]
theorem cep_ (q:QeaT) (hl:q.nodes.length≤1000000):P_ Tryz.prog G nce_ [qeaV q] (.seq 3 ((e13 q).map exV)):=by
 refine pce_ (Runs.of fun Φ h=>?_)
 unfold cce_
 have hmk:amks ⟨147,[(12,iv q.nodes.length),(11,n_ q.nodes),(10,.ref 1 0 7),(1,.ref 1 0 0)],[(2,⟨true,tce_,3,[]⟩),(1,⟨false,taQ_,9,[qeaV q]⟩)]⟩ (some 13) tce_ 3 24 (.agg [iv 0,iv 0,iv 0]) (iv q.nodes.length) (iv q.nodes.length)=
   some ⟨147,[(13,.arr 13 0 q.nodes.length),(12,iv q.nodes.length),(11,n_ q.nodes),(10,.ref 1 0 7),(1,.ref 1 0 0)],[(13,⟨true,tce_,3,e18 q 0⟩),(2,⟨true,tce_,3,[]⟩),(1,⟨false,taQ_,9,[qeaV q]⟩)]⟩:=by
  unfold amks
  simp only[Int.toNat_natCast]
  rw[if_pos (by omega)]
  simp only[e18,exL,List.map_nil,List.nil_append,Nat.sub_zero]
  rfl
 simp only[qeaV,d_,q_,f_,s_,s10,n_,t_] at hmk
 repeat' (first|simp -implicitDefEqProofs only[go_sem,qeaV,d_,q_,f_,s_,s10,n_,t_,List.length_map,hmk]|refine ag_ (fun hb=>?_) (fun hb=>?_)|refine⟨fun hb=>?_,fun hb=>?_⟩|fail)
 refine al_ (fun n st=>∃i:Nat,i+n=q.nodes.length∧st=⟨147,[(1,.ref 1 0 0),(3,.arr 13 0 q.nodes.length),(15,n_ q.nodes),(16,iv q.nodes.length),(17,iv i)],[(1,⟨false,taQ_,9,[qeaV q]⟩),(2,⟨true,tce_,3,[]⟩),(13,⟨true,tce_,3,e18 q i⟩)]⟩) q.nodes.length ⟨0,by simp,rfl⟩ ?_
 rintro I hI n st ⟨i,hi,rfl⟩
 simp -implicitDefEqProofs only[go_sem,qeaV,d_,q_,f_,s_,s10,n_,t_,List.length_map]
 refine⟨fun hlt=>?_,fun hge=>?_⟩
 ·have hlt':i<q.nodes.length:=by omega
  obtain⟨x,hx,hm⟩:=as10 hlt'
  have hw:=ws_ hlt' (by omega)
  have hln:=el_ q i (by omega)
  have hex:=eo_ q i (by omega)
  have hlf:=clp_ (G:=G) q i x hx
  have hnext:=en_ hlt'
  have fin:a12 I n ⟨147,[(1,.ref 1 0 0),(3,.arr 13 0 q.nodes.length),(15,n_ q.nodes),(16,iv q.nodes.length),(17,iv (i+1:Nat))],[(1,⟨false,taQ_,9,[qeaV q]⟩),(2,⟨true,tce_,3,[]⟩),(13,⟨true,tce_,3,(e18 q i).set i (exV (e15 q (exL q i) i x))⟩)]⟩:=by
   rw[es11 hx]
   exact aa_ (n - 1) (by omega) (hI _ _ ⟨i+1,by omega,rfl⟩)
  have fin0:e15 q (exL q i) i x=e0→a12 I n ⟨147,[(1,.ref 1 0 0),(3,.arr 13 0 q.nodes.length),(15,n_ q.nodes),(16,iv q.nodes.length),(17,iv (i+1:Nat))],[(1,⟨false,taQ_,9,[qeaV q]⟩),(2,⟨true,tce_,3,[]⟩),(13,⟨true,tce_,3,e18 q i⟩)]⟩:=fun h0=>by
   rw[h0] at fin
   rwa [show (e18 q i).set i (exV e0)=e18 q i from by
    obtain⟨hlt,he⟩:=List.getElem?_eq_some_iff.1 hnext
    rw[←he,List.set_getElem_self]] at fin
  have harr:=@aa10
  generalize hes:e18 q i=es at*
  generalize hv:e15 q (exL q i) i x=v at*
  have fin':∀w,w=exV v→a12 I n ⟨147,[(1,.ref 1 0 0),(3,.arr 13 0 q.nodes.length),(15,n_ q.nodes),(16,iv q.nodes.length),(17,iv (i+1:Nat))],[(1,⟨false,taQ_,9,[qeaV q]⟩),(2,⟨true,tce_,3,[]⟩),(13,⟨true,tce_,3,es.set i w⟩)]⟩:=fun w hw=>hw ▸ fin
  obtain⟨op,na,mb,val⟩:=x
  simp only[e15] at hv
  simp only[qeaV,d_,q_,f_,s_,s10,n_,t_] at hlf
  cases hL:l12 q i ⟨op,na,mb,val⟩ with
  | some e=>
   rw[hL] at hv hlf
   simp only at hv
   subst hv
   simp only[l21,Option.getD_some,Option.isSome_some,exV] at hlf
   repeat' (first|simp -implicitDefEqProofs only[go_sem,am_ hx,n11,qeaV,d_,q_,f_,s_,s10,n_,t_,List.length_map,exV,aa10 hlt',hnext,hw]|refine ag_ (fun hb=>?_) (fun hb=>?_)|refine⟨fun hb=>?_,fun hb=>?_⟩|refine ac_ hlf rfl rfl ?_|fail)
   all_goals exact fin
  | none=>
   rw[hL] at hv hlf
   simp only[l21,Option.getD_none,Option.isSome_none,exV] at hlf
   simp only at hv
   cases hpb:at? (exL q i) ((i:Int) - 1) with
   | none=>
    have hi0:i=0:=by
     have:=at?_none hpb
     omega
    subst hi0
    rw[hpb] at hv
    simp only[ite_self] at hv
    repeat' (first|simp -implicitDefEqProofs only[go_sem,am_ hx,n11,qeaV,d_,q_,f_,s_,s10,n_,t_,List.length_map,exV,hnext,hw]|refine ag_ (fun hb=>?_) (fun hb=>?_)|refine⟨fun hb=>?_,fun hb=>?_⟩|refine ac_ hlf rfl rfl ?_|fail)
    all_goals first | exact fin0 hv.symm | (exfalso;simp at hb;done)
   | some b=>
    obtain⟨j,hj,hbj⟩:=at?_some hpb
    have hij:i=j+1:=by omega
    subst hij
    rw[hpb] at hv
    have hbrow:es[j]? =some (exV b):=hes ▸ ea10 hbj
    have hok:=hex j b hbj
    have hwj:IntKind.i64.wrap (((j+1:Nat):Int) - 1)=(j:Int):=by rw[wrap_i64 (by omega) (by omega)];omega
    have hwf:IntKind.i64.wrap (b.from_ - 1)=b.from_ - 1:=wrap_i64 (by omega) (by omega)
    have hwd:IntKind.i64.wrap (b.depth+1)=b.depth+1:=wrap_i64 (by omega) (by omega)
    have hjN:j<q.nodes.length:=by omega
    rw[show ((j+1:Nat):Int) - 1=(j:Int) by omega] at hv
    simp only at hv
    cases ha:at? (exL q (j+1)) na with
    | none=>
     have hna:=at?_none ha
     rw[ha] at hv
     repeat' (first|simp -implicitDefEqProofs only[go_sem,am_ hx,n11,qeaV,d_,q_,f_,s_,s10,n_,t_,List.length_map,exV,hnext,hw,hbrow,aa10 hlt',aa10 hjN,hwj,hwf,hwd]|refine ag_ (fun hb=>?_) (fun hb=>?_)|refine⟨fun hb=>?_,fun hb=>?_⟩|refine ac_ hlf rfl rfl ?_|refine ac_ (vTp_ _ _ _) rfl rfl ?_|fail)
     all_goals first | refine fin0 ?_ | refine fin' _ ?_ | exfalso
     all_goals
      try rw[←hv]
      clear hmk hv fin fin' fin0 hlf hI hx hnext hes hw hex h hm hbrow hL hpb hi hlt hlt' hwj hwf hwd hjN hbj harr
      simp only[vz_,Bool.not_eq_true',Bool.not_true,Bool.not_false,decide_eq_true_eq,decide_eq_false_iff_not,beq_iff_eq,beq_eq_false_iff_ne,bne_iff_ne,bne_eq_false_iff_eq,ne_eq,Bool.not_eq_false'] at*
      first | omega | (simp [exV, *];done) | (exfalso;omega)
    | some a=>
     obtain⟨k,rfl,hak⟩:=at?_some ha
     have hkN:k<q.nodes.length:=by have:=(List.getElem?_eq_some_iff.1 hak).1;omega
     have harow:es[k]? =some (exV a):=hes ▸ ea10 hak
     have hoka:=hex k a hak
     have hwm:IntKind.i64.wrap ((if b.depth>a.depth then b.depth else a.depth)+1)=max a.depth b.depth+1:=by
      rw[wrap_i64 (by split <;> omega) (by split <;> omega)]
      split <;> omega
     rw[ha] at hv
     simp only at hv
     repeat' (first|simp -implicitDefEqProofs only[go_sem,am_ hx,n11,qeaV,d_,q_,f_,s_,s10,n_,t_,List.length_map,exV,hnext,hw,hbrow,harow,aa10 hlt',aa10 hjN,aa10 hkN,hwj,hwf,hwd,hwm]|refine ag_ (fun hb=>?_) (fun hb=>?_)|refine⟨fun hb=>?_,fun hb=>?_⟩|refine ac_ hlf rfl rfl ?_|refine ac_ (vTp_ _ _ _) rfl rfl ?_|fail)
     all_goals first | refine fin0 ?_ | refine fin' _ ?_ | exfalso
     all_goals
      try rw[←hv]
      clear hmk hv fin fin' fin0 hlf hI hx hnext hes hw hex h hm hbrow hL hpb hi hlt hlt' hwj hwf hwd hjN hbj harr hak hkN harow hwm
      simp only[vz_,Bool.not_eq_true',Bool.not_true,Bool.not_false,decide_eq_true_eq,decide_eq_false_iff_not,beq_iff_eq,beq_eq_false_iff_ne,bne_iff_ne,bne_eq_false_iff_eq,ne_eq,Bool.not_eq_false'] at*
      first | omega | (simp [exV, *];done) | (exfalso;omega)
 ·have:i=q.nodes.length:=by omega
  subst this
  rw[ea12]
  have hln:(e13 q).length=q.nodes.length:=el_ q _ (by omega)
  repeat' (first|simp -implicitDefEqProofs only[go_sem]|refine ag_ (fun hb=>?_) (fun hb=>?_)|refine⟨fun hb=>?_,fun hb=>?_⟩|fail)
  refine h _ ⟨_,_,rfl,?_,.refl _⟩
  simp -implicitDefEqProofs only[view,one,eget,hget,beq_self_eq_true,if_true,reduceIte,Nat.reduceEqDiff,Nat.reduceLT,Nat.zero_add,List.length_map,hln,Nat.le_refl,and_self,List.drop_zero]
  rw[←hln,List.take_of_length_le (by simp)]
end Go.Proofs.YtjbcfpkibnhodaaGreatDoor.Ab
namespace Go.Proofs.YtjbcfpkibnhodaaGreatDoor.Ab
open Go
variable {G:Nat→Option AV}
structure SlotT where
 var:Int
 value:Val
deriving DecidableEq
def s16 (s:SlotT):AV:=.agg [iv s.var,iv s.value.kind,iv s.value.int,.str s.value.str,.bool s.value.bool]
def s11 (l:List SlotT):AV:=.seq 5 (l.map s16)
def v_ (l:List Val):AV:=.seq 4 (l.map valV)
def getR (l:List SlotT) (v:Int):Val×Bool:=match l.find? (fun s=>s.var==v) with | some s=>(s.value,true) | none=>(v0,false)
def vbt (r:Val×Bool):AV:=.tup [valV r.1,.bool r.2]
theorem gy10 {x:SlotT} {r:List SlotT} {v:Int} (h:(x.var==v)=true):getR (x::r) v=(x.value,true):=by simp [getR,List.find?_cons,h]
theorem gn10 {x:SlotT} {r:List SlotT} {v:Int} (h:(x.var==v)=false):getR (x::r) v=getR r v:=by simp [getR,List.find?_cons,h]
theorem bGp_ (l:List SlotT) (hl:l.length<9223372036854775807) (v:Int):P_ Tryz.prog G nbG_ [s11 l,iv v] (vbt (getR l v)):=by
 refine pbG_ (Runs.of fun Φ h=>?_)
 unfold cbG_
 simp -implicitDefEqProofs only[go_sem,s11,List.length_map]
 refine al_ (fun n st=>∃i:Nat,i+n=l.length∧st=⟨22,[(1,iv v),(4,.ref 4 0 0),(8,.seq 5 (l.map s16)),(9,iv l.length),(10,iv i)],[(4,⟨false,taV_,4,[valV v0]⟩)]⟩∧getR (l.drop i) v=getR l v) l.length ⟨0,by simp,rfl,rfl⟩ ?_
 rintro I hI n st ⟨i,hi,rfl,hno⟩
 simp -implicitDefEqProofs only[go_sem]
 refine⟨fun hlt=>?_,fun hge=>?_⟩
 ·have hlt':i<l.length:=by omega
  obtain⟨x,hx,hm⟩:=as10 hlt'
  have hw:=ws_ hlt' (by omega)
  rw[da10 hx] at hno
  cases hv:x.var==v with
  | true=>
   rw[gy10 hv] at hno
   repeat' (first|simp -implicitDefEqProofs only[go_sem,am_ hx,s16,valV,hv]|refine ag_ (fun hb=>?_) (fun hb=>?_)|refine⟨fun hb=>?_,fun hb=>?_⟩|fail)
   exact h _ ⟨_,_,rfl,rfl,fe_ (by rw[←hno];rfl)⟩
  | false=>
   rw[gn10 hv] at hno
   repeat' (first|simp -implicitDefEqProofs only[go_sem,am_ hx,s16,valV,hv,hw]|refine ag_ (fun hb=>?_) (fun hb=>?_)|refine⟨fun hb=>?_,fun hb=>?_⟩|fail)
   exact aa_ (n - 1) (by omega) (hI _ _ ⟨i+1,by omega,rfl,hno⟩)
 ·have:i=l.length:=by omega
  subst this
  rw[List.drop_of_length_le (Nat.le_refl _)] at hno
  simp -implicitDefEqProofs only[go_sem,valV]
  exact h _ ⟨_,_,rfl,rfl,fe_ (by rw[←hno];rfl)⟩
theorem rGp_ (l:List SlotT) (hl:l.length<9223372036854775807) (v:Int):P_ Tryz.prog G npG_ [s11 l,iv v] (vbt (getR l v)):=by
 refine pp37 (Runs.of fun Φ h=>?_)
 unfold cp37
 simp -implicitDefEqProofs only[go_sem,s11,List.length_map]
 refine al_ (fun n st=>∃i:Nat,i+n=l.length∧st=⟨26,[(0,.seq 5 (l.map s16)),(1,iv v),(4,.ref 4 0 0),(6,iv i)],[(4,⟨false,taV_,4,[valV v0]⟩)]⟩∧getR (l.drop i) v=getR l v) l.length ⟨0,by simp,rfl,rfl⟩ ?_
 rintro I hI n st ⟨i,hi,rfl,hno⟩
 simp -implicitDefEqProofs only[go_sem,List.length_map]
 refine⟨fun hlt=>?_,fun hge=>?_⟩
 ·have hlt':i<l.length:=by omega
  obtain⟨x,hx,hm⟩:=as10 hlt'
  have hw:=ws_ hlt' (by omega)
  rw[da10 hx] at hno
  cases hv:x.var==v with
  | true=>
   rw[gy10 hv] at hno
   repeat' (first|simp -implicitDefEqProofs only[go_sem,am_ hx,s16,valV,hv]|refine ag_ (fun hb=>?_) (fun hb=>?_)|refine⟨fun hb=>?_,fun hb=>?_⟩|fail)
   exact h _ ⟨_,_,rfl,rfl,fe_ (by rw[←hno];rfl)⟩
  | false=>
   rw[gn10 hv] at hno
   repeat' (first|simp -implicitDefEqProofs only[go_sem,am_ hx,s16,valV,hv,hw]|refine ag_ (fun hb=>?_) (fun hb=>?_)|refine⟨fun hb=>?_,fun hb=>?_⟩|fail)
   exact aa_ (n - 1) (by omega) (hI _ _ ⟨i+1,by omega,rfl,hno⟩)
 ·have:i=l.length:=by omega
  subst this
  rw[List.drop_of_length_le (Nat.le_refl _)] at hno
  simp -implicitDefEqProofs only[go_sem,valV]
  exact h _ ⟨_,_,rfl,rfl,fe_ (by rw[←hno];rfl)⟩
def f18 (v:Val) (f:FreeT):Bool:=v.ok&&v.kind==f.init.kind
def f15 (vals:List Val) (l:List FreeT):Bool:=vals.length==l.length&&(vals.zip l).all fun x=>f18 x.1 x.2
theorem fl10 {vals:List Val} {l:List FreeT} (h:¬vals.length=l.length):f15 vals l=false:=by simp [f15,h]
theorem ff_ {vals:List Val} {l:List FreeT} {i:Nat} {v:Val} {f:FreeT} (hv:vals[i]? =some v) (hf:l[i]? =some f) (h:f18 v f=false):f15 vals l=false:=by
 unfold f15
 rw[Bool.and_eq_false_iff]
 right
 rw[List.all_eq_false]
 exact⟨(v,f),List.mem_of_getElem? (i:=i) (by rw[List.getElem?_zip_eq_some];exact⟨hv,hf⟩),by simp [h]⟩
theorem ft_ {vals:List Val} {l:List FreeT} (hl:vals.length=l.length) (h:∀(i:Nat) v f,vals[i]? =some v→l[i]? =some f→f18 v f=true):f15 vals l=true:=by
 unfold f15
 rw[Bool.and_eq_true]
 refine⟨by simpa using hl,?_⟩
 rw[List.all_eq_true]
 rintro⟨v,f⟩ hm
 obtain⟨i,hi⟩:=List.getElem?_of_mem hm
 rw[List.getElem?_zip_eq_some] at hi
 exact h i v f hi.1 hi.2
theorem fa_ {vals:List Val} {l:List FreeT} (h:f15 vals l=true):vals.length=l.length∧∀(i:Nat) v f,vals[i]? =some v→l[i]? =some f→v.ok=true∧v.kind=f.init.kind:=by
 unfold f15 at h
 rw[Bool.and_eq_true,List.all_eq_true] at h
 refine⟨by simpa using h.1,fun i v f hv hf=>?_⟩
 have:=h.2 (v,f) (List.mem_of_getElem? (i:=i) (by rw[List.getElem?_zip_eq_some];exact⟨hv,hf⟩))
 simpa [f18] using this
theorem eF1p_ (v:Val) (f:FreeT):P_ Tryz.prog G neF1_ [valV v,f11 f] (.bool (f18 v f)):=by
 have hok:=vRp_ (G:=G) v
 refine peF1_ (Runs.of fun Φ h=>?_)
 unfold ceF1_
 unfold f18 at h
 simp only[valV] at hok
 cases hv:v.ok <;> rw[hv] at hok h <;> (repeat' (first|simp -implicitDefEqProofs only[go_sem,valV,f11]|refine ag_ (fun hb=>?_) (fun hb=>?_)|refine⟨fun hb=>?_,fun hb=>?_⟩|refine ac_ hok rfl rfl ?_|fail)) <;> exact h _ ⟨_,_,rfl,rfl,.refl _⟩
theorem Efp_ (vals:List Val) (l:List FreeT) (hk:vals.length<9223372036854775807) (_hl:l.length<9223372036854775807):P_ Tryz.prog G nsEaVaFaVaF_ [v_ vals,.seq 5 (l.map f11),.fn neF1_ []] (.bool (f15 vals l)):=by
 refine psEaVaFaVaF_ (Runs.of fun Φ h=>?_)
 unfold csEaVaFaVaF_
 by_cases hvl:vals.length=l.length
 ·have e0:((vals.length:Int) != (l.length:Int))=false:=by simp [hvl]
  simp -implicitDefEqProofs only[go_sem,v_,List.length_map,e0]
  refine al_ (fun n st=>∃i:Nat,i+n=vals.length∧st=⟨32,[(1,.seq 5 (l.map f11)),(2,.fn neF1_ []),(15,.seq 4 (vals.map valV)),(16,iv vals.length),(17,iv i)],[]⟩∧∀j v f,j<i→vals[j]? =some v→l[j]? =some f→f18 v f=true) vals.length ⟨0,by simp,rfl,fun j v f hj=>by omega⟩ ?_
  rintro I hI n st ⟨i,hi,rfl,hno⟩
  simp -implicitDefEqProofs only[go_sem]
  refine⟨fun hlt=>?_,fun hge=>?_⟩
  ·have hlt':i<vals.length:=by omega
   obtain⟨v,hv,_⟩:=as10 hlt'
   obtain⟨f,hf,_⟩:=as10 (l:=l) (i:=i) (by omega)
   have hw:=ws_ hlt' (by omega)
   have hc:=eF1p_ (G:=G) v f
   have hnext:f18 v f=true→a12 I n ⟨32,[(1,.seq 5 (l.map f11)),(2,.fn neF1_ []),(15,.seq 4 (vals.map valV)),(16,iv vals.length),(17,iv (i+1:Nat))],[]⟩:=fun hv'=>aa_ (n - 1) (by omega) (hI _ _ ⟨i+1,by omega,rfl,fun j v' f' hj h1 h2=>by
    by_cases e:j=i
    ·subst e;rw[hv] at h1;cases h1;rw[hf] at h2;cases h2;exact hv'
    ·exact hno j v' f' (by omega) h1 h2⟩)
   have hbad:f18 v f=false→f15 vals l=false:=fun hv'=>ff_ hv hf hv'
   clear hno
   generalize f18 v f=b at*
   generalize f15 vals l=R at*
   have hb:b_ Tryz.prog neF1_=true:=by kernel_rfl
   simp only[valV,f11] at hc
   cases b
   all_goals
    repeat' (first|simp -implicitDefEqProofs only[go_sem,am_ hv,am_ hf,valV,f11,hw]|refine ag_ (fun hb=>?_) (fun hb=>?_)|refine⟨fun hb=>?_,fun hb=>?_⟩|(refine⟨hb,ac_ hc rfl rfl ?_⟩)|fail)
    first | exact hnext rfl | exact h _ ⟨_,_,rfl,rfl,fitB (hbad rfl).symm⟩
  ·exact h _ ⟨_,_,rfl,rfl,fitB (ft_ hvl fun j v f h1 h2=>hno j v f (by have:=(List.getElem?_eq_some_iff.1 h1).1;omega) h1 h2).symm⟩
 ·have e0:((vals.length:Int) != (l.length:Int))=true:=by simp;omega
  simp -implicitDefEqProofs only[go_sem,v_,List.length_map,e0]
  exact h _ ⟨_,_,rfl,rfl,fitB (fl10 hvl).symm⟩
theorem eFp_ (q:QeaT) (vals:List Val) (hk:vals.length<9223372036854775807) (hl:q.frees.length<9223372036854775807):P_ Tryz.prog G neF_ [qeaV q,v_ vals] (.bool (f15 vals q.frees)):=by
 have hc:=Efp_ (G:=G) vals q.frees hk hl
 refine peF_ (Runs.of fun Φ h=>?_)
 unfold ceF_
 repeat' (first|simp -implicitDefEqProofs only[go_sem,qeaV,d_,q_,f_,s_,s10,n_,t_]|refine ag_ (fun hb=>?_) (fun hb=>?_)|refine⟨fun hb=>?_,fun hb=>?_⟩|refine ac_ hc rfl rfl ?_|fail)
 all_goals (refine h _ ⟨_,_,rfl,rfl,fe_ ?_⟩;clear h;first | rfl | simp_all)
def f10 (q:QeaT) (b:List SlotT) (vals:List Val):AV:=.agg [.str q.name,d_ q.decls,q_ q.quants,f_ q.frees,s_ q.states,iv q.start,s10 q.symbols,n_ q.nodes,t_ q.trans,s11 b,v_ vals]
def q12 (b:List SlotT) (a ty:Int):Val×Int:=if (getR b a).2=true∧(getR b a).1.kind=ty then ((getR b a).1,0) else (v0,9)
theorem fqp_ (q:QeaT) (b:List SlotT) (vals:List Val) (hb:b.length<9223372036854775807) (i:Nat) (y:QuantT) (hy:q.quants[i]? =some y):P_ Tryz.prog G nefq_ [f10 q b vals,iv i] (vt (q12 b i y.type)):=by
 have hg:=bGp_ (G:=G) b hb i
 refine pefq_ (Runs.of fun Φ h=>?_)
 unfold cefq_
 unfold q12 at h
 generalize getR b i=r at*
 obtain⟨⟨k,n,s,t⟩,ok⟩:=r
 unfold vbt s11 at hg
 unfold vt at h
 simp only[valV] at hg
 cases ok
 ·repeat' (first|simp -implicitDefEqProofs only[go_sem,f10,s11,v_,qeaV,d_,q_,f_,s_,s10,n_,t_,am_ hy,q11,valV]|refine ag_ (fun hb=>?_) (fun hb=>?_)|refine⟨fun hb=>?_,fun hb=>?_⟩|refine ac_ hg rfl rfl ?_|fail)
  exact h _ ⟨_,_,rfl,rfl,.refl _⟩
 ·by_cases hk:k=y.type
  ·subst hk
   repeat' (first|simp -implicitDefEqProofs only[go_sem,f10,s11,v_,qeaV,d_,q_,f_,s_,s10,n_,t_,am_ hy,q11,valV,bne_self_eq_false]|refine ag_ (fun hb=>?_) (fun hb=>?_)|refine⟨fun hb=>?_,fun hb=>?_⟩|refine ac_ hg rfl rfl ?_|fail)
   exact h _ ⟨_,_,rfl,rfl,fe_ (by simp [valV])⟩
  ·have hk':(k != y.type)=true:=by simpa using hk
   repeat' (first|simp -implicitDefEqProofs only[go_sem,f10,s11,v_,qeaV,d_,q_,f_,s_,s10,n_,t_,am_ hy,q11,valV,hk']|refine ag_ (fun hb=>?_) (fun hb=>?_)|refine⟨fun hb=>?_,fun hb=>?_⟩|refine ac_ hg rfl rfl ?_|fail)
   exact h _ ⟨_,_,rfl,rfl,fe_ (by simp [valV,hk])⟩
end Go.Proofs.YtjbcfpkibnhodaaGreatDoor.Ab
