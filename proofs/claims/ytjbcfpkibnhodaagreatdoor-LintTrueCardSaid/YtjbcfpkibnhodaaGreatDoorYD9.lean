/-
  eval.Guard, proctorref16.Guard. eval.Sets, proctorref16.Sets. proctorref13: expressions. No claim is proved here.
-/
import Derived.Test.YtjbcfpkibnhodaaGreatDoorYK6
import Derived.WalkSpells
set_option linter.unusedSimpArgs false
set_option maxHeartbeats 4000000
set_option maxRecDepth 100000
namespace Go.Proofs.YtjbcfpkibnhodaaGreatDoor.Ab
open Go Go.RowKit
variable {G:Nat→Option AV}
theorem ee11 (hG:errG G) {r:Val×Int} (h:ROk r) (h0:¬r.2=0) (a:Int):P_ Tryz.prog G nee_ [w15 a r.2] (iv r.2):=by
 rcases h with ⟨h1,_⟩ | ⟨_,h1⟩
 ·exact absurd h1 h0
 ·exact ep12 hG a r.2 h1
theorem ROk.none {r:Val×Int} (h:ROk r) (h0:¬r.2=0):r.1=v0:=by
 rcases h with ⟨h1,_⟩ | ⟨h1,_⟩
 ·exact absurd h1 h0
 ·exact h1
def g10 (q:QeaT) (b:List SlotT) (vals:List Val) (t:TransT):Bool×Int:=if t.guard<0 then (true,0) else ((ev q b vals t.guard.toNat).1.bool,(ev q b vals t.guard.toNat).2)
theorem rG10 {q:QeaT} {b:List SlotT} {vals:List Val} {S:Nat→Prop} (hS:Safe q S) (hE:Env q b vals) (j:Nat) (t:TransT) (ht:q.trans[j]? =some t) (hs:0≤t.guard→S t.guard.toNat):
  P_ Tryz.prog G np20 [qeaV q,iv j,s11 b,v_ vals] (.tup [.bool (g10 q b vals t).1,iv (g10 q b vals t).2]):=by
 obtain⟨t1,t2,t3,g,sets⟩:=t
 dsimp only at hs
 unfold g10
 dsimp only
 by_cases hg:g<0
 ·rw[if_pos hg]
  have e3:(g<0)=True:=by simp;exact hg
  refine ppG_ (Runs.of fun Φ h=>?_)
  unfold cpG_
  repeat' (first|simp -implicitDefEqProofs only[go_sem,qeaV,d_,q_,f_,s_,s10,n_,t_,v_,s11,List.length_map,e3,decide_true,am_ ht,t11,s14]|refine ag_ (fun hb=>?_) (fun hb=>?_)|refine⟨fun hb=>?_,fun hb=>?_⟩|fail)
  exact h _ ⟨_,_,rfl,rfl,.refl _⟩
 ·rw[if_neg hg]
  have e3:(g<0)=False:=by simp;omega
  obtain⟨i,rfl⟩:∃i:Nat,g=i:=⟨g.toNat,by omega⟩
  rw[Int.toNat_natCast] at hs ⊢
  have hi:=hs (by omega)
  have hr:=rVp_ hS hE i hi (G:=G)
  generalize ev q b vals i=r at*
  obtain⟨⟨k,n,s,bt⟩,e⟩:=r
  unfold vt at hr
  simp only[valV,qeaV,d_,q_,f_,s_,s10,n_,t_,s11,v_] at hr
  refine ppG_ (Runs.of fun Φ h=>?_)
  unfold cpG_
  repeat' (first|simp -implicitDefEqProofs only[go_sem,qeaV,d_,q_,f_,s_,s10,n_,t_,v_,s11,List.length_map,e3,decide_false,am_ ht,t11,s14]|refine ag_ (fun hb=>?_) (fun hb=>?_)|refine⟨fun hb=>?_,fun hb=>?_⟩|refine ac_ hr rfl rfl ?_|fail)
  exact h _ ⟨_,_,rfl,rfl,.refl _⟩
end Go.Proofs.YtjbcfpkibnhodaaGreatDoor.Ab
namespace Go.Proofs.YtjbcfpkibnhodaaGreatDoor.Ab
open Go Go.RowKit
variable {G:Nat→Option AV}
def s21 (q:QeaT) (b:List SlotT) (vals:List Val):List SetT→List Val→List Val×Int
 | [],out=>(out,0)
 | s::r,out=>if ¬(ev q b vals s.expr.toNat).2=0 then ([],(ev q b vals s.expr.toNat).2) else s21 q b vals r (out.set s.free.toNat (ev q b vals s.expr.toNat).1)
theorem se12 {q:QeaT} {b:List SlotT} {vals:List Val} {l:List SetT} {i:Nat} {out:List Val} (h:l.length≤i):s21 q b vals (l.drop i) out=(out,0):=by rw[List.drop_of_length_le h,s21]
theorem sb10 {q:QeaT} {b:List SlotT} {vals:List Val} {l:List SetT} {i e:Nat} {out:List Val} {s:SetT} (h:l[i]? =some s) (he:s.expr=e) (h0:¬(ev q b vals e).2=0):s21 q b vals (l.drop i) out=([],(ev q b vals e).2):=by
 rw[da10 h,s21,he,Int.toNat_natCast,if_pos h0]
theorem sg_ {q:QeaT} {b:List SlotT} {vals:List Val} {l:List SetT} {i e f:Nat} {out:List Val} {s:SetT} (h:l[i]? =some s) (he:s.expr=e) (hf:s.free=f) (h0:(ev q b vals e).2=0):s21 q b vals (l.drop i) out=s21 q b vals (l.drop (i+1)) (out.set f (ev q b vals e).1):=by
 rw[da10 h,s21,he,hf,Int.toNat_natCast,Int.toNat_natCast,if_neg (by omega)]
def S10 (S:Nat→Prop) (n:Nat) (l:List SetT):Prop:=∀s∈l,∃e f:Nat,s.expr=e∧s.free=f∧S e∧f<n
theorem ar11 {H:List (Nat×Box)} {i n f:Nat} {b:Box} (h:hget H i=some b) (hs:b.sz=4) (hf:f<n):a14 H 4 (.arr i 0 n) (.int .i64 (f:Int))=some (.ref i f 0):=by
 rw[aa10 hf,h]
 simp [hs]
theorem rS15 {q:QeaT} {b:List SlotT} {vals:List Val} {S:Nat→Prop} (hS:Safe q S) (hE:Env q b vals) (j:Nat) (t:TransT) (ht:q.trans[j]? =some t) (hs:S10 S vals.length t.sets) (hsl:t.sets.length≤1000000):
  P_ Tryz.prog G np30 [qeaV q,iv j,s11 b,v_ vals] (.tup [v_ (s21 q b vals t.sets vals).1,iv (s21 q b vals t.sets vals).2]):=by
 obtain⟨t1,t2,t3,g,sets⟩:=t
 dsimp only at hs hsl ⊢
 have hb:vals.length*40≤140737488355328:=by have:=hE.vl;omega
 refine pp28 (Runs.of fun Φ h=>?_)
 unfold cp28
 repeat' (first|simp -implicitDefEqProofs only[go_sem,qeaV,d_,q_,f_,s_,s10,n_,t_,v_,s11,List.length_map,am_ ht,t11,s14,hb]|refine ag_ (fun hb=>?_) (fun hb=>?_)|refine⟨fun hb=>?_,fun hb=>?_⟩|fail)
 refine al_ (fun n st=>∃(i:Nat) (out:List Val),i+n=sets.length∧st=⟨54,[(2,.seq 5 (b.map s16)),(3,.seq 4 (vals.map valV)),(4,.ref 4 0 0),(10,.arr 15 0 vals.length),(11,.seq 2 (sets.map setV)),(12,iv i)],[(4,⟨false,taQ_,9,[qeaV q]⟩),(8,⟨true,taV_,4,[]⟩),(15,⟨true,taV_,4,out.map valV⟩)]⟩∧out.length=vals.length∧s21 q b vals (sets.drop i) out=s21 q b vals sets vals) sets.length ⟨0,vals,by simp,rfl,rfl,rfl⟩ ?_
 rintro I hI n st ⟨i,out,hi,rfl,hol,hno⟩
 rw[←hno] at h
 simp -implicitDefEqProofs only[go_sem,List.length_map]
 refine⟨fun hlt=>?_,fun hge=>?_⟩
 ·have hlt':i<sets.length:=by omega
  obtain⟨s,hx,hm⟩:=as10 hlt'
  have hw:=ws_ hlt' (by omega)
  obtain⟨e,f,he,hfr,hse,hfn⟩:=hs s hm
  have hr:=rVp_ hS hE e hse (G:=G)
  have hbad:=sb10 (q:=q) (b:=b) (vals:=vals) (out:=out) hx he
  have hgo:=sg_ (q:=q) (b:=b) (vals:=vals) (out:=out) hx he hfr
  obtain⟨sf,se⟩:=s
  dsimp only at he hfr
  subst he
  subst hfr
  generalize ev q b vals e=r at*
  obtain⟨⟨k,m,str,bt⟩,er⟩:=r
  unfold vt at hr
  dsimp only at hr hbad hgo
  simp only[valV,qeaV,d_,q_,f_,s_,s10,n_,t_,s11,v_] at hr
  by_cases h0:er=0
  ·subst h0
   have hgo:=hgo rfl
   clear hbad
   obtain⟨old,hold,_⟩:=as10 (l:=out) (i:=f) (by omega)
   obtain⟨o1,o2,o3,o4⟩:=old
   have hes:(List.map valV out)[f]? =some (.agg [iv o1,iv o2,.str o3,.bool o4]):=by rw[List.getElem?_map,hold];rfl
   have hset:(List.map valV out).set f (.agg [iv k,iv m,.str str,.bool bt])=List.map valV (out.set f ⟨k,m,str,bt⟩):=by rw[List.map_set];rfl
   have hai:∀H:List (Nat×Box),hget H 15=some ⟨true,taV_,4,out.map valV⟩→a14 H 4 (.arr 15 0 vals.length) (iv f)=some (.ref 15 f 0):=fun H hH=>ar11 hH rfl hfn
   repeat' (first|simp -implicitDefEqProofs only[go_sem,am_ hx,setV,qeaV,d_,q_,f_,s_,s10,n_,t_,hw,hes,hset,hai]|refine ag_ (fun hb=>?_) (fun hb=>?_)|refine⟨fun hb=>?_,fun hb=>?_⟩|refine ac_ hr rfl rfl ?_|fail)
   exact aa_ (n - 1) (by omega) (hI _ _ ⟨i+1,_,by omega,rfl,by simp [hol],by rw[←hgo,hno]⟩)
  ·have hbad2:=hbad h0
   rw[hbad2] at h
   have he':(er != 0)=true:=by simpa using h0
   clear hbad hgo hbad2
   repeat' (first|simp -implicitDefEqProofs only[go_sem,am_ hx,setV,qeaV,d_,q_,f_,s_,s10,n_,t_,he']|refine ag_ (fun hb=>?_) (fun hb=>?_)|refine⟨fun hb=>?_,fun hb=>?_⟩|refine ac_ hr rfl rfl ?_|fail)
   exact h _ ⟨_,_,rfl,rfl,.refl _⟩
 ·rw[se12 (by omega)] at h
  have hview:∀H:List (Nat×Box),hget H 15=some ⟨true,taV_,4,out.map valV⟩→view H (.tup [.arr 15 0 vals.length,iv 0])=some (.tup [v_ out,iv 0]):=fun H hH=>by
   simp only[view,view.go,hH,List.drop_zero,List.length_map,hol]
   simp [v_,←hol]
   exact List.take_of_length_le (by simp)
  repeat' (first|simp -implicitDefEqProofs only[go_sem]|refine ag_ (fun hb=>?_) (fun hb=>?_)|refine⟨fun hb=>?_,fun hb=>?_⟩|fail)
  exact h _ ⟨_,_,rfl,hview _ rfl,.refl _⟩
end Go.Proofs.YtjbcfpkibnhodaaGreatDoor.Ab
namespace Go.Proofs.YtjbcfpkibnhodaaGreatDoor.Ab
open Go
variable {G:Nat→Option AV}
def bAt (out:List ExT) (n:Int):ExT:=(at? out n).getD e0
def b11 (q:QeaT) (out:List ExT) (i:Nat) (x:NodeT):ExT:=
 if x.op=1 then (if x.a=0∧x.b=0∧x.value.ok=true then ⟨x.value.kind,1,i⟩ else e0)
 else if ¬x.value=v0 then e0
 else if x.op=2 then (if x.b=0 then match at? q.quants x.a with | none=>e0 | some y=>⟨y.type,1,i⟩ else e0)
 else if x.op=3 then (if x.b=0 then match at? q.frees x.a with | none=>e0 | some y=>⟨y.init.kind,1,i⟩ else e0)
 else if x.op<4∨16<x.op then e0
 else if x.op≤5 then (if (bAt out ((i:Int) - 1)).kind=0∨¬x.a=(i:Int) - 1∨¬x.b=0 then e0 else ⟨t28 x.op (bAt out ((i:Int) - 1)).kind (bAt out ((i:Int) - 1)).kind,(bAt out ((i:Int) - 1)).depth+1,(bAt out ((i:Int) - 1)).from_⟩)
 else if (bAt out ((i:Int) - 1)).kind=0∨¬x.b=(i:Int) - 1∨¬x.a=(bAt out ((i:Int) - 1)).from_ - 1 then e0
 else ⟨t28 x.op (bAt out ((bAt out ((i:Int) - 1)).from_ - 1)).kind (bAt out ((i:Int) - 1)).kind,max (bAt out ((i:Int) - 1)).depth (bAt out ((bAt out ((i:Int) - 1)).from_ - 1)).depth+1,(bAt out ((bAt out ((i:Int) - 1)).from_ - 1)).from_⟩
def beL (q:QeaT):Nat→List ExT
 | 0=>[]
 | n+1=>match q.nodes[n]? with
  | some x=>beL q n++[b11 q (beL q n) n x]
  | none=>beL q n
theorem bs10 {q:QeaT} {n:Nat} {x:NodeT} (h:q.nodes[n]? =some x):beL q (n+1)=beL q n++[b11 q (beL q n) n x]:=by rw[beL,h]
theorem bl_ (q:QeaT):∀n,n≤q.nodes.length→(beL q n).length=n
 | 0,_ =>rfl
 | n+1,h=>by
  obtain⟨x,hx,_⟩:=as10 (l:=q.nodes) (i:=n) (by omega)
  rw[bs10 hx,List.length_append,bl_ q n (by omega)]
  rfl
theorem bo11 {out:List ExT} (ho:exOk out) (n:Int):0≤(bAt out n).from_∧((bAt out n).from_≤n∨(bAt out n).from_=0)∧0≤(bAt out n).depth∧((bAt out n).depth≤n+1∨(bAt out n).depth=0)∧(bAt out n).depth≤out.length:=by
 unfold bAt
 cases h:at? out n with
 | none=>simp
 | some b=>
  obtain⟨j,rfl,hj⟩:=at?_some h
  have:=ho j b hj
  have:=(List.getElem?_eq_some_iff.1 hj).1
  simp only[Option.getD_some]
  omega
theorem bo10 {q:QeaT} {out:List ExT} {i:Nat} {x:NodeT} (ho:exOk out) (hl:out.length=i):0≤(b11 q out i x).from_∧(b11 q out i x).from_≤i∧0≤(b11 q out i x).depth∧(b11 q out i x).depth≤i+1:=by
 have hz:0≤e0.from_∧e0.from_≤(i:Int)∧0≤e0.depth∧e0.depth≤(i:Int)+1:=by simp;omega
 have h1:=bo11 ho ((i:Int) - 1)
 have h2:=bo11 ho ((bAt out ((i:Int) - 1)).from_ - 1)
 unfold b11
 repeat' split
 all_goals first | exact hz | (dsimp only;omega)
theorem bo13 (q:QeaT):∀n,n≤q.nodes.length→exOk (beL q n)
 | 0,_ =>fun j e h=>by simp [beL] at h
 | n+1,h=>by
  obtain⟨x,hx,_⟩:=as10 (l:=q.nodes) (i:=n) (by omega)
  have hn:=bl_ q n (by omega)
  rw[bs10 hx]
  intro j e hj
  rw[List.getElem?_append] at hj
  split at hj
  ·exact bo13 q n (by omega) j e hj
  ·rename_i hlt
   rw[hn] at hj
   rw[List.getElem?_cons] at hj
   split at hj
   ·cases hj
    have:=bo10 (q:=q) (x:=x) (bo13 q n (by omega)) hn
    have:j=n:=by omega
    subst this
    assumption
   ·simp at hj
theorem bs12 (q:QeaT) {i:Nat} (hi:i≤q.nodes.length):∀d,i+d≤q.nodes.length→∀j:Nat,j<i→(beL q (i+d))[j]? =(beL q i)[j]?
 | 0,_,_,_ =>rfl
 | d+1,h,j,hj=>by
  obtain⟨x,hx,_⟩:=as10 (l:=q.nodes) (i:=i+d) (by omega)
  rw[show i+(d+1)=i+d+1 by omega,bs10 hx,List.getElem?_append_left (by rw[bl_ q _ (by omega)];omega)]
  exact bs12 q hi d (by omega) j hj
theorem bs11 (q:QeaT) {i:Nat} (hi:i≤q.nodes.length) {n:Int} (hn:n<i):bAt (beL q q.nodes.length) n=bAt (beL q i) n:=by
 unfold bAt at?
 split
 ·rw[show q.nodes.length=i+(q.nodes.length - i) by omega,bs12 q hi _ (by omega) _ (by omega)]
 ·rfl
theorem bh_ (q:QeaT) {i:Nat} {x:NodeT} (hx:q.nodes[i]? =some x):bAt (beL q q.nodes.length) i=b11 q (beL q i) i x:=by
 have hi:=(List.getElem?_eq_some_iff.1 hx).1
 rw[bs11 q (i:=i+1) (by omega) (by omega),bs10 hx]
 have:=bl_ q i (by omega)
 unfold bAt
 rw[at?_nat (y:=b11 q (beL q i) i x) (by rw[List.getElem?_append_right (by omega)];simp [this])]
 rfl
def ex3 (e:ExT):AV:=.tup [iv e.kind,iv e.depth,iv e.from_]
theorem rbp_ (q:QeaT) (hl:q.nodes.length≤1000000):∀(n:Nat) (i:Int),i<n→P_ Tryz.prog G npb_ [qeaV q,iv i] (ex3 (bAt (beL q q.nodes.length) i))
 | 0,i,hi=>by
  refine ppb_ (Runs.of fun Φ h=>?_)
  unfold cpb_
  have hz:bAt (beL q q.nodes.length) i=e0:=by unfold bAt at?;rw[if_neg (by omega)];rfl
  repeat' (first|simp -implicitDefEqProofs only[go_sem,qeaV,d_,q_,f_,s_,s10,n_,t_,List.length_map]|refine ag_ (fun hb=>?_) (fun hb=>?_)|refine⟨fun hb=>?_,fun hb=>?_⟩|fail)
  all_goals first | exact h _ ⟨_,_,rfl,rfl,fe_ (by rw[hz];rfl)⟩ | (exfalso;simp at*;omega)
 | n+1,i,hi=>by
  have ih:=rbp_ q hl n
  cases hx:at? q.nodes i with
  | none=>
   have hi:=at?_none hx
   refine ppb_ (Runs.of fun Φ h=>?_)
   unfold cpb_
   have hz:bAt (beL q q.nodes.length) i=e0:=by
    have:=bl_ q q.nodes.length (by omega)
    unfold bAt at?
    split
    ·rw[List.getElem?_eq_none (by omega)];rfl
    ·rfl
   repeat' (first|simp -implicitDefEqProofs only[go_sem,qeaV,d_,q_,f_,s_,s10,n_,t_,List.length_map]|refine ag_ (fun hb=>?_) (fun hb=>?_)|refine⟨fun hb=>?_,fun hb=>?_⟩|fail)
   all_goals first | exact h _ ⟨_,_,rfl,rfl,fe_ (by rw[hz];rfl)⟩ | (exfalso;simp at*;omega)
  | some x=>
   obtain⟨i,rfl,hxi⟩:=at?_some hx
   clear hx
   have hlt:=(List.getElem?_eq_some_iff.1 hxi).1
   have hex:=bo13 q i (by omega)
   have hln:=bl_ q i (by omega)
   have hkb:=bo11 hex ((i:Int) - 1)
   have hka:=bo11 hex ((bAt (beL q i) ((i:Int) - 1)).from_ - 1)
   have ihb:=ih ((i:Int) - 1) (by omega)
   have iha:=ih ((bAt (beL q i) ((i:Int) - 1)).from_ - 1) (by omega)
   rw[bs11 q (i:=i) (by omega) (by omega)] at ihb
   rw[bs11 q (i:=i) (by omega) (by omega)] at iha
   have hv:bAt (beL q q.nodes.length) i=b11 q (beL q i) i x:=bh_ q hxi
   rw[hv]
   unfold b11 at hv
   rw[b11]
   generalize bAt (beL q i) ((i:Int) - 1)=b at*
   generalize bAt (beL q i) (b.from_ - 1)=a at*
   clear hv ih
   obtain⟨op,na,mb,⟨vk,vn,vs,vb⟩⟩:=x
   have hok:=rRp_ (G:=G) ⟨vk,vn,vs,vb⟩
   have hwi:IntKind.i64.wrap ((i:Int) - 1)=(i:Int) - 1:=wrap_i64 (by omega) (by omega)
   have hwf:IntKind.i64.wrap (b.from_ - 1)=b.from_ - 1:=wrap_i64 (by omega) (by omega)
   have hwd:IntKind.i64.wrap (b.depth+1)=b.depth+1:=wrap_i64 (by omega) (by omega)
   have hwm:IntKind.i64.wrap ((if a.depth>b.depth then a.depth else b.depth)+1)=max b.depth a.depth+1:=by
    rw[wrap_i64 (by split <;> omega) (by split <;> omega)]
    split <;> omega
   simp only[valV] at hok
   simp only[qeaV,d_,q_,f_,s_,s10,n_,t_,ex3] at ihb iha
   refine ppb_ (Runs.of fun Φ h=>?_)
   unfold cpb_
   dsimp only at h
   generalize hv:(if op=1 then _ else _ :ExT)=v at h
   have hvz:=vz_ ⟨vk,vn,vs,vb⟩
   dsimp only at hvz
   have fin:∀k d f,⟨k,d,f⟩=v→Fit (.tup [iv k,iv d,iv f]) (ex3 v):=fun k d f e=>by subst e;exact .refl _
   have hno:∀w,w=v→w=e0→Fit (ex3 e0) (ex3 v):=fun w e1 e2=>by rw[←e1,e2];exact .refl _
   by_cases h1:op=1
   ·subst h1
    rw[if_pos rfl] at hv
    repeat' (first|simp -implicitDefEqProofs only[go_sem,am_ hxi,n11,qeaV,d_,q_,f_,s_,s10,n_,t_,List.length_map]|refine ag_ (fun hb=>?_) (fun hb=>?_)|refine⟨fun hb=>?_,fun hb=>?_⟩|refine ac_ hok rfl rfl ?_|fail)
    all_goals
     try (exfalso;simp at*;omega)
    all_goals
     refine h _ ⟨_,_,rfl,rfl,fin _ _ _ ?_⟩
     rw[←hv]
     clear hv fin hno h ihb iha hok
     simp_all
   rw[if_neg h1] at hv
   by_cases hvv:(⟨vk,vn,vs,vb⟩:Val)=v0
   ·cases hvv
    rw[if_neg (by simp)] at hv
    by_cases h2:op=2
    ·subst h2
     rw[if_pos rfl] at hv
     cases hq:at? q.quants na with
     | none=>
      rw[hq] at hv
      have ha:=at?_none hq
      repeat' (first|simp -implicitDefEqProofs only[go_sem,am_ hxi,n11,qeaV,d_,q_,f_,s_,s10,n_,t_,List.length_map]|refine ag_ (fun hb=>?_) (fun hb=>?_)|refine⟨fun hb=>?_,fun hb=>?_⟩|fail)
      all_goals try (exfalso;simp at*;omega)
      all_goals
       refine h _ ⟨_,_,rfl,rfl,fin _ _ _ ?_⟩
       rw[←hv]
       simp
     | some y=>
      obtain⟨j,rfl,hy⟩:=at?_some hq
      have hj:=(List.getElem?_eq_some_iff.1 hy).1
      rw[hq] at hv
      repeat' (first|simp -implicitDefEqProofs only[go_sem,am_ hxi,n11,qeaV,d_,q_,f_,s_,s10,n_,t_,List.length_map,am_ hy,q11]|refine ag_ (fun hb=>?_) (fun hb=>?_)|refine⟨fun hb=>?_,fun hb=>?_⟩|fail)
      all_goals try (exfalso;simp at*;omega)
      all_goals
       refine h _ ⟨_,_,rfl,rfl,fin _ _ _ ?_⟩
       rw[←hv]
       clear hv fin hno h ihb iha hok
       simp_all
    rw[if_neg h2] at hv
    by_cases h3:op=3
    ·subst h3
     rw[if_pos rfl] at hv
     cases hq:at? q.frees na with
     | none=>
      rw[hq] at hv
      have ha:=at?_none hq
      repeat' (first|simp -implicitDefEqProofs only[go_sem,am_ hxi,n11,qeaV,d_,q_,f_,s_,s10,n_,t_,List.length_map]|refine ag_ (fun hb=>?_) (fun hb=>?_)|refine⟨fun hb=>?_,fun hb=>?_⟩|fail)
      all_goals try (exfalso;simp at*;omega)
      all_goals
       refine h _ ⟨_,_,rfl,rfl,fin _ _ _ ?_⟩
       rw[←hv]
       simp
     | some y=>
      obtain⟨j,rfl,hy⟩:=at?_some hq
      have hj:=(List.getElem?_eq_some_iff.1 hy).1
      rw[hq] at hv
      repeat' (first|simp -implicitDefEqProofs only[go_sem,am_ hxi,n11,qeaV,d_,q_,f_,s_,s10,n_,t_,List.length_map,am_ hy,f11]|refine ag_ (fun hb=>?_) (fun hb=>?_)|refine⟨fun hb=>?_,fun hb=>?_⟩|fail)
      all_goals try (exfalso;simp at*;omega)
      all_goals
       refine h _ ⟨_,_,rfl,rfl,fin _ _ _ ?_⟩
       rw[←hv]
       clear hv fin hno h ihb iha hok
       simp_all
    rw[if_neg h3] at hv
    repeat' (first|simp -implicitDefEqProofs only[go_sem,am_ hxi,n11,qeaV,d_,q_,f_,s_,s10,n_,t_,List.length_map,hwi,hwf,hwd,hwm]|refine ag_ (fun hb=>?_) (fun hb=>?_)|refine⟨fun hb=>?_,fun hb=>?_⟩|refine ac_ ihb rfl rfl ?_|refine ac_ iha rfl rfl ?_|refine ac_ (rTp_ _ _ _) rfl rfl ?_|fail)
    all_goals first | refine h _ ⟨_,_,rfl,rfl,fin _ _ _ ?_⟩ | exfalso
    all_goals
     try rw[←hv]
     clear hv fin hno h ihb iha hok hwi hwf hwd hwm hex hxi hvz
     simp only[Bool.not_eq_true',Bool.not_true,Bool.not_false,decide_eq_true_eq,decide_eq_false_iff_not,beq_iff_eq,beq_eq_false_iff_ne,bne_iff_ne,bne_eq_false_iff_eq,ne_eq,Bool.not_eq_false'] at*
     first | omega | (simp [*];done) | (exfalso;omega)
   ·rw[if_pos hvv] at hv
    repeat' (first|simp -implicitDefEqProofs only[go_sem,am_ hxi,n11,qeaV,d_,q_,f_,s_,s10,n_,t_,List.length_map,hvz,hvv]|refine ag_ (fun hb=>?_) (fun hb=>?_)|refine⟨fun hb=>?_,fun hb=>?_⟩|fail)
    all_goals try (exfalso;simp at*;omega)
    all_goals
     refine h _ ⟨_,_,rfl,rfl,fin _ _ _ hv⟩
end Go.Proofs.YtjbcfpkibnhodaaGreatDoor.Ab
