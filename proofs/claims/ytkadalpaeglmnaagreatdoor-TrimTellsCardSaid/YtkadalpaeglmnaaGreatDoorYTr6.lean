/-
  Lemmas. No claim is proved here.
-/
import Derived.Test.YtkadalpaeglmnaaGreatDoorYTc2
set_option linter.unusedSimpArgs false
set_option maxHeartbeats 4000000
set_option maxRecDepth 100000
namespace Go.Proofs.YtkadalpaeglmnaaGreatDoor.Ab
open Go Go.RowKit
theorem wt_ {st:St} {i:Nat} {b:Box} (hi:hget st.heap i=some b) (hrow:b.row=true):Weak st (st.thaw1 i):=fun _ _ _ _ ⟨nm,_,h⟩=>⟨nm,_,h.thaw1 hi hrow⟩
theorem hs11:∀(k:Nat) (H:List (Nat×Box)),happ (H.take k) (H.drop k)=H
 | 0,H=>by simp [happ]
 | k+1,[]=>rfl
 | k+1,x::H=>by rw[wU,List.drop_succ_cons,happ,hs11 k H]
theorem wn_ {N:Nat} {E:List (Nat×AV)} {H:List (Nat×Box)} {c ty sz:Nat} {cs:List AV} (p i k tyi szi:Nat) (hc:hget H c=some ⟨false,ty,sz,[.agg cs]⟩) (hk:cs[k]? =some .nils) (hi:i<N) (hni:hget H i=none) (hs:0<szi) (hs2:0<sz) (hE:p_ i E=E) (hH:p11 i H=H):
  Weak ⟨N,E,H⟩ ⟨N,E,happ ((hset H c ⟨false,ty,sz,[.agg (cs.set k (.arr i 0 0))]⟩).take p) ((i,⟨true,tyi,szi,[]⟩)::(hset H c ⟨false,ty,sz,[.agg (cs.set k (.arr i 0 0))]⟩).drop p)⟩:=by
 refine (wn10 i k tyi szi hc hk hi hni hs hs2 hE hH).trans (wh_ fun j=>?_);have hci:c≠i:=fun e=>by subst e;rw[hc] at hni;cases hni
 have hno:hget (hset H c ⟨false,ty,sz,[.agg (cs.set k (.arr i 0 0))]⟩) i=none:=by rw[hh_,zF hci,hni]
 generalize hset H c ⟨false,ty,sz,[.agg (cs.set k (.arr i 0 0))]⟩=K at*;have e:∀j,hget (happ (K.take p) (K.drop p)) j=hget K j:=fun j=>by rw[hs11]
 simp only[hh10] at e;rw[hh10];simp only[hget];by_cases hj:i=j
 ·subst hj;have:=e i;rw[hno] at this;cases h:hget (K.take p) i with
  | none=>simp
  | some b=>rw[h] at this;cases this
 ·rw[zF hj,zF hj];exact e j
variable {G:Nat→Option AV}
theorem sh_ (q:QeaT) (hv:q.vars.Nodup) (hd:(q.decls.map (·.name)).Nodup) (sl:List StateT) (st:Int) (ys:List SymT) (ns:List NodeT) (ts:List TransT) (s:SymT) (hs:symS q s=true) (hl:s.args.length≤1000) (hys:∀x∈ys,x.args.length≤1000) (hyl:ys.length<64):
  HQ G nc12 [.ref 1001 0 0,t27 (symT q s)] (HK q sl st ys ns ts) (.tup [iv ((ys.idxOf s:Nat):Int),.nili]) (HK q sl st (putY ys s) ns ts):=by
 obtain⟨i,d,hi,hdi,hdl,hda⟩:=sa10 hs;have hm:=df10 hd hdi;have hidx:=sIaSaSp_ (G:=G) nc10 [.eptr (iv s.event) 0,.eptr (symV s) 0] (by kernel_rfl) of11 (fun x=>decide (x=s)) ys (fun x hx=>s1p_ x s (by have:=hys x hx;omega) (by omega)) (by omega);rw[ii10] at hidx;have hargs:=fun a k (h:argS q a k=true)=>ap11 (G:=G) q hv sl st (.seq 2 (ys.map symV)) (.seq 7 (ns.map n11)) (.seq 5 (ts.map t11)) a k h;have hsy:symT q s=⟨d.name,s.args.map (argT q)⟩:=by simp [symT,d14,hi,at?_nat hdi]
 rw[hsy];refine hccs_ fun Φ h=>?_;unfold cccs_;obtain⟨se,sa⟩:=s;simp only at hi hdl hda hl hidx;subst hi;have hne:(((d.types.length:Nat):Int) != (sa.length:Int))=false:=by simp [hdl]
 unfold HK ckB at*;unfold ckC at*;generalize e10 (dE q)=E1 at*;generalize e10 (vE q)=E2 at*;generalize e10 (sE sl)=E3 at*
 repeat' (first|simp -implicitDefEqProofs only[go_sem,t27,t16,zX,hm,am_ hdi,d11,i10,hne]|refine ag_ (fun hb=>?_) (fun hb=>?_)|refine⟨fun hb=>?_,fun hb=>?_⟩|fail)
 refine al10 (fun n st'=>∃j:Nat,j+n=sa.length∧st'=⟨142,[(0,.ref 1001 0 0),(6,.ref 6 0 0),(8,.ref 8 0 0),(61,.seq 8 ((sa.map (argT q)).map t28)),(62,iv sa.length),(63,iv j)],
  [(3,⟨false,ta11,4,[.agg [.str d.name,.seq 8 ((sa.map (argT q)).map t28),iv 0,iv 0]]⟩),(6,⟨false,ti_,1,[iv (i:Int)]⟩),(8,⟨false,taS_,2,[.agg [iv (i:Int),.arr 93 0 j]]⟩),(93,⟨true,taA_,6,(sa.take j).map argV⟩),
   (1001,⟨false,tcc_,12,[.agg [.str q.name,.seq 2 (q.decls.map d11),.seq 3 (q.quants.map q11),.seq 5 (q.frees.map f10),.seq 3 (sl.map s13),iv st,.arr 1006 0 ys.length,.arr 1007 0 ns.length,.arr 1008 0 ts.length,.mapc E1,.mapc E2,.mapc E3]]⟩),(1006,⟨true,taS_,2,ys.map symV⟩),(1007,⟨true,taN_,7,ns.map n11⟩),(1008,⟨true,taT_,5,ts.map t11⟩)]⟩) sa.length _ (wn_ (c:=8) 3 93 1 taA_ 6 rfl rfl (yO rfl) rfl (yN _) (yN _) rfl rfl) ⟨0,by simp,rfl⟩ ?_
 rintro I hI n st' ⟨j,hj,rfl⟩;simp -implicitDefEqProofs only[go_sem];refine⟨fun hlt=>?_,fun hge=>?_⟩
 ·have hlt':j<sa.length:=by omega
  obtain⟨a,ha,ham⟩:=as10 hlt';obtain⟨k,hk,hkm⟩:=as10 (l:=d.types) (i:=j) (by omega);have hw:=ws_ hlt' (by omega);have hc:=hargs a k (hda j a k ha hk);have hax:(sa.map (argT q))[j]? =some (argT q a):=by rw[zT,ha];rfl
  have htl:(sa.take j).length=j:=by rw[xY];omega
  have hb1:(j+1)*56≤140737488355328:=by omega
  have hnx:=hI (n - 1) _ ⟨j+1,by omega,rfl⟩;rw[t33 ha,zR] at hnx;generalize argT q a=y at*;generalize sa.take j=p at*;obtain⟨y1,y2,y3⟩:=y;obtain⟨a1,a2,a3⟩:=a;simp only[t28,argV] at hc;simp only[yV,yF,argV] at hnx;clear hI h hidx hargs hys
  repeat' (first|simp -implicitDefEqProofs only[go_sem,am_ hax,am_ hdi,am_ hk,d11,i10,t28,argV,hw,htl,hb1,zX]|refine ag_ (fun hb=>?_) (fun hb=>?_)|refine⟨fun hb=>?_,fun hb=>?_⟩|(refine ac_ hc (by simp [v_,flat,flat.go,viewBs,viewB,viewK,viewK.go,hget,t25,St.thaw1,thaw,thaw.go,t39,t38,t37,evs,St.ev,eget]) rfl ?_)|fail)
  exact aa_ (n - 1) (by omega) hnx
 ·have:j=sa.length:=by omega
  subst this;rw[xS];simp only[symV,a_] at hidx;have hwl:IntKind.i64.wrap (((ys.length+1:Nat):Int) - 1)=(ys.length:Int):=by rw[wi_ (by omega) (by omega)];omega
  have hb1:(ys.length+1)*32≤140737488355328:=by omega
  by_cases hin:(⟨(i:Int),sa⟩:SymT)∈ys
  ·rw[zG hin] at hidx;have e:putY ys ⟨(i:Int),sa⟩=ys:=zG hin;rw[e] at h;have e0:decide ((0:Int)≤((ys.idxOf (⟨(i:Int),sa⟩:SymT):Nat):Int))=true:=by simp
   generalize ys.idxOf (⟨(i:Int),sa⟩:SymT)=m at*
   repeat' (first|simp -implicitDefEqProofs only[go_sem,e0]|refine ag_ (fun hb=>?_) (fun hb=>?_)|refine⟨fun hb=>?_,fun hb=>?_⟩|(refine aw_ _ (wt_ (i:=93) rfl rfl) (cp30 hidx (by simp [v_,flat,flat.go,viewBs,viewB,viewK,viewK.go,hget,t25,St.thaw1,thaw,thaw.go,t39,t38,t37,evs,St.ev,eget]) (FitL.refl _) rfl ?_))|fail)
   exact h _ ⟨_,_,Weak.refl _,rfl,.refl _,subH.at ⟨rfl,rfl,rfl,rfl,trivial⟩⟩
  ·rw[zF hin] at hidx;have e:putY ys ⟨(i:Int),sa⟩=ys++[⟨(i:Int),sa⟩]:=zF hin;have e2:ys.idxOf (⟨(i:Int),sa⟩:SymT)=ys.length:=List.idxOf_eq_length hin;rw[e,e2] at h;have e0:decide ((0:Int)≤-1)=false:=rfl;have e3:((ys.length:Int)==64)=false:=by simp;omega
   simp only[zR,yV,yF,zB,xX,xL,yT,symV,a_] at h
   repeat' (first|simp -implicitDefEqProofs only[go_sem,e0,e3,zX,hb1,hwl,t25,zE]|refine ag_ (fun hb=>?_) (fun hb=>?_)|refine⟨fun hb=>?_,fun hb=>?_⟩|(refine aw_ _ (wt_ (i:=93) rfl rfl) (cp30 hidx (by simp [v_,flat,flat.go,viewBs,viewB,viewK,viewK.go,hget,t25,St.thaw1,thaw,thaw.go,t39,t38,t37,evs,St.ev,eget]) (FitL.refl _) rfl ?_))|fail)
   exact h _ ⟨_,_,Weak.refl _,rfl,.refl _,subH.at ⟨rfl,rfl,rfl,rfl,trivial⟩⟩
def nsK (q:QeaT) (A:Nat) (N0:List NodeT) (j:Nat):List NodeT:=N0++((q.nodes.drop A).take j).map (m10 ((A:Int) - N0.length))
def ksK (q:QeaT) (A j:Nat):List Int:=(List.range j).map fun i=>(((e11 q)[A+i]?).getD e0).kind
theorem ka11 {q:QeaT} {A j i:Nat} {e:ExT} (h:i<j) (he:(e11 q)[A+i]? =some e):(ksK q A j)[i]? =some e.kind:=by simp [ksK,h,he]
theorem ks16 {q:QeaT} {A j:Nat} {e:ExT} (he:(e11 q)[A+j]? =some e):ksK q A (j+1)=ksK q A j++[e.kind]:=by simp [ksK,sJ,he]
theorem kl12 (q:QeaT) (A j:Nat):(ksK q A j).length=j:=by simp [ksK]
theorem ns36 {q:QeaT} {A j:Nat} {N0:List NodeT} {x:NodeT} (hx:q.nodes[A+j]? =some x):nsK q A N0 (j+1)=nsK q A N0 j++[m10 ((A:Int) - N0.length) x]:=by
 have:(q.nodes.drop A)[j]? =some x:=by rw[yE];exact hx
 unfold nsK;rw[t33 this,zR,yI];rfl
theorem nl12 {q:QeaT} {A j:Nat} {N0:List NodeT} (h:A+j≤q.nodes.length):(nsK q A N0 j).length=N0.length+j:=by simp [nsK];omega
def bodE (L:List TExT) (s:SymT) (b a:Int) (ks:AV):AV:=.agg [t30 L,iv s.event,a_ s.args,iv b,iv a,ks]
structure NdAt (q:QeaT) (A:Nat) (s:SymT) (j:Nat) (x:NodeT) (e:ExT):Prop where
 hx:q.nodes[A+j]? =some x
 he:(e11 q)[A+j]? =some e
 hk:e.kind≠0
 hf:(A:Int)≤e.from_
 hs:x.op=2→s12 s x.a=true
theorem np30 (q:QeaT) (hv:q.vars.Nodup) (hq:q.nodes.length≤1000) (sl:List StateT) (st:Int) (c6 c7 c8:AV) (A n0:Nat) (hn0:n0≤1000) (s:SymT) (hsl:s.args.length≤1000) (L:List TExT) (at_:Int) (j:Nat) (x:NodeT) (e:ExT) (h:NdAt q A s j x e):
  PQ G nccn_ [.eptr (ckC q sl st c6 c7 c8) 0,.eptr (bodE L s n0 at_ (.seq 1 ((ksK q A j).map iv))) 0,tExV (n14 q A x)] (.tup [n11 (m10 ((A:Int) - n0) x),iv e.kind,.nili]):=by
 obtain⟨hx,he,hk,hf,hs⟩:=h;have hlt:=ex_lt he;refine pccn_ fun Φ h=>?_;unfold cccn_;cases nd_ok hx he hk with
 | leaf hl=>
  obtain⟨op,a,b,v⟩:=x;unfold l_ at hl;simp only at hl hs;split at hl
  ·rename_i h1;subst h1;split at hl
   ·rename_i h2;obtain⟨rfl,rfl,_⟩:=h2;cases hl;rw[show n14 q A ⟨1,0,0,v⟩=⟨1,0,0,[],v⟩ from rfl];rw[show m10 ((A:Int) - n0) ⟨1,0,0,v⟩=⟨1,0,0,v⟩ from rfl] at h
    repeat' (first|simp -implicitDefEqProofs only[go_sem,tExV,bodE]|refine ag_ (fun hb=>?_) (fun hb=>?_)|refine⟨fun hb=>?_,fun hb=>?_⟩|fail)
    exact h _ ⟨_,_,rfl,rfl,.refl _⟩
   ·cases hl
  ·split at hl
   ·rename_i h1;subst h1;split at hl
    ·rename_i h2;obtain⟨rfl,rfl⟩:=h2;cases hy:at? q.quants a with
     | none=>rw[hy] at hl;cases hl
     | some y=>
      rw[hy] at hl;cases hl;rw[show n14 q A ⟨2,a,0,v0⟩=⟨17,0,0,y.name,v0⟩ by simp [n14,hy]];rw[show m10 ((A:Int) - n0) ⟨2,a,0,v0⟩=⟨2,a,0,v0⟩ from rfl] at h;obtain⟨i,rfl,hi⟩:=at?_some hy;have hm:=qf_ hv hi;have hkd:=kqp_ (G:=G) q sl st c6 c7 c8 hi 0 v0;have hst:=cSp_ (G:=G) s (by omega) (i:Int);rw[hs rfl] at hst;simp only[ckC,n11,symV,a_] at hkd hm hst
      repeat' (first|simp -implicitDefEqProofs only[go_sem,ckC,tExV,hm,bodE,a_]|refine ag_ (fun hb=>?_) (fun hb=>?_)|refine⟨fun hb=>?_,fun hb=>?_⟩|refine ac_ hst rfl rfl ?_|refine ac_ hkd rfl rfl ?_|fail)
      exact h _ ⟨_,_,rfl,rfl,.refl _⟩
    ·cases hl
   ·split at hl
    ·rename_i h1;subst h1;split at hl
     ·rename_i h2;obtain⟨rfl,rfl⟩:=h2;cases hy:at? q.frees a with
      | none=>rw[hy] at hl;cases hl
      | some y=>
       rw[hy] at hl;cases hl;rw[show n14 q A ⟨3,a,0,v0⟩=⟨17,0,0,y.name,v0⟩ by simp [n14,hy]];rw[show m10 ((A:Int) - n0) ⟨3,a,0,v0⟩=⟨3,a,0,v0⟩ from rfl] at h;obtain⟨i,rfl,hi⟩:=at?_some hy;have hm:=ff_ hv hi;have hkd:=kfp_ (G:=G) q sl st c6 c7 c8 hi 0 v0;simp only[ckC,n11] at hkd hm
       repeat' (first|simp -implicitDefEqProofs only[go_sem,ckC,tExV,hm,bodE,a_]|refine ag_ (fun hb=>?_) (fun hb=>?_)|refine⟨fun hb=>?_,fun hb=>?_⟩|refine ac_ hkd rfl rfl ?_|fail)
       exact h _ ⟨_,_,rfl,rfl,.refl _⟩
     ·cases hl
    ·cases hl
 | one h1 hv0 ha hb b hj hbx hbk hee=>
  have fb:=ex_fr hbx hbk;subst hee;simp only at hf hk;obtain⟨op,xa,xb,v⟩:=x;simp only at h1 hv0 ha hb hk;subst hv0 hb;obtain⟨i,rfl⟩:∃i,j=i+1:=⟨j - 1,by omega⟩;have hbx:(e11 q)[A+i]? =some b:=by rw[show A+i=A+(i+1) - 1 by omega];exact hbx
  have hkb:=ka11 (show i<i+1 by omega) hbx;have hwa:n14 q A ⟨op,xa,0,v0⟩=⟨op,(i:Int),0,[],v0⟩:=by unfold n14;simp only;rw[zF (by omega),zF (by omega),zF (by omega),zG h1];congr 1;omega
  have hwm:m10 ((A:Int) - n0) ⟨op,xa,0,v0⟩=⟨op,(i:Int)+n0,0,v0⟩:=by unfold m10;simp only;rw[zG (by omega),zF (by omega)];congr 1;omega
  rw[hwa];rw[hwm] at h;have ht:=vTp_ (G:=G) op b.kind b.kind;have w1:IntKind.i64.wrap ((i:Int)+n0)=(i:Int)+n0:=wi_ (by omega) (by omega);have z1:(op==1)=false:=by simp;omega
  have z2:(op==17)=false:=by simp;omega
  have z3:decide (5<op)=false:=by simp;omega
  have z4:(o11 op b.kind b.kind==0)=false:=by simpa using hk
  generalize ksK q A (i+1)=K at*;generalize o11 op b.kind b.kind=kd at*
  repeat' (first|simp -implicitDefEqProofs only[go_sem,tExV,bodE,z1,z2,z3,z4,w1,am_ hkb]|refine ag_ (fun hb=>?_) (fun hb=>?_)|refine⟨fun hb=>?_,fun hb=>?_⟩|refine ac_ ht rfl rfl ?_|fail)
  exact h _ ⟨_,_,rfl,rfl,.refl _⟩
 | two h1 hv0 hb b hj hbx hbk a k hak hkb hax hka hee=>
  have fb:=ex_fr hbx hbk;have fa:=ex_fr hax hka;subst hee;simp only at hf hk;obtain⟨op,xa,xb,v⟩:=x;simp only at h1 hv0 hak hb hk;obtain⟨i,rfl⟩:∃i,j=i+1:=⟨j - 1,by omega⟩;obtain⟨m,rfl⟩:∃m,k=A+m:=⟨k - A,by omega⟩;have hbx:(e11 q)[A+i]? =some b:=by rw[show A+i=A+(i+1) - 1 by omega];exact hbx
  have hkb':=ka11 (show i<i+1 by omega) hbx;have hka':=ka11 (j:=i+1) (show m<i+1 by omega) hax;have hb:xb=((A+i:Nat):Int):=by omega
  subst hv0 hak hb;have hwa:n14 q A ⟨op,((A+m:Nat):Int),((A+i:Nat):Int),v0⟩=⟨op,(m:Int),(i:Int),[],v0⟩:=by unfold n14;simp only;rw[zF (by omega),zF (by omega),zF (by omega),zF (by omega)];congr 1 <;> omega
  have hwm:m10 ((A:Int) - n0) ⟨op,((A+m:Nat):Int),((A+i:Nat):Int),v0⟩=⟨op,(m:Int)+n0,(i:Int)+n0,v0⟩:=by unfold m10;simp only;rw[zG (by omega),zG (by omega)];congr 1 <;> omega
  rw[hwa];rw[hwm] at h;have ht:=vTp_ (G:=G) op a.kind b.kind;have w1:IntKind.i64.wrap ((i:Int)+n0)=(i:Int)+n0:=wi_ (by omega) (by omega);have w2:IntKind.i64.wrap ((m:Int)+n0)=(m:Int)+n0:=wi_ (by omega) (by omega);have z1:(op==1)=false:=by simp;omega
  have z2:(op==17)=false:=by simp;omega
  have z3:decide (5<op)=true:=by simp;omega
  have z4:(o11 op a.kind b.kind==0)=false:=by simpa using hk
  generalize ksK q A (i+1)=K at*;generalize o11 op a.kind b.kind=kd at*
  repeat' (first|simp -implicitDefEqProofs only[go_sem,tExV,bodE,z1,z2,z3,z4,w1,w2,am_ hkb',am_ hka']|refine ag_ (fun hb=>?_) (fun hb=>?_)|refine⟨fun hb=>?_,fun hb=>?_⟩|refine ac_ ht rfl rfl ?_|fail)
  exact h _ ⟨_,_,rfl,rfl,.refl _⟩
def HBd (q:QeaT) (sl:List StateT) (st:Int) (ys:List SymT) (ts:List TransT) (A:Nat) (N0:List NodeT) (s:SymT) (L:List TExT) (j:Nat):List (Nat×Box):=
 [ckB q sl st ys.length (N0.length+j) ts.length,(1006,⟨true,taS_,2,ys.map symV⟩),(1007,⟨true,taN_,7,(nsK q A N0 j).map n11⟩),(1008,⟨true,taT_,5,ts.map t11⟩),
  (1012,⟨false,tcb_,6,[bodE L s N0.length j (.arr 1013 0 j)]⟩),(1013,⟨true,ti_,1,(ksK q A j).map iv⟩)]
theorem eh_ (q:QeaT) (hv:q.vars.Nodup) (hq:q.nodes.length≤1000) (sl:List StateT) (st:Int) (ys:List SymT) (ts:List TransT) (A:Nat) (N0:List NodeT) (hn0:N0.length≤1000) (s:SymT) (hsl:s.args.length≤1000) (L:List TExT) (r:Nat) (kd:Int) (j0:Nat) (hj0:j0≤r+1) (hr:A+r<q.nodes.length)
  (hok:∀i,i≤r→∃x e,NdAt q A s i x e∧L[i]? =some (n14 q A x)) (hkd:∃e,(e11 q)[A+r]? =some e∧e.kind=kd):
  HQ G ncce_ [.ref 1001 0 0,.ref 1012 0 0,iv (r:Int),iv kd] (HBd q sl st ys ts A N0 s L j0) .nili (HBd q sl st ys ts A N0 s L (r+1)):=by
 have hnode:=fun i x e (h:NdAt q A s i x e)=>np30 (G:=G) q hv hq sl st (.seq 2 (ys.map symV)) (.seq 7 ((nsK q A N0 i).map n11)) (.seq 5 (ts.map t11)) A N0.length hn0 s hsl L i i x e h;refine hcce_ fun Φ h=>?_;unfold ccce_;unfold HBd ckB at*;simp -implicitDefEqProofs only[go_sem]
 refine al_ (fun n st'=>∃j:Nat,j+n=r+1∧st'=⟨105,[(0,.ref 1001 0 0),(1,.ref 1012 0 0),(2,iv (r:Int)),(3,iv kd)],[(1001,⟨false,tcc_,12,[ckC q sl st (.arr 1006 0 ys.length) (.arr 1007 0 (N0.length+j)) (.arr 1008 0 ts.length)]⟩),(1006,⟨true,taS_,2,ys.map symV⟩),(1007,⟨true,taN_,7,(nsK q A N0 j).map n11⟩),(1008,⟨true,taT_,5,ts.map t11⟩),
  (1012,⟨false,tcb_,6,[bodE L s N0.length j (.arr 1013 0 j)]⟩),(1013,⟨true,ti_,1,(ksK q A j).map iv⟩)]⟩) (r+1 - j0) ⟨j0,by omega,rfl⟩ ?_
 rintro I hI n st' ⟨j,hj,rfl⟩;simp -implicitDefEqProofs only[go_sem,bodE];refine⟨fun hlt=>?_,fun hge=>?_⟩
 ·have hlt':j≤r:=by omega
  obtain⟨x,e,hnd,hLj⟩:=hok j hlt';have hc:=hnode j x e hnd;have hw:=ws_ (show j<r+1 by omega) (by omega);have hnl:=nl12 (q:=q) (A:=A) (j:=j) (N0:=N0) (by omega);have hnx:=hI (n - 1) _ ⟨j+1,by omega,rfl⟩;rw[ns36 hnd.hx,ks16 hnd.he] at hnx;have hkl:=kl12 q A j;have hb1:(N0.length+j+1)*64≤140737488355328:=by omega
  have hb2:(j+1)*8≤140737488355328:=by omega
  generalize n14 q A x=y at*;generalize m10 ((A:Int) - N0.length) x=z at*;generalize nsK q A N0 j=NS at*;generalize ksK q A j=KS at*;generalize e.kind=ek at*;obtain⟨y1,y2,y3,y4,y5⟩:=y;obtain⟨z1,z2,z3,z4⟩:=z;have tk1:(NS.map n11).take (N0.length+j)=NS.map n11:=by rw[←hnl];exact t25 _ _
  have tk2:(KS.map iv).take j=KS.map iv:=by rw[←hkl];exact t25 _ _
  unfold ckC bodE at*;simp only[tExV,n11,a_,t30] at hc;simp only[zR,yV,yF,n11,t30,a_,←vQ] at hnx;generalize e10 (dE q)=E1 at*;generalize e10 (vE q)=E2 at*;generalize e10 (sE sl)=E3 at*;clear hI h hok hnode hnd
  repeat' (first|simp -implicitDefEqProofs only[go_sem,t30,a_,am_ hLj,tExV,n11,hw,hnl,hkl,hb1,hb2,zX]|refine ag_ (fun hb=>?_) (fun hb=>?_)|refine⟨fun hb=>?_,fun hb=>?_⟩|(refine ac_ hc (by simp [v_,flat,flat.go,viewBs,viewB,viewK,viewK.go,hget,t25,tk1,tk2,hnl,hkl]) rfl ?_)|fail)
  all_goals refine aa11 (n - 1) (by omega) _ ?_ hnx
  all_goals refine (wh_ fun i=>?_)
  all_goals by_cases e0:1001=i
  ·subst e0;rfl
  all_goals by_cases e1:1006=i
  ·subst e1;rfl
  all_goals by_cases e2:1007=i
  ·subst e2;rfl
  all_goals by_cases e3:1008=i
  ·subst e3;rfl
  all_goals by_cases e4:1012=i
  ·subst e4;rfl
  all_goals by_cases e5:1013=i
  ·subst e5;rfl
  all_goals simp only[hget,zF e0,zF e1,zF e2,zF e3,zF e4,zF e5]
 ·have:j=r+1:=by omega
  subst this;obtain⟨e,he,rfl⟩:=hkd;have hkr:((ksK q A (r+1)).map iv)[r]? =some (iv e.kind):=by rw[zT,ka11 (show r<r+1 by omega) he];rfl
  have hne:(e.kind != e.kind)=false:=by simp
  repeat' (first|(simp -implicitDefEqProofs only[go_sem,bodE,ckC,aa10 (show r<r+1 by omega),hkr,hne])|refine ag_ (fun hb=>?_) (fun hb=>?_)|refine⟨fun hb=>?_,fun hb=>?_⟩|fail)
  exact h _ ⟨_,_,Weak.refl _,rfl,.refl _,subH.at ⟨rfl,rfl,rfl,rfl,rfl,rfl,trivial⟩⟩
theorem eb_ {q q':QeaT} (hq:q'.quants=q.quants) (hf:q'.frees=q.frees) {s d m:Nat} (hm:s+m≤q'.nodes.length) (hm2:s+d+m≤q.nodes.length) (hn:∀j,j<m→q'.nodes[s+j]? =(q.nodes[s+d+j]?).map (m10 d)) (k:Nat) (hk:k<m) (e:ExT) (he:(e11 q)[s+d+k]? =some e) (h1:e.kind≠0) (h2:((s+d:Nat):Int)≤e.from_):(e11 q')[s+k]? =some (m13 d e):=by
 obtain⟨x,hx,_⟩:=as10 (l:=q.nodes) (i:=s+d+k) (by omega);have e1:=ea_ hx (n:=q.nodes.length) (by omega) (zE _);have e2:(exL q q.nodes.length)[s+d+k]? =some e:=he;rw[e1] at e2;cases e2;have:=em_ hq hf hm hm2 hn k hk x hx h1 h2;have hx':q'.nodes[s+k]? =some (m10 d x):=by rw[hn k hk,hx];rfl
 have e3:=ea_ hx' (n:=q'.nodes.length) (by omega) (zE _);rw[this] at e3;exact e3
structure Blk (q q':QeaT) (s d m:Nat):Prop where
 qu:q'.quants=q.quants
 fr:q'.frees=q.frees
 st:q'.symbols=q.symbols
 b1:s+m≤q'.nodes.length
 b2:s+d+m≤q.nodes.length
 at_:∀j,j<m→q'.nodes[s+j]? =(q.nodes[s+d+j]?).map (m10 d)
theorem wm_ {q q':QeaT} {s d m:Nat} (hb:Blk q q' s d m) {a r k:Int} (ha:((s+d:Nat):Int)≤a) (hr:r<((s+d+m:Nat):Int)) (h:w_ (e11 q) a r k=true):w_ (e11 q') (a - d) (r - d) k=true:=by
 unfold w_ at h ⊢;cases he:at? (e11 q) r with
 | none=>rw[he] at h;cases h
 | some e=>
  rw[he] at h;simp only[zK,zU,zC,yQ] at h;obtain⟨h1,h2,h3,h4,h5⟩:=h;obtain⟨i,rfl,hi⟩:=at?_some he;obtain⟨j,rfl⟩:∃j,i=s+d+j:=⟨i - (s+d),by omega⟩;have hk:e.kind≠0:=by rw[h2];intro hh;rw[hh] at h3;simp at h3
  have:=eb_ hb.qu hb.fr hb.b1 hb.b2 hb.at_ j (by omega) e hi hk (by omega);have e1:((s+d+j:Nat):Int) - (d:Int)=((s+j:Nat):Int):=by omega
  have e2:at? (e11 q') (((s+d+j:Nat):Int) - (d:Int))=some (m13 d e):=by rw[e1];unfold at?;rw[zG (by omega)];exact this
  rw[e2];simp only[m13,zK,zU,zC,yQ];exact⟨by omega,h2,h3,by omega,xM h5⟩
def movS (d:Int) (s:SetT):SetT:=⟨s.free,s.expr - d⟩
theorem sm13 {q q':QeaT} {s d m:Nat} (hb:Blk q q' s d m) (all:List SetT):∀(sets:List SetT) (i:Nat) {a:Int},((s+d:Nat):Int)≤a→(allS (s11 q (e11 q) all) sets i a).1=true→(∀x∈sets,x.expr<((s+d+m:Nat):Int))→
  allS (s11 q' (e11 q') (all.map (movS d))) (sets.map (movS d)) i (a - d)=(true,(allS (s11 q (e11 q) all) sets i a).2 - d)
 | [],i,a,_,_,_ =>rfl
 | x::r,i,a,ha,h,hx=>by
  rw[yV];unfold allS at h ⊢;split at h
  ·rename_i hs;rw[zG hs];have hst:(s11 q (e11 q) all a i x).2=x.expr+1∧s11 q' (e11 q') (all.map (movS d)) (a - d) i (movS d x)=(true,x.expr+1 - d)∧a≤x.expr:=by
    unfold s11 at hs ⊢;rw[hb.fr];have mf:(movS d x).free=x.free:=rfl;have me:(movS d x).expr=x.expr - d:=rfl;rw[mf,me];cases hf:at? q.frees x.free with
    | none=>rw[hf] at hs;cases hs
    | some f=>
     rw[hf] at hs;simp only at hs ⊢;have hany:(((all.map (movS d)).take i).any fun y=>y.free==x.free)=((all.take i).any fun y=>y.free==x.free):=by rw[←List.map_take,List.any_map];rfl
     rw[hany];split at hs
     ·cases hs
     ·rename_i hn;rw[zF hn,zF hn];split at hs
      ·rename_i hw;have hw2:=wm_ hb ha (hx x yX) hw;rw[zG hw,zG hw2];exact⟨rfl,by congr 1;omega,(wi10 hw).1⟩
      ·cases hs
   rw[hst.1] at h ⊢;rw[hst.2.1];simp only[xZ];exact sm13 hb all r (i+1) (by have:=hst.2.2;omega) h fun y hy=>hx y (zD _ hy)
  ·cases h
theorem sl15 {q:QeaT} {l:List ExT} {all:List SetT}:∀(sets:List SetT) (i:Nat) {a:Int},0≤a→a≤l.length→(allS (s11 q l all) sets i a).1=true→∀x∈sets,x.expr<(allS (s11 q l all) sets i a).2
 | [],_,_,_,_,_ =>fun x hx=>by cases hx
 | s::r,i,a,h0,h1,h=>by
  have hall:=se_ (s::r) i h0 h1 h;unfold allS at h ⊢;split at h
  ·rename_i hs;rw[zG hs];have hst:(s11 q l all a i s).2=s.expr+1∧a≤s.expr∧s.expr<l.length:=by
    unfold s11 at hs ⊢;cases hf:at? q.frees s.free with
    | none=>rw[hf] at hs;cases hs
    | some f=>
     rw[hf] at hs;simp only at hs ⊢;split at hs
     ·cases hs
     ·rename_i hn;rw[zF hn];split at hs
      ·rename_i hw;rw[zG hw];have:=wi10 hw;exact⟨rfl,this.1,this.2.2⟩
      ·cases hs
   rw[hst.1] at h ⊢;have g:=se_ r (i+1) (a:=s.expr+1) (by omega) (by omega) h;intro x hx;rcases yM.1 hx with rfl | hx
   ·rw[g.1];omega
   ·exact sl15 r (i+1) (by omega) (by omega) h x hx
  ·cases h
theorem mm11 {q q':QeaT} {s d m:Nat} (hb:Blk q q' s d m):mid q'.nodes (s:Int) ((s+m:Nat):Int)=(mid q.nodes ((s+d:Nat):Int) ((s+d+m:Nat):Int)).map (m10 d):=by
 unfold mid;refine vP fun i=>?_;have e1:((s+m:Nat):Int).toNat - (s:Int).toNat=m:=by omega
 have e2:((s+d+m:Nat):Int).toNat - ((s+d:Nat):Int).toNat=m:=by omega
 rw[e1,e2,zT,yU,yU];split
 ·rename_i h;rw[yE,yE];exact hb.at_ i h
 ·rfl
theorem tm12 {q q':QeaT} {s d m:Nat} (hb:Blk q q' s d m) {t:TransT} {f to:Int} (hf:0≤f∧f<q'.states.length) (hto:0≤to∧to<q'.states.length)
  (h:t17 q t ((s+d:Nat):Int)=(((s+d+m:Nat):Int),true)):
  t17 q' ⟨f,t.symbol,to,if t.guard= -1 then -1 else t.guard - d,t.sets.map (movS d)⟩ (s:Int)=(((s+m:Nat):Int),true):=by
 have hb2:=hb.b2;have hk:=to11 (by omega) (by omega) h;unfold t17 at h ⊢;simp only;split at h
 ·exact absurd (Prod.mk.inj h).2 (by decide)
 ·rename_i hr;have hr':¬(inR f q'.states.length&&(inR to q'.states.length&&inR t.symbol q'.symbols.length))=false:=by
   simp only[inR,hb.st,uT,zK,zU];exact⟨hf,hto,hk.hs⟩
  rw[zF hr'];have rest:∀a1:Int,((s+d:Nat):Int)≤a1→a1≤q.nodes.length→r18 q t ((s+d:Nat):Int) a1=(((s+d+m:Nat):Int),true)→r18 q' ⟨f,t.symbol,to,if t.guard= -1 then -1 else t.guard - d,t.sets.map (movS d)⟩ (s:Int) (a1 - d)=(((s+m:Nat):Int),true):=by
   intro a1 h2 h3 h4;unfold r18 at h4 ⊢;simp only at h4 ⊢;split at h4
   ·rename_i hs;simp only[vH] at h4;have hlt:=sl15 t.sets 0 (q:=q) (l:=e11 q) (all:=t.sets) (a:=a1) (by omega) (by rw[el10];exact h3) hs;rw[h4.1] at hlt;have e:=sm13 hb t.sets t.sets 0 h2 hs hlt;rw[e,h4.1];simp only[xZ,vH];refine⟨by omega,?_⟩;have e3:(((s+d+m:Nat):Int) - (d:Int))=((s+m:Nat):Int):=by omega
    rw[e3,mm11 hb,hb.st];rw[h4.1] at h4;have h5:=h4.2;cases hsy:at? q.symbols t.symbol with
    | none=>rw[hsy] at h5;cases h5
    | some y=>
     rw[hsy] at h5;simp only at h5 ⊢;rw[List.all_map];rw[←h5];congr 1;funext x;show (!(x.op==2)||n13 y (m10 d x).a)=_;by_cases hx:x.op=2
     ·have:(m10 d x).a=x.a:=by unfold m10;simp only;rw[zF (by omega)]
      rw[this]
     ·have hx2:(x.op==2)=false:=by simpa using hx
      rw[hx2];rfl
   ·exact absurd (Prod.mk.inj h4).2 (by decide)
  by_cases hg:t.guard= -1
  ·rw[zG hg] at h;rw[zG (by rw[zG hg])];have:=rest ((s+d:Nat):Int) (wZ _) (by omega) h;have e:(((s+d:Nat):Int) - (d:Int))=(s:Int):=by omega
   rw[e] at this;exact this
  ·rw[zF hg] at h;rw[zF (by rw[zF hg];rcases hk.hg with h9 | h9 <;> omega)];split at h
   ·rename_i hw;have wi:=wi10 hw;rw[el10] at wi;have hlt:t.guard<((s+d+m:Nat):Int):=by
     have:=hk.he;have h7:t.guard+1≤endS t.sets (t.guard+1):=by
      unfold r18 at h;simp only at h;split at h
      ·rename_i hs;exact (se_ t.sets 0 (by omega) (by rw[el10];omega) hs).2.1
      ·exact absurd (Prod.mk.inj h).2 (by decide)
     unfold endT at this;rw[zF hg] at this;omega
    have hw2:=wm_ hb (wZ _) hlt hw;have e:(((s+d:Nat):Int) - (d:Int))=(s:Int):=by omega
    rw[e] at hw2;rw[zF hg,zG hw2];have:=rest (t.guard+1) (by omega) (by omega) h;have e2:t.guard+1 - (d:Int)=t.guard - d+1:=by omega
    rw[e2,zF hg] at this;exact this
   ·exact absurd (Prod.mk.inj h).2 (by decide)
