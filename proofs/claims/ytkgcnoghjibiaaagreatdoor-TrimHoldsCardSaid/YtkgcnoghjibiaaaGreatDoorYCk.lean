/- Lemmas. -/
import Derived.Test.YtkgcnoghjibiaaaGreatDoorYTc2
import Derived.Test.YtkgcnoghjibiaaaGreatDoorYSt1
set_option linter.unusedSimpArgs false
set_option maxHeartbeats 4000000
set_option maxRecDepth 100000
namespace Go.Proofs.YtkgcnoghjibiaaaGreatDoor.Ab
open Go Go.RowKit
theorem hs11:∀(k:Nat) (H:List (Nat×Box)),happ (H.take k) (H.drop k)=H
 | 0,H=>by simp [happ]
 | k+1,[]=>rfl
 | k+1,x::H=>by rw[uQ,List.drop_succ_cons,happ,hs11 k H]
theorem wn_ {N:Nat} {E:List (Nat×AV)} {H:List (Nat×Box)} {c ty sz:Nat} {cs:List AV} (p i k tyi szi:Nat) (hc:hget H c=some ⟨false,ty,sz,[.agg cs]⟩) (hk:cs[k]?=some .nils) (hi:i<N) (hni:hget H i=none) (hs:0<szi) (hs2:0<sz) (hE:p13 i E=E) (hH:p12 i H=H):
  Weak ⟨N,E,H⟩ ⟨N,E,happ ((hset H c ⟨false,ty,sz,[.agg (cs.set k (.arr i 0 0))]⟩).take p) ((i,⟨true,tyi,szi,[]⟩)::(hset H c ⟨false,ty,sz,[.agg (cs.set k (.arr i 0 0))]⟩).drop p)⟩:=by
 refine (wn10 i k tyi szi hc hk hi hni hs hs2 hE hH).trans (wh_ λj=>?_);have hci:c≠i:=λe=>by subst e;rw[hc] at hni;cases hni
 have hno:hget (hset H c ⟨false,ty,sz,[.agg (cs.set k (.arr i 0 0))]⟩) i=none:=by rw[hh_,zK hci,hni]
 generalize hset H c ⟨false,ty,sz,[.agg (cs.set k (.arr i 0 0))]⟩=K at*;have e:∀j,hget (happ (K.take p) (K.drop p)) j=hget K j:=λj=>by rw[hs11]
 simp only[hh10] at e;rw[hh10];simp only[hget];by_cases hj:i=j
 .subst hj;have:=e i;rw[hno] at this;cases h:hget (K.take p) i with
  | none=>simp
  | some b=>rw[h] at this;cases this
 .rw[zK hj,zK hj];exact e j
variable {G:Nat->Option AV}
theorem sh_ (q:QeaT) (hv:q.vars.Nodup) (hd:(q.decls.map (·.name)).Nodup) (sl:List StateT) (st:Int) (ys:List SymT) (ns:List NodeT) (ts:List TransT) (s:SymT) (hs:symS q s=true) (hl:s.args.length<=1000) (hys:∀x∈ys,x.args.length<=1000) (hyl:ys.length<64):
  HQ G 131 [.ref 1001 0 0,t28 (symT q s)] (HK q sl st ys ns ts) (.tup [iv ((ys.idxOf s:Nat):Int),.nili]) (HK q sl st (putY ys s) ns ts):=by
 obtain⟨i,d,hi,hdi,hdl,hda⟩:=sa10 hs;have hm:=df11 hd hdi;have hidx:=sIaSaSp_ (G:=G) 209 [.eptr (iv s.event) 0,.eptr (symV s) 0] (by kernel_rfl) of11 (λx=>decide (x=s)) ys (λx hx=>s1p_ x s (by have:=hys x hx;omega) (by omega)) (by omega);rw[ii11] at hidx;have hargs:=λa k (h:argS q a k=true)=>ap11 (G:=G) q hv sl st (.seq 2 (ys.map symV)) (.seq 7 (ns.map n11)) (.seq 5 (ts.map t11)) a k h;have hsy:symT q s=⟨d.name,s.args.map (argT q)⟩:=by simp [symT,d15,hi,at?_nat hdi]
 rw[hsy];refine hccs_ λΦ h=>?_;unfold cccs_;obtain⟨se,sa⟩:=s;simp only at hi hdl hda hl hidx;subst hi;have hne:(((d.types.length:Nat):Int) != (sa.length:Int))=false:=by simp [hdl]
 unfold HK ckB at*;unfold ckC at*;generalize e13 (dE q)=E1 at*;generalize e13 (vE q)=E2 at*;generalize e13 (sE sl)=E3 at*
 repeat' (first|simp -implicitDefEqProofs only[go_sem,t28,t17,zQ,hm,am_ hdi,d12,i11,hne]|apply ai__<;>intro hb)
 refine al11 (λn st'=>∃j:Nat,j+n=sa.length∧st'=⟨142,[(0,.ref 1001 0 0),(6,.ref 6 0 0),(8,.ref 8 0 0),(61,.seq 8 ((sa.map (argT q)).map t34)),(62,iv sa.length),(63,iv j)],
  [(3,⟨false,78,4,[.agg [.str d.name,.seq 8 ((sa.map (argT q)).map t34),iv 0,iv 0]]⟩),(6,⟨false,3,1,[iv (i:Int)]⟩),(8,⟨false,106,2,[.agg [iv (i:Int),.arr 93 0 j]]⟩),(93,⟨true,108,6,(sa.take j).map argV⟩),
   (1001,⟨false,154,12,[.agg [.str q.name,.seq 2 (q.decls.map d12),.seq 3 (q.quants.map q11),.seq 5 (q.frees.map f10),.seq 3 (sl.map s14),iv st,.arr 1006 0 ys.length,.arr 1007 0 ns.length,.arr 1008 0 ts.length,.mapc E1,.mapc E2,.mapc E3]]⟩),(1006,⟨true,106,2,ys.map symV⟩),(1007,⟨true,112,7,ns.map n11⟩),(1008,⟨true,95,5,ts.map t11⟩)]⟩) sa.length _ (wn_ (c:=8) 3 93 1 108 6 rfl rfl (xS rfl) rfl (xN _) (xN _) rfl rfl) ⟨0,by simp,rfl⟩ ?_
 rintro I hI n st' ⟨j,hj,rfl⟩;simp -implicitDefEqProofs only[go_sem];refine⟨λhlt=>?_,λhge=>?_⟩
 .have hlt':j<sa.length:=by omega
  obtain⟨a,ha,ham⟩:=as10 hlt';obtain⟨k,hk,hkm⟩:=as10 (l:=d.types) (i:=j) (by omega);have hw:=ws_ hlt';have hc:=hargs a k (hda j a k ha hk);have hax:(sa.map (argT q))[j]?=some (argT q a):=by rw[zS,ha];rfl
  have htl:(sa.take j).length=j:=by rw[xG];omega
  have hb1:(j+1)*56<=140737488355328:=by omega
  have hnx:=hI (n - 1) _ ⟨j+1,by omega,rfl⟩;rw[t39 ha,zE] at hnx;generalize argT q a=y at*;generalize sa.take j=p at*;obtain⟨y1,y2,y3⟩:=y;obtain⟨a1,a2,a3⟩:=a;simp only[t34,argV] at hc;simp only[yJ,yU,argV] at hnx;clear hI h hidx hargs hys
  repeat' (first|simp -implicitDefEqProofs only[go_sem,am_ hax,am_ hdi,am_ hk,d12,i11,t34,argV,hw,htl,hb1,zQ]|apply ai__<;>intro hb|(refine ac_ hc (by simp [v10,flat,flat.go,viewBs,viewB,viewK,viewK.go,hget,t25,St.thaw1,thaw,thaw.go,t38,t37,t36,evs,St.ev,eget]) rfl ?_)|fail)
  exact ae__ hnx
 .have:j=sa.length:=by omega
  subst this;rw[wV];simp only[symV,a10] at hidx;have hwl:IntKind.i64.wrap (((ys.length+1:Nat):Int) - 1)=(ys.length:Int):=by rw[wi_ (by omega) (by omega)];omega
  have hb1:(ys.length+1)*32<=140737488355328:=by omega
  by_cases hin:(⟨(i:Int),sa⟩:SymT)∈ys
  .rw[zY hin] at hidx;have e:putY ys ⟨(i:Int),sa⟩=ys:=zY hin;rw[e] at h;have e0:decide ((0:Int)<=((ys.idxOf (⟨(i:Int),sa⟩:SymT):Nat):Int))=true:=by simp
   generalize ys.idxOf (⟨(i:Int),sa⟩:SymT)=m at*
   repeat' (first|simp -implicitDefEqProofs only[go_sem,e0]|apply ai__<;>intro hb|(refine aw_ _ (wt_ (i:=93) rfl rfl) (cp47 hidx (by simp [v10,flat,flat.go,viewBs,viewB,viewK,viewK.go,hget,t25,St.thaw1,thaw,thaw.go,t38,t37,t36,evs,St.ev,eget]) (FitL.refl _) rfl ?_))|fail)
   exact h _ ⟨_,_,Weak.refl _,rfl,.refl _,subH.at ⟨rfl,rfl,rfl,rfl,trivial⟩⟩
  .rw[zK hin] at hidx;have e:putY ys ⟨(i:Int),sa⟩=ys++[⟨(i:Int),sa⟩]:=zK hin;have e2:ys.idxOf (⟨(i:Int),sa⟩:SymT)=ys.length:=List.idxOf_eq_length hin;rw[e,e2] at h;have e0:decide ((0:Int)<=-1)=false:=rfl;have e3:((ys.length:Int)==64)=false:=by simp;omega
   simp only[zE,yJ,yU,zL,yH,xY,yS,symV,a10] at h
   repeat' (first|simp -implicitDefEqProofs only[go_sem,e0,e3,zQ,hb1,hwl,t25,zN]|apply ai__<;>intro hb|(refine aw_ _ (wt_ (i:=93) rfl rfl) (cp47 hidx (by simp [v10,flat,flat.go,viewBs,viewB,viewK,viewK.go,hget,t25,St.thaw1,thaw,thaw.go,t38,t37,t36,evs,St.ev,eget]) (FitL.refl _) rfl ?_))|fail)
   exact h _ ⟨_,_,Weak.refl _,rfl,.refl _,subH.at ⟨rfl,rfl,rfl,rfl,trivial⟩⟩
def nsK (q:QeaT) (A:Nat) (N0:List NodeT) (j:Nat):List NodeT:=N0++((q.nodes.drop A).take j).map (m10 ((A:Int) - N0.length))
def ksK (q:QeaT) (A j:Nat):List Int:=(List.range j).map λi=>(((e11 q)[A+i]?).getD e0).kind
theorem ka11 {q:QeaT} {A j i:Nat} {e:ExT} (h:i<j) (he:(e11 q)[A+i]?=some e):(ksK q A j)[i]?=some e.kind:=by simp [ksK,h,he]
theorem ks15 {q:QeaT} {A j:Nat} {e:ExT} (he:(e11 q)[A+j]?=some e):ksK q A (j+1)=ksK q A j++[e.kind]:=by simp [ksK,tF,he]
theorem kl11 (q:QeaT) (A j:Nat):(ksK q A j).length=j:=by simp [ksK]
theorem ns36 {q:QeaT} {A j:Nat} {N0:List NodeT} {x:NodeT} (hx:q.nodes[A+j]?=some x):nsK q A N0 (j+1)=nsK q A N0 j++[m10 ((A:Int) - N0.length) x]:=by
 have:(q.nodes.drop A)[j]?=some x:=by rw[xX];exact hx
 unfold nsK;rw[t39 this,zE,xL];rfl
theorem nl12 {q:QeaT} {A j:Nat} {N0:List NodeT} (h:A+j<=q.nodes.length):(nsK q A N0 j).length=N0.length+j:=by simp [nsK];omega
def bodE (L:List TExT) (s:SymT) (b a:Int) (ks:AV):AV:=.agg [t30 L,iv s.event,a10 s.args,iv b,iv a,ks]
structure NdAt (q:QeaT) (A:Nat) (s:SymT) (j:Nat) (x:NodeT) (e:ExT):Prop where
 hx:q.nodes[A+j]?=some x
 he:(e11 q)[A+j]?=some e
 hk:e.kind≠0
 hf:(A:Int)<=e.from_
 hs:x.op=2->s13 s x.a=true
theorem np_ (q:QeaT) (hv:q.vars.Nodup) (hq:q.nodes.length<=1000) (sl:List StateT) (st:Int) (c6 c7 c8:AV) (A n0:Nat) (hn0:n0<=1000) (s:SymT) (hsl:s.args.length<=1000) (L:List TExT) (at_:Int) (j:Nat) (x:NodeT) (e:ExT) (h:NdAt q A s j x e):
  PQ G 259 [.eptr (ckC q sl st c6 c7 c8) 0,.eptr (bodE L s n0 at_ (.seq 1 ((ksK q A j).map iv))) 0,tExV (n14 q A x)] (.tup [n11 (m10 ((A:Int) - n0) x),iv e.kind,.nili]):=by
 obtain⟨hx,he,hk,hf,hs⟩:=h;have hlt:=ex_lt he;refine pccn_ λΦ h=>?_;unfold cccn_;cases nd_ok hx he hk with
 | leaf hl=>
  obtain⟨op,a,b,v⟩:=x;unfold l_ at hl;simp only at hl hs;split at hl
  .rename_i h1;subst h1;split at hl
   .rename_i h2;obtain⟨rfl,rfl,_⟩:=h2;cases hl;rw[show n14 q A ⟨1,0,0,v⟩=⟨1,0,0,[],v⟩ from rfl];rw[show m10 ((A:Int) - n0) ⟨1,0,0,v⟩=⟨1,0,0,v⟩ from rfl] at h
    repeat' (first|simp -implicitDefEqProofs only[go_sem,tExV,bodE]|apply ai__<;>intro hb)
    exact hq_ h
   .cases hl
  .split at hl
   .rename_i h1;subst h1;split at hl
    .rename_i h2;obtain⟨rfl,rfl⟩:=h2;cases hy:at? q.quants a with
     | none=>rw[hy] at hl;cases hl
     | some y=>
      rw[hy] at hl;cases hl;rw[show n14 q A ⟨2,a,0,v0⟩=⟨17,0,0,y.name,v0⟩ by simp [n14,hy]];rw[show m10 ((A:Int) - n0) ⟨2,a,0,v0⟩=⟨2,a,0,v0⟩ from rfl] at h;obtain⟨i,rfl,hi⟩:=at?_some hy;have hm:=qf_ hv hi;have hkd:=kqp_ (G:=G) q sl st c6 c7 c8 hi 0 v0;have hst:=cSp_ (G:=G) s (by omega) (i:Int);rw[hs rfl] at hst;simp only[ckC,n11,symV,a10] at hkd hm hst
      repeat' (first|simp -implicitDefEqProofs only[go_sem,ckC,tExV,hm,bodE,a10]|apply ai__<;>intro hb|refine ac_ hst rfl rfl ?_|refine ac_ hkd rfl rfl ?_|fail)
      exact hq_ h
    .cases hl
   .split at hl
    .rename_i h1;subst h1;split at hl
     .rename_i h2;obtain⟨rfl,rfl⟩:=h2;cases hy:at? q.frees a with
      | none=>rw[hy] at hl;cases hl
      | some y=>
       rw[hy] at hl;cases hl;rw[show n14 q A ⟨3,a,0,v0⟩=⟨17,0,0,y.name,v0⟩ by simp [n14,hy]];rw[show m10 ((A:Int) - n0) ⟨3,a,0,v0⟩=⟨3,a,0,v0⟩ from rfl] at h;obtain⟨i,rfl,hi⟩:=at?_some hy;have hm:=ff10 hv hi;have hkd:=kfp_ (G:=G) q sl st c6 c7 c8 hi 0 v0;simp only[ckC,n11] at hkd hm
       repeat' (first|simp -implicitDefEqProofs only[go_sem,ckC,tExV,hm,bodE,a10]|apply ai__<;>intro hb|refine ac_ hkd rfl rfl ?_|fail)
       exact hq_ h
     .cases hl
    .cases hl
 | one h1 hv0 ha hb b hj hbx hbk hee=>
  have fb:=ex_fr hbx hbk;subst hee;simp only at hf hk;obtain⟨op,xa,xb,v⟩:=x;simp only at h1 hv0 ha hb hk;subst hv0 hb;obtain⟨i,rfl⟩:∃i,j=i+1:=⟨j - 1,by omega⟩;have hbx:(e11 q)[A+i]?=some b:=by rw[show A+i=A+(i+1) - 1 by omega];exact hbx
  have hkb:=ka11 (show i<i+1 by omega) hbx;have hwa:n14 q A ⟨op,xa,0,v0⟩=⟨op,(i:Int),0,[],v0⟩:=by unfold n14;simp only;rw[zK (by omega),zK (by omega),zK (by omega),zY h1];congr 1;omega
  have hwm:m10 ((A:Int) - n0) ⟨op,xa,0,v0⟩=⟨op,(i:Int)+n0,0,v0⟩:=by unfold m10;simp only;rw[zY (by omega),zK (by omega)];congr 1;omega
  rw[hwa];rw[hwm] at h;have ht:=vTp_ (G:=G) op b.kind b.kind;have w1:IntKind.i64.wrap ((i:Int)+n0)=(i:Int)+n0:=wi_ (by omega) (by omega);have z1:(op==1)=false:=by simp;omega
  have z2:(op==17)=false:=by simp;omega
  have z3:decide (5<op)=false:=by simp;omega
  have z4:(o11 op b.kind b.kind==0)=false:=by simpa using hk
  generalize ksK q A (i+1)=K at*;generalize o11 op b.kind b.kind=kd at*
  repeat' (first|simp -implicitDefEqProofs only[go_sem,tExV,bodE,z1,z2,z3,z4,w1,am_ hkb]|apply ai__<;>intro hb|refine ac_ ht rfl rfl ?_|fail)
  exact hq_ h
 | two h1 hv0 hb b hj hbx hbk a k hak hkb hax hka hee=>
  have fb:=ex_fr hbx hbk;have fa:=ex_fr hax hka;subst hee;simp only at hf hk;obtain⟨op,xa,xb,v⟩:=x;simp only at h1 hv0 hak hb hk;obtain⟨i,rfl⟩:∃i,j=i+1:=⟨j - 1,by omega⟩;obtain⟨m,rfl⟩:∃m,k=A+m:=⟨k - A,by omega⟩;have hbx:(e11 q)[A+i]?=some b:=by rw[show A+i=A+(i+1) - 1 by omega];exact hbx
  have hkb':=ka11 (show i<i+1 by omega) hbx;have hka':=ka11 (j:=i+1) (show m<i+1 by omega) hax;have hb:xb=((A+i:Nat):Int):=by omega
  subst hv0 hak hb;have hwa:n14 q A ⟨op,((A+m:Nat):Int),((A+i:Nat):Int),v0⟩=⟨op,(m:Int),(i:Int),[],v0⟩:=by unfold n14;simp only;rw[zK (by omega),zK (by omega),zK (by omega),zK (by omega)];congr 1 <;> omega
  have hwm:m10 ((A:Int) - n0) ⟨op,((A+m:Nat):Int),((A+i:Nat):Int),v0⟩=⟨op,(m:Int)+n0,(i:Int)+n0,v0⟩:=by unfold m10;simp only;rw[zY (by omega),zY (by omega)];congr 1 <;> omega
  rw[hwa];rw[hwm] at h;have ht:=vTp_ (G:=G) op a.kind b.kind;have w1:IntKind.i64.wrap ((i:Int)+n0)=(i:Int)+n0:=wi_ (by omega) (by omega);have w2:IntKind.i64.wrap ((m:Int)+n0)=(m:Int)+n0:=wi_ (by omega) (by omega);have z1:(op==1)=false:=by simp;omega
  have z2:(op==17)=false:=by simp;omega
  have z3:decide (5<op)=true:=by simp;omega
  have z4:(o11 op a.kind b.kind==0)=false:=by simpa using hk
  generalize ksK q A (i+1)=K at*;generalize o11 op a.kind b.kind=kd at*
  repeat' (first|simp -implicitDefEqProofs only[go_sem,tExV,bodE,z1,z2,z3,z4,w1,w2,am_ hkb',am_ hka']|apply ai__<;>intro hb|refine ac_ ht rfl rfl ?_|fail)
  exact hq_ h
def HBd (q:QeaT) (sl:List StateT) (st:Int) (ys:List SymT) (ts:List TransT) (A:Nat) (N0:List NodeT) (s:SymT) (L:List TExT) (j:Nat):List (Nat×Box):=
 [ckB q sl st ys.length (N0.length+j) ts.length,(1006,⟨true,106,2,ys.map symV⟩),(1007,⟨true,112,7,(nsK q A N0 j).map n11⟩),(1008,⟨true,95,5,ts.map t11⟩),
  (1012,⟨false,316,6,[bodE L s N0.length j (.arr 1013 0 j)]⟩),(1013,⟨true,3,1,(ksK q A j).map iv⟩)]
theorem eh_ (q:QeaT) (hv:q.vars.Nodup) (hq:q.nodes.length<=1000) (sl:List StateT) (st:Int) (ys:List SymT) (ts:List TransT) (A:Nat) (N0:List NodeT) (hn0:N0.length<=1000) (s:SymT) (hsl:s.args.length<=1000) (L:List TExT) (r:Nat) (kd:Int) (j0:Nat) (hj0:j0<=r+1) (hr:A+r<q.nodes.length)
  (hok:∀i,i<=r->∃x e,NdAt q A s i x e∧L[i]?=some (n14 q A x)) (hkd:∃e,(e11 q)[A+r]?=some e∧e.kind=kd):
  HQ G 211 [.ref 1001 0 0,.ref 1012 0 0,iv (r:Int),iv kd] (HBd q sl st ys ts A N0 s L j0) .nili (HBd q sl st ys ts A N0 s L (r+1)):=by
 have hnode:=λi x e (h:NdAt q A s i x e)=>np_ (G:=G) q hv hq sl st (.seq 2 (ys.map symV)) (.seq 7 ((nsK q A N0 i).map n11)) (.seq 5 (ts.map t11)) A N0.length hn0 s hsl L i i x e h;refine hcce_ λΦ h=>?_;unfold ccce_;unfold HBd ckB at*;simp -implicitDefEqProofs only[go_sem]
 refine al_ (λn st'=>∃j:Nat,j+n=r+1∧st'=⟨105,[(0,.ref 1001 0 0),(1,.ref 1012 0 0),(2,iv (r:Int)),(3,iv kd)],[(1001,⟨false,154,12,[ckC q sl st (.arr 1006 0 ys.length) (.arr 1007 0 (N0.length+j)) (.arr 1008 0 ts.length)]⟩),(1006,⟨true,106,2,ys.map symV⟩),(1007,⟨true,112,7,(nsK q A N0 j).map n11⟩),(1008,⟨true,95,5,ts.map t11⟩),
  (1012,⟨false,316,6,[bodE L s N0.length j (.arr 1013 0 j)]⟩),(1013,⟨true,3,1,(ksK q A j).map iv⟩)]⟩) (r+1 - j0) ⟨j0,by omega,rfl⟩ ?_
 rintro I hI n st' ⟨j,hj,rfl⟩;simp -implicitDefEqProofs only[go_sem,bodE];refine⟨λhlt=>?_,λhge=>?_⟩
 .have hlt':j<=r:=by omega
  obtain⟨x,e,hnd,hLj⟩:=hok j hlt';have hc:=hnode j x e hnd;have hw:=ws_ (show j<r+1 by omega) (by omega);have hnl:=nl12 (q:=q) (A:=A) (j:=j) (N0:=N0) (by omega);have hnx:=hI (n - 1) _ ⟨j+1,by omega,rfl⟩;rw[ns36 hnd.hx,ks15 hnd.he] at hnx;have hkl:=kl11 q A j;have hb1:(N0.length+j+1)*64<=140737488355328:=by omega
  have hb2:(j+1)*8<=140737488355328:=by omega
  generalize n14 q A x=y at*;generalize m10 ((A:Int) - N0.length) x=z at*;generalize nsK q A N0 j=NS at*;generalize ksK q A j=KS at*;generalize e.kind=ek at*;obtain⟨y1,y2,y3,y4,y5⟩:=y;obtain⟨z1,z2,z3,z4⟩:=z;have tk1:(NS.map n11).take (N0.length+j)=NS.map n11:=by rw[<-hnl];exact t25 _ _
  have tk2:(KS.map iv).take j=KS.map iv:=by rw[<-hkl];exact t25 _ _
  unfold ckC bodE at*;simp only[tExV,n11,a10,t30] at hc;simp only[zE,yJ,yU,n11,t30,a10,<-vK] at hnx;generalize e13 (dE q)=E1 at*;generalize e13 (vE q)=E2 at*;generalize e13 (sE sl)=E3 at*;clear hI h hok hnode hnd
  repeat' (first|simp -implicitDefEqProofs only[go_sem,t30,a10,am_ hLj,tExV,n11,hw,hnl,hkl,hb1,hb2,zQ]|apply ai__<;>intro hb|(refine ac_ hc (by simp [v10,flat,flat.go,viewBs,viewB,viewK,viewK.go,hget,t25,tk1,tk2,hnl,hkl]) rfl ?_)|fail)
  all_goals refine aa12 (n - 1) (by omega) _ ?_ hnx
  all_goals refine (wh_ λi=>?_)
  all_goals by_cases e0:1001=i
  .subst e0;rfl
  all_goals by_cases e1:1006=i
  .subst e1;rfl
  all_goals by_cases e2:1007=i
  .subst e2;rfl
  all_goals by_cases e3:1008=i
  .subst e3;rfl
  all_goals by_cases e4:1012=i
  .subst e4;rfl
  all_goals by_cases e5:1013=i
  .subst e5;rfl
  all_goals simp only[hget,zK e0,zK e1,zK e2,zK e3,zK e4,zK e5]
 .have:j=r+1:=by omega
  subst this;obtain⟨e,he,rfl⟩:=hkd;have hkr:((ksK q A (r+1)).map iv)[r]?=some (iv e.kind):=by rw[zS,ka11 (show r<r+1 by omega) he];rfl
  have hne:(e.kind != e.kind)=false:=by simp
  repeat' (first|(simp -implicitDefEqProofs only[go_sem,bodE,ckC,aa10 (show r<r+1 by omega),hkr,hne])|apply ai__<;>intro hb)
  exact h _ ⟨_,_,Weak.refl _,rfl,.refl _,subH.at ⟨rfl,rfl,rfl,rfl,rfl,rfl,trivial⟩⟩
theorem eb_ {q q':QeaT} (hq:q'.quants=q.quants) (hf:q'.frees=q.frees) {s d m:Nat} (hm:s+m<=q'.nodes.length) (hm2:s+d+m<=q.nodes.length) (hn:∀j,j<m->q'.nodes[s+j]? =(q.nodes[s+d+j]?).map (m10 d)) (k:Nat) (hk:k<m) (e:ExT) (he:(e11 q)[s+d+k]?=some e) (h1:e.kind≠0) (h2:((s+d:Nat):Int)<=e.from_):(e11 q')[s+k]?=some (m14 d e):=by
 obtain⟨x,hx,_⟩:=as10 (l:=q.nodes) (i:=s+d+k) (by omega);have e1:=ea_ hx (n:=q.nodes.length) (by omega) (zN _);have e2:(exL q q.nodes.length)[s+d+k]?=some e:=he;rw[e1] at e2;cases e2;have:=em_ hq hf hm hm2 hn k hk x hx h1 h2;have hx':q'.nodes[s+k]?=some (m10 d x):=by rw[hn k hk,hx];rfl
 have e3:=ea_ hx' (n:=q'.nodes.length) (by omega) (zN _);rw[this] at e3;exact e3
structure Blk (q q':QeaT) (s d m:Nat):Prop where
 qu:q'.quants=q.quants
 fr:q'.frees=q.frees
 st:q'.symbols=q.symbols
 b1:s+m<=q'.nodes.length
 b2:s+d+m<=q.nodes.length
 at_:∀j,j<m->q'.nodes[s+j]? =(q.nodes[s+d+j]?).map (m10 d)
theorem wm_ {q q':QeaT} {s d m:Nat} (hb:Blk q q' s d m) {a r k:Int} (ha:((s+d:Nat):Int)<=a) (hr:r<((s+d+m:Nat):Int)) (h:w_ (e11 q) a r k=true):w_ (e11 q') (a - d) (r - d) k=true:=by
 unfold w_ at h ⊢;cases he:at? (e11 q) r with
 | none=>rw[he] at h;cases h
 | some e=>
  rw[he] at h;simp only[zJ,zW,zB,yX] at h;obtain⟨h1,h2,h3,h4,h5⟩:=h;obtain⟨i,rfl,hi⟩:=at?_some he;obtain⟨j,rfl⟩:∃j,i=s+d+j:=⟨i - (s+d),by omega⟩;have hk:e.kind≠0:=by rw[h2];intro hh;rw[hh] at h3;simp at h3
  have:=eb_ hb.qu hb.fr hb.b1 hb.b2 hb.at_ j (by omega) e hi hk (by omega);have e1:((s+d+j:Nat):Int) - (d:Int)=((s+j:Nat):Int):=by omega
  have e2:at? (e11 q') (((s+d+j:Nat):Int) - (d:Int))=some (m14 d e):=by rw[e1];unfold at?;rw[zY (by omega)];exact this
  rw[e2];simp only[m14,zJ,zW,zB,yX];exact⟨by omega,h2,h3,by omega,wQ h5⟩
def movS (d:Int) (s:SetT):SetT:=⟨s.free,s.expr - d⟩
theorem sm12 {q q':QeaT} {s d m:Nat} (hb:Blk q q' s d m) (all:List SetT):∀(sets:List SetT) (i:Nat) {a:Int},((s+d:Nat):Int)<=a->(allS (s12 q (e11 q) all) sets i a).1=true->(∀x∈sets,x.expr<((s+d+m:Nat):Int))->
  allS (s12 q' (e11 q') (all.map (movS d))) (sets.map (movS d)) i (a - d)=(true,(allS (s12 q (e11 q) all) sets i a).2 - d)
 | [],i,a,_,_,_ =>rfl
 | x::r,i,a,ha,h,hx=>by
  rw[yJ];unfold allS at h ⊢;split at h
  .rename_i hs;rw[zY hs];have hst:(s12 q (e11 q) all a i x).2=x.expr+1∧s12 q' (e11 q') (all.map (movS d)) (a - d) i (movS d x)=(true,x.expr+1 - d)∧a<=x.expr:=by
    unfold s12 at hs ⊢;rw[hb.fr];have mf:(movS d x).free=x.free:=rfl;have me:(movS d x).expr=x.expr - d:=rfl;rw[mf,me];cases hf:at? q.frees x.free with
    | none=>rw[hf] at hs;cases hs
    | some f=>
     rw[hf] at hs;simp only at hs ⊢;have hany:(((all.map (movS d)).take i).any λy=>y.free==x.free)=((all.take i).any λy=>y.free==x.free):=by rw[<-List.map_take,List.any_map];rfl
     rw[hany];split at hs
     .cases hs
     .rename_i hn;rw[zK hn,zK hn];split at hs
      .rename_i hw;have hw2:=wm_ hb ha (hx x zD) hw;rw[zY hw,zY hw2];exact⟨rfl,by congr 1;omega,(wi10 hw).1⟩
      .cases hs
   rw[hst.1] at h ⊢;rw[hst.2.1];simp only[xW];exact sm12 hb all r (i+1) (by have:=hst.2.2;omega) h λy hy=>hx y (zR _ hy)
  .cases h
theorem sl15 {q:QeaT} {l:List ExT} {all:List SetT}:∀(sets:List SetT) (i:Nat) {a:Int},0<=a->a<=l.length->(allS (s12 q l all) sets i a).1=true->∀x∈sets,x.expr<(allS (s12 q l all) sets i a).2
 | [],_,_,_,_,_ =>λx hx=>by cases hx
 | s::r,i,a,h0,h1,h=>by
  have hall:=se_ (s::r) i h0 h1 h;unfold allS at h ⊢;split at h
  .rename_i hs;rw[zY hs];have hst:(s12 q l all a i s).2=s.expr+1∧a<=s.expr∧s.expr<l.length:=by
    unfold s12 at hs ⊢;cases hf:at? q.frees s.free with
    | none=>rw[hf] at hs;cases hs
    | some f=>
     rw[hf] at hs;simp only at hs ⊢;split at hs
     .cases hs
     .rename_i hn;rw[zK hn];split at hs
      .rename_i hw;rw[zY hw];have:=wi10 hw;exact⟨rfl,this.1,this.2.2⟩
      .cases hs
   rw[hst.1] at h ⊢;have g:=se_ r (i+1) (a:=s.expr+1) (by omega) (by omega) h;intro x hx;rcases yV.1 hx with rfl | hx
   .rw[g.1];omega
   .exact sl15 r (i+1) (by omega) (by omega) h x hx
  .cases h
theorem mm11 {q q':QeaT} {s d m:Nat} (hb:Blk q q' s d m):mid q'.nodes (s:Int) ((s+m:Nat):Int)=(mid q.nodes ((s+d:Nat):Int) ((s+d+m:Nat):Int)).map (m10 d):=by
 unfold mid;refine vM λi=>?_;have e1:((s+m:Nat):Int).toNat - (s:Int).toNat=m:=by omega
 have e2:((s+d+m:Nat):Int).toNat - ((s+d:Nat):Int).toNat=m:=by omega
 rw[e1,e2,zS,yN,yN];split
 .rename_i h;rw[xX,xX];exact hb.at_ i h
 .rfl
theorem tm12 {q q':QeaT} {s d m:Nat} (hb:Blk q q' s d m) {t:TransT} {f to:Int} (hf:0<=f∧f<q'.states.length) (hto:0<=to∧to<q'.states.length)
  (h:t15 q t ((s+d:Nat):Int)=(((s+d+m:Nat):Int),true)):
  t15 q' ⟨f,t.symbol,to,if t.guard= -1 then -1 else t.guard - d,t.sets.map (movS d)⟩ (s:Int)=(((s+m:Nat):Int),true):=by
 have hb2:=hb.b2;have hk:=to10 (by omega) (by omega) h;unfold t15 at h ⊢;simp only;split at h
 .exact absurd (Prod.mk.inj h).2 (by decide)
 .rename_i hr;have hr':¬(inR f q'.states.length&&(inR to q'.states.length&&inR t.symbol q'.symbols.length))=false:=by
   simp only[inR,hb.st,vB,zJ,zW];exact⟨hf,hto,hk.hs⟩
  rw[zK hr'];have rest:∀a1:Int,((s+d:Nat):Int)<=a1->a1<=q.nodes.length->r16 q t ((s+d:Nat):Int) a1=(((s+d+m:Nat):Int),true)->r16 q' ⟨f,t.symbol,to,if t.guard= -1 then -1 else t.guard - d,t.sets.map (movS d)⟩ (s:Int) (a1 - d)=(((s+m:Nat):Int),true):=by
   intro a1 h2 h3 h4;unfold r16 at h4 ⊢;simp only at h4 ⊢;split at h4
   .rename_i hs;simp only[vG] at h4;have hlt:=sl15 t.sets 0 (q:=q) (l:=e11 q) (all:=t.sets) (a:=a1) (by omega) (by rw[el10];exact h3) hs;rw[h4.1] at hlt;have e:=sm12 hb t.sets t.sets 0 h2 hs hlt;rw[e,h4.1];simp only[xW,vG];refine⟨by omega,?_⟩;have e3:(((s+d+m:Nat):Int) - (d:Int))=((s+m:Nat):Int):=by omega
    rw[e3,mm11 hb,hb.st];rw[h4.1] at h4;have h5:=h4.2;cases hsy:at? q.symbols t.symbol with
    | none=>rw[hsy] at h5;cases h5
    | some y=>
     rw[hsy] at h5;simp only at h5 ⊢;rw[List.all_map];rw[<-h5];congr 1;funext x;show (!(x.op==2)||n13 y (m10 d x).a)=_;by_cases hx:x.op=2
     .have:(m10 d x).a=x.a:=by unfold m10;simp only;rw[zK (by omega)]
      rw[this]
     .have hx2:(x.op==2)=false:=by simpa using hx
      rw[hx2];rfl
   .exact absurd (Prod.mk.inj h4).2 (by decide)
  by_cases hg:t.guard= -1
  .rw[zY hg] at h;rw[zY (by rw[zY hg])];have:=rest ((s+d:Nat):Int) (xI _) (by omega) h;have e:(((s+d:Nat):Int) - (d:Int))=(s:Int):=by omega
   rw[e] at this;exact this
  .rw[zK hg] at h;rw[zK (by rw[zK hg];rcases hk.hg with h9 | h9 <;> omega)];split at h
   .rename_i hw;have wi:=wi10 hw;rw[el10] at wi;have hlt:t.guard<((s+d+m:Nat):Int):=by
     have:=hk.he;have h7:t.guard+1<=endS t.sets (t.guard+1):=by
      unfold r16 at h;simp only at h;split at h
      .rename_i hs;exact (se_ t.sets 0 (by omega) (by rw[el10];omega) hs).2.1
      .exact absurd (Prod.mk.inj h).2 (by decide)
     unfold endT at this;rw[zK hg] at this;omega
    have hw2:=wm_ hb (xI _) hlt hw;have e:(((s+d:Nat):Int) - (d:Int))=(s:Int):=by omega
    rw[e] at hw2;rw[zK hg,zY hw2];have:=rest (t.guard+1) (by omega) (by omega) h;have e2:t.guard+1 - (d:Int)=t.guard - d+1:=by omega
    rw[e2,zK hg] at this;exact this
   .exact absurd (Prod.mk.inj h).2 (by decide)
theorem s111 (x:SetT) (v:NodeT):PQ G 260 [setV x,.eptr (n11 v) 0] (.bool (x.free==v.a)):=by
 refine pc11 λΦ h=>?_;unfold cc17;obtain⟨x1,x2⟩:=x
 repeat' (first|simp -implicitDefEqProofs only[go_sem,setV,n11]|apply ai__<;>intro hb)
 exact hq_ h
theorem sh11 (q:QeaT) (hv:q.vars.Nodup) (hq:q.nodes.length<=1000) (sl:List StateT) (st:Int) (ys:List SymT) (ts:List TransT) (A:Nat) (N0:List NodeT) (hn0:N0.length<=1000) (s:SymT) (hsl:s.args.length<=1000) (L:List TExT) (M:Nat) (_hAM:A+M<=q.nodes.length)
  (hok:∀i,i<M->∃x e,NdAt q A s i x e∧L[i]?=some (n14 q A x)) (l:List SetT) (hll:l.length<=1000) (j0 j1:Nat) (hs:SetsOkQ q [] ((A+j0:Nat):Int) l) (hj1:((A+j1:Nat):Int)=endS l ((A+j0:Nat):Int)) (hM:j1<=M):
  HQ G 212 [.ref 1001 0 0,.ref 1012 0 0,t20 (l.map (setT q (A:Int)))] (HBd q sl st ys ts A N0 s L j0) (.tup [s18 (l.map (movS ((A:Int) - N0.length))),.nili]) (HBd q sl st ys ts A N0 s L j1):=by
 have hexpr:=λr kd j0 h1 h2 h3 h4=>eh_ (G:=G) q hv hq sl st ys ts A N0 hn0 s hsl L r kd j0 h1 h2 h3 h4;have hend:∀(l:List SetT) (o:List Int) (a:Int),0<=a->a<=q.nodes.length->SetsOkQ q o a l->a<=endS l a:=λl o a h0 h1 h=>(sb_ l o h0 h1 h).h1;refine hc16 λΦ h=>?_;unfold cc19;unfold HBd ckB ckC bodE at*;simp only[t30,a10] at*;simp -implicitDefEqProofs only[go_sem,t20,zQ]
 refine al_ (λn st'=>∃(i j:Nat),i+n=l.length∧st'=⟨73,[(0,.ref 1001 0 0),(1,.ref 1012 0 0),(8,.arr 8 0 i),(14,.seq 4 ((l.map (setT q (A:Int))).map t43)),(15,iv l.length),(16,iv i)],
  [(6,⟨true,168,2,[]⟩),(8,⟨true,168,2,((l.take i).map (movS ((A:Int) - N0.length))).map setV⟩),
   (1001,⟨false,154,12,[.agg [.str q.name,.seq 2 (q.decls.map d12),.seq 3 (q.quants.map q11),.seq 5 (q.frees.map f10),.seq 3 (sl.map s14),iv st,.arr 1006 0 ys.length,.arr 1007 0 (N0.length+j),.arr 1008 0 ts.length,.mapc (e13 (dE q)),.mapc (e13 (vE q)),.mapc (e13 (sE sl))]]⟩),(1006,⟨true,106,2,ys.map symV⟩),(1007,⟨true,112,7,(nsK q A N0 j).map n11⟩),(1008,⟨true,95,5,ts.map t11⟩),
   (1012,⟨false,316,6,[.agg [.seq 10 (L.map tExV),iv s.event,.seq 6 (s.args.map argV),iv N0.length,iv j,.arr 1013 0 j]]⟩),(1013,⟨true,3,1,(ksK q A j).map iv⟩)]⟩∧
  SetsOkQ q ((l.take i).map (·.free)) ((A+j:Nat):Int) (l.drop i)∧endS (l.drop i) ((A+j:Nat):Int)=((A+j1:Nat):Int)) l.length ⟨0,j0,by simp,rfl,hs,hj1.symm⟩ ?_
 rintro I hI n st' ⟨i,j,hi,rfl,hS,hE⟩;simp -implicitDefEqProofs only[go_sem];refine⟨λhlt=>?_,λhge=>?_⟩
 .have hlt':i<l.length:=by omega
  obtain⟨x,hx,hxm⟩:=as10 hlt';have hw:=ws_ hlt';rw[da10 hx] at hS hE;cases hS with
  | cons f hf hn hwh hS=>
   obtain⟨k,hk,hfk⟩:=at?_some hf;obtain⟨ri,e,hri,hre,hek,hek0,hef,haj,hed⟩:=we_ hwh;have hrl:=ex_lt hre;rw[ec11] at hE;obtain⟨r,rfl⟩:∃r,ri=A+r:=⟨ri - A,by omega⟩;have hle:=hend _ _ _ (by omega) (by rw[hri];omega) hS;have hrM:r<M:=by omega
   have hc:=hexpr r f.init.kind j (by omega) (by omega) (λi hi=>hok i (by omega)) ⟨e,hre,hek⟩;have hm:=ff10 hv hfk;have hkd:=kfp_ (G:=G) q sl st (.seq 2 (ys.map symV)) (.seq 7 ((nsK q A N0 j).map n11)) (.seq 5 (ts.map t11)) hfk 0 v0;have hct:=sC11 (G:=G) 260 [.eptr (n11 ⟨3,(k:Int),0,v0⟩) 0] (by kernel_rfl) of_ (λy=>y.free==(k:Int)) ((l.take i).map (movS ((A:Int) - N0.length))) (λy _ =>s111 y ⟨3,(k:Int),0,v0⟩) (by simp;omega);have hany:(((l.take i).map (movS ((A:Int) - N0.length))).any λy=>y.free==(k:Int))=false:=by
    rw[wU];intro y hy e;obtain⟨z,hz,rfl⟩:=zI.1 hy;have:z.free=(k:Int):=by simpa [movS] using e
    exact hn (zI.2 ⟨z,hz,by rw[this,hk]⟩)
   rw[hany] at hct;have e1:x.expr+1=((A+(r+1):Nat):Int):=by omega
   rw[e1] at hS hE;have hnx:=hI (n - 1) _ ⟨i+1,r+1,by omega,rfl,by rw[t39 hx,zE];exact hS,hE⟩;rw[t39 hx,zE,zE] at hnx;have hmv:movS ((A:Int) - N0.length) x=⟨(k:Int),(r:Int)+N0.length⟩:=by unfold movS;rw[hk];congr 1;omega
   simp only[yJ,yU,hmv,setV] at hnx;have hxt:(l.map (setT q (A:Int)))[i]?=some ⟨f.name,(r:Int)⟩:=by rw[zS,hx,yF];unfold setT f17;rw[hf];congr 2;omega
   have hPl:((l.take i).map (movS ((A:Int) - N0.length))).length=i:=by simp;omega
   have hnl:=nl12 (q:=q) (A:=A) (j:=j) (N0:=N0) (by omega);have hkl:=kl11 q A j;have w1:IntKind.i64.wrap ((r:Int)+N0.length)=(r:Int)+N0.length:=wi_ (by omega) (by omega);have hb1:(i+1)*16<=140737488355328:=by omega
   have z3:((3:Int) != 3)=false:=rfl;generalize (l.take i).map (movS ((A:Int) - N0.length))=P at*;generalize l.map (setT q (A:Int))=LT at*;generalize nsK q A N0 j=NS at*;generalize ksK q A j=KS at*;generalize nsK q A N0 (r+1)=NS' at*;generalize ksK q A (r+1)=KS' at*;have tk1:(NS.map n11).take (N0.length+j)=NS.map n11:=by rw[<-hnl];exact t25 _ _
   have tk2:(KS.map iv).take j=KS.map iv:=by rw[<-hkl];exact t25 _ _
   have tkP:(P.map setV).take i=P.map setV:=by rw[<-hPl];exact t25 _ _
   simp only[n11] at hct hkd hm;simp only[ckC,n11] at hkd;generalize e13 (dE q)=E1 at*;generalize e13 (vE q)=E2 at*;generalize e13 (sE sl)=E3 at*;clear hI h hok hexpr hend hS hE
   repeat' (first|simp -implicitDefEqProofs only[go_sem,am_ hxt,t43,hm,n11,hw,w1,hb1,hPl,z3,zQ]|apply ai__<;>intro hb|(refine ac_ hct (by simp [v10,flat,flat.go,viewBs,viewB,viewK,viewK.go,hget,t25,tk1,tk2,tkP,hnl,hkl,hPl,n11]) rfl ?_)|(refine ac_ hkd (by simp [v10,flat,flat.go,viewBs,viewB,viewK,viewK.go,hget,t25,tk1,tk2,tkP,hnl,hkl,hPl,n11]) rfl ?_)|(refine ach_ [(1001,1001),(1006,1006),(1007,1007),(1008,1008),(1012,1012),(1013,1013)] hc rfl ⟨⟨_,_,rfl,rfl,rfl⟩,⟨_,_,rfl,rfl,rfl⟩,⟨_,_,rfl,rfl,rfl⟩,⟨_,_,rfl,rfl,rfl⟩,⟨_,_,rfl,rfl,rfl⟩,⟨_,_,rfl,rfl,rfl⟩,trivial⟩ rfl rfl rfl ?_)|fail)
   exact ae__ hnx
 .have:i=l.length:=by omega
  subst this;rw[uO] at hE;have hj:j=j1:=by have:((A+j:Nat):Int)=((A+j1:Nat):Int):=hE;omega
  subst hj;rw[wV]
  repeat' (first|simp -implicitDefEqProofs only[go_sem]|apply ai__<;>intro hb)
  have e:(l.map (movS ((A:Int) - N0.length))).length=l.length:=by simp
  generalize l.map (movS ((A:Int) - N0.length))=P at*;refine h _ ⟨_,_,wt_ (i:=8) rfl rfl,rfl,fe_ ?_,subH.at ⟨rfl,rfl,rfl,rfl,rfl,rfl,trivial⟩⟩;simp [one,St.get,St.thaw1,hget,t38,thaw,eget,s18,<-e,t25]
theorem cin_ (w:World) (cap:Nat):Calls Tryz.prog 41 #[.slice none 0 cap] w λe w'=>e= .returned (.slice none 0 0)∧w'=w:=by have hq:=λ(w:World)=>Lib.run_eql_slice_nil (P:=Tryz.prog) w 40 3 none 0 cap 0 0 Tryz.underlying40;go_enter Tryz.func41,Tryz.ntmps41;go_wp2;go_ret;exact⟨rfl,rfl⟩
theorem cih_ (vals:List Int) (hl:vals.length<=1000000):HQ G 41 [i11 vals] [] (.arr 1000 0 vals.length) [(1000,⟨true,3,1,vals.map iv⟩)]:=by
 intro w F nm vs hg ha hB;obtain⟨hs,hr⟩:=ha;obtain⟨l⟩:=vs
 match l,hs with
 | [v],_ =>
  have h0:=hr 0 _ v rfl rfl;clear hr;have key:(∃cap,v= .slice none 0 cap∧vals=[])∨∃a n cap,v= .slice (some a) n cap:=by
   generalize hz:i11 vals=z at h0;unfold i11 at hz;cases h0 with
   | seq0 _ _ a cap=>
    cases a with
    | none=>simp only[AV.seq.injEq,List.map_eq_nil_iff,true_and] at hz;exact .inl ⟨cap,rfl,hz.2⟩
    | some a=>exact .inr ⟨a,0,cap,rfl⟩
   | seq=>exact .inr ⟨_,_,_,rfl⟩
   | _ =>cases hz
  rcases key with ⟨cap,rfl,rfl⟩ | ⟨a,n,cap,rfl⟩
  .refine (cin_ w cap).mono ?_;rintro e w' ⟨rfl,rfl⟩;refine⟨_,F,λ_ =>none,rfl,λ_ h=>h,λ_ h=>.inl h,hg.1,.arrN _ _,⟨λi b hi=>?_,λi j b c m m' _ _ h1=>(by cases h1),λi b m _ h1=>(by cases h1)⟩,λi b hi=>(by simp [hget] at hi),λk hk=>?_,⟨rfl,rfl,rfl,zN _⟩,λ_ _ _ =>rfl⟩
   .simp only[hget] at hi;split at hi
    .cases hi;exact .inl ⟨rfl,rfl,rfl,by decide⟩
    .cases hi
   .obtain⟨i,b,m,_,h1,_⟩:=hk;cases h1
  .have hq:=λ(w:World)=>Lib.run_eql_slice_nil (P:=Tryz.prog) w 40 3 (some a) n cap 0 0 Tryz.underlying40;have hL:(List.map iv vals).length=vals.length:=by simp
   have hrun:run Tryz.prog G (λ_ =>False) (.reg [⟨some 5,.mkrow 3 1 0 (.int .i64 0) [],none⟩,⟨some 6,.mov (.t 0),none⟩,⟨some 7,.app 3 1 8 (.t 5) (.t 6),none⟩,⟨some 2,.mov (.t 7),none⟩] [2])
     [.cut λst=>st=⟨8,[(2,.arr 5 0 vals.length)],[(5,⟨true,3,1,vals.map iv⟩)]⟩] ⟨8,[(0,i11 vals)],[]⟩:=by
    have hb:vals.length*8<=140737488355328:=by omega
    repeat' (first|simp -implicitDefEqProofs only[go_sem,i11,zQ,hb]|apply ai__<;>intro hb)
   have hrel:Rel G ⟨w,F,λ_ =>False,λ_ =>False,nm⟩ ⟨8,[(0,i11 vals)],[]⟩ {tmps:=#[.slice (some a) n cap,undef,.slice none 0 0,.slice (some a) n cap,.bool false,undef,undef,undef],defers:=[]} w:=by
    refine⟨nm,F,rfl,rfl,λt=>?_,λi b hi=>by simp [hget] at hi,λi j b c m m' hi=>by simp [hget] at hi,λi b m hi=>by simp [hget] at hi,λi b m hi=>by simp [hget] at hi,hg,λ_ h=>h,λ_ h=>.inl h,⟨rfl,rfl,rfl,zN _,λ_ _ _ =>rfl⟩,λ_ h=>h.elim⟩;simp only[St.get,eget];split
    .rename_i e;subst e;exact h0
    .exact .top _ _
   go_enter Tryz.func41,Tryz.ntmps41;go_upto_region 3 with (fail)
   rename_i K hK;refine wp_mono (as14 _ _ _ _ _ _ (by kernel_rfl) hrun hrel) (λe a' w' hq=>?_);cases e with
   | normal=>
    obtain⟨st',hst,nm1,F1,hx⟩:=hq;have hst:st'=⟨8,[(2,.arr 5 0 vals.length)],[(5,⟨true,3,1,vals.map iv⟩)]⟩:=hst;subst hst;refine hK _ _ (wp_ret (bodyPost_ret (results_tmp rfl _ _ _) hx.df ?_));have hv:=hx.env 2;refine⟨_,F1,λi=>if i=1000 then nm1 5 else none,rfl,hx.f0,λb hb=>?_,hx.good.1,?_,⟨λi b hi=>?_,λi j b c m m' hi hj _ _ _ =>?_,λi b m hi hm=>?_⟩,λi b hi=>(by simp [hget] at hi),λk hk=>?_,⟨hx.keep.os,hx.keep.tape,hx.keep.output,hx.keep.size⟩,λk hk _ =>hx.keep.block k hk (λh=>h)⟩
    .rcases hx.fb b hb with h | h | h
     .exact .inl h
     .exact .inr (.inl h)
     .exact h.elim
    .have hv:Rd w' F1 nm1 (.arr 5 0 vals.length) (a'.tmps.getD 2 undef):=hv;generalize a'.tmps.getD 2 undef=z at hv ⊢;generalize hk:vals.length=k at hv ⊢;cases hv with
     | arr _ _ _ _ m hi hn hp=>exact .arr _ _ _ _ m (by simp [hi]) hn hp
     | arrE _ _ _ _ _ h=>omega
     | arrN=>exact .arrN _ _
    .simp only[hget] at hi;split at hi
     .rename_i e;subst e;cases hi;rcases hx.box 5 _ rfl with ⟨h1,h2,h3,h4⟩ | ⟨m,hm,hli⟩
      .exact .inl ⟨by simp [h1],h2,h3,h4⟩
      .refine .inr ⟨m,by simp [hm],?_⟩;rcases hli with hli | hli
       .exact .inl hli
       .exact .inr hli
     .cases hi
    .simp only[hget] at hi hj;split at hi
     .split at hj
      .rename_i e1 e2;rw[<-e1,<-e2]
      .cases hj
     .cases hi
    .simp only[hget] at hi;split at hi
     .rename_i e;subst e;simp only[xW] at hm;exact hx.fr 5 _ m rfl hm
     .cases hi
    .obtain⟨i,b,m,hi,hm,rfl⟩:=hk;simp only[hget] at hi;split at hi
     .rename_i e;subst e;simp only[xW] at hm;rcases hx.own 5 _ m rfl hm with h | h
      .exact .inl h
      .exact h.elim
     .cases hi
   | exit i=>obtain⟨st',h1,_⟩:=hq;exact (h1:False).elim
   | ret=>obtain⟨st',h1,_⟩:=hq;exact (h1:False).elim
   | goto l=>exact hq.elim
   | panic ch=>exact hq.elim
   | outgrown=>exact hq.elim
theorem ct14 (w:World) (cap:Nat):Calls Tryz.prog 55 #[.slice none 0 cap] w λe w'=>e= .returned (.slice none 0 0)∧w'=w:=by have hq:=λ(w:World)=>Lib.run_eql_slice_nil (P:=Tryz.prog) w 60 78 none 0 cap 0 0 Tryz.underlying60;go_enter Tryz.func55,Tryz.ntmps55;go_wp2;go_ret;exact⟨rfl,rfl⟩
theorem cth_ (vals:List TSymT) (hl:vals.length<=1000000):HQ G 55 [t23 vals] [] (.arr 1000 0 vals.length) [(1000,⟨true,78,4,vals.map t28⟩)]:=by
 intro w F nm vs hg ha hB;obtain⟨hs,hr⟩:=ha;obtain⟨l⟩:=vs
 match l,hs with
 | [v],_ =>
  have h0:=hr 0 _ v rfl rfl;clear hr;have key:(∃cap,v= .slice none 0 cap∧vals=[])∨∃a n cap,v= .slice (some a) n cap:=by
   generalize hz:t23 vals=z at h0;unfold t23 at hz;cases h0 with
   | seq0 _ _ a cap=>
    cases a with
    | none=>simp only[AV.seq.injEq,List.map_eq_nil_iff,true_and] at hz;exact .inl ⟨cap,rfl,hz.2⟩
    | some a=>exact .inr ⟨a,0,cap,rfl⟩
   | seq=>exact .inr ⟨_,_,_,rfl⟩
   | _ =>cases hz
  rcases key with ⟨cap,rfl,rfl⟩ | ⟨a,n,cap,rfl⟩
  .refine (ct14 w cap).mono ?_;rintro e w' ⟨rfl,rfl⟩;refine⟨_,F,λ_ =>none,rfl,λ_ h=>h,λ_ h=>.inl h,hg.1,.arrN _ _,⟨λi b hi=>?_,λi j b c m m' _ _ h1=>(by cases h1),λi b m _ h1=>(by cases h1)⟩,λi b hi=>(by simp [hget] at hi),λk hk=>?_,⟨rfl,rfl,rfl,zN _⟩,λ_ _ _ =>rfl⟩
   .simp only[hget] at hi;split at hi
    .cases hi;exact .inl ⟨rfl,rfl,rfl,by decide⟩
    .cases hi
   .obtain⟨i,b,m,_,h1,_⟩:=hk;cases h1
  .have hq:=λ(w:World)=>Lib.run_eql_slice_nil (P:=Tryz.prog) w 60 78 (some a) n cap 0 0 Tryz.underlying60;have hL:(List.map t28 vals).length=vals.length:=by simp
   have hrun:run Tryz.prog G (λ_ =>False) (.reg [⟨some 5,.mkrow 78 4 0 (.agg [.str [],.nils,.int .i64 0,.int .i64 0]) [],none⟩,⟨some 6,.mov (.t 0),none⟩,⟨some 7,.app 78 4 56 (.t 5) (.t 6),none⟩,⟨some 2,.mov (.t 7),none⟩] [2])
     [.cut λst=>st=⟨8,[(2,.arr 5 0 vals.length)],[(5,⟨true,78,4,vals.map t28⟩)]⟩] ⟨8,[(0,t23 vals)],[]⟩:=by
    have hb:vals.length*56<=140737488355328:=by omega
    repeat' (first|simp -implicitDefEqProofs only[go_sem,t23,zQ,hb]|apply ai__<;>intro hb)
   have hrel:Rel G ⟨w,F,λ_ =>False,λ_ =>False,nm⟩ ⟨8,[(0,t23 vals)],[]⟩ {tmps:=#[.slice (some a) n cap,undef,.slice none 0 0,.slice (some a) n cap,.bool false,undef,undef,undef],defers:=[]} w:=by
    refine⟨nm,F,rfl,rfl,λt=>?_,λi b hi=>by simp [hget] at hi,λi j b c m m' hi=>by simp [hget] at hi,λi b m hi=>by simp [hget] at hi,λi b m hi=>by simp [hget] at hi,hg,λ_ h=>h,λ_ h=>.inl h,⟨rfl,rfl,rfl,zN _,λ_ _ _ =>rfl⟩,λ_ h=>h.elim⟩;simp only[St.get,eget];split
    .rename_i e;subst e;exact h0
    .exact .top _ _
   go_enter Tryz.func55,Tryz.ntmps55;go_upto_region 3 with (fail)
   rename_i K hK;refine wp_mono (as14 _ _ _ _ _ _ (by kernel_rfl) hrun hrel) (λe a' w' hq=>?_);cases e with
   | normal=>
    obtain⟨st',hst,nm1,F1,hx⟩:=hq;have hst:st'=⟨8,[(2,.arr 5 0 vals.length)],[(5,⟨true,78,4,vals.map t28⟩)]⟩:=hst;subst hst;refine hK _ _ (wp_ret (bodyPost_ret (results_tmp rfl _ _ _) hx.df ?_));have hv:=hx.env 2;refine⟨_,F1,λi=>if i=1000 then nm1 5 else none,rfl,hx.f0,λb hb=>?_,hx.good.1,?_,⟨λi b hi=>?_,λi j b c m m' hi hj _ _ _ =>?_,λi b m hi hm=>?_⟩,λi b hi=>(by simp [hget] at hi),λk hk=>?_,⟨hx.keep.os,hx.keep.tape,hx.keep.output,hx.keep.size⟩,λk hk _ =>hx.keep.block k hk (λh=>h)⟩
    .rcases hx.fb b hb with h | h | h
     .exact .inl h
     .exact .inr (.inl h)
     .exact h.elim
    .have hv:Rd w' F1 nm1 (.arr 5 0 vals.length) (a'.tmps.getD 2 undef):=hv;generalize a'.tmps.getD 2 undef=z at hv ⊢;generalize hk:vals.length=k at hv ⊢;cases hv with
     | arr _ _ _ _ m hi hn hp=>exact .arr _ _ _ _ m (by simp [hi]) hn hp
     | arrE _ _ _ _ _ h=>omega
     | arrN=>exact .arrN _ _
    .simp only[hget] at hi;split at hi
     .rename_i e;subst e;cases hi;rcases hx.box 5 _ rfl with ⟨h1,h2,h3,h4⟩ | ⟨m,hm,hli⟩
      .exact .inl ⟨by simp [h1],h2,h3,h4⟩
      .refine .inr ⟨m,by simp [hm],?_⟩;rcases hli with hli | hli
       .exact .inl hli
       .exact .inr hli
     .cases hi
    .simp only[hget] at hi hj;split at hi
     .split at hj
      .rename_i e1 e2;rw[<-e1,<-e2]
      .cases hj
     .cases hi
    .simp only[hget] at hi;split at hi
     .rename_i e;subst e;simp only[xW] at hm;exact hx.fr 5 _ m rfl hm
     .cases hi
    .obtain⟨i,b,m,hi,hm,rfl⟩:=hk;simp only[hget] at hi;split at hi
     .rename_i e;subst e;simp only[xW] at hm;rcases hx.own 5 _ m rfl hm with h | h
      .exact .inl h
      .exact h.elim
     .cases hi
   | exit i=>obtain⟨st',h1,_⟩:=hq;exact (h1:False).elim
   | ret=>obtain⟨st',h1,_⟩:=hq;exact (h1:False).elim
   | goto l=>exact hq.elim
   | panic ch=>exact hq.elim
   | outgrown=>exact hq.elim
theorem cip_ (l:List Int) (hl:l.length<=1000000):PQ G 41 [i11 l] (i11 l):=by have:=cih_ (G:=G) l hl;rw[show l.length=(l.map iv).length by simp] at this;exact P_.of_row this (by decide)
