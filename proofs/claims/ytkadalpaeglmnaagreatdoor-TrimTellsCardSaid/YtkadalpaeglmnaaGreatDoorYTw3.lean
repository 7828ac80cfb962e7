/-
  Lemmas. No claim is proved here.
-/
import Derived.Test.YtkadalpaeglmnaaGreatDoorYTc7
import Derived.Test.YtkadalpaeglmnaaGreatDoorYTc1
set_option linter.unusedSimpArgs false
set_option maxHeartbeats 4000000
set_option maxRecDepth 100000
namespace Go.Proofs.YtkadalpaeglmnaaGreatDoor.Ab
open Go Go.RowKit
variable {G:Nat→Option AV}
def symG (q:QeaT) (n:Int):SymT:=(at? q.symbols n).getD ⟨0,[]⟩
abbrev Made:=List SymT×List NodeT×List TransT
def s15 (q:QeaT) (ix:Int→Nat) (S:Made) (x:TransT×Int):Made:=
 (putY S.1 (symG q x.1.symbol),nsK q x.2.toNat S.2.1 ((endT x.1 x.2).toNat - x.2.toNat),S.2.2++[trN (ix x.1.from_) (ix x.1.to_) S.1 (symG q x.1.symbol) (x.2 - S.2.1.length) x.1])
structure MkOk (q:QeaT) (sl:List StateT) (ix:Int→Nat) (x:TransT×Int):Prop where
 ok:TrOk q x.1 x.2 (endT x.1 x.2)
 x0:0≤x.2
 sy:∃s,at? q.symbols x.1.symbol=some s∧symS q s=true∧s.args.length≤1000
 sl_:x.1.sets.length≤1000
 hf:∃y,at? q.states x.1.from_=some y∧sl[ix x.1.from_]? =some y
 ht:∃y,at? q.states x.1.to_=some y∧sl[ix x.1.to_]? =some y
def M10 (S:Made):Prop:=S.1.length<64∧(∀x∈S.1,x.args.length≤1000)∧S.2.1.length≤1000∧S.2.2.length<256
theorem eth_ (q:QeaT) (hv:q.vars.Nodup) (hd:(q.decls.map (·.name)).Nodup) (hq:q.nodes.length≤1000) (sl:List StateT) (hsn:(sl.map (·.name)).Nodup) (st:Int) (ix:Int→Nat) (K:List (TransT×Int)) (hK:∀x∈K,MkOk q sl ix x) (hKl:K.length≤1000) (S0:Made) (hm:∀i,i<K.length→M10 ((K.take i).foldl (s15 q ix) S0)):
  HQ G nc14 [.seq 13 ((K.map (trT q)).map tTrV),.fn (ncct_+1000000) [.ref 1001 0 0]] (HK q sl st S0.1 S0.2.1 S0.2.2) .nili (HK q sl st (K.foldl (s15 q ix) S0).1 (K.foldl (s15 q ix) S0).2.1 (K.foldl (s15 q ix) S0).2.2):=by
 have hc:∀(S:Made) x,x∈K→M10 S→HQ G ncct_ [.ref 1001 0 0,tTrV (trT q x)] (HK q sl st S.1 S.2.1 S.2.2) .nili (HK q sl st (s15 q ix S x).1 (s15 q ix S x).2.1 (s15 q ix S x).2.2):=by
  rintro⟨ys,ns,ts⟩ ⟨t,a⟩ hx ⟨m1,m2,m3,m4⟩;obtain⟨ok,x0,⟨s,s1,s2,s3⟩,hsl,⟨y,f1,f2⟩,⟨z,t1,t2⟩⟩:=hK _ hx;simp only at ok x0 s1 hsl f1 f2 t1 t2 m1 m2 m3 m4;obtain⟨A,rfl⟩:=zS x0;have hb:=ok.bk.h1;obtain⟨B,hB⟩:=zS (show 0≤endT t (A:Int) by omega);rw[hB] at ok;have hg:symG q t.symbol=s:=by unfold symG;rw[s1];rfl
  have:=th10 (G:=G) q hv hd hq sl hsn st ys ns ts m2 m1 m3 m4 t A B ok s s1 s2 s3 hsl (ix t.from_) (ix t.to_) y z f1 t1 f2 t2;simp only[s15,hg,hB,zA];exact this
 refine hc10 fun Φ h=>?_;unfold cc10;unfold HK ckB at*;unfold ckC at*;generalize e10 (dE q)=E1 at*;generalize e10 (vE q)=E2 at*;generalize e10 (sE sl)=E3 at*;simp -implicitDefEqProofs only[go_sem,zX]
 refine al_ (fun n st'=>∃(i:Nat) (S:Made),i+n=K.length∧st'=⟨21,[(1,.fn (ncct_+1000000) [.ref 1001 0 0]),(8,.seq 13 ((K.map (trT q)).map tTrV)),(9,iv K.length),(10,iv i)],
  [(1001,⟨false,tcc_,12,[.agg [.str q.name,.seq 2 (q.decls.map d11),.seq 3 (q.quants.map q11),.seq 5 (q.frees.map f10),.seq 3 (sl.map s13),iv st,.arr 1006 0 S.1.length,.arr 1007 0 S.2.1.length,.arr 1008 0 S.2.2.length,.mapc E1,.mapc E2,.mapc E3]]⟩),(1006,⟨true,taS_,2,S.1.map symV⟩),(1007,⟨true,taN_,7,S.2.1.map n11⟩),(1008,⟨true,taT_,5,S.2.2.map t11⟩)]⟩∧S=(K.take i).foldl (s15 q ix) S0) K.length ⟨0,S0,by simp,rfl,rfl⟩ ?_
 rintro I hI n st' ⟨i,S,hi,rfl,hS⟩;simp -implicitDefEqProofs only[go_sem];refine⟨fun hlt=>?_,fun hge=>?_⟩
 ·have hlt':i<K.length:=by omega
  obtain⟨x,hx,hxm⟩:=as10 hlt';have hw:=ws_ hlt' (by omega);have hc:=hc S x hxm (by rw[hS];exact hm i hlt');have hxt:(K.map (trT q))[i]? =some (trT q x):=by rw[zT,hx];rfl
  have hnx:=hI (n - 1) _ ⟨i+1,s15 q ix S x,by omega,rfl,by rw[t33 hx,tP,←hS];rfl⟩;generalize s15 q ix S x=S' at*;generalize trT q x=y at*;obtain⟨S1,S2,S3⟩:=S;obtain⟨S1',S2',S3'⟩:=S';obtain⟨y1,y2,⟨y3,y4⟩,y5,y6,y7⟩:=y;simp only[tTrV,t16,t30,t19] at hc;simp only at hnx;clear hI h hS hm hK
  repeat' (first|simp -implicitDefEqProofs only[go_sem,am_ hxt,tTrV,t16,t30,t19,hw]|refine ag_ (fun hb=>?_) (fun hb=>?_)|refine⟨fun hb=>?_,fun hb=>?_⟩|(refine⟨by kernel_rfl,ach_ [(1001,1001),(1006,1006),(1007,1007),(1008,1008)] hc rfl ⟨⟨_,_,rfl,rfl,rfl⟩,⟨_,_,rfl,rfl,rfl⟩,⟨_,_,rfl,rfl,rfl⟩,⟨_,_,rfl,rfl,rfl⟩,trivial⟩ rfl rfl rfl ?_⟩)|fail)
  exact aa_ (n - 1) (by omega) hnx
 ·have:i=K.length:=by omega
  subst this;rw[xS] at hS;rw[←hS] at h;exact h _ ⟨_,_,Weak.refl _,rfl,.refl _,subH.at ⟨rfl,rfl,rfl,rfl,trivial⟩⟩
def cVar:Nat×Box:=(1020,⟨false,tPc_,1,[.ref 1001 0 0]⟩)
theorem r61h_ (q:QeaT) (hv:q.vars.Nodup) (hd:(q.decls.map (·.name)).Nodup) (sl:List StateT) (st:Int) (ys:List SymT) (ns:List NodeT) (ts:List TransT) (s:SymT) (hs:symS q s=true) (hl:s.args.length≤1000) (hys:∀x∈ys,x.args.length≤1000) (hyl:ys.length<64):
  HQ G nccr61_ [t27 (symT q s),.ref 1020 0 0] (cVar::HK q sl st ys ns ts) .nili (cVar::HK q sl st (putY ys s) ns ts):=by
 have hc:=sh_ (G:=G) q hv hd sl st ys ns ts s hs hl hys hyl;refine hccr61_ fun Φ h=>?_;unfold cccr61_;unfold cVar HK ckB at*;unfold ckC at*;generalize e10 (dE q)=E1 at*;generalize e10 (vE q)=E2 at*;generalize e10 (sE sl)=E3 at*;generalize symT q s=y at*;generalize ys.idxOf s=k at*;generalize putY ys s=Y at*;obtain⟨y1,y2⟩:=y;simp only[t27,t16] at hc
 repeat' (first|simp -implicitDefEqProofs only[go_sem,t27,t16]|refine ag_ (fun hb=>?_) (fun hb=>?_)|refine⟨fun hb=>?_,fun hb=>?_⟩|(refine ac10 [(1001,1001),(1006,1006),(1007,1007),(1008,1008)] hc rfl ⟨⟨_,_,rfl,rfl,rfl⟩,⟨_,_,rfl,rfl,rfl⟩,⟨_,_,rfl,rfl,rfl⟩,⟨_,_,rfl,rfl,rfl⟩,trivial⟩ rfl rfl rfl ?_)|fail)
 exact h _ ⟨_,_,Weak.refl _,rfl,.refl _,subH.at ⟨rfl,rfl,rfl,rfl,rfl,trivial⟩⟩
theorem eah_ (q:QeaT) (hv:q.vars.Nodup) (hd:(q.decls.map (·.name)).Nodup) (sl:List StateT) (st:Int) (A:List SymT) (hA:∀s∈A,symS q s=true∧s.args.length≤1000) (hAl:A.length≤1000) (ns:List NodeT) (ts:List TransT) (hm:∀i,i<A.length→((A.take i).foldl putY []).length<64∧∀x∈(A.take i).foldl putY [],x.args.length≤1000):
  HQ G nceaT_ [.seq 4 ((A.map (symT q)).map t27),.fn nccr61_ [.ref 1020 0 0]] (cVar::HK q sl st [] ns ts) .nili (cVar::HK q sl st (A.foldl putY []) ns ts):=by
 have hc:=fun ys s (h1:s∈A) h2 h3=>r61h_ (G:=G) q hv hd sl st ys ns ts s (hA s h1).1 (hA s h1).2 h2 h3;refine hceaT_ fun Φ h=>?_;unfold cceaT_;unfold cVar HK ckB at*;unfold ckC at*;generalize e10 (dE q)=E1 at*;generalize e10 (vE q)=E2 at*;generalize e10 (sE sl)=E3 at*;simp -implicitDefEqProofs only[go_sem,zX]
 refine al_ (fun n st'=>∃(i:Nat) (S:List SymT),i+n=A.length∧st'=⟨21,[(1,.fn nccr61_ [.ref 1020 0 0]),(8,.seq 4 ((A.map (symT q)).map t27)),(9,iv A.length),(10,iv i)],
  [(1020,⟨false,tPc_,1,[.ref 1001 0 0]⟩),(1001,⟨false,tcc_,12,[.agg [.str q.name,.seq 2 (q.decls.map d11),.seq 3 (q.quants.map q11),.seq 5 (q.frees.map f10),.seq 3 (sl.map s13),iv st,.arr 1006 0 S.length,.arr 1007 0 ns.length,.arr 1008 0 ts.length,.mapc E1,.mapc E2,.mapc E3]]⟩),(1006,⟨true,taS_,2,S.map symV⟩),(1007,⟨true,taN_,7,ns.map n11⟩),(1008,⟨true,taT_,5,ts.map t11⟩)]⟩∧S=(A.take i).foldl putY []) A.length ⟨0,[],by simp,rfl,rfl⟩ ?_
 rintro I hI n st' ⟨i,S,hi,rfl,hS⟩;simp -implicitDefEqProofs only[go_sem];refine⟨fun hlt=>?_,fun hge=>?_⟩
 ·have hlt':i<A.length:=by omega
  obtain⟨x,hx,hxm⟩:=as10 hlt';have hw:=ws_ hlt' (by omega);have hc:=hc S x hxm (by rw[hS];exact (hm i hlt').2) (by rw[hS];exact (hm i hlt').1);have hxt:(A.map (symT q))[i]? =some (symT q x):=by rw[zT,hx];rfl
  have hnx:=hI (n - 1) _ ⟨i+1,putY S x,by omega,rfl,by rw[t33 hx,tP,←hS];rfl⟩;generalize putY S x=S' at*;generalize symT q x=y at*;obtain⟨y1,y2⟩:=y;simp only[t27,t16] at hc;clear hI h hS hm hA
  repeat' (first|simp -implicitDefEqProofs only[go_sem,am_ hxt,t27,t16,hw]|refine ag_ (fun hb=>?_) (fun hb=>?_)|refine⟨fun hb=>?_,fun hb=>?_⟩|(refine⟨by kernel_rfl,ach_ [(1020,1020),(1001,1001),(1006,1006),(1007,1007),(1008,1008)] hc rfl ⟨⟨_,_,rfl,rfl,rfl⟩,⟨_,_,rfl,rfl,rfl⟩,⟨_,_,rfl,rfl,rfl⟩,⟨_,_,rfl,rfl,rfl⟩,⟨_,_,rfl,rfl,rfl⟩,trivial⟩ rfl rfl rfl ?_⟩)|fail)
  exact aa_ (n - 1) (by omega) hnx
 ·have:i=A.length:=by omega
  subst this;rw[xS] at hS;rw[←hS] at h;exact h _ ⟨_,_,Weak.refl _,rfl,.refl _,subH.at ⟨rfl,rfl,rfl,rfl,rfl,trivial⟩⟩
theorem s110 (s:SymT) (hs:s.args.length<9223372036854775807) (v:Int):PQ G nccs1_ [symV s,.eptr (iv v) 0] (.bool (s12 s v)):=by
 have hc:=cSp_ (G:=G) s hs v;refine pc10 fun Φ h=>?_;unfold cc15;generalize s12 s v=b at*;obtain⟨s1,s2⟩:=s;simp only[symV,a_] at hc
 repeat' (first|simp -implicitDefEqProofs only[go_sem,symV,a_]|refine ag_ (fun hb=>?_) (fun hb=>?_)|refine⟨fun hb=>?_,fun hb=>?_⟩|refine ac_ hc rfl rfl ?_|fail)
 exact h _ ⟨_,_,rfl,rfl,.refl _⟩
theorem sp11 (q:QeaT) (sl:List StateT) (st:Int) (ys:List SymT) (c7 c8:AV) (hys:∀x∈ys,x.args.length≤1000) (hyl:ys.length≤1000) (hq:q.quants.length≤1000) (ok:∀v,v<q.quants.length→(ys.any fun s=>s12 s (v:Int))=true):
  PQ G nc19 [.eptr (ckC q sl st (.seq 2 (ys.map symV)) c7 c8) 0,t15 q.quants] .nili:=by
 have hc:∀v,v<q.quants.length→PQ G nsCaSaS_ [.seq 2 (ys.map symV),.fn nccs1_ [.eptr (iv (v:Int)) 0]] (.bool true):=fun v hv=>by have:=sCaSaSp_ (G:=G) nccs1_ [.eptr (iv (v:Int)) 0] (by kernel_rfl) of_ (fun s=>s12 s (v:Int)) ys (fun x hx=>s110 x (by have:=hys x hx;omega) v) (by omega);rw[ok v hv] at this;exact this
 refine pccs_ fun Φ h=>?_;unfold cc16;simp -implicitDefEqProofs only[go_sem,t15,zX,ckC];refine al_ (fun n st'=>∃i:Nat,i+n=q.quants.length∧st'=⟨26,[(0,.eptr (ckC q sl st (.seq 2 (ys.map symV)) c7 c8) 0),(7,.seq 5 (q.quants.map t14)),(8,iv q.quants.length),(9,iv i)],[]⟩) q.quants.length ⟨0,by simp,rfl⟩ ?_;rintro I hI n st' ⟨i,hi,rfl⟩;simp -implicitDefEqProofs only[go_sem,ckC];refine⟨fun hlt=>?_,fun hge=>?_⟩
 ·have hlt':i<q.quants.length:=by omega
  obtain⟨x,hx,hxm⟩:=as10 hlt';have hw:=ws_ hlt' (by omega);have hc:=hc i hlt';have hnx:=hI (n - 1) _ ⟨i+1,by omega,rfl⟩;clear hI h
  repeat' (first|simp -implicitDefEqProofs only[go_sem,am_ hx,t14,hw]|refine ag_ (fun hb=>?_) (fun hb=>?_)|refine⟨fun hb=>?_,fun hb=>?_⟩|refine ac_ hc rfl rfl ?_|fail)
  exact aa_ (n - 1) (by omega) hnx
 ·exact h _ ⟨_,_,rfl,rfl,.refl _⟩
def dd:List Nat→List Nat→List Nat
 | o,[]=>o
 | o,x::r=>if x∈o then dd o r else dd (o++[x]) r
theorem da_:∀(r o:List Nat),∃s,dd o r=o++s
 | [],o=>⟨[],by simp [dd]⟩
 | x::r,o=>by
  unfold dd;split
  ·exact da_ r o
  ·obtain⟨s,h⟩:=da_ r (o++[x]);exact⟨x::s,by rw[h];simp⟩
theorem dn_:∀(r:List Nat) {o:List Nat},o.Nodup→(dd o r).Nodup
 | [],_,h=>h
 | x::r,o,h=>by
  unfold dd;split
  ·exact dn_ r h
  ·rename_i hx;refine dn_ r ?_;rw[xD];exact⟨h,by simp,fun a ha b hb=>by rw[yP.1 hb];exact fun e=>hx (e ▸ ha)⟩
theorem dm_:∀(r o:List Nat) (x:Nat),x∈dd o r↔x∈o∨x∈r
 | [],o,x=>by simp [dd]
 | y::r,o,x=>by
  unfold dd;split
  ·rename_i hy;rw[dm_ r o x,yM];constructor
   ·rintro (h | h)
    ·exact .inl h
    ·exact .inr (.inr h)
   ·rintro (h | rfl | h)
    ·exact .inl h
    ·exact .inl hy
    ·exact .inr h
  ·rw[dm_ r (o++[y]) x,yB,yP,yM,or_assoc]
theorem dm11 {f:Nat→Nat}:∀(r o:List Nat),(∀x∈o++r,∀y∈o++r,f x=f y→x=y)→dd (o.map f) (r.map f)=(dd o r).map f
 | [],o,_ =>rfl
 | x::r,o,hf=>by
  have e:f x∈o.map f↔x∈o:=by
   constructor
   ·intro h;obtain⟨y,hy,e⟩:=zI.1 h;rw[←hf y (by simp [hy]) x (by simp) e];exact hy
   ·exact List.mem_map_of_mem
  rw[yV];unfold dd;by_cases hx:x∈o
  ·rw[zG (e.2 hx),zG hx];exact dm11 r o fun a ha b hb=>hf a (by simp at ha ⊢;rcases ha with h | h <;> simp [h]) b (by simp at hb ⊢;rcases hb with h | h <;> simp [h])
  ·rw[zF (fun h=>hx (e.1 h)),zF hx];have:=dm11 (f:=f) r (o++[x]) (by simpa using hf);simpa using this
def perm (n:Nat) (l:List Nat):List Nat:=(List.range n).filter (fun x=>decide (x∉l))++dd [] l
theorem pn_ (n:Nat) (l:List Nat):(perm n l).Nodup:=by unfold perm;rw[xD];refine⟨List.nodup_range.filter _,dn_ l List.nodup_nil,fun a ha b hb e=>?_⟩;subst e;obtain⟨_,h⟩:=yG.1 ha;rw[dm_] at hb;simp at h hb;exact h hb
theorem pm10 {n:Nat} {l:List Nat} (hl:∀x∈l,x<n) (x:Nat):x∈perm n l↔x<n:=by
 unfold perm;rw[yB,yG,yS,dm_];simp;constructor
 ·rintro (h | h)
  ·exact h.1
  ·exact hl x h
 ·intro h;by_cases hx:x∈l
  ·exact .inr hx
  ·exact .inl ⟨h,hx⟩
theorem iom_ {l:List Nat} (h:l.Nodup):l.map (fun x=>l.idxOf x)=List.range l.length:=by refine wJ (by simp) fun i h1 h2=>?_;simp only[vT,uP];exact wQ h i (by simpa using h1)
theorem ii11 {l:List Nat} {x y:Nat} (hx:x∈l) (h:l.idxOf x=l.idxOf y):x=y:=by
 have h1:=wP.2 hx;have e1:=uM h1;have h2:l.idxOf y<l.length:=by rw[←h];exact h1
 have e2:=uM h2;rw[←e1,←e2];congr 1
theorem pd_ {n:Nat} {l:List Nat} (hl:∀x∈l,x<n):
  dd [] (l.map fun x=>(perm n l).idxOf x)=List.range' ((perm n l).length - (dd [] l).length) (dd [] l).length:=by
 have hm:∀x∈l,x∈perm n l:=fun x hx=>(pm10 hl x).2 (hl x hx);have h1:=dm11 (f:=fun x=>(perm n l).idxOf x) l [] (fun x hx y hy e=>ii11 (hm x (by simpa using hx)) e);rw[yF] at h1;rw[h1];have h2:=iom_ (pn_ n l);have h3:(dd [] l).map (fun x=>(perm n l).idxOf x)=(List.range (perm n l).length).drop ((perm n l).length - (dd [] l).length):=by
  rw[←h2,←List.map_drop];congr 1;have:perm n l=(List.range n).filter (fun x=>decide (x∉l))++dd [] l:=rfl;have e:(perm n l).length - (dd [] l).length=((List.range n).filter (fun x=>decide (x∉l))).length:=by rw[this,zB];omega
  rw[e]
  conv=>rhs;rw[this]
  rw[List.drop_left]
 rw[h3,List.range_eq_range',List.drop_range',Nat.mul_one,yT];congr 1;have:(dd [] l).length≤(perm n l).length:=by unfold perm;rw[zB];omega
 omega
theorem fl_ (n m:Nat) (h:m≤n):(List.range n).filter (fun x=>decide (x<m))=List.range m:=by
 obtain⟨k,rfl⟩:=Nat.exists_eq_add_of_le h;rw[List.range_add,wA];have h1:(List.range m).filter (fun x=>decide (x<m))=List.range m:=List.filter_eq_self.2 fun x hx=>by simpa using List.mem_range.1 hx
 have h2:((List.range k).map (m+·)).filter (fun x=>decide (x<m))=[]:=by rw[List.filter_eq_nil_iff];intro x hx;obtain⟨y,_,rfl⟩:=zI.1 hx;simp
 rw[h1,h2,xW]
theorem pi_ {n:Nat} {l:List Nat} (h:dd [] l=List.range' (n - (dd [] l).length) (dd [] l).length) (hn:(dd [] l).length≤n):perm n l=List.range n:=by
 have hm:∀x,x∈l↔n - (dd [] l).length≤x∧x<n:=fun x=>by
  have h1:=dm_ l [] x;rw[h,List.mem_range'_1] at h1;constructor
  ·intro hx;have:=h1.2 (.inr hx);omega
  ·intro hx;rcases h1.1 (by omega) with h2 | h2
   ·cases h2
   ·exact h2
 unfold perm;have e:(List.range n).filter (fun x=>decide (x∉l))=List.range (n - (dd [] l).length):=by rw[←fl_ n (n - (dd [] l).length) (by omega)];refine tH fun x hx=>?_;have hx:=yS.1 hx;rw[decide_eq_decide,hm];omega
 rw[e,h];generalize hk:(dd [] l).length=k at*;refine wJ (by simp;omega) fun i h1 h2=>?_;rw[List.getElem_append];split
 ·simp
 ·rename_i h3;simp at h3 ⊢;omega
theorem sl10:∀(l:List TransT) (a:Int),(segs l a).length=l.length
 | [],_ =>rfl
 | t::l,a=>by simp [segs,sl10 l]
theorem beTh_ (q:QeaT) (hq:q.nodes.length≤1000) (l:List TransT) (a:Int) (hl:l.length≤1000) (ok:∀x∈segs l a,TrW q x.1 x.2):
  HQ G nbeaTaT_ [t_ l,.fn nbt1_ [.ref 1001 0 0,.ref 1002 0 0]] [bBox a,q14 q] (.arr 5 0 l.length) [bBox (endA l a),q14 q,(5,⟨true,ta10,13,((segs l a).map (trT q)).map tTrV⟩)]:=by
 refine hbeaTaT_ fun Φ h=>?_;unfold cbeaTaT_;simp only[bBox,q14] at*;simp -implicitDefEqProofs only[go_sem,t_,zX]
 refine al_ (fun n st=>∃(i:Nat) (m:List TTrT) (A:Int),i+n=l.length∧st=⟨22,[(1,.fn nbt1_ [.ref 1001 0 0,.ref 1002 0 0]),(5,.arr 5 0 m.length),(8,.seq 5 (l.map t11)),(9,iv l.length),(10,iv i)],[(4,⟨true,ta10,13,[]⟩),(5,⟨true,ta10,13,m.map tTrV⟩),(1001,⟨false,ti_,1,[iv A]⟩),(1002,⟨false,taQ_,9,[qeaV q]⟩)]⟩∧
  (segs l a).map (trT q)=m++(segs (l.drop i) A).map (trT q)∧endA (l.drop i) A=endA l a∧m.length=i∧∀x∈segs (l.drop i) A,TrW q x.1 x.2) l.length ⟨0,[],a,by simp,rfl,rfl,rfl,rfl,ok⟩ ?_
 rintro I hI n st ⟨i,m,A,hi,rfl,hm,hA,hml,hok⟩;simp -implicitDefEqProofs only[go_sem,zX];refine⟨fun hlt=>?_,fun hge=>?_⟩
 ·have hlt':i<l.length:=by omega
  obtain⟨t,hx,hxm⟩:=as10 hlt';have hw:=ws_ hlt' (by omega);rw[d16 hx] at hm hA hok;have hc:=bt1h_ (G:=G) q hq t A (hok (t,A) yX);have hb1:(m.length+1)*176≤140737488355328:=by omega
  have hnx:=hI (n - 1) _ ⟨i+1,m++[trT q (t,A)],endT t A,by omega,rfl,by rw[hm];simp [segs],hA,by simp [hml],fun x hx=>hok x (zD _ hx)⟩;generalize trT q (t,A)=y at*;generalize endT t A=E at*;obtain⟨t1,t2,t3,t4,t5⟩:=t;simp only[bBox,q14,t11,s14,tTrV,t16,t30,t19] at hc;simp only[zR,yV,yF,zB,xX,xL,tTrV,t16,t30,t19] at hnx;clear hI h
  repeat' (first|simp -implicitDefEqProofs only[go_sem,am_ hx,t11,s14,hw,zX,hb1]|refine ag_ (fun hb=>?_) (fun hb=>?_)|refine⟨fun hb=>?_,fun hb=>?_⟩|(refine⟨by kernel_rfl,ac10 [(1001,1001),(1002,1002)] hc rfl ⟨⟨_,_,rfl,rfl,rfl⟩,⟨_,_,rfl,rfl,rfl⟩,trivial⟩ rfl rfl rfl ?_⟩)|fail)
  exact aa_ (n - 1) (by omega) hnx
 ·have:i=l.length:=by omega
  subst this;rw[tX] at hm hA;simp only[segs,yF,xW] at hm;simp only[endA] at hA;rw[hm,←hA] at h;rw[hml];exact h _ ⟨_,_,Weak.refl _,rfl,.refl _,subH.at ⟨rfl,rfl,rfl,trivial⟩⟩
theorem btp_ (q:QeaT) (hq:q.nodes.length≤1000) (hl:q.trans.length≤1000) (ok:∀x∈segs q.trans 0,TrW q x.1 x.2):PQ G nbt_ [qeaV q] (t34 ((segs q.trans 0).map (trT q))):=by
 have hc:=beTh_ (G:=G) q hq q.trans 0 hl ok;refine pbt_ fun Φ h=>?_;unfold cbt_;have hlen:q.trans.length=((segs q.trans 0).map (trT q)).length:=by simp [sl10]
 rw[hlen] at hc;generalize (segs q.trans 0).map (trT q)=y at*;generalize endA q.trans 0=E at*;simp only[bBox,q14,qeaV,d_,q_,f_,s_,s10,n_,t_] at hc
 repeat' (first|simp -implicitDefEqProofs only[go_sem,qeaV,d_,q_,f_,s_,s10,n_,t_]|refine ag_ (fun hb=>?_) (fun hb=>?_)|refine⟨fun hb=>?_,fun hb=>?_⟩|(refine ac10 [(1001,3),(1002,1),(5,7)] hc rfl ⟨⟨_,_,rfl,rfl,rfl⟩,⟨_,_,rfl,rfl,rfl⟩,trivial⟩ rfl rfl rfl ?_)|fail)
 exact h _ ⟨_,_,rfl,vr10 (e:=tTrV) (l:=y) (ty:=ta10) (by decide) rfl rfl,.refl _⟩
