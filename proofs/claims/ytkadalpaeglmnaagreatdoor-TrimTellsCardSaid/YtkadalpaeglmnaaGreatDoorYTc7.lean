/-
  Lemmas. No claim is proved here.
-/
import Derived.Test.YtkadalpaeglmnaaGreatDoorYD26
set_option linter.unusedSimpArgs false
set_option maxHeartbeats 4000000
set_option maxRecDepth 100000
namespace Go.Proofs.YtkadalpaeglmnaaGreatDoor.Ab
open Go Go.RowKit
variable {G:Nat→Option AV}
theorem beaAaTp_ (f:Nat) (caps:List AV) (hf:b_ Tryz.prog f=true) (hcap:OkC caps) (g:ArgT→TArgT) (l:List ArgT) (hp:∀x∈l,PQ G f (argV x::caps) (t28 (g x))) (hl:l.length≤1000000):
  NQ G nbeaAaT_ [.seq 6 (l.map argV),.fn f caps] (.seq 8 ((l.map g).map t28)):=by
 refine P10.of_runs (fn:=Tryz.f84) (A:=cbeaAaT_) Tryz.func84 kbeaAaT_ rfl (R10.of fun Φ h=>?_);unfold cbeaAaT_;simp -implicitDefEqProofs only[go_sem,zX,hcap.purge];refine al_ (fun n st=>∃(i:Nat) (m:List TArgT),i+n=l.length∧st=⟨22,[(1,.fn f caps),(5,.arr 5 0 m.length),(8,.seq 6 (l.map argV)),(9,iv l.length),(10,iv i)],[(4,⟨true,ta18,8,[]⟩),(5,⟨true,ta18,8,m.map t28⟩)]⟩∧m=(l.take i).map g) l.length ⟨0,[],by simp,rfl,rfl⟩ ?_;rintro I hI n st ⟨i,m,hi,rfl,hm⟩;have hml:m.length≤i:=by rw[hm];simp;omega
 simp -implicitDefEqProofs only[go_sem,zX];refine⟨fun hlt=>?_,fun hge=>?_⟩
 ·have hlt':i<l.length:=by omega
  obtain⟨x,hx,hxm⟩:=as10 hlt';have hw:=ws_ hlt' (by omega);have hc:=hp x hxm;have hb1:(m.length+1)*80≤140737488355328:=by omega
  have hnx:(l.take (i+1)).map g=m++[g x]:=by rw[t33 hx,zR,←hm];rfl
  generalize g x=y at*;simp only[argV,t28] at hc;simp -implicitDefEqProofs only[go_sem,am_ hx,hcap.purge,argV,t28];refine⟨hf,ac_ hc (by simp [v_,flat,flat.go,viewBs,viewAll,view,view.go,viewB,viewK,viewK.go,hcap.viewBs,hcap.viewAll,hcap.view,argV,t28]) rfl ?_⟩;simp -implicitDefEqProofs only[go_sem,hw,hcap.purge,hb1,zX,argV,t28];exact aa_ (n - 1) (by omega) (hI _ _ ⟨i+1,m++[y],by omega,by simp [argV,t28],hnx.symm⟩)
 ·rw[zM (by omega)] at hm;rw[←hm] at h;clear hI hm
  try (simp -implicitDefEqProofs only[go_sem,hcap.purge])
  refine h _ ⟨5,_,⟨true,ta18,8,m.map t28⟩,rfl,by simp [hget],rfl,yN _,by simp,fun e he=>?_,?_⟩
  ·obtain⟨y,_,rfl⟩:=zI.1 he;rfl
  ·simp only;rw[zM (by simp)]
theorem beaDaTp_ (f:Nat) (hf:b_ Tryz.prog f=true) (g:DeclT→DeclT) (l:List DeclT) (hp:∀x∈l,PQ G f (d11 x::[]) (t21 (g x))) (hl:l.length≤1000000):
  PQ G nbeaDaT_ [.seq 2 (l.map d11),.fn f []] (.seq 4 ((l.map g).map t21)):=by
 refine pbeaDaT_ fun Φ h=>?_;unfold cbeaDaT_;simp -implicitDefEqProofs only[go_sem,zX];refine al_ (fun n st=>∃(i:Nat) (m:List DeclT),i+n=l.length∧st=⟨22,[(1,.fn f []),(5,.arr 5 0 m.length),(8,.seq 2 (l.map d11)),(9,iv l.length),(10,iv i)],[(4,⟨true,ta17,4,[]⟩),(5,⟨true,ta17,4,m.map t21⟩)]⟩∧m=(l.take i).map g) l.length ⟨0,[],by simp,rfl,rfl⟩ ?_;rintro I hI n st ⟨i,m,hi,rfl,hm⟩;have hml:m.length≤i:=by rw[hm];simp;omega
 simp -implicitDefEqProofs only[go_sem,zX];refine⟨fun hlt=>?_,fun hge=>?_⟩
 ·have hlt':i<l.length:=by omega
  obtain⟨x,hx,hxm⟩:=as10 hlt';have hw:=ws_ hlt' (by omega);have hc:=hp x hxm;have hb1:(m.length+1)*56≤140737488355328:=by omega
  have hnx:(l.take (i+1)).map g=m++[g x]:=by rw[t33 hx,zR,←hm];rfl
  generalize g x=y at*;simp only[d11,t21,i10] at hc;simp -implicitDefEqProofs only[go_sem,am_ hx,d11,t21,i10];refine⟨hf,ac_ hc (by simp [v_,flat,flat.go,viewBs,viewAll,view,view.go,viewB,viewK,viewK.go,d11,t21,i10]) rfl ?_⟩;simp -implicitDefEqProofs only[go_sem,hw,hb1,zX,d11,t21,i10];exact aa_ (n - 1) (by omega) (hI _ _ ⟨i+1,m++[y],by omega,by simp [d11,t21,i10],hnx.symm⟩)
 ·rw[zM (by omega)] at hm;rw[←hm] at h;clear hI hm
  try (simp -implicitDefEqProofs only[go_sem])
  exact h _ ⟨_,_,rfl,vr10 (e:=t21) (l:=m) (ty:=ta17) (by decide) rfl rfl,.refl _⟩
theorem beaQaTp_ (f:Nat) (hf:b_ Tryz.prog f=true) (g:QuantT→QuantT) (l:List QuantT) (hp:∀x∈l,PQ G f (q11 x::[]) (t14 (g x))) (hl:l.length≤1000000):
  PQ G nbeaQaT_ [.seq 3 (l.map q11),.fn f []] (.seq 5 ((l.map g).map t14)):=by
 refine pbeaQaT_ fun Φ h=>?_;unfold cbeaQaT_;simp -implicitDefEqProofs only[go_sem,zX];refine al_ (fun n st=>∃(i:Nat) (m:List QuantT),i+n=l.length∧st=⟨22,[(1,.fn f []),(5,.arr 5 0 m.length),(8,.seq 3 (l.map q11)),(9,iv l.length),(10,iv i)],[(4,⟨true,ta13,5,[]⟩),(5,⟨true,ta13,5,m.map t14⟩)]⟩∧m=(l.take i).map g) l.length ⟨0,[],by simp,rfl,rfl⟩ ?_;rintro I hI n st ⟨i,m,hi,rfl,hm⟩;have hml:m.length≤i:=by rw[hm];simp;omega
 simp -implicitDefEqProofs only[go_sem,zX];refine⟨fun hlt=>?_,fun hge=>?_⟩
 ·have hlt':i<l.length:=by omega
  obtain⟨x,hx,hxm⟩:=as10 hlt';have hw:=ws_ hlt' (by omega);have hc:=hp x hxm;have hb1:(m.length+1)*48≤140737488355328:=by omega
  have hnx:(l.take (i+1)).map g=m++[g x]:=by rw[t33 hx,zR,←hm];rfl
  generalize g x=y at*;simp only[q11,t14] at hc;simp -implicitDefEqProofs only[go_sem,am_ hx,q11,t14];refine⟨hf,ac_ hc (by simp [v_,flat,flat.go,viewBs,viewAll,view,view.go,viewB,viewK,viewK.go,q11,t14]) rfl ?_⟩;simp -implicitDefEqProofs only[go_sem,hw,hb1,zX,q11,t14];exact aa_ (n - 1) (by omega) (hI _ _ ⟨i+1,m++[y],by omega,by simp [q11,t14],hnx.symm⟩)
 ·rw[zM (by omega)] at hm;rw[←hm] at h;clear hI hm
  try (simp -implicitDefEqProofs only[go_sem])
  exact h _ ⟨_,_,rfl,vr10 (e:=t14) (l:=m) (ty:=ta13) (by decide) rfl rfl,.refl _⟩
theorem beaFaTp_ (f:Nat) (hf:b_ Tryz.prog f=true) (g:FreeT→FreeT) (l:List FreeT) (hp:∀x∈l,PQ G f (f10 x::[]) (t20 (g x))) (hl:l.length≤1000000):
  PQ G nbeaFaT_ [.seq 5 (l.map f10),.fn f []] (.seq 7 ((l.map g).map t20)):=by
 refine pbeaFaT_ fun Φ h=>?_;unfold cbeaFaT_;simp -implicitDefEqProofs only[go_sem,zX];refine al_ (fun n st=>∃(i:Nat) (m:List FreeT),i+n=l.length∧st=⟨22,[(1,.fn f []),(5,.arr 5 0 m.length),(8,.seq 5 (l.map f10)),(9,iv l.length),(10,iv i)],[(4,⟨true,ta16,7,[]⟩),(5,⟨true,ta16,7,m.map t20⟩)]⟩∧m=(l.take i).map g) l.length ⟨0,[],by simp,rfl,rfl⟩ ?_;rintro I hI n st ⟨i,m,hi,rfl,hm⟩;have hml:m.length≤i:=by rw[hm];simp;omega
 simp -implicitDefEqProofs only[go_sem,zX];refine⟨fun hlt=>?_,fun hge=>?_⟩
 ·have hlt':i<l.length:=by omega
  obtain⟨x,hx,hxm⟩:=as10 hlt';have hw:=ws_ hlt' (by omega);have hc:=hp x hxm;have hb1:(m.length+1)*72≤140737488355328:=by omega
  have hnx:(l.take (i+1)).map g=m++[g x]:=by rw[t33 hx,zR,←hm];rfl
  generalize g x=y at*;simp only[f10,t20] at hc;simp -implicitDefEqProofs only[go_sem,am_ hx,f10,t20];refine⟨hf,ac_ hc (by simp [v_,flat,flat.go,viewBs,viewAll,view,view.go,viewB,viewK,viewK.go,f10,t20]) rfl ?_⟩;simp -implicitDefEqProofs only[go_sem,hw,hb1,zX,f10,t20];exact aa_ (n - 1) (by omega) (hI _ _ ⟨i+1,m++[y],by omega,by simp [f10,t20],hnx.symm⟩)
 ·rw[zM (by omega)] at hm;rw[←hm] at h;clear hI hm
  try (simp -implicitDefEqProofs only[go_sem])
  exact h _ ⟨_,_,rfl,vr10 (e:=t20) (l:=m) (ty:=ta16) (by decide) rfl rfl,.refl _⟩
theorem beaSaTp_ (f:Nat) (hf:b_ Tryz.prog f=true) (g:StateT→StateT) (l:List StateT) (hp:∀x∈l,PQ G f (s13 x::[]) (t13 (g x))) (hl:l.length≤1000000):
  PQ G nbeaSaT_ [.seq 3 (l.map s13),.fn f []] (.seq 5 ((l.map g).map t13)):=by
 refine pbeaSaT_ fun Φ h=>?_;unfold cb10;simp -implicitDefEqProofs only[go_sem,zX];refine al_ (fun n st=>∃(i:Nat) (m:List StateT),i+n=l.length∧st=⟨22,[(1,.fn f []),(5,.arr 5 0 m.length),(8,.seq 3 (l.map s13)),(9,iv l.length),(10,iv i)],[(4,⟨true,ta12,5,[]⟩),(5,⟨true,ta12,5,m.map t13⟩)]⟩∧m=(l.take i).map g) l.length ⟨0,[],by simp,rfl,rfl⟩ ?_;rintro I hI n st ⟨i,m,hi,rfl,hm⟩;have hml:m.length≤i:=by rw[hm];simp;omega
 simp -implicitDefEqProofs only[go_sem,zX];refine⟨fun hlt=>?_,fun hge=>?_⟩
 ·have hlt':i<l.length:=by omega
  obtain⟨x,hx,hxm⟩:=as10 hlt';have hw:=ws_ hlt' (by omega);have hc:=hp x hxm;have hb1:(m.length+1)*40≤140737488355328:=by omega
  have hnx:(l.take (i+1)).map g=m++[g x]:=by rw[t33 hx,zR,←hm];rfl
  generalize g x=y at*;simp only[s13,t13] at hc;simp -implicitDefEqProofs only[go_sem,am_ hx,s13,t13];refine⟨hf,ac_ hc (by simp [v_,flat,flat.go,viewBs,viewAll,view,view.go,viewB,viewK,viewK.go,s13,t13]) rfl ?_⟩;simp -implicitDefEqProofs only[go_sem,hw,hb1,zX,s13,t13];exact aa_ (n - 1) (by omega) (hI _ _ ⟨i+1,m++[y],by omega,by simp [s13,t13],hnx.symm⟩)
 ·rw[zM (by omega)] at hm;rw[←hm] at h;clear hI hm
  try (simp -implicitDefEqProofs only[go_sem])
  exact h _ ⟨_,_,rfl,vr10 (e:=t13) (l:=m) (ty:=ta12) (by decide) rfl rfl,.refl _⟩
theorem beaNaEp_ (f:Nat) (caps:List AV) (hf:b_ Tryz.prog f=true) (hcap:OkC caps) (g:NodeT→TExT) (l:List NodeT) (hp:∀x∈l,PQ G f (n11 x::caps) (tExV (g x))) (hl:l.length≤1000000):
  NQ G nbeaNaE_ [.seq 7 (l.map n11),.fn f caps] (.seq 10 ((l.map g).map tExV)):=by
 refine P10.of_runs (fn:=Tryz.f79) (A:=cbeaNaE_) Tryz.func79 kbeaNaE_ rfl (R10.of fun Φ h=>?_);unfold cbeaNaE_;simp -implicitDefEqProofs only[go_sem,zX,hcap.purge];refine al_ (fun n st=>∃(i:Nat) (m:List TExT),i+n=l.length∧st=⟨22,[(1,.fn f caps),(5,.arr 5 0 m.length),(8,.seq 7 (l.map n11)),(9,iv l.length),(10,iv i)],[(4,⟨true,taE_,10,[]⟩),(5,⟨true,taE_,10,m.map tExV⟩)]⟩∧m=(l.take i).map g) l.length ⟨0,[],by simp,rfl,rfl⟩ ?_;rintro I hI n st ⟨i,m,hi,rfl,hm⟩;have hml:m.length≤i:=by rw[hm];simp;omega
 simp -implicitDefEqProofs only[go_sem,zX];refine⟨fun hlt=>?_,fun hge=>?_⟩
 ·have hlt':i<l.length:=by omega
  obtain⟨x,hx,hxm⟩:=as10 hlt';have hw:=ws_ hlt' (by omega);have hc:=hp x hxm;have hb1:(m.length+1)*96≤140737488355328:=by omega
  have hnx:(l.take (i+1)).map g=m++[g x]:=by rw[t33 hx,zR,←hm];rfl
  generalize g x=y at*;simp only[n11,tExV] at hc;simp -implicitDefEqProofs only[go_sem,am_ hx,hcap.purge,n11,tExV];refine⟨hf,ac_ hc (by simp [v_,flat,flat.go,viewBs,viewAll,view,view.go,viewB,viewK,viewK.go,hcap.viewBs,hcap.viewAll,hcap.view,n11,tExV]) rfl ?_⟩;simp -implicitDefEqProofs only[go_sem,hw,hcap.purge,hb1,zX,n11,tExV];exact aa_ (n - 1) (by omega) (hI _ _ ⟨i+1,m++[y],by omega,by simp [n11,tExV],hnx.symm⟩)
 ·rw[zM (by omega)] at hm;rw[←hm] at h;clear hI hm
  try (simp -implicitDefEqProofs only[go_sem,hcap.purge])
  refine h _ ⟨5,_,⟨true,taE_,10,m.map tExV⟩,rfl,by simp [hget],rfl,yN _,by simp,fun e he=>?_,?_⟩
  ·obtain⟨y,_,rfl⟩:=zI.1 he;rfl
  ·simp only;rw[zM (by simp)]
theorem be10 (f:Nat) (caps:List AV) (hf:b_ Tryz.prog f=true) (hcap:OkC caps) (g:SetT→TSetT) (l:List SetT) (hp:∀x∈l,PQ G f (setV x::caps) (t36 (g x))) (hl:l.length≤1000000):
  NQ G nb10 [.seq 2 (l.map setV),.fn f caps] (.seq 4 ((l.map g).map t36)):=by
 refine P10.of_runs (fn:=Tryz.f82) (A:=cbeaSaT_) Tryz.func82 kbeaSaT_ rfl (R10.of fun Φ h=>?_);unfold cbeaSaT_;simp -implicitDefEqProofs only[go_sem,zX,hcap.purge];refine al_ (fun n st=>∃(i:Nat) (m:List TSetT),i+n=l.length∧st=⟨22,[(1,.fn f caps),(5,.arr 5 0 m.length),(8,.seq 2 (l.map setV)),(9,iv l.length),(10,iv i)],[(4,⟨true,ta20,4,[]⟩),(5,⟨true,ta20,4,m.map t36⟩)]⟩∧m=(l.take i).map g) l.length ⟨0,[],by simp,rfl,rfl⟩ ?_;rintro I hI n st ⟨i,m,hi,rfl,hm⟩;have hml:m.length≤i:=by rw[hm];simp;omega
 simp -implicitDefEqProofs only[go_sem,zX];refine⟨fun hlt=>?_,fun hge=>?_⟩
 ·have hlt':i<l.length:=by omega
  obtain⟨x,hx,hxm⟩:=as10 hlt';have hw:=ws_ hlt' (by omega);have hc:=hp x hxm;have hb1:(m.length+1)*40≤140737488355328:=by omega
  have hnx:(l.take (i+1)).map g=m++[g x]:=by rw[t33 hx,zR,←hm];rfl
  generalize g x=y at*;simp only[setV,t36] at hc;simp -implicitDefEqProofs only[go_sem,am_ hx,hcap.purge,setV,t36];refine⟨hf,ac_ hc (by simp [v_,flat,flat.go,viewBs,viewAll,view,view.go,viewB,viewK,viewK.go,hcap.viewBs,hcap.viewAll,hcap.view,setV,t36]) rfl ?_⟩;simp -implicitDefEqProofs only[go_sem,hw,hcap.purge,hb1,zX,setV,t36];exact aa_ (n - 1) (by omega) (hI _ _ ⟨i+1,m++[y],by omega,by simp [setV,t36],hnx.symm⟩)
 ·rw[zM (by omega)] at hm;rw[←hm] at h;clear hI hm
  try (simp -implicitDefEqProofs only[go_sem,hcap.purge])
  refine h _ ⟨5,_,⟨true,ta20,4,m.map t36⟩,rfl,by simp [hget],rfl,yN _,by simp,fun e he=>?_,?_⟩
  ·obtain⟨y,_,rfl⟩:=zI.1 he;rfl
  ·simp only;rw[zM (by simp)]
theorem bip_ (s:Str):PQ G nbi_ [.str s] (.agg [.str s,iv 0,iv 0]):=by refine pbi_ fun Φ h=>?_;unfold cbi_;simp -implicitDefEqProofs only[go_sem];exact h _ ⟨_,_,rfl,rfl,.refl _⟩
def A11 (q:QeaT) (a:ArgT):Prop:=(a.kind=2→∃x,at? q.quants a.n=some x)∧(a.kind=3→∃x,at? q.frees a.n=some x)
theorem bap_ (q:QeaT) (a:ArgT) (ha:A11 q a):PQ G nba_ [qeaV q,argV a] (t28 (argT q a)):=by
 refine pba_ fun Φ h=>?_;unfold cba_;obtain⟨k,n,v⟩:=a;obtain⟨h2,h3⟩:=ha;simp only at h2 h3;by_cases k1:k=1
 ·subst k1;simp -implicitDefEqProofs only[go_sem,argV,qeaV,d_,q_,f_,s_,s10,n_,t_];exact h _ ⟨_,_,rfl,rfl,.refl _⟩
 by_cases k2:k=2
 ·subst k2;obtain⟨x,hx⟩:=h2 rfl;have e:argT q ⟨2,n,v⟩=⟨2,x.name,v0⟩:=by simp [argT,hx]
  rw[e] at h;obtain⟨i,rfl,hi⟩:=at?_some hx;simp -implicitDefEqProofs only[go_sem,argV,qeaV,d_,q_,f_,s_,s10,n_,t_,am_ hi,q11];exact h _ ⟨_,_,rfl,rfl,.refl _⟩
 have b1:(k==1)=false:=by simpa using k1
 have b2:(k==2)=false:=by simpa using k2
 by_cases k3:k=3
 ·subst k3;obtain⟨x,hx⟩:=h3 rfl;have e:argT q ⟨3,n,v⟩=⟨2,x.name,v0⟩:=by simp [argT,hx]
  rw[e] at h;obtain⟨i,rfl,hi⟩:=at?_some hx;simp -implicitDefEqProofs only[go_sem,argV,qeaV,d_,q_,f_,s_,s10,n_,t_,am_ hi,f10];exact h _ ⟨_,_,rfl,rfl,.refl _⟩
 have b3:(k==3)=false:=by simpa using k3
 have e:argT q ⟨k,n,v⟩=⟨3,[],v0⟩:=by simp [argT,k1,k2,k3]
 rw[e] at h;simp -implicitDefEqProofs only[go_sem,argV,qeaV,d_,q_,f_,s_,s10,n_,t_,b1,b2,b3];exact h _ ⟨_,_,rfl,rfl,.refl _⟩
theorem bs1p_ (q:QeaT) (a:ArgT) (ha:A11 q a):PQ G nbs1_ [argV a,.eptr (qeaV q) 0] (t28 (argT q a)):=by
 have hc:=bap_ (G:=G) q a ha;refine pbs1_ fun Φ h=>?_;unfold cbs1_;generalize argT q a=y at*;simp only[argV,qeaV,d_,q_,f_,s_,s10,n_,t_,t28] at hc
 repeat' (first|simp -implicitDefEqProofs only[go_sem,argV,qeaV,d_,q_,f_,s_,s10,n_,t_]|refine ag_ (fun hb=>?_) (fun hb=>?_)|refine⟨fun hb=>?_,fun hb=>?_⟩|refine ac_ hc rfl rfl ?_|fail)
 exact h _ ⟨_,_,rfl,rfl,.refl _⟩
def S11 (q:QeaT) (s:SymT):Prop:=(∃d,at? q.decls s.event=some d)∧s.args.length≤1000∧∀a∈s.args,A11 q a
theorem bsp_ (q:QeaT) (s:SymT) (hs:S11 q s):PQ G nbs_ [qeaV q,symV s] (t27 (symT q s)):=by
 obtain⟨⟨d,hd⟩,hl,ha⟩:=hs;have hc:=beaAaTp_ (G:=G) nbs1_ [.eptr (qeaV q) 0] (by kernel_rfl) (okC_q q) (argT q) s.args (fun a hm=>bs1p_ q a (ha a hm)) (by omega);refine pbs_ fun Φ h=>?_;unfold cbs_;obtain⟨n,l⟩:=s;simp only at hd hc;have e:symT q ⟨n,l⟩=⟨d.name,l.map (argT q)⟩:=by simp [symT,d14,hd]
 rw[e] at h;obtain⟨i,rfl,hi⟩:=at?_some hd;generalize l.map (argT q)=y at*;simp only[qeaV,d_,q_,f_,s_,s10,n_,t_] at hc
 repeat' (first|simp -implicitDefEqProofs only[go_sem,symV,a_,qeaV,d_,q_,f_,s_,s10,n_,t_,am_ hi,d11]|refine ag_ (fun hb=>?_) (fun hb=>?_)|refine⟨fun hb=>?_,fun hb=>?_⟩|(refine ac12 hc rfl (FitL.refl _) rfl ?_)|fail)
 exact h _ ⟨_,_,rfl,rfl,.refl _⟩
def N10 (q:QeaT) (x:NodeT):Prop:=(x.op=2→∃y,at? q.quants x.a=some y)∧(x.op=3→∃y,at? q.frees x.a=some y)∧(4≤x.op→0≤x.a∧x.a≤1000000∧0≤x.b∧x.b≤1000000)
theorem bnp_ (q:QeaT) (x:NodeT) (b:Int) (hb:0≤b∧b≤1000000) (hx:N10 q x) (h1:1≤x.op):PQ G nbn_ [qeaV q,n11 x,iv b] (tExV (n14 q b x)):=by
 refine pbn_ fun Φ h=>?_;unfold cbn_;obtain⟨k,n,m,v⟩:=x;obtain⟨h2,h3,h4⟩:=hx;simp only at h1 h2 h3 h4;by_cases k1:k=1
 ·subst k1;simp -implicitDefEqProofs only[go_sem,n11,qeaV,d_,q_,f_,s_,s10,n_,t_];exact h _ ⟨_,_,rfl,rfl,.refl _⟩
 by_cases k2:k=2
 ·subst k2;obtain⟨x,hx⟩:=h2 rfl;have e:n14 q b ⟨2,n,m,v⟩=⟨17,0,0,x.name,v0⟩:=by simp [n14,hx]
  rw[e] at h;obtain⟨i,rfl,hi⟩:=at?_some hx;simp -implicitDefEqProofs only[go_sem,n11,qeaV,d_,q_,f_,s_,s10,n_,t_,am_ hi,q11];exact h _ ⟨_,_,rfl,rfl,.refl _⟩
 have b1:(k==1)=false:=by simpa using k1
 have b2:(k==2)=false:=by simpa using k2
 by_cases k3:k=3
 ·subst k3;obtain⟨x,hx⟩:=h3 rfl;have e:n14 q b ⟨3,n,m,v⟩=⟨17,0,0,x.name,v0⟩:=by simp [n14,hx]
  rw[e] at h;obtain⟨i,rfl,hi⟩:=at?_some hx;simp -implicitDefEqProofs only[go_sem,n11,qeaV,d_,q_,f_,s_,s10,n_,t_,am_ hi,f10];exact h _ ⟨_,_,rfl,rfl,.refl _⟩
 have b3:(k==3)=false:=by simpa using k3
 obtain⟨h5,h6,h7,h8⟩:=h4 (by omega);have w1:IntKind.i64.wrap (n - b)=n - b:=wi_ (by omega) (by omega);have w2:IntKind.i64.wrap (m - b)=m - b:=wi_ (by omega) (by omega);by_cases k4:k=4
 ·subst k4;have e:n14 q b ⟨4,n,m,v⟩=⟨4,n - b,0,[],v0⟩:=by simp [n14]
  rw[e] at h;simp -implicitDefEqProofs only[go_sem,n11,qeaV,d_,q_,f_,s_,s10,n_,t_,w1];exact h _ ⟨_,_,rfl,rfl,.refl _⟩
 have b4:(k==4)=false:=by simpa using k4
 by_cases k5:k=5
 ·subst k5;have e:n14 q b ⟨5,n,m,v⟩=⟨5,n - b,0,[],v0⟩:=by simp [n14]
  rw[e] at h;simp -implicitDefEqProofs only[go_sem,n11,qeaV,d_,q_,f_,s_,s10,n_,t_,w1];exact h _ ⟨_,_,rfl,rfl,.refl _⟩
 have b5:(k==5)=false:=by simpa using k5
 have e:n14 q b ⟨k,n,m,v⟩=⟨k,n - b,m - b,[],v0⟩:=by simp [n14,k1,k2,k3,k4,k5]
 rw[e] at h;simp -implicitDefEqProofs only[go_sem,n11,qeaV,d_,q_,f_,s_,s10,n_,t_,b1,b2,b3,b4,b5,w1,w2];exact h _ ⟨_,_,rfl,rfl,.refl _⟩
def Sm (n:Int):Prop:=-1≤n∧n≤1000000
theorem la12 {l:List SetT} {x:SetT} (h:l.getLast? =some x):0<l.length∧l[l.length - 1]? =some x:=by rw[List.getLast?_eq_getElem?] at h;have:=(zZ.1 h).1;exact⟨by omega,h⟩
theorem bep_ (t:TransT) (b:Int) (hl:t.sets.length≤1000000) (hg:t.guard= -1∨0≤t.guard) (hg2:Sm t.guard) (hs:∀s∈t.sets,Sm s.expr):PQ G nbe_ [t11 t,iv b] (iv (endT t b)):=by
 refine pbe_ fun Φ h=>?_;unfold cbe_;obtain⟨f,s,to,g,l⟩:=t;simp only at hl hg hg2 hs;have hz:decide ((0:Int)<((0:Nat):Int))=false:=rfl;have hz1:decide ((0:Int)≤-1)=false:=rfl;cases hx:l.getLast? with
 | none=>
  rw[tK] at hx;subst hx;rcases hg with hg | hg
  ·subst hg;have e:endT ⟨f,s,to,-1,[]⟩ b=b:=rfl;rw[e] at h;simp -implicitDefEqProofs only[go_sem,t11,s14,yF,hz,hz1];exact h _ ⟨_,_,rfl,rfl,.refl _⟩
  ·have e:endT ⟨f,s,to,g,[]⟩ b=g+1:=by unfold endT endS;simp;omega
   rw[e] at h;have d:decide (0≤g)=true:=xM hg;have w:IntKind.i64.wrap (g+1)=g+1:=wi_ (by have:=hg2.1;omega) (by have:=hg2.2;omega);simp -implicitDefEqProofs only[go_sem,t11,s14,yF,hz,d,w];exact h _ ⟨_,_,rfl,rfl,.refl _⟩
 | some x=>
  obtain⟨h1,h2⟩:=la12 hx;have e:endT ⟨f,s,to,g,l⟩ b=x.expr+1:=by unfold endT endS;simp [hx]
  rw[e] at h;have hb:=hs x (List.mem_of_getElem? h2);have d:decide ((0:Int)<(l.length:Int))=true:=xM (by omega);have w1:IntKind.i64.wrap ((l.length:Int) - 1)=((l.length - 1:Nat):Int):=by rw[wi_ (by omega) (by omega)];omega
  have w:IntKind.i64.wrap (x.expr+1)=x.expr+1:=wi_ (by have:=hb.1;omega) (by have:=hb.2;omega);obtain⟨x1,x2⟩:=x;simp -implicitDefEqProofs only[go_sem,t11,s14,zX,d,w1,w,am_ h2,setV];exact h _ ⟨_,_,rfl,rfl,.refl _⟩
theorem bt11p_ (q:QeaT) (x:NodeT) (b:Int) (hb:0≤b∧b≤1000000) (hx:N10 q x) (h1:1≤x.op):PQ G nbt11_ [n11 x,.eptr (qeaV q) 0,.eptr (iv b) 0] (tExV (n14 q b x)):=by
 have hc:=bnp_ (G:=G) q x b hb hx h1;refine pbt11_ fun Φ h=>?_;unfold cbt11_;generalize n14 q b x=y at*;simp only[n11,qeaV,d_,q_,f_,s_,s10,n_,t_,tExV] at hc
 repeat' (first|simp -implicitDefEqProofs only[go_sem,n11,qeaV,d_,q_,f_,s_,s10,n_,t_]|refine ag_ (fun hb=>?_) (fun hb=>?_)|refine⟨fun hb=>?_,fun hb=>?_⟩|refine ac_ hc rfl rfl ?_|fail)
 exact h _ ⟨_,_,rfl,rfl,.refl _⟩
theorem bt12p_ (q:QeaT) (s:SetT) (b:Int) (hb:0≤b∧b≤1000000) (hx:∃f,at? q.frees s.free=some f) (h1:Sm s.expr):PQ G nbt12_ [setV s,.eptr (qeaV q) 0,.eptr (iv b) 0] (t36 (setT q b s)):=by
 obtain⟨f,hf⟩:=hx;have hc:=bip_ (G:=G) f.name;refine pbt12_ fun Φ h=>?_;unfold cbt12_;have e:setT q b s=⟨f.name,s.expr - b⟩:=by simp [setT,f16,hf]
 rw[e] at h;obtain⟨n,x⟩:=s;simp only at hf h1 h;obtain⟨i,rfl,hi⟩:=at?_some hf;have w:IntKind.i64.wrap (x - b)=x - b:=wi_ (by have:=h1.1;omega) (by have:=h1.2;omega)
 repeat' (first|simp -implicitDefEqProofs only[go_sem,setV,qeaV,d_,q_,f_,s_,s10,n_,t_,am_ hi,f10,w]|refine ag_ (fun hb=>?_) (fun hb=>?_)|refine⟨fun hb=>?_,fun hb=>?_⟩|refine ac_ hc rfl rfl ?_|fail)
 exact h _ ⟨_,_,rfl,rfl,.refl _⟩
structure TrW (q:QeaT) (t:TransT) (b:Int):Prop where
 hf:∃x,at? q.states t.from_=some x
 ht:∃x,at? q.states t.to_=some x
 hs:∃x,at? q.symbols t.symbol=some x∧S11 q x
 hg:t.guard= -1∨b≤t.guard
 hg2:Sm t.guard
 hl:t.sets.length≤1000
 hx:∀s∈t.sets,Sm s.expr∧∃f,at? q.frees s.free=some f
 hb0:0≤b∧b≤1000000
 he:b≤endT t b∧endT t b≤q.nodes.length
 hn:∀y∈mid q.nodes b (endT t b),N10 q y∧1≤y.op
def bBox (b:Int):Nat×Box:=(1001,⟨false,ti_,1,[iv b]⟩)
def q14 (q:QeaT):Nat×Box:=(1002,⟨false,taQ_,9,[qeaV q]⟩)
theorem bt1h_ (q:QeaT) (hq:q.nodes.length≤1000) (t:TransT) (b:Int) (h:TrW q t b):HQ G nbt1_ [t11 t,.ref 1001 0 0,.ref 1002 0 0] [bBox b,q14 q] (tTrV (trT q (t,b))) [bBox (endT t b),q14 q]:=by
 have hend:=bep_ (G:=G) t b (by have:=h.hl;omega) (by rcases h.hg with h1 | h1;exact .inl h1;exact .inr (by have:=h.hb0;omega)) h.hg2 (fun s hs=>(h.hx s hs).1);obtain⟨⟨x1,hx1⟩,⟨x2,hx2⟩,⟨x3,hx3,hsy⟩,hg,hg2,hl,hx,hb0,he,hn⟩:=h;have hsym:=bsp_ (G:=G) q x3 hsy;have hns:=beaNaEp_ (G:=G) nbt11_ [.eptr (qeaV q) 0,.eptr (iv b) 0] (by kernel_rfl) of11 (n14 q b) (mid q.nodes b (endT t b)) (fun y hy=>bt11p_ q y b hb0 (hn y hy).1 (hn y hy).2) (by simp [mid];omega);have hss:=be10 (G:=G) nbt12_ [.eptr (qeaV q) 0,.eptr (iv b) 0] (by kernel_rfl) of11 (setT q b) t.sets (fun y hy=>bt12p_ q y b hb0 (hx y hy).2 (hx y hy).1) (by omega);have hid1:=bip_ (G:=G) x1.name;have hid2:=bip_ (G:=G) x2.name;have hmid:=am11 (e:=n11) (sz:=7) (l:=q.nodes) (a:=b) (b:=endT t b) (by omega) hb0.1 he.1 he.2;rw[show (q.nodes.drop b.toNat).take ((endT t b).toNat - b.toNat)=mid q.nodes b (endT t b) from rfl] at hmid;have e:trT q (t,b)=⟨x1.name,x2.name,symT q x3,(mid q.nodes b (endT t b)).map (n14 q b),if t.guard= -1 then -1 else t.guard - b,t.sets.map (setT q b)⟩:=by simp [trT,s20,s30,hx1,hx2,hx3]
 rw[e];refine hbt1_ fun Φ h=>?_;unfold cbt1_;generalize endT t b=E at*;generalize (mid q.nodes b E).map (n14 q b)=Y at*;generalize t.sets.map (setT q b)=Z at*;generalize symT q x3=S at*;generalize mid q.nodes b E=M at*;obtain⟨tf,ts,tt,tg,tl⟩:=t;simp only at hx1 hx2 hx3 hg hg2 hns hss h;obtain⟨i1,rfl,hi1⟩:=at?_some hx1;obtain⟨i2,rfl,hi2⟩:=at?_some hx2;obtain⟨i3,rfl,hi3⟩:=at?_some hx3;obtain⟨yn,yl⟩:=S;simp only[qeaV,d_,q_,f_,s_,s10,n_,t_,t11,s14,symV,a_,t27,t16] at hend hsym hns hss;simp only[bBox,q14] at*;by_cases h1:tg= -1
 ·subst h1
  repeat' (first|simp -implicitDefEqProofs only[go_sem,t11,s14,qeaV,d_,q_,f_,s_,s10,n_,t_,am_ hi1,am_ hi2,am_ hi3,s13,symV,a_,hmid,Int.reduceNeg,Int.reduceLE,uL]|refine ag_ (fun hb=>?_) (fun hb=>?_)|refine⟨fun hb=>?_,fun hb=>?_⟩|refine ac_ hend rfl rfl ?_|refine ac_ hid1 rfl rfl ?_|refine ac_ hid2 rfl rfl ?_|refine ac_ hsym rfl rfl ?_|(refine ac12 hns rfl (FitL.refl _) rfl ?_)|(refine ac12 hss rfl (FitL.refl _) rfl ?_)|fail)
  all_goals exact h _ ⟨_,_,Weak.refl _,rfl,fe_ (by simp [one,tTrV,t16,t30,t19,AV.cells]),subH.at ⟨rfl,rfl,trivial⟩⟩
 ·have d:decide (0≤tg)=true:=xM (by omega);have w:IntKind.i64.wrap (tg - b)=tg - b:=wi_ (by have:=hg2.1;omega) (by have:=hg2.2;omega)
  repeat' (first|simp -implicitDefEqProofs only[go_sem,t11,s14,qeaV,d_,q_,f_,s_,s10,n_,t_,am_ hi1,am_ hi2,am_ hi3,s13,symV,a_,hmid,d,w]|refine ag_ (fun hb=>?_) (fun hb=>?_)|refine⟨fun hb=>?_,fun hb=>?_⟩|refine ac_ hend rfl rfl ?_|refine ac_ hid1 rfl rfl ?_|refine ac_ hid2 rfl rfl ?_|refine ac_ hsym rfl rfl ?_|(refine ac12 hns rfl (FitL.refl _) rfl ?_)|(refine ac12 hss rfl (FitL.refl _) rfl ?_)|fail)
  all_goals exact h _ ⟨_,_,Weak.refl _,rfl,fe_ (by simp [one,tTrV,t16,t30,t19,AV.cells,h1]),subH.at ⟨rfl,rfl,trivial⟩⟩
theorem nd_at {q:QeaT} {t:TransT} {A B:Nat} {s:SymT} (ok:TrOk q t (A:Int) (B:Int)) (hs:at? q.symbols t.symbol=some s) (hss:symS q s=true):∀i,i<B - A→∃x e,NdAt q A s i x e∧(((q.nodes.drop A).take (B - A)).map (n14 q (A:Int)))[i]? =some (n14 q (A:Int) x):=by
 intro i hi;have hb:=ok.bk;have h2:=hb.h2;obtain⟨e,e1,e2,e3⟩:=hb.at_ (A+i) (by omega) (by omega);obtain⟨x,hx,hxm⟩:=as10 (l:=q.nodes) (i:=A+i) (by omega);have hm:((q.nodes.drop A).take (B - A))[i]? =some x:=by rw[yU,zG hi,yE];exact hx
 refine⟨x,e,⟨hx,e1,e2,e3,fun hop=>?_⟩,by rw[zT,hm];rfl⟩;obtain⟨s',hs',hn⟩:=ok.sy;rw[hs] at hs';cases hs';have hmid:x∈mid q.nodes (A:Int) (B:Int):=by unfold mid;rw[zA,zA];exact List.mem_of_getElem? hm
 rw[se10 hss];exact hn x hmid hop
def trN (fi ti:Nat) (ys:List SymT) (s:SymT) (d:Int) (t:TransT):TransT:=⟨fi,((ys.idxOf s:Nat):Int),ti,if t.guard= -1 then -1 else t.guard - d,t.sets.map (movS d)⟩
theorem th10 (q:QeaT) (hv:q.vars.Nodup) (hd:(q.decls.map (·.name)).Nodup) (hq:q.nodes.length≤1000) (sl:List StateT) (hsn:(sl.map (·.name)).Nodup) (st:Int) (ys:List SymT) (ns:List NodeT) (ts:List TransT) (hys:∀x∈ys,x.args.length≤1000) (hyl:ys.length<64) (hnl:ns.length≤1000) (htl:ts.length<256)
  (t:TransT) (A B:Nat) (ok:TrOk q t (A:Int) (B:Int)) (s:SymT) (hs:at? q.symbols t.symbol=some s) (hss:symS q s=true) (hsl:s.args.length≤1000) (hst:t.sets.length≤1000) (fi ti:Nat) (xf xt:StateT) (hfx:at? q.states t.from_=some xf) (htx:at? q.states t.to_=some xt) (hfi:sl[fi]? =some xf) (hti:sl[ti]? =some xt):
  HQ G ncct_ [.ref 1001 0 0,tTrV (trT q (t,(A:Int)))] (HK q sl st ys ns ts) .nili (HK q sl st (putY ys s) (nsK q A ns (B - A)) (ts++[trN fi ti ys s ((A:Int) - ns.length) t])):=by
 have hnd:=nd_at ok hs hss;have hB:=ok.ok.he;have hAB:=ok.bk.h1;have hBq:=ok.bk.h2;have hLm:mid q.nodes (A:Int) (endT t (A:Int))=(q.nodes.drop A).take (B - A):=by rw[←hB];unfold mid;rw[zA,zA]
 have e:trT q (t,(A:Int))=⟨xf.name,xt.name,symT q s,((q.nodes.drop A).take (B - A)).map (n14 q (A:Int)),if t.guard= -1 then -1 else t.guard - A,t.sets.map (setT q (A:Int))⟩:=by simp [trT,s20,s30,hfx,htx,hs,hLm]
 rw[e];have hfind:=fp12 (G:=G) q sl st (.seq 2 (ys.map symV)) (.seq 7 (ns.map n11)) (.seq 5 (ts.map t11)) hsn hfi;have hfind2:=fp12 (G:=G) q sl st (.seq 2 ((putY ys s).map symV)) (.seq 7 ((nsK q A ns (B - A)).map n11)) (.seq 5 (ts.map t11)) hsn hti;have hsym:=sh_ (G:=G) q hv hd sl st ys ns ts s hss hsl hys hyl;have hidx:(putY ys s)[ys.idxOf s]? =some s:=by
  unfold putY;split
  ·rename_i h;have hlt:=wP.2 h;rw[zY hlt,uM hlt]
  ·rename_i h;rw[List.idxOf_eq_length h];simp
 have hLl:(((q.nodes.drop A).take (B - A)).map (n14 q (A:Int))).length=B - A:=by simp;omega
 generalize hL:((q.nodes.drop A).take (B - A)).map (n14 q (A:Int))=L at*;have hexpr:=fun r kd h2 h3 h4=>eh_ (G:=G) q hv hq sl st (putY ys s) ts A ns hnl s hsl L r kd 0 (xE _) h2 h3 h4;have hsets:=fun j0 h1 h2=>sh11 (G:=G) q hv hq sl st (putY ys s) ts A ns hnl s hsl L (B - A) (by omega) hnd t.sets hst j0 (B - A) h1 h2 (zE _);have hidl:ys.idxOf s<(putY ys s).length:=(zZ.1 hidx).1;have hend:endT t (A:Int)=endS t.sets (if t.guard= -1 then (A:Int) else t.guard+1):=rfl;have hgd:=ok.gd;have hsto:=ok.st;refine hcct_ fun Φ h=>?_;unfold ccct_;have z1:((ts.length:Int)==256)=false:=by simp;omega
 have w1:IntKind.i64.wrap ((ns.length:Int)+((B - A:Nat):Int))=(ns.length:Int)+((B - A:Nat):Int):=wi_ (by omega) (by omega);have z2:decide ((2048:Int)<(ns.length:Int)+((B - A:Nat):Int))=false:=by simp;omega
 have hys':((putY ys s).map symV)[ys.idxOf s]? =some (symV s):=by rw[zT,hidx];rfl
 have hb1:(ts.length+1)*56≤140737488355328:=by omega
 have hn0:nsK q A ns 0=ns:=by simp [nsK]
 have hlenN:(nsK q A ns (B - A)).length=ns.length+(B - A):=nl12 (by omega);have tkN:((nsK q A ns (B - A)).map n11).take (ns.length+(B - A))=(nsK q A ns (B - A)).map n11:=by rw[←hlenN];exact t25 _ _
 unfold HK at*;unfold HBd at*;unfold ckB at*;simp only[hn0,show ksK q A 0=[] from rfl,vZ,yF] at hexpr;rw[hlenN] at h;unfold trN at h;simp only[zR,yV,yF,zB,xX,xL,yT,t11,s14] at h;generalize putY ys s=Y at*;generalize ys.idxOf s=k at*;clear e hL ok;generalize t.sets.map (setT q (A:Int))=LT at*;generalize t.sets.map (movS ((A:Int) - ns.length))=LM at*;generalize nsK q A ns (B - A)=NS at*;generalize ksK q A (B - A)=KS at*;generalize symT q s=SY at*;obtain⟨sy1,sy2⟩:=SY;obtain⟨s1,s2⟩:=s;simp only[bodE,t30,a_,s14,t19,t27,t16,symV] at*;unfold ckC at*;generalize e10 (dE q)=E1 at*;generalize e10 (vE q)=E2 at*;generalize e10 (sE sl)=E3 at*;by_cases hg:t.guard= -1
 ·rw[zG hg] at h hsto hend ⊢;have hsets:=hsets 0 hsto (by rw[vZ,←hend,←hB];omega);have g1:decide ((0:Int)≤-1)=false:=rfl;simp only[hn0,show ksK q A 0=[] from rfl,vZ,yF] at hsets;clear hexpr hgd
  repeat' (first|simp -implicitDefEqProofs only[go_sem,tTrV,t16,t30,t19,zX,hLl,z1,z2,w1,g1,aa10 hidl,hys',hb1,t11]|refine ag_ (fun hb=>?_) (fun hb=>?_)|refine⟨fun hb=>?_,fun hb=>?_⟩|(refine ac_ hfind ?_ rfl ?_;focus (simp [v_,flat,flat.go,viewBs,viewB,viewK,viewK.go,hget,t25];done);skip)|(refine ac_ hfind2 ?_ rfl ?_;focus (simp [v_,flat,flat.go,viewBs,viewB,viewK,viewK.go,hget,t25,tkN,hlenN];done);skip)|(refine ac10 [(1001,1001),(1006,1006),(1007,1007),(1008,1008)] hsym rfl ⟨⟨_,_,rfl,rfl,rfl⟩,⟨_,_,rfl,rfl,rfl⟩,⟨_,_,rfl,rfl,rfl⟩,⟨_,_,rfl,rfl,rfl⟩,trivial⟩ rfl rfl rfl ?_)|(refine aw_ _ (wn_ (c:=75) 1 127 5 ti_ 1 rfl rfl (yO rfl) rfl (yN _) (yN _) rfl rfl) (ch_ [(1001,1001),(1006,1006),(1007,1007),(1008,1008),(1012,75),(1013,127)] hsets (FitL.refl _) rfl ⟨⟨_,_,rfl,rfl,rfl⟩,⟨_,_,rfl,rfl,rfl⟩,⟨_,_,rfl,rfl,rfl⟩,⟨_,_,rfl,rfl,rfl⟩,⟨_,_,rfl,rfl,rfl⟩,⟨_,_,rfl,rfl,rfl⟩,trivial⟩ rfl rfl rfl ?_))|fail)
  exact h _ ⟨_,_,Weak.refl _,rfl,.refl _,subH.at ⟨rfl,rfl,rfl,rfl,trivial⟩⟩
 ·rw[zF hg] at h hsto hend ⊢;have hw:=hgd.resolve_left hg;obtain⟨ri,e,hri,hre,hek,hek0,hef,haj,hed⟩:=we_ hw;have hrl:=ex_lt hre;obtain⟨r,rfl⟩:∃r,ri=A+r:=⟨ri - A,by omega⟩;have hle:=(sb_ t.sets [] (by omega) (by omega) hsto).h1;have hexpr:=hexpr r 3 (by omega) (fun i hi=>hnd i (by omega)) ⟨e,hre,hek⟩;have e1:t.guard+1=((A+(r+1):Nat):Int):=by omega
  rw[e1] at hsto hend;have hsets:=hsets (r+1) hsto (by rw[←hend,←hB];omega);have e2:t.guard - A=(r:Int):=by omega
  have e3:t.guard - ((A:Int) - ns.length)=(r:Int)+ns.length:=by omega
  rw[e2];rw[e3] at h;have g1:decide ((0:Int)≤(r:Int))=true:=by simp
  have w2:IntKind.i64.wrap ((r:Int)+ns.length)=(r:Int)+ns.length:=wi_ (by omega) (by omega);generalize nsK q A ns (r+1)=NS1 at*;generalize ksK q A (r+1)=KS1 at*
  repeat' (first|simp -implicitDefEqProofs only[go_sem,tTrV,t16,t30,t19,zX,hLl,z1,z2,w1,w2,g1,aa10 hidl,hys',hb1,t11]|refine ag_ (fun hb=>?_) (fun hb=>?_)|refine⟨fun hb=>?_,fun hb=>?_⟩|(refine ac_ hfind ?_ rfl ?_;focus (simp [v_,flat,flat.go,viewBs,viewB,viewK,viewK.go,hget,t25];done);skip)|(refine ac_ hfind2 ?_ rfl ?_;focus (simp [v_,flat,flat.go,viewBs,viewB,viewK,viewK.go,hget,t25,tkN,hlenN];done);skip)|(refine ac10 [(1001,1001),(1006,1006),(1007,1007),(1008,1008)] hsym rfl ⟨⟨_,_,rfl,rfl,rfl⟩,⟨_,_,rfl,rfl,rfl⟩,⟨_,_,rfl,rfl,rfl⟩,⟨_,_,rfl,rfl,rfl⟩,trivial⟩ rfl rfl rfl ?_)|(refine aw_ _ (wn_ (c:=75) 1 127 5 ti_ 1 rfl rfl (yO rfl) rfl (yN _) (yN _) rfl rfl) (ch_ [(1001,1001),(1006,1006),(1007,1007),(1008,1008),(1012,75),(1013,127)] hexpr (FitL.refl _) rfl ⟨⟨_,_,rfl,rfl,rfl⟩,⟨_,_,rfl,rfl,rfl⟩,⟨_,_,rfl,rfl,rfl⟩,⟨_,_,rfl,rfl,rfl⟩,⟨_,_,rfl,rfl,rfl⟩,⟨_,_,rfl,rfl,rfl⟩,trivial⟩ rfl rfl rfl ?_))|(refine ac10 [(1001,1001),(1006,1006),(1007,1007),(1008,1008),(1012,75),(1013,127)] hsets rfl ⟨⟨_,_,rfl,rfl,rfl⟩,⟨_,_,rfl,rfl,rfl⟩,⟨_,_,rfl,rfl,rfl⟩,⟨_,_,rfl,rfl,rfl⟩,⟨_,_,rfl,rfl,rfl⟩,⟨_,_,rfl,rfl,rfl⟩,trivial⟩ rfl rfl rfl ?_)|fail)
  exact h _ ⟨_,_,Weak.refl _,rfl,.refl _,subH.at ⟨rfl,rfl,rfl,rfl,trivial⟩⟩
