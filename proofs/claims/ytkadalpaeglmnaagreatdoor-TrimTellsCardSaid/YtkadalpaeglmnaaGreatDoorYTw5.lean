/-
  Lemmas. No claim is proved here.
-/
import Derived.Test.YtkadalpaeglmnaaGreatDoorYTc9
namespace Go.Proofs.YtkadalpaeglmnaaGreatDoor.Ab
open Go Go.RowKit
set_option linter.unusedSimpArgs false
set_option maxHeartbeats 4000000
set_option maxRecDepth 100000
variable {G:Nat→Option AV}
theorem sI15 (f:Nat) (caps:List AV) (hf:b_ Tryz.prog f=true) (hcap:OkC caps) (p:TArgT→Bool) (l:List TArgT) (hp:∀x∈l,PQ G f (t28 x::caps) (.bool (p x))) (hl:l.length<9223372036854775807):
  PQ G ns24 [.seq 8 (l.map t28),.fn f caps] (iv (idxF p l)):=by
 refine ps21 fun Φ h=>?_;unfold cs23;simp -implicitDefEqProofs only[go_sem,zX];refine al_ (fun n st=>∃i:Nat,i+n=l.length∧st=⟨19,[(0,.seq 8 (l.map t28)),(1,.fn f caps),(7,iv l.length),(8,iv i)],[]⟩∧∀j x,j<i→l[j]? =some x→p x=false) l.length ⟨0,by simp,rfl,fun j x hj=>by omega⟩ ?_;rintro I hI n st ⟨i,hi,rfl,hno⟩;simp -implicitDefEqProofs only[go_sem];refine⟨fun hlt=>?_,fun hge=>?_⟩
 ·have hlt':i<l.length:=by omega
  obtain⟨x,hx,hm⟩:=as10 hlt';have hw:=ws_ hlt' (by omega);simp -implicitDefEqProofs only[go_sem,am_ hx,hcap.purge,t28];refine⟨hf,ac_ (hp x hm) (by simp [v_,flat,viewBs,viewB,viewK,viewK.go,hcap.viewBs,t28]) rfl ?_⟩;cases hpx:p x
  ·simp -implicitDefEqProofs only[go_sem,hw,hcap.purge];exact aa_ (n - 1) (by omega) (hI _ _ ⟨i+1,by omega,rfl,fun j y hj hy=>by
    by_cases e:j=i
    ·subst e;rw[hx] at hy;cases hy;exact hpx
    ·exact hno j y (by omega) hy⟩)
  ·simp -implicitDefEqProofs only[go_sem,hcap.purge];exact h _ ⟨_,_,rfl,rfl,fitI (ia10 hx hpx hno).symm⟩
 ·have:i=l.length:=by omega
  subst this;exact h _ ⟨_,_,rfl,rfl,fitI (in10 hno).symm⟩
theorem sC16 (f:Nat) (caps:List AV) (hf:b_ Tryz.prog f=true) (hcap:OkC caps) (p:TArgT→Bool) (l:List TArgT) (hp:∀x∈l,PQ G f (t28 x::caps) (.bool (p x))) (hl:l.length<9223372036854775807):
  PQ G ns20 [.seq 8 (l.map t28),.fn f caps] (.bool (l.any p)):=by
 refine ps18 fun Φ h=>?_;unfold cs19;simp -implicitDefEqProofs only[go_sem];refine ac_ (sI15 f caps hf hcap p l hp hl) (by simp [v_,flat,viewBs,viewB,viewK,hcap.viewK]) rfl ?_;simp -implicitDefEqProofs only[go_sem,hcap.purge];exact h _ ⟨_,_,rfl,rfl,fitB (ia_ _ _)⟩
theorem ta30 (f:Nat) (caps:List AV) (hf:b_ Tryz.prog f=true) (hcap:OkC caps) (x:TArgT) (b:Bool) (hc:PQ G f (t28 x::caps) (.bool b)):PQ G nt16 [t28 x,.eptr (.fn f caps) 0] (.bool (!b)):=by refine pt18 fun Φ h=>?_;unfold ct20;simp only[t28] at hc;simp -implicitDefEqProofs only[go_sem,hcap.purge,t28];refine⟨hf,ac_ hc (by simp [v_,flat,flat.go,viewBs,viewAll,view,view.go,viewB,viewK,viewK.go,hget,hcap.viewBs,hcap.viewAll,hcap.view,hcap.viewK,t28]) rfl ?_⟩;simp -implicitDefEqProofs only[go_sem,hcap.purge];exact h _ ⟨_,_,rfl,rfl,.refl _⟩
theorem ta33 (f:Nat) (caps:List AV) (hf:b_ Tryz.prog f=true) (hcap:OkC caps) (p:TArgT→Bool) (l:List TArgT) (hp:∀x∈l,PQ G f (t28 x::caps) (.bool (p x))) (hl:l.length<9223372036854775807):
  PQ G nt24 [.seq 8 (l.map t28),.fn f caps] (.bool (l.all p)):=by
 have hc:=sC16 (G:=G) nt16 [.eptr (.fn f caps) 0] (by kernel_rfl) of_ (fun x=>!p x) l (fun x hx=>ta30 f caps hf hcap x _ (hp x hx)) hl;refine pt21 fun Φ h=>?_;unfold ct24;simp -implicitDefEqProofs only[go_sem,hcap.purge];refine ac_ hc (by simp [v_,flat,flat.go,viewBs,viewAll,view,view.go,viewB,viewK,viewK.go,hget,hcap.viewBs,hcap.viewAll,hcap.view,hcap.viewK]) rfl ?_;simp -implicitDefEqProofs only[go_sem,hcap.purge];exact h _ ⟨_,_,rfl,rfl,fitB (by rw[wK])⟩
theorem sI14 (f:Nat) (caps:List AV) (hf:b_ Tryz.prog f=true) (hcap:OkC caps) (p:DeclT→Bool) (l:List DeclT) (hp:∀x∈l,PQ G f (t21 x::caps) (.bool (p x))) (hl:l.length<9223372036854775807):
  PQ G ns22 [.seq 4 (l.map t21),.fn f caps] (iv (idxF p l)):=by
 refine ps20 fun Φ h=>?_;unfold cs21;simp -implicitDefEqProofs only[go_sem,zX];refine al_ (fun n st=>∃i:Nat,i+n=l.length∧st=⟨19,[(0,.seq 4 (l.map t21)),(1,.fn f caps),(7,iv l.length),(8,iv i)],[]⟩∧∀j x,j<i→l[j]? =some x→p x=false) l.length ⟨0,by simp,rfl,fun j x hj=>by omega⟩ ?_;rintro I hI n st ⟨i,hi,rfl,hno⟩;simp -implicitDefEqProofs only[go_sem];refine⟨fun hlt=>?_,fun hge=>?_⟩
 ·have hlt':i<l.length:=by omega
  obtain⟨x,hx,hm⟩:=as10 hlt';have hw:=ws_ hlt' (by omega);simp -implicitDefEqProofs only[go_sem,am_ hx,hcap.purge,t21,i10];refine⟨hf,ac_ (hp x hm) (by simp [v_,flat,viewBs,viewB,viewK,viewK.go,hcap.viewBs,t21,i10]) rfl ?_⟩;cases hpx:p x
  ·simp -implicitDefEqProofs only[go_sem,hw,hcap.purge];exact aa_ (n - 1) (by omega) (hI _ _ ⟨i+1,by omega,rfl,fun j y hj hy=>by
    by_cases e:j=i
    ·subst e;rw[hx] at hy;cases hy;exact hpx
    ·exact hno j y (by omega) hy⟩)
  ·simp -implicitDefEqProofs only[go_sem,hcap.purge];exact h _ ⟨_,_,rfl,rfl,fitI (ia10 hx hpx hno).symm⟩
 ·have:i=l.length:=by omega
  subst this;exact h _ ⟨_,_,rfl,rfl,fitI (in10 hno).symm⟩
theorem sC15 (f:Nat) (caps:List AV) (hf:b_ Tryz.prog f=true) (hcap:OkC caps) (p:DeclT→Bool) (l:List DeclT) (hp:∀x∈l,PQ G f (t21 x::caps) (.bool (p x))) (hl:l.length<9223372036854775807):
  PQ G ns14 [.seq 4 (l.map t21),.fn f caps] (.bool (l.any p)):=by
 refine ps14 fun Φ h=>?_;unfold cs14;simp -implicitDefEqProofs only[go_sem];refine ac_ (sI14 f caps hf hcap p l hp hl) (by simp [v_,flat,viewBs,viewB,viewK,hcap.viewK]) rfl ?_;simp -implicitDefEqProofs only[go_sem,hcap.purge];exact h _ ⟨_,_,rfl,rfl,fitB (ia_ _ _)⟩
theorem ta26 (f:Nat) (caps:List AV) (hf:b_ Tryz.prog f=true) (hcap:OkC caps) (x:DeclT) (b:Bool) (hc:PQ G f (t21 x::caps) (.bool b)):PQ G nt15 [t21 x,.eptr (.fn f caps) 0] (.bool (!b)):=by refine pt14 fun Φ h=>?_;unfold ct15;simp only[t21,i10] at hc;simp -implicitDefEqProofs only[go_sem,hcap.purge,t21,i10];refine⟨hf,ac_ hc (by simp [v_,flat,flat.go,viewBs,viewAll,view,view.go,viewB,viewK,viewK.go,hget,hcap.viewBs,hcap.viewAll,hcap.view,hcap.viewK,t21,i10]) rfl ?_⟩;simp -implicitDefEqProofs only[go_sem,hcap.purge];exact h _ ⟨_,_,rfl,rfl,.refl _⟩
theorem ta32 (f:Nat) (caps:List AV) (hf:b_ Tryz.prog f=true) (hcap:OkC caps) (p:DeclT→Bool) (l:List DeclT) (hp:∀x∈l,PQ G f (t21 x::caps) (.bool (p x))) (hl:l.length<9223372036854775807):
  PQ G nt22 [.seq 4 (l.map t21),.fn f caps] (.bool (l.all p)):=by
 have hc:=sC15 (G:=G) nt15 [.eptr (.fn f caps) 0] (by kernel_rfl) of_ (fun x=>!p x) l (fun x hx=>ta26 f caps hf hcap x _ (hp x hx)) hl;refine pt20 fun Φ h=>?_;unfold ct22;simp -implicitDefEqProofs only[go_sem,hcap.purge];refine ac_ hc (by simp [v_,flat,flat.go,viewBs,viewAll,view,view.go,viewB,viewK,viewK.go,hget,hcap.viewBs,hcap.viewAll,hcap.view,hcap.viewK]) rfl ?_;simp -implicitDefEqProofs only[go_sem,hcap.purge];exact h _ ⟨_,_,rfl,rfl,fitB (by rw[wK])⟩
theorem sI12 (f:Nat) (caps:List AV) (hf:b_ Tryz.prog f=true) (hcap:OkC caps) (p:QuantT→Bool) (l:List QuantT) (hp:∀x∈l,PQ G f (t14 x::caps) (.bool (p x))) (hl:l.length<9223372036854775807):
  PQ G ns17 [.seq 5 (l.map t14),.fn f caps] (iv (idxF p l)):=by
 refine ps17 fun Φ h=>?_;unfold cs17;simp -implicitDefEqProofs only[go_sem,zX];refine al_ (fun n st=>∃i:Nat,i+n=l.length∧st=⟨19,[(0,.seq 5 (l.map t14)),(1,.fn f caps),(7,iv l.length),(8,iv i)],[]⟩∧∀j x,j<i→l[j]? =some x→p x=false) l.length ⟨0,by simp,rfl,fun j x hj=>by omega⟩ ?_;rintro I hI n st ⟨i,hi,rfl,hno⟩;simp -implicitDefEqProofs only[go_sem];refine⟨fun hlt=>?_,fun hge=>?_⟩
 ·have hlt':i<l.length:=by omega
  obtain⟨x,hx,hm⟩:=as10 hlt';have hw:=ws_ hlt' (by omega);simp -implicitDefEqProofs only[go_sem,am_ hx,hcap.purge,t14];refine⟨hf,ac_ (hp x hm) (by simp [v_,flat,viewBs,viewB,viewK,viewK.go,hcap.viewBs,t14]) rfl ?_⟩;cases hpx:p x
  ·simp -implicitDefEqProofs only[go_sem,hw,hcap.purge];exact aa_ (n - 1) (by omega) (hI _ _ ⟨i+1,by omega,rfl,fun j y hj hy=>by
    by_cases e:j=i
    ·subst e;rw[hx] at hy;cases hy;exact hpx
    ·exact hno j y (by omega) hy⟩)
  ·simp -implicitDefEqProofs only[go_sem,hcap.purge];exact h _ ⟨_,_,rfl,rfl,fitI (ia10 hx hpx hno).symm⟩
 ·have:i=l.length:=by omega
  subst this;exact h _ ⟨_,_,rfl,rfl,fitI (in10 hno).symm⟩
theorem sC13 (f:Nat) (caps:List AV) (hf:b_ Tryz.prog f=true) (hcap:OkC caps) (p:QuantT→Bool) (l:List QuantT) (hp:∀x∈l,PQ G f (t14 x::caps) (.bool (p x))) (hl:l.length<9223372036854775807):
  PQ G ns12 [.seq 5 (l.map t14),.fn f caps] (.bool (l.any p)):=by
 refine ps12 fun Φ h=>?_;unfold cs12;simp -implicitDefEqProofs only[go_sem];refine ac_ (sI12 f caps hf hcap p l hp hl) (by simp [v_,flat,viewBs,viewB,viewK,hcap.viewK]) rfl ?_;simp -implicitDefEqProofs only[go_sem,hcap.purge];exact h _ ⟨_,_,rfl,rfl,fitB (ia_ _ _)⟩
theorem ta24 (f:Nat) (caps:List AV) (hf:b_ Tryz.prog f=true) (hcap:OkC caps) (x:QuantT) (b:Bool) (hc:PQ G f (t14 x::caps) (.bool b)):PQ G nt13 [t14 x,.eptr (.fn f caps) 0] (.bool (!b)):=by refine pt12 fun Φ h=>?_;unfold ct12;simp only[t14] at hc;simp -implicitDefEqProofs only[go_sem,hcap.purge,t14];refine⟨hf,ac_ hc (by simp [v_,flat,flat.go,viewBs,viewAll,view,view.go,viewB,viewK,viewK.go,hget,hcap.viewBs,hcap.viewAll,hcap.view,hcap.viewK,t14]) rfl ?_⟩;simp -implicitDefEqProofs only[go_sem,hcap.purge];exact h _ ⟨_,_,rfl,rfl,.refl _⟩
theorem ta29 (f:Nat) (caps:List AV) (hf:b_ Tryz.prog f=true) (hcap:OkC caps) (p:QuantT→Bool) (l:List QuantT) (hp:∀x∈l,PQ G f (t14 x::caps) (.bool (p x))) (hl:l.length<9223372036854775807):
  PQ G nt20 [.seq 5 (l.map t14),.fn f caps] (.bool (l.all p)):=by
 have hc:=sC13 (G:=G) nt13 [.eptr (.fn f caps) 0] (by kernel_rfl) of_ (fun x=>!p x) l (fun x hx=>ta24 f caps hf hcap x _ (hp x hx)) hl;refine pt17 fun Φ h=>?_;unfold ct19;simp -implicitDefEqProofs only[go_sem,hcap.purge];refine ac_ hc (by simp [v_,flat,flat.go,viewBs,viewAll,view,view.go,viewB,viewK,viewK.go,hget,hcap.viewBs,hcap.viewAll,hcap.view,hcap.viewK]) rfl ?_;simp -implicitDefEqProofs only[go_sem,hcap.purge];exact h _ ⟨_,_,rfl,rfl,fitB (by rw[wK])⟩
theorem sI13 (f:Nat) (caps:List AV) (hf:b_ Tryz.prog f=true) (hcap:OkC caps) (p:FreeT→Bool) (l:List FreeT) (hp:∀x∈l,PQ G f (t20 x::caps) (.bool (p x))) (hl:l.length<9223372036854775807):
  PQ G ns21 [.seq 7 (l.map t20),.fn f caps] (iv (idxF p l)):=by
 refine ps19 fun Φ h=>?_;unfold cs20;simp -implicitDefEqProofs only[go_sem,zX];refine al_ (fun n st=>∃i:Nat,i+n=l.length∧st=⟨19,[(0,.seq 7 (l.map t20)),(1,.fn f caps),(7,iv l.length),(8,iv i)],[]⟩∧∀j x,j<i→l[j]? =some x→p x=false) l.length ⟨0,by simp,rfl,fun j x hj=>by omega⟩ ?_;rintro I hI n st ⟨i,hi,rfl,hno⟩;simp -implicitDefEqProofs only[go_sem];refine⟨fun hlt=>?_,fun hge=>?_⟩
 ·have hlt':i<l.length:=by omega
  obtain⟨x,hx,hm⟩:=as10 hlt';have hw:=ws_ hlt' (by omega);simp -implicitDefEqProofs only[go_sem,am_ hx,hcap.purge,t20];refine⟨hf,ac_ (hp x hm) (by simp [v_,flat,viewBs,viewB,viewK,viewK.go,hcap.viewBs,t20]) rfl ?_⟩;cases hpx:p x
  ·simp -implicitDefEqProofs only[go_sem,hw,hcap.purge];exact aa_ (n - 1) (by omega) (hI _ _ ⟨i+1,by omega,rfl,fun j y hj hy=>by
    by_cases e:j=i
    ·subst e;rw[hx] at hy;cases hy;exact hpx
    ·exact hno j y (by omega) hy⟩)
  ·simp -implicitDefEqProofs only[go_sem,hcap.purge];exact h _ ⟨_,_,rfl,rfl,fitI (ia10 hx hpx hno).symm⟩
 ·have:i=l.length:=by omega
  subst this;exact h _ ⟨_,_,rfl,rfl,fitI (in10 hno).symm⟩
theorem sC14 (f:Nat) (caps:List AV) (hf:b_ Tryz.prog f=true) (hcap:OkC caps) (p:FreeT→Bool) (l:List FreeT) (hp:∀x∈l,PQ G f (t20 x::caps) (.bool (p x))) (hl:l.length<9223372036854775807):
  PQ G ns13 [.seq 7 (l.map t20),.fn f caps] (.bool (l.any p)):=by
 refine ps13 fun Φ h=>?_;unfold cs13;simp -implicitDefEqProofs only[go_sem];refine ac_ (sI13 f caps hf hcap p l hp hl) (by simp [v_,flat,viewBs,viewB,viewK,hcap.viewK]) rfl ?_;simp -implicitDefEqProofs only[go_sem,hcap.purge];exact h _ ⟨_,_,rfl,rfl,fitB (ia_ _ _)⟩
theorem ta25 (f:Nat) (caps:List AV) (hf:b_ Tryz.prog f=true) (hcap:OkC caps) (x:FreeT) (b:Bool) (hc:PQ G f (t20 x::caps) (.bool b)):PQ G nt14 [t20 x,.eptr (.fn f caps) 0] (.bool (!b)):=by refine pt13 fun Φ h=>?_;unfold ct14;simp only[t20] at hc;simp -implicitDefEqProofs only[go_sem,hcap.purge,t20];refine⟨hf,ac_ hc (by simp [v_,flat,flat.go,viewBs,viewAll,view,view.go,viewB,viewK,viewK.go,hget,hcap.viewBs,hcap.viewAll,hcap.view,hcap.viewK,t20]) rfl ?_⟩;simp -implicitDefEqProofs only[go_sem,hcap.purge];exact h _ ⟨_,_,rfl,rfl,.refl _⟩
theorem ta31 (f:Nat) (caps:List AV) (hf:b_ Tryz.prog f=true) (hcap:OkC caps) (p:FreeT→Bool) (l:List FreeT) (hp:∀x∈l,PQ G f (t20 x::caps) (.bool (p x))) (hl:l.length<9223372036854775807):
  PQ G nt21 [.seq 7 (l.map t20),.fn f caps] (.bool (l.all p)):=by
 have hc:=sC14 (G:=G) nt14 [.eptr (.fn f caps) 0] (by kernel_rfl) of_ (fun x=>!p x) l (fun x hx=>ta25 f caps hf hcap x _ (hp x hx)) hl;refine pt19 fun Φ h=>?_;unfold ct21;simp -implicitDefEqProofs only[go_sem,hcap.purge];refine ac_ hc (by simp [v_,flat,flat.go,viewBs,viewAll,view,view.go,viewB,viewK,viewK.go,hget,hcap.viewBs,hcap.viewAll,hcap.view,hcap.viewK]) rfl ?_;simp -implicitDefEqProofs only[go_sem,hcap.purge];exact h _ ⟨_,_,rfl,rfl,fitB (by rw[wK])⟩
theorem sI11 (f:Nat) (caps:List AV) (hf:b_ Tryz.prog f=true) (hcap:OkC caps) (p:StateT→Bool) (l:List StateT) (hp:∀x∈l,PQ G f (t13 x::caps) (.bool (p x))) (hl:l.length<9223372036854775807):
  PQ G ns16 [.seq 5 (l.map t13),.fn f caps] (iv (idxF p l)):=by
 refine ps16 fun Φ h=>?_;unfold cs16;simp -implicitDefEqProofs only[go_sem,zX];refine al_ (fun n st=>∃i:Nat,i+n=l.length∧st=⟨19,[(0,.seq 5 (l.map t13)),(1,.fn f caps),(7,iv l.length),(8,iv i)],[]⟩∧∀j x,j<i→l[j]? =some x→p x=false) l.length ⟨0,by simp,rfl,fun j x hj=>by omega⟩ ?_;rintro I hI n st ⟨i,hi,rfl,hno⟩;simp -implicitDefEqProofs only[go_sem];refine⟨fun hlt=>?_,fun hge=>?_⟩
 ·have hlt':i<l.length:=by omega
  obtain⟨x,hx,hm⟩:=as10 hlt';have hw:=ws_ hlt' (by omega);simp -implicitDefEqProofs only[go_sem,am_ hx,hcap.purge,t13];refine⟨hf,ac_ (hp x hm) (by simp [v_,flat,viewBs,viewB,viewK,viewK.go,hcap.viewBs,t13]) rfl ?_⟩;cases hpx:p x
  ·simp -implicitDefEqProofs only[go_sem,hw,hcap.purge];exact aa_ (n - 1) (by omega) (hI _ _ ⟨i+1,by omega,rfl,fun j y hj hy=>by
    by_cases e:j=i
    ·subst e;rw[hx] at hy;cases hy;exact hpx
    ·exact hno j y (by omega) hy⟩)
  ·simp -implicitDefEqProofs only[go_sem,hcap.purge];exact h _ ⟨_,_,rfl,rfl,fitI (ia10 hx hpx hno).symm⟩
 ·have:i=l.length:=by omega
  subst this;exact h _ ⟨_,_,rfl,rfl,fitI (in10 hno).symm⟩
theorem sC12 (f:Nat) (caps:List AV) (hf:b_ Tryz.prog f=true) (hcap:OkC caps) (p:StateT→Bool) (l:List StateT) (hp:∀x∈l,PQ G f (t13 x::caps) (.bool (p x))) (hl:l.length<9223372036854775807):
  PQ G ns11 [.seq 5 (l.map t13),.fn f caps] (.bool (l.any p)):=by
 refine ps11 fun Φ h=>?_;unfold cs11;simp -implicitDefEqProofs only[go_sem];refine ac_ (sI11 f caps hf hcap p l hp hl) (by simp [v_,flat,viewBs,viewB,viewK,hcap.viewK]) rfl ?_;simp -implicitDefEqProofs only[go_sem,hcap.purge];exact h _ ⟨_,_,rfl,rfl,fitB (ia_ _ _)⟩
theorem ta23 (f:Nat) (caps:List AV) (hf:b_ Tryz.prog f=true) (hcap:OkC caps) (x:StateT) (b:Bool) (hc:PQ G f (t13 x::caps) (.bool b)):PQ G nt12 [t13 x,.eptr (.fn f caps) 0] (.bool (!b)):=by refine pt11 fun Φ h=>?_;unfold ct11;simp only[t13] at hc;simp -implicitDefEqProofs only[go_sem,hcap.purge,t13];refine⟨hf,ac_ hc (by simp [v_,flat,flat.go,viewBs,viewAll,view,view.go,viewB,viewK,viewK.go,hget,hcap.viewBs,hcap.viewAll,hcap.view,hcap.viewK,t13]) rfl ?_⟩;simp -implicitDefEqProofs only[go_sem,hcap.purge];exact h _ ⟨_,_,rfl,rfl,.refl _⟩
theorem ta28 (f:Nat) (caps:List AV) (hf:b_ Tryz.prog f=true) (hcap:OkC caps) (p:StateT→Bool) (l:List StateT) (hp:∀x∈l,PQ G f (t13 x::caps) (.bool (p x))) (hl:l.length<9223372036854775807):
  PQ G nt19 [.seq 5 (l.map t13),.fn f caps] (.bool (l.all p)):=by
 have hc:=sC12 (G:=G) nt12 [.eptr (.fn f caps) 0] (by kernel_rfl) of_ (fun x=>!p x) l (fun x hx=>ta23 f caps hf hcap x _ (hp x hx)) hl;refine pt16 fun Φ h=>?_;unfold ct17;simp -implicitDefEqProofs only[go_sem,hcap.purge];refine ac_ hc (by simp [v_,flat,flat.go,viewBs,viewAll,view,view.go,viewB,viewK,viewK.go,hget,hcap.viewBs,hcap.viewAll,hcap.view,hcap.viewK]) rfl ?_;simp -implicitDefEqProofs only[go_sem,hcap.purge];exact h _ ⟨_,_,rfl,rfl,fitB (by rw[wK])⟩
theorem sIaTaTp_ (f:Nat) (caps:List AV) (hf:b_ Tryz.prog f=true) (hcap:OkC caps) (p:TSymT→Bool) (l:List TSymT) (hp:∀x∈l,PQ G f (t27 x::caps) (.bool (p x))) (hl:l.length<9223372036854775807):
  PQ G nsIaTaT_ [.seq 4 (l.map t27),.fn f caps] (iv (idxF p l)):=by
 refine psIaTaT_ fun Φ h=>?_;unfold csIaTaT_;simp -implicitDefEqProofs only[go_sem,zX];refine al_ (fun n st=>∃i:Nat,i+n=l.length∧st=⟨19,[(0,.seq 4 (l.map t27)),(1,.fn f caps),(7,iv l.length),(8,iv i)],[]⟩∧∀j x,j<i→l[j]? =some x→p x=false) l.length ⟨0,by simp,rfl,fun j x hj=>by omega⟩ ?_;rintro I hI n st ⟨i,hi,rfl,hno⟩;simp -implicitDefEqProofs only[go_sem];refine⟨fun hlt=>?_,fun hge=>?_⟩
 ·have hlt':i<l.length:=by omega
  obtain⟨x,hx,hm⟩:=as10 hlt';have hw:=ws_ hlt' (by omega);simp -implicitDefEqProofs only[go_sem,am_ hx,hcap.purge,t27,t16];refine⟨hf,ac_ (hp x hm) (by simp [v_,flat,viewBs,viewB,viewK,viewK.go,hcap.viewBs,t27,t16]) rfl ?_⟩;cases hpx:p x
  ·simp -implicitDefEqProofs only[go_sem,hw,hcap.purge];exact aa_ (n - 1) (by omega) (hI _ _ ⟨i+1,by omega,rfl,fun j y hj hy=>by
    by_cases e:j=i
    ·subst e;rw[hx] at hy;cases hy;exact hpx
    ·exact hno j y (by omega) hy⟩)
  ·simp -implicitDefEqProofs only[go_sem,hcap.purge];exact h _ ⟨_,_,rfl,rfl,fitI (ia10 hx hpx hno).symm⟩
 ·have:i=l.length:=by omega
  subst this;exact h _ ⟨_,_,rfl,rfl,fitI (in10 hno).symm⟩
theorem sCaTaTp_ (f:Nat) (caps:List AV) (hf:b_ Tryz.prog f=true) (hcap:OkC caps) (p:TSymT→Bool) (l:List TSymT) (hp:∀x∈l,PQ G f (t27 x::caps) (.bool (p x))) (hl:l.length<9223372036854775807):
  PQ G nsCaTaT_ [.seq 4 (l.map t27),.fn f caps] (.bool (l.any p)):=by
 refine psCaTaT_ fun Φ h=>?_;unfold csCaTaT_;simp -implicitDefEqProofs only[go_sem];refine ac_ (sIaTaTp_ f caps hf hcap p l hp hl) (by simp [v_,flat,viewBs,viewB,viewK,hcap.viewK]) rfl ?_;simp -implicitDefEqProofs only[go_sem,hcap.purge];exact h _ ⟨_,_,rfl,rfl,fitB (ia_ _ _)⟩
theorem taaT1p_ (f:Nat) (caps:List AV) (hf:b_ Tryz.prog f=true) (hcap:OkC caps) (x:TSymT) (b:Bool) (hc:PQ G f (t27 x::caps) (.bool b)):PQ G nt10 [t27 x,.eptr (.fn f caps) 0] (.bool (!b)):=by refine ptaaT1_ fun Φ h=>?_;unfold ctaaT1_;simp only[t27,t16] at hc;simp -implicitDefEqProofs only[go_sem,hcap.purge,t27,t16];refine⟨hf,ac_ hc (by simp [v_,flat,flat.go,viewBs,viewAll,view,view.go,viewB,viewK,viewK.go,hget,hcap.viewBs,hcap.viewAll,hcap.view,hcap.viewK,t27,t16]) rfl ?_⟩;simp -implicitDefEqProofs only[go_sem,hcap.purge];exact h _ ⟨_,_,rfl,rfl,.refl _⟩
theorem taaTp_ (f:Nat) (caps:List AV) (hf:b_ Tryz.prog f=true) (hcap:OkC caps) (p:TSymT→Bool) (l:List TSymT) (hp:∀x∈l,PQ G f (t27 x::caps) (.bool (p x))) (hl:l.length<9223372036854775807):
  PQ G ntaaT_ [.seq 4 (l.map t27),.fn f caps] (.bool (l.all p)):=by
 have hc:=sCaTaTp_ (G:=G) nt10 [.eptr (.fn f caps) 0] (by kernel_rfl) of_ (fun x=>!p x) l (fun x hx=>taaT1p_ f caps hf hcap x _ (hp x hx)) hl;refine ptaaT_ fun Φ h=>?_;unfold ctaaT_;simp -implicitDefEqProofs only[go_sem,hcap.purge];refine ac_ hc (by simp [v_,flat,flat.go,viewBs,viewAll,view,view.go,viewB,viewK,viewK.go,hget,hcap.viewBs,hcap.viewAll,hcap.view,hcap.viewK]) rfl ?_;simp -implicitDefEqProofs only[go_sem,hcap.purge];exact h _ ⟨_,_,rfl,rfl,fitB (by rw[wK])⟩
theorem sI10 (f:Nat) (caps:List AV) (hf:b_ Tryz.prog f=true) (hcap:OkC caps) (p:TTrT→Bool) (l:List TTrT) (hp:∀x∈l,PQ G f (tTrV x::caps) (.bool (p x))) (hl:l.length<9223372036854775807):
  PQ G ns15 [.seq 13 (l.map tTrV),.fn f caps] (iv (idxF p l)):=by
 refine ps15 fun Φ h=>?_;unfold cs15;simp -implicitDefEqProofs only[go_sem,zX];refine al_ (fun n st=>∃i:Nat,i+n=l.length∧st=⟨19,[(0,.seq 13 (l.map tTrV)),(1,.fn f caps),(7,iv l.length),(8,iv i)],[]⟩∧∀j x,j<i→l[j]? =some x→p x=false) l.length ⟨0,by simp,rfl,fun j x hj=>by omega⟩ ?_;rintro I hI n st ⟨i,hi,rfl,hno⟩;simp -implicitDefEqProofs only[go_sem];refine⟨fun hlt=>?_,fun hge=>?_⟩
 ·have hlt':i<l.length:=by omega
  obtain⟨x,hx,hm⟩:=as10 hlt';have hw:=ws_ hlt' (by omega);simp -implicitDefEqProofs only[go_sem,am_ hx,hcap.purge,tTrV,t16,t30,t19];refine⟨hf,ac_ (hp x hm) (by simp [v_,flat,viewBs,viewB,viewK,viewK.go,hcap.viewBs,tTrV,t16,t30,t19]) rfl ?_⟩;cases hpx:p x
  ·simp -implicitDefEqProofs only[go_sem,hw,hcap.purge];exact aa_ (n - 1) (by omega) (hI _ _ ⟨i+1,by omega,rfl,fun j y hj hy=>by
    by_cases e:j=i
    ·subst e;rw[hx] at hy;cases hy;exact hpx
    ·exact hno j y (by omega) hy⟩)
  ·simp -implicitDefEqProofs only[go_sem,hcap.purge];exact h _ ⟨_,_,rfl,rfl,fitI (ia10 hx hpx hno).symm⟩
 ·have:i=l.length:=by omega
  subst this;exact h _ ⟨_,_,rfl,rfl,fitI (in10 hno).symm⟩
theorem sC10 (f:Nat) (caps:List AV) (hf:b_ Tryz.prog f=true) (hcap:OkC caps) (p:TTrT→Bool) (l:List TTrT) (hp:∀x∈l,PQ G f (tTrV x::caps) (.bool (p x))) (hl:l.length<9223372036854775807):
  PQ G ns10 [.seq 13 (l.map tTrV),.fn f caps] (.bool (l.any p)):=by
 refine ps10 fun Φ h=>?_;unfold cs10;simp -implicitDefEqProofs only[go_sem];refine ac_ (sI10 f caps hf hcap p l hp hl) (by simp [v_,flat,viewBs,viewB,viewK,hcap.viewK]) rfl ?_;simp -implicitDefEqProofs only[go_sem,hcap.purge];exact h _ ⟨_,_,rfl,rfl,fitB (ia_ _ _)⟩
theorem ta22 (f:Nat) (caps:List AV) (hf:b_ Tryz.prog f=true) (hcap:OkC caps) (x:TTrT) (b:Bool) (hc:PQ G f (tTrV x::caps) (.bool b)):PQ G nt11 [tTrV x,.eptr (.fn f caps) 0] (.bool (!b)):=by refine pt10 fun Φ h=>?_;unfold ct10;simp only[tTrV,t16,t30,t19] at hc;simp -implicitDefEqProofs only[go_sem,hcap.purge,tTrV,t16,t30,t19];refine⟨hf,ac_ hc (by simp [v_,flat,flat.go,viewBs,viewAll,view,view.go,viewB,viewK,viewK.go,hget,hcap.viewBs,hcap.viewAll,hcap.view,hcap.viewK,tTrV,t16,t30,t19]) rfl ?_⟩;simp -implicitDefEqProofs only[go_sem,hcap.purge];exact h _ ⟨_,_,rfl,rfl,.refl _⟩
theorem ta27 (f:Nat) (caps:List AV) (hf:b_ Tryz.prog f=true) (hcap:OkC caps) (p:TTrT→Bool) (l:List TTrT) (hp:∀x∈l,PQ G f (tTrV x::caps) (.bool (p x))) (hl:l.length<9223372036854775807):
  PQ G nt18 [.seq 13 (l.map tTrV),.fn f caps] (.bool (l.all p)):=by
 have hc:=sC10 (G:=G) nt11 [.eptr (.fn f caps) 0] (by kernel_rfl) of_ (fun x=>!p x) l (fun x hx=>ta22 f caps hf hcap x _ (hp x hx)) hl;refine pt15 fun Φ h=>?_;unfold ct16;simp -implicitDefEqProofs only[go_sem,hcap.purge];refine ac_ hc (by simp [v_,flat,flat.go,viewBs,viewAll,view,view.go,viewB,viewK,viewK.go,hget,hcap.viewBs,hcap.viewAll,hcap.view,hcap.viewK]) rfl ?_;simp -implicitDefEqProofs only[go_sem,hcap.purge];exact h _ ⟨_,_,rfl,rfl,fitB (by rw[wK])⟩
theorem tai1p_ (f:Nat) (caps:List AV) (hf:b_ Tryz.prog f=true) (hcap:OkC caps) (x:Int) (b:Bool) (hc:PQ G f (iv x::caps) (.bool b)):PQ G ntai1_ [iv x,.eptr (.fn f caps) 0] (.bool (!b)):=by
 refine ptai1_ fun Φ h=>?_;unfold ctai1_
 skip
 simp -implicitDefEqProofs only[go_sem,hcap.purge];refine⟨hf,ac_ hc (by simp [v_,flat,flat.go,viewBs,viewAll,view,view.go,viewB,viewK,viewK.go,hget,hcap.viewBs,hcap.viewAll,hcap.view,hcap.viewK]) rfl ?_⟩;simp -implicitDefEqProofs only[go_sem,hcap.purge];exact h _ ⟨_,_,rfl,rfl,.refl _⟩
theorem taip_ (f:Nat) (caps:List AV) (hf:b_ Tryz.prog f=true) (hcap:OkC caps) (p:Int→Bool) (l:List Int) (hp:∀x∈l,PQ G f (iv x::caps) (.bool (p x))) (hl:l.length<9223372036854775807):
  PQ G ntai_ [.seq 1 (l.map iv),.fn f caps] (.bool (l.all p)):=by
 have hc:=sC17 (G:=G) ntai1_ [.eptr (.fn f caps) 0] (by kernel_rfl) of_ (fun x=>!p x) l (fun x hx=>tai1p_ f caps hf hcap x _ (hp x hx)) hl;refine ptai_ fun Φ h=>?_;unfold ctai_;simp -implicitDefEqProofs only[go_sem,hcap.purge];refine ac_ hc (by simp [v_,flat,flat.go,viewBs,viewAll,view,view.go,viewB,viewK,viewK.go,hget,hcap.viewBs,hcap.viewAll,hcap.view,hcap.viewK]) rfl ?_;simp -implicitDefEqProofs only[go_sem,hcap.purge];exact h _ ⟨_,_,rfl,rfl,fitB (by rw[wK])⟩
theorem tkp_ (k:Int) (h1:1≤k∧k≤3):PQ G ntk_ [iv k] (.bool true):=by
 have hc:=vNp_ (G:=G) k;have hn:(k_ k != [])=true:=by
  have:k=1∨k=2∨k=3:=by omega
  rcases this with rfl | rfl | rfl <;> rfl
 refine ptk_ fun Φ h=>?_;unfold ctk_;rw[←hn] at h;generalize k_ k=s at*
 repeat' (first|simp -implicitDefEqProofs only[go_sem]|refine ag_ (fun hb=>?_) (fun hb=>?_)|refine⟨fun hb=>?_,fun hb=>?_⟩|refine ac_ hc rfl rfl ?_|fail)
 exact h _ ⟨_,_,rfl,rfl,.refl _⟩
theorem tnp_ (hG:wg_ G) (s:Str) (hs:n12 s=true):PQ G ntn_ [.agg [.str s,iv 0,iv 0]] (.bool true):=by
 have hc:=sNp_ (G:=G) hG s;rw[hs] at hc;refine pt24 fun Φ h=>?_;unfold ct28
 repeat' (first|simp -implicitDefEqProofs only[go_sem]|refine ag_ (fun hb=>?_) (fun hb=>?_)|refine⟨fun hb=>?_,fun hb=>?_⟩|refine ac_ hc rfl rfl ?_|fail)
 exact h _ ⟨_,_,rfl,rfl,.refl _⟩
def T11 (a:TArgT):Prop:=(a.kind=1∧a.name=[]∧a.value.ok=true)∨(a.kind=2∧n12 a.name=true∧a.value=v0)∨(a.kind=3∧a.name=[]∧a.value=v0)
theorem tap_ (hG:wg_ G) (a:TArgT) (ha:T11 a):PQ G nta_ [t28 a] (.bool true):=by
 obtain⟨k,n,v⟩:=a;have hv:=vRp_ (G:=G) v;have hn:=sNp_ (G:=G) hG n;refine pt25 fun Φ h=>?_;unfold ct30;rcases ha with ⟨h1,h2,h3⟩ | ⟨h1,h2,h3⟩ | ⟨h1,h2,h3⟩
 ·simp only at h1 h2 h3;subst h1 h2;rw[h3] at hv;obtain⟨v1,v2,v3,v4⟩:=v;simp only[valV] at hv
  repeat' (first|(simp -implicitDefEqProofs only[go_sem,t28,show (([]:List UInt8)==[])=true from rfl])|refine ag_ (fun hb=>?_) (fun hb=>?_)|refine⟨fun hb=>?_,fun hb=>?_⟩|refine ac_ hv rfl rfl ?_|fail)
  exact h _ ⟨_,_,rfl,rfl,.refl _⟩
 ·simp only at h1 h2 h3;subst h1 h3;rw[h2] at hn
  repeat' (first|simp -implicitDefEqProofs only[go_sem,t28]|refine ag_ (fun hb=>?_) (fun hb=>?_)|refine⟨fun hb=>?_,fun hb=>?_⟩|refine ac_ hn rfl rfl ?_|fail)
  exact h _ ⟨_,_,rfl,rfl,.refl _⟩
 ·simp only at h1 h2 h3;subst h1 h2 h3
  repeat' (first|(simp -implicitDefEqProofs only[go_sem,t28,show (([]:List UInt8)==[])=true from rfl])|refine ag_ (fun hb=>?_) (fun hb=>?_)|refine⟨fun hb=>?_,fun hb=>?_⟩|fail)
  exact h _ ⟨_,_,rfl,rfl,.refl _⟩
def T10 (s:TSymT):Prop:=n12 s.name=true∧s.args.length≤1000∧∀a∈s.args,T11 a
theorem at11 {α:Type} (l:List α):(l.all fun _ =>true)=true:=by simp
theorem tsp_ (hG:wg_ G) (s:TSymT) (hs:T10 s):PQ G nts_ [t27 s] (.bool true):=by
 obtain⟨h1,h2,h3⟩:=hs;have hn:=sNp_ (G:=G) hG s.name;rw[h1] at hn;have hc:=ta33 (G:=G) nta_ [] (by kernel_rfl) on_ (fun _ =>true) s.args (fun a ha=>tap_ hG a (h3 a ha)) (by omega);rw[at11] at hc;refine pts_ fun Φ h=>?_;unfold cts_;obtain⟨n,l⟩:=s
 repeat' (first|simp -implicitDefEqProofs only[go_sem,t27,t16]|refine ag_ (fun hb=>?_) (fun hb=>?_)|refine⟨fun hb=>?_,fun hb=>?_⟩|refine ac_ hn rfl rfl ?_|refine ac_ hc rfl rfl ?_|fail)
 exact h _ ⟨_,_,rfl,rfl,.refl _⟩
theorem tR1p_ (hG:wg_ G) (x:DeclT) (h1:n12 x.name=true) (h2:∀k∈x.types,1≤k∧k≤3) (h3:x.types.length≤1000):PQ G ntR1_ [t21 x] (.bool true):=by
 have hn:=tnp_ (G:=G) hG x.name h1;have hc:=taip_ (G:=G) ntk_ [] (by kernel_rfl) on_ (fun _ =>true) x.types (fun k hk=>tkp_ k (h2 k hk)) (by omega);rw[at11] at hc;refine ptR1_ fun Φ h=>?_;unfold ctR1_;obtain⟨n,l⟩:=x
 repeat' (first|simp -implicitDefEqProofs only[go_sem,t21,i10]|refine ag_ (fun hb=>?_) (fun hb=>?_)|refine⟨fun hb=>?_,fun hb=>?_⟩|refine ac_ hn rfl rfl ?_|refine ac_ hc rfl rfl ?_|fail)
 exact h _ ⟨_,_,rfl,rfl,.refl _⟩
theorem tR2p_ (hG:wg_ G) (x:QuantT) (h1:n12 x.name=true) (h2:1≤x.type∧x.type≤3):PQ G ntR2_ [t14 x] (.bool true):=by
 have hn:=tnp_ (G:=G) hG x.name h1;have hc:=tkp_ (G:=G) x.type h2;refine ptR2_ fun Φ h=>?_;unfold ctR2_
 repeat' (first|simp -implicitDefEqProofs only[go_sem,t14]|refine ag_ (fun hb=>?_) (fun hb=>?_)|refine⟨fun hb=>?_,fun hb=>?_⟩|refine ac_ hn rfl rfl ?_|refine ac_ hc rfl rfl ?_|fail)
 exact h _ ⟨_,_,rfl,rfl,.refl _⟩
theorem tR3p_ (hG:wg_ G) (x:FreeT) (h1:n12 x.name=true) (h2:x.init.ok=true):PQ G ntR3_ [t20 x] (.bool true):=by
 have hn:=tnp_ (G:=G) hG x.name h1;have hc:=vRp_ (G:=G) x.init;rw[h2] at hc;refine ptR3_ fun Φ h=>?_;unfold ctR3_;simp only[valV] at hc
 repeat' (first|simp -implicitDefEqProofs only[go_sem,t20]|refine ag_ (fun hb=>?_) (fun hb=>?_)|refine⟨fun hb=>?_,fun hb=>?_⟩|refine ac_ hn rfl rfl ?_|refine ac_ hc rfl rfl ?_|fail)
 exact h _ ⟨_,_,rfl,rfl,.refl _⟩
theorem tR4p_ (hG:wg_ G) (x:StateT) (h1:n12 x.name=true):PQ G ntR4_ [t13 x] (.bool true):=by
 have hn:=tnp_ (G:=G) hG x.name h1;refine ptR4_ fun Φ h=>?_;unfold ctR4_
 repeat' (first|simp -implicitDefEqProofs only[go_sem,t13]|refine ag_ (fun hb=>?_) (fun hb=>?_)|refine⟨fun hb=>?_,fun hb=>?_⟩|refine ac_ hn rfl rfl ?_|fail)
 exact h _ ⟨_,_,rfl,rfl,.refl _⟩
