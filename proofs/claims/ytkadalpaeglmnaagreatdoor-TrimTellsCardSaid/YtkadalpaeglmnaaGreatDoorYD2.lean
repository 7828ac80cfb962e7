/-
  Lemmas. No claim is proved here.
-/
import Derived.Test.YtkadalpaeglmnaaGreatDoorYAcR1
import Derived.Test.YtkadalpaeglmnaaGreatDoorYAcR2
import Derived.Test.YtkadalpaeglmnaaGreatDoorYAcR3
set_option linter.unusedSimpArgs false
set_option maxHeartbeats 4000000
namespace Go.Proofs.YtkadalpaeglmnaaGreatDoor.Ab
open Go
variable {G:Nat→Option AV}
structure Val where
 kind:Int
 int:Int
 str:Str
 bool:Bool
deriving DecidableEq
abbrev v0:Val:=⟨0,0,[],false⟩
def valV (v:Val):AV:=.agg [iv v.kind,iv v.int,.str v.str,.bool v.bool]
theorem vIp_ (n:Int):PQ G nvI_ [iv n] (valV ⟨1,n,[],false⟩):=by refine pvI_ fun Φ h=>?_;unfold cvI_;simp -implicitDefEqProofs only[go_sem];exact h _ ⟨_,_,rfl,rfl,.refl _⟩
theorem vSp_ (s:Str):PQ G nvS_ [.str s] (valV ⟨2,0,s,false⟩):=by refine pvS_ fun Φ h=>?_;unfold cvS_;simp -implicitDefEqProofs only[go_sem];exact h _ ⟨_,_,rfl,rfl,.refl _⟩
theorem vBp_ (b:Bool):PQ G nvB_ [.bool b] (valV ⟨3,0,[],b⟩):=by refine pvB_ fun Φ h=>?_;unfold cvB_;simp -implicitDefEqProofs only[go_sem];exact h _ ⟨_,_,rfl,rfl,.refl _⟩
def Val.ok (v:Val):Bool:=
 if v.kind=1 then v.str==[]&& !v.bool else if v.kind=2 then v.int==0&&(!v.bool&&decide ((v.str.length:Int)≤4096)) else decide (v.kind=3)&&(v.int==0&&v.str==[])
theorem vRp_ (v:Val):PQ G nvR_ [valV v] (.bool v.ok):=by
 obtain⟨k,n,s,b⟩:=v;refine pvR_ fun Φ h=>?_;unfold cvR_
 repeat' (first|simp -implicitDefEqProofs only[go_sem,valV]|refine ag_ (fun hb=>?_) (fun hb=>?_)|refine⟨fun hb=>?_,fun hb=>?_⟩|refine ac_ (vIp_ _) rfl rfl ?_|refine ac_ (vSp_ _) rfl rfl ?_|refine ac_ (vBp_ _) rfl rfl ?_|fail)
 all_goals (refine h _ ⟨_,_,rfl,rfl,fe_ ?_⟩;clear h;first | rfl | simp_all [Val.ok])
theorem rRp_ (v:Val):PQ G np12 [valV v] (.bool v.ok):=by
 obtain⟨k,n,s,b⟩:=v;refine pp19 fun Φ h=>?_;unfold cp19
 repeat' (first|simp -implicitDefEqProofs only[go_sem,valV]|refine ag_ (fun hb=>?_) (fun hb=>?_)|refine⟨fun hb=>?_,fun hb=>?_⟩|fail)
 all_goals (refine h _ ⟨_,_,rfl,rfl,fe_ ?_⟩;clear h;first | rfl | simp_all [Val.ok])
def k_ (k:Int):Str:=if k=1 then [105,110,116] else if k=2 then [115,116,114,105,110,103] else if k=3 then [98,111,111,108] else []
theorem vNp_ (k:Int):PQ G nvN_ [iv k] (.str (k_ k)):=by
 refine pvN_ fun Φ h=>?_;unfold cvN_
 repeat' (first|simp -implicitDefEqProofs only[go_sem]|refine ag_ (fun hb=>?_) (fun hb=>?_)|refine⟨fun hb=>?_,fun hb=>?_⟩|fail)
 all_goals (refine h _ ⟨_,_,rfl,rfl,fe_ ?_⟩;clear h;first | rfl | simp_all [k_])
theorem vwp_ (b:Bool) (k:Int):PQ G nvw_ [.bool b,iv k] (iv (if b then k else 0)):=by
 refine pvw_ fun Φ h=>?_;unfold cvw_
 repeat' (first|simp -implicitDefEqProofs only[go_sem]|refine ag_ (fun hb=>?_) (fun hb=>?_)|refine⟨fun hb=>?_,fun hb=>?_⟩|fail)
 all_goals (refine h _ ⟨_,_,rfl,rfl,fe_ ?_⟩;clear h;first | rfl | simp_all)
def o11 (op a b:Int):Int:=
 if op=4 then (if a=3 then 3 else 0)
 else if op=5 then (if a=1 then 1 else 0)
 else if op=6∨op=7 then (if a=3∧b=a then 3 else 0)
 else if op=9∨op=10∨op=11∨op=12 then (if a=1∧b=a then a else 0)
 else if op=8 then (if (a=1∨a=2)∧b=a then a else 0)
 else if op=13∨op=14 then (if k_ a≠[]∧b=a then 3 else 0)
 else if op=15∨op=16 then (if (a=1∨a=2)∧b=a then 3 else 0)
 else 0
theorem vTp_ (op a b:Int):PQ G nvT_ [iv op,iv a,iv b] (iv (o11 op a b)):=by
 refine pvT_ fun Φ h=>?_;unfold cvT_
 repeat' (first|simp -implicitDefEqProofs only[go_sem]|refine ag_ (fun hb=>?_) (fun hb=>?_)|refine⟨fun hb=>?_,fun hb=>?_⟩|refine ac_ (vwp_ _ _) rfl rfl ?_|refine ac_ (vNp_ _) rfl rfl ?_|fail)
 all_goals (refine h _ ⟨_,_,rfl,rfl,fe_ ?_⟩;clear h;simp_all [o11])
structure ArgT where
 kind:Int
 n:Int
 value:Val
deriving DecidableEq
def argV (a:ArgT):AV:=.agg [iv a.kind,iv a.n,iv a.value.kind,iv a.value.int,.str a.value.str,.bool a.value.bool]
structure SymT where
 event:Int
 args:List ArgT
deriving DecidableEq
def a_ (l:List ArgT):AV:=.seq 6 (l.map argV)
def symV (s:SymT):AV:=.agg [iv s.event,a_ s.args]
structure NodeT where
 op:Int
 a:Int
 b:Int
 value:Val
deriving DecidableEq
def n11 (x:NodeT):AV:=.agg [iv x.op,iv x.a,iv x.b,iv x.value.kind,iv x.value.int,.str x.value.str,.bool x.value.bool]
structure QuantT where
 all:Bool
 name:Str
 type:Int
deriving DecidableEq
def q11 (x:QuantT):AV:=.agg [.bool x.all,.str x.name,iv x.type]
structure FreeT where
 name:Str
 init:Val
deriving DecidableEq
def f10 (x:FreeT):AV:=.agg [.str x.name,iv x.init.kind,iv x.init.int,.str x.init.str,.bool x.init.bool]
structure StateT where
 name:Str
 next:Bool
 accept:Bool
deriving DecidableEq
def s13 (x:StateT):AV:=.agg [.str x.name,.bool x.next,.bool x.accept]
structure SetT where
 free:Int
 expr:Int
deriving DecidableEq
def setV (x:SetT):AV:=.agg [iv x.free,iv x.expr]
def s14 (l:List SetT):AV:=.seq 2 (l.map setV)
structure TransT where
 from_:Int
 symbol:Int
 to_:Int
 guard:Int
 sets:List SetT
deriving DecidableEq
def t11 (x:TransT):AV:=.agg [iv x.from_,iv x.symbol,iv x.to_,iv x.guard,s14 x.sets]
structure DeclT where
 name:Str
 types:List Int
deriving DecidableEq
def i10 (l:List Int):AV:=.seq 1 (l.map iv)
def d11 (x:DeclT):AV:=.agg [.str x.name,i10 x.types]
structure QeaT where
 name:Str
 decls:List DeclT
 quants:List QuantT
 frees:List FreeT
 states:List StateT
 start:Int
 symbols:List SymT
 nodes:List NodeT
 trans:List TransT
deriving DecidableEq
def d_ (l:List DeclT):AV:=.seq 2 (l.map d11)
def q_ (l:List QuantT):AV:=.seq 3 (l.map q11)
def f_ (l:List FreeT):AV:=.seq 5 (l.map f10)
def s_ (l:List StateT):AV:=.seq 3 (l.map s13)
def s10 (l:List SymT):AV:=.seq 2 (l.map symV)
def n_ (l:List NodeT):AV:=.seq 7 (l.map n11)
def t_ (l:List TransT):AV:=.seq 5 (l.map t11)
def qeaV (q:QeaT):AV:=.agg [.str q.name,d_ q.decls,q_ q.quants,f_ q.frees,s_ q.states,iv q.start,s10 q.symbols,n_ q.nodes,t_ q.trans]
theorem a31 (a b:ArgT):(a==b)=(a.kind==b.kind&&(a.n==b.n&&(a.value.kind==b.value.kind&&(a.value.int==b.value.int&&(a.value.str==b.value.str&&(a.value.bool==b.value.bool&&true)))))):=by obtain⟨a1,a2,a3,a4,a5,a6⟩:=a;obtain⟨b1,b2,b3,b4,b5,b6⟩:=b;rw[yY];simp
theorem sIaSaSp_ (f:Nat) (caps:List AV) (hf:b_ Tryz.prog f=true) (hcap:OkC caps) (p:SymT→Bool) (l:List SymT) (hp:∀x∈l,PQ G f (symV x::caps) (.bool (p x))) (hl:l.length<9223372036854775807):
  PQ G nsIaSaS_ [.seq 2 (l.map symV),.fn f caps] (iv (idxF p l)):=by
 refine psIaSaS_ fun Φ h=>?_;unfold csIaSaS_;simp -implicitDefEqProofs only[go_sem,zX];refine al_ (fun n st=>∃i:Nat,i+n=l.length∧st=⟨19,[(0,.seq 2 (l.map symV)),(1,.fn f caps),(7,iv l.length),(8,iv i)],[]⟩∧∀j x,j<i→l[j]? =some x→p x=false) l.length ⟨0,by simp,rfl,fun j x hj=>by omega⟩ ?_;rintro I hI n st ⟨i,hi,rfl,hno⟩;simp -implicitDefEqProofs only[go_sem];refine⟨fun hlt=>?_,fun hge=>?_⟩
 ·have hlt':i<l.length:=by omega
  obtain⟨x,hx,hm⟩:=as10 hlt';have hw:=ws_ hlt' (by omega);simp -implicitDefEqProofs only[go_sem,am_ hx,hcap.purge,symV,a_];refine⟨hf,ac_ (hp x hm) (by simp [v_,flat,viewBs,viewB,viewK,viewK.go,hcap.viewBs,symV,a_]) rfl ?_⟩;cases hpx:p x
  ·simp -implicitDefEqProofs only[go_sem,hw,hcap.purge];exact aa_ (n - 1) (by omega) (hI _ _ ⟨i+1,by omega,rfl,fun j y hj hy=>by
    by_cases e:j=i
    ·subst e;rw[hx] at hy;cases hy;exact hpx
    ·exact hno j y (by omega) hy⟩)
  ·simp -implicitDefEqProofs only[go_sem,hcap.purge];exact h _ ⟨_,_,rfl,rfl,fitI (ia10 hx hpx hno).symm⟩
 ·have:i=l.length:=by omega
  subst this;exact h _ ⟨_,_,rfl,rfl,fitI (in10 hno).symm⟩
theorem sIaDaDp_ (f:Nat) (caps:List AV) (hf:b_ Tryz.prog f=true) (hcap:OkC caps) (p:DeclT→Bool) (l:List DeclT) (hp:∀x∈l,PQ G f (d11 x::caps) (.bool (p x))) (hl:l.length<9223372036854775807):
  PQ G nsIaDaD_ [.seq 2 (l.map d11),.fn f caps] (iv (idxF p l)):=by
 refine psIaDaD_ fun Φ h=>?_;unfold csIaDaD_;simp -implicitDefEqProofs only[go_sem,zX];refine al_ (fun n st=>∃i:Nat,i+n=l.length∧st=⟨19,[(0,.seq 2 (l.map d11)),(1,.fn f caps),(7,iv l.length),(8,iv i)],[]⟩∧∀j x,j<i→l[j]? =some x→p x=false) l.length ⟨0,by simp,rfl,fun j x hj=>by omega⟩ ?_;rintro I hI n st ⟨i,hi,rfl,hno⟩;simp -implicitDefEqProofs only[go_sem];refine⟨fun hlt=>?_,fun hge=>?_⟩
 ·have hlt':i<l.length:=by omega
  obtain⟨x,hx,hm⟩:=as10 hlt';have hw:=ws_ hlt' (by omega);simp -implicitDefEqProofs only[go_sem,am_ hx,hcap.purge,d11,i10];refine⟨hf,ac_ (hp x hm) (by simp [v_,flat,viewBs,viewB,viewK,viewK.go,hcap.viewBs,d11,i10]) rfl ?_⟩;cases hpx:p x
  ·simp -implicitDefEqProofs only[go_sem,hw,hcap.purge];exact aa_ (n - 1) (by omega) (hI _ _ ⟨i+1,by omega,rfl,fun j y hj hy=>by
    by_cases e:j=i
    ·subst e;rw[hx] at hy;cases hy;exact hpx
    ·exact hno j y (by omega) hy⟩)
  ·simp -implicitDefEqProofs only[go_sem,hcap.purge];exact h _ ⟨_,_,rfl,rfl,fitI (ia10 hx hpx hno).symm⟩
 ·have:i=l.length:=by omega
  subst this;exact h _ ⟨_,_,rfl,rfl,fitI (in10 hno).symm⟩
theorem sI17 (f:Nat) (caps:List AV) (hf:b_ Tryz.prog f=true) (hcap:OkC caps) (p:Int→Bool) (l:List Int) (hp:∀x∈l,PQ G f (iv x::caps) (.bool (p x))) (hl:l.length<9223372036854775807):
  PQ G ns29 [.seq 1 (l.map iv),.fn f caps] (iv (idxF p l)):=by
 refine psIii_ fun Φ h=>?_;unfold csIii_;simp -implicitDefEqProofs only[go_sem,zX];refine al_ (fun n st=>∃i:Nat,i+n=l.length∧st=⟨19,[(0,.seq 1 (l.map iv)),(1,.fn f caps),(7,iv l.length),(8,iv i)],[]⟩∧∀j x,j<i→l[j]? =some x→p x=false) l.length ⟨0,by simp,rfl,fun j x hj=>by omega⟩ ?_;rintro I hI n st ⟨i,hi,rfl,hno⟩;simp -implicitDefEqProofs only[go_sem];refine⟨fun hlt=>?_,fun hge=>?_⟩
 ·have hlt':i<l.length:=by omega
  obtain⟨x,hx,hm⟩:=as10 hlt';have hw:=ws_ hlt' (by omega);simp -implicitDefEqProofs only[go_sem,am_ hx,hcap.purge];refine⟨hf,ac_ (hp x hm) (by simp [v_,flat,viewBs,viewB,viewK,viewK.go,hcap.viewBs]) rfl ?_⟩;cases hpx:p x
  ·simp -implicitDefEqProofs only[go_sem,hw,hcap.purge];exact aa_ (n - 1) (by omega) (hI _ _ ⟨i+1,by omega,rfl,fun j y hj hy=>by
    by_cases e:j=i
    ·subst e;rw[hx] at hy;cases hy;exact hpx
    ·exact hno j y (by omega) hy⟩)
  ·simp -implicitDefEqProofs only[go_sem,hcap.purge];exact h _ ⟨_,_,rfl,rfl,fitI (ia10 hx hpx hno).symm⟩
 ·have:i=l.length:=by omega
  subst this;exact h _ ⟨_,_,rfl,rfl,fitI (in10 hno).symm⟩
theorem sI16 (f:Nat) (caps:List AV) (hf:b_ Tryz.prog f=true) (hcap:OkC caps) (p:SetT→Bool) (l:List SetT) (hp:∀x∈l,PQ G f (setV x::caps) (.bool (p x))) (hl:l.length<9223372036854775807):
  PQ G ns26 [.seq 2 (l.map setV),.fn f caps] (iv (idxF p l)):=by
 refine ps23 fun Φ h=>?_;unfold cs25;simp -implicitDefEqProofs only[go_sem,zX];refine al_ (fun n st=>∃i:Nat,i+n=l.length∧st=⟨19,[(0,.seq 2 (l.map setV)),(1,.fn f caps),(7,iv l.length),(8,iv i)],[]⟩∧∀j x,j<i→l[j]? =some x→p x=false) l.length ⟨0,by simp,rfl,fun j x hj=>by omega⟩ ?_;rintro I hI n st ⟨i,hi,rfl,hno⟩;simp -implicitDefEqProofs only[go_sem];refine⟨fun hlt=>?_,fun hge=>?_⟩
 ·have hlt':i<l.length:=by omega
  obtain⟨x,hx,hm⟩:=as10 hlt';have hw:=ws_ hlt' (by omega);simp -implicitDefEqProofs only[go_sem,am_ hx,hcap.purge,setV];refine⟨hf,ac_ (hp x hm) (by simp [v_,flat,viewBs,viewB,viewK,viewK.go,hcap.viewBs,setV]) rfl ?_⟩;cases hpx:p x
  ·simp -implicitDefEqProofs only[go_sem,hw,hcap.purge];exact aa_ (n - 1) (by omega) (hI _ _ ⟨i+1,by omega,rfl,fun j y hj hy=>by
    by_cases e:j=i
    ·subst e;rw[hx] at hy;cases hy;exact hpx
    ·exact hno j y (by omega) hy⟩)
  ·simp -implicitDefEqProofs only[go_sem,hcap.purge];exact h _ ⟨_,_,rfl,rfl,fitI (ia10 hx hpx hno).symm⟩
 ·have:i=l.length:=by omega
  subst this;exact h _ ⟨_,_,rfl,rfl,fitI (in10 hno).symm⟩
theorem sCaSaSp_ (f:Nat) (caps:List AV) (hf:b_ Tryz.prog f=true) (hcap:OkC caps) (p:SymT→Bool) (l:List SymT) (hp:∀x∈l,PQ G f (symV x::caps) (.bool (p x))) (hl:l.length<9223372036854775807):
  PQ G nsCaSaS_ [.seq 2 (l.map symV),.fn f caps] (.bool (l.any p)):=by
 refine psCaSaS_ fun Φ h=>?_;unfold csCaSaS_;simp -implicitDefEqProofs only[go_sem];refine ac_ (sIaSaSp_ f caps hf hcap p l hp hl) (by simp [v_,flat,viewBs,viewB,viewK,hcap.viewK]) rfl ?_;simp -implicitDefEqProofs only[go_sem,hcap.purge];exact h _ ⟨_,_,rfl,rfl,fitB (ia_ _ _)⟩
theorem sC17 (f:Nat) (caps:List AV) (hf:b_ Tryz.prog f=true) (hcap:OkC caps) (p:Int→Bool) (l:List Int) (hp:∀x∈l,PQ G f (iv x::caps) (.bool (p x))) (hl:l.length<9223372036854775807):
  PQ G ns25 [.seq 1 (l.map iv),.fn f caps] (.bool (l.any p)):=by
 refine psCii_ fun Φ h=>?_;unfold csCii_;simp -implicitDefEqProofs only[go_sem];refine ac_ (sI17 f caps hf hcap p l hp hl) (by simp [v_,flat,viewBs,viewB,viewK,hcap.viewK]) rfl ?_;simp -implicitDefEqProofs only[go_sem,hcap.purge];exact h _ ⟨_,_,rfl,rfl,fitB (ia_ _ _)⟩
theorem sC11 (f:Nat) (caps:List AV) (hf:b_ Tryz.prog f=true) (hcap:OkC caps) (p:SetT→Bool) (l:List SetT) (hp:∀x∈l,PQ G f (setV x::caps) (.bool (p x))) (hl:l.length<9223372036854775807):
  PQ G ns18 [.seq 2 (l.map setV),.fn f caps] (.bool (l.any p)):=by
 refine ps22 fun Φ h=>?_;unfold cs24;simp -implicitDefEqProofs only[go_sem];refine ac_ (sI16 f caps hf hcap p l hp hl) (by simp [v_,flat,viewBs,viewB,viewK,hcap.viewK]) rfl ?_;simp -implicitDefEqProofs only[go_sem,hcap.purge];exact h _ ⟨_,_,rfl,rfl,fitB (ia_ _ _)⟩
theorem sIiip_ (l:List Int) (v:Int) (hl:l.length<9223372036854775807):PQ G nsIii_ [.seq 1 (l.map iv),iv v] (iv (idxF (fun x=>v==x) l)):=by
 refine ps25 fun Φ h=>?_;unfold cs27;simp -implicitDefEqProofs only[go_sem,zX];refine al_ (fun n st=>∃i:Nat,i+n=l.length∧st=⟨19,[(0,.seq 1 (l.map iv)),(1,iv v),(7,iv l.length),(8,iv i)],[]⟩∧∀j x,j<i→l[j]? =some x→(v==x)=false) l.length ⟨0,by simp,rfl,fun j x hj=>by omega⟩ ?_;rintro I hI n st ⟨i,hi,rfl,hno⟩;simp -implicitDefEqProofs only[go_sem];refine⟨fun hlt=>?_,fun hge=>?_⟩
 ·have hlt':i<l.length:=by omega
  obtain⟨x,hx,hm⟩:=as10 hlt';have hw:=ws_ hlt' (by omega);have fin:(v==x)=false→a11 I n ⟨19,[(0,.seq 1 (l.map iv)),(1,iv v),(7,iv l.length),(8,iv (i+1:Nat))],[]⟩:=fun hv=>aa_ (n - 1) (by omega) (hI _ _ ⟨i+1,by omega,rfl,fun j y hj hy=>by
    by_cases e:j=i
    ·subst e;rw[hx] at hy;cases hy;exact hv
    ·exact hno j y (by omega) hy⟩)
  simp -implicitDefEqProofs only[go_sem,am_ hx];refine⟨fun hb=>?_,fun hb=>?_⟩
  ·have hv:(v==x)=true:=by simpa using hb
   exact h _ ⟨_,_,rfl,rfl,fitI (ia10 hx hv hno).symm⟩
  ·have hv:(v==x)=false:=by simpa using hb
   simp -implicitDefEqProofs only[go_sem,hw];exact fin hv
 ·have:i=l.length:=by omega
  subst this;exact h _ ⟨_,_,rfl,rfl,fitI (in10 hno).symm⟩
theorem sIssp_ (l:List Str) (v:Str) (hl:l.length<9223372036854775807):PQ G nsIss_ [.seq 1 (l.map AV.str),AV.str v] (iv (idxF (fun x=>v==x) l)):=by
 refine psIss_ fun Φ h=>?_;unfold csIss_;simp -implicitDefEqProofs only[go_sem,zX];refine al_ (fun n st=>∃i:Nat,i+n=l.length∧st=⟨19,[(0,.seq 1 (l.map AV.str)),(1,AV.str v),(7,iv l.length),(8,iv i)],[]⟩∧∀j x,j<i→l[j]? =some x→(v==x)=false) l.length ⟨0,by simp,rfl,fun j x hj=>by omega⟩ ?_;rintro I hI n st ⟨i,hi,rfl,hno⟩;simp -implicitDefEqProofs only[go_sem];refine⟨fun hlt=>?_,fun hge=>?_⟩
 ·have hlt':i<l.length:=by omega
  obtain⟨x,hx,hm⟩:=as10 hlt';have hw:=ws_ hlt' (by omega);have fin:(v==x)=false→a11 I n ⟨19,[(0,.seq 1 (l.map AV.str)),(1,AV.str v),(7,iv l.length),(8,iv (i+1:Nat))],[]⟩:=fun hv=>aa_ (n - 1) (by omega) (hI _ _ ⟨i+1,by omega,rfl,fun j y hj hy=>by
    by_cases e:j=i
    ·subst e;rw[hx] at hy;cases hy;exact hv
    ·exact hno j y (by omega) hy⟩)
  simp -implicitDefEqProofs only[go_sem,am_ hx];refine⟨fun hb=>?_,fun hb=>?_⟩
  ·have hv:(v==x)=true:=by simpa using hb
   exact h _ ⟨_,_,rfl,rfl,fitI (ia10 hx hv hno).symm⟩
  ·have hv:(v==x)=false:=by simpa using hb
   simp -implicitDefEqProofs only[go_sem,hw];exact fin hv
 ·have:i=l.length:=by omega
  subst this;exact h _ ⟨_,_,rfl,rfl,fitI (in10 hno).symm⟩
theorem sIaAaAp_ (l:List ArgT) (v:ArgT) (hl:l.length<9223372036854775807):PQ G nsIaAaA_ [.seq 6 (l.map argV),argV v] (iv (idxF (fun x=>v==x) l)):=by
 refine psIaAaA_ fun Φ h=>?_;unfold csIaAaA_;simp -implicitDefEqProofs only[go_sem,zX,argV];refine al_ (fun n st=>∃i:Nat,i+n=l.length∧st=⟨19,[(0,.seq 6 (l.map argV)),(3,.ref 3 0 0),(7,iv l.length),(8,iv i)],[(3,⟨false,taA_,6,[argV v]⟩)]⟩∧∀j x,j<i→l[j]? =some x→(v==x)=false) l.length ⟨0,by simp,rfl,fun j x hj=>by omega⟩ ?_;rintro I hI n st ⟨i,hi,rfl,hno⟩;simp -implicitDefEqProofs only[go_sem,argV];refine⟨fun hlt=>?_,fun hge=>?_⟩
 ·have hlt':i<l.length:=by omega
  obtain⟨x,hx,hm⟩:=as10 hlt';have hw:=ws_ hlt' (by omega);have fin:(v==x)=false→a11 I n ⟨19,[(0,.seq 6 (l.map argV)),(3,.ref 3 0 0),(7,iv l.length),(8,iv (i+1:Nat))],[(3,⟨false,taA_,6,[argV v]⟩)]⟩:=fun hv=>aa_ (n - 1) (by omega) (hI _ _ ⟨i+1,by omega,rfl,fun j y hj hy=>by
    by_cases e:j=i
    ·subst e;rw[hx] at hy;cases hy;exact hv
    ·exact hno j y (by omega) hy⟩)
  simp -implicitDefEqProofs only[go_sem,am_ hx,argV];refine⟨fun hb=>?_,fun hb=>?_⟩
  ·have hv:(v==x)=true:=by rw[a31];simpa using hb
   exact h _ ⟨_,_,rfl,rfl,fitI (ia10 hx hv hno).symm⟩
  ·have hv:(v==x)=false:=by rw[a31];simpa using hb
   simp -implicitDefEqProofs only[go_sem,hw];exact fin hv
 ·have:i=l.length:=by omega
  subst this;exact h _ ⟨_,_,rfl,rfl,fitI (in10 hno).symm⟩
theorem sCiip_ (l:List Int) (v:Int) (hl:l.length<9223372036854775807):PQ G nsCii_ [.seq 1 (l.map iv),iv v] (.bool (l.any fun x=>v==x)):=by refine ps24 fun Φ h=>?_;unfold cs26;simp -implicitDefEqProofs only[go_sem];refine ac_ (sIiip_ l v hl) rfl rfl ?_;simp -implicitDefEqProofs only[go_sem];exact h _ ⟨_,_,rfl,rfl,fitB (ia_ _ _)⟩
theorem sCssp_ (l:List Str) (v:Str) (hl:l.length<9223372036854775807):PQ G nsCss_ [.seq 1 (l.map AV.str),AV.str v] (.bool (l.any fun x=>v==x)):=by refine psCss_ fun Φ h=>?_;unfold csCss_;simp -implicitDefEqProofs only[go_sem];refine ac_ (sIssp_ l v hl) rfl rfl ?_;simp -implicitDefEqProofs only[go_sem];exact h _ ⟨_,_,rfl,rfl,fitB (ia_ _ _)⟩
theorem sCaAaAp_ (l:List ArgT) (v:ArgT) (hl:l.length<9223372036854775807):PQ G nsCaAaA_ [.seq 6 (l.map argV),argV v] (.bool (l.any fun x=>v==x)):=by refine psCaAaA_ fun Φ h=>?_;unfold csCaAaA_;simp -implicitDefEqProofs only[go_sem,argV];refine ac_ (sIaAaAp_ l v hl) rfl rfl ?_;simp -implicitDefEqProofs only[go_sem];exact h _ ⟨_,_,rfl,rfl,fitB (ia_ _ _)⟩
theorem sEaAaAp_ (k l:List ArgT) (hk:k.length<9223372036854775807) (hl:l.length<9223372036854775807):PQ G nsEaAaA_ [.seq 6 (k.map argV),.seq 6 (l.map argV)] (.bool (decide (k=l))):=by
 refine psEaAaA_ fun Φ h=>?_;unfold csEaAaA_;simp -implicitDefEqProofs only[go_sem,zX];refine⟨fun hb=>?_,fun hb=>?_⟩
 ·refine h _ ⟨_,_,rfl,rfl,fitB ?_⟩;symm;rw[zO];rintro rfl;simp at hb
 ·have hkl:k.length=l.length:=by
   have:(k.length:Int)=l.length:=by simpa using hb
   omega
  refine al_ (fun n st=>∃i:Nat,i+n=k.length∧st=⟨26,[(0,.seq 6 (k.map argV)),(1,.seq 6 (l.map argV)),(12,iv k.length),(13,iv i)],[]⟩∧∀j x y,j<i→k[j]? =some x→l[j]? =some y→(x==y)=true) k.length ⟨0,by simp,rfl,fun j x y hj=>by omega⟩ ?_;rintro I hI n st ⟨i,hi,rfl,hall⟩;simp -implicitDefEqProofs only[go_sem];refine⟨fun hlt=>?_,fun hge=>?_⟩
  ·have hlt':i<k.length:=by omega
   obtain⟨x,hx,hm⟩:=as10 hlt';obtain⟨y,hy,hm'⟩:=as10 (l:=l) (i:=i) (by omega);have hw:=ws_ hlt' (by omega);have fin:(x==y)=true→a11 I n ⟨26,[(0,.seq 6 (k.map argV)),(1,.seq 6 (l.map argV)),(12,iv k.length),(13,iv (i+1:Nat))],[]⟩:=fun hv=>aa_ (n - 1) (by omega) (hI _ _ ⟨i+1,by omega,rfl,fun j a b hj ha hb=>by
    by_cases e:j=i
    ·subst e;rw[hx] at ha;cases ha;rw[hy] at hb;cases hb;exact hv
    ·exact hall j a b (by omega) ha hb⟩)
   simp -implicitDefEqProofs only[go_sem,am_ hx,am_ hy,argV];refine⟨fun hb=>?_,fun hb=>?_⟩
   ·have hv:(x==y)=false:=by
     cases hxy:(x==y) with
     | false=>rfl
     | true=>exfalso;have:=eq_of_beq hxy;subst this;simp at hb
    refine h _ ⟨_,_,rfl,rfl,fitB ?_⟩;symm;rw[zO];rintro rfl;rw[hx] at hy;cases hy;simp at hv
   ·have hv:(x==y)=true:=by rw[a31];simpa using hb
    simp -implicitDefEqProofs only[go_sem,hw];exact fin hv
  ·refine h _ ⟨_,_,rfl,rfl,fitB ?_⟩;symm;rw[zU];apply vP;intro j;by_cases hj:j<k.length
   ·rw[zY hj,zY (by omega)];have:=hall j _ _ (by omega) (zY hj) (zY (by omega));rw[eq_of_beq this]
   ·rw[wF (by omega),wF (by omega)]
theorem caaQp_ (f:Nat) (caps:List AV) (hf:b_ Tryz.prog f=true) (hcap:OkC caps) (p:Nat→QuantT→Bool) (l:List QuantT) (hp:∀(i:Nat) x,l[i]? =some x→PQ G f (iv i::q11 x::caps) (.bool (p i x))) (hl:l.length<9223372036854775807):
  PQ G ncaaQ_ [.seq 3 (l.map q11),.fn f caps] (.bool (allI p l)):=by
 refine pcaaQ_ fun Φ h=>?_;unfold ccaaQ_;simp -implicitDefEqProofs only[go_sem,zX];refine al_ (fun n st=>∃i:Nat,i+n=l.length∧st=⟨20,[(1,.fn f caps),(7,.seq 3 (l.map q11)),(8,iv l.length),(9,iv i)],[]⟩∧∀j x,j<i→l[j]? =some x→p j x=true) l.length ⟨0,by simp,rfl,fun j x hj=>by omega⟩ ?_;rintro I hI n st ⟨i,hi,rfl,hno⟩;simp -implicitDefEqProofs only[go_sem];refine⟨fun hlt=>?_,fun hge=>?_⟩
 ·have hlt':i<l.length:=by omega
  obtain⟨x,hx,hm⟩:=as10 hlt';have hw:=ws_ hlt' (by omega);simp -implicitDefEqProofs only[go_sem,am_ hx,hcap.purge,q11];refine⟨hf,ac_ (hp i x hx) (by simp [v_,flat,viewBs,viewB,viewK,viewK.go,hcap.viewBs,q11]) rfl ?_⟩;cases hpx:p i x
  ·simp -implicitDefEqProofs only[go_sem,hcap.purge];exact h _ ⟨_,_,rfl,rfl,fitB (af_ hx hpx).symm⟩
  ·simp -implicitDefEqProofs only[go_sem,hw,hcap.purge];exact aa_ (n - 1) (by omega) (hI _ _ ⟨i+1,by omega,rfl,fun j y hj hy=>by
    by_cases e:j=i
    ·subst e;rw[hx] at hy;cases hy;exact hpx
    ·exact hno j y (by omega) hy⟩)
 ·have:i=l.length:=by omega
  subst this;exact h _ ⟨_,_,rfl,rfl,fitB (at10.2 fun i x hx=>hno i x (zZ.1 hx).1 hx).symm⟩
theorem caaFp_ (f:Nat) (caps:List AV) (hf:b_ Tryz.prog f=true) (hcap:OkC caps) (p:Nat→FreeT→Bool) (l:List FreeT) (hp:∀(i:Nat) x,l[i]? =some x→PQ G f (iv i::f10 x::caps) (.bool (p i x))) (hl:l.length<9223372036854775807):
  PQ G ncaaF_ [.seq 5 (l.map f10),.fn f caps] (.bool (allI p l)):=by
 refine pcaaF_ fun Φ h=>?_;unfold ccaaF_;simp -implicitDefEqProofs only[go_sem,zX];refine al_ (fun n st=>∃i:Nat,i+n=l.length∧st=⟨20,[(1,.fn f caps),(7,.seq 5 (l.map f10)),(8,iv l.length),(9,iv i)],[]⟩∧∀j x,j<i→l[j]? =some x→p j x=true) l.length ⟨0,by simp,rfl,fun j x hj=>by omega⟩ ?_;rintro I hI n st ⟨i,hi,rfl,hno⟩;simp -implicitDefEqProofs only[go_sem];refine⟨fun hlt=>?_,fun hge=>?_⟩
 ·have hlt':i<l.length:=by omega
  obtain⟨x,hx,hm⟩:=as10 hlt';have hw:=ws_ hlt' (by omega);simp -implicitDefEqProofs only[go_sem,am_ hx,hcap.purge,f10];refine⟨hf,ac_ (hp i x hx) (by simp [v_,flat,viewBs,viewB,viewK,viewK.go,hcap.viewBs,f10]) rfl ?_⟩;cases hpx:p i x
  ·simp -implicitDefEqProofs only[go_sem,hcap.purge];exact h _ ⟨_,_,rfl,rfl,fitB (af_ hx hpx).symm⟩
  ·simp -implicitDefEqProofs only[go_sem,hw,hcap.purge];exact aa_ (n - 1) (by omega) (hI _ _ ⟨i+1,by omega,rfl,fun j y hj hy=>by
    by_cases e:j=i
    ·subst e;rw[hx] at hy;cases hy;exact hpx
    ·exact hno j y (by omega) hy⟩)
 ·have:i=l.length:=by omega
  subst this;exact h _ ⟨_,_,rfl,rfl,fitB (at10.2 fun i x hx=>hno i x (zZ.1 hx).1 hx).symm⟩
theorem caip_ (f:Nat) (caps:List AV) (hf:b_ Tryz.prog f=true) (hcap:OkC caps) (p:Nat→Int→Bool) (l:List Int) (hp:∀(i:Nat) x,l[i]? =some x→PQ G f (iv i::iv x::caps) (.bool (p i x))) (hl:l.length<9223372036854775807):
  PQ G ncai_ [.seq 1 (l.map iv),.fn f caps] (.bool (allI p l)):=by
 refine pcai_ fun Φ h=>?_;unfold ccai_;simp -implicitDefEqProofs only[go_sem,zX];refine al_ (fun n st=>∃i:Nat,i+n=l.length∧st=⟨20,[(1,.fn f caps),(7,.seq 1 (l.map iv)),(8,iv l.length),(9,iv i)],[]⟩∧∀j x,j<i→l[j]? =some x→p j x=true) l.length ⟨0,by simp,rfl,fun j x hj=>by omega⟩ ?_;rintro I hI n st ⟨i,hi,rfl,hno⟩;simp -implicitDefEqProofs only[go_sem];refine⟨fun hlt=>?_,fun hge=>?_⟩
 ·have hlt':i<l.length:=by omega
  obtain⟨x,hx,hm⟩:=as10 hlt';have hw:=ws_ hlt' (by omega);simp -implicitDefEqProofs only[go_sem,am_ hx,hcap.purge];refine⟨hf,ac_ (hp i x hx) (by simp [v_,flat,viewBs,viewB,viewK,viewK.go,hcap.viewBs]) rfl ?_⟩;cases hpx:p i x
  ·simp -implicitDefEqProofs only[go_sem,hcap.purge];exact h _ ⟨_,_,rfl,rfl,fitB (af_ hx hpx).symm⟩
  ·simp -implicitDefEqProofs only[go_sem,hw,hcap.purge];exact aa_ (n - 1) (by omega) (hI _ _ ⟨i+1,by omega,rfl,fun j y hj hy=>by
    by_cases e:j=i
    ·subst e;rw[hx] at hy;cases hy;exact hpx
    ·exact hno j y (by omega) hy⟩)
 ·have:i=l.length:=by omega
  subst this;exact h _ ⟨_,_,rfl,rfl,fitB (at10.2 fun i x hx=>hno i x (zZ.1 hx).1 hx).symm⟩
theorem caaSp_ (f:Nat) (caps:List AV) (hf:b_ Tryz.prog f=true) (hcap:OkC caps) (p:Nat→SymT→Bool) (l:List SymT) (hp:∀(i:Nat) x,l[i]? =some x→PQ G f (iv i::symV x::caps) (.bool (p i x))) (hl:l.length<9223372036854775807):
  PQ G ncaaS_ [.seq 2 (l.map symV),.fn f caps] (.bool (allI p l)):=by
 refine pcaaS_ fun Φ h=>?_;unfold ccaaS_;simp -implicitDefEqProofs only[go_sem,zX];refine al_ (fun n st=>∃i:Nat,i+n=l.length∧st=⟨20,[(1,.fn f caps),(7,.seq 2 (l.map symV)),(8,iv l.length),(9,iv i)],[]⟩∧∀j x,j<i→l[j]? =some x→p j x=true) l.length ⟨0,by simp,rfl,fun j x hj=>by omega⟩ ?_;rintro I hI n st ⟨i,hi,rfl,hno⟩;simp -implicitDefEqProofs only[go_sem];refine⟨fun hlt=>?_,fun hge=>?_⟩
 ·have hlt':i<l.length:=by omega
  obtain⟨x,hx,hm⟩:=as10 hlt';have hw:=ws_ hlt' (by omega);simp -implicitDefEqProofs only[go_sem,am_ hx,hcap.purge,symV,a_];refine⟨hf,ac_ (hp i x hx) (by simp [v_,flat,viewBs,viewB,viewK,viewK.go,hcap.viewBs,symV,a_]) rfl ?_⟩;cases hpx:p i x
  ·simp -implicitDefEqProofs only[go_sem,hcap.purge];exact h _ ⟨_,_,rfl,rfl,fitB (af_ hx hpx).symm⟩
  ·simp -implicitDefEqProofs only[go_sem,hw,hcap.purge];exact aa_ (n - 1) (by omega) (hI _ _ ⟨i+1,by omega,rfl,fun j y hj hy=>by
    by_cases e:j=i
    ·subst e;rw[hx] at hy;cases hy;exact hpx
    ·exact hno j y (by omega) hy⟩)
 ·have:i=l.length:=by omega
  subst this;exact h _ ⟨_,_,rfl,rfl,fitB (at10.2 fun i x hx=>hno i x (zZ.1 hx).1 hx).symm⟩
theorem casp_ (f:Nat) (caps:List AV) (hf:b_ Tryz.prog f=true) (hcap:OkC caps) (p:Nat→Str→Bool) (l:List Str) (hp:∀(i:Nat) x,l[i]? =some x→PQ G f (iv i::AV.str x::caps) (.bool (p i x))) (hl:l.length<9223372036854775807):
  PQ G ncas_ [.seq 1 (l.map AV.str),.fn f caps] (.bool (allI p l)):=by
 refine pcas_ fun Φ h=>?_;unfold ccas_;simp -implicitDefEqProofs only[go_sem,zX];refine al_ (fun n st=>∃i:Nat,i+n=l.length∧st=⟨20,[(1,.fn f caps),(7,.seq 1 (l.map AV.str)),(8,iv l.length),(9,iv i)],[]⟩∧∀j x,j<i→l[j]? =some x→p j x=true) l.length ⟨0,by simp,rfl,fun j x hj=>by omega⟩ ?_;rintro I hI n st ⟨i,hi,rfl,hno⟩;simp -implicitDefEqProofs only[go_sem];refine⟨fun hlt=>?_,fun hge=>?_⟩
 ·have hlt':i<l.length:=by omega
  obtain⟨x,hx,hm⟩:=as10 hlt';have hw:=ws_ hlt' (by omega);simp -implicitDefEqProofs only[go_sem,am_ hx,hcap.purge];refine⟨hf,ac_ (hp i x hx) (by simp [v_,flat,viewBs,viewB,viewK,viewK.go,hcap.viewBs]) rfl ?_⟩;cases hpx:p i x
  ·simp -implicitDefEqProofs only[go_sem,hcap.purge];exact h _ ⟨_,_,rfl,rfl,fitB (af_ hx hpx).symm⟩
  ·simp -implicitDefEqProofs only[go_sem,hw,hcap.purge];exact aa_ (n - 1) (by omega) (hI _ _ ⟨i+1,by omega,rfl,fun j y hj hy=>by
    by_cases e:j=i
    ·subst e;rw[hx] at hy;cases hy;exact hpx
    ·exact hno j y (by omega) hy⟩)
 ·have:i=l.length:=by omega
  subst this;exact h _ ⟨_,_,rfl,rfl,fitB (at10.2 fun i x hx=>hno i x (zZ.1 hx).1 hx).symm⟩
