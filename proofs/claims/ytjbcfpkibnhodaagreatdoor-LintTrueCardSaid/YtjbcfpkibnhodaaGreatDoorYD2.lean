/-
  Automata's parts as values; slices' and core's generic functions over them. No claim is proved here.
-/
import Derived.Test.YtjbcfpkibnhodaaGreatDoorYV4
namespace Go.Proofs.YtjbcfpkibnhodaaGreatDoor.Ab
open Go
set_option linter.unusedSimpArgs false
set_option maxHeartbeats 4000000
variable {G:Nat→Option AV}
structure ArgT where
 kind:Int
 n:Int
 value:Val
deriving DecidableEq
def argV (a:ArgT):AV:=.agg [iv a.kind,iv a.n,iv a.value.kind,iv a.value.int,.str a.value.str,.bool a.value.bool]
structure SymT where
 event:Int
 args:List ArgT
deriving DecidableEq
def a10 (l:List ArgT):AV:=.seq 6 (l.map argV)
def symV (s:SymT):AV:=.agg [iv s.event,a10 s.args]
structure NodeT where
 op:Int
 a:Int
 b:Int
 value:Val
deriving DecidableEq
def n11 (x:NodeT):AV:=.agg [iv x.op,iv x.a,iv x.b,iv x.value.kind,iv x.value.int,.str x.value.str,.bool x.value.bool]
structure QuantT where
 all:Bool
 name:Str
 type:Int
deriving DecidableEq
def q11 (x:QuantT):AV:=.agg [.bool x.all,.str x.name,iv x.type]
structure FreeT where
 name:Str
 init:Val
deriving DecidableEq
def f11 (x:FreeT):AV:=.agg [.str x.name,iv x.init.kind,iv x.init.int,.str x.init.str,.bool x.init.bool]
structure StateT where
 name:Str
 next:Bool
 accept:Bool
deriving DecidableEq
def s22 (x:StateT):AV:=.agg [.str x.name,.bool x.next,.bool x.accept]
structure SetT where
 free:Int
 expr:Int
deriving DecidableEq
def setV (x:SetT):AV:=.agg [iv x.free,iv x.expr]
def s14 (l:List SetT):AV:=.seq 2 (l.map setV)
structure TransT where
 from_:Int
 symbol:Int
 to_:Int
 guard:Int
 sets:List SetT
deriving DecidableEq
def t11 (x:TransT):AV:=.agg [iv x.from_,iv x.symbol,iv x.to_,iv x.guard,s14 x.sets]
structure DeclT where
 name:Str
 types:List Int
deriving DecidableEq
def i11 (l:List Int):AV:=.seq 1 (l.map iv)
def d12 (x:DeclT):AV:=.agg [.str x.name,i11 x.types]
structure QeaT where
 name:Str
 decls:List DeclT
 quants:List QuantT
 frees:List FreeT
 states:List StateT
 start:Int
 symbols:List SymT
 nodes:List NodeT
 trans:List TransT
deriving DecidableEq
def d_ (l:List DeclT):AV:=.seq 2 (l.map d12)
def q_ (l:List QuantT):AV:=.seq 3 (l.map q11)
def f_ (l:List FreeT):AV:=.seq 5 (l.map f11)
def s_ (l:List StateT):AV:=.seq 3 (l.map s22)
def s10 (l:List SymT):AV:=.seq 2 (l.map symV)
def n_ (l:List NodeT):AV:=.seq 7 (l.map n11)
def t_ (l:List TransT):AV:=.seq 5 (l.map t11)
def qeaV (q:QeaT):AV:=.agg [.str q.name,d_ q.decls,q_ q.quants,f_ q.frees,s_ q.states,iv q.start,s10 q.symbols,n_ q.nodes,t_ q.trans]
theorem a47 (a b:ArgT):(a==b)=(a.kind==b.kind&&(a.n==b.n&&(a.value.kind==b.value.kind&&(a.value.int==b.value.int&&(a.value.str==b.value.str&&(a.value.bool==b.value.bool&&true)))))):=by
 obtain⟨a1,a2,a3,a4,a5,a6⟩:=a
 obtain⟨b1,b2,b3,b4,b5,b6⟩:=b
 rw[Bool.eq_iff_iff]
 simp
theorem sIaTaTp_ (f:Nat) (caps:List AV) (hf:b_ Tryz.prog f=true) (hcap:OkC caps) (p:TransT→Bool) (l:List TransT) (hp:∀x∈l,P_ Tryz.prog G f (t11 x::caps) (.bool (p x))) (hl:l.length<9223372036854775807):
  P_ Tryz.prog G nsIaTaT_ [.seq 5 (l.map t11),.fn f caps] (iv (idxF p l)):=by
 refine psIaTaT_ (Runs.of fun Φ h=>?_)
 unfold csIaTaT_
 simp -implicitDefEqProofs only[go_sem,List.length_map]
 refine al_ (fun n st=>∃i:Nat,i+n=l.length∧st=⟨19,[(0,.seq 5 (l.map t11)),(1,.fn f caps),(7,iv l.length),(8,iv i)],[]⟩∧∀j x,j<i→l[j]? =some x→p x=false) l.length ⟨0,by simp,rfl,fun j x hj=>by omega⟩ ?_
 rintro I hI n st ⟨i,hi,rfl,hno⟩
 simp -implicitDefEqProofs only[go_sem]
 refine⟨fun hlt=>?_,fun hge=>?_⟩
 ·have hlt':i<l.length:=by omega
  obtain⟨x,hx,hm⟩:=as10 hlt'
  have hw:=ws_ hlt' (by omega)
  simp -implicitDefEqProofs only[go_sem,am_ hx,hcap.purge,t11,s14]
  refine⟨hf,ac_ (hp x hm) (by simp [v10,flat,viewBs,viewB,viewK,viewK.go,hcap.viewBs,t11,s14]) rfl ?_⟩
  cases hpx:p x
  ·simp -implicitDefEqProofs only[go_sem,hw,hcap.purge]
   exact aa_ (n - 1) (by omega) (hI _ _ ⟨i+1,by omega,rfl,fun j y hj hy=>by
    by_cases e:j=i
    ·subst e;rw[hx] at hy;cases hy;exact hpx
    ·exact hno j y (by omega) hy⟩)
  ·simp -implicitDefEqProofs only[go_sem,hcap.purge]
   exact h _ ⟨_,_,rfl,rfl,fitI (ia10 hx hpx hno).symm⟩
 ·have:i=l.length:=by omega
  subst this
  exact h _ ⟨_,_,rfl,rfl,fitI (in10 hno).symm⟩
theorem sIaSaSp_ (f:Nat) (caps:List AV) (hf:b_ Tryz.prog f=true) (hcap:OkC caps) (p:SymT→Bool) (l:List SymT) (hp:∀x∈l,P_ Tryz.prog G f (symV x::caps) (.bool (p x))) (hl:l.length<9223372036854775807):
  P_ Tryz.prog G nsIaSaS_ [.seq 2 (l.map symV),.fn f caps] (iv (idxF p l)):=by
 refine psIaSaS_ (Runs.of fun Φ h=>?_)
 unfold csIaSaS_
 simp -implicitDefEqProofs only[go_sem,List.length_map]
 refine al_ (fun n st=>∃i:Nat,i+n=l.length∧st=⟨19,[(0,.seq 2 (l.map symV)),(1,.fn f caps),(7,iv l.length),(8,iv i)],[]⟩∧∀j x,j<i→l[j]? =some x→p x=false) l.length ⟨0,by simp,rfl,fun j x hj=>by omega⟩ ?_
 rintro I hI n st ⟨i,hi,rfl,hno⟩
 simp -implicitDefEqProofs only[go_sem]
 refine⟨fun hlt=>?_,fun hge=>?_⟩
 ·have hlt':i<l.length:=by omega
  obtain⟨x,hx,hm⟩:=as10 hlt'
  have hw:=ws_ hlt' (by omega)
  simp -implicitDefEqProofs only[go_sem,am_ hx,hcap.purge,symV,a10]
  refine⟨hf,ac_ (hp x hm) (by simp [v10,flat,viewBs,viewB,viewK,viewK.go,hcap.viewBs,symV,a10]) rfl ?_⟩
  cases hpx:p x
  ·simp -implicitDefEqProofs only[go_sem,hw,hcap.purge]
   exact aa_ (n - 1) (by omega) (hI _ _ ⟨i+1,by omega,rfl,fun j y hj hy=>by
    by_cases e:j=i
    ·subst e;rw[hx] at hy;cases hy;exact hpx
    ·exact hno j y (by omega) hy⟩)
  ·simp -implicitDefEqProofs only[go_sem,hcap.purge]
   exact h _ ⟨_,_,rfl,rfl,fitI (ia10 hx hpx hno).symm⟩
 ·have:i=l.length:=by omega
  subst this
  exact h _ ⟨_,_,rfl,rfl,fitI (in10 hno).symm⟩
theorem sIaDaDp_ (f:Nat) (caps:List AV) (hf:b_ Tryz.prog f=true) (hcap:OkC caps) (p:DeclT→Bool) (l:List DeclT) (hp:∀x∈l,P_ Tryz.prog G f (d12 x::caps) (.bool (p x))) (hl:l.length<9223372036854775807):
  P_ Tryz.prog G nsIaDaD_ [.seq 2 (l.map d12),.fn f caps] (iv (idxF p l)):=by
 refine psIaDaD_ (Runs.of fun Φ h=>?_)
 unfold csIaDaD_
 simp -implicitDefEqProofs only[go_sem,List.length_map]
 refine al_ (fun n st=>∃i:Nat,i+n=l.length∧st=⟨19,[(0,.seq 2 (l.map d12)),(1,.fn f caps),(7,iv l.length),(8,iv i)],[]⟩∧∀j x,j<i→l[j]? =some x→p x=false) l.length ⟨0,by simp,rfl,fun j x hj=>by omega⟩ ?_
 rintro I hI n st ⟨i,hi,rfl,hno⟩
 simp -implicitDefEqProofs only[go_sem]
 refine⟨fun hlt=>?_,fun hge=>?_⟩
 ·have hlt':i<l.length:=by omega
  obtain⟨x,hx,hm⟩:=as10 hlt'
  have hw:=ws_ hlt' (by omega)
  simp -implicitDefEqProofs only[go_sem,am_ hx,hcap.purge,d12,i11]
  refine⟨hf,ac_ (hp x hm) (by simp [v10,flat,viewBs,viewB,viewK,viewK.go,hcap.viewBs,d12,i11]) rfl ?_⟩
  cases hpx:p x
  ·simp -implicitDefEqProofs only[go_sem,hw,hcap.purge]
   exact aa_ (n - 1) (by omega) (hI _ _ ⟨i+1,by omega,rfl,fun j y hj hy=>by
    by_cases e:j=i
    ·subst e;rw[hx] at hy;cases hy;exact hpx
    ·exact hno j y (by omega) hy⟩)
  ·simp -implicitDefEqProofs only[go_sem,hcap.purge]
   exact h _ ⟨_,_,rfl,rfl,fitI (ia10 hx hpx hno).symm⟩
 ·have:i=l.length:=by omega
  subst this
  exact h _ ⟨_,_,rfl,rfl,fitI (in10 hno).symm⟩
theorem sIiip_ (f:Nat) (caps:List AV) (hf:b_ Tryz.prog f=true) (hcap:OkC caps) (p:Int→Bool) (l:List Int) (hp:∀x∈l,P_ Tryz.prog G f (iv x::caps) (.bool (p x))) (hl:l.length<9223372036854775807):
  P_ Tryz.prog G nsIii_ [.seq 1 (l.map iv),.fn f caps] (iv (idxF p l)):=by
 refine psIii_ (Runs.of fun Φ h=>?_)
 unfold csIii_
 simp -implicitDefEqProofs only[go_sem,List.length_map]
 refine al_ (fun n st=>∃i:Nat,i+n=l.length∧st=⟨19,[(0,.seq 1 (l.map iv)),(1,.fn f caps),(7,iv l.length),(8,iv i)],[]⟩∧∀j x,j<i→l[j]? =some x→p x=false) l.length ⟨0,by simp,rfl,fun j x hj=>by omega⟩ ?_
 rintro I hI n st ⟨i,hi,rfl,hno⟩
 simp -implicitDefEqProofs only[go_sem]
 refine⟨fun hlt=>?_,fun hge=>?_⟩
 ·have hlt':i<l.length:=by omega
  obtain⟨x,hx,hm⟩:=as10 hlt'
  have hw:=ws_ hlt' (by omega)
  simp -implicitDefEqProofs only[go_sem,am_ hx,hcap.purge]
  refine⟨hf,ac_ (hp x hm) (by simp [v10,flat,viewBs,viewB,viewK,viewK.go,hcap.viewBs]) rfl ?_⟩
  cases hpx:p x
  ·simp -implicitDefEqProofs only[go_sem,hw,hcap.purge]
   exact aa_ (n - 1) (by omega) (hI _ _ ⟨i+1,by omega,rfl,fun j y hj hy=>by
    by_cases e:j=i
    ·subst e;rw[hx] at hy;cases hy;exact hpx
    ·exact hno j y (by omega) hy⟩)
  ·simp -implicitDefEqProofs only[go_sem,hcap.purge]
   exact h _ ⟨_,_,rfl,rfl,fitI (ia10 hx hpx hno).symm⟩
 ·have:i=l.length:=by omega
  subst this
  exact h _ ⟨_,_,rfl,rfl,fitI (in10 hno).symm⟩
theorem sI10 (f:Nat) (caps:List AV) (hf:b_ Tryz.prog f=true) (hcap:OkC caps) (p:SetT→Bool) (l:List SetT) (hp:∀x∈l,P_ Tryz.prog G f (setV x::caps) (.bool (p x))) (hl:l.length<9223372036854775807):
  P_ Tryz.prog G ns13 [.seq 2 (l.map setV),.fn f caps] (iv (idxF p l)):=by
 refine ps12 (Runs.of fun Φ h=>?_)
 unfold cs12
 simp -implicitDefEqProofs only[go_sem,List.length_map]
 refine al_ (fun n st=>∃i:Nat,i+n=l.length∧st=⟨19,[(0,.seq 2 (l.map setV)),(1,.fn f caps),(7,iv l.length),(8,iv i)],[]⟩∧∀j x,j<i→l[j]? =some x→p x=false) l.length ⟨0,by simp,rfl,fun j x hj=>by omega⟩ ?_
 rintro I hI n st ⟨i,hi,rfl,hno⟩
 simp -implicitDefEqProofs only[go_sem]
 refine⟨fun hlt=>?_,fun hge=>?_⟩
 ·have hlt':i<l.length:=by omega
  obtain⟨x,hx,hm⟩:=as10 hlt'
  have hw:=ws_ hlt' (by omega)
  simp -implicitDefEqProofs only[go_sem,am_ hx,hcap.purge,setV]
  refine⟨hf,ac_ (hp x hm) (by simp [v10,flat,viewBs,viewB,viewK,viewK.go,hcap.viewBs,setV]) rfl ?_⟩
  cases hpx:p x
  ·simp -implicitDefEqProofs only[go_sem,hw,hcap.purge]
   exact aa_ (n - 1) (by omega) (hI _ _ ⟨i+1,by omega,rfl,fun j y hj hy=>by
    by_cases e:j=i
    ·subst e;rw[hx] at hy;cases hy;exact hpx
    ·exact hno j y (by omega) hy⟩)
  ·simp -implicitDefEqProofs only[go_sem,hcap.purge]
   exact h _ ⟨_,_,rfl,rfl,fitI (ia10 hx hpx hno).symm⟩
 ·have:i=l.length:=by omega
  subst this
  exact h _ ⟨_,_,rfl,rfl,fitI (in10 hno).symm⟩
theorem sCaTaTp_ (f:Nat) (caps:List AV) (hf:b_ Tryz.prog f=true) (hcap:OkC caps) (p:TransT→Bool) (l:List TransT) (hp:∀x∈l,P_ Tryz.prog G f (t11 x::caps) (.bool (p x))) (hl:l.length<9223372036854775807):
  P_ Tryz.prog G nsCaTaT_ [.seq 5 (l.map t11),.fn f caps] (.bool (l.any p)):=by
 refine psCaTaT_ (Runs.of fun Φ h=>?_)
 unfold csCaTaT_
 simp -implicitDefEqProofs only[go_sem]
 refine ac_ (sIaTaTp_ f caps hf hcap p l hp hl) (by simp [v10,flat,viewBs,viewB,viewK,hcap.viewK]) rfl ?_
 simp -implicitDefEqProofs only[go_sem,hcap.purge]
 exact h _ ⟨_,_,rfl,rfl,fitB (ia_ _ _)⟩
theorem sCaSaSp_ (f:Nat) (caps:List AV) (hf:b_ Tryz.prog f=true) (hcap:OkC caps) (p:SymT→Bool) (l:List SymT) (hp:∀x∈l,P_ Tryz.prog G f (symV x::caps) (.bool (p x))) (hl:l.length<9223372036854775807):
  P_ Tryz.prog G nsCaSaS_ [.seq 2 (l.map symV),.fn f caps] (.bool (l.any p)):=by
 refine psCaSaS_ (Runs.of fun Φ h=>?_)
 unfold csCaSaS_
 simp -implicitDefEqProofs only[go_sem]
 refine ac_ (sIaSaSp_ f caps hf hcap p l hp hl) (by simp [v10,flat,viewBs,viewB,viewK,hcap.viewK]) rfl ?_
 simp -implicitDefEqProofs only[go_sem,hcap.purge]
 exact h _ ⟨_,_,rfl,rfl,fitB (ia_ _ _)⟩
theorem sC10 (f:Nat) (caps:List AV) (hf:b_ Tryz.prog f=true) (hcap:OkC caps) (p:Int→Bool) (l:List Int) (hp:∀x∈l,P_ Tryz.prog G f (iv x::caps) (.bool (p x))) (hl:l.length<9223372036854775807):
  P_ Tryz.prog G ns11 [.seq 1 (l.map iv),.fn f caps] (.bool (l.any p)):=by
 refine psCii_ (Runs.of fun Φ h=>?_)
 unfold csCii_
 simp -implicitDefEqProofs only[go_sem]
 refine ac_ (sIiip_ f caps hf hcap p l hp hl) (by simp [v10,flat,viewBs,viewB,viewK,hcap.viewK]) rfl ?_
 simp -implicitDefEqProofs only[go_sem,hcap.purge]
 exact h _ ⟨_,_,rfl,rfl,fitB (ia_ _ _)⟩
theorem sC11 (f:Nat) (caps:List AV) (hf:b_ Tryz.prog f=true) (hcap:OkC caps) (p:SetT→Bool) (l:List SetT) (hp:∀x∈l,P_ Tryz.prog G f (setV x::caps) (.bool (p x))) (hl:l.length<9223372036854775807):
  P_ Tryz.prog G ns10 [.seq 2 (l.map setV),.fn f caps] (.bool (l.any p)):=by
 refine ps10 (Runs.of fun Φ h=>?_)
 unfold cs10
 simp -implicitDefEqProofs only[go_sem]
 refine ac_ (sI10 f caps hf hcap p l hp hl) (by simp [v10,flat,viewBs,viewB,viewK,hcap.viewK]) rfl ?_
 simp -implicitDefEqProofs only[go_sem,hcap.purge]
 exact h _ ⟨_,_,rfl,rfl,fitB (ia_ _ _)⟩
theorem sI12 (l:List Int) (v:Int) (hl:l.length<9223372036854775807):P_ Tryz.prog G ns15 [.seq 1 (l.map iv),iv v] (iv (idxF (fun x=>v==x) l)):=by
 refine ps15 (Runs.of fun Φ h=>?_)
 unfold cs15
 simp -implicitDefEqProofs only[go_sem,List.length_map]
 refine al_ (fun n st=>∃i:Nat,i+n=l.length∧st=⟨19,[(0,.seq 1 (l.map iv)),(1,iv v),(7,iv l.length),(8,iv i)],[]⟩∧∀j x,j<i→l[j]? =some x→(v==x)=false) l.length ⟨0,by simp,rfl,fun j x hj=>by omega⟩ ?_
 rintro I hI n st ⟨i,hi,rfl,hno⟩
 simp -implicitDefEqProofs only[go_sem]
 refine⟨fun hlt=>?_,fun hge=>?_⟩
 ·have hlt':i<l.length:=by omega
  obtain⟨x,hx,hm⟩:=as10 hlt'
  have hw:=ws_ hlt' (by omega)
  have fin:(v==x)=false→a12 I n ⟨19,[(0,.seq 1 (l.map iv)),(1,iv v),(7,iv l.length),(8,iv (i+1:Nat))],[]⟩:=fun hv=>aa_ (n - 1) (by omega) (hI _ _ ⟨i+1,by omega,rfl,fun j y hj hy=>by
    by_cases e:j=i
    ·subst e;rw[hx] at hy;cases hy;exact hv
    ·exact hno j y (by omega) hy⟩)
  simp -implicitDefEqProofs only[go_sem,am_ hx]
  refine⟨fun hb=>?_,fun hb=>?_⟩
  ·have hv:(v==x)=true:=by simpa using hb
   exact h _ ⟨_,_,rfl,rfl,fitI (ia10 hx hv hno).symm⟩
  ·have hv:(v==x)=false:=by simpa using hb
   simp -implicitDefEqProofs only[go_sem,hw]
   exact fin hv
 ·have:i=l.length:=by omega
  subst this
  exact h _ ⟨_,_,rfl,rfl,fitI (in10 hno).symm⟩
theorem sIssp_ (l:List Str) (v:Str) (hl:l.length<9223372036854775807):P_ Tryz.prog G nsIss_ [.seq 1 (l.map AV.str),AV.str v] (iv (idxF (fun x=>v==x) l)):=by
 refine psIss_ (Runs.of fun Φ h=>?_)
 unfold csIss_
 simp -implicitDefEqProofs only[go_sem,List.length_map]
 refine al_ (fun n st=>∃i:Nat,i+n=l.length∧st=⟨19,[(0,.seq 1 (l.map AV.str)),(1,AV.str v),(7,iv l.length),(8,iv i)],[]⟩∧∀j x,j<i→l[j]? =some x→(v==x)=false) l.length ⟨0,by simp,rfl,fun j x hj=>by omega⟩ ?_
 rintro I hI n st ⟨i,hi,rfl,hno⟩
 simp -implicitDefEqProofs only[go_sem]
 refine⟨fun hlt=>?_,fun hge=>?_⟩
 ·have hlt':i<l.length:=by omega
  obtain⟨x,hx,hm⟩:=as10 hlt'
  have hw:=ws_ hlt' (by omega)
  have fin:(v==x)=false→a12 I n ⟨19,[(0,.seq 1 (l.map AV.str)),(1,AV.str v),(7,iv l.length),(8,iv (i+1:Nat))],[]⟩:=fun hv=>aa_ (n - 1) (by omega) (hI _ _ ⟨i+1,by omega,rfl,fun j y hj hy=>by
    by_cases e:j=i
    ·subst e;rw[hx] at hy;cases hy;exact hv
    ·exact hno j y (by omega) hy⟩)
  simp -implicitDefEqProofs only[go_sem,am_ hx]
  refine⟨fun hb=>?_,fun hb=>?_⟩
  ·have hv:(v==x)=true:=by simpa using hb
   exact h _ ⟨_,_,rfl,rfl,fitI (ia10 hx hv hno).symm⟩
  ·have hv:(v==x)=false:=by simpa using hb
   simp -implicitDefEqProofs only[go_sem,hw]
   exact fin hv
 ·have:i=l.length:=by omega
  subst this
  exact h _ ⟨_,_,rfl,rfl,fitI (in10 hno).symm⟩
theorem sIaAaAp_ (l:List ArgT) (v:ArgT) (hl:l.length<9223372036854775807):P_ Tryz.prog G nsIaAaA_ [.seq 6 (l.map argV),argV v] (iv (idxF (fun x=>v==x) l)):=by
 refine psIaAaA_ (Runs.of fun Φ h=>?_)
 unfold csIaAaA_
 simp -implicitDefEqProofs only[go_sem,List.length_map,argV]
 refine al_ (fun n st=>∃i:Nat,i+n=l.length∧st=⟨19,[(0,.seq 6 (l.map argV)),(3,.ref 3 0 0),(7,iv l.length),(8,iv i)],[(3,⟨false,taA_,6,[argV v]⟩)]⟩∧∀j x,j<i→l[j]? =some x→(v==x)=false) l.length ⟨0,by simp,rfl,fun j x hj=>by omega⟩ ?_
 rintro I hI n st ⟨i,hi,rfl,hno⟩
 simp -implicitDefEqProofs only[go_sem,argV]
 refine⟨fun hlt=>?_,fun hge=>?_⟩
 ·have hlt':i<l.length:=by omega
  obtain⟨x,hx,hm⟩:=as10 hlt'
  have hw:=ws_ hlt' (by omega)
  have fin:(v==x)=false→a12 I n ⟨19,[(0,.seq 6 (l.map argV)),(3,.ref 3 0 0),(7,iv l.length),(8,iv (i+1:Nat))],[(3,⟨false,taA_,6,[argV v]⟩)]⟩:=fun hv=>aa_ (n - 1) (by omega) (hI _ _ ⟨i+1,by omega,rfl,fun j y hj hy=>by
    by_cases e:j=i
    ·subst e;rw[hx] at hy;cases hy;exact hv
    ·exact hno j y (by omega) hy⟩)
  simp -implicitDefEqProofs only[go_sem,am_ hx,argV]
  refine⟨fun hb=>?_,fun hb=>?_⟩
  ·have hv:(v==x)=true:=by rw[a47];simpa using hb
   exact h _ ⟨_,_,rfl,rfl,fitI (ia10 hx hv hno).symm⟩
  ·have hv:(v==x)=false:=by rw[a47];simpa using hb
   simp -implicitDefEqProofs only[go_sem,hw]
   exact fin hv
 ·have:i=l.length:=by omega
  subst this
  exact h _ ⟨_,_,rfl,rfl,fitI (in10 hno).symm⟩
theorem sCiip_ (l:List Int) (v:Int) (hl:l.length<9223372036854775807):P_ Tryz.prog G nsCii_ [.seq 1 (l.map iv),iv v] (.bool (l.any fun x=>v==x)):=by
 refine ps14 (Runs.of fun Φ h=>?_)
 unfold cs14
 simp -implicitDefEqProofs only[go_sem]
 refine ac_ (sI12 l v hl) rfl rfl ?_
 simp -implicitDefEqProofs only[go_sem]
 exact h _ ⟨_,_,rfl,rfl,fitB (ia_ _ _)⟩
theorem sCssp_ (l:List Str) (v:Str) (hl:l.length<9223372036854775807):P_ Tryz.prog G nsCss_ [.seq 1 (l.map AV.str),AV.str v] (.bool (l.any fun x=>v==x)):=by
 refine psCss_ (Runs.of fun Φ h=>?_)
 unfold csCss_
 simp -implicitDefEqProofs only[go_sem]
 refine ac_ (sIssp_ l v hl) rfl rfl ?_
 simp -implicitDefEqProofs only[go_sem]
 exact h _ ⟨_,_,rfl,rfl,fitB (ia_ _ _)⟩
theorem sCaAaAp_ (l:List ArgT) (v:ArgT) (hl:l.length<9223372036854775807):P_ Tryz.prog G nsCaAaA_ [.seq 6 (l.map argV),argV v] (.bool (l.any fun x=>v==x)):=by
 refine psCaAaA_ (Runs.of fun Φ h=>?_)
 unfold csCaAaA_
 simp -implicitDefEqProofs only[go_sem,argV]
 refine ac_ (sIaAaAp_ l v hl) rfl rfl ?_
 simp -implicitDefEqProofs only[go_sem]
 exact h _ ⟨_,_,rfl,rfl,fitB (ia_ _ _)⟩
theorem sEaAaAp_ (k l:List ArgT) (hk:k.length<9223372036854775807) (hl:l.length<9223372036854775807):P_ Tryz.prog G nsEaAaA_ [.seq 6 (k.map argV),.seq 6 (l.map argV)] (.bool (decide (k=l))):=by
 refine psEaAaA_ (Runs.of fun Φ h=>?_)
 unfold csEaAaA_
 simp -implicitDefEqProofs only[go_sem,List.length_map]
 refine⟨fun hb=>?_,fun hb=>?_⟩
 ·refine h _ ⟨_,_,rfl,rfl,fitB ?_⟩
  symm
  rw[decide_eq_false_iff_not]
  rintro rfl
  simp at hb
 ·have hkl:k.length=l.length:=by
   have:(k.length:Int)=l.length:=by simpa using hb
   omega
  refine al_ (fun n st=>∃i:Nat,i+n=k.length∧st=⟨26,[(0,.seq 6 (k.map argV)),(1,.seq 6 (l.map argV)),(12,iv k.length),(13,iv i)],[]⟩∧∀j x y,j<i→k[j]? =some x→l[j]? =some y→(x==y)=true) k.length ⟨0,by simp,rfl,fun j x y hj=>by omega⟩ ?_
  rintro I hI n st ⟨i,hi,rfl,hall⟩
  simp -implicitDefEqProofs only[go_sem]
  refine⟨fun hlt=>?_,fun hge=>?_⟩
  ·have hlt':i<k.length:=by omega
   obtain⟨x,hx,hm⟩:=as10 hlt'
   obtain⟨y,hy,hm'⟩:=as10 (l:=l) (i:=i) (by omega)
   have hw:=ws_ hlt' (by omega)
   have fin:(x==y)=true→a12 I n ⟨26,[(0,.seq 6 (k.map argV)),(1,.seq 6 (l.map argV)),(12,iv k.length),(13,iv (i+1:Nat))],[]⟩:=fun hv=>aa_ (n - 1) (by omega) (hI _ _ ⟨i+1,by omega,rfl,fun j a b hj ha hb=>by
    by_cases e:j=i
    ·subst e;rw[hx] at ha;cases ha;rw[hy] at hb;cases hb;exact hv
    ·exact hall j a b (by omega) ha hb⟩)
   simp -implicitDefEqProofs only[go_sem,am_ hx,am_ hy,argV]
   refine⟨fun hb=>?_,fun hb=>?_⟩
   ·have hv:(x==y)=false:=by
     cases hxy:(x==y) with
     | false=>rfl
     | true=>exfalso;have:=eq_of_beq hxy;subst this;simp at hb
    refine h _ ⟨_,_,rfl,rfl,fitB ?_⟩
    symm
    rw[decide_eq_false_iff_not]
    rintro rfl
    rw[hx] at hy
    cases hy
    simp at hv
   ·have hv:(x==y)=true:=by rw[a47];simpa using hb
    simp -implicitDefEqProofs only[go_sem,hw]
    exact fin hv
  ·refine h _ ⟨_,_,rfl,rfl,fitB ?_⟩
   symm
   rw[decide_eq_true_eq]
   apply List.ext_getElem?
   intro j
   by_cases hj:j<k.length
   ·rw[List.getElem?_eq_getElem hj,List.getElem?_eq_getElem (by omega)]
    have:=hall j _ _ (by omega) (List.getElem?_eq_getElem hj) (List.getElem?_eq_getElem (by omega))
    rw[eq_of_beq this]
   ·rw[List.getElem?_eq_none (by omega),List.getElem?_eq_none (by omega)]
theorem caaQp_ (f:Nat) (caps:List AV) (hf:b_ Tryz.prog f=true) (hcap:OkC caps) (p:Nat→QuantT→Bool) (l:List QuantT) (hp:∀(i:Nat) x,l[i]? =some x→P_ Tryz.prog G f (iv i::q11 x::caps) (.bool (p i x))) (hl:l.length<9223372036854775807):
  P_ Tryz.prog G ncaaQ_ [.seq 3 (l.map q11),.fn f caps] (.bool (allI p l)):=by
 refine pcaaQ_ (Runs.of fun Φ h=>?_)
 unfold ccaaQ_
 simp -implicitDefEqProofs only[go_sem,List.length_map]
 refine al_ (fun n st=>∃i:Nat,i+n=l.length∧st=⟨20,[(1,.fn f caps),(7,.seq 3 (l.map q11)),(8,iv l.length),(9,iv i)],[]⟩∧∀j x,j<i→l[j]? =some x→p j x=true) l.length ⟨0,by simp,rfl,fun j x hj=>by omega⟩ ?_
 rintro I hI n st ⟨i,hi,rfl,hno⟩
 simp -implicitDefEqProofs only[go_sem]
 refine⟨fun hlt=>?_,fun hge=>?_⟩
 ·have hlt':i<l.length:=by omega
  obtain⟨x,hx,hm⟩:=as10 hlt'
  have hw:=ws_ hlt' (by omega)
  simp -implicitDefEqProofs only[go_sem,am_ hx,hcap.purge,q11]
  refine⟨hf,ac_ (hp i x hx) (by simp [v10,flat,viewBs,viewB,viewK,viewK.go,hcap.viewBs,q11]) rfl ?_⟩
  cases hpx:p i x
  ·simp -implicitDefEqProofs only[go_sem,hcap.purge]
   exact h _ ⟨_,_,rfl,rfl,fitB (af_ hx hpx).symm⟩
  ·simp -implicitDefEqProofs only[go_sem,hw,hcap.purge]
   exact aa_ (n - 1) (by omega) (hI _ _ ⟨i+1,by omega,rfl,fun j y hj hy=>by
    by_cases e:j=i
    ·subst e;rw[hx] at hy;cases hy;exact hpx
    ·exact hno j y (by omega) hy⟩)
 ·have:i=l.length:=by omega
  subst this
  exact h _ ⟨_,_,rfl,rfl,fitB (at10.2 fun i x hx=>hno i x (List.getElem?_eq_some_iff.1 hx).1 hx).symm⟩
theorem caaFp_ (f:Nat) (caps:List AV) (hf:b_ Tryz.prog f=true) (hcap:OkC caps) (p:Nat→FreeT→Bool) (l:List FreeT) (hp:∀(i:Nat) x,l[i]? =some x→P_ Tryz.prog G f (iv i::f11 x::caps) (.bool (p i x))) (hl:l.length<9223372036854775807):
  P_ Tryz.prog G ncaaF_ [.seq 5 (l.map f11),.fn f caps] (.bool (allI p l)):=by
 refine pcaaF_ (Runs.of fun Φ h=>?_)
 unfold ccaaF_
 simp -implicitDefEqProofs only[go_sem,List.length_map]
 refine al_ (fun n st=>∃i:Nat,i+n=l.length∧st=⟨20,[(1,.fn f caps),(7,.seq 5 (l.map f11)),(8,iv l.length),(9,iv i)],[]⟩∧∀j x,j<i→l[j]? =some x→p j x=true) l.length ⟨0,by simp,rfl,fun j x hj=>by omega⟩ ?_
 rintro I hI n st ⟨i,hi,rfl,hno⟩
 simp -implicitDefEqProofs only[go_sem]
 refine⟨fun hlt=>?_,fun hge=>?_⟩
 ·have hlt':i<l.length:=by omega
  obtain⟨x,hx,hm⟩:=as10 hlt'
  have hw:=ws_ hlt' (by omega)
  simp -implicitDefEqProofs only[go_sem,am_ hx,hcap.purge,f11]
  refine⟨hf,ac_ (hp i x hx) (by simp [v10,flat,viewBs,viewB,viewK,viewK.go,hcap.viewBs,f11]) rfl ?_⟩
  cases hpx:p i x
  ·simp -implicitDefEqProofs only[go_sem,hcap.purge]
   exact h _ ⟨_,_,rfl,rfl,fitB (af_ hx hpx).symm⟩
  ·simp -implicitDefEqProofs only[go_sem,hw,hcap.purge]
   exact aa_ (n - 1) (by omega) (hI _ _ ⟨i+1,by omega,rfl,fun j y hj hy=>by
    by_cases e:j=i
    ·subst e;rw[hx] at hy;cases hy;exact hpx
    ·exact hno j y (by omega) hy⟩)
 ·have:i=l.length:=by omega
  subst this
  exact h _ ⟨_,_,rfl,rfl,fitB (at10.2 fun i x hx=>hno i x (List.getElem?_eq_some_iff.1 hx).1 hx).symm⟩
theorem caip_ (f:Nat) (caps:List AV) (hf:b_ Tryz.prog f=true) (hcap:OkC caps) (p:Nat→Int→Bool) (l:List Int) (hp:∀(i:Nat) x,l[i]? =some x→P_ Tryz.prog G f (iv i::iv x::caps) (.bool (p i x))) (hl:l.length<9223372036854775807):
  P_ Tryz.prog G ncai_ [.seq 1 (l.map iv),.fn f caps] (.bool (allI p l)):=by
 refine pcai_ (Runs.of fun Φ h=>?_)
 unfold ccai_
 simp -implicitDefEqProofs only[go_sem,List.length_map]
 refine al_ (fun n st=>∃i:Nat,i+n=l.length∧st=⟨20,[(1,.fn f caps),(7,.seq 1 (l.map iv)),(8,iv l.length),(9,iv i)],[]⟩∧∀j x,j<i→l[j]? =some x→p j x=true) l.length ⟨0,by simp,rfl,fun j x hj=>by omega⟩ ?_
 rintro I hI n st ⟨i,hi,rfl,hno⟩
 simp -implicitDefEqProofs only[go_sem]
 refine⟨fun hlt=>?_,fun hge=>?_⟩
 ·have hlt':i<l.length:=by omega
  obtain⟨x,hx,hm⟩:=as10 hlt'
  have hw:=ws_ hlt' (by omega)
  simp -implicitDefEqProofs only[go_sem,am_ hx,hcap.purge]
  refine⟨hf,ac_ (hp i x hx) (by simp [v10,flat,viewBs,viewB,viewK,viewK.go,hcap.viewBs]) rfl ?_⟩
  cases hpx:p i x
  ·simp -implicitDefEqProofs only[go_sem,hcap.purge]
   exact h _ ⟨_,_,rfl,rfl,fitB (af_ hx hpx).symm⟩
  ·simp -implicitDefEqProofs only[go_sem,hw,hcap.purge]
   exact aa_ (n - 1) (by omega) (hI _ _ ⟨i+1,by omega,rfl,fun j y hj hy=>by
    by_cases e:j=i
    ·subst e;rw[hx] at hy;cases hy;exact hpx
    ·exact hno j y (by omega) hy⟩)
 ·have:i=l.length:=by omega
  subst this
  exact h _ ⟨_,_,rfl,rfl,fitB (at10.2 fun i x hx=>hno i x (List.getElem?_eq_some_iff.1 hx).1 hx).symm⟩
theorem caaSp_ (f:Nat) (caps:List AV) (hf:b_ Tryz.prog f=true) (hcap:OkC caps) (p:Nat→SymT→Bool) (l:List SymT) (hp:∀(i:Nat) x,l[i]? =some x→P_ Tryz.prog G f (iv i::symV x::caps) (.bool (p i x))) (hl:l.length<9223372036854775807):
  P_ Tryz.prog G ncaaS_ [.seq 2 (l.map symV),.fn f caps] (.bool (allI p l)):=by
 refine pcaaS_ (Runs.of fun Φ h=>?_)
 unfold ccaaS_
 simp -implicitDefEqProofs only[go_sem,List.length_map]
 refine al_ (fun n st=>∃i:Nat,i+n=l.length∧st=⟨20,[(1,.fn f caps),(7,.seq 2 (l.map symV)),(8,iv l.length),(9,iv i)],[]⟩∧∀j x,j<i→l[j]? =some x→p j x=true) l.length ⟨0,by simp,rfl,fun j x hj=>by omega⟩ ?_
 rintro I hI n st ⟨i,hi,rfl,hno⟩
 simp -implicitDefEqProofs only[go_sem]
 refine⟨fun hlt=>?_,fun hge=>?_⟩
 ·have hlt':i<l.length:=by omega
  obtain⟨x,hx,hm⟩:=as10 hlt'
  have hw:=ws_ hlt' (by omega)
  simp -implicitDefEqProofs only[go_sem,am_ hx,hcap.purge,symV,a10]
  refine⟨hf,ac_ (hp i x hx) (by simp [v10,flat,viewBs,viewB,viewK,viewK.go,hcap.viewBs,symV,a10]) rfl ?_⟩
  cases hpx:p i x
  ·simp -implicitDefEqProofs only[go_sem,hcap.purge]
   exact h _ ⟨_,_,rfl,rfl,fitB (af_ hx hpx).symm⟩
  ·simp -implicitDefEqProofs only[go_sem,hw,hcap.purge]
   exact aa_ (n - 1) (by omega) (hI _ _ ⟨i+1,by omega,rfl,fun j y hj hy=>by
    by_cases e:j=i
    ·subst e;rw[hx] at hy;cases hy;exact hpx
    ·exact hno j y (by omega) hy⟩)
 ·have:i=l.length:=by omega
  subst this
  exact h _ ⟨_,_,rfl,rfl,fitB (at10.2 fun i x hx=>hno i x (List.getElem?_eq_some_iff.1 hx).1 hx).symm⟩
theorem casp_ (f:Nat) (caps:List AV) (hf:b_ Tryz.prog f=true) (hcap:OkC caps) (p:Nat→Str→Bool) (l:List Str) (hp:∀(i:Nat) x,l[i]? =some x→P_ Tryz.prog G f (iv i::AV.str x::caps) (.bool (p i x))) (hl:l.length<9223372036854775807):
  P_ Tryz.prog G ncas_ [.seq 1 (l.map AV.str),.fn f caps] (.bool (allI p l)):=by
 refine pcas_ (Runs.of fun Φ h=>?_)
 unfold ccas_
 simp -implicitDefEqProofs only[go_sem,List.length_map]
 refine al_ (fun n st=>∃i:Nat,i+n=l.length∧st=⟨20,[(1,.fn f caps),(7,.seq 1 (l.map AV.str)),(8,iv l.length),(9,iv i)],[]⟩∧∀j x,j<i→l[j]? =some x→p j x=true) l.length ⟨0,by simp,rfl,fun j x hj=>by omega⟩ ?_
 rintro I hI n st ⟨i,hi,rfl,hno⟩
 simp -implicitDefEqProofs only[go_sem]
 refine⟨fun hlt=>?_,fun hge=>?_⟩
 ·have hlt':i<l.length:=by omega
  obtain⟨x,hx,hm⟩:=as10 hlt'
  have hw:=ws_ hlt' (by omega)
  simp -implicitDefEqProofs only[go_sem,am_ hx,hcap.purge]
  refine⟨hf,ac_ (hp i x hx) (by simp [v10,flat,viewBs,viewB,viewK,viewK.go,hcap.viewBs]) rfl ?_⟩
  cases hpx:p i x
  ·simp -implicitDefEqProofs only[go_sem,hcap.purge]
   exact h _ ⟨_,_,rfl,rfl,fitB (af_ hx hpx).symm⟩
  ·simp -implicitDefEqProofs only[go_sem,hw,hcap.purge]
   exact aa_ (n - 1) (by omega) (hI _ _ ⟨i+1,by omega,rfl,fun j y hj hy=>by
    by_cases e:j=i
    ·subst e;rw[hx] at hy;cases hy;exact hpx
    ·exact hno j y (by omega) hy⟩)
 ·have:i=l.length:=by omega
  subst this
  exact h _ ⟨_,_,rfl,rfl,fitB (at10.2 fun i x hx=>hno i x (List.getElem?_eq_some_iff.1 hx).1 hx).symm⟩
end Go.Proofs.YtjbcfpkibnhodaaGreatDoor.Ab
