/- Lemmas. -/
import Derived.Test.YtkgcnoghjibiaaaGreatDoorYAcR1
import Derived.Test.YtkgcnoghjibiaaaGreatDoorYAcR2
import Derived.Test.YtkgcnoghjibiaaaGreatDoorYAcR3
set_option linter.unusedSimpArgs false
set_option maxHeartbeats 4000000
namespace Go.Proofs.YtkgcnoghjibiaaaGreatDoor.Ab
open Go
variable {G:Nat->Option AV}
structure Val where
 kind:Int
 int:Int
 str:Str
 bool:Bool
deriving DecidableEq
abbrev v0:Val:=⟨0,0,[],false⟩
def valV (v:Val):AV:=.agg [iv v.kind,iv v.int,.str v.str,.bool v.bool]
theorem vIp_ (n:Int):PQ G 189 [iv n] (valV ⟨1,n,[],false⟩):=by refine pvI_ λΦ h=>?_;unfold cvI_;simp -implicitDefEqProofs only[go_sem];exact hq_ h
theorem vSp_ (s:Str):PQ G 190 [.str s] (valV ⟨2,0,s,false⟩):=by refine pvS_ λΦ h=>?_;unfold cvS_;simp -implicitDefEqProofs only[go_sem];exact hq_ h
theorem vBp_ (b:Bool):PQ G 191 [.bool b] (valV ⟨3,0,[],b⟩):=by refine pvB_ λΦ h=>?_;unfold cvB_;simp -implicitDefEqProofs only[go_sem];exact hq_ h
def Val.ok (v:Val):Bool:=
 if v.kind=1 then v.str==[]&& !v.bool else if v.kind=2 then v.int==0&&(!v.bool&&decide ((v.str.length:Int)<=4096)) else decide (v.kind=3)&&(v.int==0&&v.str==[])
theorem vRp_ (v:Val):PQ G 103 [valV v] (.bool v.ok):=by
 obtain⟨k,n,s,b⟩:=v;refine pvR_ λΦ h=>?_;unfold cvR_
 repeat' (first|simp -implicitDefEqProofs only[go_sem,valV]|apply ai__<;>intro hb|refine ac_ (vIp_ _) rfl rfl ?_|refine ac_ (vSp_ _) rfl rfl ?_|refine ac_ (vBp_ _) rfl rfl ?_|fail)
 all_goals (refine h _ ⟨_,_,rfl,rfl,fe_ ?_⟩;clear h;first | rfl | simp_all [Val.ok])
theorem rRp_ (v:Val):PQ G 35 [valV v] (.bool v.ok):=by
 obtain⟨k,n,s,b⟩:=v;refine pp25 λΦ h=>?_;unfold cp27
 repeat' (first|simp -implicitDefEqProofs only[go_sem,valV]|apply ai__<;>intro hb)
 all_goals (refine h _ ⟨_,_,rfl,rfl,fe_ ?_⟩;clear h;first | rfl | simp_all [Val.ok])
def k_ (k:Int):Str:=if k=1 then [105,110,116] else if k=2 then [115,116,114,105,110,103] else if k=3 then [98,111,111,108] else []
theorem vNp_ (k:Int):PQ G 153 [iv k] (.str (k_ k)):=by
 refine pvN_ λΦ h=>?_;unfold cvN_
 repeat' (first|simp -implicitDefEqProofs only[go_sem]|apply ai__<;>intro hb)
 all_goals (refine h _ ⟨_,_,rfl,rfl,fe_ ?_⟩;clear h;first | rfl | simp_all [k_])
theorem vwp_ (b:Bool) (k:Int):PQ G 269 [.bool b,iv k] (iv (if b then k else 0)):=by
 refine pvw_ λΦ h=>?_;unfold cvw_
 repeat' (first|simp -implicitDefEqProofs only[go_sem]|apply ai__<;>intro hb)
 all_goals (refine h _ ⟨_,_,rfl,rfl,fe_ ?_⟩;clear h;first | rfl | simp_all)
def o11 (op a b:Int):Int:=
 if op=4 then (if a=3 then 3 else 0)
 else if op=5 then (if a=1 then 1 else 0)
 else if op=6∨op=7 then (if a=3∧b=a then 3 else 0)
 else if op=9∨op=10∨op=11∨op=12 then (if a=1∧b=a then a else 0)
 else if op=8 then (if (a=1∨a=2)∧b=a then a else 0)
 else if op=13∨op=14 then (if k_ a≠[]∧b=a then 3 else 0)
 else if op=15∨op=16 then (if (a=1∨a=2)∧b=a then 3 else 0)
 else 0
theorem vTp_ (op a b:Int):PQ G 231 [iv op,iv a,iv b] (iv (o11 op a b)):=by
 refine pvT_ λΦ h=>?_;unfold cvT_
 repeat' (first|simp -implicitDefEqProofs only[go_sem]|apply ai__<;>intro hb|refine ac_ (vwp_ _ _) rfl rfl ?_|refine ac_ (vNp_ _) rfl rfl ?_|fail)
 all_goals (refine h _ ⟨_,_,rfl,rfl,fe_ ?_⟩;clear h;simp_all [o11])
structure ArgT where
 kind:Int
 n:Int
 value:Val
deriving DecidableEq
def argV (a:ArgT):AV:=.agg [iv a.kind,iv a.n,iv a.value.kind,iv a.value.int,.str a.value.str,.bool a.value.bool]
structure SymT where
 event:Int
 args:List ArgT
deriving DecidableEq
def a10 (l:List ArgT):AV:=.seq 6 (l.map argV)
def symV (s:SymT):AV:=.agg [iv s.event,a10 s.args]
structure NodeT where
 op:Int
 a:Int
 b:Int
 value:Val
deriving DecidableEq
def n11 (x:NodeT):AV:=.agg [iv x.op,iv x.a,iv x.b,iv x.value.kind,iv x.value.int,.str x.value.str,.bool x.value.bool]
structure QuantT where
 all:Bool
 name:Str
 type:Int
deriving DecidableEq
def q11 (x:QuantT):AV:=.agg [.bool x.all,.str x.name,iv x.type]
structure FreeT where
 name:Str
 init:Val
deriving DecidableEq
def f10 (x:FreeT):AV:=.agg [.str x.name,iv x.init.kind,iv x.init.int,.str x.init.str,.bool x.init.bool]
structure StateT where
 name:Str
 next:Bool
 accept:Bool
deriving DecidableEq
def s14 (x:StateT):AV:=.agg [.str x.name,.bool x.next,.bool x.accept]
structure SetT where
 free:Int
 expr:Int
deriving DecidableEq
def setV (x:SetT):AV:=.agg [iv x.free,iv x.expr]
def s18 (l:List SetT):AV:=.seq 2 (l.map setV)
structure TransT where
 from_:Int
 symbol:Int
 to_:Int
 guard:Int
 sets:List SetT
deriving DecidableEq
def t11 (x:TransT):AV:=.agg [iv x.from_,iv x.symbol,iv x.to_,iv x.guard,s18 x.sets]
structure DeclT where
 name:Str
 types:List Int
deriving DecidableEq
def i11 (l:List Int):AV:=.seq 1 (l.map iv)
def d12 (x:DeclT):AV:=.agg [.str x.name,i11 x.types]
structure QeaT where
 name:Str
 decls:List DeclT
 quants:List QuantT
 frees:List FreeT
 states:List StateT
 start:Int
 symbols:List SymT
 nodes:List NodeT
 trans:List TransT
deriving DecidableEq
def d_ (l:List DeclT):AV:=.seq 2 (l.map d12)
def q_ (l:List QuantT):AV:=.seq 3 (l.map q11)
def f_ (l:List FreeT):AV:=.seq 5 (l.map f10)
def s_ (l:List StateT):AV:=.seq 3 (l.map s14)
def s10 (l:List SymT):AV:=.seq 2 (l.map symV)
def n_ (l:List NodeT):AV:=.seq 7 (l.map n11)
def t_ (l:List TransT):AV:=.seq 5 (l.map t11)
def qeaV (q:QeaT):AV:=.agg [.str q.name,d_ q.decls,q_ q.quants,f_ q.frees,s_ q.states,iv q.start,s10 q.symbols,n_ q.nodes,t_ q.trans]
theorem a38 (a b:ArgT):(a==b)=(a.kind==b.kind&&(a.n==b.n&&(a.value.kind==b.value.kind&&(a.value.int==b.value.int&&(a.value.str==b.value.str&&(a.value.bool==b.value.bool&&true)))))):=by obtain⟨a1,a2,a3,a4,a5,a6⟩:=a;obtain⟨b1,b2,b3,b4,b5,b6⟩:=b;rw[yY];simp
def Enc {α:Type} (e:α->AV) (sz:Nat):Prop:=0<sz∧∀x,∃cs,e x= .agg cs∧cs.length=sz∧cs.all c22=true∧(∀i,purge.go i cs=cs)∧(∀rec H,viewK.go rec H cs=some cs)∧(∀H,view.go H cs=some cs)∧r14.go cs=[]
def cIxF (sz:Nat):AFun:=⟨19,2,[.t 4],
 (.seq (.reg [⟨some 4,.mov (.k (.int .i64 0)),none⟩] [0,1])
(.seq (.seq (.reg [⟨some 6,.mov (.t 0),none⟩,⟨some 7,.len false (.t 6),none⟩,⟨some 8,.mov (.k (.int .i64 0)),none⟩] [0,1,7,8])
(.block 0
(.loop [0,1,7,8] [7]
 (.seq (.reg [⟨some 9,.bin .lss (.t 8) (.t 7),none⟩] [0,1,7,8,9])
(.seq (.cond (.t 9) .skip (.exit 0))
(.seq (.block 1
(.seq (.reg [⟨some 10,.mov (.t 8),none⟩,⟨some 5,.mov (.t 10),none⟩] [0,1,5,7,8])
(.seq (.reg [⟨some 11,.mov (.t 1),none⟩,⟨some 12,.mov (.t 0),none⟩,⟨some 13,.mov (.t 5),none⟩,⟨some 14,.iaddr sz (.t 12) (.t 13),none⟩,⟨some 15,.loadN (.t 14) sz,none⟩,⟨some 16,.callv (.t 11) [.t 15],none⟩] [0,1,5,7,8,16])
(.cond (.t 16)
(.seq (.reg [⟨some 17,.mov (.t 5),none⟩,⟨some 4,.mov (.t 17),none⟩] [4])
.ret)
.skip))))
(.reg [⟨some 18,.bin .add (.t 8) (.k (.int .i64 1)),none⟩,⟨some 8,.mov (.t 18),none⟩] [0,1,7,8])))))))
(.seq (.reg [⟨some 4,.mov (.k (.int .i64 (-1))),none⟩] [4])
.ret)))⟩
theorem gIxF {α:Type} {e:α->AV} {sz n:Nat} (E:Enc e sz) {fn:Func} (hfn:Tryz.prog.funcs[n]?=some fn) (hck:chkF Tryz.prog fn (cIxF sz)=true) (f:Nat) (caps:List AV) (hf:b11 Tryz.prog f=true) (hcap:OkC caps) (p:α->Bool) (l:List α) (hp:∀x∈l,PQ G f (e x::caps) (.bool (p x))) (hl:l.length<9223372036854775807):
  PQ G n [.seq sz (l.map e),.fn f caps] (iv (idxF p l)):=by
 refine P_.of_runs hfn hck rfl (Runs.of λΦ h=>?_);unfold cIxF;simp -implicitDefEqProofs only[go_sem,zQ];refine al_ (λn st=>∃i:Nat,i+n=l.length∧st=⟨19,[(0,.seq sz (l.map e)),(1,.fn f caps),(7,iv l.length),(8,iv i)],[]⟩∧∀j x,j<i->l[j]?=some x->p x=false) l.length ⟨0,by simp,rfl,λj x hj=>by omega⟩ ?_;rintro I hI n st ⟨i,hi,rfl,hno⟩;simp -implicitDefEqProofs only[go_sem];refine⟨λhlt=>?_,λhge=>?_⟩
 .have hlt':i<l.length:=by omega
  obtain⟨x,hx,hm⟩:=as10 hlt';have hw:=ws_ hlt';obtain⟨cs,hcs,hcl,_,hpu,hvk,_,_⟩:=E.2 x;have hc:=hp x hm;have ht:cs.take sz=cs:=zT (by omega);have hsl:sz<=cs.length:=by omega
  rw[hcs] at hc;simp -implicitDefEqProofs only[go_sem,am_ hx,hcap.purge,hcs,ht,hsl,hpu];refine⟨hf,ac_ hc (by simp [v10,flat,viewBs,viewB,viewK,hvk,hcap.viewBs]) rfl ?_⟩;cases hpx:p x
  .simp -implicitDefEqProofs only[go_sem,hw,hcap.purge,hpu];exact aa_ (n - 1) (by omega) (hI _ _ ⟨i+1,by omega,rfl,λj y hj hy=>by
    by_cases e:j=i
    .subst e;rw[hx] at hy;cases hy;exact hpx
    .exact hno j y (by omega) hy⟩)
  .simp -implicitDefEqProofs only[go_sem,hcap.purge,hpu];exact h _ ⟨_,_,rfl,rfl,fitI (ia_ hx hpx hno).symm⟩
 .have:i=l.length:=by omega
  subst this;exact h _ ⟨_,_,rfl,rfl,fitI (in10 hno).symm⟩
theorem es14:Enc symV 2:=⟨by decide,λ_ =>⟨_,rfl,rfl,rfl,λ_ =>rfl,λ_ _ =>rfl,λ_ =>rfl,rfl⟩⟩
abbrev sIaSaSp_:=gIxF (G:=G) es14 Tryz.func170 (by kernel_rfl)
theorem ed_:Enc d12 2:=⟨by decide,λ_ =>⟨_,rfl,rfl,rfl,λ_ =>rfl,λ_ _ =>rfl,λ_ =>rfl,rfl⟩⟩
abbrev sIaDaDp_:=gIxF (G:=G) ed_ Tryz.func284 (by kernel_rfl)
theorem sI17 (f:Nat) (caps:List AV) (hf:b11 Tryz.prog f=true) (hcap:OkC caps) (p:Int->Bool) (l:List Int) (hp:∀x∈l,PQ G f (iv x::caps) (.bool (p x))) (hl:l.length<9223372036854775807):
  PQ G 249 [.seq 1 (l.map iv),.fn f caps] (iv (idxF p l)):=by
 refine psIii_ λΦ h=>?_;unfold csIii_;simp -implicitDefEqProofs only[go_sem,zQ];refine al_ (λn st=>∃i:Nat,i+n=l.length∧st=⟨19,[(0,.seq 1 (l.map iv)),(1,.fn f caps),(7,iv l.length),(8,iv i)],[]⟩∧∀j x,j<i->l[j]?=some x->p x=false) l.length ⟨0,by simp,rfl,λj x hj=>by omega⟩ ?_;rintro I hI n st ⟨i,hi,rfl,hno⟩;simp -implicitDefEqProofs only[go_sem];refine⟨λhlt=>?_,λhge=>?_⟩
 .have hlt':i<l.length:=by omega
  obtain⟨x,hx,hm⟩:=as10 hlt';have hw:=ws_ hlt';simp -implicitDefEqProofs only[go_sem,am_ hx,hcap.purge];refine⟨hf,ac_ (hp x hm) (by simp [v10,flat,viewBs,viewB,viewK,viewK.go,hcap.viewBs]) rfl ?_⟩;cases hpx:p x
  .simp -implicitDefEqProofs only[go_sem,hw,hcap.purge];exact aa_ (n - 1) (by omega) (hI _ _ ⟨i+1,by omega,rfl,λj y hj hy=>by
    by_cases e:j=i
    .subst e;rw[hx] at hy;cases hy;exact hpx
    .exact hno j y (by omega) hy⟩)
  .simp -implicitDefEqProofs only[go_sem,hcap.purge];exact h _ ⟨_,_,rfl,rfl,fitI (ia_ hx hpx hno).symm⟩
 .have:i=l.length:=by omega
  subst this;exact h _ ⟨_,_,rfl,rfl,fitI (in10 hno).symm⟩
theorem es15:Enc setV 2:=⟨by decide,λ_ =>⟨_,rfl,rfl,rfl,λ_ =>rfl,λ_ _ =>rfl,λ_ =>rfl,rfl⟩⟩
abbrev sI16:=gIxF (G:=G) es15 Tryz.func232 (by kernel_rfl)
def cCtF (m:Nat):AFun:=⟨9,2,[.t 4],
 (.seq (.reg [⟨some 4,.mov (.k (.bool false)),none⟩] [0,1])
(.seq (.reg [⟨some 5,.mov (.t 0),none⟩,⟨some 6,.mov (.t 1),none⟩,⟨some 7,.call m [.t 5,.t 6],none⟩,⟨some 8,.bin .geq (.t 7) (.k (.int .i64 0)),none⟩,⟨some 4,.mov (.t 8),none⟩] [4])
.ret))⟩
theorem gCtF {α:Type} {e:α->AV} {sz n m:Nat} {fn:Func} (hi:∀(f:Nat) (caps:List AV) (_ :b11 Tryz.prog f=true) (_ :OkC caps) (p:α->Bool) (l:List α) (_ :∀x∈l,PQ G f (e x::caps) (.bool (p x))) (_ :l.length<9223372036854775807),PQ G m [.seq sz (l.map e),.fn f caps] (iv (idxF p l)))
  (hfn:Tryz.prog.funcs[n]?=some fn) (hck:chkF Tryz.prog fn (cCtF m)=true) (f:Nat) (caps:List AV) (hf:b11 Tryz.prog f=true) (hcap:OkC caps) (p:α->Bool) (l:List α) (hp:∀x∈l,PQ G f (e x::caps) (.bool (p x))) (hl:l.length<9223372036854775807):
  PQ G n [.seq sz (l.map e),.fn f caps] (.bool (l.any p)):=by
 refine P_.of_runs hfn hck rfl (Runs.of λΦ h=>?_);unfold cCtF;simp -implicitDefEqProofs only[go_sem];refine ac_ (hi f caps hf hcap p l hp hl) (by simp [v10,flat,viewBs,viewB,viewK,hcap.viewK]) rfl ?_;simp -implicitDefEqProofs only[go_sem,hcap.purge];exact h _ ⟨_,_,rfl,rfl,fitB (ia10 _ _)⟩
abbrev sCaSaSp_:=gCtF (G:=G) sIaSaSp_ Tryz.func177 (by kernel_rfl)
abbrev sC17:=gCtF (G:=G) sI17 Tryz.func183 (by kernel_rfl)
abbrev sC11:=gCtF (G:=G) sI16 Tryz.func160 (by kernel_rfl)
theorem sIiip_ (l:List Int) (v:Int) (hl:l.length<9223372036854775807):PQ G 214 [.seq 1 (l.map iv),iv v] (iv (idxF (λx=>v==x) l)):=by
 refine ps10 λΦ h=>?_;unfold cs10;simp -implicitDefEqProofs only[go_sem,zQ];refine al_ (λn st=>∃i:Nat,i+n=l.length∧st=⟨19,[(0,.seq 1 (l.map iv)),(1,iv v),(7,iv l.length),(8,iv i)],[]⟩∧∀j x,j<i->l[j]?=some x->(v==x)=false) l.length ⟨0,by simp,rfl,λj x hj=>by omega⟩ ?_;rintro I hI n st ⟨i,hi,rfl,hno⟩;simp -implicitDefEqProofs only[go_sem];refine⟨λhlt=>?_,λhge=>?_⟩
 .have hlt':i<l.length:=by omega
  obtain⟨x,hx,hm⟩:=as10 hlt';have hw:=ws_ hlt';have fin:(v==x)=false->a13 I n ⟨19,[(0,.seq 1 (l.map iv)),(1,iv v),(7,iv l.length),(8,iv (i+1:Nat))],[]⟩:=λhv=>aa_ (n - 1) (by omega) (hI _ _ ⟨i+1,by omega,rfl,λj y hj hy=>by
    by_cases e:j=i
    .subst e;rw[hx] at hy;cases hy;exact hv
    .exact hno j y (by omega) hy⟩)
  simp -implicitDefEqProofs only[go_sem,am_ hx];refine⟨λhb=>?_,λhb=>?_⟩
  .have hv:(v==x)=true:=by simpa using hb
   exact h _ ⟨_,_,rfl,rfl,fitI (ia_ hx hv hno).symm⟩
  .have hv:(v==x)=false:=by simpa using hb
   simp -implicitDefEqProofs only[go_sem,hw];exact fin hv
 .have:i=l.length:=by omega
  subst this;exact h _ ⟨_,_,rfl,rfl,fitI (in10 hno).symm⟩
theorem sIssp_ (l:List Str) (v:Str) (hl:l.length<9223372036854775807):PQ G 51 [.seq 1 (l.map AV.str),AV.str v] (iv (idxF (λx=>v==x) l)):=by
 refine psIss_ λΦ h=>?_;unfold csIss_;simp -implicitDefEqProofs only[go_sem,zQ];refine al_ (λn st=>∃i:Nat,i+n=l.length∧st=⟨19,[(0,.seq 1 (l.map AV.str)),(1,AV.str v),(7,iv l.length),(8,iv i)],[]⟩∧∀j x,j<i->l[j]?=some x->(v==x)=false) l.length ⟨0,by simp,rfl,λj x hj=>by omega⟩ ?_;rintro I hI n st ⟨i,hi,rfl,hno⟩;simp -implicitDefEqProofs only[go_sem];refine⟨λhlt=>?_,λhge=>?_⟩
 .have hlt':i<l.length:=by omega
  obtain⟨x,hx,hm⟩:=as10 hlt';have hw:=ws_ hlt';have fin:(v==x)=false->a13 I n ⟨19,[(0,.seq 1 (l.map AV.str)),(1,AV.str v),(7,iv l.length),(8,iv (i+1:Nat))],[]⟩:=λhv=>aa_ (n - 1) (by omega) (hI _ _ ⟨i+1,by omega,rfl,λj y hj hy=>by
    by_cases e:j=i
    .subst e;rw[hx] at hy;cases hy;exact hv
    .exact hno j y (by omega) hy⟩)
  simp -implicitDefEqProofs only[go_sem,am_ hx];refine⟨λhb=>?_,λhb=>?_⟩
  .have hv:(v==x)=true:=by simpa using hb
   exact h _ ⟨_,_,rfl,rfl,fitI (ia_ hx hv hno).symm⟩
  .have hv:(v==x)=false:=by simpa using hb
   simp -implicitDefEqProofs only[go_sem,hw];exact fin hv
 .have:i=l.length:=by omega
  subst this;exact h _ ⟨_,_,rfl,rfl,fitI (in10 hno).symm⟩
theorem sIaAaAp_ (l:List ArgT) (v:ArgT) (hl:l.length<9223372036854775807):PQ G 270 [.seq 6 (l.map argV),argV v] (iv (idxF (λx=>v==x) l)):=by
 refine psIaAaA_ λΦ h=>?_;unfold csIaAaA_;simp -implicitDefEqProofs only[go_sem,zQ,argV];refine al_ (λn st=>∃i:Nat,i+n=l.length∧st=⟨19,[(0,.seq 6 (l.map argV)),(3,.ref 3 0 0),(7,iv l.length),(8,iv i)],[(3,⟨false,108,6,[argV v]⟩)]⟩∧∀j x,j<i->l[j]?=some x->(v==x)=false) l.length ⟨0,by simp,rfl,λj x hj=>by omega⟩ ?_;rintro I hI n st ⟨i,hi,rfl,hno⟩;simp -implicitDefEqProofs only[go_sem,argV];refine⟨λhlt=>?_,λhge=>?_⟩
 .have hlt':i<l.length:=by omega
  obtain⟨x,hx,hm⟩:=as10 hlt';have hw:=ws_ hlt';have fin:(v==x)=false->a13 I n ⟨19,[(0,.seq 6 (l.map argV)),(3,.ref 3 0 0),(7,iv l.length),(8,iv (i+1:Nat))],[(3,⟨false,108,6,[argV v]⟩)]⟩:=λhv=>aa_ (n - 1) (by omega) (hI _ _ ⟨i+1,by omega,rfl,λj y hj hy=>by
    by_cases e:j=i
    .subst e;rw[hx] at hy;cases hy;exact hv
    .exact hno j y (by omega) hy⟩)
  simp -implicitDefEqProofs only[go_sem,am_ hx,argV];refine⟨λhb=>?_,λhb=>?_⟩
  .have hv:(v==x)=true:=by rw[a38];simpa using hb
   exact h _ ⟨_,_,rfl,rfl,fitI (ia_ hx hv hno).symm⟩
  .have hv:(v==x)=false:=by rw[a38];simpa using hb
   simp -implicitDefEqProofs only[go_sem,hw];exact fin hv
 .have:i=l.length:=by omega
  subst this;exact h _ ⟨_,_,rfl,rfl,fitI (in10 hno).symm⟩
theorem sCiip_ (l:List Int) (v:Int) (hl:l.length<9223372036854775807):PQ G 167 [.seq 1 (l.map iv),iv v] (.bool (l.any λx=>v==x)):=by refine psCii_ λΦ h=>?_;unfold csCii_;simp -implicitDefEqProofs only[go_sem];refine ac_ (sIiip_ l v hl) rfl rfl ?_;simp -implicitDefEqProofs only[go_sem];exact h _ ⟨_,_,rfl,rfl,fitB (ia10 _ _)⟩
theorem sCssp_ (l:List Str) (v:Str) (hl:l.length<9223372036854775807):PQ G 18 [.seq 1 (l.map AV.str),AV.str v] (.bool (l.any λx=>v==x)):=by refine psCss_ λΦ h=>?_;unfold csCss_;simp -implicitDefEqProofs only[go_sem];refine ac_ (sIssp_ l v hl) rfl rfl ?_;simp -implicitDefEqProofs only[go_sem];exact h _ ⟨_,_,rfl,rfl,fitB (ia10 _ _)⟩
theorem sCaAaAp_ (l:List ArgT) (v:ArgT) (hl:l.length<9223372036854775807):PQ G 233 [.seq 6 (l.map argV),argV v] (.bool (l.any λx=>v==x)):=by refine psCaAaA_ λΦ h=>?_;unfold csCaAaA_;simp -implicitDefEqProofs only[go_sem,argV];refine ac_ (sIaAaAp_ l v hl) rfl rfl ?_;simp -implicitDefEqProofs only[go_sem];exact h _ ⟨_,_,rfl,rfl,fitB (ia10 _ _)⟩
theorem sEaAaAp_ (k l:List ArgT) (hk:k.length<9223372036854775807) (hl:l.length<9223372036854775807):PQ G 210 [.seq 6 (k.map argV),.seq 6 (l.map argV)] (.bool (decide (k=l))):=by
 refine psEaAaA_ λΦ h=>?_;unfold csEaAaA_;simp -implicitDefEqProofs only[go_sem,zQ];refine⟨λhb=>?_,λhb=>?_⟩
 .refine h _ ⟨_,_,rfl,rfl,fitB ?_⟩;symm;rw[yQ];rintro rfl;simp at hb
 .have hkl:k.length=l.length:=by
   have:(k.length:Int)=l.length:=by simpa using hb
   omega
  refine al_ (λn st=>∃i:Nat,i+n=k.length∧st=⟨26,[(0,.seq 6 (k.map argV)),(1,.seq 6 (l.map argV)),(12,iv k.length),(13,iv i)],[]⟩∧∀j x y,j<i->k[j]?=some x->l[j]?=some y->(x==y)=true) k.length ⟨0,by simp,rfl,λj x y hj=>by omega⟩ ?_;rintro I hI n st ⟨i,hi,rfl,hall⟩;simp -implicitDefEqProofs only[go_sem];refine⟨λhlt=>?_,λhge=>?_⟩
  .have hlt':i<k.length:=by omega
   obtain⟨x,hx,hm⟩:=as10 hlt';obtain⟨y,hy,hm'⟩:=as10 (l:=l) (i:=i) (by omega);have hw:=ws_ hlt';have fin:(x==y)=true->a13 I n ⟨26,[(0,.seq 6 (k.map argV)),(1,.seq 6 (l.map argV)),(12,iv k.length),(13,iv (i+1:Nat))],[]⟩:=λhv=>aa_ (n - 1) (by omega) (hI _ _ ⟨i+1,by omega,rfl,λj a b hj ha hb=>by
    by_cases e:j=i
    .subst e;rw[hx] at ha;cases ha;rw[hy] at hb;cases hb;exact hv
    .exact hall j a b (by omega) ha hb⟩)
   simp -implicitDefEqProofs only[go_sem,am_ hx,am_ hy,argV];refine⟨λhb=>?_,λhb=>?_⟩
   .have hv:(x==y)=false:=by
     cases hxy:(x==y) with
     | false=>rfl
     | true=>exfalso;have:=eq_of_beq hxy;subst this;simp at hb
    refine h _ ⟨_,_,rfl,rfl,fitB ?_⟩;symm;rw[yQ];rintro rfl;rw[hx] at hy;cases hy;simp at hv
   .have hv:(x==y)=true:=by rw[a38];simpa using hb
    simp -implicitDefEqProofs only[go_sem,hw];exact fin hv
  .refine h _ ⟨_,_,rfl,rfl,fitB ?_⟩;symm;rw[zW];apply vM;intro j;by_cases hj:j<k.length
   .rw[zU hj,zU (by omega)];have:=hall j _ _ (by omega) (zU hj) (zU (by omega));rw[eq_of_beq this]
   .rw[wR (by omega),wR (by omega)]
def c36 (sz ty:Nat) (zs:List AV):AFun:=⟨20,2,[.t 4],
 (.seq (.reg [⟨some 4,.mov (.k (.bool false)),none⟩] [0,1])
(.seq (.seq (.reg [⟨some 7,.mov (.t 0),none⟩,⟨some 8,.len false (.t 7),none⟩,⟨some 9,.mov (.k (.int .i64 0)),none⟩] [1,7,8,9])
(.block 0
(.loop [1,7,8,9] [8]
 (.seq (.reg [⟨some 10,.bin .lss (.t 9) (.t 8),none⟩] [1,7,8,9,10])
(.seq (.cond (.t 10) .skip (.exit 0))
(.seq (.block 1
(.seq (.reg [⟨some 11,.mov (.t 9),none⟩,⟨some 12,.iaddr sz (.t 7) (.t 9),none⟩,⟨some 13,.loadN (.t 12) sz,none⟩,⟨some 6,.alloc ty sz (.agg zs),none⟩,⟨some 5,.mov (.t 11),none⟩,⟨none,.store (.t 6) (.t 13) sz,none⟩] [1,5,6,7,8,9])
(.seq (.reg [⟨some 14,.mov (.t 1),none⟩,⟨some 15,.mov (.t 5),none⟩,⟨some 16,.loadN (.t 6) sz,none⟩,⟨some 17,.callv (.t 14) [.t 15,.t 16],none⟩,⟨some 18,.un .not (.t 17),none⟩] [1,7,8,9,18])
(.cond (.t 18)
(.seq (.reg [⟨some 4,.mov (.k (.bool false)),none⟩] [4])
.ret)
.skip))))
(.reg [⟨some 19,.bin .add (.t 9) (.k (.int .i64 1)),none⟩,⟨some 9,.mov (.t 19),none⟩] [1,7,8,9])))))))
(.seq (.reg [⟨some 4,.mov (.k (.bool true)),none⟩] [4])
.ret)))⟩
theorem sa11:∀(zs cs:List AV),zs.length=cs.length->s21 zs 0 cs=cs
 | [],[],_ =>rfl
 | _ ::zs,c::cs,h=>by rw[s21,sa11 zs cs (by simpa using h)]
 | [],_ ::_,h=>by cases h
 | _ ::_,[],h=>by cases h
theorem g15 {α:Type} {e:α->AV} {sz ty n:Nat} {zs:List AV} (E:Enc e sz) (hz:zs.length=sz) {fn:Func} (hfn:Tryz.prog.funcs[n]?=some fn) (hck:chkF Tryz.prog fn (c36 sz ty zs)=true) (f:Nat) (caps:List AV) (hf:b11 Tryz.prog f=true) (hcap:OkC caps) (p:Nat->α->Bool) (l:List α) (hp:∀(i:Nat) x,l[i]?=some x->PQ G f (iv i::e x::caps) (.bool (p i x))) (hl:l.length<9223372036854775807):
  PQ G n [.seq sz (l.map e),.fn f caps] (.bool (allI p l)):=by
 refine P_.of_runs hfn hck rfl (Runs.of λΦ h=>?_);unfold c36;simp -implicitDefEqProofs only[go_sem,zQ];refine al_ (λn st=>∃i:Nat,i+n=l.length∧st=⟨20,[(1,.fn f caps),(7,.seq sz (l.map e)),(8,iv l.length),(9,iv i)],[]⟩∧∀j x,j<i->l[j]?=some x->p j x=true) l.length ⟨0,by simp,rfl,λj x hj=>by omega⟩ ?_;rintro I hI n st ⟨i,hi,rfl,hno⟩;simp -implicitDefEqProofs only[go_sem];refine⟨λhlt=>?_,λhge=>?_⟩
 .have hlt':i<l.length:=by omega
  obtain⟨x,hx,hm⟩:=as10 hlt';have hw:=ws_ hlt';have h0:=E.1;obtain⟨cs,hcs,hcl,hc1,hpu,hvk,_,_⟩:=E.2 x;have hc:=hp i x hx;have ht:cs.take sz=cs:=zT (by omega);have hsl:sz<=cs.length:=by omega
  have hs2:(cs.length==sz)=true:=by simpa using hcl
  have hs3:sz<=zs.length:=by omega
  have hss:=sa11 zs cs (by omega);rw[hcs] at hc;simp -implicitDefEqProofs only[go_sem,am_ hx,hcap.purge,hcs,ht,hsl,hpu,hc1,hs2,hs3,hss,h0,xO,yS,wX,yR];refine⟨hf,ac_ hc (by simp [v10,flat,viewBs,viewB,viewK,hvk,hcap.viewBs]) rfl ?_⟩;cases hpx:p i x
  .simp -implicitDefEqProofs only[go_sem,hcap.purge,hpu];exact h _ ⟨_,_,rfl,rfl,fitB (af_ hx hpx).symm⟩
  .simp -implicitDefEqProofs only[go_sem,hw,hcap.purge,hpu];exact aa_ (n - 1) (by omega) (hI _ _ ⟨i+1,by omega,rfl,λj y hj hy=>by
    by_cases e:j=i
    .subst e;rw[hx] at hy;cases hy;exact hpx
    .exact hno j y (by omega) hy⟩)
 .have:i=l.length:=by omega
  subst this;exact h _ ⟨_,_,rfl,rfl,fitB (at10.2 λi x hx=>hno i x (zX.1 hx).1 hx).symm⟩
theorem eq_:Enc q11 3:=⟨by decide,λ_ =>⟨_,rfl,rfl,rfl,λ_ =>rfl,λ_ _ =>rfl,λ_ =>rfl,rfl⟩⟩
abbrev caaQp_:=g15 (G:=G) (ty:=124) (zs:=[.bool false,.str [],.int .i64 0]) eq_ rfl Tryz.func151 (by kernel_rfl)
theorem ef10:Enc f10 5:=⟨by decide,λ_ =>⟨_,rfl,rfl,rfl,λ_ =>rfl,λ_ _ =>rfl,λ_ =>rfl,rfl⟩⟩
abbrev caaFp_:=g15 (G:=G) (ty:=110) (zs:=[.str [],.int .i64 0,.int .i64 0,.str [],.bool false]) ef10 rfl Tryz.func154 (by kernel_rfl)
theorem caip_ (f:Nat) (caps:List AV) (hf:b11 Tryz.prog f=true) (hcap:OkC caps) (p:Nat->Int->Bool) (l:List Int) (hp:∀(i:Nat) x,l[i]?=some x->PQ G f (iv i::iv x::caps) (.bool (p i x))) (hl:l.length<9223372036854775807):
  PQ G 173 [.seq 1 (l.map iv),.fn f caps] (.bool (allI p l)):=by
 refine pcai_ λΦ h=>?_;unfold ccai_;simp -implicitDefEqProofs only[go_sem,zQ];refine al_ (λn st=>∃i:Nat,i+n=l.length∧st=⟨20,[(1,.fn f caps),(7,.seq 1 (l.map iv)),(8,iv l.length),(9,iv i)],[]⟩∧∀j x,j<i->l[j]?=some x->p j x=true) l.length ⟨0,by simp,rfl,λj x hj=>by omega⟩ ?_;rintro I hI n st ⟨i,hi,rfl,hno⟩;simp -implicitDefEqProofs only[go_sem];refine⟨λhlt=>?_,λhge=>?_⟩
 .have hlt':i<l.length:=by omega
  obtain⟨x,hx,hm⟩:=as10 hlt';have hw:=ws_ hlt';simp -implicitDefEqProofs only[go_sem,am_ hx,hcap.purge];refine⟨hf,ac_ (hp i x hx) (by simp [v10,flat,viewBs,viewB,viewK,viewK.go,hcap.viewBs]) rfl ?_⟩;cases hpx:p i x
  .simp -implicitDefEqProofs only[go_sem,hcap.purge];exact h _ ⟨_,_,rfl,rfl,fitB (af_ hx hpx).symm⟩
  .simp -implicitDefEqProofs only[go_sem,hw,hcap.purge];exact aa_ (n - 1) (by omega) (hI _ _ ⟨i+1,by omega,rfl,λj y hj hy=>by
    by_cases e:j=i
    .subst e;rw[hx] at hy;cases hy;exact hpx
    .exact hno j y (by omega) hy⟩)
 .have:i=l.length:=by omega
  subst this;exact h _ ⟨_,_,rfl,rfl,fitB (at10.2 λi x hx=>hno i x (zX.1 hx).1 hx).symm⟩
abbrev caaSp_:=g15 (G:=G) (ty:=106) (zs:=[.int .i64 0,.nils]) es14 rfl Tryz.func175 (by kernel_rfl)
theorem casp_ (f:Nat) (caps:List AV) (hf:b11 Tryz.prog f=true) (hcap:OkC caps) (p:Nat->Str->Bool) (l:List Str) (hp:∀(i:Nat) x,l[i]?=some x->PQ G f (iv i::AV.str x::caps) (.bool (p i x))) (hl:l.length<9223372036854775807):
  PQ G 228 [.seq 1 (l.map AV.str),.fn f caps] (.bool (allI p l)):=by
 refine pcas_ λΦ h=>?_;unfold ccas_;simp -implicitDefEqProofs only[go_sem,zQ];refine al_ (λn st=>∃i:Nat,i+n=l.length∧st=⟨20,[(1,.fn f caps),(7,.seq 1 (l.map AV.str)),(8,iv l.length),(9,iv i)],[]⟩∧∀j x,j<i->l[j]?=some x->p j x=true) l.length ⟨0,by simp,rfl,λj x hj=>by omega⟩ ?_;rintro I hI n st ⟨i,hi,rfl,hno⟩;simp -implicitDefEqProofs only[go_sem];refine⟨λhlt=>?_,λhge=>?_⟩
 .have hlt':i<l.length:=by omega
  obtain⟨x,hx,hm⟩:=as10 hlt';have hw:=ws_ hlt';simp -implicitDefEqProofs only[go_sem,am_ hx,hcap.purge];refine⟨hf,ac_ (hp i x hx) (by simp [v10,flat,viewBs,viewB,viewK,viewK.go,hcap.viewBs]) rfl ?_⟩;cases hpx:p i x
  .simp -implicitDefEqProofs only[go_sem,hcap.purge];exact h _ ⟨_,_,rfl,rfl,fitB (af_ hx hpx).symm⟩
  .simp -implicitDefEqProofs only[go_sem,hw,hcap.purge];exact aa_ (n - 1) (by omega) (hI _ _ ⟨i+1,by omega,rfl,λj y hj hy=>by
    by_cases e:j=i
    .subst e;rw[hx] at hy;cases hy;exact hpx
    .exact hno j y (by omega) hy⟩)
 .have:i=l.length:=by omega
  subst this;exact h _ ⟨_,_,rfl,rfl,fitB (at10.2 λi x hx=>hno i x (zX.1 hx).1 hx).symm⟩
