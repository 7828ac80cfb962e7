/-
  value, proctorref03: values. num.Op, value.truth, text, Less, Op: what operators make of values. No claim is proved here.
-/
import Derived.Test.YtjbcfpkibnhodaaGreatDoorQV2
namespace Go.Proofs.YtjbcfpkibnhodaaGreatDoor.Ab
open Go
set_option linter.unusedSimpArgs false
set_option maxHeartbeats 4000000
variable {G:Nat→Option AV}
structure Val where
 kind:Int
 int:Int
 str:Str
 bool:Bool
deriving DecidableEq
abbrev v0:Val:=⟨0,0,[],false⟩
def valV (v:Val):AV:=.agg [iv v.kind,iv v.int,.str v.str,.bool v.bool]
theorem vIp_ (n:Int):P_ Tryz.prog G nvI_ [iv n] (valV ⟨1,n,[],false⟩):=by
 refine pvI_ (Runs.of fun Φ h=>?_)
 unfold cvI_
 simp -implicitDefEqProofs only[go_sem]
 exact h _ ⟨_,_,rfl,rfl,.refl _⟩
theorem vSp_ (s:Str):P_ Tryz.prog G nvS_ [.str s] (valV ⟨2,0,s,false⟩):=by
 refine pvS_ (Runs.of fun Φ h=>?_)
 unfold cvS_
 simp -implicitDefEqProofs only[go_sem]
 exact h _ ⟨_,_,rfl,rfl,.refl _⟩
theorem vBp_ (b:Bool):P_ Tryz.prog G nvB_ [.bool b] (valV ⟨3,0,[],b⟩):=by
 refine pvB_ (Runs.of fun Φ h=>?_)
 unfold cvB_
 simp -implicitDefEqProofs only[go_sem]
 exact h _ ⟨_,_,rfl,rfl,.refl _⟩
def Val.ok (v:Val):Bool:=
 if v.kind=1 then v.str==[]&& !v.bool else if v.kind=2 then v.int==0&&(!v.bool&&decide ((v.str.length:Int)≤4096)) else decide (v.kind=3)&&(v.int==0&&v.str==[])
theorem vRp_ (v:Val):P_ Tryz.prog G nvR_ [valV v] (.bool v.ok):=by
 obtain⟨k,n,s,b⟩:=v
 refine pvR_ (Runs.of fun Φ h=>?_)
 unfold cvR_
 repeat' (first | (simp -implicitDefEqProofs only[go_sem,valV]) | refine ag_ (fun hb=>?_) (fun hb=>?_) | refine⟨fun hb=>?_,fun hb=>?_⟩ | refine ac_ (vIp_ _) rfl rfl ?_ | refine ac_ (vSp_ _) rfl rfl ?_ | refine ac_ (vBp_ _) rfl rfl ?_ | fail)
 all_goals (refine h _ ⟨_,_,rfl,rfl,fe_ ?_⟩;clear h;first | rfl | simp_all [Val.ok])
theorem rRp_ (v:Val):P_ Tryz.prog G npR_ [valV v] (.bool v.ok):=by
 obtain⟨k,n,s,b⟩:=v
 refine pp19 (Runs.of fun Φ h=>?_)
 unfold cp20
 repeat' (first | (simp -implicitDefEqProofs only[go_sem,valV]) | refine ag_ (fun hb=>?_) (fun hb=>?_) | refine⟨fun hb=>?_,fun hb=>?_⟩ | fail)
 all_goals (refine h _ ⟨_,_,rfl,rfl,fe_ ?_⟩;clear h;first | rfl | simp_all [Val.ok])
def k_ (k:Int):Str:=if k=1 then [105,110,116] else if k=2 then [115,116,114,105,110,103] else if k=3 then [98,111,111,108] else []
theorem vNp_ (k:Int):P_ Tryz.prog G nvN_ [iv k] (.str (k_ k)):=by
 refine pvN_ (Runs.of fun Φ h=>?_)
 unfold cvN_
 repeat' (first | (simp -implicitDefEqProofs only[go_sem]) | refine ag_ (fun hb=>?_) (fun hb=>?_) | refine⟨fun hb=>?_,fun hb=>?_⟩ | fail)
 all_goals (refine h _ ⟨_,_,rfl,rfl,fe_ ?_⟩;clear h;first | rfl | simp_all [k_])
theorem vwp_ (b:Bool) (k:Int):P_ Tryz.prog G nvw_ [.bool b,iv k] (iv (if b then k else 0)):=by
 refine pvw_ (Runs.of fun Φ h=>?_)
 unfold cvw_
 repeat' (first | (simp -implicitDefEqProofs only[go_sem]) | refine ag_ (fun hb=>?_) (fun hb=>?_) | refine⟨fun hb=>?_,fun hb=>?_⟩ | fail)
 all_goals (refine h _ ⟨_,_,rfl,rfl,fe_ ?_⟩;clear h;first | rfl | simp_all)
def o11 (op a b:Int):Int:=
 if op=4 then (if a=3 then 3 else 0)
 else if op=5 then (if a=1 then 1 else 0)
 else if op=6∨op=7 then (if a=3∧b=a then 3 else 0)
 else if op=9∨op=10∨op=11∨op=12 then (if a=1∧b=a then a else 0)
 else if op=8 then (if (a=1∨a=2)∧b=a then a else 0)
 else if op=13∨op=14 then (if k_ a≠[]∧b=a then 3 else 0)
 else if op=15∨op=16 then (if (a=1∨a=2)∧b=a then 3 else 0)
 else 0
theorem vTp_ (op a b:Int):P_ Tryz.prog G nvT_ [iv op,iv a,iv b] (iv (o11 op a b)):=by
 refine pvT_ (Runs.of fun Φ h=>?_)
 unfold cvT_
 repeat' (first | (simp -implicitDefEqProofs only[go_sem]) | refine ag_ (fun hb=>?_) (fun hb=>?_) | refine⟨fun hb=>?_,fun hb=>?_⟩ | refine ac_ (vwp_ _ _) rfl rfl ?_ | refine ac_ (vNp_ _) rfl rfl ?_ | fail)
 all_goals (refine h _ ⟨_,_,rfl,rfl,fe_ ?_⟩;clear h;simp_all [o11])
end Go.Proofs.YtjbcfpkibnhodaaGreatDoor.Ab
namespace Go.Proofs.YtjbcfpkibnhodaaGreatDoor.Ab
open Go
set_option linter.unusedSimpArgs false
set_option maxHeartbeats 4000000
set_option maxRecDepth 100000
variable {G:Nat→Option AV}
def numR (op a b:Int):Int×Int:=
 if op=5 then ovR (0 - a) else if op=9 then ovR (a - b) else if op=8 then ovR (a+b) else if op=10 then ovR (a*b) else if op=11 then divR a b else if op=12 then modR a b else (0,1)
theorem nOp_ (op a b:Int) (ha:i64 a) (hb:i64 b):P_ Tryz.prog G nnO_ [iv op,iv a,iv b] (t2 (numR op a b)):=by
 have h1:=nSp_ (G:=G) 0 a (by unfold i64;omega) ha
 have h2:=nSp_ (G:=G) a b ha hb
 have h3:=nAp_ (G:=G) a b ha hb
 have h4:=nMp_ (G:=G) a b ha hb
 have h5:=nDp_ (G:=G) a b ha
 have h6:=nM10 (G:=G) a b
 refine pnO_ (Runs.of fun Φ h=>?_)
 unfold cnO_
 unfold numR at h
 generalize ovR (0 - a)=r1 at*
 generalize ovR (a - b)=r2 at*
 generalize ovR (a+b)=r3 at*
 generalize ovR (a*b)=r4 at*
 generalize divR a b=r5 at*
 generalize modR a b=r6 at*
 unfold t2 at*
 repeat' (first | (simp -implicitDefEqProofs only[go_sem]) | refine ag_ (fun hb=>?_) (fun hb=>?_) | refine⟨fun hb=>?_,fun hb=>?_⟩ | refine ac_ (h1) rfl rfl ?_ | refine ac_ (h2) rfl rfl ?_ | refine ac_ (h3) rfl rfl ?_ | refine ac_ (h4) rfl rfl ?_ | refine ac_ (h5) rfl rfl ?_ | refine ac_ (h6) rfl rfl ?_ | fail)
 all_goals
  refine h _ ⟨_,_,rfl,rfl,fe_ ?_⟩
  clear h h1 h2 h3 h4 h5 h6
  simp_all
def vt (r:Val×Int):AV:=.tup [valV r.1,iv r.2]
theorem vtp_ (b:Bool):P_ Tryz.prog G nvt_ [.bool b] (vt (⟨3,0,[],b⟩,0)):=by
 have h1:=vBp_ (G:=G) b
 refine pvt_ (Runs.of fun Φ h=>?_)
 unfold cvt_
 repeat' (first | (simp -implicitDefEqProofs only[go_sem,valV]) | refine ag_ (fun hb=>?_) (fun hb=>?_) | refine⟨fun hb=>?_,fun hb=>?_⟩ | refine ac_ (h1) rfl rfl ?_ | fail)
 exact h _ ⟨_,_,rfl,rfl,.refl _⟩
def t29 (s:Str):Val×Int:=if (4096:Int)<s.length then (v0,3) else (⟨2,0,s,false⟩,0)
theorem vt10 (s:Str):P_ Tryz.prog G nv10 [.str s] (vt (t29 s)):=by
 have h1:=vSp_ (G:=G) s
 refine pv10 (Runs.of fun Φ h=>?_)
 unfold cv10
 unfold t29 at h
 by_cases hl:(4096:Int)<s.length
 ·rw[if_pos hl] at h
  repeat' (first | (simp -implicitDefEqProofs only[go_sem,valV,hl]) | refine ag_ (fun hb=>?_) (fun hb=>?_) | refine⟨fun hb=>?_,fun hb=>?_⟩ | refine ac_ (h1) rfl rfl ?_ | fail)
  all_goals first | exact h _ ⟨_,_,rfl,rfl,.refl _⟩ | (exfalso;simp at*;omega)
 ·rw[if_neg hl] at h
  repeat' (first | (simp -implicitDefEqProofs only[go_sem,valV,hl]) | refine ag_ (fun hb=>?_) (fun hb=>?_) | refine⟨fun hb=>?_,fun hb=>?_⟩ | refine ac_ (h1) rfl rfl ?_ | fail)
  all_goals first | exact h _ ⟨_,_,rfl,rfl,.refl _⟩ | (exfalso;simp at*;omega)
def l15 (a b:Val):Bool:=if ¬a.kind=b.kind then decide (a.kind<b.kind) else if a.kind=1 then decide (a.int<b.int) else if a.kind=2 then Op.bytesLess a.str b.str else !a.bool&&b.bool
theorem vLp_ (a b:Val):P_ Tryz.prog G nvL_ [valV a,valV b] (.bool (l15 a b)):=by
 obtain⟨k,n,s,t⟩:=a
 obtain⟨k',n',s',t'⟩:=b
 refine pvL_ (Runs.of fun Φ h=>?_)
 unfold cvL_
 unfold l15 at h
 repeat' (first | (simp -implicitDefEqProofs only[go_sem,valV]) | refine ag_ (fun hb=>?_) (fun hb=>?_) | refine⟨fun hb=>?_,fun hb=>?_⟩ | fail)
 all_goals
  refine h _ ⟨_,_,rfl,rfl,fe_ ?_⟩
  clear h
  simp_all
def opR (op:Int) (a b:Val):Val×Int:=
 if op<4∨16<op then (v0,1) else if o11 op a.kind b.kind=0 then (v0,8)
 else if op=4 then (⟨3,0,[],!a.bool⟩,0) else if op=6 then (⟨3,0,[],a.bool&&b.bool⟩,0) else if op=7 then (⟨3,0,[],a.bool||b.bool⟩,0)
 else if op=13 then (⟨3,0,[],a==b⟩,0) else if op=14 then (⟨3,0,[],!(a==b)⟩,0) else if op=15 then (⟨3,0,[],l15 a b⟩,0) else if op=16 then (⟨3,0,[],!l15 b a⟩,0)
 else if a.kind=2 then t29 (a.str++b.str)
 else if (numR op a.int b.int).2=0 then (⟨1,(numR op a.int b.int).1,[],false⟩,0) else (v0,(numR op a.int b.int).2)
theorem vb_ (k n:Int) (s:Str) (t:Bool) (k' n':Int) (s':Str) (t':Bool):((⟨k,n,s,t⟩:Val)==⟨k',n',s',t'⟩)=(k==k'&&(n==n'&&(s==s'&&t==t'))):=by
 rw[Bool.eq_iff_iff]
 simp
theorem vOp_ (op:Int) (a b:Val) (ha:i64 a.int) (hb:i64 b.int) (hl:a.str.length+b.str.length≤1000000):P_ Tryz.prog G nvO_ [iv op,valV a,valV b] (vt (opR op a b)):=by
 have hT:=vTp_ (G:=G) op a.kind b.kind
 have hL1:=vLp_ (G:=G) a b
 have hL2:=vLp_ (G:=G) b a
 have hX:=vt10 (G:=G) (a.str++b.str)
 have hN:=nOp_ (G:=G) op a.int b.int ha hb
 have hI:=vIp_ (G:=G) (numR op a.int b.int).1
 obtain⟨k,n,s,t⟩:=a
 obtain⟨k',n',s',t'⟩:=b
 dsimp only at*
 have hadd:abin .add (.str s) (.str s')=some (.str (s++s')):=aa11 (by omega)
 clear ha hb hl
 refine pvO_ (Runs.of fun Φ h=>?_)
 unfold cvO_
 unfold opR at h
 rw[vb_] at h
 dsimp only at h
 generalize o11 op k k'=ok at*
 generalize l15 ⟨k,n,s,t⟩ ⟨k',n',s',t'⟩=l1 at*
 generalize l15 ⟨k',n',s',t'⟩ ⟨k,n,s,t⟩=l2 at*
 generalize t29 (s++s')=x at*
 generalize numR op n n'=r at*
 obtain⟨r1,r2⟩:=r
 obtain⟨⟨x1,x2,x3,x4⟩,x5⟩:=x
 unfold vt t2 at*
 simp only[valV] at hL1 hL2 hX hI
 by_cases hop:op<4∨16<op
 ·rw[if_pos hop] at h
  rcases hop with hop | hop
  ·repeat' (first | (simp -implicitDefEqProofs only[go_sem,valV,hop,decide_eq_true_eq]) | refine ag_ (fun hb=>?_) (fun hb=>?_) | refine⟨fun hb=>?_,fun hb=>?_⟩ | fail)
   all_goals first | exact h _ ⟨_,_,rfl,rfl,.refl _⟩ | (exfalso;simp at*;omega)
  ·have hop':¬op<4:=by omega
   repeat' (first | (simp -implicitDefEqProofs only[go_sem,valV,hop,hop',decide_eq_true_eq]) | refine ag_ (fun hb=>?_) (fun hb=>?_) | refine⟨fun hb=>?_,fun hb=>?_⟩ | fail)
   all_goals first | exact h _ ⟨_,_,rfl,rfl,.refl _⟩ | (exfalso;simp at*;omega)
 rw[if_neg hop] at h
 by_cases hok:ok=0
 ·subst hok
  rw[if_pos rfl] at h
  repeat' (first | (simp -implicitDefEqProofs only[go_sem,valV]) | refine ag_ (fun hb=>?_) (fun hb=>?_) | refine⟨fun hb=>?_,fun hb=>?_⟩ | refine ac_ (hT) rfl rfl ?_ | fail)
  all_goals first | exact h _ ⟨_,_,rfl,rfl,.refl _⟩ | (exfalso;simp at*;omega)
 rw[if_neg hok] at h
 have hok':(ok==0)=false:=by simpa using hok
 have hop':op=4∨op=6∨op=7∨op=13∨op=14∨op=15∨op=16∨(op=5∨op=8∨op=9∨op=10∨op=11∨op=12):=by omega
 clear hop
 rcases hop' with rfl | rfl | rfl | rfl | rfl | rfl | rfl | hop
 ·repeat' (first | (simp -implicitDefEqProofs only[go_sem,valV,hok',aeqs,l11,aeqA,andO]) | refine ag_ (fun hb=>?_) (fun hb=>?_) | refine⟨fun hb=>?_,fun hb=>?_⟩ | refine ac_ (hT) rfl rfl ?_ | refine ac_ (vtp_ _) rfl rfl ?_ | fail)
  exact h _ ⟨_,_,rfl,rfl,.refl _⟩
 ·cases t <;> (repeat' (first | (simp -implicitDefEqProofs only[go_sem,valV,hok',aeqs,l11,aeqA,andO]) | refine ag_ (fun hb=>?_) (fun hb=>?_) | refine⟨fun hb=>?_,fun hb=>?_⟩ | refine ac_ (hT) rfl rfl ?_ | refine ac_ (vtp_ _) rfl rfl ?_ | fail)) <;> exact h _ ⟨_,_,rfl,rfl,.refl _⟩
 ·cases t <;> (repeat' (first | (simp -implicitDefEqProofs only[go_sem,valV,hok',aeqs,l11,aeqA,andO]) | refine ag_ (fun hb=>?_) (fun hb=>?_) | refine⟨fun hb=>?_,fun hb=>?_⟩ | refine ac_ (hT) rfl rfl ?_ | refine ac_ (vtp_ _) rfl rfl ?_ | fail)) <;> exact h _ ⟨_,_,rfl,rfl,.refl _⟩
 ·repeat' (first | (simp -implicitDefEqProofs only[go_sem,valV,hok',aeqs,l11,aeqA,andO]) | refine ag_ (fun hb=>?_) (fun hb=>?_) | refine⟨fun hb=>?_,fun hb=>?_⟩ | refine ac_ (hT) rfl rfl ?_ | refine ac_ (vtp_ _) rfl rfl ?_ | fail)
  exact h _ ⟨_,_,rfl,rfl,fe_ (by simp [valV])⟩
 ·repeat' (first | (simp -implicitDefEqProofs only[go_sem,valV,hok',aeqs,l11,aeqA,andO]) | refine ag_ (fun hb=>?_) (fun hb=>?_) | refine⟨fun hb=>?_,fun hb=>?_⟩ | refine ac_ (hT) rfl rfl ?_ | refine ac_ (vtp_ _) rfl rfl ?_ | fail)
  exact h _ ⟨_,_,rfl,rfl,fe_ (by simp [valV])⟩
 ·repeat' (first | (simp -implicitDefEqProofs only[go_sem,valV,hok']) | refine ag_ (fun hb=>?_) (fun hb=>?_) | refine⟨fun hb=>?_,fun hb=>?_⟩ | refine ac_ (hT) rfl rfl ?_ | refine ac_ (hL1) rfl rfl ?_ | refine ac_ (vtp_ _) rfl rfl ?_ | fail)
  exact h _ ⟨_,_,rfl,rfl,.refl _⟩
 ·repeat' (first | (simp -implicitDefEqProofs only[go_sem,valV,hok']) | refine ag_ (fun hb=>?_) (fun hb=>?_) | refine⟨fun hb=>?_,fun hb=>?_⟩ | refine ac_ (hT) rfl rfl ?_ | refine ac_ (hL2) rfl rfl ?_ | refine ac_ (vtp_ _) rfl rfl ?_ | fail)
  exact h _ ⟨_,_,rfl,rfl,.refl _⟩
 ·have hs:¬op=4∧¬op=6∧¬op=7∧¬op=13∧¬op=14∧¬op=15∧¬op=16:=by omega
  obtain⟨q1,q2,q3,q4,q5,q6,q7⟩:=hs
  rw[if_neg q1,if_neg q2,if_neg q3,if_neg q4,if_neg q5,if_neg q6,if_neg q7] at h
  by_cases hk2:k=2
  ·subst hk2
   rw[if_pos rfl] at h
   rcases hop with rfl | rfl | rfl | rfl | rfl | rfl
   all_goals
    repeat' (first | (simp -implicitDefEqProofs only[go_sem,valV,hok',hadd]) | refine ag_ (fun hb=>?_) (fun hb=>?_) | refine⟨fun hb=>?_,fun hb=>?_⟩ | refine ac_ (hT) rfl rfl ?_ | refine ac_ (hX) rfl rfl ?_ | fail)
    exact h _ ⟨_,_,rfl,rfl,.refl _⟩
  ·rw[if_neg hk2] at h
   have hk2':(k==2)=false:=by simpa using hk2
   by_cases hr:r2=0
   ·subst hr
    rw[if_pos rfl] at h
    rcases hop with rfl | rfl | rfl | rfl | rfl | rfl
    all_goals
     repeat' (first | (simp -implicitDefEqProofs only[go_sem,valV,hok',hk2']) | refine ag_ (fun hb=>?_) (fun hb=>?_) | refine⟨fun hb=>?_,fun hb=>?_⟩ | refine ac_ (hT) rfl rfl ?_ | refine ac_ (hN) rfl rfl ?_ | refine ac_ (hI) rfl rfl ?_ | fail)
     exact h _ ⟨_,_,rfl,rfl,.refl _⟩
   ·rw[if_neg hr] at h
    have hr':(r2 != 0)=true:=by simpa using hr
    rcases hop with rfl | rfl | rfl | rfl | rfl | rfl
    all_goals
     repeat' (first | (simp -implicitDefEqProofs only[go_sem,valV,hok',hk2',hr']) | refine ag_ (fun hb=>?_) (fun hb=>?_) | refine⟨fun hb=>?_,fun hb=>?_⟩ | refine ac_ (hT) rfl rfl ?_ | refine ac_ (hN) rfl rfl ?_ | fail)
     exact h _ ⟨_,_,rfl,rfl,.refl _⟩
end Go.Proofs.YtjbcfpkibnhodaaGreatDoor.Ab
