/-
  value, proctorref03: values. num.Op, value.truth, text, Less, Op: what operators make of values. proctorref03: the order of texts and values, what operators make of values. No claim is proved here.
-/
import Derived.Test.YtjbcfpkibnhodaaGreatDoorYV2
set_option linter.unusedSimpArgs false
set_option maxHeartbeats 4000000
set_option maxRecDepth 100000
namespace Go.Proofs.YtjbcfpkibnhodaaGreatDoor.Ab
open Go
variable {G:Nat→Option AV}
structure Val where
 kind:Int
 int:Int
 str:Str
 bool:Bool
deriving DecidableEq
abbrev v0:Val:=⟨0,0,[],false⟩
def valV (v:Val):AV:=.agg [iv v.kind,iv v.int,.str v.str,.bool v.bool]
theorem vIp_ (n:Int):P_ Tryz.prog G nvI_ [iv n] (valV ⟨1,n,[],false⟩):=by
 refine pvI_ (Runs.of fun Φ h=>?_)
 unfold cvI_
 simp -implicitDefEqProofs only[go_sem]
 exact h _ ⟨_,_,rfl,rfl,.refl _⟩
theorem vSp_ (s:Str):P_ Tryz.prog G nvS_ [.str s] (valV ⟨2,0,s,false⟩):=by
 refine pvS_ (Runs.of fun Φ h=>?_)
 unfold cvS_
 simp -implicitDefEqProofs only[go_sem]
 exact h _ ⟨_,_,rfl,rfl,.refl _⟩
theorem vBp_ (b:Bool):P_ Tryz.prog G nvB_ [.bool b] (valV ⟨3,0,[],b⟩):=by
 refine pvB_ (Runs.of fun Φ h=>?_)
 unfold cvB_
 simp -implicitDefEqProofs only[go_sem]
 exact h _ ⟨_,_,rfl,rfl,.refl _⟩
def Val.ok (v:Val):Bool:=
 if v.kind=1 then v.str==[]&& !v.bool else if v.kind=2 then v.int==0&&(!v.bool&&decide ((v.str.length:Int)≤4096)) else decide (v.kind=3)&&(v.int==0&&v.str==[])
theorem vRp_ (v:Val):P_ Tryz.prog G nvR_ [valV v] (.bool v.ok):=by
 obtain⟨k,n,s,b⟩:=v
 refine pvR_ (Runs.of fun Φ h=>?_)
 unfold cvR_
 repeat' (first|simp -implicitDefEqProofs only[go_sem,valV]|refine ag_ (fun hb=>?_) (fun hb=>?_)|refine⟨fun hb=>?_,fun hb=>?_⟩|refine ac_ (vIp_ _) rfl rfl ?_|refine ac_ (vSp_ _) rfl rfl ?_|refine ac_ (vBp_ _) rfl rfl ?_|fail)
 all_goals (refine h _ ⟨_,_,rfl,rfl,fe_ ?_⟩;clear h;first | rfl | simp_all [Val.ok])
theorem rRp_ (v:Val):P_ Tryz.prog G npR_ [valV v] (.bool v.ok):=by
 obtain⟨k,n,s,b⟩:=v
 refine pp23 (Runs.of fun Φ h=>?_)
 unfold cp24
 repeat' (first|simp -implicitDefEqProofs only[go_sem,valV]|refine ag_ (fun hb=>?_) (fun hb=>?_)|refine⟨fun hb=>?_,fun hb=>?_⟩|fail)
 all_goals (refine h _ ⟨_,_,rfl,rfl,fe_ ?_⟩;clear h;first | rfl | simp_all [Val.ok])
def k_ (k:Int):Str:=if k=1 then [105,110,116] else if k=2 then [115,116,114,105,110,103] else if k=3 then [98,111,111,108] else []
theorem vNp_ (k:Int):P_ Tryz.prog G nvN_ [iv k] (.str (k_ k)):=by
 refine pvN_ (Runs.of fun Φ h=>?_)
 unfold cvN_
 repeat' (first|simp -implicitDefEqProofs only[go_sem]|refine ag_ (fun hb=>?_) (fun hb=>?_)|refine⟨fun hb=>?_,fun hb=>?_⟩|fail)
 all_goals (refine h _ ⟨_,_,rfl,rfl,fe_ ?_⟩;clear h;first | rfl | simp_all [k_])
theorem vwp_ (b:Bool) (k:Int):P_ Tryz.prog G nvw_ [.bool b,iv k] (iv (if b then k else 0)):=by
 refine pvw_ (Runs.of fun Φ h=>?_)
 unfold cvw_
 repeat' (first|simp -implicitDefEqProofs only[go_sem]|refine ag_ (fun hb=>?_) (fun hb=>?_)|refine⟨fun hb=>?_,fun hb=>?_⟩|fail)
 all_goals (refine h _ ⟨_,_,rfl,rfl,fe_ ?_⟩;clear h;first | rfl | simp_all)
def o11 (op a b:Int):Int:=
 if op=4 then (if a=3 then 3 else 0)
 else if op=5 then (if a=1 then 1 else 0)
 else if op=6∨op=7 then (if a=3∧b=a then 3 else 0)
 else if op=9∨op=10∨op=11∨op=12 then (if a=1∧b=a then a else 0)
 else if op=8 then (if (a=1∨a=2)∧b=a then a else 0)
 else if op=13∨op=14 then (if k_ a≠[]∧b=a then 3 else 0)
 else if op=15∨op=16 then (if (a=1∨a=2)∧b=a then 3 else 0)
 else 0
theorem vTp_ (op a b:Int):P_ Tryz.prog G nvT_ [iv op,iv a,iv b] (iv (o11 op a b)):=by
 refine pvT_ (Runs.of fun Φ h=>?_)
 unfold cvT_
 repeat' (first|simp -implicitDefEqProofs only[go_sem]|refine ag_ (fun hb=>?_) (fun hb=>?_)|refine⟨fun hb=>?_,fun hb=>?_⟩|refine ac_ (vwp_ _ _) rfl rfl ?_|refine ac_ (vNp_ _) rfl rfl ?_|fail)
 all_goals (refine h _ ⟨_,_,rfl,rfl,fe_ ?_⟩;clear h;simp_all [o11])
end Go.Proofs.YtjbcfpkibnhodaaGreatDoor.Ab
namespace Go.Proofs.YtjbcfpkibnhodaaGreatDoor.Ab
open Go
variable {G:Nat→Option AV}
def numR (op a b:Int):Int×Int:=
 if op=5 then ovR (0 - a) else if op=9 then ovR (a - b) else if op=8 then ovR (a+b) else if op=10 then ovR (a*b) else if op=11 then divR a b else if op=12 then modR a b else (0,1)
theorem nOp_ (op a b:Int) (ha:i64 a) (hb:i64 b):P_ Tryz.prog G nnO_ [iv op,iv a,iv b] (t2 (numR op a b)):=by
 have h1:=nSp_ (G:=G) 0 a (by unfold i64;omega) ha
 have h2:=nSp_ (G:=G) a b ha hb
 have h3:=nAp_ (G:=G) a b ha hb
 have h4:=nMp_ (G:=G) a b ha hb
 have h5:=nDp_ (G:=G) a b ha
 have h6:=nM10 (G:=G) a b
 refine pnO_ (Runs.of fun Φ h=>?_)
 unfold cnO_
 unfold numR at h
 generalize ovR (0 - a)=r1 at*
 generalize ovR (a - b)=r2 at*
 generalize ovR (a+b)=r3 at*
 generalize ovR (a*b)=r4 at*
 generalize divR a b=r5 at*
 generalize modR a b=r6 at*
 unfold t2 at*
 repeat' (first|simp -implicitDefEqProofs only[go_sem]|refine ag_ (fun hb=>?_) (fun hb=>?_)|refine⟨fun hb=>?_,fun hb=>?_⟩|refine ac_ h1 rfl rfl ?_|refine ac_ h2 rfl rfl ?_|refine ac_ h3 rfl rfl ?_|refine ac_ h4 rfl rfl ?_|refine ac_ h5 rfl rfl ?_|refine ac_ h6 rfl rfl ?_|fail)
 all_goals
  refine h _ ⟨_,_,rfl,rfl,fe_ ?_⟩
  clear h h1 h2 h3 h4 h5 h6
  simp_all
def vt (r:Val×Int):AV:=.tup [valV r.1,iv r.2]
theorem vtp_ (b:Bool):P_ Tryz.prog G nvt_ [.bool b] (vt (⟨3,0,[],b⟩,0)):=by
 have h1:=vBp_ (G:=G) b
 refine pvt_ (Runs.of fun Φ h=>?_)
 unfold cvt_
 repeat' (first|simp -implicitDefEqProofs only[go_sem,valV]|refine ag_ (fun hb=>?_) (fun hb=>?_)|refine⟨fun hb=>?_,fun hb=>?_⟩|refine ac_ h1 rfl rfl ?_|fail)
 exact h _ ⟨_,_,rfl,rfl,.refl _⟩
def t26 (s:Str):Val×Int:=if (4096:Int)<s.length then (v0,3) else (⟨2,0,s,false⟩,0)
theorem vt10 (s:Str):P_ Tryz.prog G nv10 [.str s] (vt (t26 s)):=by
 have h1:=vSp_ (G:=G) s
 refine pv10 (Runs.of fun Φ h=>?_)
 unfold cv10
 unfold t26 at h
 by_cases hl:(4096:Int)<s.length
 ·rw[if_pos hl] at h
  repeat' (first|simp -implicitDefEqProofs only[go_sem,valV,hl]|refine ag_ (fun hb=>?_) (fun hb=>?_)|refine⟨fun hb=>?_,fun hb=>?_⟩|refine ac_ h1 rfl rfl ?_|fail)
  all_goals first | exact h _ ⟨_,_,rfl,rfl,.refl _⟩ | (exfalso;simp at*;omega)
 ·rw[if_neg hl] at h
  repeat' (first|simp -implicitDefEqProofs only[go_sem,valV,hl]|refine ag_ (fun hb=>?_) (fun hb=>?_)|refine⟨fun hb=>?_,fun hb=>?_⟩|refine ac_ h1 rfl rfl ?_|fail)
  all_goals first | exact h _ ⟨_,_,rfl,rfl,.refl _⟩ | (exfalso;simp at*;omega)
def l14 (a b:Val):Bool:=if ¬a.kind=b.kind then decide (a.kind<b.kind) else if a.kind=1 then decide (a.int<b.int) else if a.kind=2 then Op.bytesLess a.str b.str else !a.bool&&b.bool
theorem vLp_ (a b:Val):P_ Tryz.prog G nvL_ [valV a,valV b] (.bool (l14 a b)):=by
 obtain⟨k,n,s,t⟩:=a
 obtain⟨k',n',s',t'⟩:=b
 refine pvL_ (Runs.of fun Φ h=>?_)
 unfold cvL_
 unfold l14 at h
 repeat' (first|simp -implicitDefEqProofs only[go_sem,valV]|refine ag_ (fun hb=>?_) (fun hb=>?_)|refine⟨fun hb=>?_,fun hb=>?_⟩|fail)
 all_goals
  refine h _ ⟨_,_,rfl,rfl,fe_ ?_⟩
  clear h
  simp_all
def opR (op:Int) (a b:Val):Val×Int:=
 if op<4∨16<op then (v0,1) else if o11 op a.kind b.kind=0 then (v0,8)
 else if op=4 then (⟨3,0,[],!a.bool⟩,0) else if op=6 then (⟨3,0,[],a.bool&&b.bool⟩,0) else if op=7 then (⟨3,0,[],a.bool||b.bool⟩,0)
 else if op=13 then (⟨3,0,[],a==b⟩,0) else if op=14 then (⟨3,0,[],!(a==b)⟩,0) else if op=15 then (⟨3,0,[],l14 a b⟩,0) else if op=16 then (⟨3,0,[],!l14 b a⟩,0)
 else if a.kind=2 then t26 (a.str++b.str)
 else if (numR op a.int b.int).2=0 then (⟨1,(numR op a.int b.int).1,[],false⟩,0) else (v0,(numR op a.int b.int).2)
theorem vb_ (k n:Int) (s:Str) (t:Bool) (k' n':Int) (s':Str) (t':Bool):((⟨k,n,s,t⟩:Val)==⟨k',n',s',t'⟩)=(k==k'&&(n==n'&&(s==s'&&t==t'))):=by
 rw[Bool.eq_iff_iff]
 simp
theorem vOp_ (op:Int) (a b:Val) (ha:i64 a.int) (hb:i64 b.int) (hl:a.str.length+b.str.length≤1000000):P_ Tryz.prog G nvO_ [iv op,valV a,valV b] (vt (opR op a b)):=by
 have hT:=vTp_ (G:=G) op a.kind b.kind
 have hL1:=vLp_ (G:=G) a b
 have hL2:=vLp_ (G:=G) b a
 have hX:=vt10 (G:=G) (a.str++b.str)
 have hN:=nOp_ (G:=G) op a.int b.int ha hb
 have hI:=vIp_ (G:=G) (numR op a.int b.int).1
 obtain⟨k,n,s,t⟩:=a
 obtain⟨k',n',s',t'⟩:=b
 dsimp only at*
 have hadd:abin .add (.str s) (.str s')=some (.str (s++s')):=aa11 (by omega)
 clear ha hb hl
 refine pvO_ (Runs.of fun Φ h=>?_)
 unfold cvO_
 unfold opR at h
 rw[vb_] at h
 dsimp only at h
 generalize o11 op k k'=ok at*
 generalize l14 ⟨k,n,s,t⟩ ⟨k',n',s',t'⟩=l1 at*
 generalize l14 ⟨k',n',s',t'⟩ ⟨k,n,s,t⟩=l2 at*
 generalize t26 (s++s')=x at*
 generalize numR op n n'=r at*
 obtain⟨r1,r2⟩:=r
 obtain⟨⟨x1,x2,x3,x4⟩,x5⟩:=x
 unfold vt t2 at*
 simp only[valV] at hL1 hL2 hX hI
 by_cases hop:op<4∨16<op
 ·rw[if_pos hop] at h
  rcases hop with hop | hop
  ·repeat' (first|simp -implicitDefEqProofs only[go_sem,valV,hop,decide_eq_true_eq]|refine ag_ (fun hb=>?_) (fun hb=>?_)|refine⟨fun hb=>?_,fun hb=>?_⟩|fail)
   all_goals first | exact h _ ⟨_,_,rfl,rfl,.refl _⟩ | (exfalso;simp at*;omega)
  ·have hop':¬op<4:=by omega
   repeat' (first|simp -implicitDefEqProofs only[go_sem,valV,hop,hop',decide_eq_true_eq]|refine ag_ (fun hb=>?_) (fun hb=>?_)|refine⟨fun hb=>?_,fun hb=>?_⟩|fail)
   all_goals first | exact h _ ⟨_,_,rfl,rfl,.refl _⟩ | (exfalso;simp at*;omega)
 rw[if_neg hop] at h
 by_cases hok:ok=0
 ·subst hok
  rw[if_pos rfl] at h
  repeat' (first|simp -implicitDefEqProofs only[go_sem,valV]|refine ag_ (fun hb=>?_) (fun hb=>?_)|refine⟨fun hb=>?_,fun hb=>?_⟩|refine ac_ hT rfl rfl ?_|fail)
  all_goals first | exact h _ ⟨_,_,rfl,rfl,.refl _⟩ | (exfalso;simp at*;omega)
 rw[if_neg hok] at h
 have hok':(ok==0)=false:=by simpa using hok
 have hop':op=4∨op=6∨op=7∨op=13∨op=14∨op=15∨op=16∨(op=5∨op=8∨op=9∨op=10∨op=11∨op=12):=by omega
 clear hop
 rcases hop' with rfl | rfl | rfl | rfl | rfl | rfl | rfl | hop
 ·repeat' (first|simp -implicitDefEqProofs only[go_sem,valV,hok',aeqs,l10,aeqA,andO]|refine ag_ (fun hb=>?_) (fun hb=>?_)|refine⟨fun hb=>?_,fun hb=>?_⟩|refine ac_ hT rfl rfl ?_|refine ac_ (vtp_ _) rfl rfl ?_|fail)
  exact h _ ⟨_,_,rfl,rfl,.refl _⟩
 ·cases t <;> (repeat' (first|simp -implicitDefEqProofs only[go_sem,valV,hok',aeqs,l10,aeqA,andO]|refine ag_ (fun hb=>?_) (fun hb=>?_)|refine⟨fun hb=>?_,fun hb=>?_⟩|refine ac_ hT rfl rfl ?_|refine ac_ (vtp_ _) rfl rfl ?_|fail)) <;> exact h _ ⟨_,_,rfl,rfl,.refl _⟩
 ·cases t <;> (repeat' (first|simp -implicitDefEqProofs only[go_sem,valV,hok',aeqs,l10,aeqA,andO]|refine ag_ (fun hb=>?_) (fun hb=>?_)|refine⟨fun hb=>?_,fun hb=>?_⟩|refine ac_ hT rfl rfl ?_|refine ac_ (vtp_ _) rfl rfl ?_|fail)) <;> exact h _ ⟨_,_,rfl,rfl,.refl _⟩
 ·repeat' (first|simp -implicitDefEqProofs only[go_sem,valV,hok',aeqs,l10,aeqA,andO]|refine ag_ (fun hb=>?_) (fun hb=>?_)|refine⟨fun hb=>?_,fun hb=>?_⟩|refine ac_ hT rfl rfl ?_|refine ac_ (vtp_ _) rfl rfl ?_|fail)
  exact h _ ⟨_,_,rfl,rfl,fe_ (by simp [valV])⟩
 ·repeat' (first|simp -implicitDefEqProofs only[go_sem,valV,hok',aeqs,l10,aeqA,andO]|refine ag_ (fun hb=>?_) (fun hb=>?_)|refine⟨fun hb=>?_,fun hb=>?_⟩|refine ac_ hT rfl rfl ?_|refine ac_ (vtp_ _) rfl rfl ?_|fail)
  exact h _ ⟨_,_,rfl,rfl,fe_ (by simp [valV])⟩
 ·repeat' (first|simp -implicitDefEqProofs only[go_sem,valV,hok']|refine ag_ (fun hb=>?_) (fun hb=>?_)|refine⟨fun hb=>?_,fun hb=>?_⟩|refine ac_ hT rfl rfl ?_|refine ac_ hL1 rfl rfl ?_|refine ac_ (vtp_ _) rfl rfl ?_|fail)
  exact h _ ⟨_,_,rfl,rfl,.refl _⟩
 ·repeat' (first|simp -implicitDefEqProofs only[go_sem,valV,hok']|refine ag_ (fun hb=>?_) (fun hb=>?_)|refine⟨fun hb=>?_,fun hb=>?_⟩|refine ac_ hT rfl rfl ?_|refine ac_ hL2 rfl rfl ?_|refine ac_ (vtp_ _) rfl rfl ?_|fail)
  exact h _ ⟨_,_,rfl,rfl,.refl _⟩
 ·have hs:¬op=4∧¬op=6∧¬op=7∧¬op=13∧¬op=14∧¬op=15∧¬op=16:=by omega
  obtain⟨q1,q2,q3,q4,q5,q6,q7⟩:=hs
  rw[if_neg q1,if_neg q2,if_neg q3,if_neg q4,if_neg q5,if_neg q6,if_neg q7] at h
  by_cases hk2:k=2
  ·subst hk2
   rw[if_pos rfl] at h
   rcases hop with rfl | rfl | rfl | rfl | rfl | rfl
   all_goals
    repeat' (first|simp -implicitDefEqProofs only[go_sem,valV,hok',hadd]|refine ag_ (fun hb=>?_) (fun hb=>?_)|refine⟨fun hb=>?_,fun hb=>?_⟩|refine ac_ hT rfl rfl ?_|refine ac_ hX rfl rfl ?_|fail)
    exact h _ ⟨_,_,rfl,rfl,.refl _⟩
  ·rw[if_neg hk2] at h
   have hk2':(k==2)=false:=by simpa using hk2
   by_cases hr:r2=0
   ·subst hr
    rw[if_pos rfl] at h
    rcases hop with rfl | rfl | rfl | rfl | rfl | rfl
    all_goals
     repeat' (first|simp -implicitDefEqProofs only[go_sem,valV,hok',hk2']|refine ag_ (fun hb=>?_) (fun hb=>?_)|refine⟨fun hb=>?_,fun hb=>?_⟩|refine ac_ hT rfl rfl ?_|refine ac_ hN rfl rfl ?_|refine ac_ hI rfl rfl ?_|fail)
     exact h _ ⟨_,_,rfl,rfl,.refl _⟩
   ·rw[if_neg hr] at h
    have hr':(r2 != 0)=true:=by simpa using hr
    rcases hop with rfl | rfl | rfl | rfl | rfl | rfl
    all_goals
     repeat' (first|simp -implicitDefEqProofs only[go_sem,valV,hok',hk2',hr']|refine ag_ (fun hb=>?_) (fun hb=>?_)|refine⟨fun hb=>?_,fun hb=>?_⟩|refine ac_ hT rfl rfl ?_|refine ac_ hN rfl rfl ?_|fail)
     exact h _ ⟨_,_,rfl,rfl,.refl _⟩
end Go.Proofs.YtjbcfpkibnhodaaGreatDoor.Ab
namespace Go.Proofs.YtjbcfpkibnhodaaGreatDoor.Ab
open Go
variable {G:Nat→Option AV}
theorem bs14 (x:UInt8) (s t:Str):Op.bytesLess (x::s) (x::t)=Op.bytesLess s t:=by simp [Op.bytesLess]
theorem bn_ {x y:UInt8} (h:¬x=y) (s t:Str):Op.bytesLess (x::s) (y::t)=decide (x<y):=by simp [Op.bytesLess,h]
theorem be_ {s t:Str} (h:s=[]∨t=[]):Op.bytesLess s t=decide ((s.length:Int)<t.length):=by
 rcases h with rfl | rfl
 ·cases t <;> simp [Op.bytesLess] <;> omega
 ·cases s <;> simp [Op.bytesLess] <;> omega
theorem da10 {α:Type} {l:List α} {i:Nat} {x:α} (h:l[i]? =some x):l.drop i=x::l.drop (i+1):=by
 obtain⟨hlt,rfl⟩:=List.getElem?_eq_some_iff.1 h
 exact List.drop_eq_getElem_cons hlt
theorem rBp_ (a b:Str) (ha:a.length<9223372036854775807):P_ Tryz.prog G npB_ [.str a,.str b] (.bool (Op.bytesLess a b)):=by
 refine ppB_ (Runs.of fun Φ h=>?_)
 unfold cpB_
 simp -implicitDefEqProofs only[go_sem]
 refine al_ (fun n st=>∃i:Nat,i+n=a.length∧i≤b.length∧st=⟨37,[(0,.str a),(1,.str b),(5,iv i)],[]⟩∧Op.bytesLess (a.drop i) (b.drop i)=Op.bytesLess a b) a.length ⟨0,by simp,Nat.zero_le _,rfl,rfl⟩ ?_
 rintro I hI n st ⟨i,hi,hib,rfl,hno⟩
 have hle:i≤a.length:=by omega
 by_cases h1:i<a.length
 ·obtain⟨x,hx,_⟩:=as10 h1
  have hw:=ws_ h1 (by omega)
  by_cases h2:i<b.length
  ·obtain⟨y,hy,_⟩:=as10 h2
   rw[da10 hx,da10 hy] at hno
   have k1:((i:Int)<(a.length:Int))=True:=by simp;omega
   have k2:((i:Int)<(b.length:Int))=True:=by simp;omega
   have e1:aidx (.str a) (.int .i64 (i:Int))=some (.int .u8 x.toNat):=as21 _ (by omega) (by simpa using hx)
   have e2:aidx (.str b) (.int .i64 (i:Int))=some (.int .u8 y.toNat):=as21 _ (by omega) (by simpa using hy)
   by_cases hxy:x=y
   ·subst hxy
    rw[bs14] at hno
    have e3:((x.toNat:Int) != (x.toNat:Int))=false:=by simp
    repeat' (first|simp -implicitDefEqProofs only[go_sem,k1,k2,e1,e2,e3,hw,decide_true]|refine ag_ (fun hb=>?_) (fun hb=>?_)|refine⟨fun hb=>?_,fun hb=>?_⟩|fail)
    exact aa_ (n - 1) (by omega) (hI _ _ ⟨i+1,by omega,by omega,rfl,hno⟩)
   ·rw[bn_ hxy] at hno
    have hn:¬x.toNat=y.toNat:=fun e=>hxy (UInt8.toNat_inj.1 e)
    have e3:((x.toNat:Int) != (y.toNat:Int))=true:=by simp;omega
    repeat' (first|simp -implicitDefEqProofs only[go_sem,k1,k2,e1,e2,e3,decide_true]|refine ag_ (fun hb=>?_) (fun hb=>?_)|refine⟨fun hb=>?_,fun hb=>?_⟩|fail)
    refine h _ ⟨_,_,rfl,rfl,fitB ?_⟩
    rw[←hno,Bool.eq_iff_iff]
    simp [UInt8.lt_iff_toNat_lt]
  ·have:i=b.length:=by omega
   have k1:((i:Int)<(a.length:Int))=True:=by simp;omega
   have k2:((i:Int)<(b.length:Int))=False:=by simp;omega
   repeat' (first|simp -implicitDefEqProofs only[go_sem,k1,k2,decide_true,decide_false]|refine ag_ (fun hb=>?_) (fun hb=>?_)|refine⟨fun hb=>?_,fun hb=>?_⟩|fail)
   refine h _ ⟨_,_,rfl,rfl,fitB ?_⟩
   rw[←hno,be_ (.inr (by rw[List.drop_eq_nil_iff];omega)),Bool.eq_iff_iff]
   simp
   omega
 ·have:i=a.length:=by omega
  have k1:((i:Int)<(a.length:Int))=False:=by simp;omega
  repeat' (first|simp -implicitDefEqProofs only[go_sem,k1,decide_true,decide_false]|refine ag_ (fun hb=>?_) (fun hb=>?_)|refine⟨fun hb=>?_,fun hb=>?_⟩|fail)
  refine h _ ⟨_,_,rfl,rfl,fitB ?_⟩
  rw[←hno,be_ (.inl (by rw[List.drop_eq_nil_iff];omega)),Bool.eq_iff_iff]
  simp
  omega
theorem rL10 (a b:Val) (ha:a.str.length<9223372036854775807):P_ Tryz.prog G npL_ [valV a,valV b] (.bool (l14 a b)):=by
 have h1:=rBp_ (G:=G) a.str b.str ha
 obtain⟨k,n,s,t⟩:=a
 obtain⟨k',n',s',t'⟩:=b
 dsimp only at*
 refine ppL_ (Runs.of fun Φ h=>?_)
 unfold cpL_
 unfold l14 at h
 dsimp only at h
 generalize Op.bytesLess s s'=r at*
 repeat' (first|simp -implicitDefEqProofs only[go_sem,valV]|refine ag_ (fun hb=>?_) (fun hb=>?_)|refine⟨fun hb=>?_,fun hb=>?_⟩|refine ac_ h1 rfl rfl ?_|fail)
 all_goals
  refine h _ ⟨_,_,rfl,rfl,fe_ ?_⟩
  clear h h1
  simp_all
theorem rt10 (b:Bool):P_ Tryz.prog G npt_ [.bool b] (vt (⟨3,0,[],b⟩,0)):=by
 refine ppt_ (Runs.of fun Φ h=>?_)
 unfold cpt_
 repeat' (first|simp -implicitDefEqProofs only[go_sem]|refine ag_ (fun hb=>?_) (fun hb=>?_)|refine⟨fun hb=>?_,fun hb=>?_⟩|fail)
 exact h _ ⟨_,_,rfl,rfl,.refl _⟩
theorem rnp_ (n:Int) (ok:Bool):P_ Tryz.prog G npn_ [iv n,.bool ok] (vt (if ok then (⟨1,n,[],false⟩,0) else (v0,6))):=by
 refine ppn_ (Runs.of fun Φ h=>?_)
 unfold cpn_
 cases ok <;> (repeat' (first|simp -implicitDefEqProofs only[go_sem]|refine ag_ (fun hb=>?_) (fun hb=>?_)|refine⟨fun hb=>?_,fun hb=>?_⟩|fail)) <;> exact h _ ⟨_,_,rfl,rfl,.refl _⟩
def ariR (op a b:Int):Val×Int:=if (numR op a b).2=0 then (⟨1,(numR op a b).1,[],false⟩,0) else (v0,(numR op a b).2)
theorem ao_ {op a b m:Int} (h:numR op a b=ovR m):ariR op a b=if (okR m).2=true then (⟨1,(okR m).1,[],false⟩,0) else (v0,6):=by
 unfold ariR
 rw[h]
 unfold ovR okR
 by_cases hm:in64 m=true <;> simp [hm]
theorem rap_ (op a b:Int) (hop:8≤op∧op≤12) (ha:i64 a) (hb:i64 b):P_ Tryz.prog G np10 [iv op,iv a,iv b] (vt (ariR op a b)):=by
 have h1:=rA11 (G:=G) a b ha hb
 have h2:=rSp_ (G:=G) a b ha hb
 have h3:=rMp_ (G:=G) a b ha hb
 have h4:=rDp_ (G:=G) a b ha
 refine ppa_ (Runs.of fun Φ h=>?_)
 unfold cp10
 unfold t2b at*
 unfold vt at h
 have hop':op=8∨op=9∨op=10∨op=11∨op=12:=by omega
 rcases hop' with rfl | rfl | rfl | rfl | rfl
 ·rw[ao_ (m:=a+b) rfl] at h
  have hn:=rnp_ (G:=G) (okR (a+b)).1 (okR (a+b)).2
  generalize okR (a+b)=r at*
  obtain⟨r1,r2⟩:=r
  unfold vt at hn
  cases r2 <;> (repeat' (first|simp -implicitDefEqProofs only[go_sem]|refine ag_ (fun hb=>?_) (fun hb=>?_)|refine⟨fun hb=>?_,fun hb=>?_⟩|refine ac_ h1 rfl rfl ?_|refine ac_ hn rfl rfl ?_|fail)) <;> exact h _ ⟨_,_,rfl,rfl,.refl _⟩
 ·rw[ao_ (m:=a - b) rfl] at h
  have hn:=rnp_ (G:=G) (okR (a - b)).1 (okR (a - b)).2
  generalize okR (a - b)=r at*
  obtain⟨r1,r2⟩:=r
  unfold vt at hn
  cases r2 <;> (repeat' (first|simp -implicitDefEqProofs only[go_sem]|refine ag_ (fun hb=>?_) (fun hb=>?_)|refine⟨fun hb=>?_,fun hb=>?_⟩|refine ac_ h2 rfl rfl ?_|refine ac_ hn rfl rfl ?_|fail)) <;> exact h _ ⟨_,_,rfl,rfl,.refl _⟩
 ·rw[ao_ (m:=a*b) rfl] at h
  have hn:=rnp_ (G:=G) (okR (a*b)).1 (okR (a*b)).2
  generalize okR (a*b)=r at*
  obtain⟨r1,r2⟩:=r
  unfold vt at hn
  cases r2 <;> (repeat' (first|simp -implicitDefEqProofs only[go_sem]|refine ag_ (fun hb=>?_) (fun hb=>?_)|refine⟨fun hb=>?_,fun hb=>?_⟩|refine ac_ h3 rfl rfl ?_|refine ac_ hn rfl rfl ?_|fail)) <;> exact h _ ⟨_,_,rfl,rfl,.refl _⟩
 ·by_cases hb0:b=0
  ·have e:dmR a b=(0,0,7):=by simp [dmR,hb0]
   have e':ariR 11 a b=(v0,7):=by simp [ariR,numR,divR,hb0]
   rw[e] at h4
   rw[e'] at h
   repeat' (first|simp -implicitDefEqProofs only[go_sem]|refine ag_ (fun hb=>?_) (fun hb=>?_)|refine⟨fun hb=>?_,fun hb=>?_⟩|refine ac_ h4 rfl rfl ?_|fail)
   exact h _ ⟨_,_,rfl,rfl,.refl _⟩
  ·by_cases hi:in64 (a.tdiv b)=true
   ·have e:dmR a b=(a.tdiv b,a.tmod b,0):=by simp [dmR,hb0,hi]
    have e':ariR 11 a b=(⟨1,a.tdiv b,[],false⟩,0):=by simp [ariR,numR,divR,hb0,ovR,hi]
    rw[e] at h4
    rw[e'] at h
    have hn:=rnp_ (G:=G) (a.tdiv b) true
    generalize a.tdiv b=q at*
    generalize a.tmod b=r at*
    unfold vt at hn
    repeat' (first|simp -implicitDefEqProofs only[go_sem]|refine ag_ (fun hb=>?_) (fun hb=>?_)|refine⟨fun hb=>?_,fun hb=>?_⟩|refine ac_ h4 rfl rfl ?_|refine ac_ hn rfl rfl ?_|fail)
    exact h _ ⟨_,_,rfl,rfl,.refl _⟩
   ·have e:dmR a b=(0,0,6):=by simp [dmR,hb0,hi]
    have e':ariR 11 a b=(v0,6):=by simp [ariR,numR,divR,hb0,ovR,hi]
    rw[e] at h4
    rw[e'] at h
    have hn:=rnp_ (G:=G) 0 false
    unfold vt at hn
    repeat' (first|simp -implicitDefEqProofs only[go_sem]|refine ag_ (fun hb=>?_) (fun hb=>?_)|refine⟨fun hb=>?_,fun hb=>?_⟩|refine ac_ h4 rfl rfl ?_|refine ac_ hn rfl rfl ?_|fail)
    exact h _ ⟨_,_,rfl,rfl,.refl _⟩
 ·by_cases hb0:b=0
  ·have e:dmR a b=(0,0,7):=by simp [dmR,hb0]
   have e':ariR 12 a b=(v0,7):=by simp [ariR,numR,modR,hb0]
   rw[e] at h4
   rw[e'] at h
   repeat' (first|simp -implicitDefEqProofs only[go_sem]|refine ag_ (fun hb=>?_) (fun hb=>?_)|refine⟨fun hb=>?_,fun hb=>?_⟩|refine ac_ h4 rfl rfl ?_|fail)
   exact h _ ⟨_,_,rfl,rfl,.refl _⟩
  ·have e:dmR a b=((dmR a b).1,a.tmod b,(dmR a b).2.2)∧¬(dmR a b).2.2=7:=by
    by_cases hi:in64 (a.tdiv b)=true
    ·simp [dmR,hb0,hi]
    ·have hb1:b= -1:=by
      by_cases hb1:b= -1
      ·exact hb1
      ·exact absurd (ts10 ha hb1) hi
     subst hb1
     rw[tn10]
     rw[tn_] at hi
     have hi':in64 (-a)=false:=by simpa using hi
     simp [dmR,hi',tn_]
   have e':ariR 12 a b=(⟨1,a.tmod b,[],false⟩,0):=by simp [ariR,numR,modR,hb0]
   obtain⟨e,e7⟩:=e
   generalize (dmR a b).1=q1 at*
   generalize (dmR a b).2.2=q3 at*
   rw[e] at h4
   rw[e'] at h
   have e7':(q3==7)=false:=by simpa using e7
   generalize a.tmod b=r at*
   repeat' (first|simp -implicitDefEqProofs only[go_sem,e7']|refine ag_ (fun hb=>?_) (fun hb=>?_)|refine⟨fun hb=>?_,fun hb=>?_⟩|refine ac_ h4 rfl rfl ?_|fail)
   exact h _ ⟨_,_,rfl,rfl,.refl _⟩
theorem rO10 (op:Int) (a b:Val) (ha:i64 a.int) (hb:i64 b.int) (hl:a.str.length+b.str.length≤1000000) (hop:4≤op∧op≤16) (hk:1≤a.kind∧a.kind≤3):
  P_ Tryz.prog G npO_ [iv op,valV a,valV b] (vt (opR op a b)):=by
 have hL1:=rL10 (G:=G) a b (by omega)
 have hL2:=rL10 (G:=G) b a (by omega)
 have hN:=fun h=>rap_ (G:=G) op a.int b.int h ha hb
 have hN5:op=5→P_ Tryz.prog G np10 [iv 9,iv 0,iv a.int] (vt (ariR op a.int b.int)):=by
  rintro rfl
  have:=rap_ (G:=G) 9 0 a.int (by omega) (by unfold i64;omega) ha
  rw[show ariR 9 0 a.int=ariR 5 a.int b.int by simp [ariR,numR]] at this
  exact this
 clear ha hb
 have hla:a.str.length≤1000000:=by omega
 have hlb:b.str.length≤1000000:=by omega
 obtain⟨k,n,s,t⟩:=a
 obtain⟨k',n',s',t'⟩:=b
 dsimp only at*
 have hadd:abin .add (.str s) (.str s')=some (.str (s++s')):=aa11 (by omega)
 have hwl:IntKind.i64.wrap ((s.length:Int)+(s'.length:Int))=((s++s').length:Int):=by rw[wrap_i64 (by omega) (by omega)];simp
 have hd:∀z:Val,(if (numR op n n').2=0 then ((⟨1,(numR op n n').1,[],false⟩,0):Val×Int) else (v0,(numR op n n').2))=ariR op n n':=fun _ =>rfl
 refine ppO_ (Runs.of fun Φ h=>?_)
 unfold cpO_
 unfold opR at h
 rw[vb_] at h
 dsimp only at h
 rw[hd v0] at h
 clear hd
 have k1:¬(op<4∨16<op):=by omega
 rw[if_neg k1] at h
 generalize l14 ⟨k,n,s,t⟩ ⟨k',n',s',t'⟩=l1 at*
 generalize l14 ⟨k',n',s',t'⟩ ⟨k,n,s,t⟩=l2 at*
 generalize ariR op n n'=r at*
 obtain⟨⟨r1,r2,r3,r4⟩,r5⟩:=r
 unfold vt at*
 simp only[valV] at hL1 hL2 hN hN5
 have hk':k=1∨k=2∨k=3:=by omega
 have hop':op=4∨op=5∨op=6∨op=7∨op=8∨op=9∨op=10∨op=11∨op=12∨op=13∨op=14∨op=15∨op=16:=by omega
 clear hk hop k1 hl
 by_cases hkk:k=k'
 ·subst hkk
  rcases hop' with rfl | rfl | rfl | rfl | rfl | rfl | rfl | rfl | rfl | rfl | rfl | rfl | rfl
  all_goals (try have hN:=hN (by omega));(try have hN5:=hN5 rfl)
  all_goals rcases hk' with rfl | rfl | rfl
  all_goals
   repeat' (first|simp -implicitDefEqProofs only[go_sem,valV,hadd,hwl,aeqA,aeqs,l10,andO,bne_self_eq_false,beq_self_eq_true,decide_true,decide_false]|refine ag_ (fun hb=>?_) (fun hb=>?_)|refine⟨fun hb=>?_,fun hb=>?_⟩|refine ac_ hL1 rfl rfl ?_|refine ac_ hL2 rfl rfl ?_|refine ac_ hN rfl rfl ?_|refine ac_ hN5 rfl rfl ?_|refine ac_ (rt10 _) rfl rfl ?_|fail)
  all_goals
   refine h _ ⟨_,_,rfl,rfl,fe_ ?_⟩
   clear h hL1 hL2 hN hN5
   first
   | (simp [o11,k_,valV];done)
   | (simp [o11,k_,valV,t26,-List.length_append,hb];done)
 ·have hkk':¬k'=k:=fun e=>hkk e.symm
  have e0:(k != k')=true:=by simpa using hkk
  rcases hop' with rfl | rfl | hop'
  ·rcases hk' with rfl | rfl | rfl
   all_goals
    repeat' (first|simp -implicitDefEqProofs only[go_sem,valV]|refine ag_ (fun hb=>?_) (fun hb=>?_)|refine⟨fun hb=>?_,fun hb=>?_⟩|refine ac_ (rt10 _) rfl rfl ?_|fail)
    exact h _ ⟨_,_,rfl,rfl,fe_ (by simp [o11,valV])⟩
  ·have hN5:=hN5 rfl
   rcases hk' with rfl | rfl | rfl
   all_goals
    repeat' (first|simp -implicitDefEqProofs only[go_sem,valV]|refine ag_ (fun hb=>?_) (fun hb=>?_)|refine⟨fun hb=>?_,fun hb=>?_⟩|refine ac_ hN5 rfl rfl ?_|fail)
    exact h _ ⟨_,_,rfl,rfl,fe_ (by simp [o11,valV])⟩
  ·have ez:o11 op k k'=0:=by
    unfold o11
    rcases hop' with rfl | rfl | rfl | rfl | rfl | rfl | rfl | rfl | rfl | rfl | rfl <;> simp [hkk']
   rw[if_pos ez] at h
   rcases hop' with rfl | rfl | rfl | rfl | rfl | rfl | rfl | rfl | rfl | rfl | rfl
   all_goals
    repeat' (first|simp -implicitDefEqProofs only[go_sem,valV,e0]|refine ag_ (fun hb=>?_) (fun hb=>?_)|refine⟨fun hb=>?_,fun hb=>?_⟩|fail)
    exact h _ ⟨_,_,rfl,rfl,.refl _⟩
end Go.Proofs.YtjbcfpkibnhodaaGreatDoor.Ab
