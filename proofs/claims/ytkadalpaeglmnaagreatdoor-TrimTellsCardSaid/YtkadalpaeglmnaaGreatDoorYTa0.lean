/-
  Lemmas. No claim is proved here.
-/
import Derived.Test.YtkadalpaeglmnaaGreatDoorYTc9
namespace Go.Proofs.YtkadalpaeglmnaaGreatDoor.Ab
open Go Go.RowKit
set_option linter.unusedSimpArgs false
set_option maxHeartbeats 16000000
set_option maxRecDepth 100000
variable {G:Nat→Option AV}
theorem ip_ (a:Int):PQ G ncii_ [iv a] (.bool false):=by refine pcii_ fun Φ h=>?_;unfold ccii_;simp -implicitDefEqProofs only[go_sem];refine h _ ⟨_,_,rfl,rfl,fitB ?_⟩;simp
theorem wu_ {n:Nat} (h:n<18446744073709551616):IntKind.u64.wrap (n:Int)=n:=by have e1:(2:Int) ^ IntKind.u64.bits=18446744073709551616:=rfl;have e3:IntKind.u64.signed=false:=rfl;unfold IntKind.wrap;rw[e1,e3];simp;omega
theorem lp_ (a b:Int):PQ G ncLi_ [iv a,iv b] (.bool (decide (a<b))):=by
 have c1:=ip_ (G:=G) a;have c2:=ip_ (G:=G) b;refine pcLi_ fun Φ h=>?_;unfold ccLi_
 repeat' (first|simp -implicitDefEqProofs only[go_sem]|refine ag_ (fun hb=>?_) (fun hb=>?_)|refine⟨fun hb=>?_,fun hb=>?_⟩|refine ac_ c1 rfl rfl ?_|refine ac_ c2 rfl rfl ?_|fail)
 exact h _ ⟨_,_,rfl,rfl,.refl _⟩
theorem wz:IntKind.i64.wrap 0=0∧IntKind.i64.wrap 1=1∧IntKind.i64.wrap 2=2∧IntKind.i64.wrap 3=3∧IntKind.i64.wrap 4=4:=by decide
theorem lp10 (n:Nat) (h:n≤12):∃b:Nat,PQ G nm10 [.int .u64 (n:Int)] (iv (b:Int)):=by
 have key:∃b:Nat,PQ G nmbL_ [.int .u64 (n:Int)] (iv (b:Int)):=by
  match n,h with
  | 0,_ =>
   refine⟨0,?_⟩;show P_ _ _ _ [.int .u64 0] (iv 0);refine pmbL_ fun Φ h=>?_;unfold cmbL_;have w8:IntKind.u8.wrap 0=0:=rfl
   repeat' (first|simp -implicitDefEqProofs only[go_sem,w8,aidx,yJ,yZ,yW,UInt8.reduceToNat,xB,wz]|refine ag_ (fun hb=>?_) (fun hb=>?_)|refine⟨fun hb=>?_,fun hb=>?_⟩|fail)
   exact h _ ⟨_,_,rfl,rfl,.refl _⟩
  | 1,_ =>
   refine⟨1,?_⟩;show P_ _ _ _ [.int .u64 1] (iv 1);refine pmbL_ fun Φ h=>?_;unfold cmbL_;have w8:IntKind.u8.wrap 1=1:=rfl
   repeat' (first|simp -implicitDefEqProofs only[go_sem,w8,aidx,yJ,yZ,yW,UInt8.reduceToNat,xB,wz]|refine ag_ (fun hb=>?_) (fun hb=>?_)|refine⟨fun hb=>?_,fun hb=>?_⟩|fail)
   exact h _ ⟨_,_,rfl,rfl,.refl _⟩
  | 2,_ =>
   refine⟨2,?_⟩;show P_ _ _ _ [.int .u64 2] (iv 2);refine pmbL_ fun Φ h=>?_;unfold cmbL_;have w8:IntKind.u8.wrap 2=2:=rfl
   repeat' (first|simp -implicitDefEqProofs only[go_sem,w8,aidx,yJ,yZ,yW,UInt8.reduceToNat,xB,wz]|refine ag_ (fun hb=>?_) (fun hb=>?_)|refine⟨fun hb=>?_,fun hb=>?_⟩|fail)
   exact h _ ⟨_,_,rfl,rfl,.refl _⟩
  | 3,_ =>
   refine⟨2,?_⟩;show P_ _ _ _ [.int .u64 3] (iv 2);refine pmbL_ fun Φ h=>?_;unfold cmbL_;have w8:IntKind.u8.wrap 3=3:=rfl
   repeat' (first|simp -implicitDefEqProofs only[go_sem,w8,aidx,yJ,yZ,yW,UInt8.reduceToNat,xB,wz]|refine ag_ (fun hb=>?_) (fun hb=>?_)|refine⟨fun hb=>?_,fun hb=>?_⟩|fail)
   exact h _ ⟨_,_,rfl,rfl,.refl _⟩
  | 4,_ =>
   refine⟨3,?_⟩;show P_ _ _ _ [.int .u64 4] (iv 3);refine pmbL_ fun Φ h=>?_;unfold cmbL_;have w8:IntKind.u8.wrap 4=4:=rfl
   repeat' (first|simp -implicitDefEqProofs only[go_sem,w8,aidx,yJ,yZ,yW,UInt8.reduceToNat,xB,wz]|refine ag_ (fun hb=>?_) (fun hb=>?_)|refine⟨fun hb=>?_,fun hb=>?_⟩|fail)
   exact h _ ⟨_,_,rfl,rfl,.refl _⟩
  | 5,_ =>
   refine⟨3,?_⟩;show P_ _ _ _ [.int .u64 5] (iv 3);refine pmbL_ fun Φ h=>?_;unfold cmbL_;have w8:IntKind.u8.wrap 5=5:=rfl
   repeat' (first|simp -implicitDefEqProofs only[go_sem,w8,aidx,yJ,yZ,yW,UInt8.reduceToNat,xB,wz]|refine ag_ (fun hb=>?_) (fun hb=>?_)|refine⟨fun hb=>?_,fun hb=>?_⟩|fail)
   exact h _ ⟨_,_,rfl,rfl,.refl _⟩
  | 6,_ =>
   refine⟨3,?_⟩;show P_ _ _ _ [.int .u64 6] (iv 3);refine pmbL_ fun Φ h=>?_;unfold cmbL_;have w8:IntKind.u8.wrap 6=6:=rfl
   repeat' (first|simp -implicitDefEqProofs only[go_sem,w8,aidx,yJ,yZ,yW,UInt8.reduceToNat,xB,wz]|refine ag_ (fun hb=>?_) (fun hb=>?_)|refine⟨fun hb=>?_,fun hb=>?_⟩|fail)
   exact h _ ⟨_,_,rfl,rfl,.refl _⟩
  | 7,_ =>
   refine⟨3,?_⟩;show P_ _ _ _ [.int .u64 7] (iv 3);refine pmbL_ fun Φ h=>?_;unfold cmbL_;have w8:IntKind.u8.wrap 7=7:=rfl
   repeat' (first|simp -implicitDefEqProofs only[go_sem,w8,aidx,yJ,yZ,yW,UInt8.reduceToNat,xB,wz]|refine ag_ (fun hb=>?_) (fun hb=>?_)|refine⟨fun hb=>?_,fun hb=>?_⟩|fail)
   exact h _ ⟨_,_,rfl,rfl,.refl _⟩
  | 8,_ =>
   refine⟨4,?_⟩;show P_ _ _ _ [.int .u64 8] (iv 4);refine pmbL_ fun Φ h=>?_;unfold cmbL_;have w8:IntKind.u8.wrap 8=8:=rfl
   repeat' (first|simp -implicitDefEqProofs only[go_sem,w8,aidx,yJ,yZ,yW,UInt8.reduceToNat,xB,wz]|refine ag_ (fun hb=>?_) (fun hb=>?_)|refine⟨fun hb=>?_,fun hb=>?_⟩|fail)
   exact h _ ⟨_,_,rfl,rfl,.refl _⟩
  | 9,_ =>
   refine⟨4,?_⟩;show P_ _ _ _ [.int .u64 9] (iv 4);refine pmbL_ fun Φ h=>?_;unfold cmbL_;have w8:IntKind.u8.wrap 9=9:=rfl
   repeat' (first|simp -implicitDefEqProofs only[go_sem,w8,aidx,yJ,yZ,yW,UInt8.reduceToNat,xB,wz]|refine ag_ (fun hb=>?_) (fun hb=>?_)|refine⟨fun hb=>?_,fun hb=>?_⟩|fail)
   exact h _ ⟨_,_,rfl,rfl,.refl _⟩
  | 10,_ =>
   refine⟨4,?_⟩;show P_ _ _ _ [.int .u64 10] (iv 4);refine pmbL_ fun Φ h=>?_;unfold cmbL_;have w8:IntKind.u8.wrap 10=10:=rfl
   repeat' (first|simp -implicitDefEqProofs only[go_sem,w8,aidx,yJ,yZ,yW,UInt8.reduceToNat,xB,wz]|refine ag_ (fun hb=>?_) (fun hb=>?_)|refine⟨fun hb=>?_,fun hb=>?_⟩|fail)
   exact h _ ⟨_,_,rfl,rfl,.refl _⟩
  | 11,_ =>
   refine⟨4,?_⟩;show P_ _ _ _ [.int .u64 11] (iv 4);refine pmbL_ fun Φ h=>?_;unfold cmbL_;have w8:IntKind.u8.wrap 11=11:=rfl
   repeat' (first|simp -implicitDefEqProofs only[go_sem,w8,aidx,yJ,yZ,yW,UInt8.reduceToNat,xB,wz]|refine ag_ (fun hb=>?_) (fun hb=>?_)|refine⟨fun hb=>?_,fun hb=>?_⟩|fail)
   exact h _ ⟨_,_,rfl,rfl,.refl _⟩
  | 12,_ =>
   refine⟨4,?_⟩;show P_ _ _ _ [.int .u64 12] (iv 4);refine pmbL_ fun Φ h=>?_;unfold cmbL_;have w8:IntKind.u8.wrap 12=12:=rfl
   repeat' (first|simp -implicitDefEqProofs only[go_sem,w8,aidx,yJ,yZ,yW,UInt8.reduceToNat,xB,wz]|refine ag_ (fun hb=>?_) (fun hb=>?_)|refine⟨fun hb=>?_,fun hb=>?_⟩|fail)
   exact h _ ⟨_,_,rfl,rfl,.refl _⟩
 obtain⟨b,hb⟩:=key;refine⟨b,?_⟩;refine pm11 fun Φ h=>?_;unfold cm10
 repeat' (first|simp -implicitDefEqProofs only[go_sem]|refine ag_ (fun hb=>?_) (fun hb=>?_)|refine⟨fun hb=>?_,fun hb=>?_⟩|refine ac_ hb rfl rfl ?_|fail)
 exact h _ ⟨_,_,rfl,rfl,.refl _⟩
def sw (l:List Nat) (j:Nat) (x y:Nat):List Nat:=(l.set (j+1) x).set j y
theorem sp12 {l:List Nat} {j x y:Nat} (hx:l[j]? =some x) (hy:l[j+1]? =some y):(sw l j x y).Perm l:=by obtain⟨h1,e1⟩:=zZ.1 hx;obtain⟨h2,e2⟩:=zZ.1 hy;subst e1 e2;exact List.set_set_perm h2 h1
def Ord (l:List Nat) (i j:Nat):Prop:=∀a b x y,a<b→b≤i→b≠j→l[a]? =some x→l[b]? =some y→x≤y
theorem Ord.swap {l:List Nat} {i j x y:Nat} (h:Ord l i (j+1)) (hj:j+1≤i) (hx:l[j]? =some x) (hy:l[j+1]? =some y) (hlt:y<x):Ord (sw l j x y) i j:=by
 intro a b u v hab hb hbj hu hv;obtain⟨h1,_⟩:=zZ.1 hx;obtain⟨h2,_⟩:=zZ.1 hy;unfold sw at hu hv;rw[xP,xP] at hu hv;simp only[sZ] at hu hv;by_cases e1:j+1=b
 ·subst e1;rw[zF (by omega),zG rfl,zG h2] at hv;cases hv;by_cases e2:j=a
  ·subst e2;rw[zG rfl,zG h1] at hu;cases hu;omega
  ·rw[zF e2,zF (by omega)] at hu;exact h a j u x (by omega) (by omega) (by omega) hu hx
 ·rw[zF (fun e=>hbj e.symm),zF e1] at hv;by_cases e2:j=a
  ·subst e2;rw[zG rfl,zG h1] at hu;cases hu;exact h (j+1) b _ v (by omega) hb (fun e=>e1 e.symm) hy hv
  ·rw[zF e2] at hu;by_cases e3:j+1=a
   ·subst e3;rw[zG rfl,zG h2] at hu;cases hu;exact h j b _ v (by omega) hb (fun e=>e1 e.symm) hx hv
   ·rw[zF e3] at hu;exact h a b u v hab hb (fun e=>e1 e.symm) hu hv
def Srt (l:List Nat) (i:Nat):Prop:=∀a b x y,a<b→b<i→l[a]? =some x→l[b]? =some y→x≤y
theorem Srt.start {l:List Nat} {i:Nat} (h:Srt l i):Ord l i i:=fun a b x y hab hb hbi hx hy=>h a b x y hab (by omega) hx hy
theorem Ord.done {l:List Nat} {i j:Nat} (h:Ord l i j) (hs:j=0∨∃k x y,j=k+1∧l[k]? =some x∧l[j]? =some y∧x≤y):Srt l (i+1):=by
 intro a b x y hab hb hx hy;by_cases e:b=j
 ·subst e;rcases hs with rfl | ⟨k,u,v,rfl,hu,hv,huv⟩
  ·omega
  ·rw[hy] at hv;cases hv;by_cases e2:a=k
   ·subst e2;rw[hx] at hu;cases hu;exact huv
   ·exact wB (h a k x u (by omega) (by omega) (by omega) hx hu) huv
 ·exact h a b x y hab (by omega) e hx hy
theorem Srt.pairwise {l:List Nat} (h:Srt l l.length):l.Pairwise (·≤·):=vW.2 fun i j hi hj hij=>h i j _ _ hij hj (zY hi) (zY hj)
theorem se13 {l r:List Nat} (hp:l.Perm r) (h1:l.Pairwise (·≤·)) (h2:r.Pairwise (·≤·)):l=r:=List.Perm.eq_of_pairwise (fun _ _ _ _ h k=>Nat.le_antisymm h k) h1 h2 hp
def rowN (l:List Nat) (n:Nat):List (Nat×Box):=[(1001,⟨true,ti_,1,(natI l).map iv⟩),(1002,⟨false,ttr_,1,[.agg [.arr 1001 0 n]]⟩)]
theorem na11 {l:List Nat} {i x:Nat} (h:l[i]? =some x):((natI l).map iv)[i]? =some (iv (x:Int)):=by simp [natI,h]
theorem nl_ (l:List Nat):(natI l).length=l.length:=by simp [natI]
theorem ns33 (l:List Nat) (i x:Nat):((natI l).map iv).set i (iv (x:Int))=(natI (l.set i x)).map iv:=by simp [natI,List.map_set]
theorem ih_ (l r:List Nat) (hl:l.length≤1000) (hp:l.Perm r) (hr:r.Pairwise (·≤·)):
  HQ G nsii_ [.arr 1001 0 l.length,iv 0,iv (l.length:Int)] (rowN l l.length) (.tup []) (rowN r l.length):=by
 refine hsii_ fun Φ h=>?_;unfold csii_;unfold rowN at*;generalize hn:l.length=n at*
 repeat' (first|simp -implicitDefEqProofs only[go_sem]|refine ag_ (fun hb=>?_) (fun hb=>?_)|refine⟨fun hb=>?_,fun hb=>?_⟩|fail)
 refine al_ (fun m st'=>∃(i:Nat) (c:List Nat),(i+m=n∨(m=0∧n≤i∧i≤1))∧c.Perm l∧Srt c i∧st'=⟨49,[(0,.arr 1001 0 n),(1,iv 0),(2,iv (n:Int)),(6,iv (i:Int))],[(1001,⟨true,ti_,1,(natI c).map iv⟩),(1002,⟨false,ttr_,1,[.agg [.arr 1001 0 n]]⟩)]⟩) (n - 1) ⟨1,l,by omega,.refl _,fun a b x y h1 h2=>by omega,rfl⟩ ?_;rintro I hI m st' ⟨i,c,hi,hc,hs,rfl⟩;have hcl:=hc.length_eq;by_cases hlt':i<n
 ·have hlt:decide ((i:Int)<(n:Int))=true:=by simpa using hlt'
  have hw:=ws_ hlt' (by omega)
  repeat' (first|simp -implicitDefEqProofs only[go_sem,hlt]|refine ag_ (fun hb=>?_) (fun hb=>?_)|refine⟨fun hb=>?_,fun hb=>?_⟩|fail)
  refine al_ (fun m' st'=>∃c':List Nat,c'.Perm l∧m'≤i∧Ord c' i m'∧st'=⟨49,[(0,.arr 1001 0 n),(1,iv 0),(2,iv (n:Int)),(6,iv (i:Int)),(7,iv (m':Int))],[(1001,⟨true,ti_,1,(natI c').map iv⟩),(1002,⟨false,ttr_,1,[.agg [.arr 1001 0 n]]⟩)]⟩) i ⟨c,hc,zE _,hs.start,rfl⟩ ?_;rintro J hJ j st' ⟨c',hc',hji,ho,rfl⟩;have hcl':=hc'.length_eq;cases j with
  | zero=>
   have hnx:=hI (m - 1) _ ⟨i+1,c',by omega,hc',ho.done (.inl rfl),rfl⟩;have hg:decide (((0:Nat):Int)>0)=false:=rfl;clear hI hJ h
   repeat' (first|simp -implicitDefEqProofs only[go_sem,hg,hw]|refine ag_ (fun hb=>?_) (fun hb=>?_)|refine⟨fun hb=>?_,fun hb=>?_⟩|fail)
   exact aa_ (m - 1) (by omega) hnx
  | succ j=>
   have hjn:j+1<n:=by omega
   have hj0:j<n:=by omega
   obtain⟨x,hx,_⟩:=as10 (l:=c') (i:=j) (by omega);obtain⟨y,hy,_⟩:=as10 (l:=c') (i:=j+1) (by omega);have hg:decide (((j+1:Nat):Int)>0)=true:=by simp
   have hwp:IntKind.i64.wrap (((j+1:Nat):Int) - 1)=(j:Int):=by rw[wi_ (by omega) (by omega)];omega
   have hl2:=lp_ (G:=G) (y:Int) (x:Int);by_cases hyx:y<x
   ·have hnx:=hJ j _ ⟨sw c' j x y,(sp12 hx hy).trans hc',by omega,ho.swap hji hx hy hyx,rfl⟩;rw[xM (show (y:Int)<(x:Int) by omega)] at hl2;clear hI hJ h;have z1:=na11 hx;have z2:=na11 hy;have z3:=ns33 c' (j+1) x;have z4:=ns33 (c'.set (j+1) x) j y;have z5:((natI (c'.set (j+1) x)).map iv)[j]? =some (iv (x:Int)):=na11 (by rw[xP,zF (by omega)];exact hx);unfold sw at hnx
    repeat' (first|simp -implicitDefEqProofs only[go_sem,hg,hwp,aa10 hjn,aa10 hj0,z1,z2,z3,z4,z5]|refine ag_ (fun hb=>?_) (fun hb=>?_)|refine⟨fun hb=>?_,fun hb=>?_⟩|refine ac_ hl2 rfl rfl ?_|fail)
    exact aa_ j (by omega) hnx
   ·have hnx:=hI (m - 1) _ ⟨i+1,c',by omega,hc',ho.done (.inr ⟨j,x,y,rfl,hx,hy,by omega⟩),rfl⟩;rw[wE (show ¬(y:Int)<(x:Int) by omega)] at hl2;clear hI hJ h;have z1:=na11 hx;have z2:=na11 hy
    repeat' (first|simp -implicitDefEqProofs only[go_sem,hg,hwp,aa10 hjn,aa10 hj0,z1,z2,hw]|refine ag_ (fun hb=>?_) (fun hb=>?_)|refine⟨fun hb=>?_,fun hb=>?_⟩|refine ac_ hl2 rfl rfl ?_|fail)
    exact aa_ (m - 1) (by omega) hnx
 ·have hlt:decide ((i:Int)<(n:Int))=false:=by simp;omega
  have hcr:c=r:=se13 (hc.trans hp) (Srt.pairwise fun a b x y h1 h2 h3 h4=>hs a b x y h1 (by omega) h3 h4) hr;subst hcr;clear hI
  repeat' (first|simp -implicitDefEqProofs only[go_sem,hlt]|refine ag_ (fun hb=>?_) (fun hb=>?_)|refine⟨fun hb=>?_,fun hb=>?_⟩|fail)
  exact h _ ⟨_,_,.refl _,rfl,.refl _,subH.at ⟨rfl,rfl,trivial⟩⟩
theorem ph_ (l r:List Nat) (hl:l.length≤12) (hp:l.Perm r) (hr:r.Pairwise (·≤·)) (b:Nat):
  HQ G nspi_ [.arr 1001 0 l.length,iv 0,iv (l.length:Int),iv (b:Int)] (rowN l l.length) (.tup []) (rowN r l.length):=by
 have hi:=ih_ (G:=G) l r (by omega) hp hr;have hwp:IntKind.i64.wrap (l.length:Int)=(l.length:Int):=wi_ (by omega) (by omega);have hle:decide ((l.length:Int)≤12)=true:=by simp;omega
 refine hspi_ fun Φ h=>?_;unfold cspi_;unfold rowN at*
 repeat' (first|simp -implicitDefEqProofs only[go_sem]|refine ag_ (fun hb=>?_) (fun hb=>?_)|refine⟨fun hb=>?_,fun hb=>?_⟩|fail)
 refine al_ (fun m st'=>st'=⟨134,[(0,.arr 1001 0 l.length),(1,iv 0),(2,iv (l.length:Int))],[(1001,⟨true,ti_,1,(natI l).map iv⟩),(1002,⟨false,ttr_,1,[.agg [.arr 1001 0 l.length]]⟩)]⟩) 0 rfl ?_;rintro I hI m st' rfl
 repeat' (first|simp -implicitDefEqProofs only[go_sem,hwp,hle,Int.sub_zero]|refine ag_ (fun hb=>?_) (fun hb=>?_)|refine⟨fun hb=>?_,fun hb=>?_⟩|(refine ac10 [(1001,1001),(1002,1002)] hi rfl ⟨⟨_,_,rfl,rfl,rfl⟩,⟨_,_,rfl,rfl,rfl⟩,trivial⟩ rfl rfl rfl ?_)|fail)
 exact h _ ⟨_,_,.refl _,rfl,.refl _,subH.at ⟨rfl,rfl,trivial⟩⟩
theorem sh10 (l r:List Nat) (hl:l.length≤12) (hp:l.Perm r) (hr:r.Pairwise (·≤·)):
  HQ G nsSii_ [.arr 1001 0 l.length] (rowN l l.length) (.tup []) (rowN r l.length):=by
 obtain⟨b,hb⟩:=lp10 (G:=G) l.length hl;have hi:=ph_ (G:=G) l r hl hp hr b;have hu:IntKind.u64.wrap (l.length:Int)=(l.length:Int):=wu_ (by omega);refine hsSii_ fun Φ h=>?_;unfold csSii_;unfold rowN at*
 repeat' (first|simp -implicitDefEqProofs only[go_sem,hu]|refine ag_ (fun hb=>?_) (fun hb=>?_)|refine⟨fun hb=>?_,fun hb=>?_⟩|refine ac_ hb rfl rfl ?_|(refine ac10 [(1001,1001),(1002,1002)] hi rfl ⟨⟨_,_,rfl,rfl,rfl⟩,⟨_,_,rfl,rfl,rfl⟩,trivial⟩ rfl rfl rfl ?_)|fail)
 exact h _ ⟨_,_,.refl _,rfl,.refl _,subH.at ⟨rfl,rfl,trivial⟩⟩
