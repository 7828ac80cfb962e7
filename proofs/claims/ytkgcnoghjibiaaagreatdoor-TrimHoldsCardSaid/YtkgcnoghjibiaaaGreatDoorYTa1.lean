/- Lemmas. -/
import Derived.Test.YtkgcnoghjibiaaaGreatDoorYTc9
set_option linter.unusedSimpArgs false
set_option maxHeartbeats 4000000
set_option maxRecDepth 100000
namespace Go.Proofs.YtkgcnoghjibiaaaGreatDoor.Ab
open Go Go.RowKit
variable {G:Nat->Option AV}
theorem ip_ (a:Int):PQ G 276 [iv a] (.bool false):=by refine pcii_ λΦ h=>?_;unfold ccii_;simp -implicitDefEqProofs only[go_sem];refine h _ ⟨_,_,rfl,rfl,fitB ?_⟩;simp
theorem wu_ {n:Nat} (h:n<18446744073709551616):IntKind.u64.wrap (n:Int)=n:=by have e1:(2:Int) ^ IntKind.u64.bits=18446744073709551616:=rfl;have e3:IntKind.u64.signed=false:=rfl;unfold IntKind.wrap;rw[e1,e3];simp;omega
theorem lp_ (a b:Int):PQ G 243 [iv a,iv b] (.bool (decide (a<b))):=by
 have c1:=ip_ (G:=G) a;have c2:=ip_ (G:=G) b;refine pcLi_ λΦ h=>?_;unfold ccLi_
 repeat' (first|simp -implicitDefEqProofs only[go_sem]|apply ai__<;>intro hb|refine ac_ c1 rfl rfl ?_|refine ac_ c2 rfl rfl ?_|fail)
 exact hq_ h
theorem wz:IntKind.i64.wrap 0=0∧IntKind.i64.wrap 1=1∧IntKind.i64.wrap 2=2∧IntKind.i64.wrap 3=3∧IntKind.i64.wrap 4=4:=by decide
theorem lp10 (n:Nat) (h:n<=12):∃b:Nat,PQ G 180 [.int .u64 (n:Int)] (iv (b:Int)):=by
 have key:∃b:Nat,PQ G 247 [.int .u64 (n:Int)] (iv (b:Int)):=by
  match n,h with
  | 0,_ =>
   refine⟨0,?_⟩;show P_ _ _ _ [.int .u64 0] (iv 0);refine pmbL_ λΦ h=>?_;unfold cmbL_;have w8:IntKind.u8.wrap 0=0:=rfl
   repeat' (first|simp -implicitDefEqProofs only[go_sem,w8,aidx,yW,yK,yF,UInt8.reduceToNat,xB,wz]|apply ai__<;>intro hb)
   exact hq_ h
  | 1,_ =>
   refine⟨1,?_⟩;show P_ _ _ _ [.int .u64 1] (iv 1);refine pmbL_ λΦ h=>?_;unfold cmbL_;have w8:IntKind.u8.wrap 1=1:=rfl
   repeat' (first|simp -implicitDefEqProofs only[go_sem,w8,aidx,yW,yK,yF,UInt8.reduceToNat,xB,wz]|apply ai__<;>intro hb)
   exact hq_ h
  | 2,_ =>
   refine⟨2,?_⟩;show P_ _ _ _ [.int .u64 2] (iv 2);refine pmbL_ λΦ h=>?_;unfold cmbL_;have w8:IntKind.u8.wrap 2=2:=rfl
   repeat' (first|simp -implicitDefEqProofs only[go_sem,w8,aidx,yW,yK,yF,UInt8.reduceToNat,xB,wz]|apply ai__<;>intro hb)
   exact hq_ h
  | 3,_ =>
   refine⟨2,?_⟩;show P_ _ _ _ [.int .u64 3] (iv 2);refine pmbL_ λΦ h=>?_;unfold cmbL_;have w8:IntKind.u8.wrap 3=3:=rfl
   repeat' (first|simp -implicitDefEqProofs only[go_sem,w8,aidx,yW,yK,yF,UInt8.reduceToNat,xB,wz]|apply ai__<;>intro hb)
   exact hq_ h
  | 4,_ =>
   refine⟨3,?_⟩;show P_ _ _ _ [.int .u64 4] (iv 3);refine pmbL_ λΦ h=>?_;unfold cmbL_;have w8:IntKind.u8.wrap 4=4:=rfl
   repeat' (first|simp -implicitDefEqProofs only[go_sem,w8,aidx,yW,yK,yF,UInt8.reduceToNat,xB,wz]|apply ai__<;>intro hb)
   exact hq_ h
  | 5,_ =>
   refine⟨3,?_⟩;show P_ _ _ _ [.int .u64 5] (iv 3);refine pmbL_ λΦ h=>?_;unfold cmbL_;have w8:IntKind.u8.wrap 5=5:=rfl
   repeat' (first|simp -implicitDefEqProofs only[go_sem,w8,aidx,yW,yK,yF,UInt8.reduceToNat,xB,wz]|apply ai__<;>intro hb)
   exact hq_ h
  | 6,_ =>
   refine⟨3,?_⟩;show P_ _ _ _ [.int .u64 6] (iv 3);refine pmbL_ λΦ h=>?_;unfold cmbL_;have w8:IntKind.u8.wrap 6=6:=rfl
   repeat' (first|simp -implicitDefEqProofs only[go_sem,w8,aidx,yW,yK,yF,UInt8.reduceToNat,xB,wz]|apply ai__<;>intro hb)
   exact hq_ h
  | 7,_ =>
   refine⟨3,?_⟩;show P_ _ _ _ [.int .u64 7] (iv 3);refine pmbL_ λΦ h=>?_;unfold cmbL_;have w8:IntKind.u8.wrap 7=7:=rfl
   repeat' (first|simp -implicitDefEqProofs only[go_sem,w8,aidx,yW,yK,yF,UInt8.reduceToNat,xB,wz]|apply ai__<;>intro hb)
   exact hq_ h
  | 8,_ =>
   refine⟨4,?_⟩;show P_ _ _ _ [.int .u64 8] (iv 4);refine pmbL_ λΦ h=>?_;unfold cmbL_;have w8:IntKind.u8.wrap 8=8:=rfl
   repeat' (first|simp -implicitDefEqProofs only[go_sem,w8,aidx,yW,yK,yF,UInt8.reduceToNat,xB,wz]|apply ai__<;>intro hb)
   exact hq_ h
  | 9,_ =>
   refine⟨4,?_⟩;show P_ _ _ _ [.int .u64 9] (iv 4);refine pmbL_ λΦ h=>?_;unfold cmbL_;have w8:IntKind.u8.wrap 9=9:=rfl
   repeat' (first|simp -implicitDefEqProofs only[go_sem,w8,aidx,yW,yK,yF,UInt8.reduceToNat,xB,wz]|apply ai__<;>intro hb)
   exact hq_ h
  | 10,_ =>
   refine⟨4,?_⟩;show P_ _ _ _ [.int .u64 10] (iv 4);refine pmbL_ λΦ h=>?_;unfold cmbL_;have w8:IntKind.u8.wrap 10=10:=rfl
   repeat' (first|simp -implicitDefEqProofs only[go_sem,w8,aidx,yW,yK,yF,UInt8.reduceToNat,xB,wz]|apply ai__<;>intro hb)
   exact hq_ h
  | 11,_ =>
   refine⟨4,?_⟩;show P_ _ _ _ [.int .u64 11] (iv 4);refine pmbL_ λΦ h=>?_;unfold cmbL_;have w8:IntKind.u8.wrap 11=11:=rfl
   repeat' (first|simp -implicitDefEqProofs only[go_sem,w8,aidx,yW,yK,yF,UInt8.reduceToNat,xB,wz]|apply ai__<;>intro hb)
   exact hq_ h
  | 12,_ =>
   refine⟨4,?_⟩;show P_ _ _ _ [.int .u64 12] (iv 4);refine pmbL_ λΦ h=>?_;unfold cmbL_;have w8:IntKind.u8.wrap 12=12:=rfl
   repeat' (first|simp -implicitDefEqProofs only[go_sem,w8,aidx,yW,yK,yF,UInt8.reduceToNat,xB,wz]|apply ai__<;>intro hb)
   exact hq_ h
 obtain⟨b,hb⟩:=key;refine⟨b,?_⟩;refine pm12 λΦ h=>?_;unfold cm10
 repeat' (first|simp -implicitDefEqProofs only[go_sem]|apply ai__<;>intro hb|refine ac_ hb rfl rfl ?_|fail)
 exact hq_ h
def sw (l:List Nat) (j:Nat) (x y:Nat):List Nat:=(l.set (j+1) x).set j y
theorem sp12 {l:List Nat} {j x y:Nat} (hx:l[j]?=some x) (hy:l[j+1]?=some y):(sw l j x y).Perm l:=by obtain⟨h1,e1⟩:=zX.1 hx;obtain⟨h2,e2⟩:=zX.1 hy;subst e1 e2;exact List.set_set_perm h2 h1
def Ord (l:List Nat) (i j:Nat):Prop:=∀a b x y,a<b->b<=i->b≠j->l[a]?=some x->l[b]?=some y->x<=y
theorem Ord.swap {l:List Nat} {i j x y:Nat} (h:Ord l i (j+1)) (hj:j+1<=i) (hx:l[j]?=some x) (hy:l[j+1]?=some y) (hlt:y<x):Ord (sw l j x y) i j:=by
 intro a b u v hab hb hbj hu hv;obtain⟨h1,_⟩:=zX.1 hx;obtain⟨h2,_⟩:=zX.1 hy;unfold sw at hu hv;rw[xP,xP] at hu hv;simp only[tI] at hu hv;by_cases e1:j+1=b
 .subst e1;rw[zK (by omega),zY rfl,zY h2] at hv;cases hv;by_cases e2:j=a
  .subst e2;rw[zY rfl,zY h1] at hu;cases hu;omega
  .rw[zK e2,zK (by omega)] at hu;exact h a j u x (by omega) (by omega) (by omega) hu hx
 .rw[zK (λe=>hbj e.symm),zK e1] at hv;by_cases e2:j=a
  .subst e2;rw[zY rfl,zY h1] at hu;cases hu;exact h (j+1) b _ v (by omega) hb (λe=>e1 e.symm) hy hv
  .rw[zK e2] at hu;by_cases e3:j+1=a
   .subst e3;rw[zY rfl,zY h2] at hu;cases hu;exact h j b _ v (by omega) hb (λe=>e1 e.symm) hx hv
   .rw[zK e3] at hu;exact h a b u v hab hb (λe=>e1 e.symm) hu hv
def Srt (l:List Nat) (i:Nat):Prop:=∀a b x y,a<b->b<i->l[a]?=some x->l[b]?=some y->x<=y
theorem Srt.start {l:List Nat} {i:Nat} (h:Srt l i):Ord l i i:=λa b x y hab hb hbi hx hy=>h a b x y hab (by omega) hx hy
theorem Ord.done {l:List Nat} {i j:Nat} (h:Ord l i j) (hs:j=0∨∃k x y,j=k+1∧l[k]?=some x∧l[j]?=some y∧x<=y):Srt l (i+1):=by
 intro a b x y hab hb hx hy;by_cases e:b=j
 .subst e;rcases hs with rfl | ⟨k,u,v,rfl,hu,hv,huv⟩
  .omega
  .rw[hy] at hv;cases hv;by_cases e2:a=k
   .subst e2;rw[hx] at hu;cases hu;exact huv
   .exact vY (h a k x u (by omega) (by omega) (by omega) hx hu) huv
 .exact h a b x y hab (by omega) e hx hy
theorem Srt.pairwise {l:List Nat} (h:Srt l l.length):l.Pairwise (·<=·):=wO.2 λi j hi hj hij=>h i j _ _ hij hj (zU hi) (zU hj)
theorem se13 {l r:List Nat} (hp:l.Perm r) (h1:l.Pairwise (·<=·)) (h2:r.Pairwise (·<=·)):l=r:=List.Perm.eq_of_pairwise (λ_ _ _ _ h k=>Nat.le_antisymm h k) h1 h2 hp
def rowN (l:List Nat) (n:Nat):List (Nat×Box):=[(1001,⟨true,3,1,(natI l).map iv⟩),(1002,⟨false,138,1,[.agg [.arr 1001 0 n]]⟩)]
theorem na11 {l:List Nat} {i x:Nat} (h:l[i]?=some x):((natI l).map iv)[i]?=some (iv (x:Int)):=by simp [natI,h]
theorem nl_ (l:List Nat):(natI l).length=l.length:=by simp [natI]
theorem ns33 (l:List Nat) (i x:Nat):((natI l).map iv).set i (iv (x:Int))=(natI (l.set i x)).map iv:=by simp [natI,List.map_set]
theorem ih_ (l r:List Nat) (hl:l.length<=1000) (hp:l.Perm r) (hr:r.Pairwise (·<=·)):
  HQ G 237 [.arr 1001 0 l.length,iv 0,iv (l.length:Int)] (rowN l l.length) (.tup []) (rowN r l.length):=by
 refine hsii_ λΦ h=>?_;unfold csii_;unfold rowN at*;generalize hn:l.length=n at*
 repeat' (first|simp -implicitDefEqProofs only[go_sem]|apply ai__<;>intro hb)
 refine al_ (λm st'=>∃(i:Nat) (c:List Nat),(i+m=n∨(m=0∧n<=i∧i<=1))∧c.Perm l∧Srt c i∧st'=⟨49,[(0,.arr 1001 0 n),(1,iv 0),(2,iv (n:Int)),(6,iv (i:Int))],[(1001,⟨true,3,1,(natI c).map iv⟩),(1002,⟨false,138,1,[.agg [.arr 1001 0 n]]⟩)]⟩) (n - 1) ⟨1,l,by omega,.refl _,λa b x y h1 h2=>by omega,rfl⟩ ?_;rintro I hI m st' ⟨i,c,hi,hc,hs,rfl⟩;have hcl:=hc.length_eq;by_cases hlt':i<n
 .have hlt:decide ((i:Int)<(n:Int))=true:=by simpa using hlt'
  have hw:=ws_ hlt'
  repeat' (first|simp -implicitDefEqProofs only[go_sem,hlt]|apply ai__<;>intro hb)
  refine al_ (λm' st'=>∃c':List Nat,c'.Perm l∧m'<=i∧Ord c' i m'∧st'=⟨49,[(0,.arr 1001 0 n),(1,iv 0),(2,iv (n:Int)),(6,iv (i:Int)),(7,iv (m':Int))],[(1001,⟨true,3,1,(natI c').map iv⟩),(1002,⟨false,138,1,[.agg [.arr 1001 0 n]]⟩)]⟩) i ⟨c,hc,zN _,hs.start,rfl⟩ ?_;rintro J hJ j st' ⟨c',hc',hji,ho,rfl⟩;have hcl':=hc'.length_eq;cases j with
  | zero=>
   have hnx:=hI (m - 1) _ ⟨i+1,c',by omega,hc',ho.done (.inl rfl),rfl⟩;have hg:decide (((0:Nat):Int)>0)=false:=rfl;clear hI hJ h
   repeat' (first|simp -implicitDefEqProofs only[go_sem,hg,hw]|apply ai__<;>intro hb)
   exact ae__ hnx
  | succ j=>
   have hjn:j+1<n:=by omega
   have hj0:j<n:=by omega
   obtain⟨x,hx,_⟩:=as10 (l:=c') (i:=j) (by omega);obtain⟨y,hy,_⟩:=as10 (l:=c') (i:=j+1) (by omega);have hg:decide (((j+1:Nat):Int)>0)=true:=by simp
   have hwp:IntKind.i64.wrap (((j+1:Nat):Int) - 1)=(j:Int):=by rw[wi_ (by omega) (by omega)];omega
   have hl2:=lp_ (G:=G) (y:Int) (x:Int);by_cases hyx:y<x
   .have hnx:=hJ j _ ⟨sw c' j x y,(sp12 hx hy).trans hc',by omega,ho.swap hji hx hy hyx,rfl⟩;rw[wQ (show (y:Int)<(x:Int) by omega)] at hl2;clear hI hJ h;have z1:=na11 hx;have z2:=na11 hy;have z3:=ns33 c' (j+1) x;have z4:=ns33 (c'.set (j+1) x) j y;have z5:((natI (c'.set (j+1) x)).map iv)[j]?=some (iv (x:Int)):=na11 (by rw[xP,zK (by omega)];exact hx);unfold sw at hnx
    repeat' (first|simp -implicitDefEqProofs only[go_sem,hg,hwp,aa10 hjn,aa10 hj0,z1,z2,z3,z4,z5]|apply ai__<;>intro hb|refine ac_ hl2 rfl rfl ?_|fail)
    exact aa_ j (by omega) hnx
   .have hnx:=hI (m - 1) _ ⟨i+1,c',by omega,hc',ho.done (.inr ⟨j,x,y,rfl,hx,hy,by omega⟩),rfl⟩;rw[wA (show ¬(y:Int)<(x:Int) by omega)] at hl2;clear hI hJ h;have z1:=na11 hx;have z2:=na11 hy
    repeat' (first|simp -implicitDefEqProofs only[go_sem,hg,hwp,aa10 hjn,aa10 hj0,z1,z2,hw]|apply ai__<;>intro hb|refine ac_ hl2 rfl rfl ?_|fail)
    exact ae__ hnx
 .have hlt:decide ((i:Int)<(n:Int))=false:=by simp;omega
  have hcr:c=r:=se13 (hc.trans hp) (Srt.pairwise λa b x y h1 h2 h3 h4=>hs a b x y h1 (by omega) h3 h4) hr;subst hcr;clear hI
  repeat' (first|simp -implicitDefEqProofs only[go_sem,hlt]|apply ai__<;>intro hb)
  exact h _ ⟨_,_,.refl _,rfl,.refl _,subH.at ⟨rfl,rfl,trivial⟩⟩
theorem ph_ (l r:List Nat) (hl:l.length<=12) (hp:l.Perm r) (hr:r.Pairwise (·<=·)) (b:Nat):
  HQ G 179 [.arr 1001 0 l.length,iv 0,iv (l.length:Int),iv (b:Int)] (rowN l l.length) (.tup []) (rowN r l.length):=by
 have hi:=ih_ (G:=G) l r (by omega) hp hr;have hwp:IntKind.i64.wrap (l.length:Int)=(l.length:Int):=wi_ (by omega) (by omega);have hle:decide ((l.length:Int)<=12)=true:=by simp;omega
 refine hspi_ λΦ h=>?_;unfold cspi_;unfold rowN at*
 repeat' (first|simp -implicitDefEqProofs only[go_sem]|apply ai__<;>intro hb)
 refine al_ (λm st'=>st'=⟨134,[(0,.arr 1001 0 l.length),(1,iv 0),(2,iv (l.length:Int))],[(1001,⟨true,3,1,(natI l).map iv⟩),(1002,⟨false,138,1,[.agg [.arr 1001 0 l.length]]⟩)]⟩) 0 rfl ?_;rintro I hI m st' rfl
 repeat' (first|simp -implicitDefEqProofs only[go_sem,hwp,hle,Int.sub_zero]|apply ai__<;>intro hb|(refine ac10 [(1001,1001),(1002,1002)] hi rfl ⟨⟨_,_,rfl,rfl,rfl⟩,⟨_,_,rfl,rfl,rfl⟩,trivial⟩ rfl rfl rfl ?_)|fail)
 exact h _ ⟨_,_,.refl _,rfl,.refl _,subH.at ⟨rfl,rfl,trivial⟩⟩
theorem sh10 (l r:List Nat) (hl:l.length<=12) (hp:l.Perm r) (hr:r.Pairwise (·<=·)):
  HQ G 91 [.arr 1001 0 l.length] (rowN l l.length) (.tup []) (rowN r l.length):=by
 obtain⟨b,hb⟩:=lp10 (G:=G) l.length hl;have hi:=ph_ (G:=G) l r hl hp hr b;have hu:IntKind.u64.wrap (l.length:Int)=(l.length:Int):=wu_ (by omega);refine hsSii_ λΦ h=>?_;unfold csSii_;unfold rowN at*
 repeat' (first|simp -implicitDefEqProofs only[go_sem,hu]|apply ai__<;>intro hb|refine ac_ hb rfl rfl ?_|(refine ac10 [(1001,1001),(1002,1002)] hi rfl ⟨⟨_,_,rfl,rfl,rfl⟩,⟨_,_,rfl,rfl,rfl⟩,trivial⟩ rfl rfl rfl ?_)|fail)
 exact h _ ⟨_,_,.refl _,rfl,.refl _,subH.at ⟨rfl,rfl,trivial⟩⟩
def mkTo (out:List Bool) (t:TransT):List Bool:=if out[t.from_.toNat]?=some true then out.set t.to_.toNat true else out
def mkR (l:List TransT) (out:List Bool):List Bool:=l.foldl mkTo out
def mkN (l:List TransT):Nat->List Bool->List Bool
 | 0,out=>out
 | k+1,out=>mkN l k (mkR l out)
def toM (l:List TransT) (n:Nat) (s:Int):List Bool:=mkN l n ((List.replicate n false).set s.toNat true)
def T_ (l:List TransT) (n:Nat):Prop:=∀t∈l,(0<=t.from_∧t.from_<n)∧0<=t.to_∧t.to_<n
inductive Rch (E:List (Nat×Nat)) (s:Nat):Nat->Prop where
 | refl:Rch E s s
 | step {a b:Nat} (h:Rch E s a) (e:(a,b)∈E):Rch E s b
def mark (m:List Bool) (e:Nat×Nat):List Bool:=if m[e.1]?=some true then m.set e.2 true else m
def r18 (E:List (Nat×Nat)) (m:List Bool):List Bool:=E.foldl mark m
def r17 (E:List (Nat×Nat)):Nat->List Bool->List Bool
 | 0,m=>m
 | k+1,m=>r17 E k (r18 E m)
def Le (m k:List Bool):Prop:=m.length=k.length∧∀i:Nat,m[i]?=some true->k[i]?=some true
theorem Le.refl (m:List Bool):Le m m:=⟨rfl,λ_ h=>h⟩
theorem Le.trans {a b c:List Bool} (h:Le a b) (k:Le b c):Le a c:=⟨h.1.trans k.1,λi e=>k.2 i (h.2 i e)⟩
theorem ml12 (m:List Bool) (e:Nat×Nat):Le m (mark m e):=by
 unfold mark;split
 .refine⟨by simp,λi h=>?_⟩;rw[xP];split
  .rename_i e2;subst e2;have:=(zX.1 h).1;rw[zY this]
  .exact h
 .exact Le.refl m
theorem rl12:∀(E:List (Nat×Nat)) (m:List Bool),Le m (r18 E m)
 | [],m=>Le.refl m
 | e::E,m=>(ml12 m e).trans (rl12 E (mark m e))
theorem rl11 (E:List (Nat×Nat)):∀(k:Nat) (m:List Bool),Le m (r17 E k m)
 | 0,m=>Le.refl m
 | k+1,m=>(rl12 E m).trans (rl11 E k _)
def C10 (E:List (Nat×Nat)) (m:List Bool):Prop:=∀a b,(a,b)∈E->m[a]?=some true->b<m.length->m[b]?=some true
theorem rc11:∀{E:List (Nat×Nat)} {m:List Bool},Le (r18 E m) m->C10 E m
 | [],m,_ =>λa b h=>by cases h
 | e::E,m,h=>by
  have h1:Le (mark m e) m:=(rl12 E (mark m e)).trans h;have h2:Le (r18 E m) m:=by
   have e2:mark m e=m:=by
    refine vM λi=>?_;cases hm:m[i]? with
    | none=>
     have:m.length<=i:=vQ.1 hm;exact vQ.2 (by have:=h1.1;omega)
    | some b=>
     have hlt:=(zX.1 hm).1;have hlt2:i<(mark m e).length:=by have:=h1.1;omega
     cases b with
     | true=>exact (ml12 m e).2 i hm
     | false=>
      rw[zU hlt2];cases hb:(mark m e)[i] with
      | false=>rfl
      | true=>
       have:=h1.2 i (by rw[zU hlt2,hb]);rw[hm] at this;cases this
   have:r18 (e::E) m=r18 E m:=by show r18 E (mark m e)=_;rw[e2]
   rw[<-this];exact h
  intro a b hab ha hb;rcases yV.1 hab with rfl | hab
  .have:(mark m (a,b))[b]?=some true:=by
    unfold mark;rw[zY ha,xP,zY rfl,zY hb]
   exact h1.2 b this
  .exact rc11 h2 a b hab ha hb
def cnt (m:List Bool):Nat:=m.count true
theorem cl_:∀{m k:List Bool},Le m k->cnt m<=cnt k∧(cnt m=cnt k->Le k m)
 | [],[],_ =>⟨zN _,λ_ =>Le.refl _⟩
 | [],_ ::_,h=>by have:=h.1;simp at this
 | _ ::_,[],h=>by have:=h.1;simp at this
 | a::m,b::k,h=>by
  have hl:m.length=k.length:=by have:=h.1;simpa using this
  have ht:Le m k:=⟨hl,λi e=>by have:=h.2 (i+1) (by simpa using e);simpa using this⟩;obtain⟨i1,i2⟩:=cl_ ht;have h0:=h.2 0;simp only[yK,zZ] at h0;unfold cnt at*;simp only[uG];cases a <;> cases b
  .refine⟨by simpa using i1,λe=>?_⟩;have:=i2 (by simpa using e);refine⟨by simp [hl],λi hi=>?_⟩;cases i with
   | zero=>simp at hi
   | succ i=>simp at hi ⊢;exact this.2 i hi
  .refine⟨by simp;omega,λe=>?_⟩;simp at e;omega
  .exact absurd (h0 rfl) (by decide)
  .refine⟨by simpa using i1,λe=>?_⟩;have:=i2 (by simpa using e);refine⟨by simp [hl],λi hi=>?_⟩;cases i with
   | zero=>rfl
   | succ i=>simp at hi ⊢;exact this.2 i hi
theorem cr10 {E:List (Nat×Nat)} {m:List Bool} (h:C10 E m):r18 E m=m:=by
 have key:∀(F:List (Nat×Nat)),(∀e∈F,e∈E)->r18 F m=m:=by
  intro F
  induction F with
  | nil=>intro _;rfl
  | cons e F ih=>
   intro hF;have e1:mark m e=m:=by
    unfold mark;split
    .rename_i ha;by_cases hb:e.2<m.length
     .have:=h e.1 e.2 (hF e zD) ha hb;refine vM λi=>?_;rw[xP];split
      .rename_i e2;subst e2
       first | exact this.symm | rw[zY hb,this]
      .rfl
     .exact List.set_eq_of_length_le (by omega)
    .rfl
   show r18 F (mark m e)=m;rw[e1];exact ih λx hx=>hF x (zR _ hx)
 exact key E λ_ h=>h
theorem cr_ {E:List (Nat×Nat)} {m:List Bool} (h:C10 E m):∀k,r17 E k m=m
 | 0=>rfl
 | k+1=>by show r17 E k (r18 E m)=m;rw[cr10 h];exact cr_ h k
theorem rg_ (E:List (Nat×Nat)):∀(k:Nat) (m:List Bool),C10 E (r17 E k m)∨cnt m+k<=cnt (r17 E k m)
 | 0,m=>.inr (zN _)
 | k+1,m=>by
  by_cases h:Le (r18 E m) m
  .left;have hc:=rc11 h;rw[cr_ hc];exact hc
  .obtain⟨h1,h2⟩:=cl_ (rl12 E m);have h3:cnt m+1<=cnt (r18 E m):=by
    rcases vD (cnt m) (cnt (r18 E m)) with h4 | h4
    .exact h4
    .exact absurd (h2 (by omega)) h
   rcases rg_ E k (r18 E m) with h4 | h4
   .exact .inl h4
   .exact .inr (by show cnt m+(k+1)<=cnt (r17 E k (r18 E m));omega)
def m15 (E:List (Nat×Nat)) (n s:Nat):List Bool:=r17 E n ((List.replicate n false).set s true)
theorem ms12 {E:List (Nat×Nat)} {s:Nat} {m:List Bool} {e:Nat×Nat} (he:e∈E) (h:∀i,m[i]?=some true->Rch E s i):∀i,(mark m e)[i]?=some true->Rch E s i:=by
 intro i hi;unfold mark at hi;split at hi
 .rename_i ha;rw[xP] at hi;split at hi
  .rename_i e2;subst e2;exact .step (h _ ha) he
  .exact h i hi
 .exact h i hi
theorem rs16 {E:List (Nat×Nat)} {s:Nat}:∀(F:List (Nat×Nat)),(∀e∈F,e∈E)->∀(m:List Bool),(∀i,m[i]?=some true->Rch E s i)->∀i,(r18 F m)[i]?=some true->Rch E s i
 | [],_,_,h=>h
 | e::F,hF,m,h=>rs16 F (λx hx=>hF x (zR _ hx)) (mark m e) (ms12 (hF e zD) h)
theorem rs14 {E:List (Nat×Nat)} {s:Nat}:∀(k:Nat) (m:List Bool),(∀i,m[i]?=some true->Rch E s i)->∀i,(r17 E k m)[i]?=some true->Rch E s i
 | 0,_,h=>h
 | k+1,m,h=>rs14 k (r18 E m) (rs16 E (λ_ h=>h) m h)
theorem ml_ (E:List (Nat×Nat)) (n s:Nat):(m15 E n s).length=n:=by have:=(rl11 E n ((List.replicate n false).set s true)).1;unfold m15;rw[<-this];simp
theorem mi10 {E:List (Nat×Nat)} {n s:Nat} (hs:s<n) (hE:∀e∈E,e.2<n) (i:Nat):(m15 E n s)[i]?=some true↔Rch E s i:=by
 have h0:((List.replicate n false).set s true)[s]?=some true:=by rw[xP,zY rfl,zY (by simpa using hs)]
 constructor
 .refine rs14 n _ (λi h=>?_) i;rw[xP] at h;split at h
  .rename_i e;subst e;exact .refl
  .rw[uJ] at h;split at h
   .cases h
   .cases h
 .have hc:C10 E (m15 E n s):=by
   rcases rg_ E n ((List.replicate n false).set s true) with h | h
   .exact h
   .exfalso;have h1:cnt (r17 E n ((List.replicate n false).set s true))<=n:=by
     have:=List.count_le_length (a:=true) (l:=m15 E n s);rw[ml_] at this;exact this
    have h2:0<cnt ((List.replicate n false).set s true):=List.count_pos_iff.2 (zG h0);omega
  intro h
  induction h with
  | refl=>exact (rl11 E n _).2 s h0
  | step h e ih=>exact hc _ _ e ih (by rw[ml_];exact hE _ e)
def more (a:Nat) (l:List Nat) (e:Nat×Nat):List Nat:=if e.1=a∧e.2∉l then l++[e.2] else l
def m12 (E:List (Nat×Nat)) (a:Nat) (l:List Nat):List Nat:=E.foldl (more a) l
def grow (E:List (Nat×Nat)):Nat->Nat->List Nat->List Nat
 | 0,_,l=>l
 | k+1,i,l=>match l[i]? with | some a=>grow E k (i+1) (m12 E a l) | none=>l
theorem mi11 {E:List (Nat×Nat)} {s n a:Nat} {l:List Nat} {e:Nat×Nat} (he:e∈E) (hE:∀e∈E,e.2<n) (ha:Rch E s a) (hn:l.Nodup) (hl:∀x∈l,Rch E s x∧x<n):
  (more a l e).Nodup∧(∀x∈more a l e,Rch E s x∧x<n)∧(∃r,more a l e=l++r)∧(e.1=a->e.2∈more a l e):=by
 unfold more;split
 .rename_i h;refine⟨?_,λx hx=>?_,⟨[e.2],rfl⟩,λ_ =>by simp⟩
  .rw[xD];exact⟨hn,by simp,λx hx y hy=>by rw[yZ.1 hy];exact λe2=>h.2 (e2 ▸ hx)⟩
  .rcases yB.1 hx with hx | hx
   .exact hl x hx
   .rw[yZ.1 hx];obtain⟨b,c⟩:=e;obtain⟨rfl,_⟩:=h;exact⟨.step ha he,hE _ he⟩
 .rename_i h;refine⟨hn,hl,⟨[],by simp⟩,λe1=>?_⟩;by_cases h2:e.2∈l
  .exact h2
  .exact absurd ⟨e1,h2⟩ h
theorem mi_ {E:List (Nat×Nat)} {s n a:Nat} (hE:∀e∈E,e.2<n) (ha:Rch E s a):∀(F:List (Nat×Nat)),(∀e∈F,e∈E)->∀{l:List Nat},l.Nodup->(∀x∈l,Rch E s x∧x<n)->
  (F.foldl (more a) l).Nodup∧(∀x∈F.foldl (more a) l,Rch E s x∧x<n)∧(∃r,F.foldl (more a) l=l++r)∧∀b,(a,b)∈F->b∈F.foldl (more a) l
 | [],_,l,hn,hl=>⟨hn,hl,⟨[],by simp⟩,λb h=>by cases h⟩
 | e::F,hF,l,hn,hl=>by
  obtain⟨h1,h2,⟨r,h3⟩,h4⟩:=mi11 (hF e zD) hE ha hn hl;obtain⟨g1,g2,⟨r2,g3⟩,g4⟩:=mi_ hE ha F (λx hx=>hF x (zR _ hx)) h1 h2;refine⟨g1,g2,⟨r++r2,?_⟩,λb hb=>?_⟩
  .show F.foldl (more a) (more a l e)=_;rw[g3,h3,xL]
  .show b∈F.foldl (more a) (more a l e);rcases yV.1 hb with rfl | hb
   .rw[g3];exact uS _ (h4 rfl)
   .exact g4 b hb
theorem ns_:∀{n:Nat} {l:List Nat},l.Nodup->(∀x∈l,x<n)->l.length<=n
 | 0,[],_,_ =>zN _
 | 0,x::l,_,h=>absurd (h x zD) (by omega)
 | n+1,l,hn,h=>by
  have h1:(l.filter (·≠n)).length<=n:=ns_ (hn.filter _) λx hx=>by obtain⟨h1,h2⟩:=yP.1 hx;have:=h x h1;simp at h2;omega
  have h2:l.length<=(l.filter (·≠n)).length+1:=by
   have hc:l.count n<=1:=List.nodup_iff_count.1 hn n;have:=List.length_eq_countP_add_countP (λx=>decide (x≠n)) (l:=l);rw[List.countP_eq_length_filter] at this;have e:(l.countP λx=>decide ¬(decide (x≠n))=true)=l.count n:=by unfold List.count;congr 1;funext x;by_cases hx:x=n <;> simp [hx]
   omega
  omega
theorem gi_ {E:List (Nat×Nat)} {s n:Nat} (hE:∀e∈E,e.2<n):∀(k i:Nat) {l:List Nat},l.Nodup->(∀x∈l,Rch E s x∧x<n)->s∈l->(∀j a,j<i->l[j]?=some a->∀b,(a,b)∈E->b∈l)->n<i+k->
  (grow E k i l).Nodup∧(∀x,x∈grow E k i l↔Rch E s x)∧(∀x∈grow E k i l,x<n)
 | k,i,l,hn,hl,hs,hc,hk=>by
  have stop:l.length<=i->l.Nodup∧(∀x,x∈l↔Rch E s x)∧∀x∈l,x<n:=λhi=>by
   refine⟨hn,λx=>⟨λh=>(hl x h).1,λh=>?_⟩,λx h=>(hl x h).2⟩
   induction h with
   | refl=>exact hs
   | step h e ih=>
    obtain⟨j,hj⟩:=zM ih;have:=(zX.1 hj).1;exact hc j _ (by omega) hj _ e
  have hlen:=ns_ hn λx h=>(hl x h).2
  match k with
  | 0=>exact stop (by omega)
  | k+1=>
   unfold grow;split
   .rename_i a ha;have hm:=zG ha;obtain⟨h1,h2,⟨r,h3⟩,h4⟩:=mi_ hE (hl a hm).1 E (λ_ h=>h) hn hl;have h3':m12 E a l=l++r:=h3;refine gi_ hE k (i+1) h1 h2 (by show s∈m12 E a l;rw[h3'];exact uS _ hs) (λj x hj hx b hb=>?_) (by omega);have hil:=(zX.1 ha).1;have hx':l[j]?=some x:=by
     have hx:(m12 E a l)[j]?=some x:=hx;rw[h3',xJ (by omega)] at hx;exact hx
    rcases vD j i with h5 | h5
    .have:=hc j x h5 hx' b hb;show b∈m12 E a l;rw[h3'];exact uS _ this
    .obtain rfl:j=i:=by omega
     rw[ha] at hx';cases hx';exact h4 b hb
   .rename_i ha;exact stop (vQ.1 ha)
def edge (t:TransT):Nat×Nat:=(t.from_.toNat,t.to_.toNat)
def e20 (q:QeaT):List (Nat×Nat):=q.trans.map edge
theorem mr10:∀(l:List TransT) (m:List Bool),mkR l m=r18 (l.map edge) m
 | [],_ =>rfl
 | t::l,m=>mr10 l (mkTo m t)
theorem mr_ (l:List TransT):∀(k:Nat) (m:List Bool),mkN l k m=r17 (l.map edge) k m
 | 0,_ =>rfl
 | k+1,m=>by show mkN l k (mkR l m)=r17 (l.map edge) k (r18 (l.map edge) m);rw[mr10,mr_]
theorem tm11 (q:QeaT) (n s:Nat):toM q.trans n (s:Int)=m15 (e20 q) n s:=by show mkN q.trans n _ =_;rw[mr_,zP];rfl
def m_ (q:QeaT):List Bool:=toM q.trans q.states.length q.start
def r15 (q:QeaT):List Nat:=(List.range q.states.length).filter λi=>(m_ q)[i]? ==some true
theorem rm10 {q:QeaT} {i:Nat}:i∈r15 q↔i<q.states.length∧(m_ q)[i]?=some true:=by unfold r15;rw[yP,xF];simp
theorem hp11 (l:List Nat) (s:Int) (hl:l.length<=10000):PQ G 90 [.agg [.seq 1 ((natI l).map iv)],iv s] (.bool ((natI l).any λx=>s==x)):=by
 have hc:=sCiip_ (G:=G) (natI l) s (by simp [natI];omega);refine ptrh_ λΦ h=>?_;unfold ctrh_
 repeat' (first|simp -implicitDefEqProofs only[go_sem]|apply ai__<;>intro hb|refine ac_ hc rfl rfl ?_|fail)
 exact hq_ h
def h9 (q:QeaT) (l:List Nat):List (Nat×Box):=[(1,⟨false,30,9,[qeaV q]⟩),(2,⟨false,138,1,[.agg [.nils]]⟩),(9,⟨true,3,1,(natI l).map iv⟩),(3,⟨false,138,1,[.agg [.arr 9 0 l.length]]⟩)]
theorem fp14 (q:QeaT) (s:Nat) (hs:q.start=(s:Int)) (hn:q.states.length<=12) (hsl:s<q.states.length) (hto:T_ q.trans q.states.length) (htl:q.trans.length<=1000):
  PQ G 50 [qeaV q] (.agg [.seq 1 ((natI (r15 q)).map iv)]):=by
 have hE:∀e∈e20 q,e.2<q.states.length:=λe he=>by obtain⟨t,ht,rfl⟩:=zI.1 he;have:=hto t ht;show t.to_.toNat<_;omega
 have hgr:=gi_ (s:=s) hE (q.states.length+1) 0 (l:=[s]) (by simp) (λx hx=>by simp at hx;subst hx;exact⟨.refl,hsl⟩) (by simp) (λj a h=>by omega) (by omega);have hfin:∀l,l=grow (e20 q) (q.states.length+1) 0 [s]->l.Perm (r15 q)∧(r15 q).Pairwise (·<=·)∧l.length<=12:=λl hl=>by
  subst hl;obtain⟨g1,g2,g3⟩:=hgr;have hm:m_ q=m15 (e20 q) q.states.length s:=by unfold m_;rw[hs];exact tm11 q _ s
  refine⟨?_,?_,vY (ns_ g1 g3) hn⟩
  .refine (List.perm_ext_iff_of_nodup g1 (tT List.filter_sublist List.nodup_range)).2 λx=>?_;refine Iff.trans ?_ rm10.symm;rw[g2 x,hm];constructor
   .intro h;exact⟨g3 x ((g2 x).2 h),(mi10 hsl hE x).2 h⟩
   .intro h;exact (mi10 hsl hE x).1 h.2
  .exact tT List.filter_sublist (List.pairwise_lt_range.imp λh=>Nat.le_of_lt h)
 refine ptf_ λΦ h=>?_;unfold ctf_;have hv:=hfin _ rfl;generalize hvv:grow (e20 q) (q.states.length+1) 0 [s]=v at*;clear hfin hgr;obtain⟨v1,v2,v3⟩:=hv;have hsort:=sh10 (G:=G) v (r15 q) v3 v1 v2;have hrl:(r15 q).length=v.length:=v1.length_eq.symm;have hQ:qeaV q=qeaV q:=rfl;unfold rowN at hsort;generalize r15 q=RL at*;have hn1:[iv q.start]=(natI [s]).map iv:=by rw[hs];rfl
 repeat' (first|simp -implicitDefEqProofs only[go_sem,qeaV,d_,q_,f_,s_,s10,n_,t_]|apply ai__<;>intro hb)
 refine al_ (λm st=>∃(i:Nat) (l:List Nat) (H:List (Nat×Box)),H=h9 q l∧grow (e20 q) m i l=v∧q.states.length<i+m∧l.Nodup∧(∀x∈l,Rch (e20 q) s x∧x<q.states.length)∧st=⟨52,[(1,.ref 1 0 0),(2,.ref 2 0 0),(3,.ref 3 0 0),(4,iv (i:Int))],H⟩) (q.states.length+1) ⟨0,[s],_,rfl,hvv,by omega,by simp,λx hx=>by simp at hx;subst hx;exact⟨.refl,hsl⟩,by rw[h9,<-hn1];rfl⟩ ?_;rintro I hI m st ⟨i,l,H,hr,hg,him,hnd,hmem,rfl⟩;have hll:=ns_ hnd λx hx=>(hmem x hx).2;by_cases hlt':i<l.length
 .have hlt:decide ((i:Int)<(l.length:Int))=true:=by simpa using hlt'
  have hw:=ws_ hlt';obtain⟨m,rfl⟩:∃m',m=m'+1:=⟨m - 1,by omega⟩;obtain⟨a,ha,ham⟩:=as10 hlt';have hma:=mi_ hE (hmem a ham).1 (e20 q) (λ_ h=>h) hnd hmem;have hg2:grow (e20 q) m (i+1) (m12 (e20 q) a l)=v:=by rw[<-hg,grow];simp only[ha]
  have hout:∀H,H=h9 q (m12 (e20 q) a l)->I m ⟨52,[(1,.ref 1 0 0),(2,.ref 2 0 0),(3,.ref 3 0 0),(4,iv ((i+1:Nat):Int))],H⟩:=λH hr=>hI m _ ⟨i+1,_,H,hr,hg2,by omega,hma.1,hma.2.1,rfl⟩;clear hI h hsort;have hfold:(q.trans.drop 0).foldl (λl t=>more a l (edge t)) l=m12 (e20 q) a l:=by unfold m12 e20;rw[List.foldl_map];rfl
  subst hr
  all_goals
   repeat' (first|simp -implicitDefEqProofs only[go_sem,h9,qeaV,d_,q_,f_,s_,s10,n_,t_,zQ,hlt]|apply ai__<;>intro hb)
   refine al_ (λn' st=>∃(j:Nat) (l2:List Nat) (H:List (Nat×Box)),H=h9 q l2∧j+n'=q.trans.length∧(q.trans.drop j).foldl (λl t=>more a l (edge t)) l2=m12 (e20 q) a l∧l2[i]?=some a∧l2.length<=l.length+j∧st=⟨52,[(1,.ref 1 0 0),(2,.ref 2 0 0),(3,.ref 3 0 0),(4,iv (i:Int)),(19,.seq 5 (q.trans.map t11)),(20,iv (q.trans.length:Int)),(21,iv (j:Int))],H⟩) q.trans.length ⟨0,l,_,rfl,by simp,hfold,ha,by omega,rfl⟩ ?_;rintro J hJ n' st ⟨j,l2,H,hr,hj,hf,ha2,hl2,rfl⟩;by_cases hlj:j<q.trans.length
   .obtain⟨t,ht,htm⟩:=as10 hlj;have hwj:=ws_ hlj;have hltj:decide ((j:Int)<(q.trans.length:Int))=true:=by simpa using hlj
    rw[da10 ht,zO] at hf;obtain⟨⟨f0,f1⟩,g0,g1⟩:=hto t htm;have hst:more a l2 (edge t)=if t.from_.toNat=a∧t.to_.toNat∉l2 then l2++[t.to_.toNat] else l2:=rfl;have hla:((natI l2).map iv)[i]?=some (iv (a:Int)):=na11 ha2;have hil2:i<l2.length:=(zX.1 ha2).1;have tk:((natI l2).map iv).take l2.length=(natI l2).map iv:=by rw[<-nl_];exact t25 _ _
    have hnl:=nl_ l2;have hb1:(l2.length+1)*8<=140737488355328:=by omega
    obtain⟨tf,ts,tt,tg,tsets⟩:=t;dsimp only at f0 f1 g0 g1 hst;obtain⟨f,rfl⟩:=zA f0;obtain⟨u,rfl⟩:=zA g0;rw[zP,zP] at hst;have hc:=hp11 (G:=G) l2 (u:Int) (by omega);rw[na13] at hc;by_cases hfa:f=a
    .have hfd:((f:Int)==(a:Int))=true:=by simp [hfa]
     by_cases hu:u∈l2
     .rw[zK (λh=>h.2 hu)] at hst;rw[hst] at hf;rw[wQ hu] at hc;have hnx:=hJ (n' - 1) _ ⟨j+1,l2,H,hr,by omega,hf,ha2,by omega,rfl⟩;clear hJ hout;subst hr
      all_goals
       unfold h9 at hnx
       repeat' (first|simp -implicitDefEqProofs only[go_sem,h9,qeaV,d_,q_,f_,s_,s10,n_,t_,zQ,hltj,am_ ht,t11,s18,aa10 hil2,hla,hfd,hwj]|apply ai__<;>intro hb|(refine ac_ hc (by simp [v10,flat,flat.go,viewBs,viewB,viewK,viewK.go,hget,t25,tk,hnl]) rfl ?_)|fail)
       exact aa_ (n' - 1) (by omega) hnx
     .rw[zY ⟨hfa,hu⟩] at hst;rw[hst] at hf;rw[wA hu] at hc;have hnx:=hJ (n' - 1) _ ⟨j+1,l2++[u],_,rfl,by omega,hf,by rw[xJ hil2];exact ha2,by simp;omega,rfl⟩;have hap:(natI (l2++[u])).map iv=(natI l2).map iv++[iv (u:Int)]:=by simp [natI]
      unfold h9 at hnx;rw[hap,show (l2++[u]).length=l2.length+1 by simp] at hnx;clear hJ hout;subst hr
      repeat' (first|simp -implicitDefEqProofs only[go_sem,h9,qeaV,d_,q_,f_,s_,s10,n_,t_,zQ,hltj,am_ ht,t11,s18,aa10 hil2,hla,hfd,hwj,hb1,tk,hnl]|apply ai__<;>intro hb|(refine ac_ hc (by simp [v10,flat,flat.go,viewBs,viewB,viewK,viewK.go,hget,t25,tk,hnl]) rfl ?_)|fail)
      exact aa_ (n' - 1) (by omega) hnx
    .have hfd:((f:Int)==(a:Int))=false:=by simp;omega
     rw[zK (λh=>hfa h.1)] at hst;rw[hst] at hf;have hnx:=hJ (n' - 1) _ ⟨j+1,l2,H,hr,by omega,hf,ha2,by omega,rfl⟩;clear hJ hout;subst hr
     all_goals
      unfold h9 at hnx
      repeat' (first|simp -implicitDefEqProofs only[go_sem,h9,qeaV,d_,q_,f_,s_,s10,n_,t_,zQ,hltj,am_ ht,t11,s18,aa10 hil2,hla,hfd,hwj]|apply ai__<;>intro hb)
      exact aa_ (n' - 1) (by omega) hnx
   .have hltj:decide ((j:Int)<(q.trans.length:Int))=false:=by simp;omega
    rw[yL (by omega),uZ] at hf;subst hf;have hnx:=hout H hr;clear hJ hout;subst hr
    all_goals
     unfold h9 at hnx
     repeat' (first|simp -implicitDefEqProofs only[go_sem,h9,qeaV,d_,q_,f_,s_,s10,n_,t_,zQ,hltj,hw]|apply ai__<;>intro hb)
     exact aa_ m (by omega) hnx
 .have hlt:decide ((i:Int)<(l.length:Int))=false:=by simp;omega
  have hlv:l=v:=by
   rw[<-hg];cases m with
   | zero=>rfl
   | succ m=>rw[grow,wR (by omega)]
  subst hlv;clear hI;subst hr
  repeat' (first|simp -implicitDefEqProofs only[go_sem,h9,qeaV,d_,q_,f_,s_,s10,n_,t_,zQ,hlt]|apply ai__<;>intro hb|(refine ac10 [(1001,9),(1002,3)] hsort rfl ⟨⟨_,_,rfl,rfl,rfl⟩,⟨_,_,rfl,rfl,rfl⟩,trivial⟩ rfl rfl rfl ?_)|fail)
  have tkr:((natI RL).map iv).take l.length=(natI RL).map iv:=by rw[<-hrl,<-nl_];exact t25 _ _
  have hnr:(natI RL).length=l.length:=by rw[nl_,hrl]
  refine h _ ⟨_,.agg [.seq 1 ((natI RL).map iv)],rfl,?_,.refl _⟩;simp [one,view,view.go,AV.cells,viewK,viewK.go,viewB,viewBs,hget,t25,tkr,hnr]
