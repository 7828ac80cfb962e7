/- Lemmas. -/
import Derived.Test.YtkgcnoghjibiaaaGreatDoorYTw5
set_option linter.unusedSimpArgs false
set_option maxHeartbeats 4000000
set_option maxRecDepth 100000
namespace Go.Proofs.YtkgcnoghjibiaaaGreatDoor.Ab
open Go Go.RowKit
variable {G:Nat->Option AV}
def T12 (x:TExT):Prop:=x.a=0∧x.b=0∧((x.op=1∧x.name=[]∧x.value.ok=true)∨(x.op=17∧x.value=v0∧n12 x.name=true))
theorem tly_ (hG:wg_ G) (x:TExT) (hx:T12 x):PQ G 255 [tExV x] (.bool true):=by
 obtain⟨k,a,b,n,v⟩:=x;have hv:=vRp_ (G:=G) v;have hn:=sNp_ (G:=G) hG n;refine ptl_ λΦ h=>?_;unfold ctl_;obtain⟨h1,h2,⟨h3,h4,h5⟩ | ⟨h3,h4,h5⟩⟩:=hx
 .simp only at h1 h2 h3 h4 h5;subst h1 h2 h3 h4;rw[h5] at hv;simp only[valV] at hv
  repeat' (first|(simp -implicitDefEqProofs only[go_sem,tExV,show (([]:List UInt8)==[])=true from rfl])|apply ai__<;>intro hb|refine ac_ hv rfl rfl ?_|fail)
  exact hq_ h
 .simp only at h1 h2 h3 h4 h5;subst h1 h2 h3 h4;rw[h5] at hn
  repeat' (first|(simp -implicitDefEqProofs only[go_sem,tExV,show (([]:List UInt8)==[])=true from rfl])|apply ai__<;>intro hb|refine ac_ hn rfl rfl ?_|fail)
  exact hq_ h
theorem tln_ (x:TExT) (h1:4<=x.op∧x.op<=16):PQ G 255 [tExV x] (.bool false):=by
 obtain⟨k,a,b,n,v⟩:=x;simp only at h1;have e1:(k==1)=false:=by simp;omega
 have e2:(k==17)=false:=by simp;omega
 refine ptl_ λΦ h=>?_;unfold ctl_
 repeat' (first|simp -implicitDefEqProofs only[go_sem,tExV,e1,e2]|apply ai__<;>intro hb)
 all_goals first | exact hq_ h | (exfalso;simp_all;done)
inductive SzNd (sz dp:Nat->Int) (j:Nat) (x:TExT):Prop where
 | lone (h:T12 x) (h1:sz j=1) (h2:dp j=1)
 | one (ho:x.op=4∨x.op=5) (hn:x.name=[]) (hv:x.value=v0) (hj:0<j) (ha:x.a=(j:Int) - 1) (hb:x.b=0) (h1:sz j=sz (j - 1)+1) (h2:dp j=dp (j - 1)+1)
 | two (ho:6<=x.op∧x.op<=16) (hn:x.name=[]) (hv:x.value=v0) (hj:0<j) (hb:x.b=(j:Int) - 1) (k:Nat) (ha:x.a=(k:Int)) (hk:(k:Int)=(j:Int) - 1 - sz (j - 1)) (h1:sz j=sz k+sz (j - 1)+1) (h2:dp j=max (dp k) (dp (j - 1))+1)
structure SzOk (l:List TExT) (sz dp:Nat->Int):Prop where
 bd:∀j,j<l.length->0<sz j∧sz j<=j+1∧0<=dp j∧dp j<=j+1
 nd:∀j x,l[j]?=some x->SzNd sz dp j x
def rowF (n:Nat) (f:Nat->Int) (i:Nat):List AV:=(List.range n).map λj=>if j<i then iv (f j) else iv 0
theorem rz_ (n:Nat) (f:Nat->Int):rowF n f 0=List.replicate n (iv 0):=by refine vW (by simp [rowF]) λi h1 h2=>?_;simp [rowF]
theorem ra12 (n:Nat) (f:Nat->Int):rowF n f n=(List.range n).map λj=>iv (f j):=by unfold rowF;refine uX λj hj=>?_;rw[zY (xF.1 hj)]
theorem ra10 {n:Nat} {f:Nat->Int} {i j:Nat} (h:j<i) (hn:j<n):(rowF n f i)[j]?=some (iv (f j)):=by simp [rowF,hn,h]
theorem rn11 {n:Nat} {f:Nat->Int} {i:Nat} (hn:i<n):(rowF n f i)[i]?=some (iv 0):=by simp [rowF,hn]
theorem rs20 {n:Nat} {f:Nat->Int} {i:Nat} (_hn:i<n):(rowF n f i).set i (iv (f i))=rowF n f (i+1):=by
 refine vW (by simp [rowF]) λj h1 h2=>?_;rw[List.getElem_set];split
 .rename_i e;subst e;simp [rowF]
 .rename_i e;simp only[rowF,uA,List.getElem_range];by_cases hj:j<i
  .rw[zY hj,zY (by omega)]
  .rw[zK hj,zK (by omega)]
theorem both {A B:Prop} (h:A) (e:A->B):A∧B:=⟨h,e h⟩
theorem ts12 (hG:wg_ G) (l:List TExT) (sz dp:Nat->Int) (hl:l.length<=1000) (ok:SzOk l sz dp):PQ G 198 [t30 l] (.tup [.seq 1 ((List.range l.length).map λj=>iv (sz j)),.seq 1 ((List.range l.length).map λj=>iv (dp j))]):=by
 refine pt10 λΦ h=>?_;unfold ct12;have hb:l.length*8<=140737488355328:=by omega
 rw[<-ra12,<-ra12] at h;simp -implicitDefEqProofs only[go_sem,t30,zQ,an13 hb];refine both ?_ (λh=>h);refine al_ (λn st=>∃i:Nat,i+n=l.length∧st=⟨151,[(2,.arr 9 0 l.length),(3,.arr 12 0 l.length),(13,.seq 10 (l.map tExV)),(14,iv l.length),(15,iv i)],[(2,⟨true,3,1,[]⟩),(3,⟨true,3,1,[]⟩),(9,⟨true,3,1,rowF l.length sz i⟩),(12,⟨true,3,1,rowF l.length dp i⟩)]⟩) l.length ⟨0,by simp,by simp only[rz_];rfl⟩ ?_;rintro I hI n st ⟨i,hi,rfl⟩;simp -implicitDefEqProofs only[go_sem];refine⟨λhlt=>?_,λhge=>?_⟩
 .have hlt':i<l.length:=by omega
  obtain⟨x,hx,hxm⟩:=as10 hlt';have hw:=ws_ hlt';have hnx:=hI (n - 1) _ ⟨i+1,by omega,rfl⟩;have s0:=rn11 (f:=sz) hlt';have d0:=rn11 (f:=dp) hlt';have s1:∀v,v=sz i->(rowF l.length sz i).set i (iv v)=rowF l.length sz (i+1):=λv hv=>by rw[hv];exact rs20 hlt'
  have d1:∀v,v=dp i->(rowF l.length dp i).set i (iv v)=rowF l.length dp (i+1):=λv hv=>by rw[hv];exact rs20 hlt'
  have bi:=ok.bd i hlt';cases ok.nd i x hx with
  | lone hl h1 h2=>
   have hc:=tly_ (G:=G) hG x hl;rw[<-s1 1 h1.symm,<-d1 1 h2.symm] at hnx;clear hI h s1 d1;generalize rowF l.length sz i=S at*;generalize rowF l.length dp i=D at*;obtain⟨k,a,b,nm,v⟩:=x;simp only[tExV] at hc
   repeat' (first|simp -implicitDefEqProofs only[go_sem,am_ hx,tExV,hw,aa10 hlt',s0,d0]|apply ai__<;>intro hb|refine ac_ hc rfl rfl ?_|fail)
   exact ae__ hnx
  | one ho hn hv hj ha hb h1 h2=>
   have hc:=tln_ (G:=G) x (by omega);obtain⟨j,rfl⟩:∃j,i=j+1:=⟨i - 1,by omega⟩;rw[Nat.add_sub_cancel] at h1 h2;have hjn:j<l.length:=by omega
   have bj:=ok.bd j hjn;have sj:=ra10 (f:=sz) (show j<j+1 by omega) hjn;have dj:=ra10 (f:=dp) (show j<j+1 by omega) hjn;rw[<-s1 _ h1.symm,<-d1 _ h2.symm] at hnx;clear hI h s1 d1;generalize rowF l.length sz (j+1)=S at*;generalize rowF l.length dp (j+1)=D at*;have hwj:IntKind.i64.wrap (((j+1:Nat):Int) - 1)=(j:Int):=by rw[wi_ (by omega) (by omega)];omega
   have w1:IntKind.i64.wrap (sz j+1)=sz j+1:=wi_ (by omega) (by omega);have w2:IntKind.i64.wrap (dp j+1)=dp j+1:=wi_ (by omega) (by omega);have z1:(((j+1:Nat):Int)==0)=false:=by simp;omega
   have z2:(sz j==0)=false:=by simp;omega
   have z3:((j:Int)==(j:Int))=true:=by simp
   obtain⟨k,a,b,nm,v⟩:=x;simp only at ho hn hv ha hb;have ha:a=(j:Int):=by omega
   subst ha hn hb hv;have k1:decide (k<4)=false:=by simp;omega
   have k2:decide (16<k)=false:=by simp;omega
   have k3:decide (k<=5)=true:=by simp;omega
   simp only[tExV] at hc;clear ho ok
   repeat' (first|(simp -implicitDefEqProofs only[go_sem,am_ hx,tExV,hw,aa10 hlt',aa10 hjn,s0,d0,sj,dj,hwj,w1,w2,z1,z2,z3,k1,k2,k3,show (([]:List UInt8) != [])=false from rfl])|apply ai__<;>intro hb|refine ac_ hc rfl rfl ?_|fail)
   exact ae__ hnx
  | two ho hn hv hj hb m ha hm h1 h2=>
   have hc:=tln_ (G:=G) x (by omega);obtain⟨j,rfl⟩:∃j,i=j+1:=⟨i - 1,by omega⟩;rw[Nat.add_sub_cancel] at h1 h2 hm;have hjn:j<l.length:=by omega
   have bj:=ok.bd j hjn;have hmn:m<l.length:=by omega
   have bm:=ok.bd m hmn;have sj:=ra10 (f:=sz) (show j<j+1 by omega) hjn;have dj:=ra10 (f:=dp) (show j<j+1 by omega) hjn;have sm:=ra10 (f:=sz) (show m<j+1 by omega) hmn;have dm:=ra10 (f:=dp) (show m<j+1 by omega) hmn;rw[<-s1 _ h1.symm,<-d1 _ h2.symm] at hnx;clear hI h s1 d1;generalize rowF l.length sz (j+1)=S at*;generalize rowF l.length dp (j+1)=D at*;have hwj:IntKind.i64.wrap (((j+1:Nat):Int) - 1)=(j:Int):=by rw[wi_ (by omega) (by omega)];omega
   have wm:IntKind.i64.wrap ((j:Int) - sz j)=(m:Int):=by rw[wi_ (by omega) (by omega)];omega
   have w1:IntKind.i64.wrap (sz m+sz j)=sz m+sz j:=wi_ (by omega) (by omega);have w3:IntKind.i64.wrap (sz m+sz j+1)=sz m+sz j+1:=wi_ (by omega) (by omega);have w2:IntKind.i64.wrap ((if dp j>dp m then dp j else dp m)+1)=max (dp m) (dp j)+1:=by rw[wi_ (by split <;> omega) (by split <;> omega)];split <;> omega
   have z1:(((j+1:Nat):Int)==0)=false:=by simp;omega
   have z2:(sz j==0)=false:=by simp;omega
   have z3:((j:Int)==(j:Int))=true:=by simp
   have z4:((m:Int)==(m:Int))=true:=by simp
   have z5:decide ((0:Int)<=(m:Int))=true:=by simp
   have z6:decide (0<sz m)=true:=by simp;omega
   obtain⟨k,a,b,nm,v⟩:=x;simp only at ho hn hv ha hb;have hb:b=(j:Int):=by omega
   subst ha hn hb hv;have k1:decide (k<4)=false:=by simp;omega
   have k2:decide (16<k)=false:=by simp;omega
   have k3:decide (k<=5)=false:=by simp;omega
   simp only[tExV] at hc;clear ho ok
   repeat' (first|(simp -implicitDefEqProofs only[go_sem,am_ hx,tExV,hw,aa10 hlt',aa10 hjn,aa10 hmn,s0,d0,sj,dj,sm,dm,hwj,wm,w1,w2,w3,z1,z2,z3,z4,z5,z6,k1,k2,k3,show (([]:List UInt8) != [])=false from rfl])|apply ai__<;>intro hb|refine ac_ hc rfl rfl ?_|fail)
   exact ae__ hnx
 .have:i=l.length:=by omega
  subst this
  repeat' (first|simp -implicitDefEqProofs only[go_sem]|apply ai__<;>intro hb)
  refine h _ ⟨_,.tup [.seq 1 (rowF l.length sz l.length),.seq 1 (rowF l.length dp l.length)],rfl,?_,.refl _⟩;have e:∀f,(rowF l.length f l.length).take l.length=rowF l.length f l.length:=λf=>zT (by simp [rowF]);have e2:∀f,(rowF l.length f l.length).length=l.length:=λf=>by simp [rowF]
  simp [one,view,view.go,hget,eget,e,e2]
def W_ (n:Nat) (sz dp:Nat->Int) (a root:Int):Prop:=∃i:Nat,root=(i:Int)∧i<n∧0<=a∧a<=(i:Int)∧sz i=(i:Int) - a+1∧dp i<=64
inductive SetsT (n:Nat) (sz dp:Nat->Int):Int->List TSetT->Int->Prop where
 | nil (a:Int):SetsT n sz dp a [] a
 | cons {a b:Int} {s:TSetT} {r:List TSetT} (hn:n12 s.name=true) (hw:W_ n sz dp a s.expr) (h:SetsT n sz dp (s.expr+1) r b):SetsT n sz dp a (s::r) b
def rowA (n:Nat) (f:Nat->Int):AV:=.seq 1 ((List.range n).map λj=>iv (f j))
def wAt (a:Int):Nat×Box:=(1001,⟨false,3,1,[iv a]⟩)
def wT (t:TTrT):Nat×Box:=(1002,⟨false,82,13,[tTrV t]⟩)
def wS (n:Nat) (f:Nat->Int):Nat×Box:=(1003,⟨false,40,1,[rowA n f]⟩)
def wD (n:Nat) (f:Nat->Int):Nat×Box:=(1004,⟨false,40,1,[rowA n f]⟩)
def wW:Nat×Box:=(1005,⟨false,202,1,[.fn 199 [.ref 1001 0 0,.ref 1002 0 0,.ref 1003 0 0,.ref 1004 0 0]]⟩)
def wI:Nat×Box:=(1006,⟨false,294,1,[.fn 201 [.ref 1005 0 0]]⟩)
theorem tt1h_ (t:TTrT) (sz dp:Nat->Int) (hn:t.nodes.length<=1000) (a root:Int) (h:W_ t.nodes.length sz dp a root):
  HQ G 199 [iv root,.ref 1001 0 0,.ref 1002 0 0,.ref 1003 0 0,.ref 1004 0 0] [wAt a,wT t,wS t.nodes.length sz,wD t.nodes.length dp] (.bool true) [wAt (root+1),wT t,wS t.nodes.length sz,wD t.nodes.length dp]:=by
 obtain⟨i,rfl,hi,h1,h2,h3,h4⟩:=h;refine htt1z λΦ h=>?_;unfold ctt1z;have e1:decide ((i:Int)<a)=false:=by simp;omega
 have e2:decide ((t.nodes.length:Int)<=(i:Int))=false:=by simp;omega
 have e3:decide (64<dp i)=false:=by simp;omega
 have e4:(sz i != sz i)=false:=by simp
 have w1:IntKind.i64.wrap ((i:Int) - a)=(i:Int) - a:=wi_ (by omega) (by omega);have w2:IntKind.i64.wrap ((i:Int) - a+1)=sz i:=by rw[wi_ (by omega) (by omega)];omega
 have w3:IntKind.i64.wrap ((i:Int)+1)=(i:Int)+1:=wi_ (by omega) (by omega);have hr:(List.range t.nodes.length)[i]?=some i:=xR hi;obtain⟨t1,t2,⟨t3,t4⟩,ns,t5,t6⟩:=t;simp only at hi hr e2 h hn;simp only[wAt,wT,wS,wD,rowA] at*
 repeat' (first|simp -implicitDefEqProofs only[go_sem,tTrV,t17,t30,t20,zQ,e1,e2,e3,e4,w1,w2,w3,am_ hr]|apply ai__<;>intro hb)
 exact h _ ⟨_,_,Weak.refl _,rfl,.refl _,subH.at ⟨rfl,rfl,rfl,rfl,trivial⟩⟩
theorem tt2h_ (hG:wg_ G) (t:TTrT) (sz dp:Nat->Int) (hn:t.nodes.length<=1000) (a:Int) (s:TSetT) (hs:n12 s.name=true) (hw:W_ t.nodes.length sz dp a s.expr):
  HQ G 201 [t43 s,.ref 1005 0 0] [wAt a,wT t,wS t.nodes.length sz,wD t.nodes.length dp,wW] (.bool true) [wAt (s.expr+1),wT t,wS t.nodes.length sz,wD t.nodes.length dp,wW]:=by
 have hc:=tt1h_ (G:=G) t sz dp hn a s.expr hw;have hnm:=tnp_ (G:=G) hG s.name hs;refine htt2z λΦ h=>?_;unfold ctt2z;generalize t.nodes.length=n at*;obtain⟨nm,x⟩:=s;simp only[wAt,wT,wS,wD,rowA,wW] at*
 repeat' (first|simp -implicitDefEqProofs only[go_sem,t43]|apply ai__<;>intro hb|refine ac_ hnm rfl rfl ?_|(refine⟨by kernel_rfl,ac10 [(1001,1001),(1002,1002),(1003,1003),(1004,1004)] hc rfl ⟨⟨_,_,rfl,rfl,rfl⟩,⟨_,_,rfl,rfl,rfl⟩,⟨_,_,rfl,rfl,rfl⟩,⟨_,_,rfl,rfl,rfl⟩,trivial⟩ rfl rfl rfl ?_⟩)|fail)
 exact h _ ⟨_,_,Weak.refl _,rfl,.refl _,subH.at ⟨rfl,rfl,rfl,rfl,rfl,trivial⟩⟩
theorem taS1h_ (hG:wg_ G) (t:TTrT) (sz dp:Nat->Int) (hn:t.nodes.length<=1000) (a:Int) (s:TSetT) (hs:n12 s.name=true) (hw:W_ t.nodes.length sz dp a s.expr):
  HQ G 257 [t43 s,.ref 1006 0 0] [wAt a,wT t,wS t.nodes.length sz,wD t.nodes.length dp,wW,wI] (.bool false) [wAt (s.expr+1),wT t,wS t.nodes.length sz,wD t.nodes.length dp,wW,wI]:=by
 have hc:=tt2h_ (G:=G) hG t sz dp hn a s hs hw;refine htaaT1z λΦ h=>?_;unfold ctaaT1z;generalize t.nodes.length=n at*;obtain⟨nm,x⟩:=s;simp only[wAt,wT,wS,wD,rowA,wW,wI,t43] at*
 repeat' (first|simp -implicitDefEqProofs only[go_sem]|apply ai__<;>intro hb|(refine⟨by kernel_rfl,ac10 [(1001,1001),(1002,1002),(1003,1003),(1004,1004),(1005,1005)] hc rfl ⟨⟨_,_,rfl,rfl,rfl⟩,⟨_,_,rfl,rfl,rfl⟩,⟨_,_,rfl,rfl,rfl⟩,⟨_,_,rfl,rfl,rfl⟩,⟨_,_,rfl,rfl,rfl⟩,trivial⟩ rfl rfl rfl ?_⟩)|fail)
 exact h _ ⟨_,_,Weak.refl _,rfl,.refl _,subH.at ⟨rfl,rfl,rfl,rfl,rfl,rfl,trivial⟩⟩
theorem ISh_ (hG:wg_ G) (t:TTrT) (sz dp:Nat->Int) (hn:t.nodes.length<=1000) (l:List TSetT) (hl:l.length<=1000) (a b:Int) (hs:SetsT t.nodes.length sz dp a l b):
  HQ G 278 [t20 l,.fn 257 [.ref 1006 0 0]] [wAt a,wT t,wS t.nodes.length sz,wD t.nodes.length dp,wW,wI] (iv (-1)) [wAt b,wT t,wS t.nodes.length sz,wD t.nodes.length dp,wW,wI]:=by
 have hc:=λa s (h1:n12 s.name=true) (h2:W_ t.nodes.length sz dp a s.expr)=>taS1h_ (G:=G) hG t sz dp hn a s h1 h2;refine hsIaTaT_ λΦ h=>?_;unfold csIaTaT_;generalize t.nodes.length=n at*;simp only[wAt,wT,wS,wD,rowA,wW,wI] at*;simp -implicitDefEqProofs only[go_sem,t20,zQ];refine al_ (λk st=>∃(i:Nat) (A:Int),i+k=l.length∧st=⟨19,[(0,.seq 4 (l.map t43)),(1,.fn 257 [.ref 1006 0 0]),(7,iv l.length),(8,iv i)],[wAt A,wT t,wS n sz,wD n dp,wW,wI]⟩∧SetsT n sz dp A (l.drop i) b) l.length ⟨0,a,by simp,rfl,hs⟩ ?_;rintro I hI k st ⟨i,A,hi,rfl,hA⟩;simp -implicitDefEqProofs only[go_sem,wAt,wT,wS,wD,rowA,wW,wI];refine⟨λhlt=>?_,λhge=>?_⟩
 .have hlt':i<l.length:=by omega
  obtain⟨s,hx,hxm⟩:=as10 hlt';have hw:=ws_ hlt';rw[da10 hx] at hA;cases hA with
  | cons h1 h2 h3=>
   have hc:=hc A s h1 h2;have hnx:=hI (k - 1) _ ⟨i+1,s.expr+1,by omega,rfl,h3⟩;simp only[wAt,wT,wS,wD,rowA,wW,wI] at hnx;obtain⟨nm,x⟩:=s;simp only[t43] at hc;clear hI h
   repeat' (first|simp -implicitDefEqProofs only[go_sem,am_ hx,t43,hw]|apply ai__<;>intro hb|(refine⟨by kernel_rfl,ac10 [(1001,1001),(1002,1002),(1003,1003),(1004,1004),(1005,1005),(1006,1006)] hc rfl ⟨⟨_,_,rfl,rfl,rfl⟩,⟨_,_,rfl,rfl,rfl⟩,⟨_,_,rfl,rfl,rfl⟩,⟨_,_,rfl,rfl,rfl⟩,⟨_,_,rfl,rfl,rfl⟩,⟨_,_,rfl,rfl,rfl⟩,trivial⟩ rfl rfl rfl ?_⟩)|fail)
   exact ae__ hnx
 .have:i=l.length:=by omega
  subst this;rw[uO] at hA;cases hA;exact h _ ⟨_,_,Weak.refl _,rfl,.refl _,subH.at ⟨rfl,rfl,rfl,rfl,rfl,rfl,trivial⟩⟩
theorem CSh_ (hG:wg_ G) (t:TTrT) (sz dp:Nat->Int) (hn:t.nodes.length<=1000) (l:List TSetT) (hl:l.length<=1000) (a b:Int) (hs:SetsT t.nodes.length sz dp a l b):
  HQ G 256 [t20 l,.fn 257 [.ref 1006 0 0]] [wAt a,wT t,wS t.nodes.length sz,wD t.nodes.length dp,wW,wI] (.bool false) [wAt b,wT t,wS t.nodes.length sz,wD t.nodes.length dp,wW,wI]:=by
 have hc:=ISh_ (G:=G) hG t sz dp hn l hl a b hs;refine hsCaTaT_ λΦ h=>?_;unfold csCaTaT_;generalize t.nodes.length=n at*;simp only[wAt,wT,wS,wD,rowA,wW,wI,t20] at*
 repeat' (first|(simp -implicitDefEqProofs only[go_sem,show decide ((0:Int)<=-1)=false from rfl])|apply ai__<;>intro hb|(refine ac10 [(1001,1001),(1002,1002),(1003,1003),(1004,1004),(1005,1005),(1006,1006)] hc rfl ⟨⟨_,_,rfl,rfl,rfl⟩,⟨_,_,rfl,rfl,rfl⟩,⟨_,_,rfl,rfl,rfl⟩,⟨_,_,rfl,rfl,rfl⟩,⟨_,_,rfl,rfl,rfl⟩,⟨_,_,rfl,rfl,rfl⟩,trivial⟩ rfl rfl rfl ?_)|fail)
 exact h _ ⟨_,_,Weak.refl _,rfl,.refl _,subH.at ⟨rfl,rfl,rfl,rfl,rfl,rfl,trivial⟩⟩
theorem taSh_ (hG:wg_ G) (t:TTrT) (sz dp:Nat->Int) (hn:t.nodes.length<=1000) (l:List TSetT) (hl:l.length<=1000) (a b:Int) (hs:SetsT t.nodes.length sz dp a l b):
  HQ G 200 [t20 l,.fn 201 [.ref 1005 0 0]] [wAt a,wT t,wS t.nodes.length sz,wD t.nodes.length dp,wW] (.bool true) [wAt b,wT t,wS t.nodes.length sz,wD t.nodes.length dp,wW]:=by
 have hc:=CSh_ (G:=G) hG t sz dp hn l hl a b hs;refine htaaT_ λΦ h=>?_;unfold ctaaT_;generalize t.nodes.length=n at*;simp only[wAt,wT,wS,wD,rowA,wW,wI,t20] at*
 repeat' (first|simp -implicitDefEqProofs only[go_sem]|apply ai__<;>intro hb|(refine ac10 [(1001,1001),(1002,1002),(1003,1003),(1004,1004),(1005,1005),(1006,3)] hc rfl ⟨⟨_,_,rfl,rfl,rfl⟩,⟨_,_,rfl,rfl,rfl⟩,⟨_,_,rfl,rfl,rfl⟩,⟨_,_,rfl,rfl,rfl⟩,⟨_,_,rfl,rfl,rfl⟩,⟨_,_,rfl,rfl,rfl⟩,trivial⟩ rfl rfl rfl ?_)|fail)
 exact h _ ⟨_,_,Weak.refl _,rfl,.refl _,subH.at ⟨rfl,rfl,rfl,rfl,rfl,trivial⟩⟩
structure TTrOk (t:TTrT):Prop where
 hf:n12 t.from_=true
 ht:n12 t.to_=true
 ho:T10 t.on
 hn:t.nodes.length<=1000
 hl:t.sets.length<=1000
 hz:∃sz dp,SzOk t.nodes sz dp∧(t.guard= -1∨W_ t.nodes.length sz dp 0 t.guard)∧SetsT t.nodes.length sz dp (if t.guard= -1 then 0 else t.guard+1) t.sets t.nodes.length
theorem ttp_ (hG:wg_ G) (t:TTrT) (h:TTrOk t):PQ G 109 [tTrV t] (.bool true):=by
 obtain⟨h1,h2,h3,h4,h5,sz,dp,h6,h7,h8⟩:=h;have c1:=tnp_ (G:=G) hG t.from_ h1;have c2:=tnp_ (G:=G) hG t.to_ h2;have c3:=tsp_ (G:=G) hG t.on h3;have c4:=ts12 (G:=G) hG t.nodes sz dp h4 h6;have c6:=taSh_ (G:=G) hG t sz dp h4 t.sets h5 _ _ h8;refine ptt_ λΦ h=>?_;unfold ctt_;have e1:(((t.nodes.length:Nat):Int)==(t.nodes.length:Int))=true:=by simp
 by_cases hg:t.guard= -1
 .have hg':(t.guard != -1)=false:=by simp [hg]
  rw[zY hg] at c6;obtain⟨t1,t2,⟨t3,t4⟩,ns,t5,t6⟩:=t;simp only[wAt,wT,wS,wD,rowA,wW,tTrV,t17,t30,t20,t28] at*
  repeat' (first|simp -implicitDefEqProofs only[go_sem,tTrV,t17,t30,t20,zQ,e1,hg']|apply ai__<;>intro hb|refine ac_ c1 rfl rfl ?_|refine ac_ c2 rfl rfl ?_|refine ac_ c3 rfl rfl ?_|refine ac_ c4 rfl rfl ?_|(refine ac10 [(1001,5),(1002,1),(1003,3),(1004,4),(1005,6)] c6 rfl ⟨⟨_,_,rfl,rfl,rfl⟩,⟨_,_,rfl,rfl,rfl⟩,⟨_,_,rfl,rfl,rfl⟩,⟨_,_,rfl,rfl,rfl⟩,⟨_,_,rfl,rfl,rfl⟩,trivial⟩ rfl rfl rfl ?_)|fail)
  exact hq_ h
 .have hg':(t.guard != -1)=true:=by simpa using hg
  have c5:=tt1h_ (G:=G) t sz dp h4 0 t.guard (h7.resolve_left hg);rw[zK hg] at c6;obtain⟨t1,t2,⟨t3,t4⟩,ns,t5,t6⟩:=t;simp only[wAt,wT,wS,wD,rowA,wW,tTrV,t17,t30,t20,t28] at*
  repeat' (first|simp -implicitDefEqProofs only[go_sem,tTrV,t17,t30,t20,zQ,e1,hg']|apply ai__<;>intro hb|refine ac_ c1 rfl rfl ?_|refine ac_ c2 rfl rfl ?_|refine ac_ c3 rfl rfl ?_|refine ac_ c4 rfl rfl ?_|(refine⟨by kernel_rfl,ac10 [(1001,5),(1002,1),(1003,3),(1004,4)] c5 rfl ⟨⟨_,_,rfl,rfl,rfl⟩,⟨_,_,rfl,rfl,rfl⟩,⟨_,_,rfl,rfl,rfl⟩,⟨_,_,rfl,rfl,rfl⟩,trivial⟩ rfl rfl rfl ?_⟩)|(refine ac10 [(1001,5),(1002,1),(1003,3),(1004,4),(1005,6)] c6 rfl ⟨⟨_,_,rfl,rfl,rfl⟩,⟨_,_,rfl,rfl,rfl⟩,⟨_,_,rfl,rfl,rfl⟩,⟨_,_,rfl,rfl,rfl⟩,⟨_,_,rfl,rfl,rfl⟩,trivial⟩ rfl rfl rfl ?_)|fail)
  exact hq_ h
structure TreeOk (t:TreeT):Prop where
 hn:n12 t.name=true
 hs:n12 t.start=true
 hl:t.decls.length<=1000∧t.quants.length<=1000∧t.frees.length<=1000∧t.states.length<=1000∧t.also.length<=1000∧t.trans.length<=1000
 hd:∀d∈t.decls,n12 d.name=true∧(∀k∈d.types,1<=k∧k<=3)∧d.types.length<=1000
 hq:∀x∈t.quants,n12 x.name=true∧1<=x.type∧x.type<=3
 hf:∀x∈t.frees,n12 x.name=true∧x.init.ok=true
 hx:∀x∈t.states,n12 x.name=true
 ha:∀x∈t.also,T10 x
 ht:∀x∈t.trans,TTrOk x
theorem tRp_ (hG:wg_ G) (t:TreeT) (ok:TreeOk t):PQ G 59 [t27 t] (.bool true):=by
 obtain⟨h1,h2,⟨l1,l2,l3,l4,l5,l6⟩,h3,h4,h5,h6,h7,h8⟩:=ok;have c1:=tnp_ (G:=G) hG t.name h1;have c2:=tnp_ (G:=G) hG t.start h2;have d1:=ta34 (G:=G) 96 [] (by kernel_rfl) on_ (λ_ =>true) t.decls (λx hx=>tR1p_ hG x (h3 x hx).1 (h3 x hx).2.1 (h3 x hx).2.2) (by omega);have d2:=ta31 (G:=G) 100 [] (by kernel_rfl) on_ (λ_ =>true) t.quants (λx hx=>tR2p_ hG x (h4 x hx).1 (h4 x hx).2) (by omega);have d3:=ta33 (G:=G) 102 [] (by kernel_rfl) on_ (λ_ =>true) t.frees (λx hx=>tR3p_ hG x (h5 x hx).1 (h5 x hx).2) (by omega);have d4:=ta30 (G:=G) 105 [] (by kernel_rfl) on_ (λ_ =>true) t.states (λx hx=>tR4p_ hG x (h6 x hx)) (by omega);have d5:=taaTp_ (G:=G) 107 [] (by kernel_rfl) on_ (λ_ =>true) t.also (λx hx=>tsp_ hG x (h7 x hx)) (by omega);have d6:=ta29 (G:=G) 109 [] (by kernel_rfl) on_ (λ_ =>true) t.trans (λx hx=>ttp_ hG x (h8 x hx)) (by omega);rw[at12] at d1 d2 d3 d4 d5 d6;refine ptR_ λΦ h=>?_;unfold ctR_
 repeat' (first|simp -implicitDefEqProofs only[go_sem,t27,t22,t13,t21,t16,t23,t33]|apply ai__<;>intro hb|refine ac_ c1 rfl rfl ?_|refine ac_ c2 rfl rfl ?_|refine ac_ d1 rfl rfl ?_|refine ac_ d2 rfl rfl ?_|refine ac_ d3 rfl rfl ?_|refine ac_ d4 rfl rfl ?_|refine ac_ d5 rfl rfl ?_|refine ac_ d6 rfl rfl ?_|fail)
 exact hq_ h
