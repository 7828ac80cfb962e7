/- Lemmas. -/
import Derived.Test.YtkgcnoghjibiaaaGreatDoorYTc7
set_option linter.unusedSimpArgs false
set_option maxHeartbeats 4000000
set_option maxRecDepth 100000
namespace Go.Proofs.YtkgcnoghjibiaaaGreatDoor.Ab
open Go Go.RowKit
variable {G:Nat->Option AV}
def Fd_ (nm:Str) (n:Nat) (R:List AV) (E:Ents):List (Nat×Box):=[(1001,⟨false,154,12,[.agg [.str nm,.arr 1002 0 n,.nils,.nils,.nils,iv 0,.nils,.nils,.nils,.mapv 1009,.mapv 1010,.mapv 1011]]⟩),(1002,⟨true,42,2,R⟩),(1009,mapB E),(1010,⟨true,1,0,[]⟩),(1011,⟨true,1,0,[]⟩)]
theorem fdh_ (nm:Str) (k:Nat) (R:List AV) (E:Ents) (s:Str) (v:Int) (n most:Int) (hn:n<most) (hs:s∉k13 E):HQ G 206 [.mapv 1009,.agg [.str s,iv 0,iv 0],iv v,iv n,iv most] (Fd_ nm k R E) .nili (Fd_ nm k R (E++[(s,iv v)])):=by
 have hm:=me_ s E 0;rw[fn_ hs] at hm;refine hcfi_ λΦ h=>?_;unfold ccfi_;have e1:decide (most<=n)=false:=by simp;omega
 have e2:e13 (E++[(s,iv v)])=e13 E++[.tup [.str s,iv v]]:=by simp [e13]
 simp only[Fd_,mapB,e2] at*;generalize e13 E=E' at*
 repeat' (first|simp -implicitDefEqProofs only[go_sem,e1,hm,n11]|apply ai__<;>intro hb)
 exact h _ ⟨_,_,Weak.refl _,rfl,.refl _,subH.at ⟨rfl,rfl,rfl,rfl,rfl,trivial⟩⟩
def Hd_ (nm:Str) (l:List DeclT):List (Nat×Box):=[(1001,⟨false,154,12,[.agg [.str nm,.arr 1002 0 l.length,.nils,.nils,.nils,iv 0,.nils,.nils,.nils,.mapv 1009,.mapv 1010,.mapv 1011]]⟩),(1002,⟨true,42,2,l.map d12⟩),(1009,mapB (numE (λi:Nat=>iv (i:Int)) (l.map (·.name)) 0)),(1010,⟨true,1,0,[]⟩),(1011,⟨true,1,0,[]⟩)]
theorem cdh_ (nm:Str) (l:List DeclT) (x:DeclT) (hl:l.length<32) (hx:x.types.length<=8) (hn:x.name∉l.map (·.name)):HQ G 116 [.ref 1001 0 0,t32 x] (Hd_ nm l) .nili (Hd_ nm (l++[x])):=by
 have hk:x.name∉k13 (numE (λi:Nat=>iv (i:Int)) (l.map (·.name)) 0):=by rw[nk_];exact hn
 have hf:=fdh_ (G:=G) nm l.length (l.map d12) (numE (λi:Nat=>iv (i:Int)) (l.map (·.name)) 0) x.name l.length l.length 32 (by omega) hk;have hes:numE (λi:Nat=>iv (i:Int)) ((l++[x]).map (·.name)) 0=numE (λi:Nat=>iv (i:Int)) (l.map (·.name)) 0++[(x.name,iv (l.length:Int))]:=by rw[zE,yJ,yU,na10,yS,zQ]
 have hb1:(l.length+1)*40<=140737488355328:=by omega
 have hcl:=cip_ (G:=G) x.types (by omega);have e8:decide (8<(x.types.length:Int))=false:=by simp;omega
 refine hccd_ λΦ h=>?_;unfold cccd_;unfold Hd_ at*;unfold Fd_ at hf;rw[hes] at h;simp only[zE,yJ,yU,zL,yH,xY,yS] at h;generalize numE (λi:Nat=>iv (i:Int)) (l.map (·.name)) 0=E at*;clear hes hk;obtain⟨x1,x2⟩:=x;simp only[n11,mapB,t32,i11,d12] at*
 repeat' (first|simp -implicitDefEqProofs only[go_sem,t32,i11,d12,hb1,zQ,mapB,n11,e8]|apply ai__<;>intro hb|(refine ach_ [(1001,1001),(1002,1002),(1009,1009),(1010,1010),(1011,1011)] hf rfl ⟨⟨_,_,rfl,rfl,rfl⟩,⟨_,_,rfl,rfl,rfl⟩,⟨_,_,rfl,rfl,rfl⟩,⟨_,_,rfl,rfl,rfl⟩,⟨_,_,rfl,rfl,rfl⟩,trivial⟩ rfl rfl rfl ?_)|refine ac_ hcl rfl rfl ?_|fail)
 exact h _ ⟨_,_,Weak.refl _,rfl,.refl _,subH.at ⟨rfl,rfl,rfl,rfl,rfl,trivial⟩⟩
theorem edh_ (nm:Str) (l:List DeclT) (hl:l.length<=32) (hx:∀x∈l,x.types.length<=8) (hn:(l.map (·.name)).Nodup):HQ G 115 [.seq 4 (l.map t32),.fn 1000116 [.ref 1001 0 0]] (Hd_ nm []) .nili (Hd_ nm l):=by
 have hc:=λp x (h1:p.length<32) (h3:x.types.length<=8) (h2:x.name∉p.map (·.name))=>cdh_ (G:=G) nm p x h1 h3 h2;refine hc14 λΦ h=>?_;unfold cc14;simp -implicitDefEqProofs only[go_sem,zQ,Hd_];refine al_ (λn st=>∃i:Nat,i+n=l.length∧st=⟨21,[(1,.fn 1000116 [.ref 1001 0 0]),(8,.seq 4 (l.map t32)),(9,iv l.length),(10,iv i)],Hd_ nm (l.take i)⟩) l.length ⟨0,by simp,rfl⟩ ?_;rintro I hI n st ⟨i,hi,rfl⟩;simp -implicitDefEqProofs only[go_sem];refine⟨λhlt=>?_,λhge=>?_⟩
 .have hlt':i<l.length:=by omega
  obtain⟨x,hx1,hxm⟩:=as10 hlt';have hw:=ws_ hlt';have hnin:x.name∉(l.take i).map (·.name):=by
   have e:l=l.take i++x::l.drop (i+1):=by rw[<-da10 hx1,vS]
   rw[e] at hn;rw[zE,yJ] at hn
   skip
   intro hm;exact (xD.1 hn).2.2 _ hm _ zD rfl
  have hc:=hc (l.take i) x (by rw[xG];omega) (hx x hxm) hnin;rw[<-t39 hx1] at hc;have hnx:=hI (n - 1) _ ⟨i+1,by omega,rfl⟩;unfold Hd_ at*;generalize l.take (i+1)=p' at*;generalize l.take i=p at*;clear hI h hnin hn;clear hx;obtain⟨x1,x2⟩:=x;simp only[t32,i11,d12,mapB,n11] at*
  repeat' (first|simp -implicitDefEqProofs only[go_sem,am_ hx1,t32,i11,d12,hw,mapB,n11]|apply ai__<;>intro hb|(refine⟨by kernel_rfl,ach_ [(1001,1001),(1002,1002),(1009,1009),(1010,1010),(1011,1011)] hc rfl ⟨⟨_,_,rfl,rfl,rfl⟩,⟨_,_,rfl,rfl,rfl⟩,⟨_,_,rfl,rfl,rfl⟩,⟨_,_,rfl,rfl,rfl⟩,⟨_,_,rfl,rfl,rfl⟩,trivial⟩ rfl rfl rfl ?_⟩)|fail)
  exact ae__ hnx
 .have:i=l.length:=by omega
  subst this;rw[wV];unfold Hd_ at*
  repeat' (first|simp -implicitDefEqProofs only[go_sem]|apply ai__<;>intro hb)
  exact h _ ⟨_,_,Weak.refl _,rfl,.refl _,subH.at ⟨rfl,rfl,rfl,rfl,rfl,trivial⟩⟩
def Fq_ (nm:Str) (ds:List DeclT) (m1:List AV) (n:Nat) (R:List AV) (E:Ents):List (Nat×Box):=[(1001,⟨false,154,12,[.agg [.str nm,.seq 2 (ds.map d12),.arr 1003 0 n,.nils,.nils,iv 0,.nils,.nils,.nils,.mapc m1,.mapv 1010,.mapv 1011]]⟩),(1003,⟨true,124,3,R⟩),(1010,mapB E),(1011,⟨true,1,0,[]⟩)]
theorem fqh_ (nm:Str) (ds:List DeclT) (m1:List AV) (k:Nat) (R:List AV) (E:Ents) (s:Str) (v:NodeT) (n most:Int) (hn:n<most) (hs:s∉k13 E):HQ G 207 [.mapv 1010,.agg [.str s,iv 0,iv 0],n11 v,iv n,iv most] (Fq_ nm ds m1 k R E) .nili (Fq_ nm ds m1 k R (E++[(s,n11 v)])):=by
 have hm:=me_ s E 0;rw[fn_ hs] at hm;refine hcfaN_ λΦ h=>?_;unfold ccfaN_;have e1:decide (most<=n)=false:=by simp;omega
 have e2:e13 (E++[(s,n11 v)])=e13 E++[.tup [.str s,n11 v]]:=by simp [e13]
 simp only[Fq_,mapB,e2] at*;generalize e13 E=E' at*
 repeat' (first|simp -implicitDefEqProofs only[go_sem,e1,hm,n11]|apply ai__<;>intro hb)
 exact h _ ⟨_,_,Weak.refl _,rfl,.refl _,subH.at ⟨rfl,rfl,rfl,rfl,trivial⟩⟩
def Hq_ (nm:Str) (ds:List DeclT) (m1:List AV) (l:List QuantT):List (Nat×Box):=[(1001,⟨false,154,12,[.agg [.str nm,.seq 2 (ds.map d12),.arr 1003 0 l.length,.nils,.nils,iv 0,.nils,.nils,.nils,.mapc m1,.mapv 1010,.mapv 1011]]⟩),(1003,⟨true,124,3,l.map q11⟩),(1010,mapB (numE (λi:Nat=>n11 ⟨2,(i:Int),0,v0⟩) (l.map (·.name)) 0)),(1011,⟨true,1,0,[]⟩)]
theorem cqh_ (nm:Str) (ds:List DeclT) (m1:List AV) (l:List QuantT) (x:QuantT) (hl:l.length<8) (hn:x.name∉l.map (·.name)):HQ G 119 [.ref 1001 0 0,t24 x] (Hq_ nm ds m1 l) .nili (Hq_ nm ds m1 (l++[x])):=by
 have hk:x.name∉k13 (numE (λi:Nat=>n11 ⟨2,(i:Int),0,v0⟩) (l.map (·.name)) 0):=by rw[nk_];exact hn
 have hf:=fqh_ (G:=G) nm ds m1 (l.length+1) (l.map q11++[q11 x]) (numE (λi:Nat=>n11 ⟨2,(i:Int),0,v0⟩) (l.map (·.name)) 0) x.name ⟨2,l.length,0,v0⟩ l.length 8 (by omega) hk;have hes:numE (λi:Nat=>n11 ⟨2,(i:Int),0,v0⟩) ((l++[x]).map (·.name)) 0=numE (λi:Nat=>n11 ⟨2,(i:Int),0,v0⟩) (l.map (·.name)) 0++[(x.name,n11 ⟨2,(l.length:Int),0,v0⟩)]:=by rw[zE,yJ,yU,na10,yS,zQ]
 have hb1:(l.length+1)*32<=140737488355328:=by omega
 refine hccq_ λΦ h=>?_;unfold cccq_;unfold Hq_ at*;unfold Fq_ at hf;rw[hes] at h;simp only[zE,yJ,yU,zL,yH,xY,yS] at h;generalize numE (λi:Nat=>n11 ⟨2,(i:Int),0,v0⟩) (l.map (·.name)) 0=E at*;clear hes hk;obtain⟨x1,x2,x3⟩:=x;simp only[n11,mapB,t24,q11] at*
 repeat' (first|simp -implicitDefEqProofs only[go_sem,t24,q11,hb1,zQ,mapB,n11]|apply ai__<;>intro hb|(refine ach_ [(1001,1001),(1003,1003),(1010,1010),(1011,1011)] hf rfl ⟨⟨_,_,rfl,rfl,rfl⟩,⟨_,_,rfl,rfl,rfl⟩,⟨_,_,rfl,rfl,rfl⟩,⟨_,_,rfl,rfl,rfl⟩,trivial⟩ rfl rfl rfl ?_)|fail)
 exact h _ ⟨_,_,Weak.refl _,rfl,.refl _,subH.at ⟨rfl,rfl,rfl,rfl,trivial⟩⟩
theorem eqh_ (nm:Str) (ds:List DeclT) (m1:List AV) (l:List QuantT) (hl:l.length<=8) (hn:(l.map (·.name)).Nodup):HQ G 118 [.seq 5 (l.map t24),.fn 1000119 [.ref 1001 0 0]] (Hq_ nm ds m1 []) .nili (Hq_ nm ds m1 l):=by
 have hc:=λp x (h1:p.length<8) (h2:x.name∉p.map (·.name))=>cqh_ (G:=G) nm ds m1 p x h1 h2;refine hc12 λΦ h=>?_;unfold cc12;simp -implicitDefEqProofs only[go_sem,zQ,Hq_];refine al_ (λn st=>∃i:Nat,i+n=l.length∧st=⟨21,[(1,.fn 1000119 [.ref 1001 0 0]),(8,.seq 5 (l.map t24)),(9,iv l.length),(10,iv i)],Hq_ nm ds m1 (l.take i)⟩) l.length ⟨0,by simp,rfl⟩ ?_;rintro I hI n st ⟨i,hi,rfl⟩;simp -implicitDefEqProofs only[go_sem];refine⟨λhlt=>?_,λhge=>?_⟩
 .have hlt':i<l.length:=by omega
  obtain⟨x,hx1,hxm⟩:=as10 hlt';have hw:=ws_ hlt';have hnin:x.name∉(l.take i).map (·.name):=by
   have e:l=l.take i++x::l.drop (i+1):=by rw[<-da10 hx1,vS]
   rw[e] at hn;rw[zE,yJ] at hn
   skip
   intro hm;exact (xD.1 hn).2.2 _ hm _ zD rfl
  have hc:=hc (l.take i) x (by rw[xG];omega) hnin;rw[<-t39 hx1] at hc;have hnx:=hI (n - 1) _ ⟨i+1,by omega,rfl⟩;unfold Hq_ at*;generalize l.take (i+1)=p' at*;generalize l.take i=p at*;clear hI h hnin hn
  skip
  obtain⟨x1,x2,x3⟩:=x;simp only[t24,q11,mapB,n11] at*
  repeat' (first|simp -implicitDefEqProofs only[go_sem,am_ hx1,t24,q11,hw,mapB,n11]|apply ai__<;>intro hb|(refine⟨by kernel_rfl,ach_ [(1001,1001),(1003,1003),(1010,1010),(1011,1011)] hc rfl ⟨⟨_,_,rfl,rfl,rfl⟩,⟨_,_,rfl,rfl,rfl⟩,⟨_,_,rfl,rfl,rfl⟩,⟨_,_,rfl,rfl,rfl⟩,trivial⟩ rfl rfl rfl ?_⟩)|fail)
  exact ae__ hnx
 .have:i=l.length:=by omega
  subst this;rw[wV];unfold Hq_ at*
  repeat' (first|simp -implicitDefEqProofs only[go_sem]|apply ai__<;>intro hb)
  exact h _ ⟨_,_,Weak.refl _,rfl,.refl _,subH.at ⟨rfl,rfl,rfl,rfl,trivial⟩⟩
def Ff_ (nm:Str) (ds:List DeclT) (qs:List QuantT) (m1:List AV) (n:Nat) (R:List AV) (E:Ents):List (Nat×Box):=[(1001,⟨false,154,12,[.agg [.str nm,.seq 2 (ds.map d12),.seq 3 (qs.map q11),.arr 1004 0 n,.nils,iv 0,.nils,.nils,.nils,.mapc m1,.mapv 1010,.mapv 1011]]⟩),(1004,⟨true,110,5,R⟩),(1010,mapB E),(1011,⟨true,1,0,[]⟩)]
theorem ffh_ (nm:Str) (ds:List DeclT) (qs:List QuantT) (m1:List AV) (k:Nat) (R:List AV) (E:Ents) (s:Str) (v:NodeT) (n most:Int) (hn:n<most) (hs:s∉k13 E):HQ G 207 [.mapv 1010,.agg [.str s,iv 0,iv 0],n11 v,iv n,iv most] (Ff_ nm ds qs m1 k R E) .nili (Ff_ nm ds qs m1 k R (E++[(s,n11 v)])):=by
 have hm:=me_ s E 0;rw[fn_ hs] at hm;refine hcfaN_ λΦ h=>?_;unfold ccfaN_;have e1:decide (most<=n)=false:=by simp;omega
 have e2:e13 (E++[(s,n11 v)])=e13 E++[.tup [.str s,n11 v]]:=by simp [e13]
 simp only[Ff_,mapB,e2] at*;generalize e13 E=E' at*
 repeat' (first|simp -implicitDefEqProofs only[go_sem,e1,hm,n11]|apply ai__<;>intro hb)
 exact h _ ⟨_,_,Weak.refl _,rfl,.refl _,subH.at ⟨rfl,rfl,rfl,rfl,trivial⟩⟩
def Hf_ (nm:Str) (ds:List DeclT) (qs:List QuantT) (m1:List AV) (l:List FreeT):List (Nat×Box):=[(1001,⟨false,154,12,[.agg [.str nm,.seq 2 (ds.map d12),.seq 3 (qs.map q11),.arr 1004 0 l.length,.nils,iv 0,.nils,.nils,.nils,.mapc m1,.mapv 1010,.mapv 1011]]⟩),(1004,⟨true,110,5,l.map f10⟩),(1010,mapB (numE (λi:Nat=>n11 ⟨2,(i:Int),0,v0⟩) (qs.map (·.name)) 0++numE (λi:Nat=>n11 ⟨3,(i:Int),0,v0⟩) (l.map (·.name)) 0)),(1011,⟨true,1,0,[]⟩)]
theorem cfh_ (nm:Str) (ds:List DeclT) (qs:List QuantT) (m1:List AV) (l:List FreeT) (x:FreeT) (hl:l.length<16) (hn:x.name∉qs.map (·.name)++l.map (·.name)):HQ G 122 [.ref 1001 0 0,t31 x] (Hf_ nm ds qs m1 l) .nili (Hf_ nm ds qs m1 (l++[x])):=by
 have hk:x.name∉k13 (numE (λi:Nat=>n11 ⟨2,(i:Int),0,v0⟩) (qs.map (·.name)) 0++numE (λi:Nat=>n11 ⟨3,(i:Int),0,v0⟩) (l.map (·.name)) 0):=by rw[ka_,nk_,nk_];exact hn
 have hf:=ffh_ (G:=G) nm ds qs m1 (l.length+1) (l.map f10++[f10 x]) (numE (λi:Nat=>n11 ⟨2,(i:Int),0,v0⟩) (qs.map (·.name)) 0++numE (λi:Nat=>n11 ⟨3,(i:Int),0,v0⟩) (l.map (·.name)) 0) x.name ⟨3,l.length,0,v0⟩ l.length 16 (by omega) hk;have hes:numE (λi:Nat=>n11 ⟨2,(i:Int),0,v0⟩) (qs.map (·.name)) 0++numE (λi:Nat=>n11 ⟨3,(i:Int),0,v0⟩) ((l++[x]).map (·.name)) 0=numE (λi:Nat=>n11 ⟨2,(i:Int),0,v0⟩) (qs.map (·.name)) 0++numE (λi:Nat=>n11 ⟨3,(i:Int),0,v0⟩) (l.map (·.name)) 0++[(x.name,n11 ⟨3,(l.length:Int),0,v0⟩)]:=by rw[zE,yJ,yU,na10,yS,zQ];rw[xL]
 have hb1:(l.length+1)*56<=140737488355328:=by omega
 refine hccf_ λΦ h=>?_;unfold cccf_;unfold Hf_ at*;unfold Ff_ at hf;rw[hes] at h;simp only[zE,yJ,yU,zL,yH,xY,yS] at h;generalize numE (λi:Nat=>n11 ⟨2,(i:Int),0,v0⟩) (qs.map (·.name)) 0++numE (λi:Nat=>n11 ⟨3,(i:Int),0,v0⟩) (l.map (·.name)) 0=E at*;clear hes hk;obtain⟨x1,x2⟩:=x;simp only[n11,mapB,t31,f10] at*
 repeat' (first|simp -implicitDefEqProofs only[go_sem,t31,f10,hb1,zQ,mapB,n11]|apply ai__<;>intro hb|(refine ach_ [(1001,1001),(1004,1004),(1010,1010),(1011,1011)] hf rfl ⟨⟨_,_,rfl,rfl,rfl⟩,⟨_,_,rfl,rfl,rfl⟩,⟨_,_,rfl,rfl,rfl⟩,⟨_,_,rfl,rfl,rfl⟩,trivial⟩ rfl rfl rfl ?_)|fail)
 exact h _ ⟨_,_,Weak.refl _,rfl,.refl _,subH.at ⟨rfl,rfl,rfl,rfl,trivial⟩⟩
theorem efh_ (nm:Str) (ds:List DeclT) (qs:List QuantT) (m1:List AV) (l:List FreeT) (hl:l.length<=16) (hn:(qs.map (·.name)++l.map (·.name)).Nodup):HQ G 121 [.seq 7 (l.map t31),.fn 1000122 [.ref 1001 0 0]] (Hf_ nm ds qs m1 []) .nili (Hf_ nm ds qs m1 l):=by
 have hc:=λp x (h1:p.length<16) (h2:x.name∉qs.map (·.name)++p.map (·.name))=>cfh_ (G:=G) nm ds qs m1 p x h1 h2;refine hc13 λΦ h=>?_;unfold cc13;simp -implicitDefEqProofs only[go_sem,zQ,Hf_];refine al_ (λn st=>∃i:Nat,i+n=l.length∧st=⟨21,[(1,.fn 1000122 [.ref 1001 0 0]),(8,.seq 7 (l.map t31)),(9,iv l.length),(10,iv i)],Hf_ nm ds qs m1 (l.take i)⟩) l.length ⟨0,by simp,rfl⟩ ?_;rintro I hI n st ⟨i,hi,rfl⟩;simp -implicitDefEqProofs only[go_sem];refine⟨λhlt=>?_,λhge=>?_⟩
 .have hlt':i<l.length:=by omega
  obtain⟨x,hx1,hxm⟩:=as10 hlt';have hw:=ws_ hlt';have hnin:x.name∉qs.map (·.name)++(l.take i).map (·.name):=by
   have e:l=l.take i++x::l.drop (i+1):=by rw[<-da10 hx1,vS]
   rw[e] at hn;rw[zE,yJ] at hn;rw[<-xL] at hn;intro hm;exact (xD.1 hn).2.2 _ hm _ zD rfl
  have hc:=hc (l.take i) x (by rw[xG];omega) hnin;rw[<-t39 hx1] at hc;have hnx:=hI (n - 1) _ ⟨i+1,by omega,rfl⟩;unfold Hf_ at*;generalize l.take (i+1)=p' at*;generalize l.take i=p at*;clear hI h hnin hn
  skip
  obtain⟨x1,x2⟩:=x;simp only[t31,f10,mapB,n11] at*
  repeat' (first|simp -implicitDefEqProofs only[go_sem,am_ hx1,t31,f10,hw,mapB,n11]|apply ai__<;>intro hb|(refine⟨by kernel_rfl,ach_ [(1001,1001),(1004,1004),(1010,1010),(1011,1011)] hc rfl ⟨⟨_,_,rfl,rfl,rfl⟩,⟨_,_,rfl,rfl,rfl⟩,⟨_,_,rfl,rfl,rfl⟩,⟨_,_,rfl,rfl,rfl⟩,trivial⟩ rfl rfl rfl ?_⟩)|fail)
  exact ae__ hnx
 .have:i=l.length:=by omega
  subst this;rw[wV];unfold Hf_ at*
  repeat' (first|simp -implicitDefEqProofs only[go_sem]|apply ai__<;>intro hb)
  exact h _ ⟨_,_,Weak.refl _,rfl,.refl _,subH.at ⟨rfl,rfl,rfl,rfl,trivial⟩⟩
def Fs_ (nm:Str) (ds:List DeclT) (qs:List QuantT) (fs:List FreeT) (m1 m2:List AV) (n:Nat) (R:List AV) (E:Ents):List (Nat×Box):=[(1001,⟨false,154,12,[.agg [.str nm,.seq 2 (ds.map d12),.seq 3 (qs.map q11),.seq 5 (fs.map f10),.arr 1005 0 n,iv 0,.nils,.nils,.nils,.mapc m1,.mapc m2,.mapv 1011]]⟩),(1005,⟨true,53,3,R⟩),(1011,mapB E)]
theorem fsh_ (nm:Str) (ds:List DeclT) (qs:List QuantT) (fs:List FreeT) (m1 m2:List AV) (k:Nat) (R:List AV) (E:Ents) (s:Str) (v:Int) (n most:Int) (hn:n<most) (hs:s∉k13 E):HQ G 206 [.mapv 1011,.agg [.str s,iv 0,iv 0],iv v,iv n,iv most] (Fs_ nm ds qs fs m1 m2 k R E) .nili (Fs_ nm ds qs fs m1 m2 k R (E++[(s,iv v)])):=by
 have hm:=me_ s E 0;rw[fn_ hs] at hm;refine hcfi_ λΦ h=>?_;unfold ccfi_;have e1:decide (most<=n)=false:=by simp;omega
 have e2:e13 (E++[(s,iv v)])=e13 E++[.tup [.str s,iv v]]:=by simp [e13]
 simp only[Fs_,mapB,e2] at*;generalize e13 E=E' at*
 repeat' (first|simp -implicitDefEqProofs only[go_sem,e1,hm,n11]|apply ai__<;>intro hb)
 exact h _ ⟨_,_,Weak.refl _,rfl,.refl _,subH.at ⟨rfl,rfl,rfl,trivial⟩⟩
def Hs_ (nm:Str) (ds:List DeclT) (qs:List QuantT) (fs:List FreeT) (m1 m2:List AV) (l:List StateT):List (Nat×Box):=[(1001,⟨false,154,12,[.agg [.str nm,.seq 2 (ds.map d12),.seq 3 (qs.map q11),.seq 5 (fs.map f10),.arr 1005 0 l.length,iv 0,.nils,.nils,.nils,.mapc m1,.mapc m2,.mapv 1011]]⟩),(1005,⟨true,53,3,l.map s14⟩),(1011,mapB (numE (λi:Nat=>iv (i:Int)) (l.map (·.name)) 0))]
theorem csh_ (nm:Str) (ds:List DeclT) (qs:List QuantT) (fs:List FreeT) (m1 m2:List AV) (l:List StateT) (x:StateT) (hl:l.length<32) (hn:x.name∉l.map (·.name)):HQ G 125 [.ref 1001 0 0,t14 x] (Hs_ nm ds qs fs m1 m2 l) .nili (Hs_ nm ds qs fs m1 m2 (l++[x])):=by
 have hk:x.name∉k13 (numE (λi:Nat=>iv (i:Int)) (l.map (·.name)) 0):=by rw[nk_];exact hn
 have hf:=fsh_ (G:=G) nm ds qs fs m1 m2 (l.length+1) (l.map s14++[s14 x]) (numE (λi:Nat=>iv (i:Int)) (l.map (·.name)) 0) x.name l.length l.length 32 (by omega) hk;have hes:numE (λi:Nat=>iv (i:Int)) ((l++[x]).map (·.name)) 0=numE (λi:Nat=>iv (i:Int)) (l.map (·.name)) 0++[(x.name,iv (l.length:Int))]:=by rw[zE,yJ,yU,na10,yS,zQ]
 have hb1:(l.length+1)*24<=140737488355328:=by omega
 refine hc15 λΦ h=>?_;unfold cc18;unfold Hs_ at*;unfold Fs_ at hf;rw[hes] at h;simp only[zE,yJ,yU,zL,yH,xY,yS] at h;generalize numE (λi:Nat=>iv (i:Int)) (l.map (·.name)) 0=E at*;clear hes hk;obtain⟨x1,x2,x3⟩:=x;simp only[n11,mapB,t14,s14] at*
 repeat' (first|simp -implicitDefEqProofs only[go_sem,t14,s14,hb1,zQ,mapB,n11]|apply ai__<;>intro hb|(refine ach_ [(1001,1001),(1005,1005),(1011,1011)] hf rfl ⟨⟨_,_,rfl,rfl,rfl⟩,⟨_,_,rfl,rfl,rfl⟩,⟨_,_,rfl,rfl,rfl⟩,trivial⟩ rfl rfl rfl ?_)|fail)
 exact h _ ⟨_,_,Weak.refl _,rfl,.refl _,subH.at ⟨rfl,rfl,rfl,trivial⟩⟩
theorem esh_ (nm:Str) (ds:List DeclT) (qs:List QuantT) (fs:List FreeT) (m1 m2:List AV) (l:List StateT) (hl:l.length<=32) (hn:(l.map (·.name)).Nodup):HQ G 124 [.seq 5 (l.map t14),.fn 1000125 [.ref 1001 0 0]] (Hs_ nm ds qs fs m1 m2 []) .nili (Hs_ nm ds qs fs m1 m2 l):=by
 have hc:=λp x (h1:p.length<32) (h2:x.name∉p.map (·.name))=>csh_ (G:=G) nm ds qs fs m1 m2 p x h1 h2;refine hc11 λΦ h=>?_;unfold cc11;simp -implicitDefEqProofs only[go_sem,zQ,Hs_];refine al_ (λn st=>∃i:Nat,i+n=l.length∧st=⟨21,[(1,.fn 1000125 [.ref 1001 0 0]),(8,.seq 5 (l.map t14)),(9,iv l.length),(10,iv i)],Hs_ nm ds qs fs m1 m2 (l.take i)⟩) l.length ⟨0,by simp,rfl⟩ ?_;rintro I hI n st ⟨i,hi,rfl⟩;simp -implicitDefEqProofs only[go_sem];refine⟨λhlt=>?_,λhge=>?_⟩
 .have hlt':i<l.length:=by omega
  obtain⟨x,hx1,hxm⟩:=as10 hlt';have hw:=ws_ hlt';have hnin:x.name∉(l.take i).map (·.name):=by
   have e:l=l.take i++x::l.drop (i+1):=by rw[<-da10 hx1,vS]
   rw[e] at hn;rw[zE,yJ] at hn
   skip
   intro hm;exact (xD.1 hn).2.2 _ hm _ zD rfl
  have hc:=hc (l.take i) x (by rw[xG];omega) hnin;rw[<-t39 hx1] at hc;have hnx:=hI (n - 1) _ ⟨i+1,by omega,rfl⟩;unfold Hs_ at*;generalize l.take (i+1)=p' at*;generalize l.take i=p at*;clear hI h hnin hn
  skip
  obtain⟨x1,x2,x3⟩:=x;simp only[t14,s14,mapB,n11] at*
  repeat' (first|simp -implicitDefEqProofs only[go_sem,am_ hx1,t14,s14,hw,mapB,n11]|apply ai__<;>intro hb|(refine⟨by kernel_rfl,ach_ [(1001,1001),(1005,1005),(1011,1011)] hc rfl ⟨⟨_,_,rfl,rfl,rfl⟩,⟨_,_,rfl,rfl,rfl⟩,⟨_,_,rfl,rfl,rfl⟩,trivial⟩ rfl rfl rfl ?_⟩)|fail)
  exact ae__ hnx
 .have:i=l.length:=by omega
  subst this;rw[wV];unfold Hs_ at*
  repeat' (first|simp -implicitDefEqProofs only[go_sem]|apply ai__<;>intro hb)
  exact h _ ⟨_,_,Weak.refl _,rfl,.refl _,subH.at ⟨rfl,rfl,rfl,trivial⟩⟩
def symG (q:QeaT) (n:Int):SymT:=(at? q.symbols n).getD ⟨0,[]⟩
abbrev Made:=List SymT×List NodeT×List TransT
def s17 (q:QeaT) (ix:Int->Nat) (S:Made) (x:TransT×Int):Made:=
 (putY S.1 (symG q x.1.symbol),nsK q x.2.toNat S.2.1 ((endT x.1 x.2).toNat - x.2.toNat),S.2.2++[trN (ix x.1.from_) (ix x.1.to_) S.1 (symG q x.1.symbol) (x.2 - S.2.1.length) x.1])
structure MkOk (q:QeaT) (sl:List StateT) (ix:Int->Nat) (x:TransT×Int):Prop where
 ok:TrOk q x.1 x.2 (endT x.1 x.2)
 x0:0<=x.2
 sy:∃s,at? q.symbols x.1.symbol=some s∧symS q s=true∧s.args.length<=1000
 sl_:x.1.sets.length<=1000
 hf:∃y,at? q.states x.1.from_=some y∧sl[ix x.1.from_]?=some y
 ht:∃y,at? q.states x.1.to_=some y∧sl[ix x.1.to_]?=some y
def M10 (S:Made):Prop:=S.1.length<64∧(∀x∈S.1,x.args.length<=1000)∧S.2.1.length<=1000∧S.2.2.length<256
theorem eth_ (q:QeaT) (hv:q.vars.Nodup) (hd:(q.decls.map (·.name)).Nodup) (hq:q.nodes.length<=1000) (sl:List StateT) (hsn:(sl.map (·.name)).Nodup) (st:Int) (ix:Int->Nat) (K:List (TransT×Int)) (hK:∀x∈K,MkOk q sl ix x) (hKl:K.length<=1000) (S0:Made) (hm:∀i,i<K.length->M10 ((K.take i).foldl (s17 q ix) S0)):
  HQ G 133 [.seq 13 ((K.map (trT q)).map tTrV),.fn 1000134 [.ref 1001 0 0]] (HK q sl st S0.1 S0.2.1 S0.2.2) .nili (HK q sl st (K.foldl (s17 q ix) S0).1 (K.foldl (s17 q ix) S0).2.1 (K.foldl (s17 q ix) S0).2.2):=by
 have hc:∀(S:Made) x,x∈K->M10 S->HQ G 134 [.ref 1001 0 0,tTrV (trT q x)] (HK q sl st S.1 S.2.1 S.2.2) .nili (HK q sl st (s17 q ix S x).1 (s17 q ix S x).2.1 (s17 q ix S x).2.2):=by
  rintro⟨ys,ns,ts⟩ ⟨t,a⟩ hx ⟨m1,m2,m3,m4⟩;obtain⟨ok,x0,⟨s,s1,s2,s3⟩,hsl,⟨y,f1,f2⟩,⟨z,t1,t2⟩⟩:=hK _ hx;simp only at ok x0 s1 hsl f1 f2 t1 t2 m1 m2 m3 m4;obtain⟨A,rfl⟩:=zA x0;have hb:=ok.bk.h1;obtain⟨B,hB⟩:=zA (show 0<=endT t (A:Int) by omega);rw[hB] at ok;have hg:symG q t.symbol=s:=by unfold symG;rw[s1];rfl
  have:=th_ (G:=G) q hv hd hq sl hsn st ys ns ts m2 m1 m3 m4 t A B ok s s1 s2 s3 hsl (ix t.from_) (ix t.to_) y z f1 t1 f2 t2;simp only[s17,hg,hB,zP];exact this
 refine hc10 λΦ h=>?_;unfold cc10;unfold HK ckB at*;unfold ckC at*;generalize e13 (dE q)=E1 at*;generalize e13 (vE q)=E2 at*;generalize e13 (sE sl)=E3 at*;simp -implicitDefEqProofs only[go_sem,zQ]
 refine al_ (λn st'=>∃(i:Nat) (S:Made),i+n=K.length∧st'=⟨21,[(1,.fn 1000134 [.ref 1001 0 0]),(8,.seq 13 ((K.map (trT q)).map tTrV)),(9,iv K.length),(10,iv i)],
  [(1001,⟨false,154,12,[.agg [.str q.name,.seq 2 (q.decls.map d12),.seq 3 (q.quants.map q11),.seq 5 (q.frees.map f10),.seq 3 (sl.map s14),iv st,.arr 1006 0 S.1.length,.arr 1007 0 S.2.1.length,.arr 1008 0 S.2.2.length,.mapc E1,.mapc E2,.mapc E3]]⟩),(1006,⟨true,106,2,S.1.map symV⟩),(1007,⟨true,112,7,S.2.1.map n11⟩),(1008,⟨true,95,5,S.2.2.map t11⟩)]⟩∧S=(K.take i).foldl (s17 q ix) S0) K.length ⟨0,S0,by simp,rfl,rfl⟩ ?_
 rintro I hI n st' ⟨i,S,hi,rfl,hS⟩;simp -implicitDefEqProofs only[go_sem];refine⟨λhlt=>?_,λhge=>?_⟩
 .have hlt':i<K.length:=by omega
  obtain⟨x,hx,hxm⟩:=as10 hlt';have hw:=ws_ hlt';have hc:=hc S x hxm (by rw[hS];exact hm i hlt');have hxt:(K.map (trT q))[i]?=some (trT q x):=by rw[zS,hx];rfl
  have hnx:=hI (n - 1) _ ⟨i+1,s17 q ix S x,by omega,rfl,by rw[t39 hx,uR,<-hS];rfl⟩;generalize s17 q ix S x=S' at*;generalize trT q x=y at*;obtain⟨S1,S2,S3⟩:=S;obtain⟨S1',S2',S3'⟩:=S';obtain⟨y1,y2,⟨y3,y4⟩,y5,y6,y7⟩:=y;simp only[tTrV,t17,t30,t20] at hc;simp only at hnx;clear hI h hS hm hK
  repeat' (first|simp -implicitDefEqProofs only[go_sem,am_ hxt,tTrV,t17,t30,t20,hw]|apply ai__<;>intro hb|(refine⟨by kernel_rfl,ach_ [(1001,1001),(1006,1006),(1007,1007),(1008,1008)] hc rfl ⟨⟨_,_,rfl,rfl,rfl⟩,⟨_,_,rfl,rfl,rfl⟩,⟨_,_,rfl,rfl,rfl⟩,⟨_,_,rfl,rfl,rfl⟩,trivial⟩ rfl rfl rfl ?_⟩)|fail)
  exact ae__ hnx
 .have:i=K.length:=by omega
  subst this;rw[wV] at hS;rw[<-hS] at h;exact h _ ⟨_,_,Weak.refl _,rfl,.refl _,subH.at ⟨rfl,rfl,rfl,rfl,trivial⟩⟩
def cVar:Nat×Box:=(1020,⟨false,150,1,[.ref 1001 0 0]⟩)
theorem r61h_ (q:QeaT) (hv:q.vars.Nodup) (hd:(q.decls.map (·.name)).Nodup) (sl:List StateT) (st:Int) (ys:List SymT) (ns:List NodeT) (ts:List TransT) (s:SymT) (hs:symS q s=true) (hl:s.args.length<=1000) (hys:∀x∈ys,x.args.length<=1000) (hyl:ys.length<64):
  HQ G 130 [t28 (symT q s),.ref 1020 0 0] (cVar::HK q sl st ys ns ts) .nili (cVar::HK q sl st (putY ys s) ns ts):=by
 have hc:=sh_ (G:=G) q hv hd sl st ys ns ts s hs hl hys hyl;refine hccr61z λΦ h=>?_;unfold cccr61z;unfold cVar HK ckB at*;unfold ckC at*;generalize e13 (dE q)=E1 at*;generalize e13 (vE q)=E2 at*;generalize e13 (sE sl)=E3 at*;generalize symT q s=y at*;generalize ys.idxOf s=k at*;generalize putY ys s=Y at*;obtain⟨y1,y2⟩:=y;simp only[t28,t17] at hc
 repeat' (first|simp -implicitDefEqProofs only[go_sem,t28,t17]|apply ai__<;>intro hb|(refine ac10 [(1001,1001),(1006,1006),(1007,1007),(1008,1008)] hc rfl ⟨⟨_,_,rfl,rfl,rfl⟩,⟨_,_,rfl,rfl,rfl⟩,⟨_,_,rfl,rfl,rfl⟩,⟨_,_,rfl,rfl,rfl⟩,trivial⟩ rfl rfl rfl ?_)|fail)
 exact h _ ⟨_,_,Weak.refl _,rfl,.refl _,subH.at ⟨rfl,rfl,rfl,rfl,rfl,trivial⟩⟩
theorem eah_ (q:QeaT) (hv:q.vars.Nodup) (hd:(q.decls.map (·.name)).Nodup) (sl:List StateT) (st:Int) (A:List SymT) (hA:∀s∈A,symS q s=true∧s.args.length<=1000) (hAl:A.length<=1000) (ns:List NodeT) (ts:List TransT) (hm:∀i,i<A.length->((A.take i).foldl putY []).length<64∧∀x∈(A.take i).foldl putY [],x.args.length<=1000):
  HQ G 129 [.seq 4 ((A.map (symT q)).map t28),.fn 130 [.ref 1020 0 0]] (cVar::HK q sl st [] ns ts) .nili (cVar::HK q sl st (A.foldl putY []) ns ts):=by
 have hc:=λys s (h1:s∈A) h2 h3=>r61h_ (G:=G) q hv hd sl st ys ns ts s (hA s h1).1 (hA s h1).2 h2 h3;refine hceaT_ λΦ h=>?_;unfold cceaT_;unfold cVar HK ckB at*;unfold ckC at*;generalize e13 (dE q)=E1 at*;generalize e13 (vE q)=E2 at*;generalize e13 (sE sl)=E3 at*;simp -implicitDefEqProofs only[go_sem,zQ]
 refine al_ (λn st'=>∃(i:Nat) (S:List SymT),i+n=A.length∧st'=⟨21,[(1,.fn 130 [.ref 1020 0 0]),(8,.seq 4 ((A.map (symT q)).map t28)),(9,iv A.length),(10,iv i)],
  [(1020,⟨false,150,1,[.ref 1001 0 0]⟩),(1001,⟨false,154,12,[.agg [.str q.name,.seq 2 (q.decls.map d12),.seq 3 (q.quants.map q11),.seq 5 (q.frees.map f10),.seq 3 (sl.map s14),iv st,.arr 1006 0 S.length,.arr 1007 0 ns.length,.arr 1008 0 ts.length,.mapc E1,.mapc E2,.mapc E3]]⟩),(1006,⟨true,106,2,S.map symV⟩),(1007,⟨true,112,7,ns.map n11⟩),(1008,⟨true,95,5,ts.map t11⟩)]⟩∧S=(A.take i).foldl putY []) A.length ⟨0,[],by simp,rfl,rfl⟩ ?_
 rintro I hI n st' ⟨i,S,hi,rfl,hS⟩;simp -implicitDefEqProofs only[go_sem];refine⟨λhlt=>?_,λhge=>?_⟩
 .have hlt':i<A.length:=by omega
  obtain⟨x,hx,hxm⟩:=as10 hlt';have hw:=ws_ hlt';have hc:=hc S x hxm (by rw[hS];exact (hm i hlt').2) (by rw[hS];exact (hm i hlt').1);have hxt:(A.map (symT q))[i]?=some (symT q x):=by rw[zS,hx];rfl
  have hnx:=hI (n - 1) _ ⟨i+1,putY S x,by omega,rfl,by rw[t39 hx,uR,<-hS];rfl⟩;generalize putY S x=S' at*;generalize symT q x=y at*;obtain⟨y1,y2⟩:=y;simp only[t28,t17] at hc;clear hI h hS hm hA
  repeat' (first|simp -implicitDefEqProofs only[go_sem,am_ hxt,t28,t17,hw]|apply ai__<;>intro hb|(refine⟨by kernel_rfl,ach_ [(1020,1020),(1001,1001),(1006,1006),(1007,1007),(1008,1008)] hc rfl ⟨⟨_,_,rfl,rfl,rfl⟩,⟨_,_,rfl,rfl,rfl⟩,⟨_,_,rfl,rfl,rfl⟩,⟨_,_,rfl,rfl,rfl⟩,⟨_,_,rfl,rfl,rfl⟩,trivial⟩ rfl rfl rfl ?_⟩)|fail)
  exact ae__ hnx
 .have:i=A.length:=by omega
  subst this;rw[wV] at hS;rw[<-hS] at h;exact h _ ⟨_,_,Weak.refl _,rfl,.refl _,subH.at ⟨rfl,rfl,rfl,rfl,rfl,trivial⟩⟩
theorem s110 (s:SymT) (hs:s.args.length<9223372036854775807) (v:Int):PQ G 213 [symV s,.eptr (iv v) 0] (.bool (s13 s v)):=by
 have hc:=cSp_ (G:=G) s hs v;refine pc10 λΦ h=>?_;unfold cc15;generalize s13 s v=b at*;obtain⟨s1,s2⟩:=s;simp only[symV,a10] at hc
 repeat' (first|simp -implicitDefEqProofs only[go_sem,symV,a10]|apply ai__<;>intro hb|refine ac_ hc rfl rfl ?_|fail)
 exact hq_ h
theorem sp11 (q:QeaT) (sl:List StateT) (st:Int) (ys:List SymT) (c7 c8:AV) (hys:∀x∈ys,x.args.length<=1000) (hyl:ys.length<=1000) (hq:q.quants.length<=1000) (ok:∀v,v<q.quants.length->(ys.any λs=>s13 s (v:Int))=true):
  PQ G 136 [.eptr (ckC q sl st (.seq 2 (ys.map symV)) c7 c8) 0,t13 q.quants] .nili:=by
 have hc:∀v,v<q.quants.length->PQ G 177 [.seq 2 (ys.map symV),.fn 213 [.eptr (iv (v:Int)) 0]] (.bool true):=λv hv=>by have:=sCaSaSp_ (G:=G) 213 [.eptr (iv (v:Int)) 0] (by kernel_rfl) of_ (λs=>s13 s (v:Int)) ys (λx hx=>s110 x (by have:=hys x hx;omega) v) (by omega);rw[ok v hv] at this;exact this
 refine pccs_ λΦ h=>?_;unfold cc16;simp -implicitDefEqProofs only[go_sem,t13,zQ,ckC];refine al_ (λn st'=>∃i:Nat,i+n=q.quants.length∧st'=⟨26,[(0,.eptr (ckC q sl st (.seq 2 (ys.map symV)) c7 c8) 0),(7,.seq 5 (q.quants.map t24)),(8,iv q.quants.length),(9,iv i)],[]⟩) q.quants.length ⟨0,by simp,rfl⟩ ?_;rintro I hI n st' ⟨i,hi,rfl⟩;simp -implicitDefEqProofs only[go_sem,ckC];refine⟨λhlt=>?_,λhge=>?_⟩
 .have hlt':i<q.quants.length:=by omega
  obtain⟨x,hx,hxm⟩:=as10 hlt';have hw:=ws_ hlt';have hc:=hc i hlt';have hnx:=hI (n - 1) _ ⟨i+1,by omega,rfl⟩;clear hI h
  repeat' (first|simp -implicitDefEqProofs only[go_sem,am_ hx,t24,hw]|apply ai__<;>intro hb|refine ac_ hc rfl rfl ?_|fail)
  exact ae__ hnx
 .exact hq_ h
def dd:List Nat->List Nat->List Nat
 | o,[]=>o
 | o,x::r=>if x∈o then dd o r else dd (o++[x]) r
theorem da11:∀(r o:List Nat),∃s,dd o r=o++s
 | [],o=>⟨[],by simp [dd]⟩
 | x::r,o=>by
  unfold dd;split
  .exact da11 r o
  .obtain⟨s,h⟩:=da11 r (o++[x]);exact⟨x::s,by rw[h];simp⟩
theorem dn_:∀(r:List Nat) {o:List Nat},o.Nodup->(dd o r).Nodup
 | [],_,h=>h
 | x::r,o,h=>by
  unfold dd;split
  .exact dn_ r h
  .rename_i hx;refine dn_ r ?_;rw[xD];exact⟨h,by simp,λa ha b hb=>by rw[yZ.1 hb];exact λe=>hx (e ▸ ha)⟩
theorem dm_:∀(r o:List Nat) (x:Nat),x∈dd o r↔x∈o∨x∈r
 | [],o,x=>by simp [dd]
 | y::r,o,x=>by
  unfold dd;split
  .rename_i hy;rw[dm_ r o x,yV];constructor
   .rintro (h | h)
    .exact .inl h
    .exact .inr (.inr h)
   .rintro (h | rfl | h)
    .exact .inl h
    .exact .inl hy
    .exact .inr h
  .rw[dm_ r (o++[y]) x,yB,yZ,yV,or_assoc]
theorem dm11 {f:Nat->Nat}:∀(r o:List Nat),(∀x∈o++r,∀y∈o++r,f x=f y->x=y)->dd (o.map f) (r.map f)=(dd o r).map f
 | [],o,_ =>rfl
 | x::r,o,hf=>by
  have e:f x∈o.map f↔x∈o:=by
   constructor
   .intro h;obtain⟨y,hy,e⟩:=zI.1 h;rw[<-hf y (by simp [hy]) x (by simp) e];exact hy
   .exact List.mem_map_of_mem
  rw[yJ];unfold dd;by_cases hx:x∈o
  .rw[zY (e.2 hx),zY hx];exact dm11 r o λa ha b hb=>hf a (by simp at ha ⊢;rcases ha with h | h <;> simp [h]) b (by simp at hb ⊢;rcases hb with h | h <;> simp [h])
  .rw[zK (λh=>hx (e.1 h)),zK hx];have:=dm11 (f:=f) r (o++[x]) (by simpa using hf);simpa using this
def perm (n:Nat) (l:List Nat):List Nat:=(List.range n).filter (λx=>decide (x∉l))++dd [] l
theorem pn_ (n:Nat) (l:List Nat):(perm n l).Nodup:=by unfold perm;rw[xD];refine⟨List.nodup_range.filter _,dn_ l List.nodup_nil,λa ha b hb e=>?_⟩;subst e;obtain⟨_,h⟩:=yP.1 ha;rw[dm_] at hb;simp at h hb;exact h hb
theorem pm11 {n:Nat} {l:List Nat} (hl:∀x∈l,x<n) (x:Nat):x∈perm n l↔x<n:=by
 unfold perm;rw[yB,yP,xF,dm_];simp;constructor
 .rintro (h | h)
  .exact h.1
  .exact hl x h
 .intro h;by_cases hx:x∈l
  .exact .inr hx
  .exact .inl ⟨h,hx⟩
theorem iom_ {l:List Nat} (h:l.Nodup):l.map (λx=>l.idxOf x)=List.range l.length:=by refine vW (by simp) λi h1 h2=>?_;simp only[uA,List.getElem_range];exact wZ h i (by simpa using h1)
theorem ii12 {l:List Nat} {x y:Nat} (hx:x∈l) (h:l.idxOf x=l.idxOf y):x=y:=by
 have h1:=wP.2 hx;have e1:=uW h1;have h2:l.idxOf y<l.length:=by rw[<-h];exact h1
 have e2:=uW h2;rw[<-e1,<-e2];congr 1
theorem pd10 {n:Nat} {l:List Nat} (hl:∀x∈l,x<n):
  dd [] (l.map λx=>(perm n l).idxOf x)=List.range' ((perm n l).length - (dd [] l).length) (dd [] l).length:=by
 have hm:∀x∈l,x∈perm n l:=λx hx=>(pm11 hl x).2 (hl x hx);have h1:=dm11 (f:=λx=>(perm n l).idxOf x) l [] (λx hx y hy e=>ii12 (hm x (by simpa using hx)) e);rw[yU] at h1;rw[h1];have h2:=iom_ (pn_ n l);have h3:(dd [] l).map (λx=>(perm n l).idxOf x)=(List.range (perm n l).length).drop ((perm n l).length - (dd [] l).length):=by
  rw[<-h2,<-List.map_drop];congr 1;have:perm n l=(List.range n).filter (λx=>decide (x∉l))++dd [] l:=rfl;have e:(perm n l).length - (dd [] l).length=((List.range n).filter (λx=>decide (x∉l))).length:=by rw[this,zL];omega
  rw[e]
  conv=>rhs;rw[this]
  rw[tP]
 rw[h3,List.range_eq_range',List.drop_range',Nat.mul_one,yS];congr 1;have:(dd [] l).length<=(perm n l).length:=by unfold perm;rw[zL];omega
 omega
theorem fl_ (n m:Nat) (h:m<=n):(List.range n).filter (λx=>decide (x<m))=List.range m:=by
 obtain⟨k,rfl⟩:=Nat.exists_eq_add_of_le h;rw[List.range_add,vP];have h1:(List.range m).filter (λx=>decide (x<m))=List.range m:=List.filter_eq_self.2 λx hx=>by simpa using List.mem_range.1 hx
 have h2:((List.range k).map (m+·)).filter (λx=>decide (x<m))=[]:=by rw[List.filter_eq_nil_iff];intro x hx;obtain⟨y,_,rfl⟩:=zI.1 hx;simp
 rw[h1,h2,xT]
theorem pi10 {n:Nat} {l:List Nat} (h:dd [] l=List.range' (n - (dd [] l).length) (dd [] l).length) (hn:(dd [] l).length<=n):perm n l=List.range n:=by
 have hm:∀x,x∈l↔n - (dd [] l).length<=x∧x<n:=λx=>by
  have h1:=dm_ l [] x;rw[h,List.mem_range'_1] at h1;constructor
  .intro hx;have:=h1.2 (.inr hx);omega
  .intro hx;rcases h1.1 (by omega) with h2 | h2
   .cases h2
   .exact h2
 unfold perm;have e:(List.range n).filter (λx=>decide (x∉l))=List.range (n - (dd [] l).length):=by rw[<-fl_ n (n - (dd [] l).length) (by omega)];refine tL λx hx=>?_;have hx:=xF.1 hx;rw[decide_eq_decide,hm];omega
 rw[e,h];generalize hk:(dd [] l).length=k at*;refine vW (by simp;omega) λi h1 h2=>?_;rw[List.getElem_append];split
 .simp
 .rename_i h3;simp at h3 ⊢;omega
theorem sl11:∀(l:List TransT) (a:Int),(segs l a).length=l.length
 | [],_ =>rfl
 | t::l,a=>by simp [segs,sl11 l]
theorem beTh_ (q:QeaT) (hq:q.nodes.length<=1000) (l:List TransT) (a:Int) (hl:l.length<=1000) (ok:∀x∈segs l a,TrW q x.1 x.2):
  HQ G 79 [t_ l,.fn 80 [.ref 1001 0 0,.ref 1002 0 0]] [bBox a,q15 q] (.arr 5 0 l.length) [bBox (endA l a),q15 q,(5,⟨true,82,13,((segs l a).map (trT q)).map tTrV⟩)]:=by
 refine hbeaTaT_ λΦ h=>?_;unfold cbeaTaT_;simp only[bBox,q15] at*;simp -implicitDefEqProofs only[go_sem,t_,zQ]
 refine al_ (λn st=>∃(i:Nat) (m:List TTrT) (A:Int),i+n=l.length∧st=⟨22,[(1,.fn 80 [.ref 1001 0 0,.ref 1002 0 0]),(5,.arr 5 0 m.length),(8,.seq 5 (l.map t11)),(9,iv l.length),(10,iv i)],[(4,⟨true,82,13,[]⟩),(5,⟨true,82,13,m.map tTrV⟩),(1001,⟨false,3,1,[iv A]⟩),(1002,⟨false,30,9,[qeaV q]⟩)]⟩∧
  (segs l a).map (trT q)=m++(segs (l.drop i) A).map (trT q)∧endA (l.drop i) A=endA l a∧m.length=i∧∀x∈segs (l.drop i) A,TrW q x.1 x.2) l.length ⟨0,[],a,by simp,rfl,rfl,rfl,rfl,ok⟩ ?_
 rintro I hI n st ⟨i,m,A,hi,rfl,hm,hA,hml,hok⟩;simp -implicitDefEqProofs only[go_sem,zQ];refine⟨λhlt=>?_,λhge=>?_⟩
 .have hlt':i<l.length:=by omega
  obtain⟨t,hx,hxm⟩:=as10 hlt';have hw:=ws_ hlt';rw[da10 hx] at hm hA hok;have hc:=bt1h_ (G:=G) q hq t A (hok (t,A) zD);have hb1:(m.length+1)*176<=140737488355328:=by omega
  have hnx:=hI (n - 1) _ ⟨i+1,m++[trT q (t,A)],endT t A,by omega,rfl,by rw[hm];simp [segs],hA,by simp [hml],λx hx=>hok x (zR _ hx)⟩;generalize trT q (t,A)=y at*;generalize endT t A=E at*;obtain⟨t1,t2,t3,t4,t5⟩:=t;simp only[bBox,q15,t11,s18,tTrV,t17,t30,t20] at hc;simp only[zE,yJ,yU,zL,yH,xY,tTrV,t17,t30,t20] at hnx;clear hI h
  repeat' (first|simp -implicitDefEqProofs only[go_sem,am_ hx,t11,s18,hw,zQ,hb1]|apply ai__<;>intro hb|(refine⟨by kernel_rfl,ac10 [(1001,1001),(1002,1002)] hc rfl ⟨⟨_,_,rfl,rfl,rfl⟩,⟨_,_,rfl,rfl,rfl⟩,trivial⟩ rfl rfl rfl ?_⟩)|fail)
  exact ae__ hnx
 .have:i=l.length:=by omega
  subst this;rw[uO] at hm hA;simp only[segs,yU,xT] at hm;simp only[endA] at hA;rw[hm,<-hA] at h;rw[hml];exact h _ ⟨_,_,Weak.refl _,rfl,.refl _,subH.at ⟨rfl,rfl,rfl,trivial⟩⟩
theorem btp_ (q:QeaT) (hq:q.nodes.length<=1000) (hl:q.trans.length<=1000) (ok:∀x∈segs q.trans 0,TrW q x.1 x.2):PQ G 48 [qeaV q] (t33 ((segs q.trans 0).map (trT q))):=by
 have hc:=beTh_ (G:=G) q hq q.trans 0 hl ok;refine pbt_ λΦ h=>?_;unfold cbt_;have hlen:q.trans.length=((segs q.trans 0).map (trT q)).length:=by simp [sl11]
 rw[hlen] at hc;generalize (segs q.trans 0).map (trT q)=y at*;generalize endA q.trans 0=E at*;simp only[bBox,q15,qeaV,d_,q_,f_,s_,s10,n_,t_] at hc
 repeat' (first|simp -implicitDefEqProofs only[go_sem,qeaV,d_,q_,f_,s_,s10,n_,t_]|apply ai__<;>intro hb|(refine ac10 [(1001,3),(1002,1),(5,7)] hc rfl ⟨⟨_,_,rfl,rfl,rfl⟩,⟨_,_,rfl,rfl,rfl⟩,trivial⟩ rfl rfl rfl ?_)|fail)
 exact h _ ⟨_,_,rfl,vr12 (e:=tTrV) (l:=y) (ty:=82) (by decide) rfl rfl,.refl _⟩
