/-
  Lemmas. No claim is proved here.
-/
import Derived.Test.YtkadalpaeglmnaaGreatDoorYD26
namespace Go.Proofs.YtkadalpaeglmnaaGreatDoor.Ab
open Go Go.RowKit
set_option linter.unusedSimpArgs false
set_option maxHeartbeats 4000000
set_option maxRecDepth 100000
variable {G:Nat→Option AV}
def Fd_ (nm:Str) (n:Nat) (R:List AV) (E:Ents):List (Nat×Box):=[(1001,⟨false,tcc_,12,[.agg [.str nm,.arr 1002 0 n,.nils,.nils,.nils,iv 0,.nils,.nils,.nils,.mapv 1009,.mapv 1010,.mapv 1011]]⟩),(1002,⟨true,taD_,2,R⟩),(1009,mapB E),(1010,⟨true,1,0,[]⟩),(1011,⟨true,1,0,[]⟩)]
theorem fdh_ (nm:Str) (k:Nat) (R:List AV) (E:Ents) (s:Str) (v:Int) (n most:Int) (hn:n<most) (hs:s∉k13 E):HQ G ncfi_ [.mapv 1009,.agg [.str s,iv 0,iv 0],iv v,iv n,iv most] (Fd_ nm k R E) .nili (Fd_ nm k R (E++[(s,iv v)])):=by
 have hm:=me_ s E 0;rw[fn_ hs] at hm;refine hcfi_ fun Φ h=>?_;unfold ccfi_;have e1:decide (most≤n)=false:=by simp;omega
 have e2:e10 (E++[(s,iv v)])=e10 E++[.tup [.str s,iv v]]:=by simp [e10]
 simp only[Fd_,mapB,e2] at*;generalize e10 E=E' at*
 repeat' (first|simp -implicitDefEqProofs only[go_sem,e1,hm,n11]|refine ag_ (fun hb=>?_) (fun hb=>?_)|refine⟨fun hb=>?_,fun hb=>?_⟩|fail)
 exact h _ ⟨_,_,Weak.refl _,rfl,.refl _,subH.at ⟨rfl,rfl,rfl,rfl,rfl,trivial⟩⟩
def Hd_ (nm:Str) (l:List DeclT):List (Nat×Box):=[(1001,⟨false,tcc_,12,[.agg [.str nm,.arr 1002 0 l.length,.nils,.nils,.nils,iv 0,.nils,.nils,.nils,.mapv 1009,.mapv 1010,.mapv 1011]]⟩),(1002,⟨true,taD_,2,l.map d11⟩),(1009,mapB (numE (fun i:Nat=>iv (i:Int)) (l.map (·.name)) 0)),(1010,⟨true,1,0,[]⟩),(1011,⟨true,1,0,[]⟩)]
theorem cdh_ (nm:Str) (l:List DeclT) (x:DeclT) (hl:l.length<32) (hx:x.types.length≤8) (hn:x.name∉l.map (·.name)):HQ G nccd_ [.ref 1001 0 0,t21 x] (Hd_ nm l) .nili (Hd_ nm (l++[x])):=by
 have hk:x.name∉k13 (numE (fun i:Nat=>iv (i:Int)) (l.map (·.name)) 0):=by rw[nk_];exact hn
 have hf:=fdh_ (G:=G) nm l.length (l.map d11) (numE (fun i:Nat=>iv (i:Int)) (l.map (·.name)) 0) x.name l.length l.length 32 (by omega) hk;have hes:numE (fun i:Nat=>iv (i:Int)) ((l++[x]).map (·.name)) 0=numE (fun i:Nat=>iv (i:Int)) (l.map (·.name)) 0++[(x.name,iv (l.length:Int))]:=by rw[zR,yV,yF,na10,yT,zX]
 have hb1:(l.length+1)*40≤140737488355328:=by omega
 have hcl:=cip_ (G:=G) x.types (by omega);have e8:decide (8<(x.types.length:Int))=false:=by simp;omega
 refine hccd_ fun Φ h=>?_;unfold cccd_;unfold Hd_ at*;unfold Fd_ at hf;rw[hes] at h;simp only[zR,yV,yF,zB,xX,xL,yT] at h;generalize numE (fun i:Nat=>iv (i:Int)) (l.map (·.name)) 0=E at*;clear hes hk;obtain⟨x1,x2⟩:=x;simp only[n11,mapB,t21,i10,d11] at*
 repeat' (first|simp -implicitDefEqProofs only[go_sem,t21,i10,d11,hb1,zX,mapB,n11,e8]|refine ag_ (fun hb=>?_) (fun hb=>?_)|refine⟨fun hb=>?_,fun hb=>?_⟩|(refine ach_ [(1001,1001),(1002,1002),(1009,1009),(1010,1010),(1011,1011)] hf rfl ⟨⟨_,_,rfl,rfl,rfl⟩,⟨_,_,rfl,rfl,rfl⟩,⟨_,_,rfl,rfl,rfl⟩,⟨_,_,rfl,rfl,rfl⟩,⟨_,_,rfl,rfl,rfl⟩,trivial⟩ rfl rfl rfl ?_)|refine ac_ hcl rfl rfl ?_|fail)
 exact h _ ⟨_,_,Weak.refl _,rfl,.refl _,subH.at ⟨rfl,rfl,rfl,rfl,rfl,trivial⟩⟩
theorem edh_ (nm:Str) (l:List DeclT) (hl:l.length≤32) (hx:∀x∈l,x.types.length≤8) (hn:(l.map (·.name)).Nodup):HQ G nc18 [.seq 4 (l.map t21),.fn (nccd_+1000000) [.ref 1001 0 0]] (Hd_ nm []) .nili (Hd_ nm l):=by
 have hc:=fun p x (h1:p.length<32) (h3:x.types.length≤8) (h2:x.name∉p.map (·.name))=>cdh_ (G:=G) nm p x h1 h3 h2;refine hc14 fun Φ h=>?_;unfold cc14;simp -implicitDefEqProofs only[go_sem,zX,Hd_];refine al_ (fun n st=>∃i:Nat,i+n=l.length∧st=⟨21,[(1,.fn (nccd_+1000000) [.ref 1001 0 0]),(8,.seq 4 (l.map t21)),(9,iv l.length),(10,iv i)],Hd_ nm (l.take i)⟩) l.length ⟨0,by simp,rfl⟩ ?_;rintro I hI n st ⟨i,hi,rfl⟩;simp -implicitDefEqProofs only[go_sem];refine⟨fun hlt=>?_,fun hge=>?_⟩
 ·have hlt':i<l.length:=by omega
  obtain⟨x,hx1,hxm⟩:=as10 hlt';have hw:=ws_ hlt' (by omega);have hnin:x.name∉(l.take i).map (·.name):=by
   have e:l=l.take i++x::l.drop (i+1):=by rw[←d16 hx1,vA]
   rw[e] at hn;rw[zR,yV] at hn
   skip
   intro hm;exact (xD.1 hn).2.2 _ hm _ yX rfl
  have hc:=hc (l.take i) x (by rw[xY];omega) (hx x hxm) hnin;rw[←t33 hx1] at hc;have hnx:=hI (n - 1) _ ⟨i+1,by omega,rfl⟩;unfold Hd_ at*;generalize l.take (i+1)=p' at*;generalize l.take i=p at*;clear hI h hnin hn;clear hx;obtain⟨x1,x2⟩:=x;simp only[t21,i10,d11,mapB,n11] at*
  repeat' (first|simp -implicitDefEqProofs only[go_sem,am_ hx1,t21,i10,d11,hw,mapB,n11]|refine ag_ (fun hb=>?_) (fun hb=>?_)|refine⟨fun hb=>?_,fun hb=>?_⟩|(refine⟨by kernel_rfl,ach_ [(1001,1001),(1002,1002),(1009,1009),(1010,1010),(1011,1011)] hc rfl ⟨⟨_,_,rfl,rfl,rfl⟩,⟨_,_,rfl,rfl,rfl⟩,⟨_,_,rfl,rfl,rfl⟩,⟨_,_,rfl,rfl,rfl⟩,⟨_,_,rfl,rfl,rfl⟩,trivial⟩ rfl rfl rfl ?_⟩)|fail)
  exact aa_ (n - 1) (by omega) hnx
 ·have:i=l.length:=by omega
  subst this;rw[xS];unfold Hd_ at*
  repeat' (first|simp -implicitDefEqProofs only[go_sem]|refine ag_ (fun hb=>?_) (fun hb=>?_)|refine⟨fun hb=>?_,fun hb=>?_⟩|fail)
  exact h _ ⟨_,_,Weak.refl _,rfl,.refl _,subH.at ⟨rfl,rfl,rfl,rfl,rfl,trivial⟩⟩
def Fq_ (nm:Str) (ds:List DeclT) (m1:List AV) (n:Nat) (R:List AV) (E:Ents):List (Nat×Box):=[(1001,⟨false,tcc_,12,[.agg [.str nm,.seq 2 (ds.map d11),.arr 1003 0 n,.nils,.nils,iv 0,.nils,.nils,.nils,.mapc m1,.mapv 1010,.mapv 1011]]⟩),(1003,⟨true,ta21,3,R⟩),(1010,mapB E),(1011,⟨true,1,0,[]⟩)]
theorem fqh_ (nm:Str) (ds:List DeclT) (m1:List AV) (k:Nat) (R:List AV) (E:Ents) (s:Str) (v:NodeT) (n most:Int) (hn:n<most) (hs:s∉k13 E):HQ G ncfaN_ [.mapv 1010,.agg [.str s,iv 0,iv 0],n11 v,iv n,iv most] (Fq_ nm ds m1 k R E) .nili (Fq_ nm ds m1 k R (E++[(s,n11 v)])):=by
 have hm:=me_ s E 0;rw[fn_ hs] at hm;refine hcfaN_ fun Φ h=>?_;unfold ccfaN_;have e1:decide (most≤n)=false:=by simp;omega
 have e2:e10 (E++[(s,n11 v)])=e10 E++[.tup [.str s,n11 v]]:=by simp [e10]
 simp only[Fq_,mapB,e2] at*;generalize e10 E=E' at*
 repeat' (first|simp -implicitDefEqProofs only[go_sem,e1,hm,n11]|refine ag_ (fun hb=>?_) (fun hb=>?_)|refine⟨fun hb=>?_,fun hb=>?_⟩|fail)
 exact h _ ⟨_,_,Weak.refl _,rfl,.refl _,subH.at ⟨rfl,rfl,rfl,rfl,trivial⟩⟩
def Hq_ (nm:Str) (ds:List DeclT) (m1:List AV) (l:List QuantT):List (Nat×Box):=[(1001,⟨false,tcc_,12,[.agg [.str nm,.seq 2 (ds.map d11),.arr 1003 0 l.length,.nils,.nils,iv 0,.nils,.nils,.nils,.mapc m1,.mapv 1010,.mapv 1011]]⟩),(1003,⟨true,ta21,3,l.map q11⟩),(1010,mapB (numE (fun i:Nat=>n11 ⟨2,(i:Int),0,v0⟩) (l.map (·.name)) 0)),(1011,⟨true,1,0,[]⟩)]
theorem cqh_ (nm:Str) (ds:List DeclT) (m1:List AV) (l:List QuantT) (x:QuantT) (hl:l.length<8) (hn:x.name∉l.map (·.name)):HQ G nccq_ [.ref 1001 0 0,t14 x] (Hq_ nm ds m1 l) .nili (Hq_ nm ds m1 (l++[x])):=by
 have hk:x.name∉k13 (numE (fun i:Nat=>n11 ⟨2,(i:Int),0,v0⟩) (l.map (·.name)) 0):=by rw[nk_];exact hn
 have hf:=fqh_ (G:=G) nm ds m1 (l.length+1) (l.map q11++[q11 x]) (numE (fun i:Nat=>n11 ⟨2,(i:Int),0,v0⟩) (l.map (·.name)) 0) x.name ⟨2,l.length,0,v0⟩ l.length 8 (by omega) hk;have hes:numE (fun i:Nat=>n11 ⟨2,(i:Int),0,v0⟩) ((l++[x]).map (·.name)) 0=numE (fun i:Nat=>n11 ⟨2,(i:Int),0,v0⟩) (l.map (·.name)) 0++[(x.name,n11 ⟨2,(l.length:Int),0,v0⟩)]:=by rw[zR,yV,yF,na10,yT,zX]
 have hb1:(l.length+1)*32≤140737488355328:=by omega
 refine hccq_ fun Φ h=>?_;unfold cccq_;unfold Hq_ at*;unfold Fq_ at hf;rw[hes] at h;simp only[zR,yV,yF,zB,xX,xL,yT] at h;generalize numE (fun i:Nat=>n11 ⟨2,(i:Int),0,v0⟩) (l.map (·.name)) 0=E at*;clear hes hk;obtain⟨x1,x2,x3⟩:=x;simp only[n11,mapB,t14,q11] at*
 repeat' (first|simp -implicitDefEqProofs only[go_sem,t14,q11,hb1,zX,mapB,n11]|refine ag_ (fun hb=>?_) (fun hb=>?_)|refine⟨fun hb=>?_,fun hb=>?_⟩|(refine ach_ [(1001,1001),(1003,1003),(1010,1010),(1011,1011)] hf rfl ⟨⟨_,_,rfl,rfl,rfl⟩,⟨_,_,rfl,rfl,rfl⟩,⟨_,_,rfl,rfl,rfl⟩,⟨_,_,rfl,rfl,rfl⟩,trivial⟩ rfl rfl rfl ?_)|fail)
 exact h _ ⟨_,_,Weak.refl _,rfl,.refl _,subH.at ⟨rfl,rfl,rfl,rfl,trivial⟩⟩
theorem eqh_ (nm:Str) (ds:List DeclT) (m1:List AV) (l:List QuantT) (hl:l.length≤8) (hn:(l.map (·.name)).Nodup):HQ G nc16 [.seq 5 (l.map t14),.fn (nccq_+1000000) [.ref 1001 0 0]] (Hq_ nm ds m1 []) .nili (Hq_ nm ds m1 l):=by
 have hc:=fun p x (h1:p.length<8) (h2:x.name∉p.map (·.name))=>cqh_ (G:=G) nm ds m1 p x h1 h2;refine hc12 fun Φ h=>?_;unfold cc12;simp -implicitDefEqProofs only[go_sem,zX,Hq_];refine al_ (fun n st=>∃i:Nat,i+n=l.length∧st=⟨21,[(1,.fn (nccq_+1000000) [.ref 1001 0 0]),(8,.seq 5 (l.map t14)),(9,iv l.length),(10,iv i)],Hq_ nm ds m1 (l.take i)⟩) l.length ⟨0,by simp,rfl⟩ ?_;rintro I hI n st ⟨i,hi,rfl⟩;simp -implicitDefEqProofs only[go_sem];refine⟨fun hlt=>?_,fun hge=>?_⟩
 ·have hlt':i<l.length:=by omega
  obtain⟨x,hx1,hxm⟩:=as10 hlt';have hw:=ws_ hlt' (by omega);have hnin:x.name∉(l.take i).map (·.name):=by
   have e:l=l.take i++x::l.drop (i+1):=by rw[←d16 hx1,vA]
   rw[e] at hn;rw[zR,yV] at hn
   skip
   intro hm;exact (xD.1 hn).2.2 _ hm _ yX rfl
  have hc:=hc (l.take i) x (by rw[xY];omega) hnin;rw[←t33 hx1] at hc;have hnx:=hI (n - 1) _ ⟨i+1,by omega,rfl⟩;unfold Hq_ at*;generalize l.take (i+1)=p' at*;generalize l.take i=p at*;clear hI h hnin hn
  skip
  obtain⟨x1,x2,x3⟩:=x;simp only[t14,q11,mapB,n11] at*
  repeat' (first|simp -implicitDefEqProofs only[go_sem,am_ hx1,t14,q11,hw,mapB,n11]|refine ag_ (fun hb=>?_) (fun hb=>?_)|refine⟨fun hb=>?_,fun hb=>?_⟩|(refine⟨by kernel_rfl,ach_ [(1001,1001),(1003,1003),(1010,1010),(1011,1011)] hc rfl ⟨⟨_,_,rfl,rfl,rfl⟩,⟨_,_,rfl,rfl,rfl⟩,⟨_,_,rfl,rfl,rfl⟩,⟨_,_,rfl,rfl,rfl⟩,trivial⟩ rfl rfl rfl ?_⟩)|fail)
  exact aa_ (n - 1) (by omega) hnx
 ·have:i=l.length:=by omega
  subst this;rw[xS];unfold Hq_ at*
  repeat' (first|simp -implicitDefEqProofs only[go_sem]|refine ag_ (fun hb=>?_) (fun hb=>?_)|refine⟨fun hb=>?_,fun hb=>?_⟩|fail)
  exact h _ ⟨_,_,Weak.refl _,rfl,.refl _,subH.at ⟨rfl,rfl,rfl,rfl,trivial⟩⟩
def Ff_ (nm:Str) (ds:List DeclT) (qs:List QuantT) (m1:List AV) (n:Nat) (R:List AV) (E:Ents):List (Nat×Box):=[(1001,⟨false,tcc_,12,[.agg [.str nm,.seq 2 (ds.map d11),.seq 3 (qs.map q11),.arr 1004 0 n,.nils,iv 0,.nils,.nils,.nils,.mapc m1,.mapv 1010,.mapv 1011]]⟩),(1004,⟨true,taF_,5,R⟩),(1010,mapB E),(1011,⟨true,1,0,[]⟩)]
theorem ffh_ (nm:Str) (ds:List DeclT) (qs:List QuantT) (m1:List AV) (k:Nat) (R:List AV) (E:Ents) (s:Str) (v:NodeT) (n most:Int) (hn:n<most) (hs:s∉k13 E):HQ G ncfaN_ [.mapv 1010,.agg [.str s,iv 0,iv 0],n11 v,iv n,iv most] (Ff_ nm ds qs m1 k R E) .nili (Ff_ nm ds qs m1 k R (E++[(s,n11 v)])):=by
 have hm:=me_ s E 0;rw[fn_ hs] at hm;refine hcfaN_ fun Φ h=>?_;unfold ccfaN_;have e1:decide (most≤n)=false:=by simp;omega
 have e2:e10 (E++[(s,n11 v)])=e10 E++[.tup [.str s,n11 v]]:=by simp [e10]
 simp only[Ff_,mapB,e2] at*;generalize e10 E=E' at*
 repeat' (first|simp -implicitDefEqProofs only[go_sem,e1,hm,n11]|refine ag_ (fun hb=>?_) (fun hb=>?_)|refine⟨fun hb=>?_,fun hb=>?_⟩|fail)
 exact h _ ⟨_,_,Weak.refl _,rfl,.refl _,subH.at ⟨rfl,rfl,rfl,rfl,trivial⟩⟩
def Hf_ (nm:Str) (ds:List DeclT) (qs:List QuantT) (m1:List AV) (l:List FreeT):List (Nat×Box):=[(1001,⟨false,tcc_,12,[.agg [.str nm,.seq 2 (ds.map d11),.seq 3 (qs.map q11),.arr 1004 0 l.length,.nils,iv 0,.nils,.nils,.nils,.mapc m1,.mapv 1010,.mapv 1011]]⟩),(1004,⟨true,taF_,5,l.map f10⟩),(1010,mapB (numE (fun i:Nat=>n11 ⟨2,(i:Int),0,v0⟩) (qs.map (·.name)) 0++numE (fun i:Nat=>n11 ⟨3,(i:Int),0,v0⟩) (l.map (·.name)) 0)),(1011,⟨true,1,0,[]⟩)]
theorem cfh_ (nm:Str) (ds:List DeclT) (qs:List QuantT) (m1:List AV) (l:List FreeT) (x:FreeT) (hl:l.length<16) (hn:x.name∉qs.map (·.name)++l.map (·.name)):HQ G nccf_ [.ref 1001 0 0,t20 x] (Hf_ nm ds qs m1 l) .nili (Hf_ nm ds qs m1 (l++[x])):=by
 have hk:x.name∉k13 (numE (fun i:Nat=>n11 ⟨2,(i:Int),0,v0⟩) (qs.map (·.name)) 0++numE (fun i:Nat=>n11 ⟨3,(i:Int),0,v0⟩) (l.map (·.name)) 0):=by rw[ka_,nk_,nk_];exact hn
 have hf:=ffh_ (G:=G) nm ds qs m1 (l.length+1) (l.map f10++[f10 x]) (numE (fun i:Nat=>n11 ⟨2,(i:Int),0,v0⟩) (qs.map (·.name)) 0++numE (fun i:Nat=>n11 ⟨3,(i:Int),0,v0⟩) (l.map (·.name)) 0) x.name ⟨3,l.length,0,v0⟩ l.length 16 (by omega) hk;have hes:numE (fun i:Nat=>n11 ⟨2,(i:Int),0,v0⟩) (qs.map (·.name)) 0++numE (fun i:Nat=>n11 ⟨3,(i:Int),0,v0⟩) ((l++[x]).map (·.name)) 0=numE (fun i:Nat=>n11 ⟨2,(i:Int),0,v0⟩) (qs.map (·.name)) 0++numE (fun i:Nat=>n11 ⟨3,(i:Int),0,v0⟩) (l.map (·.name)) 0++[(x.name,n11 ⟨3,(l.length:Int),0,v0⟩)]:=by rw[zR,yV,yF,na10,yT,zX];rw[yI]
 have hb1:(l.length+1)*56≤140737488355328:=by omega
 refine hccf_ fun Φ h=>?_;unfold cccf_;unfold Hf_ at*;unfold Ff_ at hf;rw[hes] at h;simp only[zR,yV,yF,zB,xX,xL,yT] at h;generalize numE (fun i:Nat=>n11 ⟨2,(i:Int),0,v0⟩) (qs.map (·.name)) 0++numE (fun i:Nat=>n11 ⟨3,(i:Int),0,v0⟩) (l.map (·.name)) 0=E at*;clear hes hk;obtain⟨x1,x2⟩:=x;simp only[n11,mapB,t20,f10] at*
 repeat' (first|simp -implicitDefEqProofs only[go_sem,t20,f10,hb1,zX,mapB,n11]|refine ag_ (fun hb=>?_) (fun hb=>?_)|refine⟨fun hb=>?_,fun hb=>?_⟩|(refine ach_ [(1001,1001),(1004,1004),(1010,1010),(1011,1011)] hf rfl ⟨⟨_,_,rfl,rfl,rfl⟩,⟨_,_,rfl,rfl,rfl⟩,⟨_,_,rfl,rfl,rfl⟩,⟨_,_,rfl,rfl,rfl⟩,trivial⟩ rfl rfl rfl ?_)|fail)
 exact h _ ⟨_,_,Weak.refl _,rfl,.refl _,subH.at ⟨rfl,rfl,rfl,rfl,trivial⟩⟩
theorem efh_ (nm:Str) (ds:List DeclT) (qs:List QuantT) (m1:List AV) (l:List FreeT) (hl:l.length≤16) (hn:(qs.map (·.name)++l.map (·.name)).Nodup):HQ G nc17 [.seq 7 (l.map t20),.fn (nccf_+1000000) [.ref 1001 0 0]] (Hf_ nm ds qs m1 []) .nili (Hf_ nm ds qs m1 l):=by
 have hc:=fun p x (h1:p.length<16) (h2:x.name∉qs.map (·.name)++p.map (·.name))=>cfh_ (G:=G) nm ds qs m1 p x h1 h2;refine hc13 fun Φ h=>?_;unfold cc13;simp -implicitDefEqProofs only[go_sem,zX,Hf_];refine al_ (fun n st=>∃i:Nat,i+n=l.length∧st=⟨21,[(1,.fn (nccf_+1000000) [.ref 1001 0 0]),(8,.seq 7 (l.map t20)),(9,iv l.length),(10,iv i)],Hf_ nm ds qs m1 (l.take i)⟩) l.length ⟨0,by simp,rfl⟩ ?_;rintro I hI n st ⟨i,hi,rfl⟩;simp -implicitDefEqProofs only[go_sem];refine⟨fun hlt=>?_,fun hge=>?_⟩
 ·have hlt':i<l.length:=by omega
  obtain⟨x,hx1,hxm⟩:=as10 hlt';have hw:=ws_ hlt' (by omega);have hnin:x.name∉qs.map (·.name)++(l.take i).map (·.name):=by
   have e:l=l.take i++x::l.drop (i+1):=by rw[←d16 hx1,vA]
   rw[e] at hn;rw[zR,yV] at hn;rw[←yI] at hn;intro hm;exact (xD.1 hn).2.2 _ hm _ yX rfl
  have hc:=hc (l.take i) x (by rw[xY];omega) hnin;rw[←t33 hx1] at hc;have hnx:=hI (n - 1) _ ⟨i+1,by omega,rfl⟩;unfold Hf_ at*;generalize l.take (i+1)=p' at*;generalize l.take i=p at*;clear hI h hnin hn
  skip
  obtain⟨x1,x2⟩:=x;simp only[t20,f10,mapB,n11] at*
  repeat' (first|simp -implicitDefEqProofs only[go_sem,am_ hx1,t20,f10,hw,mapB,n11]|refine ag_ (fun hb=>?_) (fun hb=>?_)|refine⟨fun hb=>?_,fun hb=>?_⟩|(refine⟨by kernel_rfl,ach_ [(1001,1001),(1004,1004),(1010,1010),(1011,1011)] hc rfl ⟨⟨_,_,rfl,rfl,rfl⟩,⟨_,_,rfl,rfl,rfl⟩,⟨_,_,rfl,rfl,rfl⟩,⟨_,_,rfl,rfl,rfl⟩,trivial⟩ rfl rfl rfl ?_⟩)|fail)
  exact aa_ (n - 1) (by omega) hnx
 ·have:i=l.length:=by omega
  subst this;rw[xS];unfold Hf_ at*
  repeat' (first|simp -implicitDefEqProofs only[go_sem]|refine ag_ (fun hb=>?_) (fun hb=>?_)|refine⟨fun hb=>?_,fun hb=>?_⟩|fail)
  exact h _ ⟨_,_,Weak.refl _,rfl,.refl _,subH.at ⟨rfl,rfl,rfl,rfl,trivial⟩⟩
def Fs_ (nm:Str) (ds:List DeclT) (qs:List QuantT) (fs:List FreeT) (m1 m2:List AV) (n:Nat) (R:List AV) (E:Ents):List (Nat×Box):=[(1001,⟨false,tcc_,12,[.agg [.str nm,.seq 2 (ds.map d11),.seq 3 (qs.map q11),.seq 5 (fs.map f10),.arr 1005 0 n,iv 0,.nils,.nils,.nils,.mapc m1,.mapc m2,.mapv 1011]]⟩),(1005,⟨true,ta15,3,R⟩),(1011,mapB E)]
theorem fsh_ (nm:Str) (ds:List DeclT) (qs:List QuantT) (fs:List FreeT) (m1 m2:List AV) (k:Nat) (R:List AV) (E:Ents) (s:Str) (v:Int) (n most:Int) (hn:n<most) (hs:s∉k13 E):HQ G ncfi_ [.mapv 1011,.agg [.str s,iv 0,iv 0],iv v,iv n,iv most] (Fs_ nm ds qs fs m1 m2 k R E) .nili (Fs_ nm ds qs fs m1 m2 k R (E++[(s,iv v)])):=by
 have hm:=me_ s E 0;rw[fn_ hs] at hm;refine hcfi_ fun Φ h=>?_;unfold ccfi_;have e1:decide (most≤n)=false:=by simp;omega
 have e2:e10 (E++[(s,iv v)])=e10 E++[.tup [.str s,iv v]]:=by simp [e10]
 simp only[Fs_,mapB,e2] at*;generalize e10 E=E' at*
 repeat' (first|simp -implicitDefEqProofs only[go_sem,e1,hm,n11]|refine ag_ (fun hb=>?_) (fun hb=>?_)|refine⟨fun hb=>?_,fun hb=>?_⟩|fail)
 exact h _ ⟨_,_,Weak.refl _,rfl,.refl _,subH.at ⟨rfl,rfl,rfl,trivial⟩⟩
def Hs_ (nm:Str) (ds:List DeclT) (qs:List QuantT) (fs:List FreeT) (m1 m2:List AV) (l:List StateT):List (Nat×Box):=[(1001,⟨false,tcc_,12,[.agg [.str nm,.seq 2 (ds.map d11),.seq 3 (qs.map q11),.seq 5 (fs.map f10),.arr 1005 0 l.length,iv 0,.nils,.nils,.nils,.mapc m1,.mapc m2,.mapv 1011]]⟩),(1005,⟨true,ta15,3,l.map s13⟩),(1011,mapB (numE (fun i:Nat=>iv (i:Int)) (l.map (·.name)) 0))]
theorem csh_ (nm:Str) (ds:List DeclT) (qs:List QuantT) (fs:List FreeT) (m1 m2:List AV) (l:List StateT) (x:StateT) (hl:l.length<32) (hn:x.name∉l.map (·.name)):HQ G nccs_ [.ref 1001 0 0,t13 x] (Hs_ nm ds qs fs m1 m2 l) .nili (Hs_ nm ds qs fs m1 m2 (l++[x])):=by
 have hk:x.name∉k13 (numE (fun i:Nat=>iv (i:Int)) (l.map (·.name)) 0):=by rw[nk_];exact hn
 have hf:=fsh_ (G:=G) nm ds qs fs m1 m2 (l.length+1) (l.map s13++[s13 x]) (numE (fun i:Nat=>iv (i:Int)) (l.map (·.name)) 0) x.name l.length l.length 32 (by omega) hk;have hes:numE (fun i:Nat=>iv (i:Int)) ((l++[x]).map (·.name)) 0=numE (fun i:Nat=>iv (i:Int)) (l.map (·.name)) 0++[(x.name,iv (l.length:Int))]:=by rw[zR,yV,yF,na10,yT,zX]
 have hb1:(l.length+1)*24≤140737488355328:=by omega
 refine hc15 fun Φ h=>?_;unfold cc18;unfold Hs_ at*;unfold Fs_ at hf;rw[hes] at h;simp only[zR,yV,yF,zB,xX,xL,yT] at h;generalize numE (fun i:Nat=>iv (i:Int)) (l.map (·.name)) 0=E at*;clear hes hk;obtain⟨x1,x2,x3⟩:=x;simp only[n11,mapB,t13,s13] at*
 repeat' (first|simp -implicitDefEqProofs only[go_sem,t13,s13,hb1,zX,mapB,n11]|refine ag_ (fun hb=>?_) (fun hb=>?_)|refine⟨fun hb=>?_,fun hb=>?_⟩|(refine ach_ [(1001,1001),(1005,1005),(1011,1011)] hf rfl ⟨⟨_,_,rfl,rfl,rfl⟩,⟨_,_,rfl,rfl,rfl⟩,⟨_,_,rfl,rfl,rfl⟩,trivial⟩ rfl rfl rfl ?_)|fail)
 exact h _ ⟨_,_,Weak.refl _,rfl,.refl _,subH.at ⟨rfl,rfl,rfl,trivial⟩⟩
theorem esh_ (nm:Str) (ds:List DeclT) (qs:List QuantT) (fs:List FreeT) (m1 m2:List AV) (l:List StateT) (hl:l.length≤32) (hn:(l.map (·.name)).Nodup):HQ G nc15 [.seq 5 (l.map t13),.fn (nccs_+1000000) [.ref 1001 0 0]] (Hs_ nm ds qs fs m1 m2 []) .nili (Hs_ nm ds qs fs m1 m2 l):=by
 have hc:=fun p x (h1:p.length<32) (h2:x.name∉p.map (·.name))=>csh_ (G:=G) nm ds qs fs m1 m2 p x h1 h2;refine hc11 fun Φ h=>?_;unfold cc11;simp -implicitDefEqProofs only[go_sem,zX,Hs_];refine al_ (fun n st=>∃i:Nat,i+n=l.length∧st=⟨21,[(1,.fn (nccs_+1000000) [.ref 1001 0 0]),(8,.seq 5 (l.map t13)),(9,iv l.length),(10,iv i)],Hs_ nm ds qs fs m1 m2 (l.take i)⟩) l.length ⟨0,by simp,rfl⟩ ?_;rintro I hI n st ⟨i,hi,rfl⟩;simp -implicitDefEqProofs only[go_sem];refine⟨fun hlt=>?_,fun hge=>?_⟩
 ·have hlt':i<l.length:=by omega
  obtain⟨x,hx1,hxm⟩:=as10 hlt';have hw:=ws_ hlt' (by omega);have hnin:x.name∉(l.take i).map (·.name):=by
   have e:l=l.take i++x::l.drop (i+1):=by rw[←d16 hx1,vA]
   rw[e] at hn;rw[zR,yV] at hn
   skip
   intro hm;exact (xD.1 hn).2.2 _ hm _ yX rfl
  have hc:=hc (l.take i) x (by rw[xY];omega) hnin;rw[←t33 hx1] at hc;have hnx:=hI (n - 1) _ ⟨i+1,by omega,rfl⟩;unfold Hs_ at*;generalize l.take (i+1)=p' at*;generalize l.take i=p at*;clear hI h hnin hn
  skip
  obtain⟨x1,x2,x3⟩:=x;simp only[t13,s13,mapB,n11] at*
  repeat' (first|simp -implicitDefEqProofs only[go_sem,am_ hx1,t13,s13,hw,mapB,n11]|refine ag_ (fun hb=>?_) (fun hb=>?_)|refine⟨fun hb=>?_,fun hb=>?_⟩|(refine⟨by kernel_rfl,ach_ [(1001,1001),(1005,1005),(1011,1011)] hc rfl ⟨⟨_,_,rfl,rfl,rfl⟩,⟨_,_,rfl,rfl,rfl⟩,⟨_,_,rfl,rfl,rfl⟩,trivial⟩ rfl rfl rfl ?_⟩)|fail)
  exact aa_ (n - 1) (by omega) hnx
 ·have:i=l.length:=by omega
  subst this;rw[xS];unfold Hs_ at*
  repeat' (first|simp -implicitDefEqProofs only[go_sem]|refine ag_ (fun hb=>?_) (fun hb=>?_)|refine⟨fun hb=>?_,fun hb=>?_⟩|fail)
  exact h _ ⟨_,_,Weak.refl _,rfl,.refl _,subH.at ⟨rfl,rfl,rfl,trivial⟩⟩
