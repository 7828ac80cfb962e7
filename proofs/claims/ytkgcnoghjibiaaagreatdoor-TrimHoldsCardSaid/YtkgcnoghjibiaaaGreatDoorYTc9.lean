/- Lemmas. -/
import Derived.Test.YtkgcnoghjibiaaaGreatDoorYTw3
set_option linter.unusedSimpArgs false
set_option maxHeartbeats 4000000
set_option maxRecDepth 100000
namespace Go.Proofs.YtkgcnoghjibiaaaGreatDoor.Ab
open Go Go.RowKit
variable {G:Nat->Option AV}
theorem bT1p_ (x:DeclT) (_h0:x.types.length<=1000000):PQ G 40 [d12 x] (t32 x):=by
 have hc:=bip_ (G:=G) x.name;have hd:=cip_ (G:=G) x.types _h0;refine pbT1z λΦ h=>?_;unfold cbT1z;simp only[i11] at hd
 repeat' (first|simp -implicitDefEqProofs only[go_sem,d12,i11]|apply ai__<;>intro hb|refine ac_ hc rfl rfl ?_|refine ac_ hd rfl rfl ?_|fail)
 exact hq_ h
theorem bT2p_ (x:QuantT):PQ G 43 [q11 x] (t24 x):=by
 have hc:=bip_ (G:=G) x.name;refine pbT2z λΦ h=>?_;unfold cbT2z
 repeat' (first|simp -implicitDefEqProofs only[go_sem,q11]|apply ai__<;>intro hb|refine ac_ hc rfl rfl ?_|fail)
 exact hq_ h
theorem bT3p_ (x:FreeT):PQ G 45 [f10 x] (t31 x):=by
 have hc:=bip_ (G:=G) x.name;refine pbT3z λΦ h=>?_;unfold cbT3z
 repeat' (first|simp -implicitDefEqProofs only[go_sem,f10]|apply ai__<;>intro hb|refine ac_ hc rfl rfl ?_|fail)
 exact hq_ h
theorem bT4p_ (x:StateT):PQ G 47 [s14 x] (t14 x):=by
 have hc:=bip_ (G:=G) x.name;refine pbT4z λΦ h=>?_;unfold cbT4z
 repeat' (first|simp -implicitDefEqProofs only[go_sem,s14]|apply ai__<;>intro hb|refine ac_ hc rfl rfl ?_|fail)
 exact hq_ h
def symN (l:List TransT):List Nat:=l.map λt=>t.symbol.toNat
def u16 (n:Nat) (ks:List Nat):List Bool:=(List.range n).map λk=>decide (k∈ks)
theorem un10 (n:Nat):(u16 n []).map AV.bool=List.replicate n (.bool false):=by refine vW (by simp [u16]) λi h1 h2=>?_;simp [u16]
theorem ua10 {n k:Nat} {ks:List Nat} (h:k<n):((u16 n ks).map AV.bool)[k]?=some (.bool (decide (k∈ks))):=by simp [u16,h]
theorem us11 {n k:Nat} {ks:List Nat} (_h:k<n):((u16 n ks).map AV.bool).set k (.bool true)=(u16 n (ks++[k])).map AV.bool:=by
 refine vW (by simp [u16]) λi h1 h2=>?_;rw[List.getElem_set];split
 .rename_i e;subst e;simp [u16]
 .rename_i e;have:¬i=k:=λx=>e x.symm;simp [u16,this]
def r13 (n:Nat) (ks:List Nat):List Nat:=(List.range n).filter λx=>decide (x∉ks)
theorem rs18 (n:Nat) (ks:List Nat):r13 (n+1) ks=r13 n ks++if n∈ks then [] else [n]:=by unfold r13;rw[tF,vP];by_cases h:n∈ks <;> simp [h]
def s31 (q:QeaT) (k:Nat):TSymT:=s36 q (k:Int)
theorem sa12 {q:QeaT} {k:Nat} {s:SymT} (h:q.symbols[k]?=some s):s31 q k=symT q s:=by unfold s31 s36;rw[at?_nat h]
def t19 (q:QeaT):TreeT:=⟨q.name,q.decls,q.quants,q.frees,q.states,s24 q q.start,(r13 q.symbols.length (symN q.trans)).map (s31 q),(segs q.trans 0).map (trT q)⟩
structure WrOk (q:QeaT):Prop where
 wn:q.nodes.length<=1000
 wt:q.trans.length<=1000
 wy:q.symbols.length<=1000
 wl:q.decls.length<=1000∧q.quants.length<=1000∧q.frees.length<=1000∧q.states.length<=1000
 wd:∀d∈q.decls,d.types.length<=1000
 ws:∃x,at? q.states q.start=some x
 wk:∀s∈q.symbols,S12 q s
 wr:∀x∈segs q.trans 0,TrW q x.1 x.2
 wx:∀t∈q.trans,0<=t.symbol∧t.symbol<q.symbols.length
theorem bTp_ (hG:wg_ G) (q:QeaT) (hq:q.Few) (hr:r20 q=true) (hw:WrOk q):PQ G 14 [qeaV q] (.tup [t27 (t19 q),.bool true]):=by
 obtain⟨wn,wt,wy,⟨wl1,wl2,wl3,wl4⟩,wd,⟨x,hx⟩,wk,wr,wx⟩:=hw;have hc:=cRp_ (G:=G) hG q hq;rw[hr] at hc;have hid:=bip_ (G:=G) q.name;have hid2:=bip_ (G:=G) x.name;have h1:=beaDaTp_ (G:=G) 40 (by kernel_rfl) id q.decls (λx hx=>bT1p_ x (by have:=wd x hx;omega)) (by omega);have h2:=beaQaTp_ (G:=G) 43 (by kernel_rfl) id q.quants (λx hx=>bT2p_ x) (by omega);have h3:=beaFaTp_ (G:=G) 45 (by kernel_rfl) id q.frees (λx hx=>bT3p_ x) (by omega);have h4:=beaSaTp_ (G:=G) 47 (by kernel_rfl) id q.states (λx hx=>bT4p_ x) (by omega);have h5:=btp_ (G:=G) q wn wt wr;rw[tA] at h1 h2 h3 h4;have hsy:=λs (hs:s∈q.symbols)=>bsp_ (G:=G) q s (wk s hs);obtain⟨xi,hxi,hxs⟩:=at?_some hx;have hidx:∀H,a16 H 3 (.seq 3 (q.states.map s14)) (.int .i64 q.start)=some (.eptr (s14 x) 0):=λH=>by rw[hxi];exact am_ hxs
 refine pbT_ λΦ h=>?_;unfold cbT_;unfold t19 at h;simp only[s24,hx] at h;generalize (segs q.trans 0).map (trT q)=Y at*;simp only[qeaV,d_,q_,f_,s_,s10,n_,t_,t33] at hc h1 h2 h3 h4 h5 hsy;have hb:q.symbols.length*1<=140737488355328:=by omega
 repeat' (first|simp -implicitDefEqProofs only[go_sem,qeaV,d_,q_,f_,s_,s10,n_,t_,zQ,hidx,s14,an13 hb]|apply ai__<;>intro hb|refine ac_ hc rfl rfl ?_|refine ac_ hid rfl rfl ?_|refine ac_ hid2 rfl rfl ?_|refine ac_ h1 rfl rfl ?_|refine ac_ h2 rfl rfl ?_|refine ac_ h3 rfl rfl ?_|refine ac_ h4 rfl rfl ?_|refine ac_ h5 rfl rfl ?_|fail)
 clear hc hid hid2 h1 h2 h3 h4 h5
 refine al_ (λn st=>∃i:Nat,i+n=q.trans.length∧st=⟨81,[(1,.ref 1 0 0),(2,.ref 2 0 0),(4,.ref 4 0 0),(5,.arr 42 0 q.symbols.length),(45,iv q.trans.length),(46,iv i)],
  [(1,⟨false,30,9,[qeaV q]⟩),(2,⟨false,63,12,[.agg [.str [],iv 0,iv 0,.nils,.nils,.nils,.nils,.str [],iv 0,iv 0,.nils,.nils]]⟩),(4,⟨false,63,12,[.agg [.str q.name,iv 0,iv 0,.seq 4 (q.decls.map t32),.seq 5 (q.quants.map t24),.seq 7 (q.frees.map t31),.seq 5 (q.states.map t14),.str x.name,iv 0,iv 0,.nils,.seq 13 (Y.map tTrV)]]⟩),(42,⟨true,4,1,(u16 q.symbols.length (symN (q.trans.take i))).map AV.bool⟩)]⟩) q.trans.length
  ⟨0,by simp,by rw[show symN (q.trans.take 0)=[] from rfl,un10];simp [qeaV,d_,q_,f_,s_,s10,n_,t_];rfl⟩ ?_
 rintro I hI n st ⟨i,hi,rfl⟩;simp -implicitDefEqProofs only[go_sem,qeaV,d_,q_,f_,s_,s10,n_,t_];refine⟨λhlt=>?_,λhge=>?_⟩
 .have hlt':i<q.trans.length:=by omega
  obtain⟨t,ht,htm⟩:=as10 hlt';have hw:=ws_ hlt';obtain⟨k1,k2⟩:=wx t htm;obtain⟨k,hk⟩:=zA k1;have hkn:k<q.symbols.length:=by omega
  have hat:=ua10 (ks:=symN (q.trans.take i)) hkn;have hset:=us11 (ks:=symN (q.trans.take i)) hkn;rw[show symN (q.trans.take i)++[k]=symN (q.trans.take (i+1)) by rw[t39 ht];simp [symN,hk]] at hset;have hnx:=hI (n - 1) _ ⟨i+1,by omega,rfl⟩;rw[<-hset] at hnx;generalize (u16 q.symbols.length (symN (q.trans.take i))).map AV.bool=U at*;obtain⟨t1,t2,t3,t4,t5⟩:=t;simp only at hk;subst hk;clear hI h hset
  repeat' (first|simp -implicitDefEqProofs only[go_sem,qeaV,d_,q_,f_,s_,s10,n_,t_,am_ ht,t11,hw,aa10 hkn,hat]|apply ai__<;>intro hb)
  exact aa_ (n - 1) (by omega) (by simpa [qeaV,d_,q_,f_,s_,s10,n_,t_] using hnx)
 .have:i=q.trans.length:=by omega
  subst this;clear hI;rw[wV];simp -implicitDefEqProofs only[go_sem,qeaV,d_,q_,f_,s_,s10,n_,t_,zQ]
  refine al11 (λn st=>∃(i:Nat) (m:List TSymT),i+n=q.symbols.length∧st=⟨81,[(1,.ref 1 0 0),(2,.ref 2 0 0),(4,.ref 4 0 0),(5,.arr 42 0 q.symbols.length),(59,s10 q.symbols),(60,iv q.symbols.length),(61,iv i)],
   [(1,⟨false,30,9,[qeaV q]⟩),(2,⟨false,63,12,[.agg [.str [],iv 0,iv 0,.nils,.nils,.nils,.nils,.str [],iv 0,iv 0,.nils,.nils]]⟩),(4,⟨false,63,12,[.agg [.str q.name,iv 0,iv 0,.seq 4 (q.decls.map t32),.seq 5 (q.quants.map t24),.seq 7 (q.frees.map t31),.seq 5 (q.states.map t14),.str x.name,iv 0,iv 0,.arr 77 0 m.length,.seq 13 (Y.map tTrV)]]⟩),(42,⟨true,4,1,(u16 q.symbols.length (symN q.trans)).map AV.bool⟩),(77,⟨true,78,4,m.map t28⟩)]⟩∧m=(r13 i (symN q.trans)).map (s31 q)) q.symbols.length _ (wn11 (c:=4) 77 10 78 4 rfl rfl (xS rfl) rfl (xN _) (xN _) rfl rfl) ⟨0,[],by simp,rfl,rfl⟩ ?_
  rintro I hI n st ⟨i,m,hi,rfl,hm⟩;have hml:m.length<=i:=by rw[hm,zQ];unfold r13;exact vY (xH _ _) (by simp)
  simp -implicitDefEqProofs only[go_sem,qeaV,d_,q_,f_,s_,s10,n_,t_,zQ];refine⟨λhlt=>?_,λhge=>?_⟩
  .have hlt':i<q.symbols.length:=by omega
   obtain⟨s,hs,hsm⟩:=as10 hlt';have hw:=ws_ hlt';have hat:=ua10 (ks:=symN q.trans) hlt';have hsy:=hsy s hsm;have hsu:=rs18 i (symN q.trans);have hb1:(m.length+1)*56<=140737488355328:=by omega
   have hso:=sa12 hs;generalize (u16 q.symbols.length (symN q.trans)).map AV.bool=U at*;by_cases hc:i∈symN q.trans
   .rw[wQ hc] at hat;rw[zY hc,xT] at hsu;have hnx:=hI (n - 1) _ ⟨i+1,m,by omega,rfl,by rw[hsu];exact hm⟩;clear hI h hsy
    repeat' (first|simp -implicitDefEqProofs only[go_sem,qeaV,d_,q_,f_,s_,s10,n_,t_,am_ hs,symV,a10,hw,aa10 hlt',hat]|apply ai__<;>intro hb)
    exact ae__ hnx
   .rw[wA hc] at hat;rw[zK hc] at hsu;have hnx:=hI (n - 1) _ ⟨i+1,m++[symT q s],by omega,rfl,by rw[hsu,zE,hm,<-hso];rfl⟩;generalize symT q s=y at*;obtain⟨yn,yl⟩:=y;simp only[symV,a10,t28,t17] at hsy;simp only[zE,yJ,yU,zL,yH,xY,t28,t17] at hnx;clear hI h
    repeat' (first|simp -implicitDefEqProofs only[go_sem,qeaV,d_,q_,f_,s_,s10,n_,t_,am_ hs,symV,a10,hw,aa10 hlt',hat,zQ,hb1]|apply ai__<;>intro hb|refine ac_ hsy rfl rfl ?_|fail)
    exact ae__ hnx
  .have:i=q.symbols.length:=by omega
   subst this;rw[<-hm] at h;refine h _ ⟨_,.tup [t27 ⟨q.name,q.decls,q.quants,q.frees,q.states,x.name,m,Y⟩,.bool true],rfl,?_,.refl _⟩;simp [one,view,view.go,hget,eget,AV.cells,t27,t22,t13,t21,t16,t23,t33]
   try rw[zT (by simp)]
def natI (m:List Nat):List Int:=m.map λ(k:Nat)=>(k:Int)
theorem na13 (m:List Nat) (k:Nat):((natI m).any λx=>(k:Int)==x)=decide (k∈m):=by
 rw[yY,yE,zW];unfold natI;constructor
 .rintro⟨x,hx,e⟩;obtain⟨y,hy,rfl⟩:=zI.1 hx
  have:k=y:=by have:(k:Int)=(y:Int):=by simpa using e
               omega
  exact this ▸ hy
 .exact λh=>⟨_,zI.2 ⟨k,h,rfl⟩,by simp⟩
theorem dc10 (m:List Nat) (k:Nat) (r:List Nat):dd m (k::r)=if k∈m then dd m r else dd (m++[k]) r:=by
 conv=>lhs;unfold dd
theorem oh_ (q:QeaT) (sl:List StateT) (st:Int) (ys:List SymT) (ns:List NodeT) (ts:List TransT) (hyl:ys.length<=1000) (htl:ts.length<=1000) (hts:∀t∈ts,0<=t.symbol∧t.symbol<ys.length) (hp:r13 ys.length (symN ts)++dd [] (symN ts)=List.range ys.length):
  HQ G 137 [.ref 1001 0 0] (HK q sl st ys ns ts) (.tup []) [(1001,⟨false,154,12,[ckC q sl st (.seq 2 (ys.map symV)) (.arr 1007 0 ns.length) (.arr 1008 0 ts.length)]⟩),(1007,⟨true,112,7,ns.map n11⟩),(1008,⟨true,95,5,ts.map t11⟩)]:=by
 have hcon:=λ(m:List Nat) (hm:m.length<=1000) (k:Nat)=>sCiip_ (G:=G) (natI m) (k:Int) (by simp [natI];omega);have hDm:∀k,k∈dd [] (symN ts)↔k∈symN ts:=λk=>by rw[dm_];simp
 have hDl:(dd [] (symN ts)).length<=1000:=by have:=tM List.length hp;rw[zL,xE] at this;omega
 have hDa:=da11;refine hcco_ λΦ h=>?_;unfold ccco_;unfold HK ckB at*;unfold ckC at*;generalize e13 (dE q)=E1 at*;generalize e13 (vE q)=E2 at*;generalize e13 (sE sl)=E3 at*;simp -implicitDefEqProofs only[go_sem,zQ]
 refine al_ (λn st'=>∃(i:Nat) (m:List Nat),i+n=ts.length∧st'=⟨106,[(0,.ref 1001 0 0),(2,.arr 2 0 0),(3,.arr 3 0 m.length),(16,.arr 1008 0 ts.length),(17,iv ts.length),(18,iv i)],
  [(2,⟨true,3,1,[]⟩),(3,⟨true,3,1,(natI m).map iv⟩),(1001,⟨false,154,12,[.agg [.str q.name,.seq 2 (q.decls.map d12),.seq 3 (q.quants.map q11),.seq 5 (q.frees.map f10),.seq 3 (sl.map s14),iv st,.arr 1006 0 ys.length,.arr 1007 0 ns.length,.arr 1008 0 ts.length,.mapc E1,.mapc E2,.mapc E3]]⟩),(1006,⟨true,106,2,ys.map symV⟩),(1007,⟨true,112,7,ns.map n11⟩),(1008,⟨true,95,5,ts.map t11⟩)]⟩∧dd m (symN (ts.drop i))=dd [] (symN ts)∧m.length<=i) ts.length ⟨0,[],by simp,rfl,rfl,by simp⟩ ?_
 rintro I hI n st' ⟨i,m,hi,rfl,hm,hml⟩;simp -implicitDefEqProofs only[go_sem];refine⟨λhlt=>?_,λhge=>?_⟩
 .have hlt':i<ts.length:=by omega
  obtain⟨t,hx,hxm⟩:=as10 hlt';have hw:=ws_ hlt';obtain⟨k0,k1⟩:=hts t hxm;obtain⟨k,hk⟩:=zA k0;have hc:=hcon m (by omega) k;rw[na13] at hc;have hxt:(ts.map t11)[i]?=some (t11 t):=by rw[zS,hx];rfl
  have hnl:(natI m).length=m.length:=by simp [natI]
  have tk:((natI m).map iv).take m.length=(natI m).map iv:=by rw[<-hnl];exact t25 _ _
  have hb1:(m.length+1)*8<=140737488355328:=by omega
  have hd:symN (ts.drop i)=k::symN (ts.drop (i+1)):=by rw[da10 hx];simp [symN,hk]
  rw[hd,dc10] at hm;by_cases hin:k∈m
  .rw[zY hin] at hm;rw[wQ hin] at hc;have hnx:=hI (n - 1) _ ⟨i+1,m,by omega,rfl,hm,by omega⟩;obtain⟨t1,t2,t3,t4,t5⟩:=t;simp only at hk;subst hk;generalize natI m=M at*;clear hI h
   repeat' (first|simp -implicitDefEqProofs only[go_sem,aa10 hlt',hxt,t11,s18,hw]|apply ai__<;>intro hb|(refine ac_ hc (by simp [v10,flat,flat.go,viewBs,viewB,viewK,viewK.go,hget,t25,tk,hnl]) rfl ?_)|fail)
   exact ae__ hnx
  .rw[zK hin] at hm;rw[wA hin] at hc;have hnx:=hI (n - 1) _ ⟨i+1,m++[k],by omega,rfl,hm,by simp;omega⟩;rw[show (natI (m++[k])).map iv=(natI m).map iv++[iv (k:Int)] by simp [natI],show (m++[k]).length=m.length+1 by simp] at hnx;obtain⟨t1,t2,t3,t4,t5⟩:=t;simp only at hk;subst hk;generalize natI m=M at*;clear hI h
   repeat' (first|simp -implicitDefEqProofs only[go_sem,aa10 hlt',hxt,t11,s18,hw,hnl,hb1,zQ]|apply ai__<;>intro hb|(refine ac_ hc (by simp [v10,flat,flat.go,viewBs,viewB,viewK,viewK.go,hget,t25,tk,hnl]) rfl ?_)|fail)
   exact ae__ hnx
 .have:i=ts.length:=by omega
  subst this;rw[uO] at hm;have hm:m=dd [] (symN ts):=hm;subst hm;clear hI I;have hnl:(natI (dd [] (symN ts))).length=(dd [] (symN ts)).length:=by simp [natI]
  have tk:((natI (dd [] (symN ts))).map iv).take (dd [] (symN ts)).length=(natI (dd [] (symN ts))).map iv:=by rw[<-hnl];exact t25 _ _
  try (simp -implicitDefEqProofs only[go_sem,zQ])
  refine al_ (λn st'=>∃(i:Nat),i+n=ys.length∧st'=⟨106,[(0,.ref 1001 0 0),(2,.arr 2 0 (r13 i (symN ts)).length),(3,.arr 3 0 (dd [] (symN ts)).length),(38,iv ys.length),(39,iv i)],
   [(2,⟨true,3,1,(natI (r13 i (symN ts))).map iv⟩),(3,⟨true,3,1,(natI (dd [] (symN ts))).map iv⟩),(1001,⟨false,154,12,[.agg [.str q.name,.seq 2 (q.decls.map d12),.seq 3 (q.quants.map q11),.seq 5 (q.frees.map f10),.seq 3 (sl.map s14),iv st,.arr 1006 0 ys.length,.arr 1007 0 ns.length,.arr 1008 0 ts.length,.mapc E1,.mapc E2,.mapc E3]]⟩),(1006,⟨true,106,2,ys.map symV⟩),(1007,⟨true,112,7,ns.map n11⟩),(1008,⟨true,95,5,ts.map t11⟩)]⟩) ys.length ⟨0,by simp,rfl⟩ ?_
  rintro I hI n st' ⟨i,hi,rfl⟩;simp -implicitDefEqProofs only[go_sem];refine⟨λhlt=>?_,λhge=>?_⟩
  .have hlt':i<ys.length:=by omega
   have hw:=ws_ hlt';have hc:=hcon (dd [] (symN ts)) hDl i;rw[na13] at hc;have hsu:=rs18 i (symN ts);have hrl:(r13 i (symN ts)).length<=i:=by unfold r13;exact vY (xH _ _) (by simp)
   have hb1:((r13 i (symN ts)).length+1)*8<=140737488355328:=by omega
   have hrn:(natI (r13 i (symN ts))).length=(r13 i (symN ts)).length:=by simp [natI]
   have hnx:=hI (n - 1) _ ⟨i+1,by omega,rfl⟩;rw[hsu] at hnx;by_cases hin:i∈symN ts
   .rw[zY hin,xT] at hnx;rw[wQ ((hDm i).2 hin)] at hc;generalize r13 i (symN ts)=R at*;generalize dd [] (symN ts)=D at*;generalize natI D=DI at*;clear hI h hp
    repeat' (first|simp -implicitDefEqProofs only[go_sem,hw]|apply ai__<;>intro hb|(refine ac_ hc (by simp [v10,flat,flat.go,viewBs,viewB,viewK,viewK.go,hget,t25,tk,hnl]) rfl ?_)|fail)
    exact ae__ hnx
   .rw[zK hin] at hnx;rw[wA (λe=>hin ((hDm i).1 e))] at hc;rw[show (natI (r13 i (symN ts)++[i])).map iv=(natI (r13 i (symN ts))).map iv++[iv (i:Int)] by simp [natI],show (r13 i (symN ts)++[i]).length=(r13 i (symN ts)).length+1 by simp] at hnx;generalize r13 i (symN ts)=R at*;generalize natI R=RI at*;generalize dd [] (symN ts)=D at*;generalize natI D=DI at*;clear hI h hp
    repeat' (first|simp -implicitDefEqProofs only[go_sem,hw,hrn,hb1,zQ]|apply ai__<;>intro hb|(refine ac_ hc (by simp [v10,flat,flat.go,viewBs,viewB,viewK,viewK.go,hget,t25,tk,hnl]) rfl ?_)|fail)
    exact ae__ hnx
  .have:i=ys.length:=by omega
   subst this;clear hI I;have hrn:(natI (r13 ys.length (symN ts))).length=(r13 ys.length (symN ts)).length:=by simp [natI]
   have hsum:(r13 ys.length (symN ts)).length+(dd [] (symN ts)).length=ys.length:=by
    have:=tM List.length hp
    rwa [zL,xE] at this
   have hall:(natI (r13 ys.length (symN ts))).map iv++(natI (dd [] (symN ts))).map iv=(List.range ys.length).map λk:Nat=>iv (k:Int):=by rw[<-zE];unfold natI;rw[<-zE,hp,sJ];rfl
   have hb1:ys.length*8<=140737488355328:=by omega
   generalize natI (r13 ys.length (symN ts))=RI at*;generalize natI (dd [] (symN ts))=DI at*;generalize (r13 ys.length (symN ts)).length=rl at*;generalize (dd [] (symN ts)).length=dl at*;simp -implicitDefEqProofs only[go_sem,zQ,hrn,hnl,tk,hsum,hall,hb1,zN];clear hcon hDm hDl hDa hrn hnl tk hsum hp
   refine al_ (λn st'=>∃(i:Nat),i+n=ys.length∧st'=⟨106,[(0,.ref 1001 0 0),(7,.arr 7 0 i),(8,.arr 2 0 ys.length),(54,.arr 2 0 ys.length),(55,iv ys.length),(56,iv i)],
    [(2,⟨true,3,1,(List.range ys.length).map λk:Nat=>iv (k:Int)⟩),(3,⟨true,3,1,DI.map iv⟩),(7,⟨true,106,2,(ys.take i).map symV⟩),(1001,⟨false,154,12,[.agg [.str q.name,.seq 2 (q.decls.map d12),.seq 3 (q.quants.map q11),.seq 5 (q.frees.map f10),.seq 3 (sl.map s14),iv st,.arr 1006 0 ys.length,.arr 1007 0 ns.length,.arr 1008 0 ts.length,.mapc E1,.mapc E2,.mapc E3]]⟩),(1006,⟨true,106,2,ys.map symV⟩),(1007,⟨true,112,7,ns.map n11⟩),(1008,⟨true,95,5,ts.map t11⟩)]⟩) ys.length ⟨0,by simp,rfl⟩ ?_
   rintro I hI n st' ⟨i,hi,rfl⟩;simp -implicitDefEqProofs only[go_sem];refine⟨λhlt=>?_,λhge=>?_⟩
   .have hlt':i<ys.length:=by omega
    obtain⟨y,hy,hym⟩:=as10 hlt';have hw:=ws_ hlt';have h2:((List.range ys.length).map λk:Nat=>iv (k:Int))[i]?=some (iv (i:Int)):=by rw[zS,xR hlt'];rfl
    have h6:(ys.map symV)[i]?=some (symV y):=by rw[zS,hy];rfl
    have hb2:(i+1)*32<=140737488355328:=by omega
    have htl2:(ys.take i).length=i:=by rw[xG];omega
    have hnx:=hI (n - 1) _ ⟨i+1,by omega,rfl⟩;rw[t39 hy,zE] at hnx;generalize (List.range ys.length).map (λk:Nat=>iv (k:Int))=RG at*;generalize ys.take i=YT at*;obtain⟨y1,y2⟩:=y;simp only[yJ,yU,symV,a10] at hnx;clear hI h
    repeat' (first|simp -implicitDefEqProofs only[go_sem,aa10 hlt',h2,h6,symV,a10,hw,hb2,htl2,zQ]|apply ai__<;>intro hb)
    exact ae__ hnx
   .have:i=ys.length:=by omega
    subst this;clear hI I;rw[wV]
    try (simp -implicitDefEqProofs only[go_sem,zQ])
    refine al_ (λn st'=>∃(i:Nat),i+n=ts.length∧st'=⟨106,[(0,.ref 1001 0 0),(8,.arr 2 0 ys.length),(82,iv ts.length),(83,iv i)],
     [(2,⟨true,3,1,(List.range ys.length).map λk:Nat=>iv (k:Int)⟩),(3,⟨true,3,1,DI.map iv⟩),(7,⟨true,106,2,ys.map symV⟩),(1001,⟨false,154,12,[.agg [.str q.name,.seq 2 (q.decls.map d12),.seq 3 (q.quants.map q11),.seq 5 (q.frees.map f10),.seq 3 (sl.map s14),iv st,.arr 7 0 ys.length,.arr 1007 0 ns.length,.arr 1008 0 ts.length,.mapc E1,.mapc E2,.mapc E3]]⟩),(1006,⟨true,106,2,ys.map symV⟩),(1007,⟨true,112,7,ns.map n11⟩),(1008,⟨true,95,5,ts.map t11⟩)]⟩) ts.length ⟨0,by simp,rfl⟩ ?_
    rintro I hI n st' ⟨i,hi,rfl⟩;simp -implicitDefEqProofs only[go_sem];refine⟨λhlt=>?_,λhge=>?_⟩
    .have hlt':i<ts.length:=by omega
     obtain⟨t,hx,hxm⟩:=as10 hlt';have hw:=ws_ hlt';obtain⟨k0,k1⟩:=hts t hxm;obtain⟨k,hk⟩:=zA k0;have hc:=sIiip_ (G:=G) (natI (List.range ys.length)) (k:Int) (by simp [natI];omega);have hidx:idxF (λx=>(k:Int)==x) (natI (List.range ys.length))=(k:Int):=by refine ia_ (x:=(k:Int)) (by unfold natI;rw[zS,xR (by omega)];rfl) (by simp) λj y hj hy=>?_;unfold natI at hy;rw[zS,xR (by omega)] at hy;cases hy;simp;omega
     rw[hidx] at hc;have hnr:(natI (List.range ys.length)).map iv=(List.range ys.length).map λk:Nat=>iv (k:Int):=by unfold natI;rw[sJ];rfl
     rw[hnr] at hc;have hRl:((List.range ys.length).map λk:Nat=>iv (k:Int)).length=ys.length:=by simp
     have hxt:(ts.map t11)[i]?=some (t11 t):=by rw[zS,hx];rfl
     have hset:(ts.map t11).set i (t11 t)=ts.map t11:=by obtain⟨h1,h2⟩:=zX.1 hxt;rw[<-h2,List.set_getElem_self]
     have hnx:=hI (n - 1) _ ⟨i+1,by omega,rfl⟩;obtain⟨t1,t2,t3,t4,t5⟩:=t;simp only at hk;subst hk;simp only[t11,s18] at hset hxt;generalize (List.range ys.length).map (λk:Nat=>iv (k:Int))=RG at*;have tk:RG.take ys.length=RG:=zT (by omega);generalize ts.map t11=TV at*;clear hI h
     repeat' (first|simp -implicitDefEqProofs only[go_sem,aa10 hlt',hxt,hset,hw]|apply ai__<;>intro hb|(refine ac_ hc (by simp [v10,flat,flat.go,viewBs,viewB,viewK,viewK.go,hget,tk,hRl]) rfl ?_)|fail)
     exact ae__ hnx
    .have e:(ys.map symV).take ys.length=ys.map symV:=t25 _ _;have e2:(ys.map symV).length=ys.length:=by simp
     generalize hY:ys.map symV=YV at*;refine h _ ⟨_,_,wt_ (i:=7) rfl rfl,rfl,.refl _,λi b hi=>?_⟩;have hst:thaw 7 ⟨true,106,2,YV⟩ (.arr 7 0 ys.length)= .seq 2 YV:=by simp [thaw,e,e2]
     simp only[hget] at hi;simp only[St.thaw1,hget,t37,t36];split at hi
     .rename_i e3;subst e3;cases hi;simp [thaw.go,thaw,e,e2,hget]
     .split at hi
      .rename_i e3;subst e3;cases hi;simp [hget]
      .split at hi
       .rename_i e3;subst e3;cases hi;simp [hget]
       .cases hi
