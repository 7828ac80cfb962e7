/-
  Lemmas. No claim is proved here.
-/
import Derived.Test.YtkadalpaeglmnaaGreatDoorYTr7
namespace Go.Proofs.YtkadalpaeglmnaaGreatDoor.Ab
open Go Go.RowKit
set_option linter.unusedSimpArgs false
set_option maxHeartbeats 16000000
set_option maxRecDepth 100000
variable {G:Nat→Option AV}
theorem sa19:∀(l:List TransT) (a:Int) (i:Nat),(∀t∈l,t.guard= -1∨0≤t.guard)→(segs l a)[i]? =(l[i]?).map fun t=>(t,(l.take i).foldl f11 a)
 | [],_,i,_ =>by simp [segs]
 | t::l,a,0,_ =>rfl
 | t::l,a,i+1,h=>by
  have ht:=h t yX;have e:endT t a=f11 a t:=by
   unfold endT endS f11;cases t.sets.getLast? with
   | some x=>rfl
   | none=>rcases ht with h1 | h1 <;> simp [h1];omega
  show (segs l (endT t a))[i]? =_;rw[e,sa19 l (f11 a t) i fun x hx=>h x (zD _ hx)];rfl
theorem ks14 {α:Type}:∀{m:List Bool} {l:List α} {i:Nat} {b:Bool} {x:α},m[i]? =some b→l[i]? =some x→k11 (m.take (i+1)) (l.take (i+1))=k11 (m.take i) (l.take i)++if b=true then [x] else []
 | c::m,y::l,0,b,x,h,k=>by simp at h k;subst h k;cases c <;> simp [k11]
 | c::m,y::l,i+1,b,x,h,k=>by rw[wU,wU,wU,wU];have:=ks14 (m:=m) (l:=l) (i:=i) (b:=b) (x:=x) (by simpa using h) (by simpa using k);cases c <;> simp [k11,this]
def onM (m:List Bool) (s:Int):Bool:=m[s.toNat]? ==some true
def nwM (m:List Bool) (s:Int):Int:=nwQ m s.toNat
def cutQ (q:QeaT):QeaT:={q with states:=k11 (m_ q) q.states,start:=nwM (m_ q) q.start,nodes:=((segs q.trans 0).foldl (t12 (onM (m_ q)) (nwM (m_ q)) q.nodes) ([],[])).1,trans:=((segs q.trans 0).foldl (t12 (onM (m_ q)) (nwM (m_ q)) q.nodes) ([],[])).2}
theorem sm_:∀(l:List TransT) (a:Int) (t:TransT),t∈l→∃x∈segs l a,x.1=t
 | u::l,a,t,h=>by
  rcases yM.1 h with rfl | h
  ·exact⟨_,yX,rfl⟩
  ·obtain⟨x,hx,e⟩:=sm_ l (endT u a) t h;exact⟨x,zD _ hx,e⟩
theorem sn11 (l:List TransT) (a:Int) (i:Nat) {t:TransT} (hx:l[i]? =some t) (h:∀t∈l,t.guard= -1∨0≤t.guard):(l.take (i+1)).foldl f11 a=endT t ((l.take i).foldl f11 a):=by
 rw[t33 hx,tP];show f11 _ t=_;have ht:=h t (List.mem_of_getElem? hx);unfold endT endS f11;cases t.sets.getLast? with
 | some x=>rfl
 | none=>rcases ht with h1 | h1 <;> simp [h1];omega
theorem rT11 (q:QeaT) (s:Nat) (hs:q.start=(s:Int)) (hn:q.states.length≤12) (hsl:s<q.states.length) (hto:T_ q.trans q.states.length) (htl:q.trans.length≤1000) (hnl:q.nodes.length≤1000) (hyl:q.symbols.length≤1000) (_hsy:∀t∈q.trans,0≤t.symbol∧t.symbol<q.symbols.length) (hwr:∀x∈segs q.trans 0,TrW q x.1 x.2)
  (hord:(cutQ q).trans.length≤1000∧∀t∈(cutQ q).trans,0≤t.symbol∧t.symbol<q.symbols.length):PQ G np17 [qeaV q] (qeaV (ordQ (cutQ q))):=by
 have h1:=rs16 (G:=G) q s hs hn hsl hto htl;have h9:=rop_ (G:=G) (cutQ q) hyl hord.1 hord.2;have hm:(m_ q).length=q.states.length:=by unfold m_;rw[hs,tm_];exact ml_ _ _ _
 have hTV:(List.range q.states.length).map (fun j=>iv (nwQ (m_ q) j))=rowG q.states.length (fun j=>iv (nwQ (m_ q) j)):=rfl;rw[hTV] at h1;have hat:∀f,f<q.states.length→∀H,a16 H 1 (.seq 1 (rowG q.states.length (fun j=>iv (nwQ (m_ q) j)))) (.int .i64 (f:Int))=some (.eptr (iv (nwQ (m_ q) f)) 0):=fun f hf H=>as17 .i64 (vD _) (by rw[zA];exact ra_ hf);generalize hZ:cutQ q=Z at h9;unfold cutQ at hZ;clear hTV hord;obtain⟨FIN,hFIN⟩:∃F,(segs q.trans 0).foldl (t12 (onM (m_ q)) (nwM (m_ q)) q.nodes) ([],[])=F:=⟨_,rfl⟩;rw[hFIN] at hZ;refine pp13 fun Φ h=>?_;unfold cp10

 generalize m_ q=m at*;generalize rowG q.states.length (fun j=>iv (nwQ m j))=TV at*
 repeat' (first|simp -implicitDefEqProofs only[go_sem,qeaV,d_,q_,f_,s_,s10,n_,t_]|refine ag_ (fun hb=>?_) (fun hb=>?_)|refine⟨fun hb=>?_,fun hb=>?_⟩|refine ac_ h1 rfl rfl ?_|fail)
 refine al10 (fun n st=>∃i:Nat,i+n=q.states.length∧st=⟨149,[(1,.ref 1 0 0),(2,.ref 2 0 0),(3,.seq 1 TV),(4,.ref 4 0 0),(5,iv (i:Int))],[(1,⟨false,taQ_,9,[qeaV q]⟩),(2,⟨false,taQ_,9,[z_]⟩),(4,⟨false,taQ_,9,[.agg [.str q.name,.seq 2 (q.decls.map d11),.seq 3 (q.quants.map q11),.seq 5 (q.frees.map f10),.arr 39 0 (k11 (m.take i) (q.states.take i)).length,iv q.start,.seq 2 (q.symbols.map symV),.nils,.nils]]⟩),(39,⟨true,ta15,3,(k11 (m.take i) (q.states.take i)).map s13⟩)]⟩) q.states.length _ (wn_ (c:=4) 3 39 4 ta15 3 rfl rfl (yO rfl) rfl (yN _) (yN _) rfl rfl) ⟨0,by simp,rfl⟩ ?_;rintro I hI n st ⟨i,hi,rfl⟩;by_cases hli:i<q.states.length
 ·have hlt:decide ((i:Int)<(q.states.length:Int))=true:=by simpa using hli
  have hw:=ws_ hli (by omega);obtain⟨b,hb,_⟩:=as10 (l:=m) (i:=i) (by omega);obtain⟨x,hx,_⟩:=as10 hli;have hks:=ks14 hb hx;have hkl:(k11 (m.take i) (q.states.take i)).length≤i:=by have:=(ks10 (m.take i) (q.states.take i)).length_le;simp at this;omega
  have hnx:=hI (n - 1) _ ⟨i+1,by omega,rfl⟩;rw[hks] at hnx;clear hI h;have hai:=hat i hli;cases b with
  | true=>
   have hnw:nwQ m i=(nu m i:Int):=by unfold nwQ;rw[hb,zG rfl]
   have hge:decide ((0:Int)≤nwQ m i)=true:=by rw[hnw];simp
   rw[zG rfl,zR,show (k11 (m.take i) (q.states.take i)++[x]).length=(k11 (m.take i) (q.states.take i)).length+1 by simp] at hnx;generalize k11 (m.take i) (q.states.take i)=SS at*;have hb1:(SS.length+1)*24≤140737488355328:=by omega
   repeat' (first|simp -implicitDefEqProofs only[go_sem,qeaV,d_,q_,f_,s_,s10,n_,t_,z_,zX,hlt,hw,hai,hge,am_ hx,s13,hb1]|refine ag_ (fun hb=>?_) (fun hb=>?_)|refine⟨fun hb=>?_,fun hb=>?_⟩|fail)
   exact aa_ (n - 1) (by omega) hnx
  | false=>
   have hnw:nwQ m i= -1:=by unfold nwQ;rw[hb,zF (by simp)]
   have hge:decide ((0:Int)≤nwQ m i)=false:=by rw[hnw];rfl
   rw[zF (by simp),xW] at hnx;generalize k11 (m.take i) (q.states.take i)=SS at*
   repeat' (first|simp -implicitDefEqProofs only[go_sem,qeaV,d_,q_,f_,s_,s10,n_,t_,z_,zX,hlt,hw,hai,hge]|refine ag_ (fun hb=>?_) (fun hb=>?_)|refine⟨fun hb=>?_,fun hb=>?_⟩|fail)
   exact aa_ (n - 1) (by omega) hnx
 ·have hlt:decide ((i:Int)<(q.states.length:Int))=false:=by simp;omega
  obtain rfl:i=q.states.length:=by omega
  rw[zM (by omega),zM (by omega)];clear hI;have has:∀H,a16 H 1 (.seq 1 TV) (.int .i64 q.start)=some (.eptr (iv (nwQ m s)) 0):=fun H=>by rw[hs];exact hat s hsl H
  have hgs:∀t∈q.trans,t.guard= -1∨0≤t.guard:=fun t ht=>by
   obtain⟨x,hx,rfl⟩:=sm_ q.trans 0 t ht;have:=hwr x hx;rcases this.hg with h1 | h1
   ·exact .inl h1
   ·exact .inr (by have:=this.hb0;omega)
  have hfrom:=fun (j:Nat) (hj:j≤q.trans.length)=>rFp_ (G:=G) q (by omega) (fun t ht=>by obtain⟨x,hx,rfl⟩:=sm_ q.trans 0 t ht;have:=hwr x hx;exact⟨by have:=this.hg2.2;omega,by have:=this.hl;omega,fun s hs=>by have:=(this.hx s hs).1;exact⟨by have:=this.1;omega,by have:=this.2;omega⟩⟩) (fun t ht=>by rcases hgs t ht with h | h <;> omega) j hj
  have hlen0:=sl10 q.trans 0
  repeat' (first|simp -implicitDefEqProofs only[go_sem,qeaV,d_,q_,f_,s_,s10,n_,t_,z_,zX,hlt,has]|refine ag_ (fun hb=>?_) (fun hb=>?_)|refine⟨fun hb=>?_,fun hb=>?_⟩|fail)
  generalize hKS:k11 m q.states=KS at*;refine al10 (fun n st=>∃(i:Nat) (a1:List NodeT) (a2:List TransT),i+n=q.trans.length∧((segs q.trans 0).drop i).foldl (t12 (onM m) (nwM m) q.nodes) (a1,a2)=FIN∧(a1.length:Int)≤f22 q.trans i∧a2.length≤i∧st=⟨149,[(1,.ref 1 0 0),(2,.ref 2 0 0),(3,.seq 1 TV),(4,.ref 4 0 0),(6,iv (i:Int))],[(1,⟨false,taQ_,9,[qeaV q]⟩),(2,⟨false,taQ_,9,[z_]⟩),(4,⟨false,taQ_,9,[.agg [.str q.name,.seq 2 (q.decls.map d11),.seq 3 (q.quants.map q11),.seq 5 (q.frees.map f10),.arr 39 0 KS.length,iv (nwQ m s),.seq 2 (q.symbols.map symV),.arr 91 0 a1.length,.arr 145 0 a2.length]]⟩),(39,⟨true,ta15,3,KS.map s13⟩),(91,⟨true,taN_,7,a1.map n11⟩),(145,⟨true,taT_,5,a2.map t11⟩)]⟩) q.trans.length _ (Weak.trans (wn_ (c:=4) 4 91 7 taN_ 7 rfl rfl (yO rfl) rfl (yN _) (yN _) rfl rfl) (wn_ (c:=4) 5 145 8 taT_ 5 rfl rfl (yO rfl) rfl (yN _) (yN _) rfl rfl)) ⟨0,[],[],by simp,hFIN,by show ((0:Nat):Int)≤0;omega,by simp,rfl⟩ ?_;clear hlt hli has;rintro I hI n st ⟨i,a1,a2,hi,hf,ha1,ha2,rfl⟩;by_cases hli:i<q.trans.length
  ·have hlt:decide ((i:Int)<(q.trans.length:Int))=true:=by simpa using hli
   have hw:=ws_ hli (by omega);obtain⟨t,hx,hxm⟩:=as10 hli;have hsg:(segs q.trans 0)[i]? =some (t,f22 q.trans i):=by rw[sa19 q.trans 0 i hgs,hx];rfl
   have hT:=hwr _ (List.mem_of_getElem? hsg);have hfs:f22 q.trans (i+1)=endT t (f22 q.trans i):=by have h1:=sn11 q.trans 0 i hx hgs;exact h1
   rw[d16 hsg,xU] at hf;dsimp only at hT;have hfr:=hfrom i (by omega);generalize f22 q.trans i=a at*;obtain⟨A,hA⟩:=zS hT.hb0.1;have hto2:=hto t hxm;obtain⟨F,hF⟩:=zS hto2.1.1;obtain⟨U,hU⟩:=zS hto2.2.1;have hFl:F<q.states.length:=by have:=hto2.1.2;omega
   have hUl:U<q.states.length:=by have:=hto2.2.2;omega
   have aF:=hat F hFl;have aU:=hat U hUl;obtain⟨b,hb,_⟩:=as10 (l:=m) (i:=F) (by omega);have hab:=hT.he;cases b with
   | false=>
    have hon:t12 (onM m) (nwM m) q.nodes (a1,a2) (t,a)=(a1,a2):=by unfold t12 onM;rw[zF];dsimp only;rw[hF];simp [hb]
    rw[hon] at hf;have hnx:=hI (n - 1) _ ⟨i+1,a1,a2,by omega,hf,by rw[hfs];have:=hab.1;omega,by omega,rfl⟩;have hnw:nwQ m F= -1:=by unfold nwQ;rw[hb,zF (by simp)]
    have hd:decide (nwQ m F<0)=true:=by rw[hnw];rfl
    clear hI h hfrom hT hon hsg hfs;obtain⟨tf,ts,tt,tg,tl⟩:=t;dsimp only at hF hU;subst hF
    repeat' (first|simp -implicitDefEqProofs only[go_sem,qeaV,d_,q_,f_,s_,s10,n_,t_,z_,zX,hlt,hw,am_ hx,t11,s14,aF,hd]|refine ag_ (fun hb=>?_) (fun hb=>?_)|refine⟨fun hb=>?_,fun hb=>?_⟩|fail)
    exact aa_ (n - 1) (by omega) hnx
   | true=>
    have hnw:nwQ m F=(nu m F:Int):=by unfold nwQ;rw[hb,zG rfl]
    have hdF:decide (nwQ m F<0)=false:=by rw[hnw];simp
    have hon:t12 (onM m) (nwM m) q.nodes (a1,a2) (t,a)=(a1++(mid q.nodes a (endT t a)).map (m10 (a - a1.length)),a2++[⟨nwQ m F,t.symbol,nwQ m U,if t.guard= -1 then -1 else t.guard - (a - a1.length),t.sets.map (movS (a - a1.length))⟩]):=by unfold t12 onM nwM;dsimp only;rw[hF,hU,zG (by simp [hb])];rfl
    rw[hon] at hf;have hend:=rep_ (G:=G) t a (by have:=hT.hl;omega) (hgs t hxm) hT.hg2 (fun s hs=>(hT.hx s hs).1);have hml:=ml11 (l:=q.nodes) hT.hb0.1 hab.1 hab.2;have hal:a≤1000:=by omega
    obtain⟨d,hd⟩:∃d,a - a1.length=d:=⟨_,rfl⟩;have hd2:0≤d∧d≤1000:=by omega
    have hwd:IntKind.i64.wrap (a - (a1.length:Int))=d:=by rw[wi_ (by omega) (by omega)];exact hd
    rw[hd] at hf;have hnx:=hI (n - 1) _ ⟨i+1,_,_,by omega,hf,by rw[hfs,zB,zX];omega,by simp;omega,rfl⟩;rw[zR (l₁:=a2),show (a2++[(⟨nwQ m F,t.symbol,nwQ m U,if t.guard= -1 then -1 else t.guard - d,t.sets.map (movS d)⟩:TransT)]).length=a2.length+1 by simp,wY] at hnx;have hTn:=hT.hn;have hTx:=hT.hx;have hTl:=hT.hl;have hg2:=hgs t hxm;have hgb:=hT.hg2;generalize hE:endT t a=E at*;obtain⟨B,hB⟩:=zS (show 0≤E by have:=hT.hb0.1;omega);have hMi:∀j,j<(mid q.nodes a E).length→(mid q.nodes a E)[j]? =q.nodes[A+j]? :=fun j hj=>by unfold mid;rw[hA,hB,zA,zA,yU,zG (by omega),yE]
    subst hA hB;generalize mid q.nodes (A:Int) (B:Int)=M at*;clear hI h hfrom hT hon hsg hfs hf;obtain⟨tf,ts,tt,tg,tl⟩:=t;dsimp only at hF hU hTl hTx hg2 hgb hnx;subst hF hU
    repeat' (first|simp -implicitDefEqProofs only[go_sem,qeaV,d_,q_,f_,s_,s10,n_,t_,z_,zX,hlt,am_ hx,t11,s14,aF,hdF,hwd]|refine ag_ (fun hb=>?_) (fun hb=>?_)|refine⟨fun hb=>?_,fun hb=>?_⟩|refine ac_ hfr rfl rfl ?_|fail)
    refine al_ (fun n' st=>∃j:Nat,j+n'=M.length∧st=⟨149,[(1,.ref 1 0 0),(2,.ref 2 0 0),(3,.seq 1 TV),(4,.ref 4 0 0),(6,iv (i:Int)),(7,.ref 7 0 0),(8,iv (A:Int)),(9,iv d),(10,iv ((A+j:Nat):Int))],[(1,⟨false,taQ_,9,[qeaV q]⟩),(2,⟨false,taQ_,9,[z_]⟩),(4,⟨false,taQ_,9,[.agg [.str q.name,.seq 2 (q.decls.map d11),.seq 3 (q.quants.map q11),.seq 5 (q.frees.map f10),.arr 39 0 KS.length,iv (nwQ m s),.seq 2 (q.symbols.map symV),.arr 91 0 (a1++(M.take j).map (m10 d)).length,.arr 145 0 a2.length]]⟩),(7,⟨false,taT_,5,[t11 ⟨(F:Int),ts,(U:Int),tg,tl⟩]⟩),(39,⟨true,ta15,3,KS.map s13⟩),(91,⟨true,taN_,7,(a1++(M.take j).map (m10 d)).map n11⟩),(145,⟨true,taT_,5,a2.map t11⟩)]⟩) M.length ⟨0,by simp,by simp only[xI,yF,xW];rfl⟩ ?_;rintro J hJ n' st ⟨j,hj,rfl⟩;by_cases hlj:j<M.length
    ·have hltj:decide (((A+j:Nat):Int)<(B:Int))=true:=by simp;omega
     have hwj:=ws_ (i:=A+j) (n:=2000) (by omega) (by decide);obtain⟨y,hy,hym⟩:=as10 hlj;have hyq:q.nodes[A+j]? =some y:=by rw[←hMi j hlj];exact hy
     have hmv:=rmp_ (G:=G) y d ⟨by omega,by omega⟩ (fun h4=>by have h5:=(hTn y hym).1.2.2 h4;exact⟨⟨by omega,by omega⟩,by omega,by omega⟩);have hnj:=hJ (n' - 1) _ ⟨j+1,by omega,rfl⟩;have hO:a1++(M.take (j+1)).map (m10 d)=(a1++(M.take j).map (m10 d))++[m10 d y]:=by rw[t33 hy,zR,wY,yI]
     have hOl:(a1++(M.take j).map (m10 d)).length≤3000:=by simp;omega
     rw[hO] at hnj;generalize a1++(M.take j).map (m10 d)=O at*;rw[zR,show (O++[m10 d y]).length=O.length+1 by simp,wY] at hnj;have hb3:(O.length+1)*64≤140737488355328:=by omega
     generalize m10 d y=z at*;obtain⟨z1,z2,z3,z4,z5,z6,z7⟩:=z;obtain⟨y1,y2,y3,y4,y5,y6,y7⟩:=y;clear hJ hnx;simp only[n11] at hmv
     repeat' (first|simp -implicitDefEqProofs only[go_sem,qeaV,d_,q_,f_,s_,s10,n_,t_,z_,zX,t11,s14,hltj,hwj,am_ hyq,n11,hb3]|refine ag_ (fun hb=>?_) (fun hb=>?_)|refine⟨fun hb=>?_,fun hb=>?_⟩|refine ac_ hend rfl rfl ?_|refine ac_ hmv rfl rfl ?_|fail)
     exact aa_ (n' - 1) (by omega) hnj
    ·have hltj:decide (((A+j:Nat):Int)<(B:Int))=false:=by simp;omega
     have hMt:M.take j=M:=zM (by omega);rw[hMt];generalize a1++M.map (m10 d)=O at*;clear hJ;rcases hg2 with hg2 | hg2
     ·subst hg2;have hg0:decide ((0:Int)≤-1)=false:=rfl;have hgw:(0:Int)=0:=rfl;rw[zG rfl] at hnx;have hrx:∀j,((tl.take j).map (movS d)).length≤j:=fun j=>by simp;omega
      repeat' (first|simp -implicitDefEqProofs only[go_sem,qeaV,d_,q_,f_,s_,s10,n_,t_,z_,zX,t11,s14,hltj,aF,aU,hg0,hgw]|refine ag_ (fun hb=>?_) (fun hb=>?_)|refine⟨fun hb=>?_,fun hb=>?_⟩|refine ac_ hend rfl rfl ?_|fail)
      refine al10 (fun n4 st=>∃k:Nat,k+n4=tl.length∧st=⟨149,[(1,.ref 1 0 0),(2,.ref 2 0 0),(3,.seq 1 TV),(4,.ref 4 0 0),(6,iv (i:Int)),(7,.ref 7 0 0),(9,iv d),(11,.ref 11 0 0),(12,iv (k:Int))],[(1,⟨false,taQ_,9,[qeaV q]⟩),(2,⟨false,taQ_,9,[z_]⟩),(4,⟨false,taQ_,9,[.agg [.str q.name,.seq 2 (q.decls.map d11),.seq 3 (q.quants.map q11),.seq 5 (q.frees.map f10),.arr 39 0 KS.length,iv (nwQ m s),.seq 2 (q.symbols.map symV),.arr 91 0 O.length,.arr 145 0 a2.length]]⟩),(7,⟨false,taT_,5,[t11 ⟨(F:Int),ts,(U:Int),(-1),tl⟩]⟩),(11,⟨false,taT_,5,[.agg [iv (nwQ m F),iv ts,iv (nwQ m U),iv (-1),.arr 139 0 ((tl.take k).map (movS d)).length]]⟩),(39,⟨true,ta15,3,KS.map s13⟩),(91,⟨true,taN_,7,O.map n11⟩),(139,⟨true,ta19,2,((tl.take k).map (movS d)).map setV⟩),(145,⟨true,taT_,5,a2.map t11⟩)]⟩) tl.length _ (wn_ (c:=11) 7 139 4 ta19 2 rfl rfl (yO rfl) rfl (yN _) (yN _) rfl rfl) ⟨0,by simp,rfl⟩ ?_;rintro L hL n4 st ⟨k,hk,rfl⟩;by_cases hlk:k<tl.length
      ·have hltk:decide ((k:Int)<(tl.length:Int))=true:=by simpa using hlk
       have hwk:=ws_ hlk (by omega);obtain⟨y,hy,hym⟩:=as10 hlk;have hys:=(hTx y hym).1;have hwy:IntKind.i64.wrap (y.expr - d)=y.expr - d:=wi_ (by have:=hys.1;omega) (by have:=hys.2;omega);have hnl4:=hL (n4 - 1) _ ⟨k+1,by omega,rfl⟩;have hO:(tl.take (k+1)).map (movS d)=(tl.take k).map (movS d)++[⟨y.free,y.expr - d⟩]:=by rw[t33 hy,zR,wY];rfl
       have hOl:=hrx k;rw[hO] at hnl4;generalize (tl.take k).map (movS d)=X at*;rw[zR,show (X++[(⟨y.free,y.expr - d⟩:SetT)]).length=X.length+1 by simp,wY] at hnl4;have hb4:(X.length+1)*16≤140737488355328:=by omega
       obtain⟨y1,y2⟩:=y;dsimp only at hwy hnl4;clear hL hnx
       repeat' (first|simp -implicitDefEqProofs only[go_sem,qeaV,d_,q_,f_,s_,s10,n_,t_,z_,zX,t11,s14,hltk,hwk,am_ hy,setV,hwy,hb4]|refine ag_ (fun hb=>?_) (fun hb=>?_)|refine⟨fun hb=>?_,fun hb=>?_⟩|fail)
       exact aa_ (n4 - 1) (by omega) hnl4
      ·have hltk:decide ((k:Int)<(tl.length:Int))=false:=by simp;omega
       have hMt2:tl.take k=tl:=zM (by omega);rw[hMt2];have k5:((tl.map (movS d)).map setV).take (tl.map (movS d)).length=(tl.map (movS d)).map setV:=t25 _ _;have hb5:(a2.length+1)*56≤140737488355328:=by omega
       generalize tl.map (movS d)=X at*;clear hL
       repeat' (first|simp -implicitDefEqProofs only[go_sem,qeaV,d_,q_,f_,s_,s10,n_,t_,z_,t11,s14,hltk,hw,hb5,k5,t25,zE,zX]|refine ag_ (fun hb=>?_) (fun hb=>?_)|refine⟨fun hb=>?_,fun hb=>?_⟩|fail)
       refine aa11 (n - 1) (by omega) _ (Weak.refl _) ?_;exact hnx
     ·have hg0:decide ((0:Int)≤tg)=true:=xM hg2;have hgw:IntKind.i64.wrap (tg - d)=tg - d:=wi_ (by omega) (by have:=hgb.2;omega);rw[zF (by omega)] at hnx;have hrx:∀j,((tl.take j).map (movS d)).length≤j:=fun j=>by simp;omega
      repeat' (first|simp -implicitDefEqProofs only[go_sem,qeaV,d_,q_,f_,s_,s10,n_,t_,z_,zX,t11,s14,hltj,aF,aU,hg0,hgw]|refine ag_ (fun hb=>?_) (fun hb=>?_)|refine⟨fun hb=>?_,fun hb=>?_⟩|refine ac_ hend rfl rfl ?_|fail)
      refine al10 (fun n4 st=>∃k:Nat,k+n4=tl.length∧st=⟨149,[(1,.ref 1 0 0),(2,.ref 2 0 0),(3,.seq 1 TV),(4,.ref 4 0 0),(6,iv (i:Int)),(7,.ref 7 0 0),(9,iv d),(11,.ref 11 0 0),(12,iv (k:Int))],[(1,⟨false,taQ_,9,[qeaV q]⟩),(2,⟨false,taQ_,9,[z_]⟩),(4,⟨false,taQ_,9,[.agg [.str q.name,.seq 2 (q.decls.map d11),.seq 3 (q.quants.map q11),.seq 5 (q.frees.map f10),.arr 39 0 KS.length,iv (nwQ m s),.seq 2 (q.symbols.map symV),.arr 91 0 O.length,.arr 145 0 a2.length]]⟩),(7,⟨false,taT_,5,[t11 ⟨(F:Int),ts,(U:Int),tg,tl⟩]⟩),(11,⟨false,taT_,5,[.agg [iv (nwQ m F),iv ts,iv (nwQ m U),iv (tg - d),.arr 139 0 ((tl.take k).map (movS d)).length]]⟩),(39,⟨true,ta15,3,KS.map s13⟩),(91,⟨true,taN_,7,O.map n11⟩),(139,⟨true,ta19,2,((tl.take k).map (movS d)).map setV⟩),(145,⟨true,taT_,5,a2.map t11⟩)]⟩) tl.length _ (wn_ (c:=11) 7 139 4 ta19 2 rfl rfl (yO rfl) rfl (yN _) (yN _) rfl rfl) ⟨0,by simp,rfl⟩ ?_;rintro L hL n4 st ⟨k,hk,rfl⟩;by_cases hlk:k<tl.length
      ·have hltk:decide ((k:Int)<(tl.length:Int))=true:=by simpa using hlk
       have hwk:=ws_ hlk (by omega);obtain⟨y,hy,hym⟩:=as10 hlk;have hys:=(hTx y hym).1;have hwy:IntKind.i64.wrap (y.expr - d)=y.expr - d:=wi_ (by have:=hys.1;omega) (by have:=hys.2;omega);have hnl4:=hL (n4 - 1) _ ⟨k+1,by omega,rfl⟩;have hO:(tl.take (k+1)).map (movS d)=(tl.take k).map (movS d)++[⟨y.free,y.expr - d⟩]:=by rw[t33 hy,zR,wY];rfl
       have hOl:=hrx k;rw[hO] at hnl4;generalize (tl.take k).map (movS d)=X at*;rw[zR,show (X++[(⟨y.free,y.expr - d⟩:SetT)]).length=X.length+1 by simp,wY] at hnl4;have hb4:(X.length+1)*16≤140737488355328:=by omega
       obtain⟨y1,y2⟩:=y;dsimp only at hwy hnl4;clear hL hnx
       repeat' (first|simp -implicitDefEqProofs only[go_sem,qeaV,d_,q_,f_,s_,s10,n_,t_,z_,zX,t11,s14,hltk,hwk,am_ hy,setV,hwy,hb4]|refine ag_ (fun hb=>?_) (fun hb=>?_)|refine⟨fun hb=>?_,fun hb=>?_⟩|fail)
       exact aa_ (n4 - 1) (by omega) hnl4
      ·have hltk:decide ((k:Int)<(tl.length:Int))=false:=by simp;omega
       have hMt2:tl.take k=tl:=zM (by omega);rw[hMt2];have k5:((tl.map (movS d)).map setV).take (tl.map (movS d)).length=(tl.map (movS d)).map setV:=t25 _ _;have hb5:(a2.length+1)*56≤140737488355328:=by omega
       generalize tl.map (movS d)=X at*;clear hL
       repeat' (first|simp -implicitDefEqProofs only[go_sem,qeaV,d_,q_,f_,s_,s10,n_,t_,z_,t11,s14,hltk,hw,hb5,k5,t25,zE,zX]|refine ag_ (fun hb=>?_) (fun hb=>?_)|refine⟨fun hb=>?_,fun hb=>?_⟩|fail)
       refine aa11 (n - 1) (by omega) _ (Weak.refl _) ?_;exact hnx
  ·have hlt:decide ((i:Int)<(q.trans.length:Int))=false:=by simp;omega
   rw[uN (by omega),tN] at hf;clear hI;subst hZ;have hs2:nwM m q.start=nwQ m s:=by unfold nwM;rw[hs,zA]
   have k1:(KS.map s13).take KS.length=KS.map s13:=t25 _ _;have k2:(a1.map n11).take a1.length=a1.map n11:=t25 _ _;have k3:(a2.map t11).take a2.length=a2.map t11:=t25 _ _;rw[←hf,hs2] at h9 h;generalize hOO:ordQ _ =OO at h9 h;obtain⟨o1,o2,o3,o4,o5,o6,o7,o8,o9⟩:=OO
   repeat' (first|simp -implicitDefEqProofs only[go_sem,qeaV,d_,q_,f_,s_,s10,n_,t_,z_,zX,hlt,t25,zE]|refine ag_ (fun hb=>?_) (fun hb=>?_)|refine⟨fun hb=>?_,fun hb=>?_⟩|(refine ac_ h9 (by simp [v_,flat,flat.go,viewAll,viewBs,view,view.go,viewB,viewK,viewK.go,AV.cells,hget,t25,k1,k2,k3,qeaV,d_,q_,f_,s_,s10,n_,t_]) rfl ?_)|fail)
   exact h _ ⟨_,_,rfl,rfl,.refl _⟩
