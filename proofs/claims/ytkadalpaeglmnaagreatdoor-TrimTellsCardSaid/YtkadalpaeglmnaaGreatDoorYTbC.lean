/-
  Lemmas. No claim is proved here.
-/
import Derived.Test.YtkadalpaeglmnaaGreatDoorYS3
set_option linter.unusedSimpArgs false
set_option maxHeartbeats 4000000
set_option maxRecDepth 100000
namespace Go.Proofs.YtkadalpaeglmnaaGreatDoor.Ab
open Go Go.RowKit
theorem ma_ {q:QeaT} (h:r14 q=true):∀b∈m_ (ordQ (cutQ q)),b=true:=by
 have F:=fo_ h;have G:=fo_ (ro_ h);have hm:(ordQ (cutQ q)).states.length=(m_ q).count true:=by rw[pe_];exact kl10 (ml10 F)
 have hst:(ordQ (cutQ q)).start.toNat=nu (m_ q) q.start.toNat:=by rw[pe_];show (nwM (m_ q) q.start).toNat=_;unfold nwM nwQ;rw[zG (mk_s F),zA]
 have hE:∀a b,(a,b)∈e15 q→(m_ q)[a]? =some true→(nu (m_ q) a,nu (m_ q) b)∈e15 (ordQ (cutQ q)):=by
  intro a b hab ha;obtain⟨t,ht,e⟩:=zI.1 hab;have ea:t.from_.toNat=a:=congrArg Prod.fst e;have eb:t.to_.toNat=b:=congrArg Prod.snd e;subst ea eb;have hb:=mt_ F ht ha;obtain⟨x,hx,rfl⟩:=sm_ q.trans 0 t ht;obtain⟨u,hu,u1,u2⟩:=th_ (on:=onM (m_ q)) (nw:=nwM (m_ q)) (ns:=q.nodes) (segs q.trans 0) ([],[]) x hx (by simpa [onM] using ha);have hu2:reT (p13 q) u∈(ordQ (cutQ q)).trans:=by rw[pe_];exact zI.2 ⟨u,hu,rfl⟩
  refine zI.2 ⟨_,hu2,?_⟩;show (u.from_.toNat,u.to_.toNat)=_;rw[u1,u2];unfold nwM nwQ;rw[zG ha,zG hb,zA,zA]
 intro b hb;obtain⟨j,hj⟩:=zN hb;have hjl:=(zZ.1 hj).1;rw[ml10 G,hm] at hjl;have hr:=rn14 (mk_is F) hE j hjl;rw[←hst,←mk_is G,hj] at hr;simpa using hr
theorem cf10 {p:QeaT} (F:Fct p) (hall:∀b∈m_ p,b=true):ordQ (cutQ p)=p:=by
 have hml:=ml10 F;have hat:∀i:Nat,i<p.states.length→(m_ p)[i]? =some true:=fun i hi=>by obtain⟨b,hb,hm⟩:=as10 (l:=m_ p) (i:=i) (by omega);rw[hb,hall b hm]
 have hnw:∀s:Int,0≤s→s<(p.states.length:Int)→onM (m_ p) s=true∧nwM (m_ p) s=s:=fun s h0 h1=>by have h2:=hat s.toNat (by omega);refine⟨by unfold onM;rw[h2];rfl,?_⟩;unfold nwM nwQ;rw[zG h2,na15 hall (by omega)];omega
 have hc:cutQ p=p:=by have h:=ta36 (q:=p) hnw p.trans (a:=0) [] (wZ 0) (by omega) fun x hx=>⟨(F.tx x hx).1,(F.tx x hx).2.1⟩;rw[F.te,zA,xS,uQ] at h;have h':(segs p.trans 0).foldl (t12 (onM (m_ p)) (nwM (m_ p)) p.nodes) ([],[])=(p.nodes,p.trans):=h;unfold cutQ;rw[h',(hnw p.start F.st.1 F.st.2).2,ka10 hall hml]
 rw[hc];have hp:=pi_ F.od F.ol;unfold ordQ;rw[hp];have h1:(List.range p.symbols.length).map (symD p)=p.symbols:=by refine wJ (by simp) fun i h1 h2=>?_;simp only[vT,uP];unfold symD;rw[zY h2]
 have h2:p.trans.map (reT (List.range p.symbols.length))=p.trans:=by
  conv=>rhs;rw[←tO p.trans]
  refine vR fun t ht=>?_;obtain⟨a,_,_,hk⟩:=ta35 F ht;have hs:=hk.hs;have hidx:(List.range p.symbols.length).idxOf t.symbol.toNat=t.symbol.toNat:=by
   have:=wQ (xs:=List.range p.symbols.length) tE t.symbol.toNat (by rw[wG];omega)
   rwa [uP] at this
  unfold reT;rw[hidx,Int.toNat_of_nonneg hs.1];rfl
 rw[h1,h2]
theorem ca10 {q:QeaT} (h:r14 q=true):ordQ (cutQ (ordQ (cutQ q)))=ordQ (cutQ q):=cf10 (fo_ (ro_ h)) (ma_ h)
theorem ra14 {p:QeaT} (F:Fct p) (hall:∀b∈m_ p,b=true):(r11 p).length=p.states.length:=by
 have hml:=ml10 F;have e:r11 p=List.range p.states.length:=by unfold r11;refine List.filter_eq_self.2 fun i hi=>?_;have hi:=yS.1 hi;obtain⟨b,hb,hm⟩:=as10 (l:=m_ p) (i:=i) (by omega);rw[hb,hall b hm];rfl
 rw[e,wG]
theorem fo11 {q:QeaT} (hf:fewQ q=true) (h:r14 q=true):fewQ (ordQ (cutQ q))=true:=by
 have F:=fo_ h;unfold fewQ f19 at hf;simp only[zK,zU] at hf;obtain⟨⟨a1,a2,a3,a4,a5,a6,a7,a8⟩,b,c,d,e,f⟩:=hf;have hkl:=(ks10 (m_ q) q.states).length_le;have hpl:=pl_ F;have hnl:=cnl_ F;have htl:=ctl_ q;rw[pe_];unfold fewQ f19;simp only[zK,zU,zX];refine⟨⟨a1,a2,a3,by omega,by omega,by omega,by omega,a8⟩,b,?_,d,?_,?_⟩
 ·rw[at10];intro i s hs;obtain⟨k,hk,rfl⟩:=zI.1 (List.mem_of_getElem? hs);obtain⟨j,hj⟩:=am10 c (sm10 ((pm_ F k).1 hk));exact hj
 ·rw[at10];intro i z hz;rcases tn_ _ _ z (show z∈((segs q.trans 0).foldl (t12 (onM (m_ q)) (nwM (m_ q)) q.nodes) ([],[])).1 from List.mem_of_getElem? hz) with h | ⟨y,hy,ey⟩
  ·cases h
  ·obtain⟨j,hj⟩:=am10 e hy;rw[ey];exact hj
 ·rw[at10];intro i t ht;obtain⟨u,hu,rfl⟩:=zI.1 (List.mem_of_getElem? ht);obtain⟨x,hx,_,hx2⟩:=cm14 hu;obtain⟨j,hj⟩:=am10 f (sf_ _ _ _ (yG.1 hx).1);show decide ((u.sets.length:Int)≤12)=true;rw[hx2];exact hj
theorem pr_ {q:QeaT} (hf:fewQ q=true) (h:r14 q=true):q.Plainly:=by
 have F:=fo_ h;refine po_ q hf ?_;have:badI q= -1:=in10 fun j d _ hd=>by unfold d15;rw[xR];intro k hk;have:=(F.dx d (List.mem_of_getElem? hd)).2.2 k hk;simp;omega
 omega
variable {G:Nat→Option AV}
theorem lf10 (q:QeaT) (hf:PQ G npF_ [qeaV q] (iv 0)) (ha:PQ G npa_ [] (.bool true)):PQ G npT_ [qeaV q] (.bool true):=by
 refine ppT_ fun Φ h=>?_;unfold cpT_;simp only[qeaV,d_,q_,f_,s_,s10,n_,t_] at hf
 repeat' (first|simp -implicitDefEqProofs only[go_sem,qeaV,d_,q_,f_,s_,s10,n_,t_]|refine ag_ (fun hb=>?_) (fun hb=>?_)|refine⟨fun hb=>?_,fun hb=>?_⟩|refine ac_ hf rfl rfl ?_|refine ac_ ha rfl rfl ?_|fail)
 all_goals (refine h _ ⟨_,_,rfl,rfl,fe_ ?_⟩;clear h;first | rfl | simp_all)
def zQ:QeaT:=⟨[],[],[],[],[],0,[],[],[]⟩
theorem zf_:FitL [.agg [.str [],.nils,.nils,.nils,.nils,iv 0,.nils,.nils,.nils],.agg [.str [],.nils,.nils,.nils,.nils,iv 0,.nils,.nils,.nils]] [qeaV zQ,qeaV zQ]:=by
 have f1:Fit (.agg [.str [],.nils,.nils,.nils,.nils,iv 0,.nils,.nils,.nils]) (qeaV zQ):=by
  refine .agg _ _ rfl fun j c d hc hd=>?_
  match j,hc,hd with
  | 0,hc,hd=>cases hc;cases hd;exact .refl _
  | 1,hc,hd=>cases hc;cases hd;exact .nil _
  | 2,hc,hd=>cases hc;cases hd;exact .nil _
  | 3,hc,hd=>cases hc;cases hd;exact .nil _
  | 4,hc,hd=>cases hc;cases hd;exact .nil _
  | 5,hc,hd=>cases hc;cases hd;exact .refl _
  | 6,hc,hd=>cases hc;cases hd;exact .nil _
  | 7,hc,hd=>cases hc;cases hd;exact .nil _
  | 8,hc,hd=>cases hc;cases hd;exact .nil _
  | j+9,hc,hd=>cases hc
 exact⟨f1,f1,trivial⟩
theorem lw_ (q:QeaT) (hf:PQ G npF_ [qeaV q] (iv 1)) (ha:PQ G npa_ [] (.bool true)) (h1:PQ G nt17 [qeaV q] (.tup [z_,.bool false])) (h2:PQ G ntS_ [qeaV q] (.seq 1 [])) (h3:PQ G npR_ [qeaV q] (.bool false)) (h4:PQ G npS_ [qeaV zQ,qeaV zQ] (.bool true)) (h5:PQ G ntT_ [qeaV q] (.bool false)):PQ G npT_ [qeaV q] (.bool true):=by
 refine ppT_ fun Φ h=>?_;unfold cpT_;unfold z_ at h1;simp only[qeaV,d_,q_,f_,s_,s10,n_,t_] at hf h1 h2 h3 h5
 repeat' (first|simp -implicitDefEqProofs only[go_sem,qeaV,d_,q_,f_,s_,s10,n_,t_]|refine ag_ (fun hb=>?_) (fun hb=>?_)|refine⟨fun hb=>?_,fun hb=>?_⟩|refine ac_ hf rfl rfl ?_|refine ac_ h1 rfl rfl ?_|refine ac_ h2 rfl rfl ?_|refine ac_ h3 rfl rfl ?_|(refine acf_ h4 rfl zf_ rfl ?_)|refine ac_ h5 rfl rfl ?_|refine ac_ ha rfl rfl ?_|fail)
 all_goals (refine h _ ⟨_,_,rfl,rfl,fe_ ?_⟩;clear h;first | rfl | simp_all)
theorem lr_ (q p:QeaT) (hf:PQ G npF_ [qeaV q] (iv 1)) (ha:PQ G npa_ [] (.bool true)) (h1:PQ G nt17 [qeaV q] (.tup [qeaV p,.bool true])) (h2:PQ G ntS_ [qeaV q] (.seq 1 ((natI (r11 q)).map iv))) (h3:PQ G npR_ [qeaV q] (.bool true))
  (h4:PQ G np13 [qeaV q,iv q.start] (m14 (m_ q))) (hm:(m_ q).length=q.states.length) (hn:q.states.length≤12) (h5:PQ G ntT_ [qeaV q] (.bool (((r11 q).length:Int)==(q.states.length:Int))))
  (h6:PQ G nt17 [qeaV p] (.tup [qeaV p,.bool true])) (h7:PQ G np17 [qeaV q] (qeaV p)) (h8:PQ G npS_ [qeaV p,qeaV p] (.bool true)) (h9:PQ G npR_ [qeaV p] (.bool true)) (h10:PQ G ntT_ [qeaV p] (.bool true)):PQ G npT_ [qeaV q] (.bool true):=by
 have hR:r11 q=(List.range q.states.length).filter fun i=>(m_ q)[i]? ==some true:=rfl;have hRl:(r11 q).length≤12:=by rw[hR];have:=xK (fun i=>(m_ q)[i]? ==some true) (List.range q.states.length);rw[wG] at this;omega
 have hnl:=nl_ (r11 q);refine ppT_ fun Φ h=>?_;unfold cpT_;unfold m14 at h4;generalize m_ q=m at*;generalize r11 q=RL at*;obtain⟨p1,p2,p3,p4,p5,p6,p7,p8,p9⟩:=p;simp only[qeaV,d_,q_,f_,s_,s10,n_,t_] at hf h1 h2 h3 h4 h5 h6 h7 h8 h9 h10
 repeat' (first|simp -implicitDefEqProofs only[go_sem,qeaV,d_,q_,f_,s_,s10,n_,t_,zX,hnl]|refine ag_ (fun hb=>?_) (fun hb=>?_)|refine⟨fun hb=>?_,fun hb=>?_⟩|refine ac_ hf rfl rfl ?_|refine ac_ h1 rfl rfl ?_|refine ac_ h2 rfl rfl ?_|refine ac_ h3 rfl rfl ?_|refine ac_ h4 rfl rfl ?_|fail)
 refine al_ (fun n st=>∃i:Nat,i+n=m.length∧st=⟨126,[(1,.ref 1 0 0),(3,.ref 3 0 0),(4,.bool true),(5,.seq 1 ((natI RL).map iv)),(6,.seq 1 (m.map AV.bool)),(7,.arr 7 0 ((List.range i).filter fun i=>m[i]? ==some true).length),(8,iv (i:Int))],[(1,⟨false,taQ_,9,[qeaV q]⟩),(3,⟨false,taQ_,9,[qeaV ⟨p1,p2,p3,p4,p5,p6,p7,p8,p9⟩]⟩),(7,⟨true,ti_,1,(natI ((List.range i).filter fun i=>m[i]? ==some true)).map iv⟩)]⟩) m.length ⟨0,by simp,rfl⟩ ?_;rintro I hI n st ⟨i,hi,rfl⟩;by_cases hli:i<m.length
 ·have hlt:decide ((i:Int)<(m.length:Int))=true:=by simpa using hli
  have hw:=ws_ hli (by omega);obtain⟨b,hb,_⟩:=as10 hli;have hnx:=hI (n - 1) _ ⟨i+1,by omega,rfl⟩;have hwl:((List.range i).filter fun i=>m[i]? ==some true).length≤i:=wB (xK _ _) (by simp);have hf1:((List.range (i+1)).filter fun i=>m[i]? ==some true)=((List.range i).filter fun i=>m[i]? ==some true)++if b=true then [i] else []:=by rw[sJ,wA];cases b <;> simp [hb]
  rw[hf1] at hnx;generalize ((List.range i).filter fun i=>m[i]? ==some true)=W at*;have hWl:=nl_ W;have hb1:(W.length+1)*8≤140737488355328:=by omega
  clear hI h;cases b with
  | true=>
   rw[zG rfl,show (natI (W++[i])).map iv=(natI W).map iv++[iv (i:Int)] by simp [natI],show (W++[i]).length=W.length+1 by simp] at hnx
   repeat' (first|simp -implicitDefEqProofs only[go_sem,qeaV,d_,q_,f_,s_,s10,n_,t_,zX,hlt,hw,am_ hb,hb1,hWl]|refine ag_ (fun hb=>?_) (fun hb=>?_)|refine⟨fun hb=>?_,fun hb=>?_⟩|fail)
   exact aa_ (n - 1) (by omega) hnx
  | false=>
   rw[zF (by simp),xW] at hnx
   repeat' (first|simp -implicitDefEqProofs only[go_sem,qeaV,d_,q_,f_,s_,s10,n_,t_,zX,hlt,hw,am_ hb]|refine ag_ (fun hb=>?_) (fun hb=>?_)|refine⟨fun hb=>?_,fun hb=>?_⟩|fail)
   exact aa_ (n - 1) (by omega) hnx
 ·have hlt:decide ((i:Int)<(m.length:Int))=false:=by simp;omega
  have hW:((List.range i).filter fun i=>m[i]? ==some true)=RL:=by rw[hR,show i=q.states.length by omega]
  rw[hW];clear hI hW;have hbb:∀x:Bool,(x != x)=false:=fun x=>by cases x <;> rfl
  have hii:∀x:Int,(x != x)=false:=fun x=>by simp
  repeat' (first|simp -implicitDefEqProofs only[go_sem,qeaV,d_,q_,f_,s_,s10,n_,t_,zX,hlt,hnl,hii,hbb]|refine ag_ (fun hb=>?_) (fun hb=>?_)|refine⟨fun hb=>?_,fun hb=>?_⟩|refine ac_ h5 rfl rfl ?_|fail)
  refine al_ (fun n st=>∃k:Nat,k+n=RL.length∧st=⟨126,[(1,.ref 1 0 0),(3,.ref 3 0 0),(4,.bool true),(5,.seq 1 ((natI RL).map iv)),(7,.arr 7 0 RL.length),(9,iv (k:Int))],[(1,⟨false,taQ_,9,[qeaV q]⟩),(3,⟨false,taQ_,9,[qeaV ⟨p1,p2,p3,p4,p5,p6,p7,p8,p9⟩]⟩),(7,⟨true,ti_,1,(natI RL).map iv⟩)]⟩) RL.length ⟨0,by simp,rfl⟩ ?_;rintro J hJ n2 st ⟨k,hk,rfl⟩;by_cases hlk:k<RL.length
  ·have hltk:decide ((k:Int)<(RL.length:Int))=true:=by simpa using hlk
   have hw:=ws_ hlk (by omega);obtain⟨x,hx,_⟩:=as10 hlk;have hx1:=na11 hx;have hx2:(natI RL)[k]? =some (x:Int):=by simp [natI,hx]
   have hnx:=hJ (n2 - 1) _ ⟨k+1,by omega,rfl⟩;clear hJ h
   repeat' (first|simp -implicitDefEqProofs only[go_sem,qeaV,d_,q_,f_,s_,s10,n_,t_,zX,hltk,hw,hnl,am_ hx2,aa10 hlk,hx1,hii]|refine ag_ (fun hb=>?_) (fun hb=>?_)|refine⟨fun hb=>?_,fun hb=>?_⟩|fail)
   exact aa_ (n2 - 1) (by omega) hnx
  ·have hltk:decide ((k:Int)<(RL.length:Int))=false:=by simp;omega
   clear hJ
   repeat' (first|simp -implicitDefEqProofs only[go_sem,qeaV,d_,q_,f_,s_,s10,n_,t_,zX,hltk,hnl]|refine ag_ (fun hb=>?_) (fun hb=>?_)|refine⟨fun hb=>?_,fun hb=>?_⟩|refine ac_ h6 rfl rfl ?_|refine ac_ h7 rfl rfl ?_|refine ac_ h8 rfl rfl ?_|refine ac_ h9 rfl rfl ?_|refine ac_ h10 rfl rfl ?_|refine ac_ h8 rfl rfl ?_|refine ac_ ha rfl rfl ?_|fail)
   all_goals (refine h _ ⟨_,_,rfl,rfl,fe_ ?_⟩;clear h;first | rfl | simp_all)
def qEx:QeaT:=⟨[113],[],[],[],[⟨[115],false,false⟩,⟨[116],false,false⟩],0,[],[],[]⟩
def pA:QeaT:=⟨[113],[],[],[],[⟨[115],false,false⟩],0,[],[],[]⟩
theorem la10 (h1:PQ G nt17 [qeaV qEx] (.tup [qeaV pA,.bool true])):PQ G npa_ [] (.bool true):=by
 have f1:FitL [.agg [.str [113],.nils,.nils,.nils,.seq 3 [.agg [.str [115],.bool false,.bool false],.agg [.str [116],.bool false,.bool false]],iv 0,.nils,.nils,.nils]] [qeaV qEx]:=by
  refine⟨.agg _ _ rfl fun j c d hc hd=>?_,trivial⟩
  match j,hc,hd with
  | 0,hc,hd=>cases hc;cases hd;exact .refl _
  | 1,hc,hd=>cases hc;cases hd;exact .nil _
  | 2,hc,hd=>cases hc;cases hd;exact .nil _
  | 3,hc,hd=>cases hc;cases hd;exact .nil _
  | 4,hc,hd=>cases hc;cases hd;exact .refl _
  | 5,hc,hd=>cases hc;cases hd;exact .refl _
  | 6,hc,hd=>cases hc;cases hd;exact .nil _
  | 7,hc,hd=>cases hc;cases hd;exact .nil _
  | 8,hc,hd=>cases hc;cases hd;exact .nil _
  | j+9,hc,hd=>cases hc
 refine pp20 fun Φ h=>?_;unfold cp20;unfold pA at h1;simp only[qeaV,d_,q_,f_,s_,s10,n_,t_,yF,yV,s13] at h1
 repeat' (first|simp -implicitDefEqProofs only[go_sem]|refine ag_ (fun hb=>?_) (fun hb=>?_)|refine⟨fun hb=>?_,fun hb=>?_⟩|(refine acf_ h1 rfl f1 rfl ?_)|fail)
 all_goals (refine h _ ⟨_,_,rfl,rfl,fe_ ?_⟩;clear h;first | rfl | simp_all)
theorem qc11:ordQ (cutQ qEx)=pA:=by rfl
theorem tTf_ (hG:wg_ G) (q:QeaT) (hf:fewQ q=true) (hr:r14 q=true):PQ G nt17 [qeaV q] (.tup [qeaV (ordQ (cutQ q)),.bool true]):=by
 have F:=fo_ hr;have W:=fw_of hf;obtain⟨s,hs,hsl⟩:=ms_ F;obtain⟨l1,l2⟩:=tl11 q;obtain⟨w1,w2,w3,w4,w5,w6,w7,w8,w9,w10⟩:=id W;have h:=tTp_ (G:=G) hG q (fo10 q hf) (by rw[re_];exact hr) (wo10 F W) s hs W.sl hsl (to10 F) (by omega) (by omega) (by show q.states.length≤1000;omega) (by omega) (fun x hx=>by
  obtain⟨y,hy,rfl⟩:=om10 hx;have:=w9 y hy;show (y.args.map _).length≤1000;rw[zX];omega) (fun x hx=>by
  obtain⟨y,hy,rfl⟩:=tm11 hx;have:=sa16 W (n:=y.1.symbol);show (s30 q y.1.symbol).args.length≤1000;omega) (to15 F W _) _ _ _ _ _ (ro12 F W)
 rw[mi12 F.yn (so_ F) (mk_s F)] at h;exact h
theorem ap_ (hG:wg_ G):PQ G npa_ [] (.bool true):=by have h:=tTf_ (G:=G) hG qEx (by rfl) (by rfl);rw[qc11] at h;exact la10 h
theorem Tp_ (hG:wg_ G) (q:QeaT):PQ G npT_ [qeaV q] (.bool true):=by
 have ha:=ap_ (G:=G) hG;have hF:=rF11 (G:=G) q;cases hf:fewQ q with
 | false=>
  rw[hf] at hF;exact lf10 q hF ha
 | true=>
  rw[hf,zG rfl] at hF;have hq:=fo10 q hf;have hR:=rR10 (G:=G) q hq;cases hr:r14 q with
  | false=>
   rw[hr] at hR;have hc:r16 q=false:=by rw[re_];exact hr
   have hz:zQ.Few:=⟨xE _,(fun _ h=>by cases h),xE _,xE _,xE _,xE _,(fun _ h=>by cases h),xE _,xE _,(fun _ h=>by cases h)⟩;have hp:zQ.Plainly:=⟨(fun _ h=>by cases h),(fun _ h=>by cases h)⟩;have hs:=rS10 (G:=G) zQ zQ hz hz hp hp;rw[xM rfl] at hs;exact lw_ q hF ha (tTn_ hG q hq hc) (sn10 hG q hq hc) hR hs (tn10 hG q hq hc)
  | true=>
   rw[hr] at hR;have hc:r16 q=true:=by rw[re_];exact hr
   have F:=fo_ hr;have W:=fw_of hf;obtain⟨s,hs,hsl⟩:=ms_ F;obtain⟨w1,w2,w3,w4,w5,w6,w7,w8,w9,w10⟩:=id W;have hr2:=ro_ hr;have hf2:=fo11 hf hr;have F2:=fo_ hr2;have W2:=fw_of hf2;have hq2:=fo10 _ hf2;have hc2:r16 (ordQ (cutQ q))=true:=by rw[re_];exact hr2
   obtain⟨s2,hs2,hsl2⟩:=ms_ F2;have hT:=tTf_ (G:=G) hG q hf hr;have hT2:=tTf_ (G:=G) hG (ordQ (cutQ q)) hf2 hr2;rw[ca10 hr] at hT2;have hR2:=rR10 (G:=G) _ hq2;rw[hr2] at hR2;have hpl:=pr_ hf2 hr2;have hS:=rS10 (G:=G) (ordQ (cutQ q)) (ordQ (cutQ q)) hq2 hq2 hpl hpl;rw[xM rfl] at hS;have hto:=rT10 (G:=G) q s hsl (to10 F) (by omega) (by omega);have htm:=tp_ (G:=G) hG (ordQ (cutQ q)) hq2 hc2 s2 hs2 W2.sl hsl2 (to10 F2) (by have:=W2.tl;omega);rw[ra14 F2 (ma_ hr),tQ] at htm;have hst:=sp_ (G:=G) hG q hq hc s hs w4 hsl (to10 F) (by omega);have htr:=tp_ (G:=G) hG q hq hc s hs w4 hsl (to10 F) (by omega);have h41:=rT11 (G:=G) q s hs w4 hsl (to10 F) (by omega) (by omega) (by omega) (fun t ht=>(ta35 F ht).elim fun a h=>h.2.2.hs) (fun x hx=>to18 F W hx) ⟨by have:=ctl_ q;omega,fun t ht=>cs38 F ht⟩;have hto2:PQ G np13 [qeaV q,iv q.start] (m14 (m_ q)):=by unfold m_;rw[hs];exact hto
   exact lr_ q (ordQ (cutQ q)) hF ha hT hst hR hto2 (ml10 F) w4 htr hT2 h41 hS hR2 htm
