/- Lemmas. -/
import Derived.Test.YtkgcnoghjibiaaaGreatDoorYTh7
set_option linter.unusedSimpArgs false
set_option maxHeartbeats 4000000
set_option maxRecDepth 100000
namespace Go.Proofs.YtkgcnoghjibiaaaGreatDoor.Ab
open Go Go.RowKit
variable {G:Nat->Option AV}
def qEx:QeaT:=⟨[113],[],[],[],[⟨[115],false,false⟩,⟨[116],false,false⟩],0,[],[],[]⟩
def pEx:QeaT:=⟨[113],[],[],[],[⟨[115],false,false⟩],0,[],[],[]⟩
theorem la10 (h1:PQ G 6 [qeaV qEx] (.tup [qeaV pEx,.bool true])):PQ G 5 [] (.bool true):=by
 have f1:FitL [.agg [.str [113],.nils,.nils,.nils,.seq 3 [.agg [.str [115],.bool false,.bool false],.agg [.str [116],.bool false,.bool false]],iv 0,.nils,.nils,.nils]] [qeaV qEx]:=by
  refine⟨.agg _ _ rfl λj c d hc hd=>?_,trivial⟩
  match j,hc,hd with
  | 0,hc,hd=>cases hc;cases hd;exact .refl _
  | 1,hc,hd=>cases hc;cases hd;exact .nil _
  | 2,hc,hd=>cases hc;cases hd;exact .nil _
  | 3,hc,hd=>cases hc;cases hd;exact .nil _
  | 4,hc,hd=>cases hc;cases hd;exact .refl _
  | 5,hc,hd=>cases hc;cases hd;exact .refl _
  | 6,hc,hd=>cases hc;cases hd;exact .nil _
  | 7,hc,hd=>cases hc;cases hd;exact .nil _
  | 8,hc,hd=>cases hc;cases hd;exact .nil _
  | j+9,hc,hd=>cases hc
 refine pp27 λΦ h=>?_;unfold cp29;unfold pEx at h1;simp only[qeaV,d_,q_,f_,s_,s10,n_,t_,yU,yJ,s14] at h1
 repeat' (first|simp -implicitDefEqProofs only[go_sem]|apply ai__<;>intro hb|(refine acf_ h1 rfl f1 rfl ?_)|fail)
 all_goals (refine h _ ⟨_,_,rfl,rfl,fe_ ?_⟩;clear h;first | rfl | simp_all)
theorem qc11:ordQ (cutQ qEx)=pEx:=by rfl
theorem tTf_ (hG:wg_ G) (q:QeaT) (hf:fewQ q=true) (hr:r10 q=true):PQ G 6 [qeaV q] (.tup [qeaV (ordQ (cutQ q)),.bool true]):=by
 have F:=fo12 hr;have W:=fw_of hf;obtain⟨s,hs,hsl⟩:=ms_ F;obtain⟨l1,l2⟩:=tl11 q;obtain⟨w1,w2,w3,w4,w5,w6,w7,w8,w9,w10⟩:=id W;have h:=tTp_ (G:=G) hG q (fo10 q hf) (by rw[re10];exact hr) (wo11 F W) s hs W.sl hsl (to11 F) (by omega) (by omega) (by show q.states.length<=1000;omega) (by omega) (λx hx=>by
  obtain⟨y,hy,rfl⟩:=om10 hx;have:=w9 y hy;show (y.args.map _).length<=1000;rw[zQ];omega) (λx hx=>by
  obtain⟨y,hy,rfl⟩:=tm10 hx;have:=sa17 W (n:=y.1.symbol);show (s36 q y.1.symbol).args.length<=1000;omega) (to18 F W _) _ _ _ _ _ (ro14 F W)
 rw[mi12 F.yn (so_ F) (mk_s F)] at h;exact h
theorem ap_ (hG:wg_ G):PQ G 5 [] (.bool true):=by have h:=tTf_ (G:=G) hG qEx (by rfl) (by rfl);rw[qc11] at h;exact la10 h
def evSm (q:QeaT) (e:EvT):Bool:=decide ((e.args.length:Int)<=12)&&(evR q.decls e&&e.args.all λv=>decide ((v.str.length:Int)<=100))
def s22 (q:QeaT) (l:List EvT):Bool:=fewQ q&&(decide ((l.length:Int)<=10)&&(r10 q&&(q.decls.all (λd=>decide ((d.types.length:Int)<=3))&&(l.all (evSm q)&&decide (m16 (d14 q l)<=150)))))
theorem so22 {q:QeaT} (hf:fewQ q=true) (F:Fct q):SymsOk q:=by
 have W:=fw_of hf;have hyl:=W.yl;refine⟨by omega,λx hx=>?_⟩;have h1:=F.ys x hx;have h3:=W.ya x hx;unfold symS at h1;split at h1
 .cases h1
 .rename_i d hd;exact⟨⟨d,hd⟩,by omega⟩
theorem ro11 {q:QeaT} {l:List EvT} (hf:fewQ q=true) (hr:r10 q=true) (hn:∀x∈q.nodes,i64 x.value.int) (hfr:∀x∈q.frees,i64 x.init.int) (hl:(l.length:Int)<=10) (he64:∀e∈l,∀v∈e.args,i64 v.int) (he:l.all (evSm q)=true):RunQ q l:=by
 have F:=fo12 hr;have W:=fw_of hf;have hq:=fo10 q hf;have h:∀e∈l,(e.args.length:Int)<=12∧evR q.decls e=true∧∀v∈e.args,(v.str.length:Int)<=100:=λe hm=>by have:=xQ.1 he e hm;unfold evSm at this;simp only[zJ,zW,xQ] at this;exact this
 refine⟨⟨hf,hr,hn,hfr⟩,F,so22 hf F,by have:=W.ql;omega,hq.types,by omega,λe hm=>?_,λe hm v hv=>?_⟩
 .obtain⟨h1,h2,_⟩:=h e hm;exact⟨h2,he64 e hm,by omega⟩
 .have:=(h e hm).2.2 v hv;omega
theorem lsp_ (q:QeaT) (hn:∀x∈q.nodes,i64 x.value.int) (hfr:∀x∈q.frees,i64 x.init.int) (l:List EvT) (he64:∀e∈l,∀v∈e.args,i64 v.int):PQ G 4 [qeaV q,e_ l] (.bool (s22 q l)):=by
 have hF:=rF11 (G:=G) q;refine pp26 λΦ h=>?_;unfold cp28;have fin:∀(env:List (Nat×AV)) heap r,s22 q l=r->Φ ⟨85,(4,.bool r)::env,heap⟩:=λenv heap r e=>h _ ⟨_,_,rfl,rfl,by rw[e];exact .refl _⟩;clear h;cases hf:fewQ q with
 | false=>
  rw[hf] at hF;have e:s22 q l=false:=by unfold s22;rw[hf];rfl
  simp only[qeaV,d_,q_,f_,s_,s10,n_,t_] at hF
  repeat' (first|simp -implicitDefEqProofs only[go_sem,qeaV,d_,q_,f_,s_,s10,n_,t_,e_,zQ]|apply ai__<;>intro hb|refine ac_ hF rfl rfl ?_|fail)
  exact fin _ _ _ e
 | true=>
  rw[hf,zY rfl] at hF;have hq:=fo10 q hf;have hR:=rR10 (G:=G) q hq;simp only[qeaV,d_,q_,f_,s_,s10,n_,t_] at hF hR;by_cases hl:(l.length:Int)<=10
  .have hgt:decide ((l.length:Int)>10)=false:=by simp;omega
   cases hr:r10 q with
   | false=>
    rw[hr] at hR;have e:s22 q l=false:=by unfold s22;rw[hr];simp
    repeat' (first|simp -implicitDefEqProofs only[go_sem,qeaV,d_,q_,f_,s_,s10,n_,t_,e_,zQ,hgt]|apply ai__<;>intro hb|refine ac_ hF rfl rfl ?_|refine ac_ hR rfl rfl ?_|fail)
    exact fin _ _ _ e
   | true=>
    rw[hr] at hR;have hdl:=hq.decls
    repeat' (first|simp -implicitDefEqProofs only[go_sem,qeaV,d_,q_,f_,s_,s10,n_,t_,e_,zQ,hgt]|apply ai__<;>intro hb|refine ac_ hF rfl rfl ?_|refine ac_ hR rfl rfl ?_|fail)
    refine al_ (λn st=>∃i:Nat,i+n=q.decls.length∧(q.decls.drop i).all (λd=>decide ((d.types.length:Int)<=3))=q.decls.all (λd=>decide ((d.types.length:Int)<=3))∧st=⟨85,[(1,e_ l),(2,.ref 2 0 0),(5,iv i)],[(2,⟨false,30,9,[qeaV q]⟩)]⟩) q.decls.length ⟨0,by simp,rfl,rfl⟩ ?_;rintro I hI n st ⟨i,hi,ho,rfl⟩;by_cases hli:i<q.decls.length
    .obtain⟨⟨x1,x2⟩,hx,hxm⟩:=as10 hli;have hlt:decide ((i:Int)<(q.decls.length:Int))=true:=by simpa using hli
     have hw:=ws_ hli;rw[da_ hx,uL] at ho;have hnx:=λh0=>hI (n - 1) _ ⟨i+1,by omega,h0,rfl⟩;clear hI;by_cases h3:(x2.length:Int)<=3
     .have hg3:decide ((x2.length:Int)>3)=false:=by simp;omega
      rw[wQ h3,yR] at ho;have hnx:=hnx ho;clear fin
      repeat' (first|simp -implicitDefEqProofs only[go_sem,qeaV,d_,q_,f_,s_,s10,n_,t_,d12,i11,e_,zQ,hlt,hw,am_ hx,hg3]|apply ai__<;>intro hb)
      exact ae__ hnx
     .have hg3:decide ((x2.length:Int)>3)=true:=by simp;omega
      rw[wA h3,yM] at ho;have e:s22 q l=false:=by unfold s22;rw[<-ho];simp
      clear hnx
      repeat' (first|simp -implicitDefEqProofs only[go_sem,qeaV,d_,q_,f_,s_,s10,n_,t_,d12,i11,e_,zQ,hlt,hw,am_ hx,hg3]|apply ai__<;>intro hb)
      exact fin _ _ _ e
    .have hlt:decide ((i:Int)<(q.decls.length:Int))=false:=by simp;omega
     rw[yL (by omega)] at ho;clear hI
     repeat' (first|simp -implicitDefEqProofs only[go_sem,qeaV,d_,q_,f_,s_,s10,n_,t_,e_,zQ,hlt]|apply ai__<;>intro hb)
     refine al_ (λn st=>∃i:Nat,i+n=l.length∧(l.drop i).all (evSm q)=l.all (evSm q)∧st=⟨85,[(1,e_ l),(2,.ref 2 0 0),(6,iv i)],[(2,⟨false,30,9,[qeaV q]⟩)]⟩) l.length ⟨0,by simp,rfl,rfl⟩ ?_;rintro J hJ n2 st ⟨k,hk,hok,rfl⟩;by_cases hlk:k<l.length
     .obtain⟨e,he,hem⟩:=as10 hlk;have hltk:decide ((k:Int)<(l.length:Int))=true:=by simpa using hlk
      have hwk:=ws_ hlk;rw[da_ he,uL] at hok;have hnx:=λh0=>hJ (n2 - 1) _ ⟨k+1,by omega,h0,rfl⟩;have h8:=rR11 (G:=G) q.decls e hdl hq.types;have hno:evSm q e=false->s22 q l=false:=λh0=>by rw[h0,yM] at hok;unfold s22;rw[<-hok];simp
      clear hJ hF hR ho;have hsm:evSm q e=(decide ((e.args.length:Int)<=12)&&(evR q.decls e&&e.args.all λv=>decide ((v.str.length:Int)<=100))):=rfl;generalize evSm q e=b at*;generalize evR q.decls e=r8 at*;obtain⟨en,ea⟩:=e;simp only[qeaV,d_,q_,f_,s_,s10,n_,t_,e10] at h8;by_cases h12:(ea.length:Int)<=12
      .have hg12:decide ((ea.length:Int)>12)=false:=by simp;omega
       rw[wQ h12,yR] at hsm;cases r8 with
       | false=>
        rw[yM] at hsm
        repeat' (first|simp -implicitDefEqProofs only[go_sem,qeaV,d_,q_,f_,s_,s10,n_,t_,e10,e_,zQ,hltk,hwk,am_ he,hg12]|apply ai__<;>intro hb|refine ac_ h8 rfl rfl ?_|fail)
        exact fin _ _ _ (hno hsm)
       | true=>
        rw[yR] at hsm
        repeat' (first|simp -implicitDefEqProofs only[go_sem,qeaV,d_,q_,f_,s_,s10,n_,t_,e10,e_,zQ,hltk,hwk,am_ he,hg12]|apply ai__<;>intro hb|refine ac_ h8 rfl rfl ?_|fail)
        refine al_ (λn st=>∃j:Nat,j+n=ea.length∧(ea.drop j).all (λv=>decide ((v.str.length:Int)<=100))=b∧st=⟨85,[(1,e_ l),(2,.ref 2 0 0),(6,iv k),(7,iv j)],[(2,⟨false,30,9,[qeaV q]⟩)]⟩) ea.length ⟨0,by simp,hsm.symm,rfl⟩ ?_;rintro K hK n3 st ⟨j,hj,hoj,rfl⟩;by_cases hlj:j<ea.length
        .obtain⟨v,hv,hvm⟩:=as10 hlj;have hltj:decide ((j:Int)<(ea.length:Int))=true:=by simpa using hlj
         have hwj:=ws_ hlj;rw[da_ hv,uL] at hoj;have hnx3:=λh0=>hK (n3 - 1) _ ⟨j+1,by omega,h0,rfl⟩;clear hK hnx;obtain⟨v1,v2,v3,v4⟩:=v;by_cases h100:(v3.length:Int)<=100
         .have hg100:decide ((v3.length:Int)>100)=false:=by simp;omega
          rw[wQ h100,yR] at hoj;have hnx3:=hnx3 hoj;clear fin
          repeat' (first|simp -implicitDefEqProofs only[go_sem,qeaV,d_,q_,f_,s_,s10,n_,t_,e10,e_,valV,zQ,hltj,hwj,am_ he,am_ hv,hg100]|apply ai__<;>intro hb)
          exact ae__ hnx3
         .have hg100:decide ((v3.length:Int)>100)=true:=by simp;omega
          rw[wA h100,yM] at hoj
          repeat' (first|simp -implicitDefEqProofs only[go_sem,qeaV,d_,q_,f_,s_,s10,n_,t_,e10,e_,valV,zQ,hltj,hwj,am_ he,am_ hv,hg100]|apply ai__<;>intro hb)
          exact fin _ _ _ (hno hoj.symm)
        .have hltj:decide ((j:Int)<(ea.length:Int))=false:=by simp;omega
         rw[yL (by omega)] at hoj;rw[<-hoj,List.all_nil,yR] at hok;have hnx:=hnx hok;clear hK fin
         repeat' (first|simp -implicitDefEqProofs only[go_sem,qeaV,d_,q_,f_,s_,s10,n_,t_,e10,e_,zQ,hltj,hwk,am_ he]|apply ai__<;>intro hb)
         exact ae__ hnx
      .have hg12:decide ((ea.length:Int)>12)=true:=by simp;omega
       rw[wA h12,yM] at hsm
       repeat' (first|simp -implicitDefEqProofs only[go_sem,qeaV,d_,q_,f_,s_,s10,n_,t_,e10,e_,zQ,hltk,hwk,am_ he,hg12]|apply ai__<;>intro hb|refine ac_ h8 rfl rfl ?_|fail)
       exact fin _ _ _ (hno hsm)
     .have hltk:decide ((k:Int)<(l.length:Int))=false:=by simp;omega
      rw[yL (by omega)] at hok;have R:=ro11 hf hr hn hfr hl he64 hok.symm;have h1:=R.of (G:=G);have hdl2:=dq_ q l;have hql:=R.ql;have h2:=rMp_ (G:=G) (d14 q l) (by omega) R.dx;have e:s22 q l=decide (m16 (d14 q l)<=150):=by unfold s22;rw[hf,hr,<-ho,<-hok,wQ hl];rfl
      clear hJ hF hR ho hok R;generalize m16 (d14 q l)=m at*;generalize d14 q l=D at*;simp only[qeaV,d_,q_,f_,s_,s10,n_,t_,d11,e_] at h1 h2
      repeat' (first|simp -implicitDefEqProofs only[go_sem,qeaV,d_,q_,f_,s_,s10,n_,t_,e_,d11,zQ,hltk]|apply ai__<;>intro hb|refine ac_ h1 rfl rfl ?_|refine ac_ h2 rfl rfl ?_|fail)
      exact fin _ _ _ e
  .have hgt:decide ((l.length:Int)>10)=true:=by simp;omega
   have e:s22 q l=false:=by unfold s22;rw[wA hl];simp
   repeat' (first|simp -implicitDefEqProofs only[go_sem,qeaV,d_,q_,f_,s_,s10,n_,t_,e_,zQ,hgt]|apply ai__<;>intro hb|refine ac_ hF rfl rfl ?_|refine ac_ hR rfl rfl ?_|fail)
   exact fin _ _ _ e
theorem lh_ (q p:QeaT) (l:List EvT) (w:Int×Int) (b:Bool) (hs:PQ G 4 [qeaV q,e_ l] (.bool true)) (hT:PQ G 6 [qeaV q] (.tup [qeaV p,.bool true])) (hR:PQ G 7 [qeaV p] (.bool true))
  (h1:PQ G 8 [qeaV q,e_ l] (.tup [iv w.1,iv w.2])) (h2:PQ G 8 [qeaV p,e_ l] (.tup [iv w.1,iv w.2])) (h3:PQ G 9 [qeaV q,e_ l] (.bool b)) (h4:PQ G 9 [qeaV p,e_ l] (.bool b)) (ha:PQ G 5 [] (.bool true)):
  PQ G 3 [qeaV q,e_ l] (.bool true):=by
 obtain⟨w1,w2⟩:=w;obtain⟨p1,p2,p3,p4,p5,p6,p7,p8,p9⟩:=p;refine ppT_ λΦ h=>?_;unfold cpT_;dsimp only at h1 h2;simp only[qeaV,d_,q_,f_,s_,s10,n_,t_,e_] at hs hT hR h1 h2 h3 h4;have hii:∀x:Int,(x==x)=true:=λx=>by simp
 have hbb:∀x:Bool,(x==x)=true:=λx=>by cases x <;> rfl
 by_cases h0:w2=0
 .subst h0
  repeat' (first|simp -implicitDefEqProofs only[go_sem,qeaV,d_,q_,f_,s_,s10,n_,t_,e_,hii,hbb]|apply ai__<;>intro hb|refine ac_ hs rfl rfl ?_|refine ac_ hT rfl rfl ?_|refine ac_ hR rfl rfl ?_|refine ac_ h1 rfl rfl ?_|refine ac_ h2 rfl rfl ?_|refine ac_ h3 rfl rfl ?_|refine ac_ h4 rfl rfl ?_|refine ac_ ha rfl rfl ?_|fail)
  all_goals (refine h _ ⟨_,_,rfl,rfl,fe_ ?_⟩;clear h;first | rfl | simp_all)
 .have e0:(w2 != 0)=true:=by simpa using h0
  repeat' (first|simp -implicitDefEqProofs only[go_sem,qeaV,d_,q_,f_,s_,s10,n_,t_,e_,hii,hbb,e0]|apply ai__<;>intro hb|refine ac_ hs rfl rfl ?_|refine ac_ hT rfl rfl ?_|refine ac_ hR rfl rfl ?_|refine ac_ h1 rfl rfl ?_|refine ac_ h2 rfl rfl ?_|refine ac_ h3 rfl rfl ?_|refine ac_ h4 rfl rfl ?_|refine ac_ ha rfl rfl ?_|fail)
  all_goals (refine h _ ⟨_,_,rfl,rfl,fe_ ?_⟩;clear h;first | rfl | simp_all)
theorem Tp_ (hG:wg_ G) (q:QeaT) (hn:∀x∈q.nodes,i64 x.value.int) (hfr:∀x∈q.frees,i64 x.init.int) (l:List EvT) (he64:∀e∈l,∀v∈e.args,i64 v.int):PQ G 3 [qeaV q,e_ l] (.bool true):=by
 have ha:=ap_ (G:=G) hG;have hs:=lsp_ (G:=G) q hn hfr l he64;cases hsm:s22 q l with
 | false=>
  rw[hsm] at hs;refine ppT_ λΦ h=>?_;unfold cpT_;simp only[qeaV,d_,q_,f_,s_,s10,n_,t_,e_] at hs
  repeat' (first|simp -implicitDefEqProofs only[go_sem,qeaV,d_,q_,f_,s_,s10,n_,t_,e_]|apply ai__<;>intro hb|refine ac_ hs rfl rfl ?_|refine ac_ ha rfl rfl ?_|fail)
  all_goals (refine h _ ⟨_,_,rfl,rfl,fe_ ?_⟩;clear h;first | rfl | simp_all)
 | true=>
  rw[hsm] at hs;unfold s22 at hsm;simp only[zJ,zW] at hsm;obtain⟨hf,hl,hr,_,he,hm⟩:=hsm;have R:=ro11 hf hr hn hfr hl he64 he;have hr2:=ro12 hr;have hf2:=fo14 hf hr;have R2:RunQ (ordQ (cutQ q)) l:=ro11 hf2 hr2 (λx hx=>by
   have hx2:x∈(cutQ q).nodes:=hx;rcases tn_ _ _ x hx2 with h | ⟨y,hy,e⟩
   .cases h
   .rw[e];exact hn y hy) hfr hl he64 he
  have hT:=tTf_ (G:=G) hG q hf hr;have hR2:=rR10 (G:=G) _ (fo10 _ hf2);rw[hr2] at hR2;have h1:=rWp_ (G:=G) R hm;have h2:=rWp_ (G:=G) R2 (by rw[do10 R.F];exact hm);rw[wo10 R.F] at h2;have h3:=rHp_ (G:=G) R;have h4:=rHp_ (G:=G) R2;rw[ho11 R.F] at h4;exact lh_ q (ordQ (cutQ q)) l _ _ hs hT hR2 h1 h2 h3 h4 ha
