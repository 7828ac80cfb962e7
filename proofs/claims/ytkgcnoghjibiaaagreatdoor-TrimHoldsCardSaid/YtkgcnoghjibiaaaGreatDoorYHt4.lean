/- Lemmas. -/
import Derived.Test.YtkgcnoghjibiaaaGreatDoorYHt3
namespace Go.Proofs.YtkgcnoghjibiaaaGreatDoor.Ab
open Go Go.RowKit
set_option linter.unusedSimpArgs false
set_option maxHeartbeats 4000000
set_option maxRecDepth 100000
variable {G:Nat->Option AV}
def h19 (q:QeaT) (c:CfgT) (t:TransT) (s:List CfgT×Int) (h:HitT):List CfgT×Int:=
 if h.symbol=t.symbol then ((if (f14 q c t h).2.1=true then putR s.1 (f14 q c t h).1 else s.1),w13 s.2 (f14 q c t h).2.2) else s
def t40 (q:QeaT) (c:CfgT) (hits:List HitT) (s:List CfgT×Int) (t:TransT):List CfgT×Int:=if t.from_=c.state then hits.foldl (h19 q c t) s else s
def o13 (q:QeaT) (c:CfgT) (hits:List HitT):List CfgT×Int:=q.trans.foldl (t40 q c hits) ([],0)
def o14 (q:QeaT) (c:CfgT) (hits:List HitT):List CfgT×Int:=
 if ¬(o13 q c hits).2=0 then ([],(o13 q c hits).2) else if (o13 q c hits).1=[]∧n17 q c=false then ([c],0) else ((o13 q c hits).1,0)
def o8 (out:List CfgT):AV:=if out=[] then .arr 8 0 0 else c11 out
def h8 (out:List CfgT):List (Nat×Box):=if out=[] then [(8,⟨true,178,2,[]⟩)] else []
theorem on10:o8 []= .arr 8 0 0:=rfl
theorem hn10:h8 []=[(8,⟨true,178,2,[]⟩)]:=rfl
theorem o8_ne {out:List CfgT} (h:out≠[]):o8 out= .seq 2 (out.map cfgV):=zK h
theorem h8_ne {out:List CfgT} (h:out≠[]):h8 out=[]:=zK h
theorem pn11 (l:List CfgT) (c:CfgT):putR l c≠[]:=by
 unfold putR;split
 .intro h;subst h;rename_i hat;cases hat
 .simp
theorem CfgT.Ok.sm {q:QeaT} {c:CfgT} (hq:q.Good) (h:c.Ok q):c.Sm:=by
 have hl:=(fa_ h.st.2.2).1;have hf:=hq.fl;refine⟨by omega,λv hv=>?_⟩;have hk:=h.vok v hv;unfold Val.ok at hk;split at hk
 .simp only[zJ,zB] at hk;rw[hk.1];decide
 .split at hk
  .simp only[zJ,zW] at hk;omega
  .simp only[zJ,zB] at hk;rw[hk.2.2];decide
theorem rO10 {q:QeaT} {c:CfgT} {hits:List HitT} (hq:q.Good) (hc:c.Ok q) (hh:HitsOk q hits) (htl:q.trans.length<=12) (hhl:hits.length<=12) (hsl:∀t∈q.trans,t.sets.length<=1000000):
  PQ G 218 [qeaV q,cfgV c,h14 hits] (.tup [c11 (o14 q c hits).1,iv (o14 q c hits).2]):=by
 have hcs:=hc.st;obtain⟨sj,hsj⟩:∃j:Nat,c.state=j:=⟨c.state.toNat,by omega⟩;obtain⟨sx,hsx,_⟩:=as10 (l:=q.states) (i:=sj) (by omega);have hnext:n17 q c=sx.next:=by unfold n17;rw[hsj,at?_nat hsx]
 refine pp36 λΦ h=>?_;unfold cp38;have hfire:=λ(j:Nat) (t:TransT) (ht:q.trans[j]?=some t) (x:HitT) (hx:x∈hits)=>rfp_ (G:=G) hq hc (hh.ok x hx) j t ht (hsl t (zG ht));have hfok:=λ(t:TransT) (ht:t∈q.trans) (x:HitT) (hx:x∈hits)=>fo11 hq ht hc (hh.ok x hx);have hO:o14 q c hits=if ¬(o13 q c hits).2=0 then ([],(o13 q c hits).2) else if (o13 q c hits).1=[]∧sx.next=false then ([c],0) else ((o13 q c hits).1,0):=by unfold o14;rw[hnext]
 have hcsm:=hc.sm hq;generalize o14 q c hits=O at*;generalize hS:o13 q c hits=S at*;unfold o13 at hS;obtain⟨cst,cv⟩:=c;dsimp only at hsj;subst hsj;simp -implicitDefEqProofs only[go_sem,qeaV,d_,q_,f_,s_,s10,n_,t_,cfgV,h14,zQ];refine al_ (λn st=>∃(i:Nat) (out:List CfgT) (bad:Int),i+n=q.trans.length∧st=⟨89,[(2,h14 hits),(3,.ref 3 0 0),(4,.ref 4 0 0),(8,o8 out),(9,iv bad),(10,iv i)],(3,⟨false,30,9,[qeaV q]⟩)::(4,⟨false,178,2,[cfgV ⟨(sj:Int),cv⟩]⟩)::(6,⟨true,178,2,[]⟩)::h8 out⟩∧(q.trans.drop i).foldl (t40 q ⟨(sj:Int),cv⟩ hits) (out,bad)=S∧out.length<=12*i∧∀x∈out,x.Ok q) q.trans.length ⟨0,[],0,by simp,rfl,hS,by simp,λx hx=>by cases hx⟩ ?_;rintro I hI n st ⟨i,out,bad,hi,rfl,hgo,hol,hok⟩;have hnextI:∀out' bad',i<q.trans.length->(q.trans.drop (i+1)).foldl (t40 q ⟨(sj:Int),cv⟩ hits) (out',bad')=S->out'.length<=12*(i+1)->(∀x∈out',x.Ok q)->a13 I n ⟨89,[(2,h14 hits),(3,.ref 3 0 0),(4,.ref 4 0 0),(8,o8 out'),(9,iv bad'),(10,iv (i+1:Nat))],(3,⟨false,30,9,[qeaV q]⟩)::(4,⟨false,178,2,[cfgV ⟨(sj:Int),cv⟩]⟩)::(6,⟨true,178,2,[]⟩)::h8 out'⟩:=λout' bad' hlt h1 h2 h3=>aa_ (n - 1) (by omega) (hI _ _ ⟨i+1,out',bad',by omega,rfl,h1,h2,h3⟩);clear hI;by_cases hlt':i<q.trans.length
 .obtain⟨t,ht,htm⟩:=as10 hlt';have hw:=ws_ hlt';have hlt:((i:Int)<(q.trans.length:Int))=True:=by simp;exact hlt'
  rw[da_ ht,zO] at hgo;have hnextI:=λout' bad'=>hnextI out' bad' hlt';clear h;obtain⟨tf,ts,tt,tg,tsets⟩:=t;by_cases hf:tf=(sj:Int)
  .have hfe:(tf != (sj:Int))=false:=by simp [hf]
   rw[t40,zY (by exact hf)] at hgo
   repeat' (first|simp -implicitDefEqProofs only[go_sem,qeaV,d_,q_,f_,s_,s10,n_,t_,cfgV,h14,zQ,hlt,yD,am_ ht,t11,s18,hfe,hw]|apply ai__<;>intro hb)
   refine al_ (λn' st=>∃(k:Nat) (out':List CfgT) (bad':Int),k+n'=hits.length∧st=⟨89,[(2,h14 hits),(3,.ref 3 0 0),(4,.ref 4 0 0),(8,o8 out'),(9,iv bad'),(10,iv i),(11,iv k)],(3,⟨false,30,9,[qeaV q]⟩)::(4,⟨false,178,2,[cfgV ⟨(sj:Int),cv⟩]⟩)::(6,⟨true,178,2,[]⟩)::h8 out'⟩∧(hits.drop k).foldl (h19 q ⟨(sj:Int),cv⟩ ⟨tf,ts,tt,tg,tsets⟩) (out',bad')=hits.foldl (h19 q ⟨(sj:Int),cv⟩ ⟨tf,ts,tt,tg,tsets⟩) (out,bad)∧out'.length<=12*i+k∧∀x∈out',x.Ok q) hits.length ⟨0,out,bad,by simp,by
    by_cases ho:out=[]
    .subst ho;rfl
    .simp only[o8_ne ho,h8_ne ho];rfl,rfl,by omega,hok⟩ ?_
   rintro J hJ n' st ⟨k,out',bad',hk,rfl,hgo',hol',hok'⟩;have hnextJ:∀out2 bad2,k<hits.length->(hits.drop (k+1)).foldl (h19 q ⟨(sj:Int),cv⟩ ⟨tf,ts,tt,tg,tsets⟩) (out2,bad2)=hits.foldl (h19 q ⟨(sj:Int),cv⟩ ⟨tf,ts,tt,tg,tsets⟩) (out,bad)->out2.length<=12*i+(k+1)->(∀x∈out2,x.Ok q)->a13 J n' ⟨89,[(2,h14 hits),(3,.ref 3 0 0),(4,.ref 4 0 0),(8,o8 out2),(9,iv bad2),(10,iv i),(11,iv (k+1:Nat))],(3,⟨false,30,9,[qeaV q]⟩)::(4,⟨false,178,2,[cfgV ⟨(sj:Int),cv⟩]⟩)::(6,⟨true,178,2,[]⟩)::h8 out2⟩:=λout2 bad2 hlt h1 h2 h3=>aa_ (n' - 1) (by omega) (hJ _ _ ⟨k+1,out2,bad2,by omega,rfl,h1,h2,h3⟩);clear hJ;by_cases hlk:k<hits.length
   .obtain⟨x,hx,hxm⟩:=as10 hlk;have hwk:=ws_ hlk;have hltk:((k:Int)<(hits.length:Int))=True:=by simp;exact hlk
    rw[da_ hx,zO] at hgo';have hnextJ:=λout2 bad2=>hnextJ out2 bad2 hlk;have hfc:=hfire i ⟨tf,ts,tt,tg,tsets⟩ ht x hxm;have hfo:=hfok ⟨tf,ts,tt,tg,tsets⟩ htm x hxm;have hwo:=λe=>rwp_ (G:=G) bad' e;have hput:=λ(c':CfgT) (h':c'.Sm)=>rPp_ (G:=G) out' c' (by omega) (λy hy=>(hok' y hy).sm hq) h';rw[h19] at hgo';obtain⟨xs,xb,xf⟩:=x;dsimp only at hgo';clear hnextI hgo hfire hfok;by_cases hsy:xs=ts
    .rw[zY hsy] at hgo';have hse:(xs != ts)=false:=by simp [hsy]
     generalize f14 q ⟨(sj:Int),cv⟩ ⟨tf,ts,tt,tg,tsets⟩ ⟨xs,xb,xf⟩=r at*;obtain⟨⟨rs,rv⟩,rb,re⟩:=r;have hwo:=hwo re;dsimp only at hfo hgo';generalize w13 bad' re=wr at*;cases rb with
     | true=>
      rw[zY rfl] at hgo';obtain⟨he0,hrok⟩:=hfo.2 rfl;have hput:=hput _ (hrok.sm hq);have hpl:=pl11 out' ⟨rs,rv⟩;have hpm:∀y∈putR out' ⟨rs,rv⟩,y.Ok q:=λy hy=>(pm10 hy).elim (hok' y) λe=>e ▸ hrok;have hnx:=hnextJ _ _ hgo' (by omega) hpm;have hne:=pn11 out' ⟨rs,rv⟩;simp only[o8_ne hne,h8_ne hne] at hnx;generalize putR out' ⟨rs,rv⟩=pr at*;simp only[f29,xW,qeaV,d_,q_,f_,s_,s10,n_,t_,cfgV,hitV,s11,c11] at hfc hput;clear hgo' hpm hne hfo hrok;by_cases ho:out'=[]
      .subst ho;simp only[on10,hn10,yU] at hput ⊢
       repeat' (first|simp -implicitDefEqProofs only[go_sem,qeaV,d_,q_,f_,s_,s10,n_,t_,cfgV,h14,hitV,s11,zQ,hltk,yD,am_ ht,am_ hx,t11,s18,hse,hwk]|apply ai__<;>intro hb|refine ac_ hfc rfl rfl ?_|refine ac_ hwo rfl rfl ?_|refine ac_ hput rfl rfl ?_|fail)
       exact hnx
      .simp only[o8_ne ho,h8_ne ho]
       repeat' (first|simp -implicitDefEqProofs only[go_sem,qeaV,d_,q_,f_,s_,s10,n_,t_,cfgV,h14,hitV,s11,zQ,hltk,yD,am_ ht,am_ hx,t11,s18,hse,hwk]|apply ai__<;>intro hb|refine ac_ hfc rfl rfl ?_|refine ac_ hwo rfl rfl ?_|refine ac_ hput rfl rfl ?_|fail)
       exact hnx
     | false=>
      rw[zK (by simp)] at hgo';have hnx:=hnextJ _ _ hgo' (by omega) hok';simp only[f29,zF,yI,qeaV,d_,q_,f_,s_,s10,n_,t_,cfgV,hitV,s11] at hfc;clear hgo' hput hfo;by_cases ho:out'=[]
      .subst ho;simp only[on10,hn10] at hnx ⊢
       repeat' (first|simp -implicitDefEqProofs only[go_sem,qeaV,d_,q_,f_,s_,s10,n_,t_,cfgV,h14,hitV,s11,zQ,hltk,yD,am_ ht,am_ hx,t11,s18,hse,hwk]|apply ai__<;>intro hb|refine ac_ hfc rfl rfl ?_|refine ac_ hwo rfl rfl ?_|fail)
       exact hnx
      .simp only[o8_ne ho,h8_ne ho] at hnx ⊢
       repeat' (first|simp -implicitDefEqProofs only[go_sem,qeaV,d_,q_,f_,s_,s10,n_,t_,cfgV,h14,hitV,s11,zQ,hltk,yD,am_ ht,am_ hx,t11,s18,hse,hwk]|apply ai__<;>intro hb|refine ac_ hfc rfl rfl ?_|refine ac_ hwo rfl rfl ?_|fail)
       exact hnx
    .rw[zK hsy] at hgo';have hse:(xs != ts)=true:=by simp [hsy]
     have hnx:=hnextJ _ _ hgo' (by omega) hok';clear hgo' hput hfo hfc hwo;by_cases ho:out'=[]
     .subst ho;simp only[on10,hn10] at hnx ⊢
      repeat' (first|simp -implicitDefEqProofs only[go_sem,qeaV,d_,q_,f_,s_,s10,n_,t_,cfgV,h14,hitV,s11,zQ,hltk,yD,am_ ht,am_ hx,t11,s18,hse,hwk]|apply ai__<;>intro hb)
      exact hnx
     .simp only[o8_ne ho,h8_ne ho] at hnx ⊢
      repeat' (first|simp -implicitDefEqProofs only[go_sem,qeaV,d_,q_,f_,s_,s10,n_,t_,cfgV,h14,hitV,s11,zQ,hltk,yD,am_ ht,am_ hx,t11,s18,hse,hwk]|apply ai__<;>intro hb)
      exact hnx
   .have hltk:((k:Int)<(hits.length:Int))=False:=by simp;omega
    rw[yL (by omega),uZ] at hgo';rw[<-hgo'] at hgo;have hnx:=hnextI _ _ hgo (by omega) hok';clear hgo' hgo hnextJ hnextI hfire hfok;by_cases ho:out'=[]
    .subst ho;simp only[on10,hn10] at hnx ⊢
     repeat' (first|simp -implicitDefEqProofs only[go_sem,qeaV,d_,q_,f_,s_,s10,n_,t_,cfgV,h14,zQ,hltk,yA,hw]|apply ai__<;>intro hb)
     exact hnx
    .simp only[o8_ne ho,h8_ne ho] at hnx ⊢
     repeat' (first|simp -implicitDefEqProofs only[go_sem,qeaV,d_,q_,f_,s_,s10,n_,t_,cfgV,h14,zQ,hltk,yA,hw]|apply ai__<;>intro hb)
     exact hnx
  .have hfe:(tf != (sj:Int))=true:=by simp [hf]
   rw[t40,zK (by exact hf)] at hgo;have hnx:=hnextI out bad hgo (by omega) hok;by_cases ho:out=[]
   .subst ho;simp only[on10,hn10] at hnx ⊢
    repeat' (first|simp -implicitDefEqProofs only[go_sem,qeaV,d_,q_,f_,s_,s10,n_,t_,cfgV,h14,zQ,hlt,yD,am_ ht,t11,s18,hfe,hw]|apply ai__<;>intro hb)
    exact hnx
   .simp only[o8_ne ho,h8_ne ho] at hnx ⊢
    repeat' (first|simp -implicitDefEqProofs only[go_sem,qeaV,d_,q_,f_,s_,s10,n_,t_,cfgV,h14,zQ,hlt,yD,am_ ht,t11,s18,hfe,hw]|apply ai__<;>intro hb)
    exact hnx
 .have hlt:((i:Int)<(q.trans.length:Int))=False:=by simp;omega
  rw[yL (by omega),uZ] at hgo;subst hgo;dsimp only at hO;clear hnextI hfire hfok;have hz0:((0:Nat):Int)=0:=rfl;by_cases hb:bad=0
  .subst hb;rw[zK (by simp)] at hO;by_cases ho:out=[]
   .subst ho;simp only[on10,hn10];obtain⟨sxn,sx1,sx2⟩:=sx;dsimp only at hO;cases sx1
    .rw[zY ⟨rfl,rfl⟩] at hO;subst hO
     repeat' (first|simp -implicitDefEqProofs only[go_sem,qeaV,d_,q_,f_,s_,s10,n_,t_,cfgV,h14,zQ,hlt,yA,am_ hsx,s14,hz0]|apply ai__<;>intro hb)
     exact hq_ h
    .rw[zK (by simp)] at hO;subst hO
     repeat' (first|simp -implicitDefEqProofs only[go_sem,qeaV,d_,q_,f_,s_,s10,n_,t_,cfgV,h14,zQ,hlt,yA,am_ hsx,s14,hz0]|apply ai__<;>intro hb)
     exact hq_ h
   .rw[zK (λe=>ho e.1)] at hO;subst hO;have hl0:((out.length:Int)==0)=false:=by
     have:out.length≠0:=λe=>ho (yT e);simp;omega
    simp only[o8_ne ho,h8_ne ho]
    repeat' (first|simp -implicitDefEqProofs only[go_sem,qeaV,d_,q_,f_,s_,s10,n_,t_,cfgV,h14,zQ,hlt,yA,hl0]|apply ai__<;>intro hb)
    exact hq_ h
  .rw[zY hb] at hO;subst hO;have hb0:(bad != 0)=true:=by simp [hb]
   by_cases ho:out=[]
   .subst ho;simp only[on10,hn10]
    repeat' (first|simp -implicitDefEqProofs only[go_sem,qeaV,d_,q_,f_,s_,s10,n_,t_,cfgV,h14,zQ,hlt,yA,hb0]|apply ai__<;>intro hb)
    exact hq_ h
   .simp only[o8_ne ho,h8_ne ho]
    repeat' (first|simp -implicitDefEqProofs only[go_sem,qeaV,d_,q_,f_,s_,s10,n_,t_,cfgV,h14,zQ,hlt,yA,hb0]|apply ai__<;>intro hb)
    exact hq_ h
def a30 (q:QeaT) (hits:List HitT) (s:List CfgT×Int) (c:CfgT):List CfgT×Int:=((o14 q c hits).1.foldl putR s.1,w13 s.2 (o14 q c hits).2)
def a25 (q:QeaT) (set:List CfgT) (hits:List HitT):List CfgT×Int:=
 let s:=set.foldl (a30 q hits) ([],0)
 if ¬s.2=0 then ([],s.2) else if 256<s.1.length then ([],14) else (s.1,0)
theorem ho10 {q:QeaT} {c:CfgT} {t:TransT} (hq:q.Good) (hc:c.Ok q) (ht:t∈q.trans):∀(l:List HitT),(∀h∈l,h.Ok q)->∀(s:List CfgT×Int),(∀x∈s.1,x.Ok q)->
  (∀x∈(l.foldl (h19 q c t) s).1,x.Ok q)∧(l.foldl (h19 q c t) s).1.length<=s.1.length+l.length
 | [],_,s,h=>⟨h,zN _⟩
 | x::l,hl,s,h=>by
  have hf:=fo11 hq ht hc (hl x (by simp));have hs:(∀y∈(h19 q c t s x).1,y.Ok q)∧(h19 q c t s x).1.length<=s.1.length+1:=by
   unfold h19;split
   .dsimp only;split
    .rename_i hb;refine⟨λy hy=>(pm10 hy).elim (h y) λe=>?_,pl11 _ _⟩;rw[e];exact (hf.2 hb).2
    .exact⟨h,by omega⟩
   .exact⟨h,by omega⟩
  obtain⟨g1,g2⟩:=ho10 hq hc ht l (λy hy=>hl y (by simp [hy])) _ hs.1;rw[zO,yH];exact⟨g1,by omega⟩
theorem to17 {q:QeaT} {c:CfgT} {hits:List HitT} (hq:q.Good) (hc:c.Ok q) (hh:HitsOk q hits) (hhl:hits.length<=12):∀(l:List TransT),(∀t∈l,t∈q.trans)->∀(s:List CfgT×Int),(∀x∈s.1,x.Ok q)->
  (∀x∈(l.foldl (t40 q c hits) s).1,x.Ok q)∧(l.foldl (t40 q c hits) s).1.length<=s.1.length+12*l.length
 | [],_,s,h=>⟨h,zN _⟩
 | t::l,hl,s,h=>by
  have hs:(∀y∈(t40 q c hits s t).1,y.Ok q)∧(t40 q c hits s t).1.length<=s.1.length+12:=by
   unfold t40;split
   .obtain⟨g1,g2⟩:=ho10 hq hc (hl t (by simp)) hits hh.ok s h;exact⟨g1,by omega⟩
   .exact⟨h,by omega⟩
  obtain⟨g1,g2⟩:=to17 hq hc hh hhl l (λy hy=>hl y (by simp [hy])) _ hs.1;rw[zO,yH];exact⟨g1,by omega⟩
theorem oo_ {q:QeaT} {c:CfgT} {hits:List HitT} (hq:q.Good) (hc:c.Ok q) (hh:HitsOk q hits) (hhl:hits.length<=12) (htl:q.trans.length<=12):(∀x∈(o14 q c hits).1,x.Ok q)∧(o14 q c hits).1.length<=150:=by
 obtain⟨g1,g2⟩:=to17 hq hc hh hhl q.trans (λt h=>h) ([],0) (λx h=>by cases h);unfold o14 o13;split
 .exact⟨λx h=>(by cases h),by simp⟩
 .split
  .exact⟨λx h=>(yZ.1 h) ▸ hc,by simp⟩
  .simp only[xY] at g2;exact⟨g1,by dsimp only;omega⟩
theorem rA13 {q:QeaT} {set:List CfgT} {hits:List HitT} (hq:q.Good) (hs:∀c∈set,c.Ok q) (hh:HitsOk q hits) (htl:q.trans.length<=12) (hhl:hits.length<=12) (hsl:∀t∈q.trans,t.sets.length<=1000000) (hset:set.length<=1000):
  PQ G 144 [qeaV q,c11 set,h14 hits] (.tup [c11 (a25 q set hits).1,iv (a25 q set hits).2]):=by
 refine pp37 λΦ h=>?_;unfold cp39;have hone:=λ(c:CfgT) (hc:c∈set)=>rO10 (G:=G) hq (hs c hc) hh htl hhl hsl;have hook:=λ(c:CfgT) (hc:c∈set)=>oo_ hq (hs c hc) hh hhl htl;unfold a25 at h;dsimp only at h;generalize hS:set.foldl (a30 q hits) ([],0)=S at*;simp -implicitDefEqProofs only[go_sem,qeaV,d_,q_,f_,s_,s10,n_,t_,c11,h14,zQ]
 refine al11 (λn st=>∃(i:Nat) (out:List CfgT) (bad:Int),i+n=set.length∧st=⟨56,[(1,c11 set),(2,h14 hits),(3,.ref 3 0 0),(8,c11 out),(9,iv bad),(10,iv i)],[(3,⟨false,30,9,[qeaV q]⟩),(6,⟨true,178,2,[]⟩)]⟩∧(set.drop i).foldl (a30 q hits) (out,bad)=S∧out.length<=200*i∧∀x∈out,x.Ok q) set.length
  ⟨56,[(1,c11 set),(2,h14 hits),(3,.ref 3 0 0),(8,c11 []),(9,iv 0),(10,iv 0)],[(3,⟨false,30,9,[qeaV q]⟩),(6,⟨true,178,2,[]⟩)]⟩ (wt_ (i:=8) rfl rfl) ⟨0,[],0,by simp,rfl,hS,by simp,λx hx=>by cases hx⟩ ?_
 rintro I hI n st ⟨i,out,bad,hi,rfl,hgo,hol,hok⟩;by_cases hlt':i<set.length
 .obtain⟨c,hc,hcm⟩:=as10 hlt';have hw:=ws_ hlt';have hlt:((i:Int)<(set.length:Int))=True:=by simp;exact hlt'
  rw[da_ hc,zO] at hgo;rw[a30] at hgo;have hnext:∀out' bad',(set.drop (i+1)).foldl (a30 q hits) (out',bad')=S->out'.length<=200*(i+1)->(∀x∈out',x.Ok q)->a13 I n ⟨56,[(1,c11 set),(2,h14 hits),(3,.ref 3 0 0),(8,c11 out'),(9,iv bad'),(10,iv (i+1:Nat))],[(3,⟨false,30,9,[qeaV q]⟩),(6,⟨true,178,2,[]⟩)]⟩:=λout' bad' h1 h2 h3=>aa_ (n - 1) (by omega) (hI _ _ ⟨i+1,out',bad',by omega,rfl,h1,h2,h3⟩);have h1:=hone c hcm;obtain⟨hwok,hwl⟩:=hook c hcm;have h2:=λe=>rwp_ (G:=G) bad e;clear hI h hone hook;generalize o14 q c hits=O at*;obtain⟨W,oe⟩:=O;have h2:=h2 oe;dsimp only at hgo hwok hwl h1;generalize w13 bad oe=wr at*;obtain⟨cst,cv⟩:=c;simp only[qeaV,d_,q_,f_,s_,s10,n_,t_,cfgV,c11,h14] at h1
  repeat' (first|simp -implicitDefEqProofs only[go_sem,qeaV,d_,q_,f_,s_,s10,n_,t_,cfgV,c11,h14,zQ,hlt,yD,am_ hc,hw]|apply ai__<;>intro hb|refine ac_ h1 rfl rfl ?_|refine ac_ h2 rfl rfl ?_|fail)
  refine al_ (λn' st=>∃(k:Nat) (out':List CfgT),k+n'=W.length∧st=⟨56,[(1,c11 set),(2,h14 hits),(3,.ref 3 0 0),(8,c11 out'),(9,iv wr),(10,iv i),(11,c11 W),(13,iv k)],[(3,⟨false,30,9,[qeaV q]⟩),(6,⟨true,178,2,[]⟩)]⟩∧(W.drop k).foldl putR out'=W.foldl putR out∧out'.length<=200*i+k∧∀x∈out',x.Ok q) W.length ⟨0,out,by simp,rfl,rfl,by omega,hok⟩ ?_;rintro J hJ n' st ⟨k,out',hk,rfl,hgo',hol',hok'⟩;by_cases hlk:k<W.length
  .obtain⟨x,hx,hxm⟩:=as10 hlk;have hwk:=ws_ hlk;have hltk:((k:Int)<(W.length:Int))=True:=by simp;exact hlk
   rw[da_ hx,zO] at hgo';have hput:=rPp_ (G:=G) out' x (by omega) (λy hy=>(hok' y hy).sm hq) ((hwok x hxm).sm hq);have hpl:=pl11 out' x;have hpm:∀y∈putR out' x,y.Ok q:=λy hy=>(pm10 hy).elim (hok' y) λe=>e ▸ hwok x hxm;have hnx:=hJ (n' - 1) _ ⟨k+1,putR out' x,by omega,rfl,hgo',by omega,hpm⟩;generalize putR out' x=pr at*;clear hJ hgo' hpm;obtain⟨xst,xv⟩:=x;simp only[cfgV,c11] at hput
   repeat' (first|simp -implicitDefEqProofs only[go_sem,qeaV,d_,q_,f_,s_,s10,n_,t_,cfgV,c11,h14,zQ,hltk,yD,am_ hx,hwk]|apply ai__<;>intro hb|refine ac_ hput rfl rfl ?_|fail)
   exact aa_ (n' - 1) (by omega) hnx
  .have hltk:((k:Int)<(W.length:Int))=False:=by simp;omega
   rw[yL (by omega),uZ] at hgo';rw[<-hgo'] at hgo;have hnx:=hnext _ _ hgo (by omega) hok';clear hJ hgo' hgo hnext
   repeat' (first|simp -implicitDefEqProofs only[go_sem,qeaV,d_,q_,f_,s_,s10,n_,t_,c11,h14,zQ,hltk,yA,hw]|apply ai__<;>intro hb)
   exact hnx
 .have hlt:((i:Int)<(set.length:Int))=False:=by simp;omega
  rw[yL (by omega),uZ] at hgo;subst hgo;dsimp only at h;clear hI hone hook;by_cases hb:bad=0
  .subst hb;rw[zK (by simp)] at h;by_cases h256:256<out.length
   .rw[zY h256] at h;have e1:((256:Int)<(out.length:Int))=True:=by simp;omega
    repeat' (first|simp -implicitDefEqProofs only[go_sem,qeaV,d_,q_,f_,s_,s10,n_,t_,c11,h14,zQ,hlt,yA,e1,yD]|apply ai__<;>intro hb)
    exact hq_ h
   .rw[zK h256] at h;have e1:((256:Int)<(out.length:Int))=False:=by simp;omega
    repeat' (first|simp -implicitDefEqProofs only[go_sem,qeaV,d_,q_,f_,s_,s10,n_,t_,c11,h14,zQ,hlt,yA,e1]|apply ai__<;>intro hb)
    exact hq_ h
  .rw[zY hb] at h;have e1:(bad==0)=false:=by simp [hb]
   have e2:(bad != 0)=true:=by simp [hb]
   repeat' (first|simp -implicitDefEqProofs only[go_sem,qeaV,d_,q_,f_,s_,s10,n_,t_,c11,h14,zQ,hlt,yA,e1,e2]|apply ai__<;>intro hb)
   exact hq_ h
