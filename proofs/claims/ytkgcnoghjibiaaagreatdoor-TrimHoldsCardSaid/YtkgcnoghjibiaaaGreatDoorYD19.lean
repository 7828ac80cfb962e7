/- Lemmas. -/
import Derived.Test.YtkgcnoghjibiaaaGreatDoorYD18
set_option linter.unusedSimpArgs false
set_option maxHeartbeats 4000000
namespace Go.Proofs.YtkgcnoghjibiaaaGreatDoor.Ab
open Go
variable {G:Nat->Option AV}
theorem tms_ {l:List Str} {k:Nat} {x:Str} (h:l[k]?=some x):(l.take (k+1)).map AV.str=(l.take k).map AV.str++[.str x]:=by rw[vC,h];simp
def QeaT.vars (q:QeaT):List Str:=q.quants.map (·.name)++q.frees.map (·.name)
def QeaT.names (q:QeaT):List Str:=q.states.map (·.name)
theorem vl_ (q:QeaT):q.vars.length=q.quants.length+q.frees.length:=by simp [QeaT.vars]
theorem vq_ {q:QeaT} {i:Nat} {y:QuantT} (h:q.quants[i]?=some y):q.vars[i]?=some y.name:=by have:=(zX.1 h).1;unfold QeaT.vars;rw[xJ (by simpa using this),zS,h];rfl
theorem vf_ {q:QeaT} {i:Nat} {y:FreeT} (h:q.frees[i]?=some y):q.vars[q.quants.length+i]?=some y.name:=by unfold QeaT.vars;rw[xV (by simp),zS];simp [h]
theorem ns34 {q:QeaT} {i:Nat} {y:StateT} (h:q.states[i]?=some y):q.names[i]?=some y.name:=by unfold QeaT.names;rw[zS,h];rfl
theorem nl11 (q:QeaT):q.names.length=q.states.length:=by simp [QeaT.names]
def h24 (q:QeaT):Bool:=
 (d10 q.decls).1==0&&(n12 q.name&&(allI (n16 q.vars) q.vars&&(allI (n16 q.names) q.names&&(allI (λ_ (y:QuantT)=>!(k_ y.type==[])) q.quants&&(allI (λ_ (y:FreeT)=>y.init.ok) q.frees&&(decide (0<=q.start)&&decide (q.start<q.states.length)))))))
theorem tl_ {l:List Str} {k:Nat} (h:k<=l.length):((l.take k).map AV.str).length=k:=by simp;omega
theorem chp_ (hG:wg_ G) (q:QeaT) (hq:q.Few):PQ G 76 [qeaV q] (.bool (h24 q)):=by
 have h1:=hq.quants;have h2:=hq.frees;have h3:=hq.states;have h4:=hq.decls;have hvl:=vl_ q;have hnl:=nl11 q;refine pch_ λΦ h=>?_;unfold cch_
 try (simp -implicitDefEqProofs only[go_sem,qeaV,d_,q_,f_,s_,s10,n_,t_,zQ])
 refine al_ (λn st=>∃i:Nat,i+n=q.quants.length∧st=⟨96,[(1,.ref 1 0 0),(3,.arr 3 0 i),(4,.arr 4 0 0),(14,q_ q.quants),(15,iv q.quants.length),(16,iv i)],[(1,⟨false,30,9,[qeaV q]⟩),(3,⟨true,9,1,(q.vars.take i).map AV.str⟩),(4,⟨true,9,1,[]⟩)]⟩) q.quants.length ⟨0,by simp,rfl⟩ ?_;rintro I hI n st ⟨i,hi,rfl⟩;simp -implicitDefEqProofs only[go_sem,qeaV,d_,q_,f_,s_,s10,n_,t_,zQ];refine⟨λhlt=>?_,λhge=>?_⟩
 .have hlt':i<q.quants.length:=by omega
  obtain⟨y,hy,hm⟩:=as10 hlt';have hw:=ws_ hlt';have hbd:(i+1)*16<=140737488355328:=by omega
  have hnext:a13 I n ⟨96,[(1,.ref 1 0 0),(3,.arr 3 0 (i+1)),(4,.arr 4 0 0),(14,q_ q.quants),(15,iv q.quants.length),(16,iv (i+1:Nat))],[(1,⟨false,30,9,[qeaV q]⟩),(3,⟨true,9,1,(q.vars.take (i+1)).map AV.str⟩),(4,⟨true,9,1,[]⟩)]⟩:=aa_ (n - 1) (by omega) (hI _ _ ⟨i+1,by omega,rfl⟩);have hrl:=tl_ (l:=q.vars) (k:=i) (by omega);rw[tms_ (vq_ hy)] at hnext;generalize (q.vars.take i).map AV.str=R at*
  repeat' (first|simp -implicitDefEqProofs only[go_sem,am_ hy,q11,hw,hrl,hbd]|apply ai__<;>intro hb)
  exact hnext
 .have:i=q.quants.length:=by omega
  subst this;clear hI
  try (simp -implicitDefEqProofs only[go_sem,qeaV,d_,q_,f_,s_,s10,n_,t_,zQ])
  refine al_ (λn st=>∃i:Nat,i+n=q.frees.length∧st=⟨96,[(1,.ref 1 0 0),(3,.arr 3 0 (q.quants.length+i)),(4,.arr 4 0 0),(27,f_ q.frees),(28,iv q.frees.length),(29,iv i)],[(1,⟨false,30,9,[qeaV q]⟩),(3,⟨true,9,1,(q.vars.take (q.quants.length+i)).map AV.str⟩),(4,⟨true,9,1,[]⟩)]⟩) q.frees.length ⟨0,by simp,rfl⟩ ?_;rintro I hI n st ⟨i,hi,rfl⟩;simp -implicitDefEqProofs only[go_sem,qeaV,d_,q_,f_,s_,s10,n_,t_,zQ];refine⟨λhlt=>?_,λhge=>?_⟩
  .have hlt':i<q.frees.length:=by omega
   obtain⟨y,hy,hm⟩:=as10 hlt';have hw:=ws_ hlt';have hbd:(q.quants.length+i+1)*16<=140737488355328:=by omega
   have hnext:a13 I n ⟨96,[(1,.ref 1 0 0),(3,.arr 3 0 (q.quants.length+i+1)),(4,.arr 4 0 0),(27,f_ q.frees),(28,iv q.frees.length),(29,iv (i+1:Nat))],[(1,⟨false,30,9,[qeaV q]⟩),(3,⟨true,9,1,(q.vars.take (q.quants.length+i+1)).map AV.str⟩),(4,⟨true,9,1,[]⟩)]⟩:=aa_ (n - 1) (by omega) (hI _ _ ⟨i+1,by omega,rfl⟩);have hrl:=tl_ (l:=q.vars) (k:=q.quants.length+i) (by omega);rw[tms_ (vf_ hy)] at hnext;generalize (q.vars.take (q.quants.length+i)).map AV.str=R at*
   repeat' (first|simp -implicitDefEqProofs only[go_sem,am_ hy,f10,hw,hrl,hbd]|apply ai__<;>intro hb)
   exact hnext
  .have:i=q.frees.length:=by omega
   subst this;clear hI;rw[zT (show q.vars.length<=q.quants.length+q.frees.length by omega),<-hvl]
   try (simp -implicitDefEqProofs only[go_sem,qeaV,d_,q_,f_,s_,s10,n_,t_,zQ])
   refine al_ (λn st=>∃i:Nat,i+n=q.states.length∧st=⟨96,[(1,.ref 1 0 0),(3,.arr 3 0 q.vars.length),(4,.arr 4 0 i),(40,s_ q.states),(41,iv q.states.length),(42,iv i)],[(1,⟨false,30,9,[qeaV q]⟩),(3,⟨true,9,1,q.vars.map AV.str⟩),(4,⟨true,9,1,(q.names.take i).map AV.str⟩)]⟩) q.states.length ⟨0,by simp,rfl⟩ ?_;rintro I hI n st ⟨i,hi,rfl⟩;simp -implicitDefEqProofs only[go_sem,qeaV,d_,q_,f_,s_,s10,n_,t_,zQ];refine⟨λhlt=>?_,λhge=>?_⟩
   .have hlt':i<q.states.length:=by omega
    obtain⟨y,hy,hm⟩:=as10 hlt';have hw:=ws_ hlt';have hbd:(i+1)*16<=140737488355328:=by omega
    have hnext:a13 I n ⟨96,[(1,.ref 1 0 0),(3,.arr 3 0 q.vars.length),(4,.arr 4 0 (i+1)),(40,s_ q.states),(41,iv q.states.length),(42,iv (i+1:Nat))],[(1,⟨false,30,9,[qeaV q]⟩),(3,⟨true,9,1,q.vars.map AV.str⟩),(4,⟨true,9,1,(q.names.take (i+1)).map AV.str⟩)]⟩:=aa_ (n - 1) (by omega) (hI _ _ ⟨i+1,by omega,rfl⟩);have hrl:=tl_ (l:=q.names) (k:=i) (by omega);rw[tms_ (ns34 hy)] at hnext;generalize (q.names.take i).map AV.str=R at*
    repeat' (first|simp -implicitDefEqProofs only[go_sem,am_ hy,s14,hw,hrl,hbd]|apply ai__<;>intro hb)
    exact hnext
   .have:i=q.states.length:=by omega
    subst this;clear hI;rw[zT (show q.names.length<=q.states.length by omega),<-hnl];have hck:=sCp_ hG q.decls (by omega) (λd hd=>by have:=hq.types d hd;omega);have hnm:=sNp_ hG q.name;have hnv:=cnp_ hG q.vars (by omega);have hns:=cnp_ hG q.names (by omega);have haq:=caaQp_ (G:=G) 152 [] (by kernel_rfl) on_ (λ_ (y:QuantT)=>!(k_ y.type==[])) q.quants (λi y _ =>ch1p_ i y) (by omega);have haf:=caaFp_ (G:=G) 155 [] (by kernel_rfl) on_ (λ_ (y:FreeT)=>y.init.ok) q.frees (λi y _ =>ch2p_ i y) (by omega);have htv:List.take q.vars.length (q.vars.map AV.str)=q.vars.map AV.str:=zT (by simp);have htn:List.take q.names.length (q.names.map AV.str)=q.names.map AV.str:=zT (by simp);have hlv:(q.vars.map AV.str).length=q.vars.length:=by simp
    have hln:(q.names.map AV.str).length=q.names.length:=by simp
    unfold h24 at h;generalize d10 q.decls=dc at*;generalize n12 q.name=b1 at*;generalize allI (n16 q.vars) q.vars=b2 at*;generalize allI (n16 q.names) q.names=b3 at*;generalize allI (λ_ (y:QuantT)=>!(k_ y.type==[])) q.quants=b4 at*;generalize allI (λ_ (y:FreeT)=>y.init.ok) q.frees=b5 at*;simp only[qeaV,d_,q_,f_,s_,s10,n_,t_] at hck haq haf
    repeat' (first|simp -implicitDefEqProofs only[go_sem,qeaV,d_,q_,f_,s_,s10,n_,t_,zQ]|apply ai__<;>intro hb|refine ac_ hck rfl rfl ?_|refine ac_ hnm rfl rfl ?_|(refine ac_ hnv ?_ rfl ?_;(focus (simp [v10,flat,viewBs,viewB,viewK,hget,htv,hlv];done)))|(refine ac_ hns ?_ rfl ?_;(focus (simp [v10,flat,viewBs,viewB,viewK,hget,htn,hln];done)))|refine ac_ haq rfl rfl ?_|refine ac_ haf rfl rfl ?_|fail)
    all_goals
     refine h _ ⟨_,_,rfl,rfl,fitB ?_⟩;clear h hck hnm hnv hns haq haf htv htn hlv hln;simp_all
     try (intros;omega)
def r20 (q:QeaT):Bool:=fewS q&&(h24 q&&(t44 q (e11 q) s13&&s23 q))
def n18 (l:List Str) (i:Nat) (s:Str):Bool:=n12 s&& !((l.take i).any λx=>x==s)
def t35 (n:Int):Bool:=decide (1<=n)&&decide (n<=3)
def h20 (q:QeaT):Bool:=
 allI (λ_ (y:QuantT)=>t35 y.type) q.quants&&(allI (λ_ (y:FreeT)=>y.init.ok) q.frees&&(allI (n18 q.vars) q.vars&&(allI (n18 q.names) q.names&&n12 q.name)))
theorem rn10 (q:QeaT) (hq:q.Few):PQ G 27 [qeaV q] (.bool (h20 q)):=by
 have h1:=hq.quants;have h2:=hq.frees;have h3:=hq.states;have hvl:=vl_ q;have hnl:=nl11 q;refine pp18 λΦ h=>?_;unfold cp20;have fin:∀b heap,h20 q=b->Φ ⟨112,[(2,.bool b)],heap⟩:=λb heap e=>h _ ⟨_,_,rfl,rfl,fitB e.symm⟩;clear h;generalize hR:h20 q=w at*;unfold h20 at hR;replace hR:=hR.symm
 try (simp -implicitDefEqProofs only[go_sem,qeaV,d_,q_,f_,s_,s10,n_,t_,zQ])
 refine al_ (λn st=>∃i:Nat,i+n=q.quants.length∧st=⟨112,[(1,.ref 1 0 0),(3,.arr 3 0 i),(4,iv i)],[(1,⟨false,30,9,[qeaV q]⟩),(3,⟨true,9,1,(q.vars.take i).map AV.str⟩)]⟩∧∀j y,j<i->q.quants[j]?=some y->t35 y.type=true) q.quants.length ⟨0,by simp,rfl,λj x hj=>by omega⟩ ?_;rintro I hI n st ⟨i,hi,rfl,hno⟩;simp -implicitDefEqProofs only[go_sem,qeaV,d_,q_,f_,s_,s10,n_,t_,zQ];refine⟨λhlt=>?_,λhge=>?_⟩
 .have hlt':i<q.quants.length:=by omega
  obtain⟨y,hy,hm⟩:=as10 hlt';have hw:=ws_ hlt';have hbd:(i+1)*16<=140737488355328:=by omega
  have hnext:t35 y.type=true->a13 I n ⟨112,[(1,.ref 1 0 0),(3,.arr 3 0 (i+1)),(4,iv (i+1:Nat))],[(1,⟨false,30,9,[qeaV q]⟩),(3,⟨true,9,1,(q.vars.take (i+1)).map AV.str⟩)]⟩:=λhv=>aa_ (n - 1) (by omega) (hI _ _ ⟨i+1,by omega,rfl,as11 (p:=λ_ (y:QuantT)=>t35 y.type) hy hv hno⟩);have hbad:t35 y.type=false->w=false:=λhv=>by rw[hR,af_ hy hv,yM]
  have hrl:=tl_ (l:=q.vars) (k:=i) (by omega);rw[tms_ (vq_ hy)] at hnext;generalize (q.vars.take i).map AV.str=R at*
  repeat' (first|simp -implicitDefEqProofs only[go_sem,am_ hy,q11,hw,hrl,hbd]|apply ai__<;>intro hb)
  all_goals first | refine hnext ?_ | refine fin _ _ (hbad ?_)
  all_goals
   clear hnext hbad fin hno hI hR;unfold t35;rw[yY];simp at*;omega
 .have:i=q.quants.length:=by omega
  subst this;rw[aa11 (zN _) hno,yR] at hR;clear hI hno
  try (simp -implicitDefEqProofs only[go_sem,qeaV,d_,q_,f_,s_,s10,n_,t_,zQ])
  refine al_ (λn st=>∃i:Nat,i+n=q.frees.length∧st=⟨112,[(1,.ref 1 0 0),(3,.arr 3 0 (q.quants.length+i)),(5,iv i)],[(1,⟨false,30,9,[qeaV q]⟩),(3,⟨true,9,1,(q.vars.take (q.quants.length+i)).map AV.str⟩)]⟩∧∀j y,j<i->q.frees[j]?=some y->y.init.ok=true) q.frees.length ⟨0,by simp,rfl,λj x hj=>by omega⟩ ?_;rintro I hI n st ⟨i,hi,rfl,hno⟩;simp -implicitDefEqProofs only[go_sem,qeaV,d_,q_,f_,s_,s10,n_,t_,zQ];refine⟨λhlt=>?_,λhge=>?_⟩
  .have hlt':i<q.frees.length:=by omega
   obtain⟨y,hy,hm⟩:=as10 hlt';have hw:=ws_ hlt';have hbd:(q.quants.length+i+1)*16<=140737488355328:=by omega
   have hnext:y.init.ok=true->a13 I n ⟨112,[(1,.ref 1 0 0),(3,.arr 3 0 (q.quants.length+i+1)),(5,iv (i+1:Nat))],[(1,⟨false,30,9,[qeaV q]⟩),(3,⟨true,9,1,(q.vars.take (q.quants.length+i+1)).map AV.str⟩)]⟩:=λhv=>aa_ (n - 1) (by omega) (hI _ _ ⟨i+1,by omega,rfl,as11 (p:=λ_ (y:FreeT)=>y.init.ok) hy hv hno⟩);have hbad:y.init.ok=false->w=false:=λhv=>by rw[hR,af_ hy hv,yM]
   have hrl:=tl_ (l:=q.vars) (k:=q.quants.length+i) (by omega);have hc:=rRp_ (G:=G) y.init;simp only[valV] at hc;rw[tms_ (vf_ hy)] at hnext;generalize (q.vars.take (q.quants.length+i)).map AV.str=R at*;generalize y.init.ok=b at*
   repeat' (first|simp -implicitDefEqProofs only[go_sem,am_ hy,f10,hw,hrl,hbd]|apply ai__<;>intro hb|refine ac_ hc rfl rfl ?_|fail)
   all_goals first | exact hnext (by simpa using hb) | exact fin _ _ (hbad (by simpa using hb))
  .have:i=q.frees.length:=by omega
   subst this;rw[aa11 (zN _) hno,yR] at hR;clear hI hno;rw[zT (show q.vars.length<=q.quants.length+q.frees.length by omega),<-hvl];have htv:List.take q.vars.length (q.vars.map AV.str)=q.vars.map AV.str:=zT (by simp);have hlv:(q.vars.map AV.str).length=q.vars.length:=by simp
   try (simp -implicitDefEqProofs only[go_sem,qeaV,d_,q_,f_,s_,s10,n_,t_,zQ])
   refine al_ (λn st=>∃i:Nat,i+n=q.vars.length∧st=⟨112,[(1,.ref 1 0 0),(3,.arr 3 0 q.vars.length),(6,iv i)],[(1,⟨false,30,9,[qeaV q]⟩),(3,⟨true,9,1,q.vars.map AV.str⟩)]⟩∧∀j y,j<i->q.vars[j]?=some y->n18 q.vars j y=true) q.vars.length ⟨0,by simp,rfl,λj x hj=>by omega⟩ ?_;rintro I hI n st ⟨i,hi,rfl,hno⟩;simp -implicitDefEqProofs only[go_sem,qeaV,d_,q_,f_,s_,s10,n_,t_,zQ];refine⟨λhlt=>?_,λhge=>?_⟩
   .have hlt':i<q.vars.length:=by omega
    obtain⟨y,hy,hm⟩:=as10 hlt';have hw:=ws_ hlt';have hym:(q.vars.map AV.str)[i]?=some (.str y):=by simp [hy]
    have hnext:n18 q.vars i y=true->a13 I n ⟨112,[(1,.ref 1 0 0),(3,.arr 3 0 q.vars.length),(6,iv (i+1:Nat))],[(1,⟨false,30,9,[qeaV q]⟩),(3,⟨true,9,1,q.vars.map AV.str⟩)]⟩:=λhv=>aa_ (n - 1) (by omega) (hI _ _ ⟨i+1,by omega,rfl,as11 hy hv hno⟩);have hbad:n18 q.vars i y=false->w=false:=λhv=>by rw[hR,af_ hy hv,yM]
    have hc1:=rNp_ (G:=G) y;have hc2:=rtp_ (G:=G) q.vars (by omega) i y hy;unfold n18 at hnext hbad;generalize n12 y=b1 at*;generalize ((q.vars.take i).any λx=>x==y)=b2 at*;clear hno hR
    repeat' (first|simp -implicitDefEqProofs only[go_sem,aa10 hlt',hym,hw,zQ]|apply ai__<;>intro hb|refine ac_ hc1 rfl rfl ?_|(refine ac_ hc2 ?_ rfl ?_;(focus (simp [v10,flat,viewBs,viewB,viewK,hget,htv,hlv];done)))|fail)
    all_goals first | (refine hnext ?_;clear hnext hbad fin hI;simp_all;done) | (refine fin _ _ (hbad ?_);clear hnext hbad fin hI;simp_all;done)
   .have:i=q.vars.length:=by omega
    subst this;rw[aa11 (zN _) hno,yR] at hR;clear hI hno;generalize q.vars.map AV.str=V at*
    try (simp -implicitDefEqProofs only[go_sem,qeaV,d_,q_,f_,s_,s10,n_,t_,zQ])
    refine al_ (λn st=>∃i:Nat,i+n=q.states.length∧st=⟨112,[(1,.ref 1 0 0),(7,.arr 7 0 i),(8,iv i)],[(1,⟨false,30,9,[qeaV q]⟩),(3,⟨true,9,1,V⟩),(7,⟨true,9,1,(q.names.take i).map AV.str⟩)]⟩∧∀j y,j<i->q.names[j]?=some y->n18 q.names j y=true) q.states.length ⟨0,by simp,rfl,λj x hj=>by omega⟩ ?_;rintro I hI n st ⟨i,hi,rfl,hno⟩;simp -implicitDefEqProofs only[go_sem,qeaV,d_,q_,f_,s_,s10,n_,t_,zQ];refine⟨λhlt=>?_,λhge=>?_⟩
    .have hlt':i<q.states.length:=by omega
     obtain⟨y,hy,hm⟩:=as10 hlt';have hw:=ws_ hlt';have hyn:=ns34 hy;have hbd:(i+1)*16<=140737488355328:=by omega
     have hnext:n18 q.names i y.name=true->a13 I n ⟨112,[(1,.ref 1 0 0),(7,.arr 7 0 (i+1)),(8,iv (i+1:Nat))],[(1,⟨false,30,9,[qeaV q]⟩),(3,⟨true,9,1,V⟩),(7,⟨true,9,1,(q.names.take (i+1)).map AV.str⟩)]⟩:=λhv=>aa_ (n - 1) (by omega) (hI _ _ ⟨i+1,by omega,rfl,as11 hyn hv hno⟩);have hbad:n18 q.names i y.name=false->w=false:=λhv=>by rw[hR,af_ hyn hv,yM]
     have hc1:=rNp_ (G:=G) y.name;have hc2:=rtp_ (G:=G) (q.names.take (i+1)) (by simp;omega) i y.name (by rw[vH (by omega)];exact hyn);have hrl:=tl_ (l:=q.names) (k:=i) (by omega);rw[tms_ hyn,List.take_take,Nat.min_eq_left (by omega)] at hc2;unfold n18 at hnext hbad;rw[tms_ hyn] at hnext;generalize n12 y.name=b1 at*;generalize ((q.names.take i).any λx=>x==y.name)=b2 at*;generalize (q.names.take i).map AV.str=R at*;have hat:(R++[AV.str y.name])[i]?=some (.str y.name):=by rw[xV (by omega),hrl,Nat.sub_self];rfl
     have htn:List.take (i+1) (R++[AV.str y.name])=R++[AV.str y.name]:=zT (by simp [hrl]);have hln:(R++[AV.str y.name]).length=i+1:=by simp [hrl]
     have hi1:i<i+1:=by omega
     clear hno hR
     repeat' (first|simp -implicitDefEqProofs only[go_sem,am_ hy,s14,aa10 hi1,hat,hw,hrl,hbd,zQ]|apply ai__<;>intro hb|refine ac_ hc1 rfl rfl ?_|(refine ac_ hc2 ?_ rfl ?_;(focus (simp [v10,flat,viewBs,viewB,viewK,hget,htn,hln];done)))|fail)
     all_goals first | (refine hnext ?_;clear hnext hbad fin hI;simp_all;done) | (refine fin _ _ (hbad ?_);clear hnext hbad fin hI;simp_all;done)
    .have:i=q.states.length:=by omega
     subst this;rw[aa11 (by omega) hno,yR] at hR;clear hI hno;have hc1:=rNp_ (G:=G) q.name
     repeat' (first|simp -implicitDefEqProofs only[go_sem,qeaV,d_,q_,f_,s_,s10,n_,t_]|apply ai__<;>intro hb|refine ac_ hc1 rfl rfl ?_|fail)
     all_goals exact fin _ _ hR
theorem ee_ (q:QeaT) (out:List ExT) (i:Nat) (x:NodeT):e14 q out i x=match l_ q i x with
  | some e=>e
  | none=>if x.op<4∨16<x.op∨¬x.value=v0 then e0 else if (bAt out ((i:Int) - 1)).kind=0 then e0 else
   if x.op<=5 then (if x.a=(i:Int) - 1∧x.b=0 then ⟨o11 x.op (bAt out ((i:Int) - 1)).kind (bAt out ((i:Int) - 1)).kind,(bAt out ((i:Int) - 1)).depth+1,(bAt out ((i:Int) - 1)).from_⟩ else e0)
   else if x.b=(i:Int) - 1∧x.a=(bAt out ((i:Int) - 1)).from_ - 1 then
    (if (bAt out x.a).kind=0 then e0 else ⟨o11 x.op (bAt out x.a).kind (bAt out ((i:Int) - 1)).kind,max (bAt out x.a).depth (bAt out ((i:Int) - 1)).depth+1,(bAt out x.a).from_⟩)
   else e0:=by
 unfold e14;cases l_ q i x with
 | some e=>rfl
 | none=>
  dsimp only;split
  .rfl
  .unfold bAt;cases at? out ((i:Int) - 1) with
   | none=>rfl
   | some b=>
    cases at? out x.a <;> simp
structure QeaT.Kinds (q:QeaT):Prop where
 quants:∀y∈q.quants,1<=y.type∧y.type<=3
 frees:∀y∈q.frees,y.init.ok=true
theorem Val.ok_kind {v:Val} (h:v.ok=true):1<=v.kind∧v.kind<=3:=by
 unfold Val.ok at h;split at h
 .omega
 .split at h
  .omega
  .simp at h;omega
theorem on11 {op a b:Int} (ho:6<=op) (h:¬a=b):o11 op a b=0:=by have h':¬b=a:=λe=>h e.symm;unfold o11;rw[zK (by omega),zK (by omega)];simp [h']
theorem or_ {op a b:Int} (ha:1<=a∧a<=3):0<=o11 op a b∧o11 op a b<=3:=by
 unfold o11
 repeat' split
 all_goals omega
def s37 (e b:ExT):Prop:=e.kind=b.kind∧(¬e.kind=0->e=b)∧0<=e.kind∧e.kind<=3
theorem sz_:s37 e0 e0:=⟨rfl,λh=>absurd rfl h,by simp,by simp⟩
theorem ss16 {q:QeaT} (hk:q.Kinds) {o1 o2:List ExT} (ho:∀n,s37 (bAt o1 n) (bAt o2 n)) (i:Nat) (x:NodeT):s37 (e14 q o1 i x) (b12 q o2 i x):=by
 rw[ee_];obtain⟨op,na,mb,v⟩:=x;unfold b12 l_;dsimp only;by_cases h1:op=1
 .subst h1;simp only[zY];by_cases hc:na=0∧mb=0∧v.ok=true
  .rw[zY hc,zY hc];have:=Val.ok_kind hc.2.2;exact⟨rfl,λ_ =>rfl,by dsimp only;omega,by dsimp only;omega⟩
  .rw[zK hc,zK hc];exact sz_
 rw[zK h1,zK h1];by_cases hv:v=v0
 .rw[zK (show ¬¬v=v0 from not_not_intro hv)];by_cases h2:op=2
  .subst h2;simp only[zY];by_cases hb:mb=0
   .rw[zY hb,zY ⟨hb,hv⟩];cases hq:at? q.quants na with
    | none=>exact sz_
    | some y=>
     obtain⟨j,_,hj⟩:=at?_some hq;have:=hk.quants y (zG hj);exact⟨rfl,λ_ =>rfl,by dsimp only[Option.map];omega,by dsimp only[Option.map];omega⟩
   .rw[zK hb,zK (λh=>hb h.1)];exact sz_
  rw[zK h2,zK h2];by_cases h3:op=3
  .subst h3;simp only[zY];by_cases hb:mb=0
   .rw[zY hb,zY ⟨hb,hv⟩];cases hq:at? q.frees na with
    | none=>exact sz_
    | some y=>
     obtain⟨j,_,hj⟩:=at?_some hq;have:=Val.ok_kind (hk.frees y (zG hj));exact⟨rfl,λ_ =>rfl,by dsimp only[Option.map];omega,by dsimp only[Option.map];omega⟩
   .rw[zK hb,zK (λh=>hb h.1)];exact sz_
  rw[zK h3,zK h3];dsimp only;by_cases hr:op<4∨16<op
  .rw[zY hr,zY (show op<4∨16<op∨¬v=v0 by omega)];exact sz_
  rw[zK hr,zK (show ¬(op<4∨16<op∨¬v=v0) by simp only[hv,wF,or_false];exact hr)];obtain⟨hb1,hb2,hb3,hb4⟩:=ho ((i:Int) - 1);by_cases hz:(bAt o1 ((i:Int) - 1)).kind=0
  .rw[zY hz];have hz':(bAt o2 ((i:Int) - 1)).kind=0:=by omega
   rw[zY (Or.inl hz'),zY (Or.inl hz'),ite_self];exact sz_
  .have hbe:=hb2 hz;rw[zK hz,hbe];rw[hbe] at hz hb3 hb4;generalize bAt o2 ((i:Int) - 1)=b at*;by_cases h5:op<=5
   .rw[zY h5,zY h5];by_cases hc:na=(i:Int) - 1∧mb=0
    .rw[zY hc,zK (by omega)];have:=or_ (op:=op) (a:=b.kind) (b:=b.kind) (by omega);rw[te_ _ _ _ (by omega),zY rfl];exact⟨rfl,λ_ =>rfl,this.1,this.2⟩
    .rw[zK hc,zY (by omega)];exact sz_
   .rw[zK h5,zK h5];by_cases hc:mb=(i:Int) - 1∧na=b.from_ - 1
    .rw[zY hc,zK (show ¬(b.kind=0∨¬mb=(i:Int) - 1∨¬na=b.from_ - 1) by omega)];rw[hc.2];obtain⟨ha1,ha2,ha3,ha4⟩:=ho (b.from_ - 1);by_cases hza:(bAt o1 (b.from_ - 1)).kind=0
     .rw[zY hza];have hza':(bAt o2 (b.from_ - 1)).kind=0:=by omega
      rw[hza',show t45 op 0 b.kind=0 from zY (by omega)];exact⟨rfl,λh=>absurd rfl h,by simp,by simp⟩
     .have hae:=ha2 hza;rw[zK hza,hae];rw[hae] at hza ha3 ha4;generalize bAt o2 (b.from_ - 1)=a at*;have:=or_ (op:=op) (a:=a.kind) (b:=b.kind) (by omega);rw[te_ _ _ _ (by omega),Int.max_comm b.depth];by_cases hab:a.kind=b.kind
      .rw[zY hab];exact⟨rfl,λ_ =>rfl,this.1,this.2⟩
      .rw[zK hab,on11 (by omega) hab];exact⟨rfl,λ_ =>rfl,by simp,by simp⟩
    .rw[zK hc,zY (by omega)];exact sz_
 .rw[zY hv];by_cases h2:op=2
  .rw[zY h2,zK (λh=>hv h.2)];dsimp only;rw[zY (by omega)];exact sz_
  .rw[zK h2];by_cases h3:op=3
   .rw[zY h3,zK (λh=>hv h.2)];dsimp only;rw[zY (by omega)];exact sz_
   .rw[zK h3];dsimp only;rw[zY (Or.inr (Or.inr hv))];exact sz_
theorem ba_ {l:List ExT} {e:ExT} {n:Int}:bAt (l++[e]) n=if n=l.length then e else bAt l n:=by
 unfold bAt at?;split
 .rename_i h0;rw[wE];split
  .rw[zK (by omega)]
  .split
   .rename_i h1;simp [h1]
   .rw[wR (by simp;omega),wR (by omega)]
 .rw[zK (by omega)]
theorem sa13 {q:QeaT} (hk:q.Kinds):∀n,n<=q.nodes.length->∀j,s37 (bAt (exL q n) j) (bAt (beL q n) j)
 | 0,_,j=>by
  have:bAt ([]:List ExT) j=e0:=by unfold bAt at?;split <;> simp
  show s37 (bAt [] j) (bAt [] j);rw[this];exact sz_
 | n+1,h,j=>by
  obtain⟨x,hx,_⟩:=as10 (l:=q.nodes) (i:=n) (by omega);rw[es_ hx,bs10 hx,ba_,ba_,el_ q n (by omega),bl_ q n (by omega)];split
  .exact ss16 hk (sa13 hk n (by omega)) n x
  .exact sa13 hk n (by omega) j
theorem kw_ {q:QeaT} (hk:q.Kinds) (a r k:Int):w_ (e11 q) a r k=((k16 q a r).1==k&&(!(k==0)&&decide ((k16 q a r).2<=64))):=by
 have hs:=sa13 hk q.nodes.length (zN _) r;have hz:∀b:Bool,((0:Int)==k&&(!(k==0)&&b))=false:=λb=>by
  by_cases h:k=0
  .subst h;simp
  .rw[show ((0:Int)==k)=false by simp;omega,yM]
 change s37 (bAt (e11 q) r) _ at hs;unfold w_ k16;cases he:at? (e11 q) r with
 | none=>
  have hb:bAt (e11 q) r=e0:=by unfold bAt;rw[he];rfl
  rw[hb] at hs;rw[zY (Or.inl hs.1.symm)];exact (hz _).symm
 | some e=>
  obtain⟨j,rfl,hj⟩:=at?_some he;have hok:=eo11 q q.nodes.length (zN _) j e hj;have hb:bAt (e11 q) j=e:=by unfold bAt;rw[he];rfl
  rw[hb] at hs;obtain⟨h1,h2,h3,h4⟩:=hs;by_cases hz0:e.kind=0
  .rw[zY (Or.inl (by omega))];dsimp only;rw[hz,hz0];by_cases h:k=0
   .subst h;simp
   .rw[show ((0:Int)==k)=false by simp;omega];simp
  .have hbe:=h2 hz0;rw[<-hbe];by_cases hf:e.from_=a
   .rw[zK (by simp [hz0,hf])];dsimp only;rw[show decide (a<=(j:Int))=true by simp;omega,hf];simp
   .rw[zY (Or.inr hf)];dsimp only;rw[hz,show (e.from_==a)=false by simp [hf]];simp
theorem ra_ {P:Program} {Φ:St->Prop} (a b c:AC) (κ:List Kt) (st:St):run P G Φ (.seq a (.seq b c)) κ st=run P G Φ (.seq (.seq a b) c) κ st:=by
 simp only[rs13];unfold run;congr 1;funext e st';cases e
 .exact rs13 b c κ st'
 .rfl
 .rfl
theorem ra11 {P:Program} {Φ:St->Prop} (x a b c:AC) (κ:List Kt) (st:St):run P G Φ (.seq x (.seq (.seq a b) c)) κ st=run P G Φ (.seq (.seq x a) (.seq b c)) κ st:=by
 simp only[rs13];unfold run;congr 1;funext e st';cases e
 .show run P G Φ (.seq (.seq a b) c) κ st'=run P G Φ a (.code (.seq b c)::κ) st';rw[rs13,rs13];unfold run;congr 1;funext e st';cases e
  .exact (rs13 b c κ st').symm
  .rfl
  .rfl
 .rfl
 .rfl
def r16 (q:QeaT) (t:TransT) (from_ a1:Int):Int×Bool:=
 let r:=allS (s12 q (e11 q) t.sets) t.sets 0 a1
 if r.1=true then (r.2,match at? q.symbols t.symbol with | some s=>(mid q.nodes from_ r.2).all λx=>!(x.op==2)||n13 s x.a | none=>false) else (0,false)
def t15 (q:QeaT) (t:TransT) (from_:Int):Int×Bool:=
 if (inR t.from_ q.states.length&&(inR t.to_ q.states.length&&inR t.symbol q.symbols.length))=false then (0,false)
 else if t.guard= -1 then r16 q t from_ from_
 else if w_ (e11 q) from_ t.guard 3=true then r16 q t from_ (t.guard+1) else (0,false)
def tupR (r:Int×Bool):AV:=.tup [iv r.1,.bool r.2]
theorem rt11 (q:QeaT) (hq:q.Few) (hk:q.Kinds) (t:TransT) (ht:t.sets.length<=1000000) (from_:Int) (ha:0<=from_) (hal:from_<=q.nodes.length):PQ G 28 [qeaV q,t11 t,iv from_] (tupR (t15 q t from_)):=by
 have hln:(e11 q).length=q.nodes.length:=el_ q _ (by omega);have hnl:=hq.nodes;refine pp17 λΦ h=>?_;unfold cp19;have fin:∀a b heap,t15 q t from_=(a,b)->Φ ⟨153,[(6,iv a),(7,.bool b)],heap⟩:=λa b heap e=>h _ ⟨_,_,rfl,rfl,fe_ (by rw[e];rfl)⟩;clear h;by_cases hc:(inR t.from_ q.states.length&&(inR t.to_ q.states.length&&inR t.symbol q.symbols.length))=false
 .have fin0:=λheap=>fin 0 false heap (by rw[t15,zY hc]);clear fin;obtain⟨t1,t2,t3,t4,sets⟩:=t;dsimp only at*;simp only[inR,wK,zW,yQ,zJ] at hc
  repeat' (first|simp -implicitDefEqProofs only[go_sem,t11,s18,qeaV,d_,q_,f_,s_,s10,n_,t_,zQ]|apply ai__<;>intro hb)
  all_goals first | exact fin0 _ | (exfalso;simp at*;omega)
 .obtain⟨t1,t2,t3,t4,sets⟩:=t;dsimp only at*;have hin:inR t1 q.states.length=true∧inR t3 q.states.length=true∧inR t2 q.symbols.length=true:=by
   rw[vB] at hc;simpa only[zJ] using hc
  obtain⟨hi1,hi2,hi3⟩:=hin;simp only[inR,zJ,zW] at hi1 hi2 hi3;obtain⟨j2,rfl⟩:=zA hi3.1;obtain⟨sy,hsy,hsm⟩:=as10 (l:=q.symbols) (i:=j2) (by omega);have hsl:sy.args.length<9223372036854775807:=by have:=hq.args sy hsm;omega
  rw[ra_,ra_,ra_,ra11];refine ac18 (λst=>∃a1:Int,st=⟨153,[(2,iv from_),(3,.ref 3 0 0),(4,.ref 4 0 0),(8,iv a1),(11,iv 0)],[(4,⟨false,95,5,[t11 ⟨t1,j2,t3,t4,sets⟩]⟩),(3,⟨false,30,9,[qeaV q]⟩)]⟩∧0<=a1∧a1<=q.nodes.length∧t15 q ⟨t1,j2,t3,t4,sets⟩ from_=r16 q ⟨t1,j2,t3,t4,sets⟩ from_ a1) ?_ ?_
  .have hK:=rKp_ (G:=G) q hq.nodes from_ t4;have kw:=kw_ hk from_ t4 3;have hre1:t4= -1->t15 q ⟨t1,j2,t3,t4,sets⟩ from_=r16 q ⟨t1,j2,t3,t4,sets⟩ from_ from_:=λh=>by rw[t15,zK hc,zY h]
   have hre2:¬t4= -1->w_ (e11 q) from_ t4 3=true->t15 q ⟨t1,j2,t3,t4,sets⟩ from_=r16 q ⟨t1,j2,t3,t4,sets⟩ from_ (t4+1):=λh hw=>by rw[t15,zK hc,zK h,zY hw]
   have hre3:¬t4= -1->w_ (e11 q) from_ t4 3=false->t15 q ⟨t1,j2,t3,t4,sets⟩ from_=(0,false):=λh hw=>by rw[t15,zK hc,zK h,zK (by rw[hw];simp)]
   have hwl:=λh=>wl_ (l:=e11 q) (a:=from_) (r:=t4) (k:=3) h;have hwp:=λh=>wp_ (l:=e11 q) (a:=from_) (r:=t4) (k:=3) ha h;have hwx:w_ (e11 q) from_ t4 3=true->IntKind.i64.wrap (t4+1)=t4+1:=λh=>wi_ (by have:=hwp h;omega) (by have:=hwl h;omega);rw[hln] at hwl;generalize w_ (e11 q) from_ t4 3=w at*;generalize k16 q from_ t4=kd at*;obtain⟨k,d⟩:=kd;dsimp only at kw;simp only[qeaV,d_,q_,f_,s_,s10,n_,t_] at hK;by_cases hg:t4= -1
   .clear hre2 hre3;subst hg
    repeat' (first|simp -implicitDefEqProofs only[go_sem,t11,s18,qeaV,d_,q_,f_,s_,s10,n_,t_,zQ]|apply ai__<;>intro hb|refine ac_ hK rfl rfl ?_|fail)
    all_goals first | exact⟨_,rfl,ha,hal,hre1 rfl⟩ | (exfalso;simp at*;omega)
   .cases w with
    | false=>
     have hre3:=hre3 hg rfl;clear hre1 hre2 hwl hwp hwx
     repeat' (first|simp -implicitDefEqProofs only[go_sem,t11,s18,qeaV,d_,q_,f_,s_,s10,n_,t_,zQ]|apply ai__<;>intro hb|refine ac_ hK rfl rfl ?_|fail)
     all_goals first | exact fin _ _ _ hre3 | (exfalso;simp at*;omega) | (exfalso;simp_all;omega)
    | true=>
     have hre2:=hre2 hg rfl;have hwl:=hwl rfl;have hwp:=hwp rfl;have hwx:=hwx rfl;clear hre1 hre3
     repeat' (first|simp -implicitDefEqProofs only[go_sem,t11,s18,qeaV,d_,q_,f_,s_,s10,n_,t_,zQ,hwx]|apply ai__<;>intro hb|refine ac_ hK rfl rfl ?_|fail)
     all_goals first | exact⟨_,rfl,hwp,by omega,hre2⟩ | (exfalso;simp at*;omega) | (exfalso;simp_all;omega)
  .rintro st ⟨a1,rfl,h0,hle1,hre⟩;simp -implicitDefEqProofs only[go_sem,t11,s18,qeaV,d_,q_,f_,s_,s10,n_,t_,zQ];refine al_ (λn st=>∃(i:Nat) (a:Int),i+n=sets.length∧st=⟨153,[(2,iv from_),(3,.ref 3 0 0),(4,.ref 4 0 0),(8,iv a),(11,iv i)],[(3,⟨false,30,9,[qeaV q]⟩),(4,⟨false,95,5,[t11 ⟨t1,j2,t3,t4,sets⟩]⟩)]⟩∧0<=a∧a<=q.nodes.length∧allS (s12 q (e11 q) sets) sets 0 a1=allS (s12 q (e11 q) sets) (sets.drop i) i a) sets.length ⟨0,a1,by simp,rfl,h0,hle1,rfl⟩ ?_;rintro I hI n st ⟨i,a,hi,rfl,hpos,hle,hno⟩;simp -implicitDefEqProofs only[go_sem,t11,s18,qeaV,d_,q_,f_,s_,s10,n_,t_,zQ];refine⟨λhlt=>?_,λhge=>?_⟩
   .have hlt':i<sets.length:=by omega
    obtain⟨⟨fr,ex⟩,hx,hm⟩:=as10 hlt';have hw:=ws_ hlt';have hK:=rKp_ (G:=G) q hq.nodes a ex;rw[as15 hx] at hno;simp only[qeaV,d_,q_,f_,s_,s10,n_,t_] at hK;cases hf:at? q.frees fr with
    | none=>
     have hnf:=at?_none hf;generalize k16 q a ex=kd at*;obtain⟨k,d⟩:=kd;have hs:s12 q (e11 q) sets a i ⟨fr,ex⟩=(false,a):=by simp [s12,hf]
     rw[hs,zK (by simp)] at hno;have hr:t15 q ⟨t1,j2,t3,t4,sets⟩ from_=(0,false):=by rw[hre,r16];dsimp only;rw[hno,zK (by simp)]
     repeat' (first|simp -implicitDefEqProofs only[go_sem,am_ hx,setV,t11,s18,qeaV,d_,q_,f_,s_,s10,n_,t_,hw,zQ]|apply ai__<;>intro hb|refine ac_ hK rfl rfl ?_|fail)
     all_goals first | exact fin _ _ _ hr | (exfalso;simp at*;omega)
    | some f=>
     obtain⟨j,rfl,hfj⟩:=at?_some hf;have hjt:=(zX.1 hfj).1;have kw:=kw_ hk a ex f.init.kind;have hs:s12 q (e11 q) sets a i ⟨j,ex⟩=if ((sets.take i).any λx=>x.free==(j:Int))=true then (false,a) else if w_ (e11 q) a ex f.init.kind=true then (true,ex+1) else (false,a):=by simp [s12,hf]
     have hbad:((sets.take i).any λx=>x.free==(j:Int))=true∨w_ (e11 q) a ex f.init.kind=false->t15 q ⟨t1,j2,t3,t4,sets⟩ from_=(0,false):=λhor=>by
      have hs':s12 q (e11 q) sets a i ⟨j,ex⟩=(false,a):=by
       rw[hs];rcases hor with h | h
       .rw[zY h]
       .rw[h];simp
      rw[hs',zK (by simp)] at hno;rw[hre,r16];dsimp only;rw[hno,zK (by simp)]
     generalize k16 q a ex=kd at*;obtain⟨k,d⟩:=kd;dsimp only at kw
     repeat' (first|simp -implicitDefEqProofs only[go_sem,am_ hx,am_ hfj,f10,setV,t11,s18,qeaV,d_,q_,f_,s_,s10,n_,t_,hw,zQ]|apply ai__<;>intro hb|refine ac_ hK rfl rfl ?_|fail)
     all_goals try (exfalso;simp at*;omega)
     all_goals try (refine fin _ _ _ (hbad (Or.inr ?_));rw[kw];clear hK hno hs hbad kw hI fin hw;simp_all;done)
     have hwt:w_ (e11 q) a ex f.init.kind=true:=by rw[kw];clear hK hno hs hbad kw hI fin hw;simp_all
     have hwl:=wl_ hwt;have hwp:=wp_ hpos hwt;have hwx:IntKind.i64.wrap (ex+1)=ex+1:=wi_ (by omega) (by omega);refine al_ (λm st=>∃jj:Nat,jj+m=i∧st=⟨153,[(2,iv from_),(3,.ref 3 0 0),(4,.ref 4 0 0),(11,iv i),(12,.ref 12 0 0),(15,iv jj)],[(3,⟨false,30,9,[qeaV q]⟩),(4,⟨false,95,5,[t11 ⟨t1,j2,t3,t4,sets⟩]⟩),(12,⟨false,168,2,[setV ⟨j,ex⟩]⟩)]⟩∧∀p x,p<jj->sets[p]?=some x->(x.free==(j:Int))=false) i ⟨0,by omega,rfl,λp x hp=>by omega⟩ ?_;rintro J hJ m st ⟨jj,hjj,rfl,hall⟩;simp -implicitDefEqProofs only[go_sem,setV,t11,s18,qeaV,d_,q_,f_,s_,s10,n_,t_,hw,hwx,zQ];refine⟨λhlt2=>?_,λhge2=>?_⟩
     .have hlt2':jj<i:=by omega
      obtain⟨y,hy,hym⟩:=as10 (l:=sets) (i:=jj) (by omega);have hw2:=ws_ hlt2'
      repeat' (first|simp -implicitDefEqProofs only[go_sem,am_ hy,setV,t11,s18,qeaV,d_,q_,f_,s_,s10,n_,t_,hw2,zQ]|apply ai__<;>intro hb)
      .refine fin _ _ _ (hbad (Or.inl (yE.2 ⟨y,?_,?_⟩)))
       .exact tS.2 ⟨jj,by rw[vH hlt2'];exact hy⟩
       .simpa using hb
      .exact aa_ (m - 1) (by omega) (hJ _ _ ⟨jj+1,by omega,rfl,λp x hp hx=>by
        by_cases e:p=jj
        .subst e;rw[hy] at hx;cases hx;simpa using hb
        .exact hall p x (by omega) hx⟩)
     .have hany:((sets.take i).any λx=>x.free==(j:Int))=false:=by
       rw[wU];intro y hy;obtain⟨p,hp⟩:=zM hy;rw[yN] at hp;split at hp
       .rw[hall p y (by omega) hp];simp
       .cases hp
      rw[hs,hany,hwt] at hno;exact aa_ (n - 1) (by omega) (hI _ _ ⟨i+1,ex+1,by omega,rfl,hwp,by omega,by simpa using hno⟩)
   .rw[ae_ (by omega)] at hno;have hb:=rb10 (G:=G) q hq.nodes sy hsl from_ a ha hle;have hr:t15 q ⟨t1,j2,t3,t4,sets⟩ from_=(a,(mid q.nodes from_ a).all λx=>!(x.op==2)||n13 sy x.a):=by
     rw[hre,r16];dsimp only;rw[hno,zY rfl,at?_nat hsy]
    simp only[symV,a10,qeaV,d_,q_,f_,s_,s10,n_,t_] at hb
    repeat' (first|simp -implicitDefEqProofs only[go_sem,am_ hsy,symV,a10,t11,s18,qeaV,d_,q_,f_,s_,s10,n_,t_,zQ]|apply ai__<;>intro hb|refine ac_ hb rfl rfl ?_|fail)
    all_goals exact fin _ _ _ hr
