/-
  core.head, proctorref13.names. No claim is proved here.
-/
import Derived.Test.YtjbcfpkibnhodaaGreatDoorYD18
namespace Go.Proofs.YtjbcfpkibnhodaaGreatDoor.Ab
open Go
set_option linter.unusedSimpArgs false
set_option maxHeartbeats 4000000
variable {G:Nat→Option AV}
theorem tms_ {l:List Str} {k:Nat} {x:Str} (h:l[k]? =some x):(l.take (k+1)).map AV.str=(l.take k).map AV.str++[.str x]:=by
 rw[List.take_add_one,h]
 simp
def QeaT.vars (q:QeaT):List Str:=q.quants.map (·.name)++q.frees.map (·.name)
def QeaT.names (q:QeaT):List Str:=q.states.map (·.name)
theorem vl_ (q:QeaT):q.vars.length=q.quants.length+q.frees.length:=by simp [QeaT.vars]
theorem vq_ {q:QeaT} {i:Nat} {y:QuantT} (h:q.quants[i]? =some y):q.vars[i]? =some y.name:=by
 have:=(List.getElem?_eq_some_iff.1 h).1
 unfold QeaT.vars
 rw[List.getElem?_append_left (by simpa using this),List.getElem?_map,h]
 rfl
theorem vf_ {q:QeaT} {i:Nat} {y:FreeT} (h:q.frees[i]? =some y):q.vars[q.quants.length+i]? =some y.name:=by
 unfold QeaT.vars
 rw[List.getElem?_append_right (by simp),List.getElem?_map]
 simp [h]
theorem ns20 {q:QeaT} {i:Nat} {y:StateT} (h:q.states[i]? =some y):q.names[i]? =some y.name:=by
 unfold QeaT.names
 rw[List.getElem?_map,h]
 rfl
theorem nl14 (q:QeaT):q.names.length=q.states.length:=by simp [QeaT.names]
def h20 (q:QeaT):Bool:=
 (d10 q.decls).1==0&&(n13 q.name&&(allI (n14 q.vars) q.vars&&(allI (n14 q.names) q.names&&(allI (fun _ (y:QuantT)=>!(k_ y.type==[])) q.quants&&(allI (fun _ (y:FreeT)=>y.init.ok) q.frees&&(decide (0≤q.start)&&decide (q.start<q.states.length)))))))
theorem tl_ {l:List Str} {k:Nat} (h:k≤l.length):((l.take k).map AV.str).length=k:=by simp;omega
theorem chp_ (hG:wg_ G) (q:QeaT) (hq:q.Few):P_ Tryz.prog G nch_ [qeaV q] (.bool (h20 q)):=by
 have h1:=hq.quants
 have h2:=hq.frees
 have h3:=hq.states
 have h4:=hq.decls
 have hvl:=vl_ q
 have hnl:=nl14 q
 refine pch_ (Runs.of fun Φ h=>?_)
 unfold cch_
 try (simp -implicitDefEqProofs only[go_sem,qeaV,d_,q_,f_,s_,s10,n_,t_,List.length_map])
 refine al_ (fun n st=>∃i:Nat,i+n=q.quants.length∧st=⟨96,[(1,.ref 1 0 0),(3,.arr 3 0 i),(4,.arr 4 0 0),(14,q_ q.quants),(15,iv q.quants.length),(16,iv i)],[(1,⟨false,taQ_,9,[qeaV q]⟩),(3,⟨true,ts_,1,(q.vars.take i).map AV.str⟩),(4,⟨true,ts_,1,[]⟩)]⟩) q.quants.length ⟨0,by simp,rfl⟩ ?_
 rintro I hI n st ⟨i,hi,rfl⟩
 simp -implicitDefEqProofs only[go_sem,qeaV,d_,q_,f_,s_,s10,n_,t_,List.length_map]
 refine⟨fun hlt=>?_,fun hge=>?_⟩
 ·have hlt':i<q.quants.length:=by omega
  obtain⟨y,hy,hm⟩:=as10 hlt'
  have hw:=ws_ hlt' (by omega)
  have hbd:(i+1)*16≤140737488355328:=by omega
  have hnext:a12 I n ⟨96,[(1,.ref 1 0 0),(3,.arr 3 0 (i+1)),(4,.arr 4 0 0),(14,q_ q.quants),(15,iv q.quants.length),(16,iv (i+1:Nat))],[(1,⟨false,taQ_,9,[qeaV q]⟩),(3,⟨true,ts_,1,(q.vars.take (i+1)).map AV.str⟩),(4,⟨true,ts_,1,[]⟩)]⟩:=aa_ (n - 1) (by omega) (hI _ _ ⟨i+1,by omega,rfl⟩)
  have hrl:=tl_ (l:=q.vars) (k:=i) (by omega)
  rw[tms_ (vq_ hy)] at hnext
  generalize (q.vars.take i).map AV.str=R at*
  repeat' (first|simp -implicitDefEqProofs only[go_sem,am_ hy,q11,hw,hrl,hbd]|refine ag_ (fun hb=>?_) (fun hb=>?_)|refine⟨fun hb=>?_,fun hb=>?_⟩|fail)
  exact hnext
 ·have:i=q.quants.length:=by omega
  subst this
  clear hI
  try (simp -implicitDefEqProofs only[go_sem,qeaV,d_,q_,f_,s_,s10,n_,t_,List.length_map])
  refine al_ (fun n st=>∃i:Nat,i+n=q.frees.length∧st=⟨96,[(1,.ref 1 0 0),(3,.arr 3 0 (q.quants.length+i)),(4,.arr 4 0 0),(27,f_ q.frees),(28,iv q.frees.length),(29,iv i)],[(1,⟨false,taQ_,9,[qeaV q]⟩),(3,⟨true,ts_,1,(q.vars.take (q.quants.length+i)).map AV.str⟩),(4,⟨true,ts_,1,[]⟩)]⟩) q.frees.length ⟨0,by simp,rfl⟩ ?_
  rintro I hI n st ⟨i,hi,rfl⟩
  simp -implicitDefEqProofs only[go_sem,qeaV,d_,q_,f_,s_,s10,n_,t_,List.length_map]
  refine⟨fun hlt=>?_,fun hge=>?_⟩
  ·have hlt':i<q.frees.length:=by omega
   obtain⟨y,hy,hm⟩:=as10 hlt'
   have hw:=ws_ hlt' (by omega)
   have hbd:(q.quants.length+i+1)*16≤140737488355328:=by omega
   have hnext:a12 I n ⟨96,[(1,.ref 1 0 0),(3,.arr 3 0 (q.quants.length+i+1)),(4,.arr 4 0 0),(27,f_ q.frees),(28,iv q.frees.length),(29,iv (i+1:Nat))],[(1,⟨false,taQ_,9,[qeaV q]⟩),(3,⟨true,ts_,1,(q.vars.take (q.quants.length+i+1)).map AV.str⟩),(4,⟨true,ts_,1,[]⟩)]⟩:=aa_ (n - 1) (by omega) (hI _ _ ⟨i+1,by omega,rfl⟩)
   have hrl:=tl_ (l:=q.vars) (k:=q.quants.length+i) (by omega)
   rw[tms_ (vf_ hy)] at hnext
   generalize (q.vars.take (q.quants.length+i)).map AV.str=R at*
   repeat' (first|simp -implicitDefEqProofs only[go_sem,am_ hy,f11,hw,hrl,hbd]|refine ag_ (fun hb=>?_) (fun hb=>?_)|refine⟨fun hb=>?_,fun hb=>?_⟩|fail)
   exact hnext
  ·have:i=q.frees.length:=by omega
   subst this
   clear hI
   rw[List.take_of_length_le (show q.vars.length≤q.quants.length+q.frees.length by omega),←hvl]
   try (simp -implicitDefEqProofs only[go_sem,qeaV,d_,q_,f_,s_,s10,n_,t_,List.length_map])
   refine al_ (fun n st=>∃i:Nat,i+n=q.states.length∧st=⟨96,[(1,.ref 1 0 0),(3,.arr 3 0 q.vars.length),(4,.arr 4 0 i),(40,s_ q.states),(41,iv q.states.length),(42,iv i)],[(1,⟨false,taQ_,9,[qeaV q]⟩),(3,⟨true,ts_,1,q.vars.map AV.str⟩),(4,⟨true,ts_,1,(q.names.take i).map AV.str⟩)]⟩) q.states.length ⟨0,by simp,rfl⟩ ?_
   rintro I hI n st ⟨i,hi,rfl⟩
   simp -implicitDefEqProofs only[go_sem,qeaV,d_,q_,f_,s_,s10,n_,t_,List.length_map]
   refine⟨fun hlt=>?_,fun hge=>?_⟩
   ·have hlt':i<q.states.length:=by omega
    obtain⟨y,hy,hm⟩:=as10 hlt'
    have hw:=ws_ hlt' (by omega)
    have hbd:(i+1)*16≤140737488355328:=by omega
    have hnext:a12 I n ⟨96,[(1,.ref 1 0 0),(3,.arr 3 0 q.vars.length),(4,.arr 4 0 (i+1)),(40,s_ q.states),(41,iv q.states.length),(42,iv (i+1:Nat))],[(1,⟨false,taQ_,9,[qeaV q]⟩),(3,⟨true,ts_,1,q.vars.map AV.str⟩),(4,⟨true,ts_,1,(q.names.take (i+1)).map AV.str⟩)]⟩:=aa_ (n - 1) (by omega) (hI _ _ ⟨i+1,by omega,rfl⟩)
    have hrl:=tl_ (l:=q.names) (k:=i) (by omega)
    rw[tms_ (ns20 hy)] at hnext
    generalize (q.names.take i).map AV.str=R at*
    repeat' (first|simp -implicitDefEqProofs only[go_sem,am_ hy,s22,hw,hrl,hbd]|refine ag_ (fun hb=>?_) (fun hb=>?_)|refine⟨fun hb=>?_,fun hb=>?_⟩|fail)
    exact hnext
   ·have:i=q.states.length:=by omega
    subst this
    clear hI
    rw[List.take_of_length_le (show q.names.length≤q.states.length by omega),←hnl]
    have hck:=sCp_ hG q.decls (by omega) (fun d hd=>by have:=hq.types d hd;omega)
    have hnm:=sNp_ hG q.name
    have hnv:=cnp_ hG q.vars (by omega)
    have hns:=cnp_ hG q.names (by omega)
    have haq:=caaQp_ (G:=G) nch1_ [] (by kernel_rfl) on_ (fun _ (y:QuantT)=>!(k_ y.type==[])) q.quants (fun i y _ =>ch1p_ i y) (by omega)
    have haf:=caaFp_ (G:=G) nch2_ [] (by kernel_rfl) on_ (fun _ (y:FreeT)=>y.init.ok) q.frees (fun i y _ =>ch2p_ i y) (by omega)
    have htv:List.take q.vars.length (q.vars.map AV.str)=q.vars.map AV.str:=List.take_of_length_le (by simp)
    have htn:List.take q.names.length (q.names.map AV.str)=q.names.map AV.str:=List.take_of_length_le (by simp)
    have hlv:(q.vars.map AV.str).length=q.vars.length:=by simp
    have hln:(q.names.map AV.str).length=q.names.length:=by simp
    unfold h20 at h
    generalize d10 q.decls=dc at*
    generalize n13 q.name=b1 at*
    generalize allI (n14 q.vars) q.vars=b2 at*
    generalize allI (n14 q.names) q.names=b3 at*
    generalize allI (fun _ (y:QuantT)=>!(k_ y.type==[])) q.quants=b4 at*
    generalize allI (fun _ (y:FreeT)=>y.init.ok) q.frees=b5 at*
    simp only[qeaV,d_,q_,f_,s_,s10,n_,t_] at hck haq haf
    repeat' (first|simp -implicitDefEqProofs only[go_sem,qeaV,d_,q_,f_,s_,s10,n_,t_,List.length_map]|refine ag_ (fun hb=>?_) (fun hb=>?_)|refine⟨fun hb=>?_,fun hb=>?_⟩|refine ac_ hck rfl rfl ?_|refine ac_ hnm rfl rfl ?_|(refine ac_ hnv ?_ rfl ?_;(focus (simp [v10,flat,viewBs,viewB,viewK,hget,htv,hlv];done)))|(refine ac_ hns ?_ rfl ?_;(focus (simp [v10,flat,viewBs,viewB,viewK,hget,htn,hln];done)))|refine ac_ haq rfl rfl ?_|refine ac_ haf rfl rfl ?_|fail)
    all_goals
     refine h _ ⟨_,_,rfl,rfl,fitB ?_⟩
     clear h hck hnm hnv hns haq haf htv htn hlv hln
     simp_all
     try (intros;omega)
def r17 (q:QeaT):Bool:=fewS q&&(h20 q&&(t23 q (e13 q) s12&&s19 q))
def n17 (l:List Str) (i:Nat) (s:Str):Bool:=n13 s&& !((l.take i).any fun x=>x==s)
def t17 (n:Int):Bool:=decide (1≤n)&&decide (n≤3)
def h18 (q:QeaT):Bool:=
 allI (fun _ (y:QuantT)=>t17 y.type) q.quants&&(allI (fun _ (y:FreeT)=>y.init.ok) q.frees&&(allI (n17 q.vars) q.vars&&(allI (n17 q.names) q.names&&n13 q.name)))
theorem rn10 (q:QeaT) (hq:q.Few):P_ Tryz.prog G np22 [qeaV q] (.bool (h18 q)):=by
 have h1:=hq.quants
 have h2:=hq.frees
 have h3:=hq.states
 have hvl:=vl_ q
 have hnl:=nl14 q
 refine pp17 (Runs.of fun Φ h=>?_)
 unfold cp18
 have fin:∀b heap,h18 q=b→Φ ⟨112,[(2,.bool b)],heap⟩:=fun b heap e=>h _ ⟨_,_,rfl,rfl,fitB e.symm⟩
 clear h
 generalize hR:h18 q=w at*
 unfold h18 at hR
 replace hR:=hR.symm
 try (simp -implicitDefEqProofs only[go_sem,qeaV,d_,q_,f_,s_,s10,n_,t_,List.length_map])
 refine al_ (fun n st=>∃i:Nat,i+n=q.quants.length∧st=⟨112,[(1,.ref 1 0 0),(3,.arr 3 0 i),(4,iv i)],[(1,⟨false,taQ_,9,[qeaV q]⟩),(3,⟨true,ts_,1,(q.vars.take i).map AV.str⟩)]⟩∧∀j y,j<i→q.quants[j]? =some y→t17 y.type=true) q.quants.length ⟨0,by simp,rfl,fun j x hj=>by omega⟩ ?_
 rintro I hI n st ⟨i,hi,rfl,hno⟩
 simp -implicitDefEqProofs only[go_sem,qeaV,d_,q_,f_,s_,s10,n_,t_,List.length_map]
 refine⟨fun hlt=>?_,fun hge=>?_⟩
 ·have hlt':i<q.quants.length:=by omega
  obtain⟨y,hy,hm⟩:=as10 hlt'
  have hw:=ws_ hlt' (by omega)
  have hbd:(i+1)*16≤140737488355328:=by omega
  have hnext:t17 y.type=true→a12 I n ⟨112,[(1,.ref 1 0 0),(3,.arr 3 0 (i+1)),(4,iv (i+1:Nat))],[(1,⟨false,taQ_,9,[qeaV q]⟩),(3,⟨true,ts_,1,(q.vars.take (i+1)).map AV.str⟩)]⟩:=fun hv=>aa_ (n - 1) (by omega) (hI _ _ ⟨i+1,by omega,rfl,as11 (p:=fun _ (y:QuantT)=>t17 y.type) hy hv hno⟩)
  have hbad:t17 y.type=false→w=false:=fun hv=>by rw[hR,af_ hy hv,Bool.false_and]
  have hrl:=tl_ (l:=q.vars) (k:=i) (by omega)
  rw[tms_ (vq_ hy)] at hnext
  generalize (q.vars.take i).map AV.str=R at*
  repeat' (first|simp -implicitDefEqProofs only[go_sem,am_ hy,q11,hw,hrl,hbd]|refine ag_ (fun hb=>?_) (fun hb=>?_)|refine⟨fun hb=>?_,fun hb=>?_⟩|fail)
  all_goals first | refine hnext ?_ | refine fin _ _ (hbad ?_)
  all_goals
   clear hnext hbad fin hno hI hR
   unfold t17
   rw[Bool.eq_iff_iff]
   simp at*
   omega
 ·have:i=q.quants.length:=by omega
  subst this
  rw[aa12 (Nat.le_refl _) hno,Bool.true_and] at hR
  clear hI hno
  try (simp -implicitDefEqProofs only[go_sem,qeaV,d_,q_,f_,s_,s10,n_,t_,List.length_map])
  refine al_ (fun n st=>∃i:Nat,i+n=q.frees.length∧st=⟨112,[(1,.ref 1 0 0),(3,.arr 3 0 (q.quants.length+i)),(5,iv i)],[(1,⟨false,taQ_,9,[qeaV q]⟩),(3,⟨true,ts_,1,(q.vars.take (q.quants.length+i)).map AV.str⟩)]⟩∧∀j y,j<i→q.frees[j]? =some y→y.init.ok=true) q.frees.length ⟨0,by simp,rfl,fun j x hj=>by omega⟩ ?_
  rintro I hI n st ⟨i,hi,rfl,hno⟩
  simp -implicitDefEqProofs only[go_sem,qeaV,d_,q_,f_,s_,s10,n_,t_,List.length_map]
  refine⟨fun hlt=>?_,fun hge=>?_⟩
  ·have hlt':i<q.frees.length:=by omega
   obtain⟨y,hy,hm⟩:=as10 hlt'
   have hw:=ws_ hlt' (by omega)
   have hbd:(q.quants.length+i+1)*16≤140737488355328:=by omega
   have hnext:y.init.ok=true→a12 I n ⟨112,[(1,.ref 1 0 0),(3,.arr 3 0 (q.quants.length+i+1)),(5,iv (i+1:Nat))],[(1,⟨false,taQ_,9,[qeaV q]⟩),(3,⟨true,ts_,1,(q.vars.take (q.quants.length+i+1)).map AV.str⟩)]⟩:=fun hv=>aa_ (n - 1) (by omega) (hI _ _ ⟨i+1,by omega,rfl,as11 (p:=fun _ (y:FreeT)=>y.init.ok) hy hv hno⟩)
   have hbad:y.init.ok=false→w=false:=fun hv=>by rw[hR,af_ hy hv,Bool.false_and]
   have hrl:=tl_ (l:=q.vars) (k:=q.quants.length+i) (by omega)
   have hc:=rRp_ (G:=G) y.init
   simp only[valV] at hc
   rw[tms_ (vf_ hy)] at hnext
   generalize (q.vars.take (q.quants.length+i)).map AV.str=R at*
   generalize y.init.ok=b at*
   repeat' (first|simp -implicitDefEqProofs only[go_sem,am_ hy,f11,hw,hrl,hbd]|refine ag_ (fun hb=>?_) (fun hb=>?_)|refine⟨fun hb=>?_,fun hb=>?_⟩|refine ac_ hc rfl rfl ?_|fail)
   all_goals first | exact hnext (by simpa using hb) | exact fin _ _ (hbad (by simpa using hb))
  ·have:i=q.frees.length:=by omega
   subst this
   rw[aa12 (Nat.le_refl _) hno,Bool.true_and] at hR
   clear hI hno
   rw[List.take_of_length_le (show q.vars.length≤q.quants.length+q.frees.length by omega),←hvl]
   have htv:List.take q.vars.length (q.vars.map AV.str)=q.vars.map AV.str:=List.take_of_length_le (by simp)
   have hlv:(q.vars.map AV.str).length=q.vars.length:=by simp
   try (simp -implicitDefEqProofs only[go_sem,qeaV,d_,q_,f_,s_,s10,n_,t_,List.length_map])
   refine al_ (fun n st=>∃i:Nat,i+n=q.vars.length∧st=⟨112,[(1,.ref 1 0 0),(3,.arr 3 0 q.vars.length),(6,iv i)],[(1,⟨false,taQ_,9,[qeaV q]⟩),(3,⟨true,ts_,1,q.vars.map AV.str⟩)]⟩∧∀j y,j<i→q.vars[j]? =some y→n17 q.vars j y=true) q.vars.length ⟨0,by simp,rfl,fun j x hj=>by omega⟩ ?_
   rintro I hI n st ⟨i,hi,rfl,hno⟩
   simp -implicitDefEqProofs only[go_sem,qeaV,d_,q_,f_,s_,s10,n_,t_,List.length_map]
   refine⟨fun hlt=>?_,fun hge=>?_⟩
   ·have hlt':i<q.vars.length:=by omega
    obtain⟨y,hy,hm⟩:=as10 hlt'
    have hw:=ws_ hlt' (by omega)
    have hym:(q.vars.map AV.str)[i]? =some (.str y):=by simp [hy]
    have hnext:n17 q.vars i y=true→a12 I n ⟨112,[(1,.ref 1 0 0),(3,.arr 3 0 q.vars.length),(6,iv (i+1:Nat))],[(1,⟨false,taQ_,9,[qeaV q]⟩),(3,⟨true,ts_,1,q.vars.map AV.str⟩)]⟩:=fun hv=>aa_ (n - 1) (by omega) (hI _ _ ⟨i+1,by omega,rfl,as11 hy hv hno⟩)
    have hbad:n17 q.vars i y=false→w=false:=fun hv=>by rw[hR,af_ hy hv,Bool.false_and]
    have hc1:=rNp_ (G:=G) y
    have hc2:=rtp_ (G:=G) q.vars (by omega) i y hy
    unfold n17 at hnext hbad
    generalize n13 y=b1 at*
    generalize ((q.vars.take i).any fun x=>x==y)=b2 at*
    clear hno hR
    repeat' (first|simp -implicitDefEqProofs only[go_sem,aa10 hlt',hym,hw,List.length_map]|refine ag_ (fun hb=>?_) (fun hb=>?_)|refine⟨fun hb=>?_,fun hb=>?_⟩|refine ac_ hc1 rfl rfl ?_|(refine ac_ hc2 ?_ rfl ?_;(focus (simp [v10,flat,viewBs,viewB,viewK,hget,htv,hlv];done)))|fail)
    all_goals first | (refine hnext ?_;clear hnext hbad fin hI;simp_all;done) | (refine fin _ _ (hbad ?_);clear hnext hbad fin hI;simp_all;done)
   ·have:i=q.vars.length:=by omega
    subst this
    rw[aa12 (Nat.le_refl _) hno,Bool.true_and] at hR
    clear hI hno
    generalize q.vars.map AV.str=V at*
    try (simp -implicitDefEqProofs only[go_sem,qeaV,d_,q_,f_,s_,s10,n_,t_,List.length_map])
    refine al_ (fun n st=>∃i:Nat,i+n=q.states.length∧st=⟨112,[(1,.ref 1 0 0),(7,.arr 7 0 i),(8,iv i)],[(1,⟨false,taQ_,9,[qeaV q]⟩),(3,⟨true,ts_,1,V⟩),(7,⟨true,ts_,1,(q.names.take i).map AV.str⟩)]⟩∧∀j y,j<i→q.names[j]? =some y→n17 q.names j y=true) q.states.length ⟨0,by simp,rfl,fun j x hj=>by omega⟩ ?_
    rintro I hI n st ⟨i,hi,rfl,hno⟩
    simp -implicitDefEqProofs only[go_sem,qeaV,d_,q_,f_,s_,s10,n_,t_,List.length_map]
    refine⟨fun hlt=>?_,fun hge=>?_⟩
    ·have hlt':i<q.states.length:=by omega
     obtain⟨y,hy,hm⟩:=as10 hlt'
     have hw:=ws_ hlt' (by omega)
     have hyn:=ns20 hy
     have hbd:(i+1)*16≤140737488355328:=by omega
     have hnext:n17 q.names i y.name=true→a12 I n ⟨112,[(1,.ref 1 0 0),(7,.arr 7 0 (i+1)),(8,iv (i+1:Nat))],[(1,⟨false,taQ_,9,[qeaV q]⟩),(3,⟨true,ts_,1,V⟩),(7,⟨true,ts_,1,(q.names.take (i+1)).map AV.str⟩)]⟩:=fun hv=>aa_ (n - 1) (by omega) (hI _ _ ⟨i+1,by omega,rfl,as11 hyn hv hno⟩)
     have hbad:n17 q.names i y.name=false→w=false:=fun hv=>by rw[hR,af_ hyn hv,Bool.false_and]
     have hc1:=rNp_ (G:=G) y.name
     have hc2:=rtp_ (G:=G) (q.names.take (i+1)) (by simp;omega) i y.name (by rw[List.getElem?_take_of_lt (by omega)];exact hyn)
     have hrl:=tl_ (l:=q.names) (k:=i) (by omega)
     rw[tms_ hyn,List.take_take,Nat.min_eq_left (by omega)] at hc2
     unfold n17 at hnext hbad
     rw[tms_ hyn] at hnext
     generalize n13 y.name=b1 at*
     generalize ((q.names.take i).any fun x=>x==y.name)=b2 at*
     generalize (q.names.take i).map AV.str=R at*
     have hat:(R++[AV.str y.name])[i]? =some (.str y.name):=by rw[List.getElem?_append_right (by omega),hrl,Nat.sub_self];rfl
     have htn:List.take (i+1) (R++[AV.str y.name])=R++[AV.str y.name]:=List.take_of_length_le (by simp [hrl])
     have hln:(R++[AV.str y.name]).length=i+1:=by simp [hrl]
     have hi1:i<i+1:=by omega
     clear hno hR
     repeat' (first|simp -implicitDefEqProofs only[go_sem,am_ hy,s22,aa10 hi1,hat,hw,hrl,hbd,List.length_map]|refine ag_ (fun hb=>?_) (fun hb=>?_)|refine⟨fun hb=>?_,fun hb=>?_⟩|refine ac_ hc1 rfl rfl ?_|(refine ac_ hc2 ?_ rfl ?_;(focus (simp [v10,flat,viewBs,viewB,viewK,hget,htn,hln];done)))|fail)
     all_goals first | (refine hnext ?_;clear hnext hbad fin hI;simp_all;done) | (refine fin _ _ (hbad ?_);clear hnext hbad fin hI;simp_all;done)
    ·have:i=q.states.length:=by omega
     subst this
     rw[aa12 (by omega) hno,Bool.true_and] at hR
     clear hI hno
     have hc1:=rNp_ (G:=G) q.name
     repeat' (first|simp -implicitDefEqProofs only[go_sem,qeaV,d_,q_,f_,s_,s10,n_,t_]|refine ag_ (fun hb=>?_) (fun hb=>?_)|refine⟨fun hb=>?_,fun hb=>?_⟩|refine ac_ hc1 rfl rfl ?_|fail)
     all_goals exact fin _ _ hR
end Go.Proofs.YtjbcfpkibnhodaaGreatDoor.Ab
