/-
  proctorref23: To, Kind; reach.to, lint.reached. No claim is proved here.
-/
import Derived.Test.YtjbcfpkibnhodaaGreatDoorQLi3
namespace Go.Proofs.YtjbcfpkibnhodaaGreatDoor.Ab
open Go Go.RowKit
set_option linter.unusedSimpArgs false
set_option maxHeartbeats 4000000
set_option maxRecDepth 100000
variable {G:Nat→Option AV}
def T_ (l:List TransT) (n:Nat):Prop:=∀t∈l,(0≤t.from_∧t.from_<n)∧0≤t.to_∧t.to_<n
def m10 (m:List Bool):AV:=.seq 1 (m.map AV.bool)
theorem rT10 (q:QeaT) (s:Nat) (hs:s<q.states.length) (hto:T_ q.trans q.states.length) (hn:q.states.length≤1000) (hl:q.trans.length≤1000000):P_ Tryz.prog G np14 [qeaV q,iv s] (m10 (toM q.trans q.states.length (s:Int))):=by
 refine pp29 (Runs.of fun Φ h=>?_)
 unfold cp29
 unfold m10 at h
 generalize hv:toM q.trans q.states.length (s:Int)=v at*
 unfold toM at hv
 rw[Int.toNat_natCast] at hv
 have hbd:q.states.length*1≤140737488355328:=by omega
 have hrp:List.replicate q.states.length (AV.bool false)=List.map AV.bool (List.replicate q.states.length false):=by rw[List.map_replicate]
 have hrl:(List.replicate q.states.length false).length=q.states.length:=List.length_replicate
 have hr0:(List.map AV.bool (List.replicate q.states.length false))[s]? =some (.bool false):=by rw[List.getElem?_map,List.getElem?_replicate,if_pos hs];rfl
 have hr1:(List.map AV.bool (List.replicate q.states.length false)).set s (.bool true)=List.map AV.bool ((List.replicate q.states.length false).set s true):=by rw[List.map_set]
 have hsl:((List.replicate q.states.length false).set s true).length=q.states.length:=by simp
 generalize List.replicate q.states.length false=R0 at*
 generalize R0.set s true=R1 at*
 repeat' (first | (simp -implicitDefEqProofs only[go_sem,qeaV,d_,q_,f_,s_,s10,n_,t_,List.length_map,an10 hbd,hrp,aa10 hs,hr0,hr1]) | refine ag_ (fun hb=>?_) (fun hb=>?_) | refine⟨fun hb=>?_,fun hb=>?_⟩ | fail)
 refine al_ (fun k st=>∃(i:Nat) (mk:List Bool),i+k=q.states.length∧mk.length=q.states.length∧mkN q.trans k mk=v∧st=⟨47,[(2,.ref 2 0 0),(5,.arr 11 0 q.states.length),(6,iv i)],[(2,⟨false,taQ_,9,[qeaV q]⟩),(4,⟨true,tb_,1,[]⟩),(11,⟨true,tb_,1,mk.map AV.bool⟩)]⟩) q.states.length ⟨0,R1,by simp,hsl,hv,rfl⟩ ?_
 rintro I hI k st ⟨i,mk,hi,hml,hgo,rfl⟩
 by_cases hlt':i<q.states.length
 ·have hw:=ws_ hlt' (by omega)
  have hlt:((i:Int)<(q.states.length:Int))=True:=by simp;exact hlt'
  obtain⟨k',rfl⟩:∃k',k=k'+1:=⟨k - 1,by omega⟩
  rw[mkN] at hgo
  repeat' (first | (simp -implicitDefEqProofs only[go_sem,qeaV,d_,q_,f_,s_,s10,n_,t_,List.length_map,hlt,decide_true]) | refine ag_ (fun hb=>?_) (fun hb=>?_) | refine⟨fun hb=>?_,fun hb=>?_⟩ | fail)
  refine al_ (fun n' st=>∃(j:Nat) (m2:List Bool),j+n'=q.trans.length∧m2.length=q.states.length∧(q.trans.drop j).foldl mkTo m2=mkR q.trans mk∧st=⟨47,[(2,.ref 2 0 0),(5,.arr 11 0 q.states.length),(6,iv i),(7,iv j)],[(2,⟨false,taQ_,9,[qeaV q]⟩),(4,⟨true,tb_,1,[]⟩),(11,⟨true,tb_,1,m2.map AV.bool⟩)]⟩) q.trans.length ⟨0,mk,by simp,hml,rfl,rfl⟩ ?_
  rintro J hJ n' st ⟨j,m2,hj,hm2,hg2,rfl⟩
  by_cases hlj:j<q.trans.length
  ·obtain⟨t,ht,htm⟩:=as10 hlj
   have hwj:=ws_ hlj (by omega)
   have hltj:((j:Int)<(q.trans.length:Int))=True:=by simp;exact hlj
   rw[da_ ht,List.foldl_cons] at hg2
   obtain⟨⟨f0,f1⟩,g0,g1⟩:=hto t htm
   have hst:mkTo m2 t=if m2[t.from_.toNat]? =some true then m2.set t.to_.toNat true else m2:=rfl
   obtain⟨tf,ts,tt,tg,tsets⟩:=t
   dsimp only at f0 f1 g0 g1 hst
   obtain⟨f,rfl⟩:=Int.eq_ofNat_of_zero_le f0
   obtain⟨u,rfl⟩:=Int.eq_ofNat_of_zero_le g0
   rw[Int.toNat_natCast,Int.toNat_natCast] at hst
   obtain⟨b,hb,_⟩:=as10 (l:=m2) (i:=f) (by omega)
   obtain⟨c,hc,_⟩:=as10 (l:=m2) (i:=u) (by omega)
   have hfl:f<q.states.length:=by omega
   have hul:u<q.states.length:=by omega
   have hb1:(List.map AV.bool m2)[f]? =some (.bool b):=by rw[List.getElem?_map,hb];rfl
   have hc1:(List.map AV.bool m2)[u]? =some (.bool c):=by rw[List.getElem?_map,hc];rfl
   have hset:(List.map AV.bool m2).set u (.bool true)=List.map AV.bool (m2.set u true):=by rw[List.map_set]
   cases b
   ·rw[if_neg (by rw[hb];simp)] at hst
    rw[hst] at hg2
    have hnx:=hJ (n' - 1) _ ⟨j+1,m2,by omega,hm2,hg2,rfl⟩
    clear hJ
    repeat' (first | (simp -implicitDefEqProofs only[go_sem,qeaV,d_,q_,f_,s_,s10,n_,t_,List.length_map,hltj,decide_true,am_ ht,t11,s14,aa10 hfl,hb1,hwj]) | refine ag_ (fun hb=>?_) (fun hb=>?_) | refine⟨fun hb=>?_,fun hb=>?_⟩ | fail)
    exact aa_ (n' - 1) (by omega) hnx
   ·rw[if_pos hb] at hst
    rw[hst] at hg2
    have hnx:=hJ (n' - 1) _ ⟨j+1,m2.set u true,by omega,by simpa using hm2,hg2,rfl⟩
    clear hJ
    repeat' (first | (simp -implicitDefEqProofs only[go_sem,qeaV,d_,q_,f_,s_,s10,n_,t_,List.length_map,hltj,decide_true,am_ ht,t11,s14,aa10 hfl,hb1,aa10 hul,hc1,hset,hwj]) | refine ag_ (fun hb=>?_) (fun hb=>?_) | refine⟨fun hb=>?_,fun hb=>?_⟩ | fail)
    exact aa_ (n' - 1) (by omega) hnx
  ·have hltj:((j:Int)<(q.trans.length:Int))=False:=by simp;omega
   rw[List.drop_eq_nil_of_le (by omega),List.foldl_nil] at hg2
   subst hg2
   have hnx:=hI k' _ ⟨i+1,mkR q.trans mk,by omega,by rw[ml10];exact hml,hgo,rfl⟩
   clear hJ hI
   repeat' (first | (simp -implicitDefEqProofs only[go_sem,qeaV,d_,q_,f_,s_,s10,n_,t_,List.length_map,hltj,decide_false,hw]) | refine ag_ (fun hb=>?_) (fun hb=>?_) | refine⟨fun hb=>?_,fun hb=>?_⟩ | fail)
   exact aa_ k' (by omega) hnx
 ·have hlt:((i:Int)<(q.states.length:Int))=False:=by simp;omega
  obtain rfl:k=0:=by omega
  rw[mkN] at hgo
  subst hgo
  clear hI
  repeat' (first | (simp -implicitDefEqProofs only[go_sem,qeaV,d_,q_,f_,s_,s10,n_,t_,List.length_map,hlt,decide_false]) | refine ag_ (fun hb=>?_) (fun hb=>?_) | refine⟨fun hb=>?_,fun hb=>?_⟩ | fail)
  exact h _ ⟨_,_,rfl,vm_ (e:=AV.bool) (l:=mk) (ty:=tb_) (by decide) (by simp [hget]) hml,.refl _⟩
def s16:List StateT→List Bool→Bool
 | x::l,b::m=>!(b&&(!x.accept||x.next))&&s16 l m
 | _,_ =>true
def d14:List StateT→List Bool→Bool
 | x::l,b::m=>!(b&&x.accept)&&d14 l m
 | _,_ =>true
def k18 (s d:Bool):Int:=if s=true then 1 else if d=true then 2 else 0
theorem sa13 {l:List StateT} {m:List Bool} {i:Nat} {x:StateT} {b:Bool} (hx:l[i]? =some x) (hb:m[i]? =some b):s16 (l.drop i) (m.drop i)=(!(b&&(!x.accept||x.next))&&s16 (l.drop (i+1)) (m.drop (i+1))):=by
 rw[da_ hx,da_ hb,s16]
theorem da11 {l:List StateT} {m:List Bool} {i:Nat} {x:StateT} {b:Bool} (hx:l[i]? =some x) (hb:m[i]? =some b):d14 (l.drop i) (m.drop i)=(!(b&&x.accept)&&d14 (l.drop (i+1)) (m.drop (i+1))):=by
 rw[da_ hx,da_ hb,d14]
theorem se10 {l:List StateT} {m:List Bool} {i:Nat} (h:m.length≤i):s16 (l.drop i) (m.drop i)=true:=by
 rw[List.drop_eq_nil_of_le h]
 cases l.drop i <;> rfl
theorem de_ {l:List StateT} {m:List Bool} {i:Nat} (h:m.length≤i):d14 (l.drop i) (m.drop i)=true:=by
 rw[List.drop_eq_nil_of_le h]
 cases l.drop i <;> rfl
theorem rK10 (q:QeaT) (s:Nat) (hs:s<q.states.length) (hto:T_ q.trans q.states.length) (hn:q.states.length≤1000) (hl:q.trans.length≤1000000):
  P_ Tryz.prog G np24 [qeaV q,iv s] (iv (k18 (s16 q.states (toM q.trans q.states.length (s:Int))) (d14 q.states (toM q.trans q.states.length (s:Int))))):=by
 have h1:=rT10 (G:=G) q s hs hto hn hl
 have hml:=tl13 q.trans q.states.length (s:Int)
 refine ppK_ (Runs.of fun Φ h=>?_)
 unfold cpK_
 generalize toM q.trans q.states.length (s:Int)=M at*
 generalize hS:s16 q.states M=S at*
 generalize hD:d14 q.states M=D at*
 simp only[qeaV,d_,q_,f_,s_,s10,n_,t_,m10] at h1
 repeat' (first | (simp -implicitDefEqProofs only[go_sem,qeaV,d_,q_,f_,s_,s10,n_,t_]) | refine ag_ (fun hb=>?_) (fun hb=>?_) | refine⟨fun hb=>?_,fun hb=>?_⟩ | refine ac_ (h1) rfl rfl ?_ | fail)
 refine al_ (fun n st=>∃(i:Nat) (a b:Bool),i+n=M.length∧st=⟨53,[(2,.ref 2 0 0),(5,.seq 1 (M.map AV.bool)),(6,.bool a),(7,.bool b),(8,iv i)],[(2,⟨false,taQ_,9,[qeaV q]⟩)]⟩∧(a&&s16 (q.states.drop i) (M.drop i))=S∧(b&&d14 (q.states.drop i) (M.drop i))=D) M.length ⟨0,true,true,by simp,rfl,by simpa using hS,by simpa using hD⟩ ?_
 rintro I hI n st ⟨i,a,b,hi,rfl,hsa,hdb⟩
 by_cases hlt':i<M.length
 ·obtain⟨m,hm,_⟩:=as10 hlt'
  obtain⟨x,hx,_⟩:=as10 (l:=q.states) (i:=i) (by omega)
  have hw:=ws_ hlt' (by omega)
  have hlt:((i:Int)<(M.length:Int))=True:=by simp;exact hlt'
  rw[sa13 hx hm] at hsa
  rw[da11 hx hm] at hdb
  have hnx:=fun a' b' h1 h2=>hI (n - 1) _ ⟨i+1,a',b',by omega,rfl,h1,h2⟩
  clear hI hS hD
  obtain⟨xn,x1,x2⟩:=x
  dsimp only at hsa hdb
  generalize s16 (q.states.drop (i+1)) (M.drop (i+1))=S1 at*
  generalize d14 (q.states.drop (i+1)) (M.drop (i+1))=D1 at*
  cases m <;> cases x1 <;> cases x2 <;> simp only[Bool.not_true,Bool.not_false,Bool.and_self,Bool.and_false,Bool.and_true,Bool.false_or,Bool.true_or,Bool.or_false,Bool.or_true,Bool.or_self,Bool.false_and,Bool.true_and] at hsa hdb
  all_goals
   first
   | have hnx:=hnx a b hsa hdb
   | have hnx:=hnx false b (by rw[Bool.false_and];exact hsa) hdb
   | have hnx:=hnx a false hsa (by rw[Bool.false_and];exact hdb)
   | have hnx:=hnx false false (by rw[Bool.false_and];exact hsa) (by rw[Bool.false_and];exact hdb)
   repeat' (first | (simp -implicitDefEqProofs only[go_sem,qeaV,d_,q_,f_,s_,s10,n_,t_,List.length_map,hlt,decide_true,am_ hm,am_ hx,s19,hw]) | refine ag_ (fun hb=>?_) (fun hb=>?_) | refine⟨fun hb=>?_,fun hb=>?_⟩ | fail)
   exact aa_ (n - 1) (by omega) hnx
 ·have hlt:((i:Int)<(M.length:Int))=False:=by simp;omega
  rw[se10 (by omega),Bool.and_true] at hsa
  rw[de_ (by omega),Bool.and_true] at hdb
  subst hsa
  subst hdb
  clear hI hS hD
  cases a <;> cases b
  all_goals
   repeat' (first | (simp -implicitDefEqProofs only[go_sem,qeaV,d_,q_,f_,s_,s10,n_,t_,List.length_map,hlt,decide_false]) | refine ag_ (fun hb=>?_) (fun hb=>?_) | refine⟨fun hb=>?_,fun hb=>?_⟩ | fail)
   exact h _ ⟨_,_,rfl,rfl,.refl _⟩
theorem rt12 (q:QeaT) (s:Nat) (hs:s<q.states.length) (hto:T_ q.trans q.states.length) (hn:q.states.length≤1000) (hl:q.trans.length≤1000000):P_ Tryz.prog G nrt_ [qeaV q,iv s] (.seq 1 ((toL q.trans q.states.length (s:Int)).map iv)):=by
 refine prt_ (Runs.of fun Φ h=>?_)
 unfold crt_
 have hto':∀t∈q.trans,0≤t.to_∧t.to_<q.states.length:=fun t ht=>(hto t ht).2
 generalize hv:toL q.trans q.states.length (s:Int)=v at*
 unfold toL at hv
 simp -implicitDefEqProofs only[go_sem,qeaV,d_,q_,f_,s_,s10,n_,t_]
 refine al_ (fun f st=>∃(i:Nat) (out:List Int),i+f=q.states.length+1∧BfOk q.trans q.states.length (s:Int) out∧i≤out.length∧bfs q.trans f i out=v∧st=⟨45,[(2,.ref 2 0 0),(5,.arr 10 0 out.length),(6,iv i)],[(2,⟨false,taQ_,9,[qeaV q]⟩),(4,⟨true,ti_,1,[]⟩),(10,⟨true,ti_,1,out.map iv⟩)]⟩) (q.states.length+1) ⟨0,[(s:Int)],by simp,⟨by simp,fun x hx=>(List.mem_singleton.1 hx) ▸ ⟨by omega,by omega⟩,rfl,fun j y hy=>by simp at hy⟩,by simp,hv,rfl⟩ ?_
 rintro I hI f st ⟨i,out,hi,hok,hil,hgo,rfl⟩
 have holn:=hok.len
 by_cases hlt':i<out.length
 ·obtain⟨x,hx,hxm⟩:=as10 hlt'
  have hw:=ws_ hlt' (by omega)
  have hlt:((i:Int)<(out.length:Int))=True:=by simp;exact hlt'
  obtain⟨f',rfl⟩:∃f',f=f'+1:=⟨f - 1,by omega⟩
  rw[bfs,hx] at hgo
  dsimp only at hgo
  repeat' (first | (simp -implicitDefEqProofs only[go_sem,qeaV,d_,q_,f_,s_,s10,n_,t_,List.length_map,hlt,decide_true]) | refine ag_ (fun hb=>?_) (fun hb=>?_) | refine⟨fun hb=>?_,fun hb=>?_⟩ | fail)
  refine al_ (fun n' st=>∃(j:Nat) (out2:List Int),j+n'=q.trans.length∧BfOk q.trans q.states.length (s:Int) out2∧out2[i]? =some x∧(q.trans.drop j).foldl (bfT x) out2=bfS q.trans x out∧st=⟨45,[(2,.ref 2 0 0),(5,.arr 10 0 out2.length),(6,iv i),(18,.seq 5 (q.trans.map t11)),(19,iv q.trans.length),(20,iv j)],[(2,⟨false,taQ_,9,[qeaV q]⟩),(4,⟨true,ti_,1,[]⟩),(10,⟨true,ti_,1,out2.map iv⟩)]⟩) q.trans.length ⟨0,out,by simp,hok,hx,rfl,rfl⟩ ?_
  rintro J hJ n' st ⟨j,out2,hj,hok2,hx2,hg2,rfl⟩
  have hol2:=hok2.len
  have hil2:=(List.getElem?_eq_some_iff.1 hx2).1
  by_cases hlj:j<q.trans.length
  ·obtain⟨t,ht,htm⟩:=as10 hlj
   have hwj:=ws_ hlj (by omega)
   have hltj:((j:Int)<(q.trans.length:Int))=True:=by simp;exact hlj
   rw[da_ ht,List.foldl_cons] at hg2
   have hok3:=bo12 hok2 hx2 htm (hto' t htm)
   obtain⟨r3,hr3⟩:=bp10 x out2 t
   have hx3:(bfT x out2 t)[i]? =some x:=by rw[hr3];exact pa11 hx2
   have hst:bfT x out2 t=if t.from_=x∧t.to_∉out2 then out2++[t.to_] else out2:=rfl
   have hnx:=hJ (n' - 1) _ ⟨j+1,bfT x out2 t,by omega,hok3,hx3,hg2,rfl⟩
   clear hJ hg2 hok3 hr3 hx3
   rw[hst] at hnx
   have hcon:=sCiip_ (G:=G) out2 t.to_ (by omega)
   have hcb:(out2.any fun y=>t.to_==y)=decide (t.to_∈out2):=by
    rw[Bool.eq_iff_iff,List.any_eq_true,decide_eq_true_eq]
    exact⟨fun⟨y,hy,e⟩=>by rw[eq_of_beq e];exact hy,fun hy=>⟨_,hy,by simp⟩⟩
   rw[hcb] at hcon
   have hxr:(out2.map iv)[i]? =some (iv x):=by rw[List.getElem?_map,hx2];rfl
   have hlk:(out2.map iv).length=out2.length:=by simp
   have htk:List.take out2.length (out2.map iv)=out2.map iv:=List.take_of_length_le (by simp)
   have hb1:(out2.length+1)*8≤140737488355328:=by omega
   obtain⟨tf,ts,tt,tg,tsets⟩:=t
   dsimp only at hnx hcon
   by_cases hf:tf=x
   ·have hfe:(tf==x)=true:=by simp [hf]
    by_cases hm:tt∈out2
    ·rw[if_neg (fun e=>e.2 hm)] at hnx
     rw[decide_eq_true hm] at hcon
     repeat' (first | (simp -implicitDefEqProofs only[go_sem,qeaV,d_,q_,f_,s_,s10,n_,t_,List.length_map,hltj,decide_true,am_ ht,t11,s14,aa10 hil2,hxr,hfe,hwj]) | refine ag_ (fun hb=>?_) (fun hb=>?_) | refine⟨fun hb=>?_,fun hb=>?_⟩ | (refine ac_ hcon ?_ rfl ?_;(focus (simp [v10,flat,viewBs,viewB,viewK,viewK.go,hget,htk,hlk];done))) | fail)
     exact aa_ (n' - 1) (by omega) hnx
    ·rw[if_pos ⟨hf,hm⟩] at hnx
     rw[decide_eq_false hm] at hcon
     rw[List.length_append,List.map_append,List.length_cons,List.length_nil,Nat.zero_add,List.map_cons,List.map_nil] at hnx
     repeat' (first | (simp -implicitDefEqProofs only[go_sem,qeaV,d_,q_,f_,s_,s10,n_,t_,List.length_map,hltj,decide_true,am_ ht,t11,s14,aa10 hil2,hxr,hfe,hwj,hlk,hb1]) | refine ag_ (fun hb=>?_) (fun hb=>?_) | refine⟨fun hb=>?_,fun hb=>?_⟩ | (refine ac_ hcon ?_ rfl ?_;(focus (simp [v10,flat,viewBs,viewB,viewK,viewK.go,hget,htk,hlk];done))) | fail)
     exact aa_ (n' - 1) (by omega) hnx
   ·have hfe:(tf==x)=false:=by simp [hf]
    rw[if_neg (fun e=>hf e.1)] at hnx
    repeat' (first | (simp -implicitDefEqProofs only[go_sem,qeaV,d_,q_,f_,s_,s10,n_,t_,List.length_map,hltj,decide_true,am_ ht,t11,s14,aa10 hil2,hxr,hfe,hwj]) | refine ag_ (fun hb=>?_) (fun hb=>?_) | refine⟨fun hb=>?_,fun hb=>?_⟩ | fail)
    exact aa_ (n' - 1) (by omega) hnx
  ·have hltj:((j:Int)<(q.trans.length:Int))=False:=by simp;omega
   rw[List.drop_eq_nil_of_le (by omega),List.foldl_nil] at hg2
   rw[←hg2] at hgo
   have hnx:=hI f' _ ⟨i+1,out2,by omega,hok2,by omega,hgo,rfl⟩
   clear hJ hI
   repeat' (first | (simp -implicitDefEqProofs only[go_sem,qeaV,d_,q_,f_,s_,s10,n_,t_,List.length_map,hltj,decide_false,hw]) | refine ag_ (fun hb=>?_) (fun hb=>?_) | refine⟨fun hb=>?_,fun hb=>?_⟩ | fail)
   exact aa_ f' (by omega) hnx
 ·have hlt:((i:Int)<(out.length:Int))=False:=by simp;omega
  have hnone:out[i]? =none:=List.getElem?_eq_none (by omega)
  have hgo:out=v:=by
   cases f with
   | zero=>exact hgo
   | succ f=>rw[bfs,hnone] at hgo;exact hgo
  subst hgo
  clear hI
  repeat' (first | (simp -implicitDefEqProofs only[go_sem,qeaV,d_,q_,f_,s_,s10,n_,t_,List.length_map,hlt,decide_false]) | refine ag_ (fun hb=>?_) (fun hb=>?_) | refine⟨fun hb=>?_,fun hb=>?_⟩ | fail)
  exact h _ ⟨_,_,rfl,vm_ (e:=iv) (l:=out) (ty:=ti_) (by decide) (by simp [hget]) rfl,.refl _⟩
theorem lrp_ (q:QeaT) (hs:0≤q.start∧q.start<q.states.length) (hto:T_ q.trans q.states.length) (hn:q.states.length≤1000) (hl:q.trans.length≤1000000):P_ Tryz.prog G nlr_ [qeaV q] (.seq 1 ((toL q.trans q.states.length q.start).map iv)):=by
 refine plr_ (Runs.of fun Φ h=>?_)
 unfold clr_
 have hto':∀t∈q.trans,0≤t.to_∧t.to_<q.states.length:=fun t ht=>(hto t ht).2
 generalize hv:toL q.trans q.states.length q.start=v at*
 unfold toL at hv
 simp -implicitDefEqProofs only[go_sem,qeaV,d_,q_,f_,s_,s10,n_,t_]
 refine al_ (fun f st=>∃(i:Nat) (out:List Int),i+f=q.states.length+1∧BfOk q.trans q.states.length q.start out∧i≤out.length∧bfs q.trans f i out=v∧st=⟨44,[(1,.ref 1 0 0),(3,.arr 9 0 out.length),(4,iv i)],[(1,⟨false,taQ_,9,[qeaV q]⟩),(2,⟨true,ti_,1,[]⟩),(9,⟨true,ti_,1,out.map iv⟩)]⟩) (q.states.length+1) ⟨0,[q.start],by simp,⟨by simp,fun x hx=>(List.mem_singleton.1 hx) ▸ hs,rfl,fun j y hy=>by simp at hy⟩,by simp,hv,rfl⟩ ?_
 rintro I hI f st ⟨i,out,hi,hok,hil,hgo,rfl⟩
 have holn:=hok.len
 by_cases hlt':i<out.length
 ·obtain⟨x,hx,hxm⟩:=as10 hlt'
  have hw:=ws_ hlt' (by omega)
  have hlt:((i:Int)<(out.length:Int))=True:=by simp;exact hlt'
  obtain⟨f',rfl⟩:∃f',f=f'+1:=⟨f - 1,by omega⟩
  rw[bfs,hx] at hgo
  dsimp only at hgo
  repeat' (first | (simp -implicitDefEqProofs only[go_sem,qeaV,d_,q_,f_,s_,s10,n_,t_,List.length_map,hlt,decide_true]) | refine ag_ (fun hb=>?_) (fun hb=>?_) | refine⟨fun hb=>?_,fun hb=>?_⟩ | fail)
  refine al_ (fun n' st=>∃(j:Nat) (out2:List Int),j+n'=q.trans.length∧BfOk q.trans q.states.length q.start out2∧out2[i]? =some x∧(q.trans.drop j).foldl (bfT x) out2=bfS q.trans x out∧st=⟨44,[(1,.ref 1 0 0),(3,.arr 9 0 out2.length),(4,iv i),(17,.seq 5 (q.trans.map t11)),(18,iv q.trans.length),(19,iv j)],[(1,⟨false,taQ_,9,[qeaV q]⟩),(2,⟨true,ti_,1,[]⟩),(9,⟨true,ti_,1,out2.map iv⟩)]⟩) q.trans.length ⟨0,out,by simp,hok,hx,rfl,rfl⟩ ?_
  rintro J hJ n' st ⟨j,out2,hj,hok2,hx2,hg2,rfl⟩
  have hol2:=hok2.len
  have hil2:=(List.getElem?_eq_some_iff.1 hx2).1
  by_cases hlj:j<q.trans.length
  ·obtain⟨t,ht,htm⟩:=as10 hlj
   have hwj:=ws_ hlj (by omega)
   have hltj:((j:Int)<(q.trans.length:Int))=True:=by simp;exact hlj
   rw[da_ ht,List.foldl_cons] at hg2
   have hok3:=bo12 hok2 hx2 htm (hto' t htm)
   obtain⟨r3,hr3⟩:=bp10 x out2 t
   have hx3:(bfT x out2 t)[i]? =some x:=by rw[hr3];exact pa11 hx2
   have hst:bfT x out2 t=if t.from_=x∧t.to_∉out2 then out2++[t.to_] else out2:=rfl
   have hnx:=hJ (n' - 1) _ ⟨j+1,bfT x out2 t,by omega,hok3,hx3,hg2,rfl⟩
   clear hJ hg2 hok3 hr3 hx3
   rw[hst] at hnx
   have hcon:=sCiip_ (G:=G) out2 t.to_ (by omega)
   have hcb:(out2.any fun y=>t.to_==y)=decide (t.to_∈out2):=by
    rw[Bool.eq_iff_iff,List.any_eq_true,decide_eq_true_eq]
    exact⟨fun⟨y,hy,e⟩=>by rw[eq_of_beq e];exact hy,fun hy=>⟨_,hy,by simp⟩⟩
   rw[hcb] at hcon
   have hxr:(out2.map iv)[i]? =some (iv x):=by rw[List.getElem?_map,hx2];rfl
   have hlk:(out2.map iv).length=out2.length:=by simp
   have htk:List.take out2.length (out2.map iv)=out2.map iv:=List.take_of_length_le (by simp)
   have hb1:(out2.length+1)*8≤140737488355328:=by omega
   obtain⟨tf,ts,tt,tg,tsets⟩:=t
   dsimp only at hnx hcon
   by_cases hf:tf=x
   ·have hfe:(tf==x)=true:=by simp [hf]
    by_cases hm:tt∈out2
    ·rw[if_neg (fun e=>e.2 hm)] at hnx
     rw[decide_eq_true hm] at hcon
     repeat' (first | (simp -implicitDefEqProofs only[go_sem,qeaV,d_,q_,f_,s_,s10,n_,t_,List.length_map,hltj,decide_true,am_ ht,t11,s14,aa10 hil2,hxr,hfe,hwj]) | refine ag_ (fun hb=>?_) (fun hb=>?_) | refine⟨fun hb=>?_,fun hb=>?_⟩ | (refine ac_ hcon ?_ rfl ?_;(focus (simp [v10,flat,viewBs,viewB,viewK,viewK.go,hget,htk,hlk];done))) | fail)
     exact aa_ (n' - 1) (by omega) hnx
    ·rw[if_pos ⟨hf,hm⟩] at hnx
     rw[decide_eq_false hm] at hcon
     rw[List.length_append,List.map_append,List.length_cons,List.length_nil,Nat.zero_add,List.map_cons,List.map_nil] at hnx
     repeat' (first | (simp -implicitDefEqProofs only[go_sem,qeaV,d_,q_,f_,s_,s10,n_,t_,List.length_map,hltj,decide_true,am_ ht,t11,s14,aa10 hil2,hxr,hfe,hwj,hlk,hb1]) | refine ag_ (fun hb=>?_) (fun hb=>?_) | refine⟨fun hb=>?_,fun hb=>?_⟩ | (refine ac_ hcon ?_ rfl ?_;(focus (simp [v10,flat,viewBs,viewB,viewK,viewK.go,hget,htk,hlk];done))) | fail)
     exact aa_ (n' - 1) (by omega) hnx
   ·have hfe:(tf==x)=false:=by simp [hf]
    rw[if_neg (fun e=>hf e.1)] at hnx
    repeat' (first | (simp -implicitDefEqProofs only[go_sem,qeaV,d_,q_,f_,s_,s10,n_,t_,List.length_map,hltj,decide_true,am_ ht,t11,s14,aa10 hil2,hxr,hfe,hwj]) | refine ag_ (fun hb=>?_) (fun hb=>?_) | refine⟨fun hb=>?_,fun hb=>?_⟩ | fail)
    exact aa_ (n' - 1) (by omega) hnx
  ·have hltj:((j:Int)<(q.trans.length:Int))=False:=by simp;omega
   rw[List.drop_eq_nil_of_le (by omega),List.foldl_nil] at hg2
   rw[←hg2] at hgo
   have hnx:=hI f' _ ⟨i+1,out2,by omega,hok2,by omega,hgo,rfl⟩
   clear hJ hI
   repeat' (first | (simp -implicitDefEqProofs only[go_sem,qeaV,d_,q_,f_,s_,s10,n_,t_,List.length_map,hltj,decide_false,hw]) | refine ag_ (fun hb=>?_) (fun hb=>?_) | refine⟨fun hb=>?_,fun hb=>?_⟩ | fail)
   exact aa_ f' (by omega) hnx
 ·have hlt:((i:Int)<(out.length:Int))=False:=by simp;omega
  have hnone:out[i]? =none:=List.getElem?_eq_none (by omega)
  have hgo:out=v:=by
   cases f with
   | zero=>exact hgo
   | succ f=>rw[bfs,hnone] at hgo;exact hgo
  subst hgo
  clear hI
  repeat' (first | (simp -implicitDefEqProofs only[go_sem,qeaV,d_,q_,f_,s_,s10,n_,t_,List.length_map,hlt,decide_false]) | refine ag_ (fun hb=>?_) (fun hb=>?_) | refine⟨fun hb=>?_,fun hb=>?_⟩ | fail)
  exact h _ ⟨_,_,rfl,vm_ (e:=iv) (l:=out) (ty:=ti_) (by decide) (by simp [hget]) rfl,.refl _⟩
end Go.Proofs.YtjbcfpkibnhodaaGreatDoor.Ab
