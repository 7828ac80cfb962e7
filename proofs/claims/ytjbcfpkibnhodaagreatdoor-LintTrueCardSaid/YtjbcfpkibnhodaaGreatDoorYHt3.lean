/-
  proctorlaw39.text: the text of what is odd, as the statement has it. lint.All, proctorref39.All: all that is odd, two ways. proctorref17.All, Under. step: what hits make of configurations and of sets: two ways. proctorref19: free, worse, fired. No claim is proved here.
-/
import Derived.Test.YtjbcfpkibnhodaaGreatDoorYLt1
set_option linter.unusedSimpArgs false
set_option maxHeartbeats 4000000
set_option maxRecDepth 100000
namespace Go.Proofs.YtjbcfpkibnhodaaGreatDoor.Ab
open Go Go.RowKit
variable {G:Nat→Option AV}
structure QeaT.Named (q:QeaT):Prop where
 trans:q.trans.length≤1000000
 states:∀x∈q.states,x.name≠[]∧x.name.length≤1000000
 frees:∀x∈q.frees,x.name≠[]∧x.name.length≤1000000
 decls:∀x∈q.decls,x.name≠[]∧x.name.length≤1000000
theorem il10 {n:Nat} (h:n≤1000000):Lib.itoa ((n:Int)+1)≠[]∧(Lib.itoa ((n:Int)+1)).length≤1000000:=by
 rw[ip10 (by omega)]
 have key:∀(k u:Nat),u<k→Lib.decDigits u≠[]∧(Lib.decDigits u).length≤u+1:=fun k=>by
  induction k with
  | zero=>intro u hu;omega
  | succ k ih=>
   intro u hu
   by_cases h10:u<10
   ·rw[ds12 h10]
    exact⟨by simp,by simp⟩
   ·rw[db_ h10]
    have:=(ih (u / 10) (by omega)).2
    exact⟨by simp,by simp;omega⟩
 have:=key _ ((n:Int)+1).toNat (Nat.lt_succ_self _)
 by_cases hs:n<100000
 ·exact⟨this.1,by omega⟩
 ·refine⟨this.1,?_⟩
  have hn:((n:Int)+1).toNat=n+1:=by omega
  rw[hn,db_ (by omega),db_ (by omega),List.length_append,List.length_append]
  have:=(key _ ((n+1) / 10 / 10) (Nat.lt_succ_self _)).2
  simp
  omega
theorem na10 {q:QeaT} (hq:q.Named) (k n:Int):(n15 q k n).length≤1000000:=by
 unfold n15
 repeat' split
 all_goals first | exact Nat.zero_le _ | skip
 ·rename_i h;obtain⟨j,_,hj⟩:=at?_some h;exact (hq.states _ (List.mem_of_getElem? hj)).2
 ·rename_i h;obtain⟨j,_,hj⟩:=at?_some h;exact (hq.states _ (List.mem_of_getElem? hj)).2
 ·rename_i h;obtain⟨j,_,hj⟩:=at?_some h;exact (hq.frees _ (List.mem_of_getElem? hj)).2
 ·rename_i h;obtain⟨j,_,hj⟩:=at?_some h;exact (hq.frees _ (List.mem_of_getElem? hj)).2
 ·rename_i h;obtain⟨j,rfl,hj⟩:=at?_some h;have:=(List.getElem?_eq_some_iff.1 hj).1;have:=hq.trans;exact (il10 (by omega)).2
 ·rename_i h;obtain⟨j,_,hj⟩:=at?_some h;exact (hq.decls _ (List.mem_of_getElem? hj)).2
end Go.Proofs.YtjbcfpkibnhodaaGreatDoor.Ab
namespace Go.Proofs.YtjbcfpkibnhodaaGreatDoor.Ab
open Go Go.RowKit
variable {G:Nat→Option AV}
section
variable {q:QeaT}
theorem QeaT.LintQ.trans_in (h:q.LintQ):T_ q.trans q.states.length:=fun _ ht=>⟨⟨(t15 h.right ht).from0,(t15 h.right ht).fromL⟩,(t15 h.right ht).to0,(t15 h.right ht).toL⟩
theorem QeaT.LintQ.start_in (h:q.LintQ):0≤q.start∧q.start<q.states.length:=by
 have h:=h.right
 unfold r10 topR at h
 simp only[Bool.and_eq_true,decide_eq_true_eq] at h
 exact⟨h.1.2.2.1,h.1.2.2.2.1⟩
theorem QeaT.LintQ.syms (h:q.LintQ):∀t∈q.trans,t.sets.length≤1000000∧∃s,at? q.symbols t.symbol=some s∧s.args.length≤1000000:=fun t ht=>by
 have tk:=t15 h.right ht
 have hfew:=fo11 q h.few
 refine⟨hfew.sets t ht,?_⟩
 have h0:=tk.sym0
 have h1:=tk.symL
 obtain⟨j,hj⟩:=Int.eq_ofNat_of_zero_le h0
 obtain⟨s,hs,hsm⟩:=as10 (l:=q.symbols) (i:=j) (by omega)
 exact⟨s,by rw[hj];exact at?_nat hs,hfew.args s hsm⟩
end
def pC1 (q:QeaT) (i:Nat):Bool:=!((toL q.trans q.states.length q.start).any fun y=>(i:Int)==y)
def pC2 (q:QeaT) (i:Nat):Bool:=((toL q.trans q.states.length q.start).any fun y=>(i:Int)==y)&&k16 q i==2
def pC3 (q:QeaT) (i:Nat):Bool:=!(q.nodes.any fun x=>f31 i==x)
def pC4 (q:QeaT) (i:Nat):Bool:=!c19 q i
def pN (q:QeaT) (i:Nat):Bool:=match q.trans[i]? with | some t=>n18 q t | none=>false
def pU (q:QeaT) (i:Nat):Bool:=!u20 q i
def l15 (q:QeaT):List (List OddT):=[g_ 1 (pC1 q) q.states.length,g_ 2 (pC2 q) q.states.length,g_ 3 (pC3 q) q.frees.length,g_ 4 (pC4 q) q.frees.length,g_ 5 (pN q) q.trans.length,g_ 6 (pU q) q.decls.length]
def allC (q:QeaT):List OddT:=(l15 q).flatten
theorem lA5p_ (hG:errG G) {q:QeaT} (hq:q.LintQ) (i:Nat) (hi:i<q.trans.length):P_ Tryz.prog G nlA5_ [iv i,.eptr (qeaV q) 0] (.bool (pN q i)):=by
 obtain⟨t,ht,htm⟩:=as10 hi
 have h1:=lnp_ hG hq t htm
 refine plA5_ (Runs.of fun Φ h=>?_)
 unfold clA5_
 unfold pN at h
 rw[ht] at h
 dsimp only at h
 generalize n18 q t=z at*
 obtain⟨tf,ts,tt,tg,tsets⟩:=t
 simp only[qeaV,d_,q_,f_,s_,s10,n_,t_,t11,s14] at h1
 repeat' (first|simp -implicitDefEqProofs only[go_sem,qeaV,d_,q_,f_,s_,s10,n_,t_,am_ ht,t11,s14]|refine ag_ (fun hb=>?_) (fun hb=>?_)|refine⟨fun hb=>?_,fun hb=>?_⟩|refine ac_ h1 rfl rfl ?_|fail)
 exact h _ ⟨_,_,rfl,rfl,.refl _⟩
theorem lAp_ (hW:wg_ G) (hG:errG G) {q:QeaT} (hq:q.LintQ):P_ Tryz.prog G nlA_ [qeaV q] (o14 (allC q)):=by
 have hsz:=fs10 hq.few
 have h0:=cRp_ hW q (fo11 q hq.few)
 rw[re10,hq.right] at h0
 have hti:=hq.trans_in
 have h1:=lrp_ (G:=G) q hq.start_in hti (by omega) (by omega)
 obtain⟨hok,_⟩:=to11 (l:=q.trans) (n:=q.states.length) (s:=q.start) (fun t ht=>(hti t ht).2) hq.start_in
 have hln:=hok.len
 have g1:=lgaSp_ (G:=G) 1 nlA1_ [.eptr (.seq 1 ((toL q.trans q.states.length q.start).map iv)) 0] (by kernel_rfl) (ot11 _) (pC1 q) q.states (by omega) (fun i hi=>lA1p_ _ (by omega) i)
 have g2:=lgaSp_ (G:=G) 2 nlA2_ [.eptr (.seq 1 ((toL q.trans q.states.length q.start).map iv)) 0,.eptr (qeaV q) 0] (by kernel_rfl) (ot10 _ q) (pC2 q) q.states (by omega) (fun i hi=>lA2p_ q _ (by omega) i hi hti (by omega) (by omega))
 have g3:=lgaFp_ (G:=G) 3 nlA3_ [.eptr (qeaV q) 0] (by kernel_rfl) (oq_ q) (pC3 q) q.frees (by omega) (fun i hi=>lA3p_ q (by omega) i)
 have g4:=lgaFp_ (G:=G) 4 nlA4_ [.eptr (qeaV q) 0] (by kernel_rfl) (oq_ q) (pC4 q) q.frees (by omega) (fun i hi=>lA4p_ q (by omega) hq.syms i)
 have g5:=lgaTp_ (G:=G) 5 nlA5_ [.eptr (qeaV q) 0] (by kernel_rfl) (oq_ q) (pN q) q.trans (by omega) (fun i hi=>lA5p_ hG hq i hi)
 have g6:=lgaDp_ (G:=G) 6 nlA6_ [.eptr (qeaV q) 0] (by kernel_rfl) (oq_ q) (pU q) q.decls (by omega) (fun i hi=>lA6p_ q (by omega) i)
 have l1:=gl_ 1 (pC1 q) q.states.length
 have l2:=gl_ 2 (pC2 q) q.states.length
 have l3:=gl_ 3 (pC3 q) q.frees.length
 have l4:=gl_ 4 (pC4 q) q.frees.length
 have l5:=gl_ 5 (pN q) q.trans.length
 have l6:=gl_ 6 (pU q) q.decls.length
 have hcc:=cp38 (G:=G) (l15 q) (by simp [l15]) (by simp [l15];omega)
 refine plA_ (Runs.of fun Φ h=>?_)
 unfold clA_
 unfold allC o14 at h
 generalize hF:(l15 q).flatten=F at*
 unfold l15 at hcc
 clear hF
 generalize g_ 1 (pC1 q) q.states.length=x1 at*
 generalize g_ 2 (pC2 q) q.states.length=x2 at*
 generalize g_ 3 (pC3 q) q.frees.length=x3 at*
 generalize g_ 4 (pC4 q) q.frees.length=x4 at*
 generalize g_ 5 (pN q) q.trans.length=x5 at*
 generalize g_ 6 (pU q) q.decls.length=x6 at*
 generalize toL q.trans q.states.length q.start=L at*
 simp only[List.map_cons,List.map_nil,o14] at hcc
 simp only[qeaV,d_,q_,f_,s_,s10,n_,t_,o14] at h0 h1 g1 g2 g3 g4 g5 g6
 repeat' (first|simp -implicitDefEqProofs only[go_sem,qeaV,d_,q_,f_,s_,s10,n_,t_]|refine ag_ (fun hb=>?_) (fun hb=>?_)|refine⟨fun hb=>?_,fun hb=>?_⟩|refine ac_ h0 rfl rfl ?_|refine ac_ h1 rfl rfl ?_|fail)
 refine ac10 g1 rfl (FitL.refl _) rfl ?_
 repeat' (first|simp -implicitDefEqProofs only[go_sem,qeaV,d_,q_,f_,s_,s10,n_,t_]|refine ag_ (fun hb=>?_) (fun hb=>?_)|refine⟨fun hb=>?_,fun hb=>?_⟩|fail)
 refine ac10 g2 rfl (FitL.refl _) rfl ?_
 repeat' (first|simp -implicitDefEqProofs only[go_sem,qeaV,d_,q_,f_,s_,s10,n_,t_]|refine ag_ (fun hb=>?_) (fun hb=>?_)|refine⟨fun hb=>?_,fun hb=>?_⟩|fail)
 refine ac10 g3 rfl (FitL.refl _) rfl ?_
 repeat' (first|simp -implicitDefEqProofs only[go_sem,qeaV,d_,q_,f_,s_,s10,n_,t_]|refine ag_ (fun hb=>?_) (fun hb=>?_)|refine⟨fun hb=>?_,fun hb=>?_⟩|fail)
 refine ac10 g4 rfl (FitL.refl _) rfl ?_
 repeat' (first|simp -implicitDefEqProofs only[go_sem,qeaV,d_,q_,f_,s_,s10,n_,t_]|refine ag_ (fun hb=>?_) (fun hb=>?_)|refine⟨fun hb=>?_,fun hb=>?_⟩|fail)
 refine ac10 g5 rfl (FitL.refl _) rfl ?_
 repeat' (first|simp -implicitDefEqProofs only[go_sem,qeaV,d_,q_,f_,s_,s10,n_,t_]|refine ag_ (fun hb=>?_) (fun hb=>?_)|refine⟨fun hb=>?_,fun hb=>?_⟩|fail)
 refine ac10 g6 rfl (FitL.refl _) rfl ?_
 repeat' (first|simp -implicitDefEqProofs only[go_sem,qeaV,d_,q_,f_,s_,s10,n_,t_]|refine ag_ (fun hb=>?_) (fun hb=>?_)|refine⟨fun hb=>?_,fun hb=>?_⟩|fail)
 refine ac10 hcc rfl (FitL.refl _) rfl ?_
 repeat' (first|simp -implicitDefEqProofs only[go_sem,qeaV,d_,q_,f_,s_,s10,n_,t_]|refine ag_ (fun hb=>?_) (fun hb=>?_)|refine⟨fun hb=>?_,fun hb=>?_⟩|fail)
 exact h _ ⟨_,_,rfl,rfl,.refl _⟩
end Go.Proofs.YtjbcfpkibnhodaaGreatDoor.Ab
namespace Go.Proofs.YtjbcfpkibnhodaaGreatDoor.Ab
open Go Go.RowKit
variable {G:Nat→Option AV}
def a_ (q:QeaT) (e:EvT) (n:Nat):List HitT:=(List.range n).filterMap (hitR q e)
theorem as20 (q:QeaT) (e:EvT) (n:Nat):a_ q e (n+1)=a_ q e n++(hitR q e n).toList:=by
 unfold a_
 rw[List.range_succ,List.filterMap_append]
 cases h:hitR q e n <;> simp [h]
theorem al10 (q:QeaT) (e:EvT) (n:Nat):(a_ q e n).length≤n:=by
 have:=List.length_filterMap_le (hitR q e) (List.range n)
 rw[List.length_range] at this
 exact this
theorem ft10 {p:HitT→Bool} {l:List HitT} {i:Nat} {x:HitT} (h:l[i]? =some x):(l.take (i+1)).filter p=(l.take i).filter p++if p x then [x] else []:=by
 rw[List.take_add_one,h,List.filter_append]
 cases hp:p x <;> simp [hp]
structure SymsOk (q:QeaT):Prop where
 len:q.symbols.length≤1000
 ok:∀x∈q.symbols,(∃d,at? q.decls x.event=some d)∧x.args.length≤100
theorem rA10 (q:QeaT) (e:EvT) (hq:SymsOk q) (hel:e.args.length≤1000000):P_ Tryz.prog G np35 [qeaV q,e11 e] (h14 (a_ q e q.symbols.length)):=by
 have hsl:=hq.len
 refine pp34 (Runs.of fun Φ h=>?_)
 unfold cp34
 simp -implicitDefEqProofs only[go_sem,qeaV,d_,q_,f_,s_,s10,n_,t_,e11]
 refine al_ (fun n st=>∃(i:Nat) (m:List HitT),i+n=q.symbols.length∧st=⟨29,[(2,.ref 2 0 0),(3,.ref 3 0 0),(5,.arr 5 0 m.length),(6,iv i)],[(2,⟨false,taQ_,9,[qeaV q]⟩),(3,⟨false,ta11,2,[e11 e]⟩),(4,⟨true,taH_,3,[]⟩),(5,⟨true,taH_,3,m.map hitV⟩)]⟩∧m=a_ q e i) q.symbols.length ⟨0,[],by simp,rfl,rfl⟩ ?_
 rintro I hI n st ⟨i,m,hi,rfl,hm⟩
 have hml:m.length≤i:=by rw[hm];exact al10 q e i
 simp -implicitDefEqProofs only[go_sem,qeaV,d_,q_,f_,s_,s10,n_,t_,e11,List.length_map]
 refine⟨fun hlt=>?_,fun hge=>?_⟩
 ·have hlt':i<q.symbols.length:=by omega
  obtain⟨x,hx,hxm⟩:=as10 hlt'
  have hw:=ws_ hlt' (by omega)
  obtain⟨⟨d,hd⟩,hal⟩:=hq.ok x hxm
  have hc:=rHp_ (G:=G) q e i x d hx hd hal hel
  have hnx:=as20 q e i
  rw[←hm] at hnx
  have hb1:(m.length+1)*56≤140737488355328:=by omega
  generalize hitR q e i=r at*
  cases r with
  | none=>
   rw[show m++(none:Option HitT).toList=m by simp] at hnx
   simp only[h22,qeaV,d_,q_,f_,s_,s10,n_,t_,e11] at hc
   repeat' (first|simp -implicitDefEqProofs only[go_sem,qeaV,d_,q_,f_,s_,s10,n_,t_,e11,hw,List.length_map]|refine ag_ (fun hb=>?_) (fun hb=>?_)|refine⟨fun hb=>?_,fun hb=>?_⟩|refine ac_ hc rfl rfl ?_|fail)
   exact aa_ (n - 1) (by omega) (hI _ _ ⟨i+1,m,by omega,rfl,hnx.symm⟩)
  | some y=>
   obtain⟨y1,y2,y3⟩:=y
   rw[show m++(some (⟨y1,y2,y3⟩:HitT)).toList=m++[⟨y1,y2,y3⟩] by simp] at hnx
   simp only[h22,hitV,s11,qeaV,d_,q_,f_,s_,s10,n_,t_,e11] at hc
   repeat' (first|simp -implicitDefEqProofs only[go_sem,qeaV,d_,q_,f_,s_,s10,n_,t_,e11,hw,List.length_map,hb1]|refine ag_ (fun hb=>?_) (fun hb=>?_)|refine⟨fun hb=>?_,fun hb=>?_⟩|refine ac_ hc rfl rfl ?_|fail)
   refine aa_ (n - 1) (by omega) (hI _ _ ⟨i+1,m++[⟨y1,y2,y3⟩],by omega,?_,hnx.symm⟩)
   simp [qeaV,d_,q_,f_,s_,s10,n_,t_,e11,hitV,s11]
 ·have hi':i=q.symbols.length:=by omega
  subst hi'
  rw[←hm] at h
  clear hI hm
  repeat' (first|simp -implicitDefEqProofs only[go_sem]|refine ag_ (fun hb=>?_) (fun hb=>?_)|refine⟨fun hb=>?_,fun hb=>?_⟩|fail)
  exact h _ ⟨_,_,rfl,vm_ (e:=hitV) (l:=m) (ty:=taH_) (by decide) (by simp [hget]) rfl,.refl _⟩
def u_ (l:List HitT) (b:List SlotT):List HitT:=l.filter fun h=>u12 h.bind b
theorem rUp_ (l:List HitT) (b:List SlotT) (hl:l.length≤1000) (hbl:∀h∈l,h.bind.length≤1000000) (hb:b.length≤1000000):P_ Tryz.prog G npU_ [h14 l,s11 b] (h14 (u_ l b)):=by
 refine ppU_ (Runs.of fun Φ h=>?_)
 unfold cpU_
 simp -implicitDefEqProofs only[go_sem,h14,s11]
 refine al_ (fun n st=>∃(i:Nat) (m:List HitT),i+n=l.length∧st=⟨28,[(0,h14 l),(1,s11 b),(5,.arr 5 0 m.length),(6,iv i)],[(4,⟨true,taH_,3,[]⟩),(5,⟨true,taH_,3,m.map hitV⟩)]⟩∧m=(l.take i).filter (fun h=>u12 h.bind b)) l.length ⟨0,[],by simp,rfl,rfl⟩ ?_
 rintro I hI n st ⟨i,m,hi,rfl,hm⟩
 have hml:m.length≤i:=by
  have:m.length≤(l.take i).length:=by rw[hm];exact List.length_filter_le _ _
  rw[List.length_take] at this
  omega
 simp -implicitDefEqProofs only[go_sem,h14,s11,List.length_map]
 refine⟨fun hlt=>?_,fun hge=>?_⟩
 ·have hlt':i<l.length:=by omega
  obtain⟨x,hx,hxm⟩:=as10 hlt'
  have hw:=ws_ hlt' (by omega)
  have hc:=rU11 (G:=G) x.bind b (by have:=hbl x hxm;omega) (by omega)
  have hnx:=ft10 (p:=fun h:HitT=>u12 h.bind b) hx
  rw[←hm] at hnx
  have hb1:(m.length+1)*56≤140737488355328:=by omega
  generalize u12 x.bind b=z at*
  obtain⟨x1,x2,x3⟩:=x
  simp only[s11] at hc
  cases z
  ·rw[if_neg (by simp),List.append_nil] at hnx
   repeat' (first|simp -implicitDefEqProofs only[go_sem,am_ hx,hitV,s11,hw,List.length_map]|refine ag_ (fun hb=>?_) (fun hb=>?_)|refine⟨fun hb=>?_,fun hb=>?_⟩|refine ac_ hc rfl rfl ?_|fail)
   exact aa_ (n - 1) (by omega) (hI _ _ ⟨i+1,m,by omega,rfl,hnx.symm⟩)
  ·rw[if_pos rfl] at hnx
   repeat' (first|simp -implicitDefEqProofs only[go_sem,am_ hx,hitV,s11,hw,List.length_map,hb1]|refine ag_ (fun hb=>?_) (fun hb=>?_)|refine⟨fun hb=>?_,fun hb=>?_⟩|refine ac_ hc rfl rfl ?_|fail)
   refine aa_ (n - 1) (by omega) (hI _ _ ⟨i+1,m++[⟨x1,x2,x3⟩],by omega,?_,hnx.symm⟩)
   simp [h14,hitV,s11]
 ·rw[List.take_of_length_le (by omega)] at hm
  unfold u_ at h
  rw[←hm] at h
  clear hI hm
  repeat' (first|simp -implicitDefEqProofs only[go_sem]|refine ag_ (fun hb=>?_) (fun hb=>?_)|refine⟨fun hb=>?_,fun hb=>?_⟩|fail)
  exact h _ ⟨_,_,rfl,vm_ (e:=hitV) (l:=m) (ty:=taH_) (by decide) (by simp [hget]) rfl,.refl _⟩
end Go.Proofs.YtjbcfpkibnhodaaGreatDoor.Ab
namespace Go.Proofs.YtjbcfpkibnhodaaGreatDoor.Ab
open Go
def w13 (a b:Int):Int:=if a=0∨(¬b=0∧b<a) then b else a
def n19 (q:QeaT) (c:CfgT):Bool:=match at? q.states c.state with | some s=>s.next | none=>false
structure HitsOk (q:QeaT) (hits:List HitT):Prop where
 ok:∀h∈hits,h.Ok q
 len:hits.length≤1000
theorem e19.pos {x:Int} (h:e19 x):0<x:=by unfold e19 at h;omega
end Go.Proofs.YtjbcfpkibnhodaaGreatDoor.Ab
namespace Go.Proofs.YtjbcfpkibnhodaaGreatDoor.Ab
open Go Go.RowKit
variable {G:Nat→Option AV}
theorem rwp_ (a b:Int):P_ Tryz.prog G npw_ [iv a,iv b] (iv (w13 a b)):=by
 refine pp13 (Runs.of fun Φ h=>?_)
 unfold cp14
 unfold w13 at h
 by_cases h1:a=0
 ·rw[if_pos (.inl h1)] at h
  have e1:(a==0)=true:=by simp [h1]
  repeat' (first|simp -implicitDefEqProofs only[go_sem,e1]|refine ag_ (fun hb=>?_) (fun hb=>?_)|refine⟨fun hb=>?_,fun hb=>?_⟩|fail)
  exact h _ ⟨_,_,rfl,rfl,.refl _⟩
 ·have e1:(a==0)=false:=by simp [h1]
  by_cases h2:b=0
  ·rw[if_neg (by omega)] at h
   have e2:(b != 0)=false:=by simp [h2]
   repeat' (first|simp -implicitDefEqProofs only[go_sem,e1,e2]|refine ag_ (fun hb=>?_) (fun hb=>?_)|refine⟨fun hb=>?_,fun hb=>?_⟩|fail)
   exact h _ ⟨_,_,rfl,rfl,.refl _⟩
  ·have e2:(b != 0)=true:=by simp [h2]
   by_cases h3:b<a
   ·rw[if_pos (.inr ⟨h2,h3⟩)] at h
    have e3:(b<a)=True:=by simp;exact h3
    repeat' (first|simp -implicitDefEqProofs only[go_sem,e1,e2,e3,decide_true]|refine ag_ (fun hb=>?_) (fun hb=>?_)|refine⟨fun hb=>?_,fun hb=>?_⟩|fail)
    exact h _ ⟨_,_,rfl,rfl,.refl _⟩
   ·rw[if_neg (by omega)] at h
    have e3:(b<a)=False:=by simp;omega
    repeat' (first|simp -implicitDefEqProofs only[go_sem,e1,e2,e3,decide_false]|refine ag_ (fun hb=>?_) (fun hb=>?_)|refine⟨fun hb=>?_,fun hb=>?_⟩|fail)
    exact h _ ⟨_,_,rfl,rfl,.refl _⟩
theorem rf10 (vals:List Val) (l:List SlotT) (hv:vals.length≤1000000) (hl:l.length≤1000000) (hin:∀s∈l,∃f:Nat,s.var=f∧f<vals.length):P_ Tryz.prog G np29 [v_ vals,s11 l] (v_ (f20 l vals)):=by
 have hb:vals.length*40≤140737488355328:=by omega
 refine pp25 (Runs.of fun Φ h=>?_)
 unfold cp25
 repeat' (first|simp -implicitDefEqProofs only[go_sem,v_,s11,List.length_map,hb]|refine ag_ (fun hb=>?_) (fun hb=>?_)|refine⟨fun hb=>?_,fun hb=>?_⟩|fail)
 refine al_ (fun n st=>∃(i:Nat) (out:List Val),i+n=l.length∧st=⟨29,[(1,.seq 5 (l.map s16)),(5,.arr 7 0 vals.length),(6,iv i)],[(4,⟨true,taV_,4,[]⟩),(7,⟨true,taV_,4,out.map valV⟩)]⟩∧out.length=vals.length∧f20 (l.drop i) out=f20 l vals) l.length ⟨0,vals,by simp,rfl,rfl,rfl⟩ ?_
 rintro I hI n st ⟨i,out,hi,rfl,hol,hno⟩
 rw[←hno] at h
 simp -implicitDefEqProofs only[go_sem,List.length_map]
 refine⟨fun hlt=>?_,fun hge=>?_⟩
 ·have hlt':i<l.length:=by omega
  obtain⟨s,hx,hxm⟩:=as10 hlt'
  have hw:=ws_ hlt' (by omega)
  have hgo:=fg_ (out:=out) hx
  obtain⟨f,hf,hfn⟩:=hin s hxm
  have hst:=fi_ hf (by omega:f<out.length)
  obtain⟨sv,⟨k,m,str,bt⟩⟩:=s
  dsimp only at hf hst
  subst hf
  rw[hst] at hgo
  obtain⟨old,hold,_⟩:=as10 (l:=out) (i:=f) (by omega)
  obtain⟨o1,o2,o3,o4⟩:=old
  have hes:(List.map valV out)[f]? =some (.agg [iv o1,iv o2,.str o3,.bool o4]):=by rw[List.getElem?_map,hold];rfl
  have hset:(List.map valV out).set f (.agg [iv k,iv m,.str str,.bool bt])=List.map valV (out.set f ⟨k,m,str,bt⟩):=by rw[List.map_set];rfl
  have hai:∀H:List (Nat×Box),hget H 7=some ⟨true,taV_,4,out.map valV⟩→a14 H 4 (.arr 7 0 vals.length) (iv f)=some (.ref 7 f 0):=fun H hH=>ar11 hH rfl hfn
  repeat' (first|simp -implicitDefEqProofs only[go_sem,am_ hx,s16,hw,hes,hset,hai]|refine ag_ (fun hb=>?_) (fun hb=>?_)|refine⟨fun hb=>?_,fun hb=>?_⟩|fail)
  exact aa_ (n - 1) (by omega) (hI _ _ ⟨i+1,_,by omega,rfl,by simp [hol],by rw[hgo,hno]⟩)
 ·rw[fe11 (by omega)] at h
  have hview:∀H:List (Nat×Box),hget H 7=some ⟨true,taV_,4,out.map valV⟩→view H (.arr 7 0 vals.length)=some (v_ out):=fun H hH=>vr13 hH hol
  repeat' (first|simp -implicitDefEqProofs only[go_sem]|refine ag_ (fun hb=>?_) (fun hb=>?_)|refine⟨fun hb=>?_,fun hb=>?_⟩|fail)
  exact h _ ⟨_,_,rfl,hview _ rfl,.refl _⟩
def f30 (r:CfgT×Bool×Int):AV:=if r.2.1=true then .tup [cfgV r.1,.bool true,iv r.2.2] else .tup [.agg [iv 0,.nils],.bool false,iv r.2.2]
theorem rfp_ {q:QeaT} {c:CfgT} {h:HitT} (hq:q.Good) (hc:c.Ok q) (hh:h.Ok q) (j:Nat) (t:TransT) (ht:q.trans[j]? =some t) (hsl:t.sets.length≤1000000):P_ Tryz.prog G npf_ [qeaV q,iv j,cfgV c,hitV h] (f30 (f19 q c t h)):=by
 have htm:=List.mem_of_getElem? ht
 obtain⟨hf,hE⟩:=eh_ hq hc hh
 have tk:=hq.tk t htm
 have hS:=so10 q hq.n64
 have hlen:=(fa_ hf).1
 have hcl:c.vals.length=q.frees.length:=(fa_ hc.st.2.2).1
 have hfl:=hq.fl
 have h1:=rf10 (G:=G) c.vals h.frees (by omega) hh.fl fun s hs=>by
  obtain⟨⟨f,fr,e,hfr,_⟩,_⟩:=hh.fok s hs
  exact⟨f,e,by have:=(List.getElem?_eq_some_iff.1 hfr).1;omega⟩
 have h2:=rG10 (G:=G) hS hE j t ht tk.guard
 have h3:=rS15 (G:=G) hS hE j t ht (fun s hs=>by
  obtain⟨e,f,x,fr,he,hfr,hx,hk0,hfq,_⟩:=tk.sets s hs
  exact⟨e,f,he,hfr,⟨x,hx,hk0⟩,by have:=(List.getElem?_eq_some_iff.1 hfq).1;omega⟩) hsl
 refine ppf_ (Runs.of fun Φ hh=>?_)
 unfold cpf_
 have fin0:∀e heap,f19 q c t h=(⟨0,[]⟩,false,e)→hget heap 8=some ⟨false,taC_,2,[.agg [iv 0,.nils]]⟩→Φ ⟨58,[(8,.ref 8 0 0),(9,.bool false),(10,iv e)],heap⟩:=fun e heap e1 e2=>hh _ ⟨[.agg [iv 0,.nils],.bool false,iv e],_,by simp [r15,a18,h15,e2,eget,cpf_,AV.cells],rfl,fe_ (by rw[e1];rfl)⟩
 have fin1:∀s vs heap,f19 q c t h=(⟨s,vs⟩,true,0)→hget heap 8=some ⟨false,taC_,2,[.agg [iv s,v_ vs]]⟩→Φ ⟨58,[(8,.ref 8 0 0),(9,.bool true),(10,iv 0)],heap⟩:=fun s vs heap e1 e2=>hh _ ⟨[.agg [iv s,v_ vs],.bool true,iv 0],_,by simp [r15,a18,h15,e2,eget,cpf_,AV.cells],rfl,fe_ (by rw[e1];rfl)⟩
 clear hh
 have hR:f19 q c t h=f19 q c t h:=rfl
 conv at hR=>rhs;unfold f19
 clear hlen hE hf hcl
 generalize f19 q c t h=R at*
 obtain⟨cs,cv⟩:=c
 obtain⟨hs,hb,hfr⟩:=h
 obtain⟨t1,t2,t3,t4,sets⟩:=t
 dsimp only at*
 generalize f20 hfr cv=vals at*
 generalize g10 q hb vals ⟨t1,t2,t3,t4,sets⟩=g at*
 generalize s21 q hb vals sets vals=r at*
 obtain⟨gb,ge⟩:=g
 obtain⟨rv,re⟩:=r
 dsimp only at*
 simp only[v_,s11,qeaV,d_,q_,f_,s_,s10,n_,t_] at h1 h2 h3
 by_cases hge:ge=0
 ·subst hge
  cases gb
  ·rw[if_pos (.inr rfl)] at hR
   repeat' (first|simp -implicitDefEqProofs only[go_sem,qeaV,d_,q_,f_,s_,s10,n_,t_,cfgV,hitV,s11,v_]|refine ag_ (fun hb=>?_) (fun hb=>?_)|refine⟨fun hb=>?_,fun hb=>?_⟩|refine ac_ h1 rfl rfl ?_|refine ac_ h2 rfl rfl ?_|fail)
   exact fin0 _ _ hR rfl
  ·rw[if_neg (by simp)] at hR
   by_cases hre:re=0
   ·subst hre
    rw[if_pos rfl] at hR
    repeat' (first|simp -implicitDefEqProofs only[go_sem,qeaV,d_,q_,f_,s_,s10,n_,t_,cfgV,hitV,s11,v_,am_ ht,t11,s14]|refine ag_ (fun hb=>?_) (fun hb=>?_)|refine⟨fun hb=>?_,fun hb=>?_⟩|refine ac_ h1 rfl rfl ?_|refine ac_ h2 rfl rfl ?_|refine ac_ h3 rfl rfl ?_|fail)
    exact fin1 _ _ _ hR rfl
   ·rw[if_neg hre] at hR
    have e1:(re != 0)=true:=by simp [hre]
    repeat' (first|simp -implicitDefEqProofs only[go_sem,qeaV,d_,q_,f_,s_,s10,n_,t_,cfgV,hitV,s11,v_,e1]|refine ag_ (fun hb=>?_) (fun hb=>?_)|refine⟨fun hb=>?_,fun hb=>?_⟩|refine ac_ h1 rfl rfl ?_|refine ac_ h2 rfl rfl ?_|refine ac_ h3 rfl rfl ?_|fail)
    exact fin0 _ _ hR rfl
 ·rw[if_pos (.inl hge)] at hR
  have e1:(ge != 0)=true:=by simp [hge]
  repeat' (first|simp -implicitDefEqProofs only[go_sem,qeaV,d_,q_,f_,s_,s10,n_,t_,cfgV,hitV,s11,v_,e1]|refine ag_ (fun hb=>?_) (fun hb=>?_)|refine⟨fun hb=>?_,fun hb=>?_⟩|refine ac_ h1 rfl rfl ?_|refine ac_ h2 rfl rfl ?_|fail)
  exact fin0 _ _ hR rfl
end Go.Proofs.YtjbcfpkibnhodaaGreatDoor.Ab
