/-
  lint.All, proctorref39.All: all that is odd, two ways. No claim is proved here.
-/
import Derived.Test.YtjbcfpkibnhodaaGreatDoorQShelfF
namespace Go.Proofs.YtjbcfpkibnhodaaGreatDoor.Ab
open Go Go.RowKit
set_option linter.unusedSimpArgs false
set_option maxHeartbeats 4000000
set_option maxRecDepth 100000
variable {G:Nat→Option AV}
section
variable {q:QeaT}
theorem QeaT.LintQ.trans_in (h:q.LintQ):T_ q.trans q.states.length:=fun _ ht=>⟨⟨(t19 h.right ht).from0,(t19 h.right ht).fromL⟩,(t19 h.right ht).to0,(t19 h.right ht).toL⟩
theorem QeaT.LintQ.start_in (h:q.LintQ):0≤q.start∧q.start<q.states.length:=by
 have h:=h.right
 unfold r10 topR at h
 simp only[Bool.and_eq_true,decide_eq_true_eq] at h
 exact⟨h.1.2.2.1,h.1.2.2.2.1⟩
theorem QeaT.LintQ.syms (h:q.LintQ):∀t∈q.trans,t.sets.length≤1000000∧∃s,at? q.symbols t.symbol=some s∧s.args.length≤1000000:=fun t ht=>by
 have tk:=t19 h.right ht
 have hfew:=fo_ q h.few
 refine⟨hfew.sets t ht,?_⟩
 have h0:=tk.sym0
 have h1:=tk.symL
 obtain⟨j,hj⟩:=Int.eq_ofNat_of_zero_le h0
 obtain⟨s,hs,hsm⟩:=as10 (l:=q.symbols) (i:=j) (by omega)
 exact⟨s,by rw[hj];exact at?_nat hs,hfew.args s hsm⟩
end
def pC1 (q:QeaT) (i:Nat):Bool:=!((toL q.trans q.states.length q.start).any fun y=>(i:Int)==y)
def pC2 (q:QeaT) (i:Nat):Bool:=((toL q.trans q.states.length q.start).any fun y=>(i:Int)==y)&&k16 q i==2
def pC3 (q:QeaT) (i:Nat):Bool:=!(q.nodes.any fun x=>f22 i==x)
def pC4 (q:QeaT) (i:Nat):Bool:=!c16 q i
def pN (q:QeaT) (i:Nat):Bool:=match q.trans[i]? with | some t=>n17 q t | none=>false
def pU (q:QeaT) (i:Nat):Bool:=!u14 q i
def l13 (q:QeaT):List (List OddT):=[g_ 1 (pC1 q) q.states.length,g_ 2 (pC2 q) q.states.length,g_ 3 (pC3 q) q.frees.length,g_ 4 (pC4 q) q.frees.length,g_ 5 (pN q) q.trans.length,g_ 6 (pU q) q.decls.length]
def allC (q:QeaT):List OddT:=(l13 q).flatten
theorem lA5p_ (hG:errG G) {q:QeaT} (hq:q.LintQ) (i:Nat) (hi:i<q.trans.length):P_ Tryz.prog G nlA5_ [iv i,.eptr (qeaV q) 0] (.bool (pN q i)):=by
 obtain⟨t,ht,htm⟩:=as10 hi
 have h1:=lnp_ hG hq t htm
 refine plA5_ (Runs.of fun Φ h=>?_)
 unfold clA5_
 unfold pN at h
 rw[ht] at h
 dsimp only at h
 generalize n17 q t=z at*
 obtain⟨tf,ts,tt,tg,tsets⟩:=t
 simp only[qeaV,d_,q_,f_,s_,s10,n_,t_,t11,s14] at h1
 repeat' (first | (simp -implicitDefEqProofs only[go_sem,qeaV,d_,q_,f_,s_,s10,n_,t_,am_ ht,t11,s14]) | refine ag_ (fun hb=>?_) (fun hb=>?_) | refine⟨fun hb=>?_,fun hb=>?_⟩ | refine ac_ (h1) rfl rfl ?_ | fail)
 exact h _ ⟨_,_,rfl,rfl,.refl _⟩
theorem lAb_ (hW:wg_ G) (q:QeaT) (hq:q.Few) (hr:r10 q=false):P_ Tryz.prog G nlA_ [qeaV q] (o14 []):=by
 have h1:=cRp_ hW q hq
 rw[re_,hr] at h1
 refine plA_ (Runs.of fun Φ h=>?_)
 unfold clA_
 simp only[qeaV,d_,q_,f_,s_,s10,n_,t_] at h1
 repeat' (first | (simp -implicitDefEqProofs only[go_sem,qeaV,d_,q_,f_,s_,s10,n_,t_]) | refine ag_ (fun hb=>?_) (fun hb=>?_) | refine⟨fun hb=>?_,fun hb=>?_⟩ | refine ac_ (h1) rfl rfl ?_ | fail)
 exact h _ ⟨_,_,rfl,rfl,.refl _⟩
theorem lAp_ (hW:wg_ G) (hG:errG G) {q:QeaT} (hq:q.LintQ):P_ Tryz.prog G nlA_ [qeaV q] (o14 (allC q)):=by
 have hsz:=fs11 hq.few
 have h0:=cRp_ hW q (fo_ q hq.few)
 rw[re_,hq.right] at h0
 have hti:=hq.trans_in
 have h1:=lrp_ (G:=G) q hq.start_in hti (by omega) (by omega)
 obtain⟨hok,_⟩:=to11 (l:=q.trans) (n:=q.states.length) (s:=q.start) (fun t ht=>(hti t ht).2) hq.start_in
 have hln:=hok.len
 have g1:=lgaSp_ (G:=G) 1 nlA1_ [.eptr (.seq 1 ((toL q.trans q.states.length q.start).map iv)) 0] (by kernel_rfl) (ot11 _) (pC1 q) q.states (by omega) (fun i hi=>lA1p_ _ (by omega) i)
 have g2:=lgaSp_ (G:=G) 2 nlA2_ [.eptr (.seq 1 ((toL q.trans q.states.length q.start).map iv)) 0,.eptr (qeaV q) 0] (by kernel_rfl) (ot10 _ q) (pC2 q) q.states (by omega) (fun i hi=>lA2p_ q _ (by omega) i hi hti (by omega) (by omega))
 have g3:=lgaFp_ (G:=G) 3 nlA3_ [.eptr (qeaV q) 0] (by kernel_rfl) (oq_ q) (pC3 q) q.frees (by omega) (fun i hi=>lA3p_ q (by omega) i)
 have g4:=lgaFp_ (G:=G) 4 nlA4_ [.eptr (qeaV q) 0] (by kernel_rfl) (oq_ q) (pC4 q) q.frees (by omega) (fun i hi=>lA4p_ q (by omega) hq.syms i)
 have g5:=lgaTp_ (G:=G) 5 nlA5_ [.eptr (qeaV q) 0] (by kernel_rfl) (oq_ q) (pN q) q.trans (by omega) (fun i hi=>lA5p_ hG hq i hi)
 have g6:=lgaDp_ (G:=G) 6 nlA6_ [.eptr (qeaV q) 0] (by kernel_rfl) (oq_ q) (pU q) q.decls (by omega) (fun i hi=>lA6p_ q (by omega) i)
 have l1:=gl_ 1 (pC1 q) q.states.length
 have l2:=gl_ 2 (pC2 q) q.states.length
 have l3:=gl_ 3 (pC3 q) q.frees.length
 have l4:=gl_ 4 (pC4 q) q.frees.length
 have l5:=gl_ 5 (pN q) q.trans.length
 have l6:=gl_ 6 (pU q) q.decls.length
 have hcc:=cp30 (G:=G) (l13 q) (by simp [l13]) (by simp [l13];omega)
 refine plA_ (Runs.of fun Φ h=>?_)
 unfold clA_
 unfold allC o14 at h
 generalize hF:(l13 q).flatten=F at*
 unfold l13 at hcc
 clear hF
 generalize g_ 1 (pC1 q) q.states.length=x1 at*
 generalize g_ 2 (pC2 q) q.states.length=x2 at*
 generalize g_ 3 (pC3 q) q.frees.length=x3 at*
 generalize g_ 4 (pC4 q) q.frees.length=x4 at*
 generalize g_ 5 (pN q) q.trans.length=x5 at*
 generalize g_ 6 (pU q) q.decls.length=x6 at*
 generalize toL q.trans q.states.length q.start=L at*
 simp only[List.map_cons,List.map_nil,o14] at hcc
 simp only[qeaV,d_,q_,f_,s_,s10,n_,t_,o14] at h0 h1 g1 g2 g3 g4 g5 g6
 repeat' (first | (simp -implicitDefEqProofs only[go_sem,qeaV,d_,q_,f_,s_,s10,n_,t_]) | refine ag_ (fun hb=>?_) (fun hb=>?_) | refine⟨fun hb=>?_,fun hb=>?_⟩ | refine ac_ (h0) rfl rfl ?_ | refine ac_ (h1) rfl rfl ?_ | fail)
 refine ac10 g1 rfl (FitL.refl _) rfl ?_
 repeat' (first | (simp -implicitDefEqProofs only[go_sem,qeaV,d_,q_,f_,s_,s10,n_,t_]) | refine ag_ (fun hb=>?_) (fun hb=>?_) | refine⟨fun hb=>?_,fun hb=>?_⟩ | fail)
 refine ac10 g2 rfl (FitL.refl _) rfl ?_
 repeat' (first | (simp -implicitDefEqProofs only[go_sem,qeaV,d_,q_,f_,s_,s10,n_,t_]) | refine ag_ (fun hb=>?_) (fun hb=>?_) | refine⟨fun hb=>?_,fun hb=>?_⟩ | fail)
 refine ac10 g3 rfl (FitL.refl _) rfl ?_
 repeat' (first | (simp -implicitDefEqProofs only[go_sem,qeaV,d_,q_,f_,s_,s10,n_,t_]) | refine ag_ (fun hb=>?_) (fun hb=>?_) | refine⟨fun hb=>?_,fun hb=>?_⟩ | fail)
 refine ac10 g4 rfl (FitL.refl _) rfl ?_
 repeat' (first | (simp -implicitDefEqProofs only[go_sem,qeaV,d_,q_,f_,s_,s10,n_,t_]) | refine ag_ (fun hb=>?_) (fun hb=>?_) | refine⟨fun hb=>?_,fun hb=>?_⟩ | fail)
 refine ac10 g5 rfl (FitL.refl _) rfl ?_
 repeat' (first | (simp -implicitDefEqProofs only[go_sem,qeaV,d_,q_,f_,s_,s10,n_,t_]) | refine ag_ (fun hb=>?_) (fun hb=>?_) | refine⟨fun hb=>?_,fun hb=>?_⟩ | fail)
 refine ac10 g6 rfl (FitL.refl _) rfl ?_
 repeat' (first | (simp -implicitDefEqProofs only[go_sem,qeaV,d_,q_,f_,s_,s10,n_,t_]) | refine ag_ (fun hb=>?_) (fun hb=>?_) | refine⟨fun hb=>?_,fun hb=>?_⟩ | fail)
 refine ac10 hcc rfl (FitL.refl _) rfl ?_
 repeat' (first | (simp -implicitDefEqProofs only[go_sem,qeaV,d_,q_,f_,s_,s10,n_,t_]) | refine ag_ (fun hb=>?_) (fun hb=>?_) | refine⟨fun hb=>?_,fun hb=>?_⟩ | fail)
 exact h _ ⟨_,_,rfl,rfl,.refl _⟩
def k12 (q:QeaT) (s:Nat):Int:=k18 (s16 q.states (toM q.trans q.states.length (s:Int))) (d14 q.states (toM q.trans q.states.length (s:Int)))
def m11 (q:QeaT) (i:Nat):Bool:=((toM q.trans q.states.length q.start)[i]?).getD false
def pR1 (q:QeaT) (i:Nat):Bool:=!m11 q i
def pR2 (q:QeaT) (i:Nat):Bool:=m11 q i&&k12 q i==2
def pR3 (q:QeaT) (i:Nat):Bool:=!r15 q i
def pR4 (q:QeaT) (i:Nat):Bool:=!c12 q i
def allR (q:QeaT):List OddT:=((((([]++g_ 1 (pR1 q) q.states.length)++g_ 2 (pR2 q) q.states.length)++g_ 3 (pR3 q) q.frees.length)++g_ 4 (pR4 q) q.frees.length)++g_ 5 (pN q) q.trans.length)++g_ 6 (pU q) q.decls.length
theorem rAp_ {q:QeaT} (hq:q.LintQ):P_ Tryz.prog G np26 [qeaV q] (o14 (allR q)):=by
 have hsz:=fs11 hq.few
 have hti:=hq.trans_in
 obtain⟨sj,hsj⟩:=Int.eq_ofNat_of_zero_le hq.start_in.1
 have h1:=rT10 (G:=G) q sj (by have:=hq.start_in;omega) hti (by omega) (by omega)
 rw[←hsj] at h1
 have hml:=tl13 q.trans q.states.length q.start
 have hmk:∀(i:Nat) b,(toM q.trans q.states.length q.start)[i]? =some b→m11 q i=b:=fun i b h=>by unfold m11;rw[h];rfl
 refine pp26 (Runs.of fun Φ h=>?_)
 unfold cp26
 unfold allR o14 at h
 generalize toM q.trans q.states.length q.start=M at*
 simp only[qeaV,d_,q_,f_,s_,s10,n_,t_,m10] at h1
 have h1':P_ Tryz.prog G np14 [.agg [.str q.name,.seq 2 (q.decls.map d12),.seq 3 (q.quants.map q11),.seq 5 (q.frees.map f11),.seq 3 (q.states.map s19),iv q.start,.seq 2 (q.symbols.map symV),.seq 7 (q.nodes.map n11),.seq 5 (q.trans.map t11)],iv q.start] (.seq 1 (M.map AV.bool)):=h1
 clear h1
 generalize hB:([]:List OddT)=B at*
 have hBl:B.length≤0:=by rw[←hB];simp
 have hB0:B.map oddV=[]:=by rw[←hB];rfl
 have hB1:B.length=0:=by omega
 repeat' (first | (simp -implicitDefEqProofs only[go_sem,qeaV,d_,q_,f_,s_,s10,n_,t_]) | refine ag_ (fun hb=>?_) (fun hb=>?_) | refine⟨fun hb=>?_,fun hb=>?_⟩ | refine ac_ (h1') rfl rfl ?_ | fail)
 refine al_ (fun n st=>∃(i:Nat) (m:List OddT),i+n=q.states.length∧m=B++g_ 1 (pR1 q) i∧st=⟨118,[(1,.ref 1 0 0),(3,.arr 3 0 m.length),(4,.seq 1 (M.map AV.bool)),(5,iv i)],[(1,⟨false,taQ_,9,[qeaV q]⟩),(2,⟨true,tpO_,2,[]⟩),(3,⟨true,tpO_,2,m.map oddV⟩)]⟩) q.states.length ⟨0,B,by simp,by simp [g_],by rw[hB0,hB1];rfl⟩ ?_
 rintro I hI n st ⟨i,m,hi,hm,rfl⟩
 by_cases hlt':i<q.states.length
 ·have hw:=ws_ hlt' (by omega)
  have hlt:((i:Int)<(q.states.length:Int))=True:=by simp;exact hlt'
  have hs:=gs_ 1 (pR1 q) i
  have hgl:=gl_ 1 (pR1 q) i
  have hml2:m.length≤0+i:=by rw[hm,List.length_append];omega
  have hb1:(m.length+1)*16≤140737488355328:=by omega
  have hlk:(m.map oddV).length=m.length:=by simp
  obtain⟨b,hb,_⟩:=as10 (l:=M) (i:=i) (by omega)
  have hp:pR1 q i= !b:=by unfold pR1;rw[hmk i b hb]
  rw[hp] at hs
  cases b
  ·rw[if_pos (by rfl)] at hs
   have hnx:=hI (n - 1) _ ⟨i+1,m++[⟨1,(i:Int)⟩],by omega,by rw[hs,hm,List.append_assoc],rfl⟩
   rw[List.length_append,List.map_append,List.length_cons,List.length_nil,Nat.zero_add,List.map_cons,List.map_nil,oddV] at hnx
   clear hI hs hp
   repeat' (first | (simp -implicitDefEqProofs only[go_sem,qeaV,d_,q_,f_,s_,s10,n_,t_,List.length_map,hlt,decide_true,am_ hb,hw,hlk,hb1]) | refine ag_ (fun hb=>?_) (fun hb=>?_) | refine⟨fun hb=>?_,fun hb=>?_⟩ | fail)
   exact aa_ (n - 1) (by omega) hnx
  ·rw[if_neg (by simp),List.append_nil] at hs
   have hnx:=hI (n - 1) _ ⟨i+1,m,by omega,by rw[hs,hm],rfl⟩
   clear hI hs hp
   repeat' (first | (simp -implicitDefEqProofs only[go_sem,qeaV,d_,q_,f_,s_,s10,n_,t_,List.length_map,hlt,decide_true,am_ hb,hw]) | refine ag_ (fun hb=>?_) (fun hb=>?_) | refine⟨fun hb=>?_,fun hb=>?_⟩ | fail)
   exact aa_ (n - 1) (by omega) hnx
 ·have hlt:((i:Int)<(q.states.length:Int))=False:=by simp;omega
  have hin:i=q.states.length:=by omega
  rw[hin] at hm
  have hgl:=gl_ 1 (pR1 q) q.states.length
  have hml2:m.length≤12:=by rw[hm,List.length_append];omega
  rw[←hm] at h
  clear hI hm hgl hi hin
  repeat' (first | (simp -implicitDefEqProofs only[go_sem,qeaV,d_,q_,f_,s_,s10,n_,t_,List.length_map,hlt,decide_false]) | refine ag_ (fun hb=>?_) (fun hb=>?_) | refine⟨fun hb=>?_,fun hb=>?_⟩ | fail)
  clear hlt hlt' hBl hB hB0 hB1 I
  obtain⟨B2,hBm⟩:∃B2,B2=m:=⟨_,rfl⟩
  rw[←hBm] at h hml2 ⊢
  have hBl:=hml2
  clear hml2 hBm m n i
  obtain⟨B,hBm⟩:∃B,B=B2:=⟨_,rfl⟩
  rw[←hBm] at h hBl ⊢
  clear hBm B2
  refine al_ (fun n st=>∃(i:Nat) (m:List OddT),i+n=q.states.length∧m=B++g_ 2 (pR2 q) i∧st=⟨118,[(1,.ref 1 0 0),(3,.arr 3 0 m.length),(4,.seq 1 (M.map AV.bool)),(6,iv i)],[(1,⟨false,taQ_,9,[qeaV q]⟩),(2,⟨true,tpO_,2,[]⟩),(3,⟨true,tpO_,2,m.map oddV⟩)]⟩) q.states.length ⟨0,B,by simp,by simp [g_],rfl⟩ ?_
  rintro I hI n st ⟨i,m,hi,hm,rfl⟩
  by_cases hlt':i<q.states.length
  ·have hw:=ws_ hlt' (by omega)
   have hlt:((i:Int)<(q.states.length:Int))=True:=by simp;exact hlt'
   have hs:=gs_ 2 (pR2 q) i
   have hgl:=gl_ 2 (pR2 q) i
   have hml2:m.length≤12+i:=by rw[hm,List.length_append];omega
   have hb1:(m.length+1)*16≤140737488355328:=by omega
   have hlk:(m.map oddV).length=m.length:=by simp
   obtain⟨b,hb,_⟩:=as10 (l:=M) (i:=i) (by omega)
   have hp:pR2 q i=(b&&k12 q i==2):=by unfold pR2;rw[hmk i b hb]
   have hc:=rK10 (G:=G) q i hlt' hti (by omega) (by omega)
   rw[show k18 (s16 q.states (toM q.trans q.states.length (i:Int))) (d14 q.states (toM q.trans q.states.length (i:Int)))=k12 q i from rfl] at hc
   simp only[qeaV,d_,q_,f_,s_,s10,n_,t_] at hc
   generalize k12 q i=kk at*
   rw[hp] at hs
   cases b
   ·rw[if_neg (by simp),List.append_nil] at hs
    have hnx:=hI (n - 1) _ ⟨i+1,m,by omega,by rw[hs,hm],rfl⟩
    clear hI hs hp
    repeat' (first | (simp -implicitDefEqProofs only[go_sem,qeaV,d_,q_,f_,s_,s10,n_,t_,List.length_map,hlt,decide_true,am_ hb,hw]) | refine ag_ (fun hb=>?_) (fun hb=>?_) | refine⟨fun hb=>?_,fun hb=>?_⟩ | refine ac_ (hc) rfl rfl ?_ | fail)
    exact aa_ (n - 1) (by omega) hnx
   ·by_cases hk:kk=2
    ·have hke:(kk==2)=true:=by simp [hk]
     rw[hke,if_pos (by rfl)] at hs
     have hnx:=hI (n - 1) _ ⟨i+1,m++[⟨2,(i:Int)⟩],by omega,by rw[hs,hm,List.append_assoc],rfl⟩
     rw[List.length_append,List.map_append,List.length_cons,List.length_nil,Nat.zero_add,List.map_cons,List.map_nil,oddV] at hnx
     clear hI hs hp
     repeat' (first | (simp -implicitDefEqProofs only[go_sem,qeaV,d_,q_,f_,s_,s10,n_,t_,List.length_map,hlt,decide_true,am_ hb,hw,hlk,hb1,hke]) | refine ag_ (fun hb=>?_) (fun hb=>?_) | refine⟨fun hb=>?_,fun hb=>?_⟩ | refine ac_ (hc) rfl rfl ?_ | fail)
     exact aa_ (n - 1) (by omega) hnx
    ·have hke:(kk==2)=false:=by simp [hk]
     rw[hke,if_neg (by simp),List.append_nil] at hs
     have hnx:=hI (n - 1) _ ⟨i+1,m,by omega,by rw[hs,hm],rfl⟩
     clear hI hs hp
     repeat' (first | (simp -implicitDefEqProofs only[go_sem,qeaV,d_,q_,f_,s_,s10,n_,t_,List.length_map,hlt,decide_true,am_ hb,hw,hke]) | refine ag_ (fun hb=>?_) (fun hb=>?_) | refine⟨fun hb=>?_,fun hb=>?_⟩ | refine ac_ (hc) rfl rfl ?_ | fail)
     exact aa_ (n - 1) (by omega) hnx
  ·have hlt:((i:Int)<(q.states.length:Int))=False:=by simp;omega
   have hin:i=q.states.length:=by omega
   rw[hin] at hm
   have hgl:=gl_ 2 (pR2 q) q.states.length
   have hml2:m.length≤24:=by rw[hm,List.length_append];omega
   rw[←hm] at h
   clear hI hm hgl hi hin
   repeat' (first | (simp -implicitDefEqProofs only[go_sem,qeaV,d_,q_,f_,s_,s10,n_,t_,List.length_map,hlt,decide_false]) | refine ag_ (fun hb=>?_) (fun hb=>?_) | refine⟨fun hb=>?_,fun hb=>?_⟩ | fail)
   clear hlt hlt' hBl I
   obtain⟨B2,hBm⟩:∃B2,B2=m:=⟨_,rfl⟩
   rw[←hBm] at h hml2 ⊢
   have hBl:=hml2
   clear hml2 hBm m n i B
   obtain⟨B,hBm⟩:∃B,B=B2:=⟨_,rfl⟩
   rw[←hBm] at h hBl ⊢
   clear hBm B2
   refine al_ (fun n st=>∃(i:Nat) (m:List OddT),i+n=q.frees.length∧m=B++g_ 3 (pR3 q) i∧st=⟨118,[(1,.ref 1 0 0),(3,.arr 3 0 m.length),(7,iv i)],[(1,⟨false,taQ_,9,[qeaV q]⟩),(2,⟨true,tpO_,2,[]⟩),(3,⟨true,tpO_,2,m.map oddV⟩)]⟩) q.frees.length ⟨0,B,by simp,by simp [g_],rfl⟩ ?_
   rintro I hI n st ⟨i,m,hi,hm,rfl⟩
   by_cases hlt':i<q.frees.length
   ·have hw:=ws_ hlt' (by omega)
    have hlt:((i:Int)<(q.frees.length:Int))=True:=by simp;exact hlt'
    have hs:=gs_ 3 (pR3 q) i
    have hgl:=gl_ 3 (pR3 q) i
    have hml2:m.length≤24+i:=by rw[hm,List.length_append];omega
    have hb1:(m.length+1)*16≤140737488355328:=by omega
    have hlk:(m.map oddV).length=m.length:=by simp
    have hc:=rrp_ (G:=G) q (by omega) i
    have hp:pR3 q i= !r15 q i:=rfl
    simp only[qeaV,d_,q_,f_,s_,s10,n_,t_] at hc
    generalize r15 q i=z at*
    rw[hp] at hs
    cases z
    ·rw[if_pos (by rfl)] at hs
     have hnx:=hI (n - 1) _ ⟨i+1,m++[⟨3,(i:Int)⟩],by omega,by rw[hs,hm,List.append_assoc],rfl⟩
     rw[List.length_append,List.map_append,List.length_cons,List.length_nil,Nat.zero_add,List.map_cons,List.map_nil,oddV] at hnx
     clear hI hs hp
     repeat' (first | (simp -implicitDefEqProofs only[go_sem,qeaV,d_,q_,f_,s_,s10,n_,t_,List.length_map,hlt,decide_true,hw,hlk,hb1]) | refine ag_ (fun hb=>?_) (fun hb=>?_) | refine⟨fun hb=>?_,fun hb=>?_⟩ | refine ac_ (hc) rfl rfl ?_ | fail)
     exact aa_ (n - 1) (by omega) hnx
    ·rw[if_neg (by simp),List.append_nil] at hs
     have hnx:=hI (n - 1) _ ⟨i+1,m,by omega,by rw[hs,hm],rfl⟩
     clear hI hs hp
     repeat' (first | (simp -implicitDefEqProofs only[go_sem,qeaV,d_,q_,f_,s_,s10,n_,t_,List.length_map,hlt,decide_true,hw]) | refine ag_ (fun hb=>?_) (fun hb=>?_) | refine⟨fun hb=>?_,fun hb=>?_⟩ | refine ac_ (hc) rfl rfl ?_ | fail)
     exact aa_ (n - 1) (by omega) hnx
   ·have hlt:((i:Int)<(q.frees.length:Int))=False:=by simp;omega
    have hin:i=q.frees.length:=by omega
    rw[hin] at hm
    have hgl:=gl_ 3 (pR3 q) q.frees.length
    have hml2:m.length≤36:=by rw[hm,List.length_append];omega
    rw[←hm] at h
    clear hI hm hgl hi hin
    repeat' (first | (simp -implicitDefEqProofs only[go_sem,qeaV,d_,q_,f_,s_,s10,n_,t_,List.length_map,hlt,decide_false]) | refine ag_ (fun hb=>?_) (fun hb=>?_) | refine⟨fun hb=>?_,fun hb=>?_⟩ | fail)
    clear hlt hlt' hBl I
    obtain⟨B2,hBm⟩:∃B2,B2=m:=⟨_,rfl⟩
    rw[←hBm] at h hml2 ⊢
    have hBl:=hml2
    clear hml2 hBm m n i B
    obtain⟨B,hBm⟩:∃B,B=B2:=⟨_,rfl⟩
    rw[←hBm] at h hBl ⊢
    clear hBm B2
    refine al_ (fun n st=>∃(i:Nat) (m:List OddT),i+n=q.frees.length∧m=B++g_ 4 (pR4 q) i∧st=⟨118,[(1,.ref 1 0 0),(3,.arr 3 0 m.length),(8,iv i)],[(1,⟨false,taQ_,9,[qeaV q]⟩),(2,⟨true,tpO_,2,[]⟩),(3,⟨true,tpO_,2,m.map oddV⟩)]⟩) q.frees.length ⟨0,B,by simp,by simp [g_],rfl⟩ ?_
    rintro I hI n st ⟨i,m,hi,hm,rfl⟩
    by_cases hlt':i<q.frees.length
    ·have hw:=ws_ hlt' (by omega)
     have hlt:((i:Int)<(q.frees.length:Int))=True:=by simp;exact hlt'
     have hs:=gs_ 4 (pR4 q) i
     have hgl:=gl_ 4 (pR4 q) i
     have hml2:m.length≤36+i:=by rw[hm,List.length_append];omega
     have hb1:(m.length+1)*16≤140737488355328:=by omega
     have hlk:(m.map oddV).length=m.length:=by simp
     have hc:=rcp_ (G:=G) q (by omega) hq.syms i
     have hp:pR4 q i= !c12 q i:=rfl
     simp only[qeaV,d_,q_,f_,s_,s10,n_,t_] at hc
     generalize c12 q i=z at*
     rw[hp] at hs
     cases z
     ·rw[if_pos (by rfl)] at hs
      have hnx:=hI (n - 1) _ ⟨i+1,m++[⟨4,(i:Int)⟩],by omega,by rw[hs,hm,List.append_assoc],rfl⟩
      rw[List.length_append,List.map_append,List.length_cons,List.length_nil,Nat.zero_add,List.map_cons,List.map_nil,oddV] at hnx
      clear hI hs hp
      repeat' (first | (simp -implicitDefEqProofs only[go_sem,qeaV,d_,q_,f_,s_,s10,n_,t_,List.length_map,hlt,decide_true,hw,hlk,hb1]) | refine ag_ (fun hb=>?_) (fun hb=>?_) | refine⟨fun hb=>?_,fun hb=>?_⟩ | refine ac_ (hc) rfl rfl ?_ | fail)
      exact aa_ (n - 1) (by omega) hnx
     ·rw[if_neg (by simp),List.append_nil] at hs
      have hnx:=hI (n - 1) _ ⟨i+1,m,by omega,by rw[hs,hm],rfl⟩
      clear hI hs hp
      repeat' (first | (simp -implicitDefEqProofs only[go_sem,qeaV,d_,q_,f_,s_,s10,n_,t_,List.length_map,hlt,decide_true,hw]) | refine ag_ (fun hb=>?_) (fun hb=>?_) | refine⟨fun hb=>?_,fun hb=>?_⟩ | refine ac_ (hc) rfl rfl ?_ | fail)
      exact aa_ (n - 1) (by omega) hnx
    ·have hlt:((i:Int)<(q.frees.length:Int))=False:=by simp;omega
     have hin:i=q.frees.length:=by omega
     rw[hin] at hm
     have hgl:=gl_ 4 (pR4 q) q.frees.length
     have hml2:m.length≤48:=by rw[hm,List.length_append];omega
     rw[←hm] at h
     clear hI hm hgl hi hin
     repeat' (first | (simp -implicitDefEqProofs only[go_sem,qeaV,d_,q_,f_,s_,s10,n_,t_,List.length_map,hlt,decide_false]) | refine ag_ (fun hb=>?_) (fun hb=>?_) | refine⟨fun hb=>?_,fun hb=>?_⟩ | fail)
     clear hlt hlt' hBl I
     obtain⟨B2,hBm⟩:∃B2,B2=m:=⟨_,rfl⟩
     rw[←hBm] at h hml2 ⊢
     have hBl:=hml2
     clear hml2 hBm m n i B
     obtain⟨B,hBm⟩:∃B,B=B2:=⟨_,rfl⟩
     rw[←hBm] at h hBl ⊢
     clear hBm B2
     refine al_ (fun n st=>∃(i:Nat) (m:List OddT),i+n=q.trans.length∧m=B++g_ 5 (pN q) i∧st=⟨118,[(1,.ref 1 0 0),(3,.arr 3 0 m.length),(9,iv i)],[(1,⟨false,taQ_,9,[qeaV q]⟩),(2,⟨true,tpO_,2,[]⟩),(3,⟨true,tpO_,2,m.map oddV⟩)]⟩) q.trans.length ⟨0,B,by simp,by simp [g_],rfl⟩ ?_
     rintro I hI n st ⟨i,m,hi,hm,rfl⟩
     by_cases hlt':i<q.trans.length
     ·have hw:=ws_ hlt' (by omega)
      have hlt:((i:Int)<(q.trans.length:Int))=True:=by simp;exact hlt'
      have hs:=gs_ 5 (pN q) i
      have hgl:=gl_ 5 (pN q) i
      have hml2:m.length≤48+i:=by rw[hm,List.length_append];omega
      have hb1:(m.length+1)*16≤140737488355328:=by omega
      have hlk:(m.map oddV).length=m.length:=by simp
      obtain⟨t,ht,_⟩:=as10 hlt'
      have hc:=rn10 (G:=G) hq i t ht
      have hp:pN q i=n17 q t:=by unfold pN;rw[ht]
      simp only[qeaV,d_,q_,f_,s_,s10,n_,t_] at hc
      generalize n17 q t=z at*
      rw[hp] at hs
      cases z
      ·rw[if_neg (by simp),List.append_nil] at hs
       have hnx:=hI (n - 1) _ ⟨i+1,m,by omega,by rw[hs,hm],rfl⟩
       clear hI hs hp
       repeat' (first | (simp -implicitDefEqProofs only[go_sem,qeaV,d_,q_,f_,s_,s10,n_,t_,List.length_map,hlt,decide_true,hw]) | refine ag_ (fun hb=>?_) (fun hb=>?_) | refine⟨fun hb=>?_,fun hb=>?_⟩ | refine ac_ (hc) rfl rfl ?_ | fail)
       exact aa_ (n - 1) (by omega) hnx
      ·rw[if_pos (by rfl)] at hs
       have hnx:=hI (n - 1) _ ⟨i+1,m++[⟨5,(i:Int)⟩],by omega,by rw[hs,hm,List.append_assoc],rfl⟩
       rw[List.length_append,List.map_append,List.length_cons,List.length_nil,Nat.zero_add,List.map_cons,List.map_nil,oddV] at hnx
       clear hI hs hp
       repeat' (first | (simp -implicitDefEqProofs only[go_sem,qeaV,d_,q_,f_,s_,s10,n_,t_,List.length_map,hlt,decide_true,hw,hlk,hb1]) | refine ag_ (fun hb=>?_) (fun hb=>?_) | refine⟨fun hb=>?_,fun hb=>?_⟩ | refine ac_ (hc) rfl rfl ?_ | fail)
       exact aa_ (n - 1) (by omega) hnx
     ·have hlt:((i:Int)<(q.trans.length:Int))=False:=by simp;omega
      have hin:i=q.trans.length:=by omega
      rw[hin] at hm
      have hgl:=gl_ 5 (pN q) q.trans.length
      have hml2:m.length≤60:=by rw[hm,List.length_append];omega
      rw[←hm] at h
      clear hI hm hgl hi hin
      repeat' (first | (simp -implicitDefEqProofs only[go_sem,qeaV,d_,q_,f_,s_,s10,n_,t_,List.length_map,hlt,decide_false]) | refine ag_ (fun hb=>?_) (fun hb=>?_) | refine⟨fun hb=>?_,fun hb=>?_⟩ | fail)
      clear hlt hlt' hBl I
      obtain⟨B2,hBm⟩:∃B2,B2=m:=⟨_,rfl⟩
      rw[←hBm] at h hml2 ⊢
      have hBl:=hml2
      clear hml2 hBm m n i B
      obtain⟨B,hBm⟩:∃B,B=B2:=⟨_,rfl⟩
      rw[←hBm] at h hBl ⊢
      clear hBm B2
      refine al_ (fun n st=>∃(i:Nat) (m:List OddT),i+n=q.decls.length∧m=B++g_ 6 (pU q) i∧st=⟨118,[(1,.ref 1 0 0),(3,.arr 3 0 m.length),(10,iv i)],[(1,⟨false,taQ_,9,[qeaV q]⟩),(2,⟨true,tpO_,2,[]⟩),(3,⟨true,tpO_,2,m.map oddV⟩)]⟩) q.decls.length ⟨0,B,by simp,by simp [g_],rfl⟩ ?_
      rintro I hI n st ⟨i,m,hi,hm,rfl⟩
      by_cases hlt':i<q.decls.length
      ·have hw:=ws_ hlt' (by omega)
       have hlt:((i:Int)<(q.decls.length:Int))=True:=by simp;exact hlt'
       have hs:=gs_ 6 (pU q) i
       have hgl:=gl_ 6 (pU q) i
       have hml2:m.length≤60+i:=by rw[hm,List.length_append];omega
       have hb1:(m.length+1)*16≤140737488355328:=by omega
       have hlk:(m.map oddV).length=m.length:=by simp
       have hc:=rup_ (G:=G) q (by omega) i
       have hp:pU q i= !u14 q i:=rfl
       simp only[qeaV,d_,q_,f_,s_,s10,n_,t_] at hc
       generalize u14 q i=z at*
       rw[hp] at hs
       cases z
       ·rw[if_pos (by rfl)] at hs
        have hnx:=hI (n - 1) _ ⟨i+1,m++[⟨6,(i:Int)⟩],by omega,by rw[hs,hm,List.append_assoc],rfl⟩
        rw[List.length_append,List.map_append,List.length_cons,List.length_nil,Nat.zero_add,List.map_cons,List.map_nil,oddV] at hnx
        clear hI hs hp
        repeat' (first | (simp -implicitDefEqProofs only[go_sem,qeaV,d_,q_,f_,s_,s10,n_,t_,List.length_map,hlt,decide_true,hw,hlk,hb1]) | refine ag_ (fun hb=>?_) (fun hb=>?_) | refine⟨fun hb=>?_,fun hb=>?_⟩ | refine ac_ (hc) rfl rfl ?_ | fail)
        exact aa_ (n - 1) (by omega) hnx
       ·rw[if_neg (by simp),List.append_nil] at hs
        have hnx:=hI (n - 1) _ ⟨i+1,m,by omega,by rw[hs,hm],rfl⟩
        clear hI hs hp
        repeat' (first | (simp -implicitDefEqProofs only[go_sem,qeaV,d_,q_,f_,s_,s10,n_,t_,List.length_map,hlt,decide_true,hw]) | refine ag_ (fun hb=>?_) (fun hb=>?_) | refine⟨fun hb=>?_,fun hb=>?_⟩ | refine ac_ (hc) rfl rfl ?_ | fail)
        exact aa_ (n - 1) (by omega) hnx
      ·have hlt:((i:Int)<(q.decls.length:Int))=False:=by simp;omega
       have hin:i=q.decls.length:=by omega
       rw[hin] at hm
       have hgl:=gl_ 6 (pU q) q.decls.length
       have hml2:m.length≤72:=by rw[hm,List.length_append];omega
       rw[←hm] at h
       clear hI hm hgl hi hin
       repeat' (first | (simp -implicitDefEqProofs only[go_sem,qeaV,d_,q_,f_,s_,s10,n_,t_,List.length_map,hlt,decide_false]) | refine ag_ (fun hb=>?_) (fun hb=>?_) | refine⟨fun hb=>?_,fun hb=>?_⟩ | fail)
       exact h _ ⟨_,_,rfl,vm_ (e:=oddV) (l:=m) (ty:=tpO_) (by decide) (by simp [hget]) rfl,.refl _⟩
end Go.Proofs.YtjbcfpkibnhodaaGreatDoor.Ab
