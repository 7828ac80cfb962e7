/-
  proctorref39: reads, changes, From, used; proctorref23: To, Kind. No claim is proved here.
-/
import Derived.Test.YtjbcfpkibnhodaaGreatDoorQLi0
namespace Go.Proofs.YtjbcfpkibnhodaaGreatDoor.Ab
open Go Go.RowKit
set_option linter.unusedSimpArgs false
set_option maxHeartbeats 4000000
set_option maxRecDepth 100000
variable {G:Nat→Option AV}
def r15 (q:QeaT) (f:Int):Bool:=q.nodes.any fun x=>x.op==3&&x.a==f
theorem rrp_ (q:QeaT) (hl:q.nodes.length≤1000000) (f:Int):P_ Tryz.prog G npr_ [qeaV q,iv f] (.bool (r15 q f)):=by
 refine ppr_ (Runs.of fun Φ h=>?_)
 unfold cpr_
 generalize hv:r15 q f=v at*
 unfold r15 at hv
 simp -implicitDefEqProofs only[go_sem,qeaV,d_,q_,f_,s_,s10,n_,t_]
 refine al_ (fun n st=>∃i:Nat,i+n=q.nodes.length∧st=⟨30,[(1,iv f),(2,.ref 2 0 0),(5,iv i)],[(2,⟨false,taQ_,9,[qeaV q]⟩)]⟩∧((q.nodes.drop i).any fun x=>x.op==3&&x.a==f)=v) q.nodes.length ⟨0,by simp,rfl,hv⟩ ?_
 rintro I hI n st ⟨i,hi,rfl,hva⟩
 by_cases hlt':i<q.nodes.length
 ·obtain⟨x,hx,_⟩:=as10 hlt'
  have hw:=ws_ hlt' (by omega)
  have hlt:((i:Int)<(q.nodes.length:Int))=True:=by simp;exact hlt'
  rw[da_ hx,List.any_cons] at hva
  obtain⟨x1,x2,x3,⟨x4,x5,x6,x7⟩⟩:=x
  dsimp only at hva
  generalize hz1:(x1==3)=z1 at*
  generalize hz2:(x2==f)=z2 at*
  cases z1 <;> cases z2 <;> simp only[Bool.and_self,Bool.and_false,Bool.and_true,Bool.false_or,Bool.true_or,Bool.false_and] at hva
  ·repeat' (first | (simp -implicitDefEqProofs only[go_sem,qeaV,d_,q_,f_,s_,s10,n_,t_,List.length_map,hlt,decide_true,am_ hx,n11,hz1,hw]) | refine ag_ (fun hb=>?_) (fun hb=>?_) | refine⟨fun hb=>?_,fun hb=>?_⟩ | fail)
   exact aa_ (n - 1) (by omega) (hI _ _ ⟨i+1,by omega,rfl,hva⟩)
  ·repeat' (first | (simp -implicitDefEqProofs only[go_sem,qeaV,d_,q_,f_,s_,s10,n_,t_,List.length_map,hlt,decide_true,am_ hx,n11,hz1,hw]) | refine ag_ (fun hb=>?_) (fun hb=>?_) | refine⟨fun hb=>?_,fun hb=>?_⟩ | fail)
   exact aa_ (n - 1) (by omega) (hI _ _ ⟨i+1,by omega,rfl,hva⟩)
  ·repeat' (first | (simp -implicitDefEqProofs only[go_sem,qeaV,d_,q_,f_,s_,s10,n_,t_,List.length_map,hlt,decide_true,am_ hx,n11,hz1,hz2,hw]) | refine ag_ (fun hb=>?_) (fun hb=>?_) | refine⟨fun hb=>?_,fun hb=>?_⟩ | fail)
   exact aa_ (n - 1) (by omega) (hI _ _ ⟨i+1,by omega,rfl,hva⟩)
  ·subst hva
   repeat' (first | (simp -implicitDefEqProofs only[go_sem,qeaV,d_,q_,f_,s_,s10,n_,t_,List.length_map,hlt,decide_true,am_ hx,n11,hz1,hz2,hw]) | refine ag_ (fun hb=>?_) (fun hb=>?_) | refine⟨fun hb=>?_,fun hb=>?_⟩ | fail)
   exact h _ ⟨_,_,rfl,rfl,.refl _⟩
 ·have hlt:((i:Int)<(q.nodes.length:Int))=False:=by simp;omega
  rw[List.drop_eq_nil_of_le (by omega),List.any_nil] at hva
  subst hva
  repeat' (first | (simp -implicitDefEqProofs only[go_sem,qeaV,d_,q_,f_,s_,s10,n_,t_,List.length_map,hlt,decide_false]) | refine ag_ (fun hb=>?_) (fun hb=>?_) | refine⟨fun hb=>?_,fun hb=>?_⟩ | fail)
  exact h _ ⟨_,_,rfl,rfl,.refl _⟩
def u14 (q:QeaT) (d:Int):Bool:=q.symbols.any fun x=>x.event==d
theorem rup_ (q:QeaT) (hl:q.symbols.length≤1000000) (d:Int):P_ Tryz.prog G npu_ [qeaV q,iv d] (.bool (u14 q d)):=by
 refine ppu_ (Runs.of fun Φ h=>?_)
 unfold cpu_
 generalize hv:u14 q d=v at*
 unfold u14 at hv
 simp -implicitDefEqProofs only[go_sem,qeaV,d_,q_,f_,s_,s10,n_,t_]
 refine al_ (fun n st=>∃i:Nat,i+n=q.symbols.length∧st=⟨21,[(1,iv d),(2,.ref 2 0 0),(5,iv i)],[(2,⟨false,taQ_,9,[qeaV q]⟩)]⟩∧((q.symbols.drop i).any fun x=>x.event==d)=v) q.symbols.length ⟨0,by simp,rfl,hv⟩ ?_
 rintro I hI n st ⟨i,hi,rfl,hva⟩
 by_cases hlt':i<q.symbols.length
 ·obtain⟨x,hx,_⟩:=as10 hlt'
  have hw:=ws_ hlt' (by omega)
  have hlt:((i:Int)<(q.symbols.length:Int))=True:=by simp;exact hlt'
  rw[da_ hx,List.any_cons] at hva
  obtain⟨x1,x2⟩:=x
  dsimp only at hva
  generalize hz1:(x1==d)=z1 at*
  cases z1
  ·rw[Bool.false_or] at hva
   repeat' (first | (simp -implicitDefEqProofs only[go_sem,qeaV,d_,q_,f_,s_,s10,n_,t_,List.length_map,hlt,decide_true,am_ hx,symV,a_,hz1,hw]) | refine ag_ (fun hb=>?_) (fun hb=>?_) | refine⟨fun hb=>?_,fun hb=>?_⟩ | fail)
   exact aa_ (n - 1) (by omega) (hI _ _ ⟨i+1,by omega,rfl,hva⟩)
  ·rw[Bool.true_or] at hva
   subst hva
   repeat' (first | (simp -implicitDefEqProofs only[go_sem,qeaV,d_,q_,f_,s_,s10,n_,t_,List.length_map,hlt,decide_true,am_ hx,symV,a_,hz1,hw]) | refine ag_ (fun hb=>?_) (fun hb=>?_) | refine⟨fun hb=>?_,fun hb=>?_⟩ | fail)
   exact h _ ⟨_,_,rfl,rfl,.refl _⟩
 ·have hlt:((i:Int)<(q.symbols.length:Int))=False:=by simp;omega
  rw[List.drop_eq_nil_of_le (by omega),List.any_nil] at hva
  subst hva
  repeat' (first | (simp -implicitDefEqProofs only[go_sem,qeaV,d_,q_,f_,s_,s10,n_,t_,List.length_map,hlt,decide_false]) | refine ag_ (fun hb=>?_) (fun hb=>?_) | refine⟨fun hb=>?_,fun hb=>?_⟩ | fail)
  exact h _ ⟨_,_,rfl,rfl,.refl _⟩
def s29 (q:QeaT) (f:Int) (t:TransT):Bool:=match at? q.symbols t.symbol with | some s=>s.args.any (fun a=>a.kind==3&&a.n==f) | none=>false
def s25 (f:Int) (t:TransT):Bool:=t.sets.any fun s=>s.free==f
def c12 (q:QeaT) (f:Int):Bool:=q.trans.any fun t=>s29 q f t||s25 f t
theorem rcp_ (q:QeaT) (hl:q.trans.length≤1000000) (hs:∀t∈q.trans,t.sets.length≤1000000∧∃s,at? q.symbols t.symbol=some s∧s.args.length≤1000000) (f:Int):P_ Tryz.prog G npc_ [qeaV q,iv f] (.bool (c12 q f)):=by
 refine ppc_ (Runs.of fun Φ h=>?_)
 unfold cpc_
 generalize hv:c12 q f=v at*
 unfold c12 at hv
 simp -implicitDefEqProofs only[go_sem,qeaV,d_,q_,f_,s_,s10,n_,t_]
 refine al_ (fun n st=>∃i:Nat,i+n=q.trans.length∧st=⟨73,[(1,iv f),(2,.ref 2 0 0),(5,iv i)],[(2,⟨false,taQ_,9,[qeaV q]⟩)]⟩∧((q.trans.drop i).any fun t=>s29 q f t||s25 f t)=v) q.trans.length ⟨0,by simp,rfl,hv⟩ ?_
 rintro I hI n st ⟨i,hi,rfl,hva⟩
 by_cases hlt':i<q.trans.length
 ·obtain⟨t,ht,htm⟩:=as10 hlt'
  have hw:=ws_ hlt' (by omega)
  have hlt:((i:Int)<(q.trans.length:Int))=True:=by simp;exact hlt'
  rw[da_ ht,List.any_cons] at hva
  obtain⟨hsl,s,hsy,hal⟩:=hs t htm
  obtain⟨j,hj,hsj⟩:=at?_some hsy
  have hsh:s29 q f t=s.args.any (fun a=>a.kind==3&&a.n==f):=by unfold s29;rw[hsy]
  have hse:s25 f t=t.sets.any fun s=>s.free==f:=rfl
  obtain⟨tf,ts,tt,tg,tsets⟩:=t
  obtain⟨se,sa⟩:=s
  dsimp only at hj hsl hal hsh hse
  subst hj
  repeat' (first | (simp -implicitDefEqProofs only[go_sem,qeaV,d_,q_,f_,s_,s10,n_,t_,List.length_map,hlt,decide_true,am_ ht,am_ hsj,t11,s14,symV,a_]) | refine ag_ (fun hb=>?_) (fun hb=>?_) | refine⟨fun hb=>?_,fun hb=>?_⟩ | fail)
  refine al_ (fun n' st=>∃k:Nat,k+n'=sa.length∧st=⟨73,[(1,iv f),(2,.ref 2 0 0),(5,iv i),(6,.ref 6 0 0),(7,iv k)],[(2,⟨false,taQ_,9,[qeaV q]⟩),(6,⟨false,taS_,2,[symV ⟨se,sa⟩]⟩)]⟩∧((sa.drop k).any fun a=>a.kind==3&&a.n==f)=s29 q f ⟨tf,(j:Int),tt,tg,tsets⟩) sa.length ⟨0,by simp,rfl,hsh.symm⟩ ?_
  rintro J hJ n' st ⟨k,hk,rfl,hka⟩
  by_cases hlk:k<sa.length
  ·obtain⟨x,hx,_⟩:=as10 hlk
   have hwk:=ws_ hlk (by omega)
   have hltk:((k:Int)<(sa.length:Int))=True:=by simp;exact hlk
   rw[da_ hx,List.any_cons] at hka
   obtain⟨x1,x2,⟨x4,x5,x6,x7⟩⟩:=x
   dsimp only at hka
   generalize hz1:(x1==3)=z1 at*
   generalize hz2:(x2==f)=z2 at*
   cases z1 <;> cases z2 <;> simp only[Bool.and_self,Bool.and_false,Bool.and_true,Bool.false_or,Bool.true_or,Bool.false_and] at hka
   ·repeat' (first | (simp -implicitDefEqProofs only[go_sem,qeaV,d_,q_,f_,s_,s10,n_,t_,List.length_map,hltk,decide_true,am_ hx,symV,a_,argV,hz1,hwk]) | refine ag_ (fun hb=>?_) (fun hb=>?_) | refine⟨fun hb=>?_,fun hb=>?_⟩ | fail)
    exact aa_ (n' - 1) (by omega) (hJ _ _ ⟨k+1,by omega,rfl,hka⟩)
   ·repeat' (first | (simp -implicitDefEqProofs only[go_sem,qeaV,d_,q_,f_,s_,s10,n_,t_,List.length_map,hltk,decide_true,am_ hx,symV,a_,argV,hz1,hwk]) | refine ag_ (fun hb=>?_) (fun hb=>?_) | refine⟨fun hb=>?_,fun hb=>?_⟩ | fail)
    exact aa_ (n' - 1) (by omega) (hJ _ _ ⟨k+1,by omega,rfl,hka⟩)
   ·repeat' (first | (simp -implicitDefEqProofs only[go_sem,qeaV,d_,q_,f_,s_,s10,n_,t_,List.length_map,hltk,decide_true,am_ hx,symV,a_,argV,hz1,hz2,hwk]) | refine ag_ (fun hb=>?_) (fun hb=>?_) | refine⟨fun hb=>?_,fun hb=>?_⟩ | fail)
    exact aa_ (n' - 1) (by omega) (hJ _ _ ⟨k+1,by omega,rfl,hka⟩)
   ·rw[←hka,Bool.true_or,Bool.true_or] at hva
    subst hva
    repeat' (first | (simp -implicitDefEqProofs only[go_sem,qeaV,d_,q_,f_,s_,s10,n_,t_,List.length_map,hltk,decide_true,am_ hx,symV,a_,argV,hz1,hz2,hwk]) | refine ag_ (fun hb=>?_) (fun hb=>?_) | refine⟨fun hb=>?_,fun hb=>?_⟩ | fail)
    exact h _ ⟨_,_,rfl,rfl,.refl _⟩
  ·have hltk:((k:Int)<(sa.length:Int))=False:=by simp;omega
   rw[List.drop_eq_nil_of_le (by omega),List.any_nil] at hka
   rw[←hka,Bool.false_or] at hva
   clear hJ hka hsh
   repeat' (first | (simp -implicitDefEqProofs only[go_sem,qeaV,d_,q_,f_,s_,s10,n_,t_,List.length_map,hltk,decide_false,symV,a_]) | refine ag_ (fun hb=>?_) (fun hb=>?_) | refine⟨fun hb=>?_,fun hb=>?_⟩ | fail)
   refine al_ (fun n' st=>∃k:Nat,k+n'=tsets.length∧st=⟨73,[(1,iv f),(2,.ref 2 0 0),(5,iv i),(8,iv k)],[(2,⟨false,taQ_,9,[qeaV q]⟩),(6,⟨false,taS_,2,[symV ⟨se,sa⟩]⟩)]⟩∧((tsets.drop k).any fun s=>s.free==f)=s25 f ⟨tf,(j:Int),tt,tg,tsets⟩) tsets.length ⟨0,by simp,rfl,hse.symm⟩ ?_
   rintro J hJ n' st ⟨k,hk,rfl,hka⟩
   by_cases hlk:k<tsets.length
   ·obtain⟨x,hx,_⟩:=as10 hlk
    have hwk:=ws_ hlk (by omega)
    have hltk:((k:Int)<(tsets.length:Int))=True:=by simp;exact hlk
    rw[da_ hx,List.any_cons] at hka
    obtain⟨x1,x2⟩:=x
    dsimp only at hka
    generalize hz1:(x1==f)=z1 at*
    cases z1
    ·rw[Bool.false_or] at hka
     repeat' (first | (simp -implicitDefEqProofs only[go_sem,qeaV,d_,q_,f_,s_,s10,n_,t_,List.length_map,hltk,decide_true,am_ ht,am_ hx,t11,s14,setV,hz1,hwk]) | refine ag_ (fun hb=>?_) (fun hb=>?_) | refine⟨fun hb=>?_,fun hb=>?_⟩ | fail)
     exact aa_ (n' - 1) (by omega) (hJ _ _ ⟨k+1,by omega,rfl,hka⟩)
    ·rw[Bool.true_or] at hka
     rw[←hka,Bool.true_or] at hva
     subst hva
     repeat' (first | (simp -implicitDefEqProofs only[go_sem,qeaV,d_,q_,f_,s_,s10,n_,t_,List.length_map,hltk,decide_true,am_ ht,am_ hx,t11,s14,setV,hz1,hwk]) | refine ag_ (fun hb=>?_) (fun hb=>?_) | refine⟨fun hb=>?_,fun hb=>?_⟩ | fail)
     exact h _ ⟨_,_,rfl,rfl,.refl _⟩
   ·have hltk:((k:Int)<(tsets.length:Int))=False:=by simp;omega
    rw[List.drop_eq_nil_of_le (by omega),List.any_nil] at hka
    rw[←hka,Bool.false_or] at hva
    clear hJ hka
    repeat' (first | (simp -implicitDefEqProofs only[go_sem,qeaV,d_,q_,f_,s_,s10,n_,t_,List.length_map,hltk,decide_false,am_ ht,t11,s14,hw]) | refine ag_ (fun hb=>?_) (fun hb=>?_) | refine⟨fun hb=>?_,fun hb=>?_⟩ | fail)
    exact aa_ (n - 1) (by omega) (hI _ _ ⟨i+1,by omega,rfl,hva⟩)
 ·have hlt:((i:Int)<(q.trans.length:Int))=False:=by simp;omega
  rw[List.drop_eq_nil_of_le (by omega),List.any_nil] at hva
  subst hva
  repeat' (first | (simp -implicitDefEqProofs only[go_sem,qeaV,d_,q_,f_,s_,s10,n_,t_,List.length_map,hlt,decide_false]) | refine ag_ (fun hb=>?_) (fun hb=>?_) | refine⟨fun hb=>?_,fun hb=>?_⟩ | fail)
  exact h _ ⟨_,_,rfl,rfl,.refl _⟩
theorem rFp_ (q:QeaT) (hl:q.trans.length≤1000000) (hr:∀t∈q.trans,t.guard<1000000∧t.sets.length≤1000000∧∀s∈t.sets,-1000000<s.expr∧s.expr<1000000) (hg:∀t∈q.trans,-1000000<t.guard) (j:Nat) (hj:j≤q.trans.length):P_ Tryz.prog G npF_ [qeaV q,iv j] (iv (f21 q.trans j)):=by
 refine ppF_ (Runs.of fun Φ h=>?_)
 unfold cpF_
 simp -implicitDefEqProofs only[go_sem,qeaV,d_,q_,f_,s_,s10,n_,t_]
 refine al_ (fun n st=>∃i:Nat,i+n=j∧st=⟨49,[(1,iv j),(2,.ref 2 0 0),(5,iv (f21 q.trans i)),(6,iv i)],[(2,⟨false,taQ_,9,[qeaV q]⟩)]⟩) j ⟨0,by simp,rfl⟩ ?_
 rintro I hI n st ⟨i,hi,rfl⟩
 by_cases hlt':i<j
 ·obtain⟨t,ht,htm⟩:=as10 (l:=q.trans) (i:=i) (by omega)
  have hw:=ws_ hlt' (by omega)
  have hlt:((i:Int)<(j:Int))=True:=by simp;exact hlt'
  have hf:=fs17 ht
  obtain⟨hr1,hr2,hr3⟩:=hr t htm
  have hg1:=hg t htm
  have hnx:a12 I n ⟨49,[(1,iv j),(2,.ref 2 0 0),(5,iv (f21 q.trans (i+1))),(6,iv (i+1:Nat))],[(2,⟨false,taQ_,9,[qeaV q]⟩)]⟩:=aa_ (n - 1) (by omega) (hI _ _ ⟨i+1,by omega,rfl⟩)
  rw[hf] at hnx
  clear hI hf
  unfold f12 at hnx
  generalize f21 q.trans i=a at*
  obtain⟨tf,ts,tt,tg,tsets⟩:=t
  dsimp only at hr1 hr2 hr3 hg1 hnx
  have hwg:IntKind.i64.wrap (tg+1)=tg+1:=wrap_i64 (by omega) (by omega)
  cases hls:tsets.getLast? with
  | none=>
   have hnil:tsets=[]:=List.getLast?_eq_none_iff.1 hls
   subst hnil
   rw[hls] at hnx
   dsimp only at hnx
   have e0:((0:Int)<((0:Nat):Int))=False:=by simp
   by_cases h0:0≤tg
   ·have e1:((0:Int)≤tg)=True:=by simp;exact h0
    rw[if_pos h0] at hnx
    repeat' (first | (simp -implicitDefEqProofs only[go_sem,qeaV,d_,q_,f_,s_,s10,n_,t_,List.length_map,hlt,decide_true,am_ ht,t11,s14,e1,hwg,e0,decide_false,hw]) | refine ag_ (fun hb=>?_) (fun hb=>?_) | refine⟨fun hb=>?_,fun hb=>?_⟩ | fail)
    exact hnx
   ·have e1:((0:Int)≤tg)=False:=by simp;omega
    rw[if_neg h0] at hnx
    repeat' (first | (simp -implicitDefEqProofs only[go_sem,qeaV,d_,q_,f_,s_,s10,n_,t_,List.length_map,hlt,decide_true,am_ ht,t11,s14,e1,e0,decide_false,hw]) | refine ag_ (fun hb=>?_) (fun hb=>?_) | refine⟨fun hb=>?_,fun hb=>?_⟩ | fail)
    exact hnx
  | some s=>
   rw[hls] at hnx
   dsimp only at hnx
   have hsm:=List.mem_of_getLast? hls
   obtain⟨s1,s2⟩:=hr3 s hsm
   have hpos:0<tsets.length:=List.length_pos_of_mem hsm
   have hat:tsets[tsets.length - 1]? =some s:=by rw[←hls,List.getLast?_eq_getElem?]
   have hws:IntKind.i64.wrap (s.expr+1)=s.expr+1:=wrap_i64 (by omega) (by omega)
   have hwl:IntKind.i64.wrap ((tsets.length:Int) - 1)=((tsets.length - 1:Nat):Int):=by rw[wrap_i64 (by omega) (by omega)];omega
   have e0:((0:Int)<(tsets.length:Int))=True:=by simp;omega
   have hai:=am_ (e:=setV) (sz:=2) (H:=[(2,(⟨false,taQ_,9,[qeaV q]⟩:Box))]) hat
   obtain⟨sf,se⟩:=s
   dsimp only at hws hnx
   by_cases h0:0≤tg
   ·have e1:((0:Int)≤tg)=True:=by simp;exact h0
    repeat' (first | (simp -implicitDefEqProofs only[go_sem,qeaV,d_,q_,f_,s_,s10,n_,t_,List.length_map,hlt,decide_true,am_ ht,t11,s14,e1,hwg,e0,hwl,am_ hat,setV,hws,hw]) | refine ag_ (fun hb=>?_) (fun hb=>?_) | refine⟨fun hb=>?_,fun hb=>?_⟩ | fail)
    exact hnx
   ·have e1:((0:Int)≤tg)=False:=by simp;omega
    repeat' (first | (simp -implicitDefEqProofs only[go_sem,qeaV,d_,q_,f_,s_,s10,n_,t_,List.length_map,hlt,decide_true,am_ ht,t11,s14,e1,decide_false,e0,hwl,am_ hat,setV,hws,hw]) | refine ag_ (fun hb=>?_) (fun hb=>?_) | refine⟨fun hb=>?_,fun hb=>?_⟩ | fail)
    exact hnx
 ·have hlt:((i:Int)<(j:Int))=False:=by simp;omega
  have hij:i=j:=by omega
  subst hij
  clear hI
  repeat' (first | (simp -implicitDefEqProofs only[go_sem,qeaV,d_,q_,f_,s_,s10,n_,t_,List.length_map,hlt,decide_false]) | refine ag_ (fun hb=>?_) (fun hb=>?_) | refine⟨fun hb=>?_,fun hb=>?_⟩ | fail)
  exact h _ ⟨_,_,rfl,rfl,.refl _⟩
end Go.Proofs.YtjbcfpkibnhodaaGreatDoor.Ab
