/-
  core.trans, from the inside: one, and all. core.trans. core, proctorref13: arguments, symbols. No claim is proved here.
-/
import Derived.Test.YtjbcfpkibnhodaaGreatDoorQD11
namespace Go.Proofs.YtjbcfpkibnhodaaGreatDoor.Ab
open Go
set_option linter.unusedSimpArgs false
set_option maxHeartbeats 4000000
variable {G:Nat→Option AV}
theorem caaNp_ (f:Nat) (caps:List AV) (hf:b_ Tryz.prog f=true) (hcap:OkC caps) (p:Nat→NodeT→Bool) (l:List NodeT) (hp:∀(i:Nat) x,l[i]? =some x→P_ Tryz.prog G f (iv i::n11 x::caps) (.bool (p i x))) (hl:l.length<9223372036854775807):
  P_ Tryz.prog G ncaaN_ [.seq 7 (l.map n11),.fn f caps] (.bool (allI p l)):=by
 refine pcaaN_ (Runs.of fun Φ h=>?_)
 unfold ccaaN_
 simp -implicitDefEqProofs only[go_sem,List.length_map]
 refine al_ (fun n st=>∃i:Nat,i+n=l.length∧st=⟨20,[(1,.fn f caps),(7,.seq 7 (l.map n11)),(8,iv l.length),(9,iv i)],[]⟩∧∀j x,j<i→l[j]? =some x→p j x=true) l.length ⟨0,by simp,rfl,fun j x hj=>by omega⟩ ?_
 rintro I hI n st ⟨i,hi,rfl,hno⟩
 simp -implicitDefEqProofs only[go_sem]
 refine⟨fun hlt=>?_,fun hge=>?_⟩
 ·have hlt':i<l.length:=by omega
  obtain⟨x,hx,hm⟩:=as10 hlt'
  have hw:=ws_ hlt' (by omega)
  simp -implicitDefEqProofs only[go_sem,am_ hx,hcap.purge,n11]
  refine⟨hf,ac_ (hp i x hx) (by simp [v10,flat,viewBs,viewB,viewK,viewK.go,hcap.viewBs,n11]) rfl ?_⟩
  cases hpx:p i x
  ·simp -implicitDefEqProofs only[go_sem,hcap.purge]
   exact h _ ⟨_,_,rfl,rfl,fitB (af_ hx hpx).symm⟩
  ·simp -implicitDefEqProofs only[go_sem,hw,hcap.purge]
   exact aa_ (n - 1) (by omega) (hI _ _ ⟨i+1,by omega,rfl,fun j y hj hy=>by
    by_cases e:j=i
    ·subst e;rw[hx] at hy;cases hy;exact hpx
    ·exact hno j y (by omega) hy⟩)
 ·have:i=l.length:=by omega
  subst this
  exact h _ ⟨_,_,rfl,rfl,fitB (at10.2 fun i x hx=>hno i x (List.getElem?_eq_some_iff.1 hx).1 hx).symm⟩
theorem am10 {α:Type} {e:α→AV} {sz:Nat} {l:List α} {a b:Int} (hs:0<sz) (h0:0≤a) (h1:a≤b) (h2:b≤l.length):aslc sz (.seq sz (l.map e)) (some (.int .i64 a)) (some (.int .i64 b))=some (.seq sz (((l.drop a.toNat).take (b.toNat - a.toNat)).map e)):=by
 simp [aslc,hs,h0,h1,h2,List.map_take,List.map_drop]
def mid {α:Type} (l:List α) (a b:Int):List α:=(l.drop a.toNat).take (b.toNat - a.toNat)
def inR (n:Int) (k:Nat):Bool:=decide (0≤n)&&decide (n<k)
def o12 (q:QeaT) (l:List ExT) (st:SymT→Int→Bool) (t:TransT) (from_ at_:Int):Bool×Int:=
 let r:=allS (s12 q l t.sets) t.sets 0 at_
 (r.1&&(match at? q.symbols t.symbol with | some s=>(mid q.nodes from_ r.2).all fun x=>!(x.op==2)||st s x.a | none=>false),r.2)
def o_ (q:QeaT) (l:List ExT) (st:SymT→Int→Bool) (at_:Int) (t:TransT):Bool×Int:=
 if (inR t.from_ q.states.length&&(inR t.to_ q.states.length&&inR t.symbol q.symbols.length))=false then (false,at_)
 else if t.guard= -1 then o12 q l st t at_ at_
 else if w_ l at_ t.guard 3=true then o12 q l st t at_ (t.guard+1) else (false,at_)
theorem wl_ {l:List ExT} {a r k:Int} (h:w_ l a r k=true):a≤r+1∧r+1≤l.length:=by
 unfold w_ at h
 split at h
 ·cases h
 ·rename_i e he
  obtain⟨j,rfl,hj⟩:=at?_some he
  have:=(List.getElem?_eq_some_iff.1 hj).1
  simp at h
  omega
theorem sl10 {q:QeaT} {l:List ExT} {sets:List SetT} {a:Int} {i:Nat} {s:SetT} (ha:a≤l.length):a≤(s12 q l sets a i s).2∧(s12 q l sets a i s).2≤l.length:=by
 unfold s12
 repeat' split
 all_goals first | exact⟨Int.le_refl _,ha⟩ | exact wl_ ‹_›
theorem al11 {q:QeaT} {l:List ExT} {sets:List SetT}:∀{r:List SetT} {i:Nat} {a:Int},a≤l.length→a≤(allS (s12 q l sets) r i a).2∧(allS (s12 q l sets) r i a).2≤l.length
 | [],_,a,h=>⟨Int.le_refl _,h⟩
 | x::r,i,a,h=>by
  have h1:=sl10 (q:=q) (sets:=sets) (i:=i) (s:=x) h
  rw[allS]
  split
  ·have:=al11 (q:=q) (sets:=sets) (r:=r) (i:=i+1) h1.2
   omega
  ·exact h1
theorem ol11 {q:QeaT} {l:List ExT} {st:SymT→Int→Bool} {a:Int} {t:TransT} (ha:0≤a) (hl:a≤l.length):0≤(o_ q l st a t).2∧(o_ q l st a t).2≤l.length:=by
 unfold o_ o12
 split
 ·exact⟨ha,hl⟩
 ·split
  ·have:=al11 (q:=q) (sets:=t.sets) (r:=t.sets) (i:=0) hl
   dsimp only
   omega
  ·split
   ·rename_i hw
    have h1:=wl_ hw
    have:=al11 (q:=q) (sets:=t.sets) (r:=t.sets) (i:=0) h1.2
    dsimp only
    omega
   ·exact⟨ha,hl⟩
theorem oq11 (q:QeaT) (t:TransT):OkC [.eptr (qeaV q) 0,.eptr (t11 t) 0]:=⟨fun _ =>rfl,fun _ _ =>rfl,fun _ =>rfl,fun _ _ =>rfl,fun _ =>rfl,fun _ =>rfl⟩
theorem ct2h_ (q:QeaT) (l:List ExT) (hl:l.length≤1000000) (hn:l.length=q.nodes.length) (hs:∀s∈q.symbols,s.args.length<9223372036854775807) (t:TransT) (ht:t.sets.length<9223372036854775807) (at_:Int) (ha:0≤at_) (hal:at_≤l.length) (i:Int):
  H_ Tryz.prog G nct2_ [iv i,t11 t,.ref 1004 0 0,.ref 1001 0 0,.ref 1005 0 0] [a11 at_,e11 l,w11,qBox q]
   (.bool (o_ q l s11 at_ t).1) [a11 (o_ q l s11 at_ t).2,e11 l,w11,qBox q]:=by
 refine H_.of_runs Tryz.func198 kct2_ rfl (by rfl) (R10.of fun Φ h=>?_)
 unfold cct2_
 have fin:∀b A heap,o_ q l s11 at_ t=(b,A)→subH heap [a11 A,e11 l,w11,qBox q]→Φ ⟨74,[(7,.bool b)],heap⟩:=fun b A heap hw e=>h _ ⟨_,_,Weak.refl _,rfl,fitB (by rw[hw]),by rw[hw];exact e.at⟩
 clear h
 have hset:=fun (a:Int) (h:0≤a)=>caaSh_ (G:=G) q l hl t ht a h
 have hwh:=ct1h_ (G:=G) l hl at_ t.guard 3 ha
 simp only[a11,e11] at hwh
 by_cases hc:(inR t.from_ q.states.length&&(inR t.to_ q.states.length&&inR t.symbol q.symbols.length))=false
 ·have hr:o_ q l s11 at_ t=(false,at_):=by rw[o_,if_pos hc]
  have fin':Φ ⟨74,[(7,.bool false)],_⟩:=fin _ _ ((6,⟨false,taT_,5,[t11 t]⟩)::[a11 at_,e11 l,w11,qBox q]) hr ⟨rfl,rfl,rfl,rfl,trivial⟩
  obtain⟨t1,t2,t3,t4,sets⟩:=t
  dsimp only at*
  simp only[inR,Bool.and_eq_false_imp,decide_eq_true_eq,decide_eq_false_iff_not,Bool.and_eq_true] at hc
  repeat' (first | (simp -implicitDefEqProofs only[go_sem,a11,e11,w11,qBox,t11,s14,qeaV,d_,q_,f_,s_,s10,n_,t_,List.length_map]) | refine ag_ (fun hb=>?_) (fun hb=>?_) | refine⟨fun hb=>?_,fun hb=>?_⟩ | (refine⟨by kernel_rfl,ac11 [(1004,1004),(1003,1003)] hwh rfl ⟨⟨_,_,rfl,rfl,rfl⟩,⟨_,_,rfl,rfl,rfl⟩,trivial⟩ rfl rfl rfl ?_⟩) | fail)
  all_goals first | exact fin' | (exfalso;simp at*;omega)
 ·have hin:inR t.from_ q.states.length=true∧inR t.to_ q.states.length=true∧inR t.symbol q.symbols.length=true:=by
   rw[Bool.not_eq_false] at hc
   simpa only[Bool.and_eq_true] using hc
  obtain⟨hi1,hi2,hi3⟩:=hin
  obtain⟨s,hsy⟩:∃s,at? q.symbols t.symbol=some s:=by
   cases h:at? q.symbols t.symbol with
   | some s=>exact⟨s,rfl⟩
   | none=>
    exfalso
    have:=at?_none h
    simp [inR] at hi3
    omega
  have hsl:s.args.length<9223372036854775807:=by
   obtain⟨j,_,hj⟩:=at?_some hsy
   exact hs s (List.mem_of_getElem? hj)
  simp only[inR,Bool.and_eq_true,decide_eq_true_eq] at hi1 hi2 hi3
  have key:∀a1:Int,0≤a1→at_≤a1→a1≤l.length→o_ q l s11 at_ t=o12 q l s11 t at_ a1→∀b A,allS (s12 q l t.sets) t.sets 0 a1=(b,A)→
    at_≤A∧A≤q.nodes.length∧(b=false→o_ q l s11 at_ t=(false,A))∧(b=true→o_ q l s11 at_ t=(allI (fun _ (x:NodeT)=>!(x.op==2)||s11 s x.a) (mid q.nodes at_ A),A)):=by
   intro a1 h1 h2 h3 he b A hb
   have:=al11 (q:=q) (sets:=t.sets) (r:=t.sets) (i:=0) h3
   rw[hb] at this
   rw[he,o12,hb,hsy,ac18]
   dsimp only at*
   refine⟨by omega,by omega,?_,?_⟩
   ·rintro rfl;rfl
   ·rintro rfl;rfl
  have hall:=fun A:Int=>caaNp_ (G:=G) nct22_ [.eptr (qeaV q) 0,.eptr (t11 t) 0] (by kernel_rfl) (oq11 q t) (fun _ x=>!(x.op==2)||s11 s x.a) (mid q.nodes at_ A) (fun i x _ =>ct22p_ q t s hsy hsl i x) (by simp [mid];omega)
  by_cases hg:t.guard= -1
  ·have he:o_ q l s11 at_ t=o12 q l s11 t at_ at_:=by rw[o_,if_neg hc,if_pos hg]
   have key:=key at_ ha (Int.le_refl _) hal he
   have hset:=hset at_ ha
   generalize allS (s12 q l t.sets) t.sets 0 at_=r at*
   obtain⟨b,A⟩:=r
   obtain⟨k1,k2,k3,k4⟩:=key b A rfl
   have hall:=hall A
   have hmid:=am10 (e:=n11) (sz:=7) (l:=q.nodes) (a:=at_) (b:=A) (by omega) ha k1 k2
   obtain⟨t1,t2,t3,t4,sets⟩:=t
   dsimp only at*
   subst hg
   simp only[a11,e11,w11,qBox,tBox,t11,s14,qeaV,d_,q_,f_,s_,s10,n_,t_] at hset hall
   repeat' (first | (simp -implicitDefEqProofs only[go_sem,a11,e11,w11,qBox,t11,s14,qeaV,d_,q_,f_,s_,s10,n_,t_,List.length_map,hmid]) | refine ag_ (fun hb=>?_) (fun hb=>?_) | refine⟨fun hb=>?_,fun hb=>?_⟩ | (refine ac11 [(1004,1004),(1003,1003),(1005,1005),(1001,1001),(1006,6)] hset rfl ⟨⟨_,_,rfl,rfl,rfl⟩,⟨_,_,rfl,rfl,rfl⟩,⟨_,_,rfl,rfl,rfl⟩,⟨_,_,rfl,rfl,rfl⟩,⟨_,_,rfl,rfl,rfl⟩,trivial⟩ rfl rfl rfl ?_) | refine ac_ (hall) rfl rfl ?_ | fail)
   all_goals first | exact fin _ _ _ (k4 (by simpa using hb)) ⟨rfl,rfl,rfl,rfl,trivial⟩ | exact fin _ _ _ (k3 (by simpa using hb)) ⟨rfl,rfl,rfl,rfl,trivial⟩ | (exfalso;simp at*;omega)
  ·cases hw:w_ l at_ t.guard 3 with
   | false=>
    have he:o_ q l s11 at_ t=(false,at_):=by rw[o_,if_neg hc,if_neg hg,hw];rfl
    have fin':∀heap,subH heap [a11 at_,e11 l,w11,qBox q]→Φ ⟨74,[(7,.bool false)],heap⟩:=fun heap=>fin _ _ _ he
    rw[hw] at hwh
    clear hset hall key fin
    obtain⟨t1,t2,t3,t4,sets⟩:=t
    dsimp only at*
    repeat' (first | (simp -implicitDefEqProofs only[go_sem,a11,e11,w11,qBox,t11,s14,qeaV,d_,q_,f_,s_,s10,n_,t_,List.length_map]) | refine ag_ (fun hb=>?_) (fun hb=>?_) | refine⟨fun hb=>?_,fun hb=>?_⟩ | (refine⟨by kernel_rfl,ac11 [(1004,1004),(1003,1003)] hwh rfl ⟨⟨_,_,rfl,rfl,rfl⟩,⟨_,_,rfl,rfl,rfl⟩,trivial⟩ rfl rfl rfl ?_⟩) | fail)
    all_goals first | exact fin' _ ⟨rfl,rfl,rfl,rfl,trivial⟩ | (exfalso;simp at*;omega)
   | true=>
    have hwl:=wl_ hw
    have hwp:=wp_ ha hw
    have he:o_ q l s11 at_ t=o12 q l s11 t at_ (t.guard+1):=by rw[o_,if_neg hc,if_neg hg,if_pos hw]
    have key:=key (t.guard+1) hwp hwl.1 hwl.2 he
    have hset:=hset (t.guard+1) hwp
    rw[hw] at hwh
    generalize allS (s12 q l t.sets) t.sets 0 (t.guard+1)=r at*
    obtain⟨b,A⟩:=r
    obtain⟨k1,k2,k3,k4⟩:=key b A rfl
    have hall:=hall A
    have hmid:=am10 (e:=n11) (sz:=7) (l:=q.nodes) (a:=at_) (b:=A) (by omega) ha k1 k2
    obtain⟨t1,t2,t3,t4,sets⟩:=t
    dsimp only at*
    simp only[a11,e11,w11,qBox,tBox,t11,s14,qeaV,d_,q_,f_,s_,s10,n_,t_] at hset hall
    repeat' (first | (simp -implicitDefEqProofs only[go_sem,a11,e11,w11,qBox,t11,s14,qeaV,d_,q_,f_,s_,s10,n_,t_,List.length_map,hmid]) | refine ag_ (fun hb=>?_) (fun hb=>?_) | refine⟨fun hb=>?_,fun hb=>?_⟩ | (refine⟨by kernel_rfl,ac11 [(1004,1004),(1003,1003)] hwh rfl ⟨⟨_,_,rfl,rfl,rfl⟩,⟨_,_,rfl,rfl,rfl⟩,trivial⟩ rfl rfl rfl ?_⟩) | (refine ac11 [(1004,1004),(1003,1003),(1005,1005),(1001,1001),(1006,6)] hset rfl ⟨⟨_,_,rfl,rfl,rfl⟩,⟨_,_,rfl,rfl,rfl⟩,⟨_,_,rfl,rfl,rfl⟩,⟨_,_,rfl,rfl,rfl⟩,⟨_,_,rfl,rfl,rfl⟩,trivial⟩ rfl rfl rfl ?_) | refine ac_ (hall) rfl rfl ?_ | fail)
    all_goals first | exact fin _ _ _ (k4 (by simpa using hb)) ⟨rfl,rfl,rfl,rfl,trivial⟩ | exact fin _ _ _ (k3 (by simpa using hb)) ⟨rfl,rfl,rfl,rfl,trivial⟩ | (exfalso;simp at*;omega)
end Go.Proofs.YtjbcfpkibnhodaaGreatDoor.Ab
namespace Go.Proofs.YtjbcfpkibnhodaaGreatDoor.Ab
open Go
set_option linter.unusedSimpArgs false
set_option maxHeartbeats 4000000
variable {G:Nat→Option AV}
structure QeaT.Few (q:QeaT):Prop where
 decls:q.decls.length≤1000000
 types:∀d∈q.decls,d.types.length≤1000000
 quants:q.quants.length≤1000000
 frees:q.frees.length≤1000000
 states:q.states.length≤1000000
 symbols:q.symbols.length≤1000000
 args:∀s∈q.symbols,s.args.length≤1000000
 nodes:q.nodes.length≤1000000
 trans:q.trans.length≤1000000
 sets:∀t∈q.trans,t.sets.length≤1000000
theorem caaTh_ (q:QeaT) (l:List ExT) (hq:q.Few) (hn:l.length=q.nodes.length):
  H_ Tryz.prog G ncaaT_ [t_ q.trans,.fn nct2_ [.ref 1004 0 0,.ref 1001 0 0,.ref 1005 0 0]] [a11 0,e11 l,w11,qBox q]
   (.bool (allS (fun a _ t=>o_ q l s11 a t) q.trans 0 0).1) [a11 (allS (fun a _ t=>o_ q l s11 a t) q.trans 0 0).2,e11 l,w11,qBox q]:=by
 have htl:=hq.trans
 refine H_.of_runs Tryz.func205 kcaaT_ rfl (by rfl) (R10.of fun Φ h=>?_)
 unfold ccaaT_
 have fin:∀b A heap,allS (fun a _ t=>o_ q l s11 a t) q.trans 0 0=(b,A)→subH heap [a11 A,e11 l,w11,qBox q]→Φ ⟨20,[(4,.bool b)],heap⟩:=fun b A heap hw e=>h _ ⟨_,_,Weak.refl _,rfl,fitB (by rw[hw]),by rw[hw];exact e.at⟩
 clear h
 simp -implicitDefEqProofs only[go_sem,List.length_map,a11,e11,w11,qBox,qeaV,d_,q_,f_,s_,s10,n_,t_]
 refine al_ (fun n st=>∃(i:Nat) (a:Int),i+n=q.trans.length∧st=⟨20,[(1,.fn nct2_ [.ref 1004 0 0,.ref 1001 0 0,.ref 1005 0 0]),(7,t_ q.trans),(8,iv q.trans.length),(9,iv i)],[a11 a,e11 l,w11,qBox q]⟩∧0≤a∧a≤l.length∧allS (fun a _ t=>o_ q l s11 a t) q.trans 0 0=allS (fun a _ t=>o_ q l s11 a t) (q.trans.drop i) i a) q.trans.length ⟨0,0,by simp,rfl,by omega,by omega,rfl⟩ ?_
 rintro I hI n st ⟨i,a,hi,rfl,hpos,hle,he⟩
 simp -implicitDefEqProofs only[go_sem,List.length_map,a11,e11,w11,qBox,qeaV,d_,q_,f_,s_,s10,n_,t_]
 refine⟨fun hlt=>?_,fun hge=>?_⟩
 ·have hlt':i<q.trans.length:=by omega
  obtain⟨x,hx,hm⟩:=as10 hlt'
  have hw:=ws_ hlt' (by omega)
  have hc:=ct2h_ (G:=G) q l (by have:=hq.nodes;omega) hn (fun s hs=>by have:=hq.args s hs;omega) x (by have:=hq.sets x hm;omega) a hpos hle i
  have hsp:=ol11 (q:=q) (st:=s11) (t:=x) hpos hle
  rw[as15 hx] at he
  simp only[a11,e11,w11,qBox,t11,s14,qeaV,d_,q_,f_,s_,s10,n_,t_] at hc
  try dsimp only at he
  generalize hb:o_ q l s11 a x=b at*
  obtain⟨b,A⟩:=b
  dsimp only at*
  have fin1:b=true→a12 I n ⟨20,[(1,.fn nct2_ [.ref 1004 0 0,.ref 1001 0 0,.ref 1005 0 0]),(7,t_ q.trans),(8,iv q.trans.length),(9,iv (i+1:Nat))],[a11 A,e11 l,w11,qBox q]⟩:=fun hb=>by
   rw[if_pos hb] at he
   exact aa_ (n - 1) (by omega) (hI _ _ ⟨i+1,A,by omega,rfl,hsp.1,hsp.2,he⟩)
  have fin0:∀heap,b=false→subH heap [a11 A,e11 l,w11,qBox q]→Φ ⟨20,[(4,.bool false)],heap⟩:=fun heap hb hs=>by
   rw[if_neg (by simp [hb])] at he
   exact fin _ _ _ he hs
  repeat' (first | (simp -implicitDefEqProofs only[go_sem,am_ hx,t11,s14,hw]) | refine ag_ (fun hb=>?_) (fun hb=>?_) | refine⟨fun hb=>?_,fun hb=>?_⟩ | (refine⟨by kernel_rfl,ac11 [(1004,1004),(1003,1003),(1005,1005),(1001,1001)] hc rfl ⟨⟨_,_,rfl,rfl,rfl⟩,⟨_,_,rfl,rfl,rfl⟩,⟨_,_,rfl,rfl,rfl⟩,⟨_,_,rfl,rfl,rfl⟩,trivial⟩ rfl rfl rfl ?_⟩) | fail)
  all_goals first | exact fin0 _ (by simpa using hb) ⟨rfl,rfl,rfl,rfl,trivial⟩ | exact fin1 (by simpa using hb)
 ·rw[ae_ (by omega)] at he
  exact fin _ _ _ he ⟨rfl,rfl,rfl,rfl,trivial⟩
def t24 (q:QeaT) (l:List ExT) (st:SymT→Int→Bool):Bool:=
 let r:=allS (fun a _ t=>o_ q l st a t) q.trans 0 0
 r.1&&r.2==(l.length:Int)
theorem ctp_ (q:QeaT) (hq:q.Few):P_ Tryz.prog G nct_ [qeaV q] (.bool (t24 q (e10 q) s11)):=by
 have hln:(e10 q).length=q.nodes.length:=el_ q _ (by omega)
 have hex:=cep_ (G:=G) q hq.nodes
 have hall:=caaTh_ (G:=G) q (e10 q) hq hln
 unfold t24
 generalize allS (fun a _ t=>o_ q (e10 q) s11 a t) q.trans 0 0=r at*
 obtain⟨b,A⟩:=r
 refine pct_ (Runs.of fun Φ h=>?_)
 unfold cct_
 dsimp only at*
 simp only[a11,e11,w11,qBox,qeaV,d_,q_,f_,s_,s10,n_,t_] at hall hex
 repeat' (first | (simp -implicitDefEqProofs only[go_sem,qeaV,d_,q_,f_,s_,s10,n_,t_,List.length_map]) | refine ag_ (fun hb=>?_) (fun hb=>?_) | refine⟨fun hb=>?_,fun hb=>?_⟩ | refine ac_ (hex) rfl rfl ?_ | (refine ac11 [(1004,4),(1003,3),(1005,5),(1001,1)] hall rfl ⟨⟨_,_,rfl,rfl,rfl⟩,⟨_,_,rfl,rfl,rfl⟩,⟨_,_,rfl,rfl,rfl⟩,⟨_,_,rfl,rfl,rfl⟩,trivial⟩ rfl rfl rfl ?_) | fail)
 all_goals (refine h _ ⟨_,_,rfl,rfl,fitB ?_⟩;clear h;simp_all)
end Go.Proofs.YtjbcfpkibnhodaaGreatDoor.Ab
namespace Go.Proofs.YtjbcfpkibnhodaaGreatDoor.Ab
open Go
set_option linter.unusedSimpArgs false
set_option maxHeartbeats 4000000
variable {G:Nat→Option AV}
def argS (q:QeaT) (a:ArgT) (kind:Int):Bool:=
 if a.kind=1 then a.n==0&&(a.value.ok&&a.value.kind==kind)
 else if a.kind=2 then (match at? q.quants a.n with | none=>false | some y=>y.type==kind&&decide (a.value=v0))
 else if a.kind=3 then (match at? q.frees a.n with | none=>false | some y=>y.init.kind==kind&&decide (a.value=v0))
 else a.kind==4&&(a.n==0&&decide (a.value=v0))
theorem cap_ (q:QeaT) (a:ArgT) (kind:Int):P_ Tryz.prog G nca_ [qeaV q,argV a,iv kind] (.bool (argS q a kind)):=by
 obtain⟨ak,n,⟨vk,vn,vs,vb⟩⟩:=a
 refine pca_ (Runs.of fun Φ h=>?_)
 unfold cca_
 have hok:=vRp_ (G:=G) ⟨vk,vn,vs,vb⟩
 simp only[valV] at hok
 have hz:=vz_ ⟨vk,vn,vs,vb⟩
 dsimp only at hz
 generalize hv:argS q ⟨ak,n,⟨vk,vn,vs,vb⟩⟩ kind=v at*
 by_cases h1:ak=1
 ·subst h1
  simp only[argS,if_pos] at hv
  repeat' (first | (simp -implicitDefEqProofs only[go_sem,argV,qeaV,d_,q_,f_,s_,s10,n_,t_,List.length_map]) | refine ag_ (fun hb=>?_) (fun hb=>?_) | refine⟨fun hb=>?_,fun hb=>?_⟩ | refine ac_ (hok) rfl rfl ?_ | fail)
  all_goals
   refine h _ ⟨_,_,rfl,rfl,fitB ?_⟩
   rw[←hv]
   clear h hok hv
   simp_all
 by_cases h2:ak=2
 ·subst h2
  simp only[argS,if_pos,show ¬(2:Int)=1 by omega,if_false] at hv
  cases hq:at? q.quants n with
  | none=>
   rw[hq] at hv
   have ha:=at?_none hq
   repeat' (first | (simp -implicitDefEqProofs only[go_sem,argV,qeaV,d_,q_,f_,s_,s10,n_,t_,List.length_map]) | refine ag_ (fun hb=>?_) (fun hb=>?_) | refine⟨fun hb=>?_,fun hb=>?_⟩ | fail)
   all_goals first | (exfalso;simp at*;omega) | skip
   all_goals
    refine h _ ⟨_,_,rfl,rfl,fitB ?_⟩
    exact hv
  | some y=>
   obtain⟨j,rfl,hy⟩:=at?_some hq
   have hj:=(List.getElem?_eq_some_iff.1 hy).1
   rw[hq] at hv
   repeat' (first | (simp -implicitDefEqProofs only[go_sem,argV,qeaV,d_,q_,f_,s_,s10,n_,t_,List.length_map,am_ hy,q11]) | refine ag_ (fun hb=>?_) (fun hb=>?_) | refine⟨fun hb=>?_,fun hb=>?_⟩ | fail)
   all_goals first | (exfalso;simp at*;omega) | skip
   all_goals
    refine h _ ⟨_,_,rfl,rfl,fitB ?_⟩
    refine Eq.trans ?_ hv
    clear h hok hv hq hy
    simp only[hz] at*
    all_goals (try clear hz);(try generalize decide ((⟨vk,vn,vs,vb⟩:Val)=v0)=Z at*);simp_all
 by_cases h3:ak=3
 ·subst h3
  simp only[argS,if_pos,show ¬(3:Int)=1 by omega,show ¬(3:Int)=2 by omega,if_false] at hv
  cases hq:at? q.frees n with
  | none=>
   rw[hq] at hv
   have ha:=at?_none hq
   repeat' (first | (simp -implicitDefEqProofs only[go_sem,argV,qeaV,d_,q_,f_,s_,s10,n_,t_,List.length_map]) | refine ag_ (fun hb=>?_) (fun hb=>?_) | refine⟨fun hb=>?_,fun hb=>?_⟩ | fail)
   all_goals first | (exfalso;simp at*;omega) | skip
   all_goals
    refine h _ ⟨_,_,rfl,rfl,fitB ?_⟩
    exact hv
  | some y=>
   obtain⟨j,rfl,hy⟩:=at?_some hq
   have hj:=(List.getElem?_eq_some_iff.1 hy).1
   rw[hq] at hv
   repeat' (first | (simp -implicitDefEqProofs only[go_sem,argV,qeaV,d_,q_,f_,s_,s10,n_,t_,List.length_map,am_ hy,f11]) | refine ag_ (fun hb=>?_) (fun hb=>?_) | refine⟨fun hb=>?_,fun hb=>?_⟩ | fail)
   all_goals first | (exfalso;simp at*;omega) | skip
   all_goals
    refine h _ ⟨_,_,rfl,rfl,fitB ?_⟩
    refine Eq.trans ?_ hv
    clear h hok hv hq hy
    simp only[hz] at*
    all_goals (try clear hz);(try generalize decide ((⟨vk,vn,vs,vb⟩:Val)=v0)=Z at*);simp_all
 ·simp only[argS,if_neg h1,if_neg h2,if_neg h3] at hv
  repeat' (first | (simp -implicitDefEqProofs only[go_sem,argV,qeaV,d_,q_,f_,s_,s10,n_,t_,List.length_map]) | refine ag_ (fun hb=>?_) (fun hb=>?_) | refine⟨fun hb=>?_,fun hb=>?_⟩ | fail)
  all_goals first | (exfalso;simp at*;omega) | skip
  all_goals
   refine h _ ⟨_,_,rfl,rfl,fitB ?_⟩
   refine Eq.trans ?_ hv
   clear h hok hv
   simp only[hz] at*
   all_goals (try clear hz);(try generalize decide ((⟨vk,vn,vs,vb⟩:Val)=v0)=Z at*);simp_all
theorem pap_ (q:QeaT) (a:ArgT) (kind:Int):P_ Tryz.prog G np27 [qeaV q,argV a,iv kind] (.bool (argS q a kind)):=by
 obtain⟨ak,n,⟨vk,vn,vs,vb⟩⟩:=a
 refine pp27 (Runs.of fun Φ h=>?_)
 unfold cp27
 have hok:=rRp_ (G:=G) ⟨vk,vn,vs,vb⟩
 simp only[valV] at hok
 have hz:=vz_ ⟨vk,vn,vs,vb⟩
 dsimp only at hz
 generalize hv:argS q ⟨ak,n,⟨vk,vn,vs,vb⟩⟩ kind=v at*
 by_cases h1:ak=1
 ·subst h1
  simp only[argS,if_pos] at hv
  repeat' (first | (simp -implicitDefEqProofs only[go_sem,argV,qeaV,d_,q_,f_,s_,s10,n_,t_,List.length_map]) | refine ag_ (fun hb=>?_) (fun hb=>?_) | refine⟨fun hb=>?_,fun hb=>?_⟩ | refine ac_ (hok) rfl rfl ?_ | fail)
  all_goals
   refine h _ ⟨_,_,rfl,rfl,fitB ?_⟩
   rw[←hv]
   clear h hok hv
   simp_all
 by_cases h2:ak=2
 ·subst h2
  simp only[argS,if_pos,show ¬(2:Int)=1 by omega,if_false] at hv
  cases hq:at? q.quants n with
  | none=>
   rw[hq] at hv
   have ha:=at?_none hq
   repeat' (first | (simp -implicitDefEqProofs only[go_sem,argV,qeaV,d_,q_,f_,s_,s10,n_,t_,List.length_map]) | refine ag_ (fun hb=>?_) (fun hb=>?_) | refine⟨fun hb=>?_,fun hb=>?_⟩ | fail)
   all_goals first | (exfalso;simp at*;omega) | skip
   all_goals
    refine h _ ⟨_,_,rfl,rfl,fitB ?_⟩
    exact hv
  | some y=>
   obtain⟨j,rfl,hy⟩:=at?_some hq
   have hj:=(List.getElem?_eq_some_iff.1 hy).1
   rw[hq] at hv
   repeat' (first | (simp -implicitDefEqProofs only[go_sem,argV,qeaV,d_,q_,f_,s_,s10,n_,t_,List.length_map,am_ hy,q11]) | refine ag_ (fun hb=>?_) (fun hb=>?_) | refine⟨fun hb=>?_,fun hb=>?_⟩ | fail)
   all_goals first | (exfalso;simp at*;omega) | skip
   all_goals
    refine h _ ⟨_,_,rfl,rfl,fitB ?_⟩
    refine Eq.trans ?_ hv
    clear h hok hv hq hy
    simp only[hz] at*
    all_goals (try clear hz);(try generalize decide ((⟨vk,vn,vs,vb⟩:Val)=v0)=Z at*);simp_all
 by_cases h3:ak=3
 ·subst h3
  simp only[argS,if_pos,show ¬(3:Int)=1 by omega,show ¬(3:Int)=2 by omega,if_false] at hv
  cases hq:at? q.frees n with
  | none=>
   rw[hq] at hv
   have ha:=at?_none hq
   repeat' (first | (simp -implicitDefEqProofs only[go_sem,argV,qeaV,d_,q_,f_,s_,s10,n_,t_,List.length_map]) | refine ag_ (fun hb=>?_) (fun hb=>?_) | refine⟨fun hb=>?_,fun hb=>?_⟩ | fail)
   all_goals first | (exfalso;simp at*;omega) | skip
   all_goals
    refine h _ ⟨_,_,rfl,rfl,fitB ?_⟩
    exact hv
  | some y=>
   obtain⟨j,rfl,hy⟩:=at?_some hq
   have hj:=(List.getElem?_eq_some_iff.1 hy).1
   rw[hq] at hv
   repeat' (first | (simp -implicitDefEqProofs only[go_sem,argV,qeaV,d_,q_,f_,s_,s10,n_,t_,List.length_map,am_ hy,f11]) | refine ag_ (fun hb=>?_) (fun hb=>?_) | refine⟨fun hb=>?_,fun hb=>?_⟩ | fail)
   all_goals first | (exfalso;simp at*;omega) | skip
   all_goals
    refine h _ ⟨_,_,rfl,rfl,fitB ?_⟩
    refine Eq.trans ?_ hv
    clear h hok hv hq hy
    simp only[hz] at*
    all_goals (try clear hz);(try generalize decide ((⟨vk,vn,vs,vb⟩:Val)=v0)=Z at*);simp_all
 ·simp only[argS,if_neg h1,if_neg h2,if_neg h3] at hv
  repeat' (first | (simp -implicitDefEqProofs only[go_sem,argV,qeaV,d_,q_,f_,s_,s10,n_,t_,List.length_map]) | refine ag_ (fun hb=>?_) (fun hb=>?_) | refine⟨fun hb=>?_,fun hb=>?_⟩ | fail)
  all_goals first | (exfalso;simp at*;omega) | skip
  all_goals
   refine h _ ⟨_,_,rfl,rfl,fitB ?_⟩
   refine Eq.trans ?_ hv
   clear h hok hv
   simp only[hz] at*
   all_goals (try clear hz);(try generalize decide ((⟨vk,vn,vs,vb⟩:Val)=v0)=Z at*);simp_all
theorem cs17 (q:QeaT) (a:ArgT) (kind:Int):P_ Tryz.prog G ncs1_ [argV a,iv kind,.eptr (qeaV q) 0] (.bool (argS q a kind)):=by
 refine pc10 (Runs.of fun Φ h=>?_)
 unfold cc11
 have hc:=cap_ (G:=G) q a kind
 simp only[argV,qeaV,d_,q_,f_,s_,s10,n_,t_] at hc
 repeat' (first | (simp -implicitDefEqProofs only[go_sem,argV,qeaV,d_,q_,f_,s_,s10,n_,t_]) | refine ag_ (fun hb=>?_) (fun hb=>?_) | refine⟨fun hb=>?_,fun hb=>?_⟩ | refine ac_ (hc) rfl rfl ?_ | fail)
 all_goals (refine h _ ⟨_,_,rfl,rfl,fe_ ?_⟩;clear h;first | rfl | simp_all)
theorem oq_ (q:QeaT):OkC [.eptr (qeaV q) 0]:=⟨fun _ =>rfl,fun _ _ =>rfl,fun _ =>rfl,fun _ _ =>rfl,fun _ =>rfl,fun _ =>rfl⟩
def zipB {α β:Type} (p:α→β→Bool):List α→List β→Bool
 | [],[]=>true
 | x::r,y::s=>p x y&&zipB p r s
 | _,_ =>false
theorem zl_ {α β:Type} {p:α→β→Bool}:∀{l:List α} {k:List β},¬l.length=k.length→zipB p l k=false
 | [],[],h=>absurd rfl h
 | [],_ ::_,_ =>rfl
 | _ ::_,[],_ =>rfl
 | x::r,y::s,h=>by
  rw[zipB,zl_ (by simpa using h),Bool.and_false]
theorem zs10 {α β:Type} {p:α→β→Bool} {l:List α} {k:List β} {i:Nat} {x:α} {y:β} (hx:l[i]? =some x) (hy:k[i]? =some y):zipB p (l.drop i) (k.drop i)=(p x y&&zipB p (l.drop (i+1)) (k.drop (i+1))):=by
 obtain⟨h1,rfl⟩:=List.getElem?_eq_some_iff.1 hx
 obtain⟨h2,rfl⟩:=List.getElem?_eq_some_iff.1 hy
 rw[List.drop_eq_getElem_cons h1,List.drop_eq_getElem_cons h2,zipB]
theorem ze_ {α β:Type} {p:α→β→Bool} {l:List α} {k:List β} {i:Nat} (h1:l.length≤i) (h2:k.length≤i):zipB p (l.drop i) (k.drop i)=true:=by
 rw[List.drop_of_length_le h1,List.drop_of_length_le h2,zipB]
theorem sEp_ (q:QeaT) (l:List ArgT) (k:List Int) (hl:l.length<9223372036854775807):P_ Tryz.prog G nsEaAiaAi_ [a_ l,i13 k,.fn ncs1_ [.eptr (qeaV q) 0]] (.bool (zipB (argS q) l k)):=by
 refine psEaAiaAi_ (Runs.of fun Φ h=>?_)
 unfold csEaAiaAi_
 by_cases hlk:l.length=k.length
 ·generalize hv:zipB (argS q) l k=v at*
  repeat' (first | (simp -implicitDefEqProofs only[go_sem,a_,i13,List.length_map]) | refine ag_ (fun hb=>?_) (fun hb=>?_) | refine⟨fun hb=>?_,fun hb=>?_⟩ | fail)
  ·exfalso;simp at*;omega
  refine al_ (fun n st=>∃i:Nat,i+n=l.length∧st=⟨32,[(1,i13 k),(2,.fn ncs1_ [.eptr (qeaV q) 0]),(15,a_ l),(16,iv l.length),(17,iv i)],[]⟩∧zipB (argS q) (l.drop i) (k.drop i)=v) l.length ⟨0,by simp,rfl,hv⟩ ?_
  rintro I hI n st ⟨i,hi,rfl,hno⟩
  simp -implicitDefEqProofs only[go_sem]
  refine⟨fun hlt=>?_,fun hge=>?_⟩
  ·have hlt':i<l.length:=by omega
   obtain⟨x,hx,hm⟩:=as10 hlt'
   obtain⟨y,hy,hm'⟩:=as10 (l:=k) (i:=i) (by omega)
   have hw:=ws_ hlt' (by omega)
   have hc:=cs17 (G:=G) q x y
   rw[zs10 hx hy] at hno
   simp only[argV] at hc
   repeat' (first | (simp -implicitDefEqProofs only[go_sem,am_ hx,am_ hy,argV,a_,i13,hw]) | refine ag_ (fun hb=>?_) (fun hb=>?_) | refine⟨fun hb=>?_,fun hb=>?_⟩ | (refine⟨by kernel_rfl,ac_ hc rfl rfl ?_⟩) | fail)
   ·rw[show argS q x y=false by simpa using hb,Bool.false_and] at hno
    exact h _ ⟨_,_,rfl,rfl,fitB hno⟩
   ·rw[show argS q x y=true by simpa using hb,Bool.true_and] at hno
    exact aa_ (n - 1) (by omega) (hI _ _ ⟨i+1,by omega,rfl,hno⟩)
  ·rw[ze_ (by omega) (by omega)] at hno
   exact h _ ⟨_,_,rfl,rfl,fitB hno⟩
 ·have hv:=zl_ (p:=argS q) hlk
  repeat' (first | (simp -implicitDefEqProofs only[go_sem,a_,i13,List.length_map]) | refine ag_ (fun hb=>?_) (fun hb=>?_) | refine⟨fun hb=>?_,fun hb=>?_⟩ | fail)
  all_goals first | exact h _ ⟨_,_,rfl,rfl,fitB hv.symm⟩ | (exfalso;simp at*;omega)
def symS (q:QeaT) (s:SymT):Bool:=
 match at? q.decls s.event with
 | none=>false
 | some d=>zipB (argS q) s.args d.types
theorem cs20 (q:QeaT) (s:SymT) (hs:s.args.length<9223372036854775807):P_ Tryz.prog G nc13 [qeaV q,symV s] (.bool (symS q s)):=by
 obtain⟨ev,args⟩:=s
 refine pc12 (Runs.of fun Φ h=>?_)
 unfold cc13
 generalize hv:symS q ⟨ev,args⟩=v at*
 simp only[symS] at hv
 cases hd:at? q.decls ev with
 | none=>
  rw[hd] at hv
  have hn:=at?_none hd
  repeat' (first | (simp -implicitDefEqProofs only[go_sem,symV,qeaV,d_,q_,f_,s_,s10,n_,t_,List.length_map]) | refine ag_ (fun hb=>?_) (fun hb=>?_) | refine⟨fun hb=>?_,fun hb=>?_⟩ | fail)
  all_goals first | exact h _ ⟨_,_,rfl,rfl,fitB hv⟩ | (exfalso;first | omega | (simp at*;done) | (simp at*;omega))
 | some d=>
  obtain⟨j,rfl,hj⟩:=at?_some hd
  have hlt:=(List.getElem?_eq_some_iff.1 hj).1
  rw[hd] at hv
  dsimp only at hv hs
  have hc:=sEp_ (G:=G) q args d.types hs
  simp only[a_,i13,qeaV,d_,q_,f_,s_,s10,n_,t_] at hc
  repeat' (first | (simp -implicitDefEqProofs only[go_sem,symV,qeaV,d_,q_,f_,s_,s10,n_,t_,List.length_map,am_ hj,d12,a_,i13]) | refine ag_ (fun hb=>?_) (fun hb=>?_) | refine⟨fun hb=>?_,fun hb=>?_⟩ | refine ac_ (hc) rfl rfl ?_ | fail)
  all_goals first | exact h _ ⟨_,_,rfl,rfl,fitB hv⟩ | (exfalso;first | omega | (simp at*;done) | (simp at*;omega))
theorem csp_ (a b:SymT) (ha:a.args.length<9223372036854775807) (hb:b.args.length<9223372036854775807):P_ Tryz.prog G ncs_ [symV a,symV b] (.bool (decide (a=b))):=by
 obtain⟨e,l⟩:=a
 obtain⟨f,k⟩:=b
 refine pcs_ (Runs.of fun Φ h=>?_)
 unfold ccs_
 have hc:=sEaAaAp_ (G:=G) l k ha hb
 repeat' (first | (simp -implicitDefEqProofs only[go_sem,symV,a_]) | refine ag_ (fun hb=>?_) (fun hb=>?_) | refine⟨fun hb=>?_,fun hb=>?_⟩ | refine ac_ (hc) rfl rfl ?_ | fail)
 all_goals
  refine h _ ⟨_,_,rfl,rfl,fitB ?_⟩
  simp_all
end Go.Proofs.YtjbcfpkibnhodaaGreatDoor.Ab
