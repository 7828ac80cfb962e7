/-
  A region that draws its order and makes a variable, of which one call panics. eval's panics and errors, walked: must; the deferred function; errors.As, errors.Is. eval's panics: must, and what a node comes to: a value, or a panic. No claim is proved here.
-/
import Derived.Test.YtjbcfpkibnhodaaGreatDoorYAbPan
import Derived.WalkLawsBesides
import Derived.Stop.Asserts
import Derived.RowKitTokens
import Derived.Deep.Cut
set_option linter.unusedSimpArgs false
set_option maxHeartbeats 4000000
set_option maxRecDepth 100000
namespace Go.Proofs.YtjbcfpkibnhodaaGreatDoor.Ab
open Go Go.RowKit
set_option linter.unusedVariables false
set_option linter.unnecessarySimpa false
section
variable {P:Program} {G:Nat→Option AV} {pv:AV} {st:St}
def l22:AOp→List Nat
 | .store p x _ =>l11 p++l11 x
 | _ =>[]
def b14 (aos:List AO) (n k s:Nat):Bool:=
 (List.range aos.length).all fun i=>decide (i≤n)||i==k||match aos[i]? with
  | none=>true
  | some x=>(List.range i).any fun j=>decide (n≤j)&&j != k&&match aos[j]? with
   | none=>false
   | some y=>match y.d with
    | none=>false
    | some t=>(if i=s then l22 x.op else x.looks).contains t
theorem ba11 {aos:List AO} {n k s:Nat} (h:b14 aos n k s=true) {i:Nat} {x:AO} (hx:aos[i]? =some x) (hi:n<i) (hk:i≠k):∃j y t,n≤j∧j<i∧j≠k∧aos[j]? =some y∧y.d=some t∧t∈(if i=s then l22 x.op else x.looks):=by
 have hlt:=(List.getElem?_eq_some_iff.1 hx).1
 have:=List.all_eq_true.1 h i (List.mem_range.2 hlt)
 rw[hx] at this
 simp only[Bool.or_eq_true,decide_eq_true_eq,List.any_eq_true,List.mem_range,Bool.and_eq_true,beq_iff_eq,bne_iff_ne,ne_eq] at this
 rcases this with (h1 | h1) | ⟨j,hj,⟨hn,hjk⟩,hy⟩
 ·omega
 ·exact absurd h1 hk
 ·split at hy
  ·cases hy
  ·rename_i y hyj
   split at hy
   ·cases hy
   ·rename_i t ht
    exact⟨j,y,t,hn,hj,hjk,hyj,ht,List.contains_iff_mem.1 hy⟩
theorem pl14 {ops:Array Oper} {aoq:List AO} (hd:DOk ops aoq) {n i:Nat} {vs:Nat→AV} {st0 st sti:St} {listed:Array Bool} {o:Oper} {x:AO} (ho:ops[i]? =some o) (hin:i≤n) (hui:listed.getD i false=false)
  (hcl:∀(i:Nat) (o:Oper),ops[i]? =some o→listed.getD i false=true→∀e∈o.after,Region.binds .any e=true→listed.getD e.on false=true) (hed:∀e∈o.after,Region.binds .any e=true→listed.getD e.on false=true)
  (hp:Part aoq vs st0 (fun j=>decide (0≤j)&&decide (j<0+n)&&listed.getD j false) st) (hx:aoq[i]? =some x) (hpi:Part aoq vs st0 (fun j=>decide (0≤j)&&decide (j<i)) sti):∀t∈x.looks,eget st.env t=eget sti.env t:=by
 intro t ht
 by_cases hj:∃(j:Nat) (x:AO),aoq[j]? =some x∧x.d=some t∧j<n
 ·obtain⟨j,y,hxj,htj,h2⟩:=hj
  have uniq:∀(j':Nat) (x':AO),aoq[j']? =some x'→x'.d=some t→j'=j:=fun j' x' h1 h2=>hd.dst j' j x' y t h1 hxj h2 htj
  by_cases hlt:j<i
  ·have:=hd.look i j _ y t hx hxj (by omega) htj ht
   rw[if_pos hlt] at this
   obtain⟨o',ho',e,he,hb,hon⟩:=hs_ this
   rw[ho] at ho';cases ho'
   have hj1:=hed e he hb
   rw[hon] at hj1
   rw[hp.got t j y hxj htj (by simp [h2];simpa using hj1),hpi.got t j y hxj htj (by simp [hlt])]
  ·have hS:listed.getD j false=false:=by
    by_cases e:j=i
    ·subst e;exact hui
    ·have:=hd.look i j _ y t hx hxj (fun e'=>e e'.symm) htj ht
     rw[if_neg hlt] at this
     obtain⟨o',ho',e',he,hb,hon⟩:=hs_ this
     cases hlj:listed.getD j false with
     | false=>rfl
     | true=>
      have:=hcl j o' ho' hlj e' he hb
      rw[hon,hui] at this
      cases this
   rw[hp.old t fun j' x' h1 h2=>by rw[uniq j' x' h1 h2,hS];simp,hpi.old t fun j' x' h1 h2=>by rw[uniq j' x' h1 h2];simp;omega]
 ·have no:∀(j:Nat) (x:AO),aoq[j]? =some x→x.d=some t→¬j<n:=fun j x h1 h2 h3=>hj ⟨j,x,h1,h2,h3⟩
  rw[hp.old t fun j x h1 h2=>by have:=no j x h1 h2;simp;intro h;omega,hpi.old t fun j x h1 h2=>by have:=no j x h1 h2;simp;omega]
theorem pa13 {w0:World} {F0:Nat→Prop} {ops:Array Oper} {aos aoq:List AO} {n k s d ty sz:Nat} {z:AV} (hd:DOk ops aoq) (hc:c12 P ops ops.toList aos=true) (hk:aos[k]? =some ⟨some d,.alloc ty sz z,none⟩) (hks:k≠s) (hql:aoq.length=aos.length)
  (other:∀j,j≠k→j≠s→aoq[j]? =aos[j]?) (atk:∀x,aoq[k]? =some x→x.d=none) (ats:∀x,aoq[s]? =some x→x.d=none) (hnk:n<k) (hns:n<s) (hdst:∀j y,aos[j]? =some y→y.d=some d→j=k)
  (hbl:∀i,n<i→i<aos.length→i≠k→∃j,n≤j∧j<i∧j≠k∧h_ ops i j=true)
  {dn:Option Nat} {f:Nat} {xs:List Opd} (hn:aos[n]? =some ⟨dn,.call f xs,none⟩)
  {vsA vsB:Nat→AV} {st0 st1 stn stn1:St} (hnew:e_ G (some d) (.alloc ty sz z) st0=some st1)
  (hsegA:∀i,0≤i→i<0+n→∃x st,aoq[i]? =some x∧q10 x.op=true∧Part aoq vsA st0 (fun j=>decide (0≤j)&&decide (j<i)) st∧yld P G x st (vsA i)∧dOK x st0.N)
  (hpnA:Part aoq vsA st0 (fun j=>decide (0≤j)&&decide (j<0+n)) stn) (hpanA:panO P G f xs pv stn)
  (hsegB:∀i,0≤i→i<0+n→∃x st,aoq[i]? =some x∧q10 x.op=true∧Part aoq vsB st1 (fun j=>decide (0≤j)&&decide (j<i)) st∧yld P G x st (vsB i)∧dOK x st1.N)
  (hpnB:Part aoq vsB st1 (fun j=>decide (0≤j)&&decide (j<0+n)) stn1) (hpanB:panO P G f xs pv stn1)
  (hag:∀j x t,j<n→aoq[j]? =some x→x.d=some t→vsB j=vsA j∧purge d (vsA j)=vsA j):
  ∀(fuel:Nat) (listed:Array Bool) (st:St) (a:Act) (w:World),listed.size=ops.size→listed.toList.count false=fuel→
   (∀(i:Nat) (o:Oper),ops[i]? =some o→listed.getD i false=true→∀e∈o.after,Region.binds .any e=true→listed.getD e.on false=true)→listed.getD n false=false→
   ((listed.getD k false=false∧Part aoq vsA st0 (fun j=>decide (0≤j)&&decide (j<0+n)&&listed.getD j false) st)∨(listed.getD k false=true∧Part aoq vsB st1 (fun j=>decide (0≤j)&&decide (j<0+n)&&listed.getD j false) st))→
   Rel G (pctx w0 F0) st a w→wpAny P .any ops (PanQ w0 pv) fuel listed a w:=by
 obtain⟨hlen,hget⟩:=cg_ hc
 have hlen':ops.size=aos.length:=by simpa using hlen
 have hnlt:=(List.getElem?_eq_some_iff.1 hn).1
 have hklt:=(List.getElem?_eq_some_iff.1 hk).1
 have hnq:aoq[n]? =some ⟨dn,.call f xs,none⟩:=by rw[other n (by omega) (by omega)];exact hn
 have hdN:d<st0.N:=by
  simp only[e_,St.new] at hnew
  split at hnew
  ·assumption
  ·cases hnew
 have e1:st1=⟨st0.N,(d,.ref d 0 0)::p_ d st0.env,(d,⟨false,ty,sz,[z]⟩)::p10 d st0.heap⟩:=by
  simp only[e_,St.new,if_pos hdN,Option.some.injEq] at hnew
  exact hnew.symm
 intro fuel
 induction fuel with
 | zero=>
  intro listed st a w hs hcnt hcl hun hp hr
  exfalso
  have:false∉listed.toList:=List.count_eq_zero.1 hcnt
  have hi':n<listed.size:=by omega
  rw[Array.getD_eq_getD_getElem?,Array.getElem?_eq_getElem hi',Option.getD_some] at hun
  exact this (by rw[←hun];exact Array.getElem_mem_toList hi')
 | succ fuel ih=>
  intro listed st a w hs hcnt hcl hun hp hr
  have same:∀i,i<ops.size→listed.getD i true=listed.getD i false:=fun i hi=>by
   rw[Array.getD_eq_getD_getElem?,Array.getD_eq_getD_getElem?,Array.getElem?_eq_getElem (by omega)];rfl
  refine⟨fun h0=>?_,fun i hi=>?_⟩
  ·exfalso
   have all:∀i,i<ops.size→listed.getD i false=true:=fun i=>by
    induction i using Nat.strongRecOn with
    | _ i ihi=>
     intro hi
     cases e:listed.getD i false with
     | true=>rfl
     | false=>
      have ho:ops[i]? =some ops[i]:=Array.getElem?_eq_getElem hi
      have:i∈Region.ready .any ops listed:=mem_ready.2 ⟨by rw[same i hi];exact e,ops[i],ho,fun e he hb=>by
       have:=hd.low i _ (by omega) ho e he hb
       exact ihi e.on this (by omega)⟩
      rw[h0] at this
      cases this
   rw[all n (by omega)] at hun
   cases hun
  ·obtain⟨hui,o,ho,hed⟩:=mem_ready.1 hi
   have hi':i<ops.size:=(Array.getElem?_eq_some_iff.1 ho).1
   rw[same i hi'] at hui
   have b10:∀i,n<i→i<aos.length→i≠k→(∀o,ops[i]? =some o→∀e∈o.after,Region.binds .any e=true→listed.getD e.on false=true)→listed.getD n false=true:=fun i=>by
    induction i using Nat.strongRecOn with
    | _ i ihi=>
     intro hni hil hik hp
     obtain⟨j,hnj,hji,hjk,hE⟩:=hbl i hni hil hik
     obtain⟨o',ho',e,he,hb,hon⟩:=hs_ hE
     have hlj:=hp o' ho' e he hb
     rw[hon] at hlj
     by_cases e1:j=n
     ·subst e1;exact hlj
     ·exact ihi j hji (by omega) (by omega) hjk fun o ho e he hb=>hcl j o ho hlj e he hb
   have hin:i≤n∨i=k:=by
    rcases Nat.lt_or_ge n i with h | h
    ·by_cases hik:i=k
     ·exact .inr hik
     ·have:=b10 i h (by omega) hik fun o' ho' e he hb=>by rw[ho] at ho';cases ho';exact hed e he hb
      rw[hun] at this;cases this
    ·exact .inl h
   have hlst:∀j,(listed.setIfInBounds i true).getD j false=(listed.getD j false||j==i):=fun j=>by
    by_cases e:j=i
    ·subst e
     have:j<listed.size:=by omega
     simp [this]
    ·rw[getD_set_ne false (fun e'=>e e'.symm)]
     simp [e]
   have hcnt':(listed.setIfInBounds i true).toList.count false=fuel:=by
    have hi2:i<listed.toList.length:=by simp;omega
    have hf:listed.toList[i]=false:=by
     rw[Array.getD_eq_getD_getElem?,Array.getElem?_eq_getElem (show i<listed.size by omega)] at hui
     simpa using hui
    rw[Array.toList_setIfInBounds,List.count_set hi2,hf,hcnt]
    simp
   have hcl':∀(j:Nat) (o:Oper),ops[j]? =some o→(listed.setIfInBounds i true).getD j false=true→∀e∈o.after,Region.binds .any e=true→(listed.setIfInBounds i true).getD e.on false=true:=by
    intro j o' ho' hj e he hb
    rw[hlst] at hj ⊢
    by_cases e':j=i
    ·subst e'
     rw[ho] at ho';cases ho'
     rw[hed e he hb];rfl
    ·have:listed.getD j false=true:=by simpa [e'] using hj
     rw[hcl j o' ho' this e he hb];rfl
   have fin:∀{x:AO} {K1:St→Prop},aos[i]? =some x→opP P G true x st K1→(∀st1 a1 w1,K1 st1→Rel G (pctx w0 F0) st1 a1 w1→wpAny P .any ops (PanQ w0 pv) fuel (listed.setIfInBounds i true) a1 w1)→wpOp P ops (PanQ w0 pv) i (wpAny P .any ops (PanQ w0 pv) fuel (listed.setIfInBounds i true)) a w:=by
    intro x K1 hx hop key
    have hs:=os_ hr (K':=wpAny P .any ops (PanQ w0 pv) fuel (listed.setIfInBounds i true)) (Q:=PanQ w0 pv) (hget i o _ (by rw[←ho];simp) hx) hop key
    unfold wpOp
    rw[ho]
    simp only
    split
    ·rename_i hw;rw[if_pos hw] at hs;exact .inl hs
    ·rename_i hw;rw[if_neg hw] at hs;exact hs
   -- the call that panics
   have hit:∀{vs:Nat→AV} {s0 sn:St},i=n→Part aoq vs s0 (fun j=>decide (0≤j)&&decide (j<0+n)&&listed.getD j false) st→Part aoq vs s0 (fun j=>decide (0≤j)&&decide (j<0+n)) sn→panO P G f xs pv sn→
     wpOp P ops (PanQ w0 pv) i (wpAny P .any ops (PanQ w0 pv) fuel (listed.setIfInBounds i true)) a w:=by
    intro vs s0 sn hie hp hpn hpan
    subst hie
    have hst:panO P G f xs pv st:=by
     obtain⟨vargs,args',hv,hf,hpc⟩:=hpan
     refine⟨vargs,args',?_,hf,hpc⟩
     rw[hp.heap.trans hpn.heap.symm,ec10 (st:=sn) (st':=st) fun t ht=>pl14 hd ho (Nat.le_refl _) hui hcl hed hp hnq (by simpa using hpn) t (by simp only[AO.looks,l13,List.append_nil];exact ht)]
     exact hv
    have hck:=hget i o _ (by rw[←ho];simp) hn
    simp only[c25,Bool.and_eq_true] at hck
    obtain⟨⟨⟨_,hg⟩,hop⟩,_⟩:=hck
    have hgn:o.guard=none:=by
     cases hgd:o.guard with
     | none=>rfl
     | some g=>rw[hgd] at hg;obtain⟨j,b⟩:=g;simp [c18] at hg
    have hs2:=ps_ hr hop hst (wpAny P .any ops (PanQ w0 pv) fuel (listed.setIfInBounds i true))
    unfold wpOp
    rw[ho]
    simp only[Region.wanted,hgn,if_true]
    exact .inl hs2
   -- an operation that only looks
   have look1:∀{vs:Nat→AV} {s0:St},i<n→Part aoq vs s0 (fun j=>decide (0≤j)&&decide (j<0+n)&&listed.getD j false) st→
     (∀i,0≤i→i<0+n→∃x st,aoq[i]? =some x∧q10 x.op=true∧Part aoq vs s0 (fun j=>decide (0≤j)&&decide (j<i)) st∧yld P G x st (vs i)∧dOK x s0.N)→
     (∀st',Part aoq vs s0 (fun j=>decide (0≤j)&&decide (j<0+n)&&(listed.setIfInBounds i true).getD j false) st'→∀a1 w1,Rel G (pctx w0 F0) st' a1 w1→wpAny P .any ops (PanQ w0 pv) fuel (listed.setIfInBounds i true) a1 w1)→
     wpOp P ops (PanQ w0 pv) i (wpAny P .any ops (PanQ w0 pv) fuel (listed.setIfInBounds i true)) a w:=by
    intro vs s0 hilt hp hseg key
    obtain⟨x,sti,hx,hq,hpi,hyi,hdi⟩:=hseg i (Nat.zero_le _) (by omega)
    have hxa:aos[i]? =some x:=by rw[←other i (by omega) (by omega)];exact hx
    have hy:yld P G x st (vs i):=yc_ (hp.heap.trans hpi.heap.symm) (pl14 hd ho (by omega) hui hcl hed hp hx hpi) hyi
    refine fin hxa (ooy_ hq (by rw[hp.N];exact hdi) hy) fun st1' a1 w1 ha hr1=>key st1' (hp.step hd hx ha fun j=>?_) a1 w1 hr1
    rw[hlst]
    by_cases e:j=i
    ·subst e;simp [hilt]
    ·have e0:(j==i)=false:=by simpa using e
     rw[e0,Bool.or_false,Bool.or_false]
   rcases hin with hin | hik
   ·have hik:i≠k:=by omega
    have hkk:(listed.setIfInBounds i true).getD k false=listed.getD k false:=by
     rw[hlst]
     have:(k==i)=false:=by simpa using fun e=>hik e.symm
     rw[this,Bool.or_false]
    by_cases hie:i=n
    ·rcases hp with ⟨_,hp⟩ | ⟨_,hp⟩
     ·exact hit hie hp hpnA hpanA
     ·exact hit hie hp hpnB hpanB
    ·have hilt:i<n:=by omega
     have hunn:(listed.setIfInBounds i true).getD n false=false:=by rw[hlst,hun];simp;omega
     rcases hp with ⟨hpk,hp⟩ | ⟨hpk,hp⟩
     ·exact look1 hilt hp hsegA fun st' hp' a1 w1 hr1=>ih _ st' a1 w1 (by simp [hs]) hcnt' hcl' hunn (.inl ⟨by rw[hkk];exact hpk,hp'⟩) hr1
     ·exact look1 hilt hp hsegB fun st' hp' a1 w1 hr1=>ih _ st' a1 w1 (by simp [hs]) hcnt' hcl' hunn (.inr ⟨by rw[hkk];exact hpk,hp'⟩) hr1
   ·subst hik
    rcases hp with ⟨hpk,hp⟩ | ⟨hpk,hp⟩
    ·have hev:e_ G (some d) (.alloc ty sz z) st=some ⟨st.N,(d,.ref d 0 0)::p_ d st.env,(d,⟨false,ty,sz,[z]⟩)::p10 d st.heap⟩:=by
      simp only[e_,St.new]
      rw[if_pos (by rw[hp.N];exact hdN)]
     refine fin (K1:=fun st'=>st'=⟨st.N,(d,.ref d 0 0)::p_ d st.env,(d,⟨false,ty,sz,[z]⟩)::p10 d st.heap⟩) hk (by simp only[opP,s24,hev]) ?_
     rintro st' a1 w1 rfl hr1
     have hunn:(listed.setIfInBounds i true).getD n false=false:=by rw[hlst,hun];simp;omega
     refine ih _ _ a1 w1 (by simp [hs]) hcnt' hcl' hunn (.inr ⟨by rw[hlst];simp,?_⟩) hr1
     have hsame:∀j,j<n→(listed.setIfInBounds i true).getD j false=listed.getD j false:=fun j hj=>by
      rw[hlst]
      have:(j==i)=false:=by simp;omega
      rw[this,Bool.or_false]
     refine⟨by rw[e1,hp.heap],by rw[e1];exact hp.N,fun t j x hx ht hj=>?_,fun t ho=>?_⟩
     ·simp only[Bool.and_eq_true,decide_eq_true_eq,Nat.zero_add] at hj
      have hjn:j<n:=hj.1.2
      have htd:¬d=t:=fun e=>by
       have:=hdst j x (by rw[←other j (by omega) (by omega)];exact hx) (by rw[ht,e])
       omega
      obtain⟨g1,g2⟩:=hag j x t hjn hx ht
      show eget ((d,AV.ref d 0 0)::p_ d st.env) t=vsB j
      simp only[eget,if_neg htd]
      rw[ep_,hp.got t j x hx ht (by rw[hsame j hjn] at hj;simp [hjn];simpa using hj.2),g2,g1]
     ·rw[e1]
      show eget ((d,AV.ref d 0 0)::p_ d st.env) t=eget ((d,AV.ref d 0 0)::p_ d st0.env) t
      simp only[eget]
      split
      ·rfl
      ·rw[ep_,ep_,hp.old t fun j x h1 h2=>?_]
       have h3:=ho j x h1 h2
       by_cases hjn:j<n
       ·rw[hsame j hjn] at h3;exact h3
       ·simp;intro h;omega
    ·rw[hui] at hpk;cases hpk
theorem PW.dregA (n:Nat) {ops:List AO} {k s d ty sz m:Nat} {z:AV} {p x:Opd} {ktm kt:List Nat} {dn:Option Nat} {f:Nat} {xs:List Opd} {st1:St} (hk:ops[k]? =some ⟨some d,.alloc ty sz z,none⟩) (hs:ops[s]? =some ⟨none,.store p x m,none⟩) (ho:ops[n]? =some ⟨dn,.call f xs,none⟩)
  (hb:b14 ops n k s=true) (hnn:(decide (n<k)&&decide (n<s))=true) (hxs:((xs.flatMap l11).all fun t=>ktm.contains t)=true) (hq:((ops.take n).all fun x=>q10 x.op)=true) (hnew:e_ G (some d) (.alloc ty sz z) st=some st1)
  (h:runO P G (fun _ =>False) true (ops.take n) ktm [.cut fun stn=>runO P G (fun _ =>False) true (ops.take n) ktm [.cut fun stn1=>a16 d stn stn1 (d13 (ops.take n))∧panO P G f xs pv stn∧panO P G f xs pv stn1] st1] st):PW P G pv (.dregA ops k s ktm kt) st:=by
 intro w0 F c a' w hc hr
 cases c <;> simp only[chkC,Bool.false_eq_true,Bool.and_eq_true,Bool.not_eq_true'] at hc
 rename_i id os draw
 obtain⟨⟨⟨hd,hm⟩,hc⟩,hdc⟩:=hc
 subst hd
 rw[hk] at hdc
 simp only[Option.bind_some,d16,Bool.and_eq_true,bne_iff_ne,ne_eq] at hdc
 obtain⟨⟨⟨⟨⟨⟨hd0,hdst⟩,hks⟩,hst⟩,hqq⟩,hkt⟩,hsk⟩:=hdc
 have hd:=do10 hd0
 have hkl:=(List.getElem?_eq_some_iff.1 hk).1
 have hsl:=(List.getElem?_eq_some_iff.1 hs).1
 simp only[Bool.and_eq_true,decide_eq_true_eq] at hnn
 obtain⟨hnk,hns⟩:=hnn
 generalize hQ0:(ops.set k dumO).set s dumO=q at*
 have hql:q.length=ops.length:=by rw[←hQ0];simp
 have other:∀j,j≠k→j≠s→q[j]? =ops[j]? :=fun j h1 h2=>by rw[←hQ0,List.getElem?_set_ne (fun e=>h2 e.symm),List.getElem?_set_ne (fun e=>h1 e.symm)]
 have ats:∀x,q[s]? =some x→x.d=none:=fun x hx=>by
  rw[←hQ0,List.getElem?_set_self (by simpa using hsl)] at hx
  cases hx;rfl
 have atk:∀x,q[k]? =some x→x.d=none:=fun x hx=>by
  rw[←hQ0,List.getElem?_set_ne (fun e=>hks e.symm),List.getElem?_set_self hkl] at hx
  cases hx;rfl
 have htk:q.take n=ops.take n:=by
  rw[←hQ0,List.take_set_of_le (by omega),List.take_set_of_le (by omega)]
 rw[←htk] at h hq
 have hnl:n≤q.length:=by omega
 obtain⟨vsA,stn,c1,h⟩:=ct_ hnl hq n 0 st (by omega) (by simpa using ot_ h)
 obtain⟨vsB,stn1,c2,hag,hpA,hpB⟩:=ct_ hnl hq n 0 st1 (by omega) (by simpa using ot_ h)
 have p0:∀(vs:Nat→AV) (st:St),Part q vs st (fun j=>decide (0≤j)&&decide (j<0)) st:=fun vs st=>⟨rfl,rfl,fun t j x _ _ hj=>by simp at hj,fun t _ =>rfl⟩
 obtain⟨sA,pA⟩:=cp_ hd n 0 st (Nat.le_refl _) c1 (p0 vsA st)
 obtain⟨sB,pB⟩:=cp_ hd n 0 st1 (Nat.le_refl _) c2 (p0 vsB st1)
 have none0:∀j,(Array.replicate os.size false).getD j false=false:=fun j=>by
  rw[Array.getD_eq_getD_getElem?]
  simp only[Array.getElem?_replicate]
  split <;> rfl
 have untrim:∀stx:St,panO P G f xs pv {stx with env:=stx.trimE ktm}→panO P G f xs pv stx:=by
  rintro stx ⟨vargs,args',hv,hf,hpc⟩
  refine⟨vargs,args',?_,hf,hpc⟩
  rw[←ec10 (st:=stx) (st':={stx with env:=stx.trimE ktm}) (G:=G) (xs:=xs) fun t ht=>eti_ _ _ _ (List.contains_iff_mem.1 (List.all_eq_true.1 hxs t ht))]
  exact hv
 have hst2:(ops.zipIdx.all fun (y,j)=>match y.d with | some t=>!(l11 p++l11 x).contains t||h_ os s j | none=>true)=true:=by
  rw[hs] at hst
  exact (Bool.and_eq_true_iff.1 hst).2
 have hlk:∀(j:Nat) (y:AO) (t:Nat),ops[j]? =some y→y.d=some t→t∈l11 p++l11 x→h_ os s j=true:=fun j y t hy hyt ht=>by
  have:=List.all_eq_true.1 hst2 (y,j) (by rw[List.mem_zipIdx_iff_getElem?];exact hy)
  simp only[hyt,Bool.or_eq_true,Bool.not_eq_true'] at this
  rcases this with h | h
  ·rw[List.contains_iff_mem.2 ht] at h;cases h
  ·exact h
 refine wp_region_any hm ?_
 refine pa13 hd hc hk hks hql other atk ats hnk hns (fun j y hy hyd=>?_) (fun i hni hil hik=>?_) ho hnew sA pA (untrim _ hpA) sB pB (untrim _ hpB) (fun j y t hjn hy hyt=>?_) os.size _ st a' _ (by simp) (by simp) (fun i o ho hi=>by rw[none0] at hi;cases hi) (none0 n) (.inl ⟨none0 k,(p0 vsA st).congr fun j _ =>by rw[none0];simp⟩) hr.drew
 ·have:=List.all_eq_true.1 hdst (y,j) (by rw[List.mem_zipIdx_iff_getElem?];exact hy)
  simpa [hyd] using this
 ·obtain⟨j,y,t,hnj,hji,hjk,hy,hyt,hlkt⟩:=ba11 hb (List.getElem?_eq_getElem hil) hni hik
  refine⟨j,hnj,hji,hjk,?_⟩
  by_cases his:i=s
  ·subst his
   have e:ops[i]=⟨none,.store p x m,none⟩:=by have:=List.getElem?_eq_getElem hil;rw[hs] at this;exact (Option.some.inj this).symm
   rw[if_pos rfl,e] at hlkt
   exact hlk j y t hy hyt hlkt
  ·rw[if_neg his] at hlkt
   have hjs:j≠s:=fun e=>by
    subst e
    rw[hs] at hy;cases hy
    cases hyt
   have:=hd.look i j _ y t ((other i hik his).trans (List.getElem?_eq_getElem hil)) ((other j hjk hjs).trans hy) (by omega) hyt hlkt
   rw[if_pos hji] at this
   exact this
 ·have hmem:t∈d13 (q.take n):=dm_ (j:=j) (x:=y) (by rw[List.getElem?_take,if_pos hjn];exact hy) hyt
  have hmem':t∈d13 q:=dm_ hy hyt
  obtain⟨g1,g2⟩:=aa15 hag t hmem
  have htk2:t∈ktm:=by simpa using List.all_eq_true.1 hkt t hmem'
  simp only at g1 g2
  rw[eti_ _ _ _ htk2,eti_ _ _ _ htk2] at g1
  rw[eti_ _ _ _ htk2] at g2
  have inl:(decide (0≤j)&&decide (j<0+n))=true:=by simp [hjn]
  rw[pB.got t j y hy hyt inl,pA.got t j y hy hyt inl] at g1
  rw[pA.got t j y hy hyt inl] at g2
  exact⟨g1,g2⟩
end
end Go.Proofs.YtjbcfpkibnhodaaGreatDoor.Ab
namespace Go.Proofs.YtjbcfpkibnhodaaGreatDoor.Ab
open Go Go.RowKit Go.Extern.Stop Go.Stop Go.Extern
theorem mw_ (a k n e:Int) (s:ByteArray) (t:Bool) (he:(e != 0)=true) (w:World):Calls Tryz.prog 277 #[.int .i64 a,.agg #[.int .i64 k,.int .i64 n,.string s,.bool t],.int .i64 e] w fun ev w'=>
  ev= .panicked [{v:=.iface 317 (.agg #[.int .i64 a,.iface 217 (.int .i64 e)]),recovered:=false}]∧Below w.heap.size w w':=by
 go_enter Tryz.func277,Tryz.ntmps277
 go_wp2
 exact⟨rfl,rfl,((Below.refl _ _).alloc (Nat.le_refl _) _).alloc (by simp) _⟩
abbrev w14 (a e:Int):Value:=.iface 317 (.agg #[.int .i64 a,.iface 217 (.int .i64 e)])
theorem rp10 (vb eb n0:Nat) (at_ e:Int) (x0 x1 x2 x3 y:Value) (w:World) (hne:vb≠eb) (hv:w.heap[vb]? =some (.cells #[x0,x1,x2,x3] 95 (0,0))) (he:w.heap[eb]? =some (.cells #[y] 170 (0,0))) (h0:n0≤vb∧n0≤eb∧n0≤w.heap.size):
  CallsD Tryz.prog 257 #[.pointer (some ⟨vb,0,none⟩),.pointer (some ⟨eb,0,none⟩)] (.panicking [{v:=w14 at_ e,recovered:=false}]) w fun ev u' w'=>ev= .returned (.tuple #[])∧u'= .panicking [{v:=w14 at_ e,recovered:=true}]∧
   (w'.cell? ⟨vb,0,none⟩=some (.int .i64 0)∧w'.cell? ⟨vb,1,none⟩=some (.int .i64 0)∧w'.cell? ⟨vb,2,none⟩=some (.string ⟨#[]⟩)∧w'.cell? ⟨vb,3,none⟩=some (.bool false)∧w'.cell? ⟨eb,0,none⟩=some (w14 at_ e))∧Below n0 w w':=by
 have v0:w.cell? ⟨vb,0,none⟩=some x0:=by simp [World.cell?,hv]
 have v1:w.cell? ⟨vb,1,none⟩=some x1:=by simp [World.cell?,hv]
 have v2:w.cell? ⟨vb,2,none⟩=some x2:=by simp [World.cell?,hv]
 have v3:w.cell? ⟨vb,3,none⟩=some x3:=by simp [World.cell?,hv]
 have e0:w.cell? ⟨eb,0,none⟩=some y:=by simp [World.cell?,he]
 have f0:w.frozen? ⟨vb,0,none⟩=false:=by simp [World.frozen?,hv]
 have f1:w.frozen? ⟨vb,1,none⟩=false:=by simp [World.frozen?,hv]
 have f2:w.frozen? ⟨vb,2,none⟩=false:=by simp [World.frozen?,hv]
 have f3:w.frozen? ⟨vb,3,none⟩=false:=by simp [World.frozen?,hv]
 have f4:w.frozen? ⟨eb,0,none⟩=false:=by simp [World.frozen?,he]
 have hvl:vb<w.heap.size:=(Array.getElem?_eq_some_iff.1 hv).1
 have hel:eb<w.heap.size:=(Array.getElem?_eq_some_iff.1 he).1
 have hvn:¬vb=w.heap.size:=by omega
 have hen:¬eb=w.heap.size:=by omega
 have hve:¬eb=vb:=fun e=>hne e.symm
 have hta:∀(v:Value) (w:World),(Instr.typeAssert (.iface 317 v) 20 317 true).run Tryz.prog w= .ok (.tuple #[v,.bool true]) w:=fun _ _ =>by kernel_rfl
 refine callsD_of_wpS Tryz.func257 rfl fun c₀ cs hu=>?_
 apply wpS_seq
 apply wpS_region
 simp [wpOpsS,go_sem,recoverD,hu,Tryz.ntmps257,Exit.thenS]
 rw[show (#[Value.pointer (some ⟨vb,0,none⟩),Value.pointer (some ⟨eb,0,none⟩)]++((Array.replicate 16 undef).setIfInBounds 3 (w14 at_ e)).setIfInBounds 0 (w14 at_ e):Array Value)=#[Value.pointer (some ⟨vb,0,none⟩),Value.pointer (some ⟨eb,0,none⟩),w14 at_ e,undef,undef,w14 at_ e,undef,undef,undef,undef,undef,undef,undef,undef,undef,undef,undef,undef] from rfl]
 apply wpS_of_wp
 go_wp2
 go_region
 go_wp2
 refine⟨rfl,_,rfl,.tuple #[],results_none rfl _ _ _,rfl,rfl,?_,?_⟩
 ·simp [go_sem,v0,v1,v2,v3,e0,hvn,hen,hve,hne,hvl,hel]
 ·exact ((((((((Below.refl n0 w).setCell h0.1 _).setCell h0.1 _).setCell h0.1 _).setCell h0.1 _).setCell h0.2.1 _).alloc (by simpa using h0.2.2) _)).drew
theorem ri_ (vb eb:Nat) (w:World):CallsD Tryz.prog 257 #[.pointer (some ⟨vb,0,none⟩),.pointer (some ⟨eb,0,none⟩)] .returning w fun ev u' w'=>ev= .returned (.tuple #[])∧u'= .returning∧w'=w:=by
 refine callsD_of_wpS Tryz.func257 rfl fun c₀ cs hu=>?_
 apply wpS_seq
 apply wpS_region
 simp [wpOpsS,go_sem,recoverD,hu,Tryz.ntmps257,Exit.thenS]
 rw[show (#[Value.pointer (some ⟨vb,0,none⟩),Value.pointer (some ⟨eb,0,none⟩)]++((Array.replicate 16 undef).setIfInBounds 3 Value.nilIface).setIfInBounds 0 Value.nilIface:Array Value)=#[Value.pointer (some ⟨vb,0,none⟩),Value.pointer (some ⟨eb,0,none⟩),Value.nilIface,undef,undef,Value.nilIface,undef,undef,undef,undef,undef,undef,undef,undef,undef,undef,undef,undef] from rfl]
 apply wpS_of_wp
 go_wp2
 cases c₀
 simp only at hu
 subst hu
 exact⟨rfl,_,rfl,.tuple #[],results_none rfl _ _ _,rfl,rfl,rfl⟩
end Go.Proofs.YtjbcfpkibnhodaaGreatDoor.Ab
namespace Go.Proofs.YtjbcfpkibnhodaaGreatDoor.Ab
open Go Go.RowKit
variable {G:Nat→Option AV}
theorem PW.regT (n:Nat) (kt0:List Nat) {P:Program} {pv:AV} {st:St} {ops:List AO} {kt:List Nat} {d:Option Nat} {f:Nat} {xs:List Opd} (ho:ops[n]? =some ⟨d,.call f xs,none⟩) (hxs:((xs.flatMap l11).all fun t=>kt0.contains t)=true)
  (h:runO P G (fun _ =>False) false (ops.take n) kt0 [.cut (panO P G f xs pv)] st):PW P G pv (.reg ops kt) st:=by
 refine PW.reg n ho (om_ (ot_ h) fun stx hx=>?_)
 obtain⟨vargs,args',hv,hf,hpc⟩:=hx
 refine⟨vargs,args',?_,hf,hpc⟩
 rw[←ec10 (st:=stx) (st':={stx with env:=stx.trimE kt0}) (G:=G) (xs:=xs) fun t ht=>eti_ _ _ _ (List.contains_iff_mem.1 (List.all_eq_true.1 hxs t ht))]
 exact hv
def w15 (a e:Int):AV:=.iface 317 (.agg [iv a,.iface 217 (iv e)])
theorem mp10 (a:Int) (v:Val):P_ Tryz.prog G nem_ [iv a,valV v,iv 0] (valV v):=by
 obtain⟨k,n,s,t⟩:=v
 refine pem_ (Runs.of fun Φ h=>?_)
 unfold cem_
 repeat' (first|simp -implicitDefEqProofs only[go_sem,valV]|refine ag_ (fun hb=>?_) (fun hb=>?_)|refine⟨fun hb=>?_,fun hb=>?_⟩|fail)
 exact h _ ⟨_,_,rfl,rfl,.refl _⟩
theorem at13 {w:World} {F:Nat→Prop} {c d e:AV} {vs:Array Value} (h:A_ w F [c,d,e] vs):∃v u x,vs=#[v,u,x]∧Rd w F n10 c v∧Rd w F n10 d u∧Rd w F n10 e x:=by
 obtain⟨hs,hr⟩:=h
 obtain⟨l⟩:=vs
 match l,hs with
 | [v,u,x],_ =>exact⟨v,u,x,rfl,hr 0 c v rfl rfl,hr 1 d u rfl rfl,hr 2 e x rfl rfl⟩
theorem ra10 {w:World} {F:Nat→Prop} {nm:N_} {cs:List AV} {v:Value} (h:Rd w F nm (.agg cs) v):∃us:List Value,v= .agg us.toArray∧cs.length=us.length∧∀(j:Nat) c u,cs[j]? =some c→us[j]? =some u→Rd w F nm c u:=by
 cases h
 exact⟨_,rfl,‹_›,‹_›⟩
theorem rv10 {w:World} {F:Nat→Prop} {nm:N_} {v:Val} {x:Value} (h:Rd w F nm (valV v) x):x= .agg #[.int .i64 v.kind,.int .i64 v.int,.string ⟨v.str.toArray⟩,.bool v.bool]:=by
 obtain⟨us,rfl,hl,hr⟩:=ra10 h
 match us,hl with
 | [a,b,c,d],_ =>
  have h0:=hr 0 _ a rfl rfl
  have h1:=hr 1 _ b rfl rfl
  have h2:=hr 2 _ c rfl rfl
  have h3:=hr 3 _ d rfl rfl
  cases h0;cases h1;cases h2;cases h3
  rfl
theorem rw_ (w:World) (F:Nat→Prop) (nm:N_) (a e:Int):Rd w F nm (w15 a e) (.iface 317 (.agg #[.int .i64 a,.iface 217 (.int .i64 e)])):=by
 refine Rd.iface _ _ _ _ (Rd.agg _ [_,_] [_,_] rfl fun j c u hc hu=>?_)
 match j,hc,hu with
 | 0,hc,hu=>cases hc;cases hu;exact .int _ _ _
 | 1,hc,hu=>cases hc;cases hu;exact .iface _ _ _ _ (.int _ _ _)
theorem mp_ (a:Int) (v:Val) (e:Int) (he:¬e=0):P10 Tryz.prog G nem_ [iv a,valV v,iv e] (w15 a e):=by
 intro w F vs hg ha
 obtain⟨x,y,z,rfl,h1,h2,h3⟩:=at13 ha
 cases h1
 cases h3
 obtain rfl:=rv10 h2
 refine (mw_ a v.kind v.int e ⟨v.str.toArray⟩ v.bool (by simpa using he) w).mono ?_
 rintro ev w' ⟨rfl,hb⟩
 exact⟨_,rfl,fun W F nm=>rw_ _ _ _ _ _,hb⟩
def N11 (G:Nat→Option AV) (q:QeaT) (b:List SlotT) (vals:List Val) (i:Nat):Prop:=
 ((ev q b vals i).2=0→P_ Tryz.prog G nefn_ [f10 q b vals,iv i] (valV (ev q b vals i).1))∧
 (¬(ev q b vals i).2=0→∃a,P10 Tryz.prog G nefn_ [f10 q b vals,iv i] (w15 a (ev q b vals i).2))
theorem nl12 {q:QeaT} {b:List SlotT} {vals:List Val} {i:Nat} {x:NodeT} (hE:Env q b vals) (hx:q.nodes[i]? =some x) (hw:NodeW q i x) (ho:x.op≤3):N11 G q b vals i:=by
 obtain⟨op,xa,xb,⟨vk,vn,vs,vb⟩⟩:=x
 dsimp only at ho
 cases hw with
 | con h hv=>
  dsimp only at h
  subst h
  unfold N11
  rw[ea_ hx,evN,if_pos rfl]
  refine⟨fun _ =>?_,fun h=>absurd rfl h⟩
  refine pefn_ (Runs.of fun Φ h=>?_)
  unfold cefn_
  repeat' (first|simp -implicitDefEqProofs only[go_sem,f10,qeaV,d_,q_,f_,s_,s10,n_,t_,s11,v_,am_ hx,n11,valV]|refine ag_ (fun hb=>?_) (fun hb=>?_)|refine⟨fun hb=>?_,fun hb=>?_⟩|fail)
  exact h _ ⟨_,_,rfl,rfl,.refl _⟩
 | free h j hj y hy=>
  dsimp only at h hj
  subst h
  subst hj
  have hlt:=(List.getElem?_eq_some_iff.1 hy).1
  obtain⟨v,hv,hm⟩:=as10 (l:=vals) (i:=j) (by have:=hE.fit;omega)
  unfold N11
  rw[ea_ hx,evN,if_neg (by simp),if_neg (by simp),if_pos rfl,at?_nat hv]
  refine⟨fun _ =>?_,fun h=>absurd rfl h⟩
  refine pefn_ (Runs.of fun Φ h=>?_)
  unfold cefn_
  repeat' (first|simp -implicitDefEqProofs only[go_sem,f10,qeaV,d_,q_,f_,s_,s10,n_,t_,s11,v_,am_ hx,am_ hv,n11,valV]|refine ag_ (fun hb=>?_) (fun hb=>?_)|refine⟨fun hb=>?_,fun hb=>?_⟩|fail)
  exact h _ ⟨_,_,rfl,rfl,.refl _⟩
 | quant h j hj y hy=>
  dsimp only at h hj
  subst h
  subst hj
  have hg:=fqp_ (G:=G) q b vals (by have:=hE.bl;omega) j y hy
  unfold N11
  rw[ea_ hx,evN,if_neg (by simp),if_pos rfl,at?_nat hy]
  dsimp only
  generalize q12 b j y.type=r at*
  obtain⟨⟨k,n,s,t⟩,e⟩:=r
  dsimp only
  unfold vt at hg
  simp only[f10,qeaV,d_,q_,f_,s_,s10,n_,t_,s11,v_,valV] at hg
  refine⟨fun h0=>?_,fun h0=>?_⟩
  ·subst h0
   have hm:=mp10 (G:=G) i ⟨k,n,s,t⟩
   simp only[valV] at hm
   refine pefn_ (Runs.of fun Φ h=>?_)
   unfold cefn_
   repeat' (first|simp -implicitDefEqProofs only[go_sem,f10,qeaV,d_,q_,f_,s_,s10,n_,t_,s11,v_,am_ hx,n11,valV]|refine ag_ (fun hb=>?_) (fun hb=>?_)|refine⟨fun hb=>?_,fun hb=>?_⟩|refine ac_ hg rfl rfl ?_|refine ac_ hm rfl rfl ?_|fail)
   exact h _ ⟨_,_,rfl,rfl,.refl _⟩
  ·have hm:=mp_ (G:=G) i ⟨k,n,s,t⟩ e h0
   refine⟨i,P10.of_pw Tryz.func258 kefn_ rfl ?_⟩
   unfold cefn_
   dsimp only
   refine PW.seq2 ?_
   repeat' (first|simp -implicitDefEqProofs only[go_sem,f10,qeaV,d_,q_,f_,s_,s10,n_,t_,s11,v_]|refine ag_ (fun hb=>?_) (fun hb=>?_)|refine⟨fun hb=>?_,fun hb=>?_⟩|fail)
   refine PW.seq2 ?_
   repeat' (first|simp -implicitDefEqProofs only[go_sem,f10,qeaV,d_,q_,f_,s_,s10,n_,t_,s11,v_,am_ hx,n11,valV]|refine ag_ (fun hb=>?_) (fun hb=>?_)|refine⟨fun hb=>?_,fun hb=>?_⟩|fail)
   refine PW.seq1 ?_
   refine PW.seq2 ?_
   repeat' (first|simp -implicitDefEqProofs only[go_sem]|refine ag_ (fun hb=>?_) (fun hb=>?_)|refine⟨fun hb=>?_,fun hb=>?_⟩|fail)
   refine PW.block ?_
   refine PW.seq2 ?_
   repeat' (first|simp -implicitDefEqProofs only[go_sem]|refine ag_ (fun hb=>?_) (fun hb=>?_)|refine⟨fun hb=>?_,fun hb=>?_⟩|fail)
   refine PW.cond (β:=false) rfl (fun h=>by cases h) (fun _ =>?_)
   refine PW.seq2 ?_
   repeat' (first|simp -implicitDefEqProofs only[go_sem]|refine ag_ (fun hb=>?_) (fun hb=>?_)|refine⟨fun hb=>?_,fun hb=>?_⟩|fail)
   refine PW.cond (β:=true) rfl (fun _ =>?_) (fun h=>by cases h)
   refine PW.seq2 ?_
   repeat' (first|simp -implicitDefEqProofs only[go_sem,valV]|refine ag_ (fun hb=>?_) (fun hb=>?_)|refine⟨fun hb=>?_,fun hb=>?_⟩|refine ac_ hg rfl rfl ?_|fail)
   refine PW.seq1 ?_
   refine PW.regT 3 [34,35,36] rfl rfl ?_
   repeat' (first|simp -implicitDefEqProofs only[go_sem]|refine ag_ (fun hb=>?_) (fun hb=>?_)|refine⟨fun hb=>?_,fun hb=>?_⟩|fail)
   exact⟨_,_,rfl,FitL.refl _,hm⟩
 | una h j hj hlt=>exfalso;dsimp only at h;omega
 | bin h j k hj hk hj' hk'=>exfalso;dsimp only at h;omega
end Go.Proofs.YtjbcfpkibnhodaaGreatDoor.Ab
