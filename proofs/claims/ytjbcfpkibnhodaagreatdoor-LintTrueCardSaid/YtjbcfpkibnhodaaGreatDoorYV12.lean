/-
  core.Right, proctorref13.Right; the law CoreRight, awake. Of an automaton that may be: which expressions may be. What is said of values may be said more weakly, in lists too. core.Kind, eval.Value; the law's example. No claim is proved here.
-/
import Derived.Test.YtjbcfpkibnhodaaGreatDoorYD25
set_option linter.unusedSimpArgs false
set_option maxHeartbeats 4000000
set_option maxRecDepth 100000
namespace Go.Proofs.YtjbcfpkibnhodaaGreatDoor.Ab
open Go
variable {G:Nat→Option AV}
theorem cRp_ (hG:wg_ G) (q:QeaT) (hq:q.Few):P_ Tryz.prog G ncR_ [qeaV q] (.bool (r17 q)):=by
 have h1:=cfp_ (G:=G) q
 have h2:=chp_ hG q hq
 have h3:=ctp_ (G:=G) q hq
 have h4:=cs19 (G:=G) q hq
 refine pcR_ (Runs.of fun Φ h=>?_)
 unfold ccR_
 unfold r17 at h
 generalize fewS q=b1 at*
 generalize h20 q=b2 at*
 generalize t23 q (e13 q) s12=b3 at*
 generalize s19 q=b4 at*
 simp only[qeaV,d_,q_,f_,s_,s10,n_,t_] at h1 h2 h3 h4
 repeat' (first|simp -implicitDefEqProofs only[go_sem,qeaV,d_,q_,f_,s_,s10,n_,t_]|refine ag_ (fun hb=>?_) (fun hb=>?_)|refine⟨fun hb=>?_,fun hb=>?_⟩|refine ac_ h1 rfl rfl ?_|refine ac_ h2 rfl rfl ?_|refine ac_ h3 rfl rfl ?_|refine ac_ h4 rfl rfl ?_|fail)
 all_goals (refine h _ ⟨_,_,rfl,rfl,fe_ ?_⟩;clear h;first | rfl | simp_all)
theorem rR10 (q:QeaT) (hq:q.Few):P_ Tryz.prog G np24 [qeaV q] (.bool (r10 q)):=by
 have hck:=rCp_ (G:=G) q.decls (by have:=hq.decls;omega) (fun d hd=>by have:=hq.types d hd;omega)
 have hnm:=rn10 (G:=G) q hq
 have htl:=hq.trans
 refine ppR_ (Runs.of fun Φ h=>?_)
 unfold cpR_
 have fin:∀b heap,r10 q=b→Φ ⟨101,[(2,.bool b)],heap⟩:=fun b heap e=>h _ ⟨_,_,rfl,rfl,fitB e.symm⟩
 clear h
 simp only[qeaV,d_,q_,f_,s_,s10,n_,t_] at hck hnm
 cases hT:topR q with
 | false=>
  have hR:r10 q=false:=by rw[r10,hT,Bool.false_and]
  unfold topR fewS at hT
  generalize d10 q.decls=dc at*
  generalize h18 q=hd at*
  simp only[Bool.and_eq_false_imp,decide_eq_true_eq,decide_eq_false_iff_not,Bool.and_eq_true,beq_iff_eq] at hT
  repeat' (first|simp -implicitDefEqProofs only[go_sem,qeaV,d_,q_,f_,s_,s10,n_,t_,List.length_map]|refine ag_ (fun hb=>?_) (fun hb=>?_)|refine⟨fun hb=>?_,fun hb=>?_⟩|refine ac_ hck rfl rfl ?_|refine ac_ hnm rfl rfl ?_|fail)
  all_goals first | exact fin _ _ hR | (exfalso;clear fin hck hnm;simp_all;omega) | (exfalso;clear fin hck hnm;simp_all;done)
 | true=>
  have hR:r10 q=(t13 q&&s15 q):=by rw[r10,hT,Bool.true_and]
  have hk:q.Kinds:=by
   unfold topR at hT
   simp only[Bool.and_eq_true] at hT
   exact tk11 hT.2.2.2.2
  unfold topR fewS at hT
  generalize d10 q.decls=dc at*
  generalize h18 q=hd at*
  simp only[decide_eq_true_eq,Bool.and_eq_true,beq_iff_eq] at hT
  obtain⟨t1,⟨t2,t3,t4,t5,t6,t7⟩,t8,t9,t10⟩:=hT
  subst t10
  repeat' (first|simp -implicitDefEqProofs only[go_sem,qeaV,d_,q_,f_,s_,s10,n_,t_,List.length_map,t1]|refine ag_ (fun hb=>?_) (fun hb=>?_)|refine⟨fun hb=>?_,fun hb=>?_⟩|refine ac_ hck rfl rfl ?_|refine ac_ hnm rfl rfl ?_|fail)
  all_goals first | (exfalso;clear fin hck hnm;simp at*;omega) | (exfalso;clear fin hck hnm;simp at*;done) | skip
  refine al_ (fun n st=>∃(i:Nat) (a:Int),i+n=q.trans.length∧st=⟨101,[(1,.ref 1 0 0),(5,iv a),(6,iv i)],[(1,⟨false,taQ_,9,[qeaV q]⟩)]⟩∧0≤a∧a≤q.nodes.length∧(∀j t,j<i→q.trans[j]? =some t→inR t.symbol q.symbols.length=true)∧allS (s30 q) q.trans 0 0=allS (s30 q) (q.trans.drop i) i a) q.trans.length ⟨0,0,by simp,rfl,by omega,by omega,fun j x hj=>by omega,rfl⟩ ?_
  rintro I hI n st ⟨i,a,hi,rfl,h0,hl,hin,hno⟩
  simp -implicitDefEqProofs only[go_sem,qeaV,d_,q_,f_,s_,s10,n_,t_,List.length_map]
  refine⟨fun hlt=>?_,fun hge=>?_⟩
  ·have hlt':i<q.trans.length:=by omega
   obtain⟨t,ht,hm⟩:=as10 hlt'
   have hw:=ws_ hlt' (by omega)
   have hc:=rt11 (G:=G) q hq hk t (by have:=hq.sets t hm;omega) a h0 hl
   have hle:=tl11 (t:=t) h0 hl
   rw[as15 ht] at hno
   unfold s30 at hno
   have hno':(if (t12 q t a).2=true then allS (s30 q) (q.trans.drop (i+1)) (i+1) (t12 q t a).1 else (false,(t12 q t a).1))=allS (s30 q) q.trans 0 0:=hno.symm
   clear hno
   generalize t12 q t a=r at*
   obtain⟨A,b⟩:=r
   dsimp only at hle hno'
   simp only[t11,s14,qeaV,d_,q_,f_,s_,s10,n_,t_,tupR] at hc
   cases b with
   | false=>
    have hbad:r10 q=false:=by rw[hR,t13,←hno'];rfl
    repeat' (first|simp -implicitDefEqProofs only[go_sem,am_ ht,t11,s14,qeaV,d_,q_,f_,s_,s10,n_,t_,List.length_map,hw]|refine ag_ (fun hb=>?_) (fun hb=>?_)|refine⟨fun hb=>?_,fun hb=>?_⟩|refine ac_ hc rfl rfl ?_|fail)
    exact fin _ _ hbad
   | true=>
    obtain⟨l1,l2,l3⟩:=hle rfl
    have hnext:a12 I n ⟨101,[(1,.ref 1 0 0),(5,iv A),(6,iv (i+1:Nat))],[(1,⟨false,taQ_,9,[qeaV q]⟩)]⟩:=aa_ (n - 1) (by omega) (hI _ _ ⟨i+1,A,by omega,rfl,l1,l2,as11 (p:=fun _ (t:TransT)=>inR t.symbol q.symbols.length) ht l3 hin,by rw[←hno',if_pos rfl]⟩)
    repeat' (first|simp -implicitDefEqProofs only[go_sem,am_ ht,t11,s14,qeaV,d_,q_,f_,s_,s10,n_,t_,List.length_map,hw]|refine ag_ (fun hb=>?_) (fun hb=>?_)|refine⟨fun hb=>?_,fun hb=>?_⟩|refine ac_ hc rfl rfl ?_|fail)
    exact hnext
  ·have hs:∀t∈q.trans,inR t.symbol q.symbols.length=true:=fun t ht=>by
    obtain⟨j,hj⟩:=List.getElem?_of_mem ht
    exact hin j t (by have:=(List.getElem?_eq_some_iff.1 hj).1;omega) hj
   have hsy:=rsp_ (G:=G) q hq hs
   rw[ae_ (by omega)] at hno
   have hA:t13 q=(a==(q.nodes.length:Int)):=by rw[t13,hno];rfl
   rw[hA] at hR
   simp only[qeaV,d_,q_,f_,s_,s10,n_,t_] at hsy
   generalize s15 q=sy at*
   clear hI hin hno hA
   repeat' (first|simp -implicitDefEqProofs only[go_sem,qeaV,d_,q_,f_,s_,s10,n_,t_,List.length_map]|refine ag_ (fun hb=>?_) (fun hb=>?_)|refine⟨fun hb=>?_,fun hb=>?_⟩|refine ac_ hsy rfl rfl ?_|fail)
   all_goals
    refine fin _ _ ?_
    rw[hR]
    clear hR fin hsy hck hnm
    simp_all
theorem fo11 (q:QeaT) (h:fewQ q=true):q.Few:=by
 unfold fewQ f23 at h
 simp only[Bool.and_eq_true,decide_eq_true_eq] at h
 obtain⟨⟨h1,h2,h3,h4,h5,h6,h7,h8⟩,h9,h10,h11,h12,h13⟩:=h
 refine⟨by omega,fun d hd=>?_,by omega,by omega,by omega,by omega,fun s hs=>?_,by omega,by omega,fun t ht=>?_⟩
 ·obtain⟨i,hi⟩:=List.getElem?_of_mem hd
  have:=at10.1 h9 i d hi
  unfold f21 at this
  simp only[Bool.and_eq_true,decide_eq_true_eq] at this
  omega
 ·obtain⟨i,hi⟩:=List.getElem?_of_mem hs
  have:=at10.1 h10 i s hi
  unfold f24 at this
  simp only[Bool.and_eq_true,decide_eq_true_eq] at this
  omega
 ·obtain⟨i,hi⟩:=List.getElem?_of_mem ht
  have:=at10.1 h13 i t hi
  simp only[decide_eq_true_eq] at this
  omega
end Go.Proofs.YtjbcfpkibnhodaaGreatDoor.Ab
namespace Go.Proofs.YtjbcfpkibnhodaaGreatDoor.Ab
open Go
def K_ (q:QeaT) (i:Nat):Prop:=∃e,(e13 q)[i]? =some e∧¬e.kind=0
theorem eg_ {q:QeaT} {i:Nat} {x:NodeT} (hx:q.nodes[i]? =some x):∀n,i<n→n≤q.nodes.length→(exL q n)[i]? =some (e15 q (exL q i) i x)
 | 0,h,_ =>absurd h (by omega)
 | n+1,h,hn=>by
  obtain⟨y,hy,_⟩:=as10 (l:=q.nodes) (i:=n) (by omega)
  have hl:=el_ q n (by omega)
  rw[es_ hy]
  by_cases e:i=n
  ·subst e
   rw[hx] at hy;cases hy
   rw[List.getElem?_append_right (by omega),hl]
   simp
  ·rw[List.getElem?_append_left (by omega)]
   exact eg_ hx n (by omega) (by omega)
theorem ep10 {q:QeaT} {i j:Nat} {e:ExT} (hi:i≤q.nodes.length) (h:(exL q i)[j]? =some e):(e13 q)[j]? =some e:=by
 have hl:=el_ q i hi
 have hj:=(List.getElem?_eq_some_iff.1 h).1
 obtain⟨x,hx,_⟩:=as10 (l:=q.nodes) (i:=j) (by omega)
 rw[eg_ hx i (by omega) hi] at h
 unfold e13
 rw[eg_ hx _ (by omega) (Nat.le_refl _)]
 exact h
theorem so10 (q:QeaT) (h64:∀x∈q.nodes,i64 x.value.int):Safe q (K_ q):=by
 have key:∀i,K_ q i→∃x,q.nodes[i]? =some x∧NodeW q i x∧(4≤x.op→K_ q x.a.toNat∧(6≤x.op→K_ q x.b.toNat)):=by
  rintro i ⟨e,he,hk⟩
  have hlen:=el_ q q.nodes.length (Nat.le_refl _)
  have hi:i<q.nodes.length:=by
   have:=(List.getElem?_eq_some_iff.1 he).1
   unfold e13 at this
   omega
  obtain⟨x,hx,hm⟩:=as10 hi
  have hel:=el_ q i (by omega)
  unfold e13 at he
  rw[eg_ hx _ hi (Nat.le_refl _)] at he
  simp only[Option.some.injEq] at he
  subst he
  refine⟨x,hx,?_⟩
  unfold e15 at hk
  cases hleaf:l12 q i x with
  | some e=>
   unfold l12 at hleaf
   by_cases h1:x.op=1
   ·rw[if_pos h1] at hleaf
    split at hleaf
    ·rename_i hc
     exact⟨.con h1 ⟨hc.2.2,h64 x hm⟩,fun h=>by omega⟩
    ·cases hleaf
   rw[if_neg h1] at hleaf
   by_cases h2:x.op=2
   ·rw[if_pos h2] at hleaf
    split at hleaf
    ·obtain⟨y,hy,_⟩:=Option.map_eq_some_iff.1 hleaf
     obtain⟨j,hj,hy⟩:=at?_some hy
     exact⟨.quant h2 j hj y hy,fun h=>by omega⟩
    ·cases hleaf
   rw[if_neg h2] at hleaf
   by_cases h3:x.op=3
   ·rw[if_pos h3] at hleaf
    split at hleaf
    ·obtain⟨y,hy,_⟩:=Option.map_eq_some_iff.1 hleaf
     obtain⟨j,hj,hy⟩:=at?_some hy
     exact⟨.free h3 j hj y hy,fun h=>by omega⟩
    ·cases hleaf
   rw[if_neg h3] at hleaf
   cases hleaf
  | none=>
   rw[hleaf] at hk
   dsimp only at hk
   split at hk
   ·exact absurd rfl hk
   rename_i hop
   have hop4:4≤x.op∧x.op≤16:=by
    constructor
    ·by_cases h:4≤x.op
     ·exact h
     ·exact absurd (.inl (by omega)) hop
    ·by_cases h:x.op≤16
     ·exact h
     ·exact absurd (.inr (.inl (by omega))) hop
   cases hb:at? (exL q i) ((i:Int) - 1) with
   | none=>rw[hb] at hk;exact absurd rfl hk
   | some b=>
    rw[hb] at hk
    dsimp only at hk
    obtain⟨j,hj,hbj⟩:=at?_some hb
    have hjl:=(List.getElem?_eq_some_iff.1 hbj).1
    split at hk
    ·exact absurd rfl hk
    rename_i hbk
    have hKj:K_ q j:=⟨b,ep10 (by omega) hbj,hbk⟩
    split at hk
    ·rename_i h5
     split at hk
     ·rename_i hc
      have hxa:x.a=j:=by omega
      refine⟨.una (by omega) j hxa (by omega),fun _ =>⟨by rw[hxa,Int.toNat_natCast];exact hKj,fun h=>by omega⟩⟩
     ·exact absurd rfl hk
    ·rename_i h5
     split at hk
     ·rename_i hc
      cases ha:at? (exL q i) x.a with
      | none=>rw[ha] at hk;exact absurd rfl hk
      | some a=>
       rw[ha] at hk
       dsimp only at hk
       split at hk
       ·exact absurd rfl hk
       rename_i hak
       obtain⟨k,hxk,hak'⟩:=at?_some ha
       have hkl:=(List.getElem?_eq_some_iff.1 hak').1
       have hxb:x.b=j:=by omega
       refine⟨.bin (by omega) k j hxk hxb (by omega) (by omega),fun _ =>⟨?_,fun _ =>?_⟩⟩
       ·rw[hxk,Int.toNat_natCast]
        exact⟨a,ep10 (by omega) hak',hak⟩
       ·rw[hxb,Int.toNat_natCast];exact hKj
     ·exact absurd rfl hk
 refine⟨fun i hi=>?_,fun i x hi hx h4=>?_⟩
 ·obtain⟨x,hx,hw,_⟩:=key i hi
  exact⟨x,hx,hw⟩
 ·obtain⟨y,hy,_,h⟩:=key i hi
  rw[hx] at hy;cases hy
  exact h h4
theorem wk_ {q:QeaT} {a r k:Int} (h:w_ (e13 q) a r k=true):∃i:Nat,r=i∧K_ q i:=by
 unfold w_ at h
 split at h
 ·cases h
 ·rename_i e he
  obtain⟨i,hi,hei⟩:=at?_some he
  simp only[Bool.and_eq_true,beq_iff_eq,Bool.not_eq_true',beq_eq_false_iff_ne,ne_eq,decide_eq_true_eq] at h
  exact⟨i,hi,e,hei,by rw[h.2.1];exact h.2.2.1⟩
theorem aa13 {α σ:Type} {f:σ→Nat→α→Bool×σ}:∀{l:List α} {i:Nat} {s:σ},(allS f l i s).1=true→∀x∈l,∃s' j,(f s' j x).1=true
 | [],_,_,_,x,hx=>by cases hx
 | y::l,i,s,h,x,hx=>by
  rw[allS] at h
  split at h
  ·rename_i hy
   rcases List.mem_cons.1 hx with rfl | hx
   ·exact⟨s,i,hy⟩
   ·exact aa13 h x hx
  ·cases h
theorem to12 {q:QeaT} (h:r10 q=true) {t:TransT} (ht:t∈q.trans):(0≤t.guard→K_ q t.guard.toNat)∧S10 (K_ q) q.frees.length t.sets:=by
 unfold r10 t13 at h
 simp only[Bool.and_eq_true] at h
 obtain⟨a,j,hs⟩:=aa13 h.2.1.1 t ht
 have hs:(t12 q t a).2=true:=hs
 have rest:∀a1,(r14 q t a a1).2=true→S10 (K_ q) q.frees.length t.sets:=fun a1 hr s hsm=>by
  unfold r14 at hr
  dsimp only at hr
  split at hr
  ·rename_i hall
   obtain⟨a2,k,hss⟩:=aa13 hall s hsm
   unfold s13 at hss
   split at hss
   ·cases hss
   ·rename_i f hf
    obtain⟨m,hm,hfm⟩:=at?_some hf
    split at hss
    ·cases hss
    ·split at hss
     ·rename_i hw
      obtain⟨e,he,hk⟩:=wk_ hw
      exact⟨e,m,he,hm,hk,(List.getElem?_eq_some_iff.1 hfm).1⟩
     ·cases hss
  ·cases hr
 unfold t12 at hs
 split at hs
 ·cases hs
 ·split at hs
  ·rename_i hg
   exact⟨fun h0=>by omega,rest _ hs⟩
  ·split at hs
   ·rename_i hw
    obtain⟨e,he,hk⟩:=wk_ hw
    exact⟨fun _ =>by rw[he,Int.toNat_natCast];exact hk,rest _ hs⟩
   ·cases hs
end Go.Proofs.YtjbcfpkibnhodaaGreatDoor.Ab
namespace Go.Proofs.YtjbcfpkibnhodaaGreatDoor.Ab
open Go Go.RowKit
variable {G:Nat→Option AV}
inductive Fit2:AV→AV→Prop where
 | refl (c:AV):Fit2 c c
 | nil (sz:Nat):Fit2 .nils (.seq sz [])
 | agg (cs ds:List AV) (hl:cs.length=ds.length) (h:∀(j:Nat) c d,cs[j]? =some c→ds[j]? =some d→Fit2 c d):Fit2 (.agg cs) (.agg ds)
 | seq (sz:Nat) (es fs:List AV) (hl:es.length=fs.length) (hs:∀f∈fs,f.cells.length=sz) (h:∀(k:Nat) e f,es[k]? =some e→fs[k]? =some f→Fit2 e f):Fit2 (.seq sz es) (.seq sz fs)
theorem Rd.fit2 {w:World} {F:Nat→Prop} {c d:AV} (h:Fit2 c d):∀{nm:N_} {v:Value},Rd w F nm c v→Rd w F nm d v:=by
 induction h with
 | refl c=>exact fun h=>h
 | nil sz=>intro nm v h;cases h;exact .seq0 _ _ _ _
 | agg cs ds hl h ih=>
  intro nm v hr
  obtain⟨us,rfl,hu,hr⟩:=ra10 hr
  refine .agg _ _ _ (by omega) fun j c u hc hu'=>?_
  have hj:j<cs.length:=by have:=(List.getElem?_eq_some_iff.1 hc).1;omega
  exact ih j _ c (List.getElem?_eq_getElem hj) hc (hr j _ u (List.getElem?_eq_getElem hj) hu')
 | seq sz es fs hl hs h ih=>
  intro nm v hr
  generalize hz:AV.seq sz es=z at hr
  cases hr with
  | seq0 _ sz' a cap=>
   simp only[AV.seq.injEq] at hz
   obtain⟨rfl,rfl⟩:=hz
   have:fs=[]:=List.eq_nil_of_length_eq_zero (by simpa using hl.symm)
   subst this
   exact .seq0 _ _ _ _
  | seq _ sz' es' g o cap u h0 hF hc hm hss hw h1 hh=>
   simp only[AV.seq.injEq] at hz
   obtain⟨rfl,rfl⟩:=hz
   rw[hl]
   refine Rd.seq nm _ fs g o cap u h0 hF (by omega) hm hs (fun p hp=>hw p (by rw[hl];exact hp)) (fun p hp=>h1 p (by rw[hl];exact hp)) fun k f j c hf hc'=>?_
   have hk:k<es.length:=by have:=(List.getElem?_eq_some_iff.1 hf).1;omega
   obtain⟨e,he⟩:∃e,es[k]? =some e:=⟨_,List.getElem?_eq_getElem hk⟩
   have ih:=@ih k e f he hf
   have hfit:=h k e f he hf
   cases hfit with
   | refl=>exact hh k _ j c he hc'
   | nil sz2=>
    match j,hc' with
    | 0,hc'=>cases hc';exact ih (hh k _ 0 _ he rfl)
   | seq sz2 a1 a2 _ _ _ =>
    match j,hc' with
    | 0,hc'=>cases hc';exact ih (hh k _ 0 _ he rfl)
   | agg cs ds hl2 hcd=>
    have hc2:ds[j]? =some c:=hc'
    have hj:j<cs.length:=by have:=(List.getElem?_eq_some_iff.1 hc2).1;omega
    have hrd:Rd w F n10 (.agg cs) (.agg ((List.range cs.length).map fun i=>u (k*sz+i)).toArray):=.agg _ _ _ (by simp) fun i c1 x hc1 hx=>by
     have hi:i<cs.length:=(List.getElem?_eq_some_iff.1 hc1).1
     rw[List.getElem?_map,List.getElem?_range hi] at hx
     cases hx
     exact hh k _ i c1 he hc1
    obtain⟨us,e1,e2,e3⟩:=ra10 (ih hrd)
    have e4:((List.range cs.length).map fun i=>u (k*sz+i))=us:=by simpa using e1
    exact e3 j c _ hc2 (by rw[←e4,List.getElem?_map,List.getElem?_range hj];rfl)
  | _ =>cases hz
theorem af10 {w:World} {F:Nat→Prop}:∀{args args':List AV} {vs:Array Value},args.length=args'.length→(∀(j:Nat) c d,args[j]? =some c→args'[j]? =some d→Fit2 c d)→A_ w F args vs→A_ w F args' vs:=fun hl h ha=>
 ⟨by rw[ha.1,hl],fun j d u hd hu=>by
  have hj:j<_ :=(List.getElem?_eq_some_iff.1 hd).1
  rw[←hl] at hj
  exact (ha.2 j _ u (List.getElem?_eq_getElem hj) hu).fit2 (h j _ d (List.getElem?_eq_getElem hj) hd)⟩
theorem P_.fit2 {P:Program} {f:Nat} {args args':List AV} {r:AV} (hl:args.length=args'.length) (h:∀(j:Nat) c d,args[j]? =some c→args'[j]? =some d→Fit2 c d) (hc:P_ P G f args' r):P_ P G f args r:=fun w F vs hg ha=>hc w F vs hg (af10 hl h ha)
end Go.Proofs.YtjbcfpkibnhodaaGreatDoor.Ab
namespace Go.Proofs.YtjbcfpkibnhodaaGreatDoor.Ab
open Go Go.RowKit
variable {G:Nat→Option AV}
def k17 (q:QeaT) (n:Int):Int:=match at? (e13 q) n with | some e=>e.kind | none=>0
theorem cKp_ (q:QeaT) (hl:q.nodes.length≤1000000) (n:Int):P_ Tryz.prog G ncK_ [qeaV q,iv n] (iv (k17 q n)):=by
 have hlen:=el_ q q.nodes.length (Nat.le_refl _)
 have hlen':(e13 q).length=q.nodes.length:=hlen
 have hx:=cep_ (G:=G) q hl
 simp only[qeaV,d_,q_,f_,s_,s10,n_,t_] at hx
 refine pcK_ (Runs.of fun Φ h=>?_)
 unfold ccK_
 unfold k17 at h
 cases hat:at? (e13 q) n with
 | none=>
  rw[hat] at h
  dsimp only at h
  rcases at?_none hat with h1 | h1
  ·have e1:(n<0)=True:=by simp;exact h1
   repeat' (first|simp -implicitDefEqProofs only[go_sem,qeaV,d_,q_,f_,s_,s10,n_,t_,List.length_map,e1,decide_true]|refine ag_ (fun hb=>?_) (fun hb=>?_)|refine⟨fun hb=>?_,fun hb=>?_⟩|fail)
   exact h _ ⟨_,_,rfl,rfl,.refl _⟩
  ·have e1:(n<0)=False:=by simp;omega
   have e2:((q.nodes.length:Int)≤n)=True:=by simp;omega
   repeat' (first|simp -implicitDefEqProofs only[go_sem,qeaV,d_,q_,f_,s_,s10,n_,t_,List.length_map,e1,e2,decide_true,decide_false]|refine ag_ (fun hb=>?_) (fun hb=>?_)|refine⟨fun hb=>?_,fun hb=>?_⟩|fail)
   exact h _ ⟨_,_,rfl,rfl,.refl _⟩
 | some e=>
  rw[hat] at h
  dsimp only at h
  obtain⟨i,rfl,hi⟩:=at?_some hat
  have hlt:=(List.getElem?_eq_some_iff.1 hi).1
  have e1:((i:Int)<0)=False:=by simp
  have e2:((q.nodes.length:Int)≤i)=False:=by simp;omega
  repeat' (first|simp -implicitDefEqProofs only[go_sem,qeaV,d_,q_,f_,s_,s10,n_,t_,List.length_map,e1,e2,decide_false,am_ hi,exV]|refine ag_ (fun hb=>?_) (fun hb=>?_)|refine⟨fun hb=>?_,fun hb=>?_⟩|refine ac_ hx rfl rfl ?_|fail)
  exact h _ ⟨_,_,rfl,rfl,.refl _⟩
theorem eVp_ (hG:errG G) {q:QeaT} {b:List SlotT} {vals:List Val} (hql:q.nodes.length≤1000000) (hS:Safe q (K_ q)) (hE:Env q b vals) (hf:f15 vals q.frees=true) (hl:q.frees.length<9223372036854775807) (i:Nat) (hi:K_ q i):
  P_ Tryz.prog G neV_ [qeaV q,iv i,s11 b,v_ vals] (vt (ev q b vals i)):=by
 have hfc:=eFp_ (G:=G) q vals (by have:=hE.vl;omega) hl
 rw[hf] at hfc
 have hkc:=cKp_ (G:=G) q hql i
 have hk0:(k17 q i==0)=false:=by
  obtain⟨e,he,hk⟩:=hi
  unfold k17
  rw[at?_nat he]
  simpa using hk
 have hr:=rp11 (np_ hS hE i hi (G:=G))
 have hok:=ev_ok hS hE i hi
 have her:=ee11 hG hok
 have hno:=hok.none
 generalize ev q b vals i=r at*
 obtain⟨⟨k,n,s,bt⟩,e⟩:=r
 dsimp only at hr her hno ⊢
 simp only[qeaV,d_,q_,f_,s_,s10,n_,t_,s11,v_] at hfc hkc
 by_cases h0:e=0
 ·subst h0
  have hr2:=hr.1 rfl
  have her2:=enp_ (G:=G)
  clear hr her hno
  simp only[valV,f10,qeaV,d_,q_,f_,s_,s10,n_,t_,s11,v_] at hr2
  refine peV_ (Runs.of fun Φ h=>?_)
  unfold ceV_
  repeat' (first|simp -implicitDefEqProofs only[go_sem,qeaV,d_,q_,f_,s_,s10,n_,t_,v_,s11,hk0]|refine ag_ (fun hb=>?_) (fun hb=>?_)|refine⟨fun hb=>?_,fun hb=>?_⟩|refine ac_ hfc rfl rfl ?_|refine ac_ hkc rfl rfl ?_|refine ac_ hr2 rfl rfl ?_|refine ac_ her2 rfl rfl ?_|fail)
  exact h _ ⟨_,_,rfl,rfl,.refl _⟩
 ·obtain⟨a,hr2⟩:=hr.2 h0
  have her2:=her h0 a
  have hno2:=hno h0
  clear hr her hno
  simp only[Val.mk.injEq] at hno2
  obtain⟨rfl,rfl,rfl,rfl⟩:=hno2
  simp only[valV,f10,qeaV,d_,q_,f_,s_,s10,n_,t_,s11,v_,w15] at hr2 her2
  refine peV_ (Runs.of fun Φ h=>?_)
  unfold ceV_
  repeat' (first|simp -implicitDefEqProofs only[go_sem,qeaV,d_,q_,f_,s_,s10,n_,t_,v_,s11,hk0]|refine ag_ (fun hb=>?_) (fun hb=>?_)|refine⟨fun hb=>?_,fun hb=>?_⟩|refine ac_ hfc rfl rfl ?_|refine ac_ hkc rfl rfl ?_|refine ac_ hr2 rfl rfl ?_|refine ac_ her2 rfl rfl ?_|fail)
  exact h _ ⟨_,_,rfl,rfl,.refl _⟩
end Go.Proofs.YtjbcfpkibnhodaaGreatDoor.Ab
