/-
  lint.never, proctorref39.never: whether a transition never fires, two ways. No claim is proved here.
-/
import Derived.Test.YtjbcfpkibnhodaaGreatDoorQLi5
import Derived.Test.YtjbcfpkibnhodaaGreatDoorQLi2
namespace Go.Proofs.YtjbcfpkibnhodaaGreatDoor.Ab
open Go Go.RowKit
set_option linter.unusedSimpArgs false
set_option maxHeartbeats 4000000
set_option maxRecDepth 100000
variable {G:Nat→Option AV}
structure QeaT.LintQ (q:QeaT):Prop where
 few:fewQ q=true
 right:r10 q=true
 n64:∀x∈q.nodes,i64 x.value.int
 f64:∀x∈q.frees,i64 x.init.int
def i11 (q:QeaT):List Val:=q.frees.map (·.init)
def o15 (l:List NodeT):Bool:=l.any fun x=>x.op==2||x.op==3
def n19 (q:QeaT) (g:Nat):Bool:=!((ev q [] (i11 q) g).2==0)|| !(ev q [] (i11 q) g).1.bool
def n17 (q:QeaT) (t:TransT):Bool:=if t.guard<0 then false else match at? (e10 q) t.guard with
 | some e=>if o15 (mid q.nodes e.from_ (t.guard+1))=true then false else n19 q t.guard.toNat
 | none=>false
section
variable {q:QeaT}
theorem fs11 (h:fewQ q=true):q.decls.length≤12∧q.frees.length≤12∧q.states.length≤12∧q.symbols.length≤12∧q.trans.length≤12∧q.nodes.length≤40:=by
 unfold fewQ f20 at h
 simp only[Bool.and_eq_true,decide_eq_true_eq] at h
 omega
theorem QeaT.LintQ.good (h:q.LintQ):q.Good:=by
 have hs:=fs11 h.few
 exact⟨fun t ht=>t19 h.right ht,h.n64,by omega,by omega⟩
theorem io_ (h:q.LintQ):∀v∈i11 q,VOk v:=fun v hv=>by
 obtain⟨f,hf,rfl⟩:=List.mem_map.1 hv
 have h1:=(rp_ h.right).1
 unfold h15 at h1
 simp only[Bool.and_eq_true] at h1
 obtain⟨i,hi⟩:=List.getElem?_of_mem hf
 exact⟨at10.1 h1.2.1 i f hi,h.f64 f hf⟩
theorem if11 (h:q.LintQ):f17 (i11 q) q.frees=true:=by
 refine ft_ (by simp [i11]) fun i v f hv hf=>?_
 unfold i11 at hv
 rw[List.getElem?_map,hf] at hv
 cases hv
 have:=(io_ h f.init (List.mem_map.2 ⟨f,List.mem_of_getElem? hf,rfl⟩)).1
 simp [f15,this]
theorem ie_ (h:q.LintQ):Env q [] (i11 q):=by
 have hs:=fs11 h.few
 exact⟨by simp,fun s hs=>(by cases hs),by simp [i11],io_ h,by simp [i11];omega⟩
end
theorem sIaNaNp_ (f:Nat) (caps:List AV) (hf:b_ Tryz.prog f=true) (hcap:OkC caps) (p:NodeT→Bool) (l:List NodeT) (hp:∀x∈l,P_ Tryz.prog G f (n11 x::caps) (.bool (p x))) (hl:l.length<9223372036854775807):
  P_ Tryz.prog G nsIaNaN_ [.seq 7 (l.map n11),.fn f caps] (iv (idxF p l)):=by
 refine psIaNaN_ (Runs.of fun Φ h=>?_)
 unfold csIaNaN_
 simp -implicitDefEqProofs only[go_sem,List.length_map]
 refine al_ (fun n st=>∃i:Nat,i+n=l.length∧st=⟨19,[(0,.seq 7 (l.map n11)),(1,.fn f caps),(7,iv l.length),(8,iv i)],[]⟩∧∀j x,j<i→l[j]? =some x→p x=false) l.length ⟨0,by simp,rfl,fun j x hj=>by omega⟩ ?_
 rintro I hI n st ⟨i,hi,rfl,hno⟩
 simp -implicitDefEqProofs only[go_sem]
 refine⟨fun hlt=>?_,fun hge=>?_⟩
 ·have hlt':i<l.length:=by omega
  obtain⟨x,hx,hm⟩:=as10 hlt'
  have hw:=ws_ hlt' (by omega)
  simp -implicitDefEqProofs only[go_sem,am_ hx,hcap.purge,n11]
  refine⟨hf,ac_ (hp x hm) (by simp [v10,flat,viewBs,viewB,viewK,viewK.go,hcap.viewBs,n11]) rfl ?_⟩
  cases hpx:p x
  ·simp -implicitDefEqProofs only[go_sem,hw,hcap.purge]
   exact aa_ (n - 1) (by omega) (hI _ _ ⟨i+1,by omega,rfl,fun j y hj hy=>by
    by_cases e:j=i
    ·subst e;rw[hx] at hy;cases hy;exact hpx
    ·exact hno j y (by omega) hy⟩)
  ·simp -implicitDefEqProofs only[go_sem,hcap.purge]
   exact h _ ⟨_,_,rfl,rfl,fitI (ia10 hx hpx hno).symm⟩
 ·have:i=l.length:=by omega
  subst this
  exact h _ ⟨_,_,rfl,rfl,fitI (in10 hno).symm⟩
theorem sCaNaNp_ (f:Nat) (caps:List AV) (hf:b_ Tryz.prog f=true) (hcap:OkC caps) (p:NodeT→Bool) (l:List NodeT) (hp:∀x∈l,P_ Tryz.prog G f (n11 x::caps) (.bool (p x))) (hl:l.length<9223372036854775807):
  P_ Tryz.prog G nsCaNaN_ [.seq 7 (l.map n11),.fn f caps] (.bool (l.any p)):=by
 refine psCaNaN_ (Runs.of fun Φ h=>?_)
 unfold csCaNaN_
 simp -implicitDefEqProofs only[go_sem]
 refine ac_ (sIaNaNp_ f caps hf hcap p l hp hl) (by simp [v10,flat,viewBs,viewB,viewK,hcap.viewK]) rfl ?_
 simp -implicitDefEqProofs only[go_sem,hcap.purge]
 exact h _ ⟨_,_,rfl,rfl,fitB (ia_ _ _)⟩
theorem ln1p_ (x:NodeT):P_ Tryz.prog G nln1_ [n11 x] (.bool (x.op==2||x.op==3)):=by
 refine pln1_ (Runs.of fun Φ h=>?_)
 unfold cln1_
 obtain⟨x1,x2,x3,⟨x4,x5,x6,x7⟩⟩:=x
 dsimp only at h
 generalize hz1:(x1==2)=z1 at*
 generalize hz2:(x1==3)=z2 at*
 cases z1 <;> cases z2
 all_goals
  repeat' (first | (simp -implicitDefEqProofs only[go_sem,n11,hz1,hz2]) | refine ag_ (fun hb=>?_) (fun hb=>?_) | refine⟨fun hb=>?_,fun hb=>?_⟩ | fail)
  exact h _ ⟨_,_,rfl,rfl,.refl _⟩
theorem lnp_ (hG:errG G) {q:QeaT} (hq:q.LintQ) (t:TransT) (ht:t∈q.trans):P_ Tryz.prog G nln_ [qeaV q,t11 t] (.bool (n17 q t)):=by
 have hsz:=fs11 hq.few
 refine pln_ (Runs.of fun Φ h=>?_)
 unfold cln_
 unfold n17 at h
 by_cases hg:t.guard<0
 ·rw[if_pos hg] at h
  have e1:(t.guard<0)=True:=by simp;exact hg
  obtain⟨tf,ts,tt,tg,tsets⟩:=t
  dsimp only at e1
  repeat' (first | (simp -implicitDefEqProofs only[go_sem,qeaV,d_,q_,f_,s_,s10,n_,t_,t11,s14,e1,decide_true]) | refine ag_ (fun hb=>?_) (fun hb=>?_) | refine⟨fun hb=>?_,fun hb=>?_⟩ | fail)
  exact h _ ⟨_,_,rfl,rfl,.refl _⟩
 ·rw[if_neg hg] at h
  have e1:(t.guard<0)=False:=by simp;omega
  obtain⟨e,he,hk⟩:=(t19 hq.right ht).guard (by omega)
  obtain⟨tf,ts,tt,tg,tsets⟩:=t
  dsimp only at hg h e1 he
  obtain⟨g,rfl⟩:=Int.eq_ofNat_of_zero_le (show 0≤tg by omega)
  rw[Int.toNat_natCast] at he h
  rw[at?_nat he] at h
  dsimp only at h
  have hlen:=el_ q q.nodes.length (Nat.le_refl _)
  have hgn:g<q.nodes.length:=by
   have:=(List.getElem?_eq_some_iff.1 he).1
   unfold e10 at this
   omega
  have hfr:=ef_ g e he hk
  have hfi:=lfp_ (G:=G) q (by omega) g e he hk
  have hwg:=ws_ hgn (by omega)
  have hcf:=sCaNaNp_ (G:=G) nln1_ [] (by kernel_rfl) on_ (fun x=>x.op==2||x.op==3) (mid q.nodes e.from_ ((g+1:Nat):Int)) (fun x _ =>ln1p_ x) (by unfold mid;simp;omega)
  rw[show (mid q.nodes e.from_ ((g+1:Nat):Int)).any (fun x=>x.op==2||x.op==3)=o15 (mid q.nodes e.from_ ((g+1:Nat):Int)) from rfl] at hcf
  rw[show (g:Int)+1=((g+1:Nat):Int) by omega] at h
  have hev:=eVp_ (G:=G) hG (b:=[]) (vals:=i11 q) (by omega) (so10 q hq.n64) (ie_ hq) (if11 hq) (by omega) g ⟨e,he,hk⟩
  have hev:=P_.fit2 (P:=Tryz.prog) (f:=neV_) (args:=[qeaV q,iv g,.nils,v_ (i11 q)]) (args':=[qeaV q,iv g,s13 [],v_ (i11 q)]) rfl (fun j c d hc hd=>by
   match j,hc,hd with
   | 0,hc,hd=>cases hc;cases hd;exact .refl _
   | 1,hc,hd=>cases hc;cases hd;exact .refl _
   | 2,hc,hd=>cases hc;cases hd;exact .nil _
   | 3,hc,hd=>cases hc;cases hd;exact .refl _) hev
  unfold n19 at h
  have hmid:aslc 7 (.seq 7 (q.nodes.map n11)) (some (.int .i64 e.from_)) (some (.int .i64 ((g+1:Nat):Int)))=some (.seq 7 ((mid q.nodes e.from_ ((g+1:Nat):Int)).map n11)):=am10 (by decide) hfr.1 (by omega) (by omega)
  generalize mid q.nodes e.from_ ((g+1:Nat):Int)=M at*
  generalize ev q [] (i11 q) g=r at*
  generalize e.from_=a at*
  simp only[qeaV,d_,q_,f_,s_,s10,n_,t_] at hfi
  cases hO:o15 M with
  | true=>
   rw[hO,if_pos rfl] at h
   rw[hO] at hcf
   repeat' (first | (simp -implicitDefEqProofs only[go_sem,qeaV,d_,q_,f_,s_,s10,n_,t_,t11,s14,e1,decide_false,hwg,hmid]) | refine ag_ (fun hb=>?_) (fun hb=>?_) | refine⟨fun hb=>?_,fun hb=>?_⟩ | refine ac_ (hfi) rfl rfl ?_ | refine ac_ (hcf) rfl rfl ?_ | fail)
   exact h _ ⟨_,_,rfl,rfl,.refl _⟩
  | false=>
   rw[hO,if_neg (by simp)] at h
   rw[hO] at hcf
   repeat' (first | (simp -implicitDefEqProofs only[go_sem,qeaV,d_,q_,f_,s_,s10,n_,t_,t11,s14,e1,decide_false,hwg,hmid,List.length_map]) | refine ag_ (fun hb=>?_) (fun hb=>?_) | refine⟨fun hb=>?_,fun hb=>?_⟩ | refine ac_ (hfi) rfl rfl ?_ | refine ac_ (hcf) rfl rfl ?_ | fail)
   refine al_ (fun n st=>∃i:Nat,i+n=q.frees.length∧st=⟨54,[(2,.ref 2 0 0),(3,.ref 3 0 0),(6,.arr 6 0 i),(27,.seq 5 (q.frees.map f11)),(28,iv q.frees.length),(29,iv i)],[(2,⟨false,taQ_,9,[qeaV q]⟩),(3,⟨false,taT_,5,[t11 ⟨tf,ts,tt,(g:Int),tsets⟩]⟩),(6,⟨true,taV_,4,((i11 q).take i).map valV⟩)]⟩) q.frees.length ⟨0,by simp,rfl⟩ ?_
   rintro I hI n st ⟨i,hi,rfl⟩
   have hil:(i11 q).length=q.frees.length:=by simp [i11]
   by_cases hlt':i<q.frees.length
   ·obtain⟨f,hf,_⟩:=as10 hlt'
    have hw:=ws_ hlt' (by omega)
    have hlt:((i:Int)<(q.frees.length:Int))=True:=by simp;exact hlt'
    have hfi2:(i11 q)[i]? =some f.init:=by unfold i11;rw[List.getElem?_map,hf];rfl
    have htk:((i11 q).take (i+1)).map valV=((i11 q).take i).map valV++[valV f.init]:=by rw[List.take_add_one,hfi2];simp
    have hlk:(((i11 q).take i).map valV).length=i:=by simp [hil];omega
    have hb1:(i+1)*40≤140737488355328:=by omega
    have hnx:=hI (n - 1) _ ⟨i+1,by omega,rfl⟩
    clear hI h hev
    rw[htk] at hnx
    generalize ((i11 q).take i).map valV=R at*
    obtain⟨fn,⟨f1,f2,f3,f4⟩⟩:=f
    simp only[valV] at hnx
    repeat' (first | (simp -implicitDefEqProofs only[go_sem,hlt,decide_true,am_ hf,f11,hw,hlk,hb1]) | refine ag_ (fun hb=>?_) (fun hb=>?_) | refine⟨fun hb=>?_,fun hb=>?_⟩ | fail)
    exact aa_ (n - 1) (by omega) hnx
   ·have hlt:((i:Int)<(q.frees.length:Int))=False:=by simp;omega
    have hin:i=q.frees.length:=by omega
    subst hin
    rw[List.take_of_length_le (by omega)]
    have hlk:((i11 q).map valV).length=q.frees.length:=by simp [hil]
    have htk:List.take q.frees.length ((i11 q).map valV)=(i11 q).map valV:=List.take_of_length_le (by omega)
    clear hI
    simp only[v_,qeaV,d_,q_,f_,s_,s10,n_,t_] at hev
    obtain⟨⟨k,m,s,bt⟩,er⟩:=r
    unfold vt at hev
    simp only[valV] at hev
    generalize (i11 q).map valV=R at*
    dsimp only at h
    by_cases h0:er=0
    ·subst h0
     repeat' (first | (simp -implicitDefEqProofs only[go_sem,hlt,decide_false,qeaV,d_,q_,f_,s_,s10,n_,t_,t11,s14]) | refine ag_ (fun hb=>?_) (fun hb=>?_) | refine⟨fun hb=>?_,fun hb=>?_⟩ | (refine ac_ hev ?_ rfl ?_;(focus (simp [v10,flat,flat.go,viewBs,viewB,viewK,viewK.go,hget,htk,hlk];done))) | fail)
     exact h _ ⟨_,_,rfl,rfl,.refl _⟩
    ·have e2:(er != 0)=true:=by simp [h0]
     have e3:(er==0)=false:=by simp [h0]
     rw[e3] at h
     repeat' (first | (simp -implicitDefEqProofs only[go_sem,hlt,decide_false,qeaV,d_,q_,f_,s_,s10,n_,t_,t11,s14,e2]) | refine ag_ (fun hb=>?_) (fun hb=>?_) | refine⟨fun hb=>?_,fun hb=>?_⟩ | (refine ac_ hev ?_ rfl ?_;(focus (simp [v10,flat,flat.go,viewBs,viewB,viewK,viewK.go,hget,htk,hlk];done))) | fail)
     exact h _ ⟨_,_,rfl,rfl,.refl _⟩
theorem me_ {l:List NodeT} {i:Nat}:mid l (i:Int) (i:Int)=[]:=by unfold mid;simp
theorem ma10 {l:List NodeT} {i g:Nat} {x:NodeT} (hx:l[i]? =some x) (h:i≤g):mid l (i:Int) ((g+1:Nat):Int)=x::mid l ((i+1:Nat):Int) ((g+1:Nat):Int):=by
 unfold mid
 rw[Int.toNat_natCast,Int.toNat_natCast,Int.toNat_natCast,da_ hx,show g+1 - i=(g+1 - (i+1))+1 by omega,List.take_succ_cons]
theorem co_ {q:QeaT} {a g:Nat} (h:o15 (mid q.nodes (a:Int) ((g+1:Nat):Int))=false):C10 q a g:=by
 intro j x h1 h2 hx
 unfold o15 at h
 rw[List.any_eq_false] at h
 have hm:x∈mid q.nodes (a:Int) ((g+1:Nat):Int):=by
  unfold mid
  rw[Int.toNat_natCast,Int.toNat_natCast]
  refine List.mem_of_getElem? (i:=j - a) ?_
  rw[List.getElem?_take_of_lt (by omega),List.getElem?_drop,show a+(j - a)=j by omega]
  exact hx
 have:=h x hm
 simp only[Bool.or_eq_true,beq_iff_eq,not_or] at this
 exact this
def SubE (q:QeaT) (a:Int) (g:Nat) (j:Nat):Prop:=∃e,(e10 q)[j]? =some e∧¬e.kind=0∧a≤e.from_∧j≤g
theorem ss17 {q:QeaT} (h64:∀x∈q.nodes,i64 x.value.int) (a:Int) (g:Nat):Safe q (SubE q a g):=by
 refine⟨fun i ⟨e,he,hk,_⟩=>(so10 q h64).node i ⟨e,he,hk⟩,fun i x ⟨e,he,hk,ha,hg⟩ hx h4=>?_⟩
 rcases ed_ he hk hx with ⟨h1,h2,h3⟩ | ⟨h1,h2,j,c,rfl,h4,h5,h6,h7⟩ | ⟨h1,h2,j,k,bb,c,rfl,h4,h5,h6,h7,h8,h9,h10,h11,h12⟩
 ·omega
 ·rw[h4,Int.toNat_natCast]
  exact⟨⟨c,h5,h6,by omega,by omega⟩,fun h=>by omega⟩
 ·rw[h4,h5,Int.toNat_natCast,Int.toNat_natCast]
  have:=ef_ k c h10 h11
  exact⟨⟨c,h10,h11,by omega,by omega⟩,fun _ =>⟨bb,h7,h8,by omega,by omega⟩⟩
theorem rn10 {q:QeaT} (hq:q.LintQ) (j:Nat) (t:TransT) (ht:q.trans[j]? =some t):P_ Tryz.prog G np18 [qeaV q,iv j] (.bool (n17 q t)):=by
 have hsz:=fs11 hq.few
 have hlen:=el_ q q.nodes.length (Nat.le_refl _)
 have hlen':(e10 q).length=q.nodes.length:=hlen
 have hjl:=(List.getElem?_eq_some_iff.1 ht).1
 have hfew:=fo_ q hq.few
 have hgl:∀t∈q.trans,t.guard<1000000∧t.sets.length≤1000000∧∀s∈t.sets,-1000000<s.expr∧s.expr<1000000:=fun t ht=>by
  have tk:=t19 hq.right ht
  refine⟨?_,hfew.sets t ht,fun s hs=>?_⟩
  ·by_cases h0:0≤t.guard
   ·obtain⟨e,he,_⟩:=tk.guard h0
    have:=(List.getElem?_eq_some_iff.1 he).1
    omega
   ·omega
  ·obtain⟨e,f,x,fr,he,_,hx,_⟩:=tk.sets s hs
   have:=(List.getElem?_eq_some_iff.1 hx).1
   omega
 have hgg:∀t∈q.trans,-1000000<t.guard:=fun t ht=>by
  obtain⟨k,hk⟩:=List.getElem?_of_mem ht
  have:=(gf_ hq.right hk).1
  omega
 have hFr:=rFp_ (G:=G) q (by omega) hgl hgg j (by omega)
 refine pp13 (Runs.of fun Φ h=>?_)
 unfold cp14
 unfold n17 at h
 by_cases hg:t.guard<0
 ·rw[if_pos hg] at h
  have e1:(t.guard<0)=True:=by simp;exact hg
  obtain⟨tf,ts,tt,tg,tsets⟩:=t
  dsimp only at e1
  repeat' (first | (simp -implicitDefEqProofs only[go_sem,qeaV,d_,q_,f_,s_,s10,n_,t_,am_ ht,t11,s14,e1,decide_true]) | refine ag_ (fun hb=>?_) (fun hb=>?_) | refine⟨fun hb=>?_,fun hb=>?_⟩ | fail)
  exact h _ ⟨_,_,rfl,rfl,.refl _⟩
 ·rw[if_neg hg] at h
  have e1:(t.guard<0)=False:=by simp;omega
  obtain⟨g,e,hge,he,hk3,hfrom⟩:=(gf_ hq.right ht).2 (by omega)
  have hk:¬e.kind=0:=by omega
  obtain⟨tf,ts,tt,tg,tsets⟩:=t
  dsimp only at hge hg h e1
  subst hge
  rw[Int.toNat_natCast] at h
  rw[at?_nat he] at h
  dsimp only at h
  rw[←hfrom] at hFr
  have hgn:g<q.nodes.length:=by
   have:=(List.getElem?_eq_some_iff.1 he).1
   omega
  have hfr:=ef_ g e he hk
  obtain⟨a,ha⟩:=Int.eq_ofNat_of_zero_le hfr.1
  rw[ha] at h hFr
  rw[show (g:Int)+1=((g+1:Nat):Int) by omega] at h
  simp only[qeaV,d_,q_,f_,s_,s10,n_,t_] at hFr
  repeat' (first | (simp -implicitDefEqProofs only[go_sem,qeaV,d_,q_,f_,s_,s10,n_,t_,am_ ht,t11,s14,e1,decide_false]) | refine ag_ (fun hb=>?_) (fun hb=>?_) | refine⟨fun hb=>?_,fun hb=>?_⟩ | refine ac_ (hFr) rfl rfl ?_ | fail)
  refine al_ (fun n st=>∃i:Nat,a≤i∧i+n=g+1∧o15 (mid q.nodes (i:Int) ((g+1:Nat):Int))=o15 (mid q.nodes (a:Int) ((g+1:Nat):Int))∧st=⟨50,[(2,.ref 2 0 0),(5,iv g),(6,iv i)],[(2,⟨false,taQ_,9,[qeaV q]⟩)]⟩) (g+1 - a) ⟨a,by omega,by omega,rfl,rfl⟩ ?_
  rintro I hI n st ⟨i,hai,hi,hop,rfl⟩
  by_cases hlt':i≤g
  ·obtain⟨x,hx,_⟩:=as10 (l:=q.nodes) (i:=i) (by omega)
   have hw:=ws_ (show i<q.nodes.length by omega) (by omega)
   have hlt:((i:Int)≤(g:Int))=True:=by simp;exact hlt'
   rw[ma10 hx hlt',o15,List.any_cons] at hop
   rw[show (mid q.nodes ((i+1:Nat):Int) ((g+1:Nat):Int)).any (fun x=>x.op==2||x.op==3)=o15 (mid q.nodes ((i+1:Nat):Int) ((g+1:Nat):Int)) from rfl] at hop
   obtain⟨x1,x2,x3,⟨x4,x5,x6,x7⟩⟩:=x
   dsimp only at hop
   generalize hz1:(x1==2)=z1 at*
   generalize hz2:(x1==3)=z2 at*
   cases z1 <;> cases z2 <;> simp only[Bool.or_self,Bool.or_true,Bool.true_or,Bool.or_false,Bool.false_or] at hop
   ·have hnx:=hI (n - 1) _ ⟨i+1,by omega,by omega,hop,rfl⟩
    clear hI h
    repeat' (first | (simp -implicitDefEqProofs only[go_sem,qeaV,d_,q_,f_,s_,s10,n_,t_,hlt,decide_true,am_ hx,n11,hz1,hz2,hw]) | refine ag_ (fun hb=>?_) (fun hb=>?_) | refine⟨fun hb=>?_,fun hb=>?_⟩ | fail)
    exact aa_ (n - 1) (by omega) hnx
   ·rw[←hop,if_pos rfl] at h
    clear hI
    repeat' (first | (simp -implicitDefEqProofs only[go_sem,qeaV,d_,q_,f_,s_,s10,n_,t_,hlt,decide_true,am_ hx,n11,hz1,hz2,hw]) | refine ag_ (fun hb=>?_) (fun hb=>?_) | refine⟨fun hb=>?_,fun hb=>?_⟩ | fail)
    exact h _ ⟨_,_,rfl,rfl,.refl _⟩
   ·rw[←hop,if_pos rfl] at h
    clear hI
    repeat' (first | (simp -implicitDefEqProofs only[go_sem,qeaV,d_,q_,f_,s_,s10,n_,t_,hlt,decide_true,am_ hx,n11,hz1,hz2,hw]) | refine ag_ (fun hb=>?_) (fun hb=>?_) | refine⟨fun hb=>?_,fun hb=>?_⟩ | fail)
    exact h _ ⟨_,_,rfl,rfl,.refl _⟩
   ·rw[←hop,if_pos rfl] at h
    clear hI
    repeat' (first | (simp -implicitDefEqProofs only[go_sem,qeaV,d_,q_,f_,s_,s10,n_,t_,hlt,decide_true,am_ hx,n11,hz1,hz2,hw]) | refine ag_ (fun hb=>?_) (fun hb=>?_) | refine⟨fun hb=>?_,fun hb=>?_⟩ | fail)
    exact h _ ⟨_,_,rfl,rfl,.refl _⟩
  ·have hlt:((i:Int)≤(g:Int))=False:=by simp;omega
   have hig:i=g+1:=by omega
   subst hig
   rw[me_] at hop
   have hop:o15 (mid q.nodes (a:Int) ((g+1:Nat):Int))=false:=hop.symm
   rw[hop,if_neg (by simp)] at h
   have hcl:=co_ hop
   rw[show ((a:Nat):Int)=e.from_ from ha.symm] at hcl
   have hSa:=ss17 (q:=q) hq.n64 (a:Int) g
   have hnf:∀(j:Nat) (x:NodeT),SubE q (a:Int) g j→q.nodes[j]? =some x→¬x.op=3:=fun j x ⟨c,hc,hck,hca,hcg⟩ hx=>by
    have:=ef_ j c hc hck
    exact (hcl j x (by omega) hcg hx).2
   have hE:EnvC q (SubE q (a:Int) g) [] []:=⟨by simp,fun s hs=>(by cases hs),hnf,fun v hv=>(by cases hv),by simp⟩
   have hSg:SubE q (a:Int) g g:=⟨e,he,hk,by omega,by omega⟩
   have hv:=rVp_ (G:=G) hSa hE g hSg
   have hrok:=eo11 hSa hE g hSg
   rw[show n19 q g=(!((ev q [] [] g).2==0)|| !(ev q [] [] g).1.bool) by unfold n19;rw[ec11 (b':=[]) (vals':=[]) g e he hk hcl]] at h
   generalize ev q [] [] g=r at*
   have hv:=P_.fit2 (P:=Tryz.prog) (f:=npV_) (args:=[qeaV q,iv g,.nils,.nils]) (args':=[qeaV q,iv g,s13 [],v_ []]) rfl (fun j c d hc hd=>by
    match j,hc,hd with
    | 0,hc,hd=>cases hc;cases hd;exact .refl _
    | 1,hc,hd=>cases hc;cases hd;exact .refl _
    | 2,hc,hd=>cases hc;cases hd;exact .nil _
    | 3,hc,hd=>cases hc;cases hd;exact .nil _) hv
   have hb:(!(r.2==0)|| !r.1.bool)= !r.1.bool:=by
    by_cases h0:r.2=0
    ·simp [h0]
    ·rw[hrok.none h0]
     simp [v0]
   rw[hb] at h
   obtain⟨⟨k,m,s,bt⟩,er⟩:=r
   unfold vt at hv
   simp only[valV,qeaV,d_,q_,f_,s_,s10,n_,t_] at hv
   clear hI hb hrok
   repeat' (first | (simp -implicitDefEqProofs only[go_sem,qeaV,d_,q_,f_,s_,s10,n_,t_,hlt,decide_false]) | refine ag_ (fun hb=>?_) (fun hb=>?_) | refine⟨fun hb=>?_,fun hb=>?_⟩ | refine ac_ (hv) rfl rfl ?_ | fail)
   exact h _ ⟨_,_,rfl,rfl,.refl _⟩
end Go.Proofs.YtjbcfpkibnhodaaGreatDoor.Ab
