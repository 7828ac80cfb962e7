/-
  What a node's expression comes to; proctorref16.Value. Runs that end in a panic: what is asked of a call, a region, a body. No claim is proved here.
-/
import Derived.Test.YtjbcfpkibnhodaaGreatDoorYV5
set_option linter.unusedSimpArgs false
set_option maxHeartbeats 4000000
set_option maxRecDepth 100000
namespace Go.Proofs.YtjbcfpkibnhodaaGreatDoor.Ab
open Go
variable {G:Nat→Option AV}
def evOp (op:Int) (r s:Val×Int):Val×Int:=
 if ¬r.2=0 then (v0,r.2) else if op≤5 then opR op r.1 v0 else if (op=6∧r.1.bool=false)∨(op=7∧r.1.bool=true) then (r.1,0) else if ¬s.2=0 then (v0,s.2) else opR op r.1 s.1
def evN (q:QeaT) (b:List SlotT) (vals:List Val) (rec:Int→Val×Int) (x:NodeT):Val×Int:=
 if x.op=1 then (x.value,0)
 else if x.op=2 then (match at? q.quants x.a with | some y=>q12 b x.a y.type | none=>(v0,1))
 else if x.op=3 then (match at? vals x.a with | some v=>(v,0) | none=>(v0,1))
 else evOp x.op (rec x.a) (rec x.b)
def ev (q:QeaT) (b:List SlotT) (vals:List Val) (i:Nat):Val×Int:=
 match q.nodes[i]? with
 | none=>(v0,1)
 | some x=>evN q b vals (fun j=>if _h:j.toNat<i then ev q b vals j.toNat else (v0,1)) x
termination_by i
theorem ea_ {q:QeaT} {b:List SlotT} {vals:List Val} {i:Nat} {x:NodeT} (h:q.nodes[i]? =some x):ev q b vals i=evN q b vals (fun j=>if j.toNat<i then ev q b vals j.toNat else (v0,1)) x:=by
 rw[ev,h]
 rfl
def VOk (v:Val):Prop:=v.ok=true∧i64 v.int
theorem VOk.kind {v:Val} (h:VOk v):1≤v.kind∧v.kind≤3:=by
 have:=h.1
 unfold Val.ok at this
 split at this
 ·omega
 ·split at this
  ·omega
  ·simp only[Bool.and_eq_true,decide_eq_true_eq] at this
   omega
theorem VOk.str {v:Val} (h:VOk v):v.str.length≤4096:=by
 have:=h.1
 unfold Val.ok at this
 split at this
 ·simp only[Bool.and_eq_true,beq_iff_eq] at this
  rw[this.1];simp
 ·split at this
  ·simp only[Bool.and_eq_true,decide_eq_true_eq] at this
   omega
  ·simp only[Bool.and_eq_true,decide_eq_true_eq,beq_iff_eq] at this
   rw[this.2.2];simp
def ROk (r:Val×Int):Prop:=(r.2=0∧VOk r.1)∨(r.1=v0∧(r.2=3∨r.2=6∨r.2=7∨r.2=8∨r.2=9))
theorem VOk.truth (b:Bool):VOk ⟨3,0,[],b⟩:=⟨rfl,by unfold i64;simp⟩
theorem VOk.num {n:Int} (h:i64 n):VOk ⟨1,n,[],false⟩:=⟨rfl,h⟩
theorem ROk.ovR {n:Int}:(ovR n).2=0∧i64 (ovR n).1∨(ovR n).2=6:=by
 unfold Ab.ovR
 split
 ·rename_i h
  exact .inl ⟨rfl,by unfold i64;have:=ii_.1 h;dsimp only;omega⟩
 ·exact .inr rfl
theorem no12 {op a b:Int} (ha:i64 a) (hop:op=5∨(8≤op∧op≤12)):((numR op a b).2=0∧i64 (numR op a b).1)∨(numR op a b).2=6∨(numR op a b).2=7:=by
 have h:∀n,((ovR n).2=0∧i64 (ovR n).1)∨(ovR n).2=6∨(ovR n).2=7:=fun n=>(ROk.ovR (n:=n)).imp id .inl
 have hop':op=5∨op=8∨op=9∨op=10∨op=11∨op=12:=by omega
 unfold numR
 rcases hop' with rfl | rfl | rfl | rfl | rfl | rfl
 ·exact h _
 ·exact h _
 ·exact h _
 ·exact h _
 ·show ((divR a b).2=0∧i64 (divR a b).1)∨(divR a b).2=6∨(divR a b).2=7
  unfold divR
  split
  ·exact .inr (.inr rfl)
  ·exact h _
 ·show ((modR a b).2=0∧i64 (modR a b).1)∨(modR a b).2=6∨(modR a b).2=7
  unfold modR
  split
  ·exact .inr (.inr rfl)
  ·exact .inl ⟨rfl,ts13 ha⟩
theorem to13 (s:Str):ROk (t26 s):=by
 unfold t26
 split
 ·exact .inr ⟨rfl,.inl rfl⟩
 ·refine .inl ⟨rfl,?_,by unfold i64;simp⟩
  simp [Val.ok]
  omega
theorem oo10 {op:Int} {a b:Val} (ha:VOk a) (hop:4≤op∧op≤16):ROk (opR op a b):=by
 unfold opR
 rw[if_neg (by omega)]
 split
 ·exact .inr ⟨rfl,.inr (.inr (.inr (.inl rfl)))⟩
 rename_i hk
 split
 ·exact .inl ⟨rfl,.truth _⟩
 split
 ·exact .inl ⟨rfl,.truth _⟩
 split
 ·exact .inl ⟨rfl,.truth _⟩
 split
 ·exact .inl ⟨rfl,.truth _⟩
 split
 ·exact .inl ⟨rfl,.truth _⟩
 split
 ·exact .inl ⟨rfl,.truth _⟩
 split
 ·exact .inl ⟨rfl,.truth _⟩
 split
 ·exact to13 _
 rcases no12 (op:=op) (b:=b.int) ha.2 (by omega) with ⟨h1,h2⟩ | h1 | h1
 ·rw[if_pos h1];exact .inl ⟨rfl,.num h2⟩
 ·rw[if_neg (by omega),h1];exact .inr ⟨rfl,by simp⟩
 ·rw[if_neg (by omega),h1];exact .inr ⟨rfl,by simp⟩
inductive NodeW (q:QeaT) (i:Nat) (x:NodeT):Prop where
 | con (h:x.op=1) (hv:VOk x.value)
 | quant (h:x.op=2) (j:Nat) (hj:x.a=j) (y:QuantT) (hy:q.quants[j]? =some y)
 | free (h:x.op=3) (j:Nat) (hj:x.a=j) (y:FreeT) (hy:q.frees[j]? =some y)
 | una (h:x.op=4∨x.op=5) (j:Nat) (hj:x.a=j) (hlt:j<i)
 | bin (h:6≤x.op∧x.op≤16) (j k:Nat) (hj:x.a=j) (hk:x.b=k) (hj':j<i) (hk':k<i)
structure Safe (q:QeaT) (S:Nat→Prop):Prop where
 node:∀i,S i→∃x,q.nodes[i]? =some x∧NodeW q i x
 sub:∀i x,S i→q.nodes[i]? =some x→4≤x.op→S x.a.toNat∧(6≤x.op→S x.b.toNat)
structure Env (q:QeaT) (b:List SlotT) (vals:List Val):Prop where
 bl:b.length≤1000000
 bok:∀s∈b,VOk s.value
 fit:vals.length=q.frees.length
 vok:∀v∈vals,VOk v
 vl:vals.length≤1000000
theorem go10 {b:List SlotT} (h:∀s∈b,VOk s.value) {v:Int} (hg:(getR b v).2=true):VOk (getR b v).1:=by
 unfold getR at hg ⊢
 split
 ·rename_i s hs
  exact h s (List.mem_of_find?_eq_some hs)
 ·rename_i hn
  rw[hn] at hg
  cases hg
theorem qo_ {b:List SlotT} (h:∀s∈b,VOk s.value) (a t:Int):ROk (q12 b a t):=by
 unfold q12
 split
 ·rename_i hg
  exact .inl ⟨rfl,go10 h hg.1⟩
 ·exact .inr ⟨rfl,by simp⟩
theorem eu_ {q:QeaT} {b:List SlotT} {vals:List Val} {i j:Nat} {x:NodeT} (hx:q.nodes[i]? =some x) (h:x.op=4∨x.op=5) (hj:x.a=j) (hlt:j<i):ev q b vals i=if ¬(ev q b vals j).2=0 then (v0,(ev q b vals j).2) else opR x.op (ev q b vals j).1 v0:=by
 rw[ea_ hx]
 unfold evN
 rw[if_neg (by omega),if_neg (by omega),if_neg (by omega),hj]
 dsimp only
 rw[Int.toNat_natCast,if_pos hlt]
 unfold evOp
 split
 ·rfl
 ·rw[if_pos (by omega)]
theorem eb_ {q:QeaT} {b:List SlotT} {vals:List Val} {i j k:Nat} {x:NodeT} (hx:q.nodes[i]? =some x) (h:6≤x.op∧x.op≤16) (hj:x.a=j) (hk:x.b=k) (hlt:j<i) (hlk:k<i):ev q b vals i=evOp x.op (ev q b vals j) (ev q b vals k):=by
 rw[ea_ hx]
 unfold evN
 rw[if_neg (by omega),if_neg (by omega),if_neg (by omega),hj,hk]
 dsimp only
 rw[Int.toNat_natCast,Int.toNat_natCast,if_pos hlt,if_pos hlk]
theorem ev_ok {q:QeaT} {b:List SlotT} {vals:List Val} {S:Nat→Prop} (hS:Safe q S) (hE:Env q b vals) (i:Nat) (hi:S i):ROk (ev q b vals i):=by
 induction i using Nat.strongRecOn with
 | _ i ih=>
  obtain⟨x,hx,hw⟩:=hS.node i hi
  cases hw with
  | con h hv=>rw[ea_ hx,evN,if_pos h];exact .inl ⟨rfl,hv⟩
  | quant h j hj y hy=>
   rw[ea_ hx,evN,if_neg (by omega),if_pos h,hj,at?_nat hy]
   exact qo_ hE.bok _ _
  | free h j hj y hy=>
   have hlt:=(List.getElem?_eq_some_iff.1 hy).1
   obtain⟨v,hv,hm⟩:=as10 (l:=vals) (i:=j) (by have:=hE.fit;omega)
   rw[ea_ hx,evN,if_neg (by omega),if_neg (by omega),if_pos h,hj,at?_nat hv]
   exact .inl ⟨rfl,hE.vok v hm⟩
  | una h j hj hlt=>
   have hs:=(hS.sub i x hi hx (by omega)).1
   rw[hj,Int.toNat_natCast] at hs
   rw[eu_ hx h hj hlt]
   rcases ih j hlt hs with ⟨h1,h2⟩ | ⟨h1,h2⟩
   ·rw[if_neg (by omega)];exact oo10 h2 (by omega)
   ·rw[if_pos (by omega)];exact .inr ⟨rfl,h2⟩
  | bin h j k hj hk hlt hlk=>
   obtain⟨hs,hs2⟩:=hS.sub i x hi hx (by omega)
   have hs2:=hs2 (by omega)
   rw[hj,Int.toNat_natCast] at hs
   rw[hk,Int.toNat_natCast] at hs2
   rw[eb_ hx h hj hk hlt hlk]
   unfold evOp
   rcases ih j hlt hs with ⟨h1,h2⟩ | ⟨h1,h2⟩
   ·rw[if_neg (by omega),if_neg (by omega)]
    split
    ·exact .inl ⟨rfl,h2⟩
    ·rcases ih k hlk hs2 with ⟨h3,h4⟩ | ⟨h3,h4⟩
     ·rw[if_neg (by omega)];exact oo10 h2 (by omega)
     ·rw[if_pos (by omega)];exact .inr ⟨rfl,h4⟩
   ·rw[if_pos (by omega)];exact .inr ⟨rfl,h2⟩
theorem VOk.zero:i64 v0.int:=by unfold i64;simp
theorem rVp_ {q:QeaT} {b:List SlotT} {vals:List Val} {S:Nat→Prop} (hS:Safe q S) (hE:Env q b vals) (i:Nat) (hi:S i):P_ Tryz.prog G npV_ [qeaV q,iv i,s11 b,v_ vals] (vt (ev q b vals i)):=by
 induction i using Nat.strongRecOn with
 | _ i ih=>
  obtain⟨x,hx,hw⟩:=hS.node i hi
  refine ppV_ (Runs.of fun Φ h=>?_)
  unfold cpV_
  unfold vt at h
  have hsub:=hS.sub i x hi hx
  obtain⟨op,xa,xb,⟨vk,vn,vs,vb⟩⟩:=x
  cases hw with
  | con ho hv=>
   dsimp only at ho
   subst ho
   rw[ea_ hx,evN,if_pos rfl] at h
   repeat' (first|simp -implicitDefEqProofs only[go_sem,qeaV,d_,q_,f_,s_,s10,n_,t_,am_ hx,n11,valV]|refine ag_ (fun hb=>?_) (fun hb=>?_)|refine⟨fun hb=>?_,fun hb=>?_⟩|fail)
   exact h _ ⟨_,_,rfl,rfl,.refl _⟩
  | quant ho j hj y hy=>
   dsimp only at ho hj
   subst ho
   subst hj
   rw[ea_ hx,evN,if_neg (by simp),if_pos rfl,at?_nat hy] at h
   dsimp only at h
   have hg:=rGp_ (G:=G) b (by have:=hE.bl;omega) j
   unfold q12 at h
   generalize getR b j=r at*
   obtain⟨⟨k,n,s,t⟩,ok⟩:=r
   unfold vbt s11 at hg
   simp only[valV] at hg h
   cases ok
   ·repeat' (first|simp -implicitDefEqProofs only[go_sem,qeaV,d_,q_,f_,s_,s10,n_,t_,am_ hx,n11,s11,v_,am_ hy,q11]|refine ag_ (fun hb=>?_) (fun hb=>?_)|refine⟨fun hb=>?_,fun hb=>?_⟩|refine ac_ hg rfl rfl ?_|fail)
    exact h _ ⟨_,_,rfl,rfl,fe_ (by simp)⟩
   ·by_cases hk:k=y.type
    ·subst hk
     repeat' (first|simp -implicitDefEqProofs only[go_sem,qeaV,d_,q_,f_,s_,s10,n_,t_,am_ hx,n11,s11,v_,am_ hy,q11,bne_self_eq_false]|refine ag_ (fun hb=>?_) (fun hb=>?_)|refine⟨fun hb=>?_,fun hb=>?_⟩|refine ac_ hg rfl rfl ?_|fail)
     exact h _ ⟨_,_,rfl,rfl,fe_ (by simp)⟩
    ·have hk':(k != y.type)=true:=by simpa using hk
     repeat' (first|simp -implicitDefEqProofs only[go_sem,qeaV,d_,q_,f_,s_,s10,n_,t_,am_ hx,n11,s11,v_,am_ hy,q11,hk']|refine ag_ (fun hb=>?_) (fun hb=>?_)|refine⟨fun hb=>?_,fun hb=>?_⟩|refine ac_ hg rfl rfl ?_|fail)
     exact h _ ⟨_,_,rfl,rfl,fe_ (by simp [hk])⟩
  | free ho j hj y hy=>
   dsimp only at ho hj
   subst ho
   subst hj
   have hlt:=(List.getElem?_eq_some_iff.1 hy).1
   obtain⟨v,hv,hm⟩:=as10 (l:=vals) (i:=j) (by have:=hE.fit;omega)
   rw[ea_ hx,evN,if_neg (by simp),if_neg (by simp),if_pos rfl,at?_nat hv] at h
   repeat' (first|simp -implicitDefEqProofs only[go_sem,qeaV,d_,q_,f_,s_,s10,n_,t_,am_ hx,n11,s11,v_,am_ hv,valV]|refine ag_ (fun hb=>?_) (fun hb=>?_)|refine⟨fun hb=>?_,fun hb=>?_⟩|fail)
   exact h _ ⟨_,_,rfl,rfl,.refl _⟩
  | una ho j hj hlt=>
   rw[eu_ hx ho hj hlt] at h
   dsimp only at ho hj h
   subst hj
   have hs:=(hsub (by dsimp only;omega)).1
   dsimp only at hs
   rw[Int.toNat_natCast] at hs
   have hc:=ih j hlt hs
   have hop:P_ Tryz.prog G npO_ [iv op,valV (ev q b vals j).1,valV v0] (vt (opR op (ev q b vals j).1 v0))∨¬(ev q b vals j).2=0:=by
    rcases ev_ok hS hE j hs with ⟨h1,h2⟩ | ⟨h1,h2⟩
    ·exact .inl (rO10 op _ v0 h2.2 VOk.zero (by have:=h2.str;simp;omega) (by omega) h2.kind)
    ·exact .inr (by omega)
   generalize ev q b vals j=r at*
   obtain⟨⟨k,n,s,t⟩,e⟩:=r
   dsimp only at h hop
   generalize opR op ⟨k,n,s,t⟩ v0=z at*
   obtain⟨⟨zk,zn,zs,zt⟩,ze⟩:=z
   unfold vt s11 v_ at*
   simp only[valV,qeaV,d_,q_,f_,s_,s10,n_,t_] at hc hop h
   clear ih hsub
   rcases hop with hop | hne
   ·by_cases he:e=0
    ·subst he
     simp only[not_true_eq_false,if_false] at h
     rcases ho with rfl | rfl
     all_goals
      repeat' (first|simp -implicitDefEqProofs only[go_sem,qeaV,d_,q_,f_,s_,s10,n_,t_,am_ hx,n11]|refine ag_ (fun hb=>?_) (fun hb=>?_)|refine⟨fun hb=>?_,fun hb=>?_⟩|refine ac_ hc rfl rfl ?_|refine ac_ hop rfl rfl ?_|fail)
      exact h _ ⟨_,_,rfl,rfl,.refl _⟩
    ·have he':(e != 0)=true:=by simpa using he
     rw[if_pos he] at h
     rcases ho with rfl | rfl
     all_goals
      repeat' (first|simp -implicitDefEqProofs only[go_sem,qeaV,d_,q_,f_,s_,s10,n_,t_,am_ hx,n11,he']|refine ag_ (fun hb=>?_) (fun hb=>?_)|refine⟨fun hb=>?_,fun hb=>?_⟩|refine ac_ hc rfl rfl ?_|fail)
      exact h _ ⟨_,_,rfl,rfl,.refl _⟩
   ·have he':(e != 0)=true:=by simpa using hne
    rw[if_pos hne] at h
    rcases ho with rfl | rfl
    all_goals
     repeat' (first|simp -implicitDefEqProofs only[go_sem,qeaV,d_,q_,f_,s_,s10,n_,t_,am_ hx,n11,he']|refine ag_ (fun hb=>?_) (fun hb=>?_)|refine⟨fun hb=>?_,fun hb=>?_⟩|refine ac_ hc rfl rfl ?_|fail)
     exact h _ ⟨_,_,rfl,rfl,.refl _⟩
  | bin ho j k hj hk hlt hlk=>
   rw[eb_ hx ho hj hk hlt hlk] at h
   dsimp only at ho hj hk h
   subst hj
   subst hk
   obtain⟨hs,hs2⟩:=hsub (by dsimp only;omega)
   have hs2:=hs2 (by dsimp only;omega)
   dsimp only at hs hs2
   rw[Int.toNat_natCast] at hs hs2
   have hc1:=ih j hlt hs
   have hc2:=ih k hlk hs2
   have hop:(ev q b vals j).2=0→(ev q b vals k).2=0→P_ Tryz.prog G npO_ [iv op,valV (ev q b vals j).1,valV (ev q b vals k).1] (vt (opR op (ev q b vals j).1 (ev q b vals k).1)):=fun z1 z2=>by
    rcases ev_ok hS hE j hs with ⟨h1,h2⟩ | ⟨h1,h2⟩
    ·rcases ev_ok hS hE k hs2 with ⟨h3,h4⟩ | ⟨h3,h4⟩
     ·exact rO10 op _ _ h2.2 h4.2 (by have:=h2.str;have:=h4.str;omega) (by omega) h2.kind
     ·omega
    ·omega
   unfold evOp at h
   generalize ev q b vals j=r at*
   generalize ev q b vals k=u at*
   obtain⟨⟨rk,rn,rs,rb⟩,e⟩:=r
   obtain⟨⟨uk,un,us,ub⟩,f⟩:=u
   dsimp only at h hop
   generalize opR op ⟨rk,rn,rs,rb⟩ ⟨uk,un,us,ub⟩=z at*
   obtain⟨⟨zk,zn,zs,zt⟩,ze⟩:=z
   unfold vt s11 v_ at*
   simp only[valV,qeaV,d_,q_,f_,s_,s10,n_,t_] at hc1 hc2 hop h
   clear ih hsub
   have n1:(op==1)=false:=by simp;omega
   have n2:(op==2)=false:=by simp;omega
   have n3:(op==3)=false:=by simp;omega
   have n5:(op≤5)=False:=by simp;omega
   by_cases he:e=0
   ·subst he
    rw[if_neg (by omega),if_neg (by omega)] at h
    have tail:(¬((op=6∧rb=false)∨(op=7∧rb=true)))→∀b6 b7:Bool,(op==6)=b6→(op==7)=b7→True:=fun _ _ _ _ _ =>trivial
    by_cases hf:f=0
    ·subst hf
     have hop:=hop rfl rfl
     by_cases h6:op=6
     ·subst h6
      cases rb
      ·repeat' (first|simp -implicitDefEqProofs only[go_sem,qeaV,d_,q_,f_,s_,s10,n_,t_,am_ hx,n11]|refine ag_ (fun hb=>?_) (fun hb=>?_)|refine⟨fun hb=>?_,fun hb=>?_⟩|refine ac_ hc1 rfl rfl ?_|refine ac_ hc2 rfl rfl ?_|refine ac_ hop rfl rfl ?_|fail)
       exact h _ ⟨_,_,rfl,rfl,.refl _⟩
      ·repeat' (first|simp -implicitDefEqProofs only[go_sem,qeaV,d_,q_,f_,s_,s10,n_,t_,am_ hx,n11]|refine ag_ (fun hb=>?_) (fun hb=>?_)|refine⟨fun hb=>?_,fun hb=>?_⟩|refine ac_ hc1 rfl rfl ?_|refine ac_ hc2 rfl rfl ?_|refine ac_ hop rfl rfl ?_|fail)
       exact h _ ⟨_,_,rfl,rfl,.refl _⟩
     by_cases h7:op=7
     ·subst h7
      cases rb
      ·repeat' (first|simp -implicitDefEqProofs only[go_sem,qeaV,d_,q_,f_,s_,s10,n_,t_,am_ hx,n11]|refine ag_ (fun hb=>?_) (fun hb=>?_)|refine⟨fun hb=>?_,fun hb=>?_⟩|refine ac_ hc1 rfl rfl ?_|refine ac_ hc2 rfl rfl ?_|refine ac_ hop rfl rfl ?_|fail)
       exact h _ ⟨_,_,rfl,rfl,.refl _⟩
      ·repeat' (first|simp -implicitDefEqProofs only[go_sem,qeaV,d_,q_,f_,s_,s10,n_,t_,am_ hx,n11]|refine ag_ (fun hb=>?_) (fun hb=>?_)|refine⟨fun hb=>?_,fun hb=>?_⟩|refine ac_ hc1 rfl rfl ?_|refine ac_ hc2 rfl rfl ?_|refine ac_ hop rfl rfl ?_|fail)
       exact h _ ⟨_,_,rfl,rfl,.refl _⟩
     rw[if_neg (by omega),if_neg (by omega)] at h
     have n6:(op==6)=false:=by simpa using h6
     have n7:(op==7)=false:=by simpa using h7
     repeat' (first|simp -implicitDefEqProofs only[go_sem,qeaV,d_,q_,f_,s_,s10,n_,t_,am_ hx,n11,n1,n2,n3,n5,n6,n7,decide_false]|refine ag_ (fun hb=>?_) (fun hb=>?_)|refine⟨fun hb=>?_,fun hb=>?_⟩|refine ac_ hc1 rfl rfl ?_|refine ac_ hc2 rfl rfl ?_|refine ac_ hop rfl rfl ?_|fail)
     exact h _ ⟨_,_,rfl,rfl,.refl _⟩
    ·have he':(f != 0)=true:=by simpa using hf
     clear hop
     by_cases h6:op=6
     ·subst h6
      cases rb
      ·repeat' (first|simp -implicitDefEqProofs only[go_sem,qeaV,d_,q_,f_,s_,s10,n_,t_,am_ hx,n11,he']|refine ag_ (fun hb=>?_) (fun hb=>?_)|refine⟨fun hb=>?_,fun hb=>?_⟩|refine ac_ hc1 rfl rfl ?_|refine ac_ hc2 rfl rfl ?_|fail)
       exact h _ ⟨_,_,rfl,rfl,.refl _⟩
      ·rw[if_neg (by simp),if_pos hf] at h
       repeat' (first|simp -implicitDefEqProofs only[go_sem,qeaV,d_,q_,f_,s_,s10,n_,t_,am_ hx,n11,he']|refine ag_ (fun hb=>?_) (fun hb=>?_)|refine⟨fun hb=>?_,fun hb=>?_⟩|refine ac_ hc1 rfl rfl ?_|refine ac_ hc2 rfl rfl ?_|fail)
       exact h _ ⟨_,_,rfl,rfl,.refl _⟩
     by_cases h7:op=7
     ·subst h7
      cases rb
      ·rw[if_neg (by simp),if_pos hf] at h
       repeat' (first|simp -implicitDefEqProofs only[go_sem,qeaV,d_,q_,f_,s_,s10,n_,t_,am_ hx,n11,he']|refine ag_ (fun hb=>?_) (fun hb=>?_)|refine⟨fun hb=>?_,fun hb=>?_⟩|refine ac_ hc1 rfl rfl ?_|refine ac_ hc2 rfl rfl ?_|fail)
       exact h _ ⟨_,_,rfl,rfl,.refl _⟩
      ·repeat' (first|simp -implicitDefEqProofs only[go_sem,qeaV,d_,q_,f_,s_,s10,n_,t_,am_ hx,n11,he']|refine ag_ (fun hb=>?_) (fun hb=>?_)|refine⟨fun hb=>?_,fun hb=>?_⟩|refine ac_ hc1 rfl rfl ?_|refine ac_ hc2 rfl rfl ?_|fail)
       exact h _ ⟨_,_,rfl,rfl,.refl _⟩
     rw[if_neg (by omega),if_pos hf] at h
     have n6:(op==6)=false:=by simpa using h6
     have n7:(op==7)=false:=by simpa using h7
     repeat' (first|simp -implicitDefEqProofs only[go_sem,qeaV,d_,q_,f_,s_,s10,n_,t_,am_ hx,n11,n1,n2,n3,n5,n6,n7,he',decide_false]|refine ag_ (fun hb=>?_) (fun hb=>?_)|refine⟨fun hb=>?_,fun hb=>?_⟩|refine ac_ hc1 rfl rfl ?_|refine ac_ hc2 rfl rfl ?_|fail)
     exact h _ ⟨_,_,rfl,rfl,.refl _⟩
   ·have he':(e != 0)=true:=by simpa using he
    rw[if_pos he] at h
    repeat' (first|simp -implicitDefEqProofs only[go_sem,qeaV,d_,q_,f_,s_,s10,n_,t_,am_ hx,n11,n1,n2,n3,he']|refine ag_ (fun hb=>?_) (fun hb=>?_)|refine⟨fun hb=>?_,fun hb=>?_⟩|refine ac_ hc1 rfl rfl ?_|fail)
    exact h _ ⟨_,_,rfl,rfl,.refl _⟩
end Go.Proofs.YtjbcfpkibnhodaaGreatDoor.Ab
namespace Go.Proofs.YtjbcfpkibnhodaaGreatDoor.Ab
open Go Go.RowKit
set_option linter.unusedVariables false
def P10 (P:Program) (G:Nat→Option AV) (f:Nat) (args:List AV) (pv:AV):Prop:=
 ∀(w:World) (F:Nat→Prop) (vs:Array Value),Good w F G→A_ w F args vs→
  Calls P f vs w fun e w'=>∃v,e= .panicked [{v:=v,recovered:=false}]∧(∀W F nm,Rd W F nm pv v)∧Below w.heap.size w w'
def PanQ (w0:World) (pv:AV):Exit→Act→World→Prop
 | .panic ch,a,w=>a.defers=[]∧∃v,ch=[{v:=v,recovered:=false}]∧(∀W F nm,Rd W F nm pv v)∧Below w0.heap.size w0 w
 | _,_,_ =>False
abbrev pctx (w0:World) (F:Nat→Prop):Ctx:=⟨w0,F,fun _ =>False,fun _ =>False,n10⟩
def panO (P:Program) (G:Nat→Option AV) (f:Nat) (xs:List Opd) (pv:AV) (st:St):Prop:=
 ∃vargs args',viewBs st.heap (evs G st xs)=some vargs∧FitL vargs args'∧P10 P G f args' pv
def PW (P:Program) (G:Nat→Option AV) (pv:AV) (ac:AC) (st:St):Prop:=
 ∀(w0:World) (F:Nat→Prop) (c:Code) (a:Act) (w:World),chkC P c ac=true→Rel G (pctx w0 F) st a w→c.wp P (PanQ w0 pv) a w
section
variable {P:Program} {G:Nat→Option AV} {pv:AV} {st:St}
theorem pc13 {w0:World} {F0:Nat→Prop} {nm:N_} {F:Nat→Prop} {a:Act} {w:World} (h:RelX G (pctx w0 F0) nm F st a w) {f:Nat} {args vargs args':List AV} {us:List Value} (hl:args.length=us.length)
  (hrd:∀(j:Nat) c u,args[j]? =some c→us[j]? =some u→Rd w F nm c u) (hv:viewBs st.heap args=some vargs) (hfit:FitL vargs args') (hc:P10 P G f args' pv):
  Calls P f us.toArray w fun e w'=>∃v,e= .panicked [{v:=v,recovered:=false}]∧(∀W F nm,Rd W F nm pv v)∧Below w0.heap.size w0 w':=by
 obtain⟨hfl,hfa⟩:=hfit.at_
 have argsR:∀F1:Nat→Prop,(vargs.length=us.length∧∀(j:Nat) c u,vargs[j]? =some c→us[j]? =some u→Rd w F1 n10 c u)→A_ w F1 args' us.toArray:=by
  rintro F1 ⟨hlen,hrv⟩
  refine⟨by simp;omega,fun j c u hc hu=>?_⟩
  have hj:j<vargs.length:=by rw[hfl];exact (List.getElem?_eq_some_iff.1 hc).1
  have hjc:=List.getElem?_eq_getElem hj
  exact (hrv j _ u hjc (by simpa using hu)).fit (hfa j _ c hjc hc)
 have hlt:∀k,(F k∨Own nm st.heap k)→k<w.heap.size:=fun k hk=>by
  rcases hk with hk | ⟨i,b,m,hi,hm,rfl⟩
  ·exact h.good.1 k hk
  ·exact h.lt hi hm
 have hg:Good w (fun k=>F k∨Own nm st.heap k) G:=h.good.mono (fun _ _ =>rfl) (fun _ h=>.inl h) hlt
 refine (hc w _ us.toArray hg (argsR _ (vr10 h.box (fun _ h=>.inl h) (fun _ h=>.inr h) hv hl hrd))).mono ?_
 rintro e w' ⟨v,rfl,hr,hb⟩
 have hk:Below w0.heap.size w0 w:=⟨h.keep.os,h.keep.tape,h.keep.output,h.keep.size,fun k hk=>h.keep.block k hk (fun h=>h)⟩
 exact⟨v,rfl,hr,hk.trans (hb.mono h.keep.size)⟩
theorem ps_ {w0:World} {F0:Nat→Prop} {a:Act} {w:World} (h:Rel G (pctx w0 F0) st a w) {o:Oper} {f:Nat} {xs:List Opd} (hc:c10 P o.op (.call f xs)=true) (hp:panO P G f xs pv st) (K':Act→World→Prop):o.wp P a w K' (PanQ w0 pv):=by
 obtain⟨nm,F,hx⟩:=h
 generalize hop:o.op=op at hc
 cases op <;> try (simp only[c10,Bool.false_eq_true] at hc;done)
 rename_i cl
 obtain⟨callee,args,tys⟩:=cl
 cases callee <;> try (simp only[c10,Bool.false_eq_true] at hc;done)
 rename_i x
 simp only[c10,Bool.and_eq_true] at hc
 obtain⟨⟨h1,h2⟩,h3⟩:=hc
 cases x <;> simp only[beq_iff_eq,Bool.false_eq_true] at h1
 subst h1
 rename_i f
 have hrun:(execOp a.eval o).run P w= .ok (.enter f (args.toList.map a.eval).toArray) w:=by
  have:=cr_ (args:=(args.toList.map a.eval).toArray) h3 w
  simp only[execOp,hop,resolve,Sem.run_bind,Act.eval,Deferred.ofValue,Sem.run_pure,Result.andThen_ok,invoke]
  rw[ma_] at this ⊢
  simpa using this
 obtain⟨h4,h5⟩:=hx.opds h2
 obtain⟨vargs,args',hv,hf,hpc⟩:=hp
 unfold Oper.wp
 rw[hrun,Oper.upon_enter]
 refine (pc13 hx h4 h5 hv hf hpc).mono ?_
 rintro e w' ⟨v,rfl,hr,hb⟩
 exact⟨hx.df,v,rfl,hr,hb⟩
theorem po_ {ops:Array Oper} {w0:World} {F0:Nat→Prop} {d:Option Nat} {f:Nat} {xs:List Opd} {post:List AO}:∀(pre:List AO) (l:List Oper) (st:St) (a:Act) (w:World),c12 P ops l (pre++⟨d,.call f xs,none⟩::post)=true→
  opsP P G false pre st (panO P G f xs pv)→Rel G (pctx w0 F0) st a w→wpList P ops (PanQ w0 pv) l a w
 | [],[],_,_,_,hc,_,_ =>by simp [c12] at hc
 | [],o::l,st,a,w,hc,hk,h=>by
  simp only[List.nil_append,c12,Bool.and_eq_true] at hc
  obtain⟨hc1,hc⟩:=hc
  simp only[c25,Bool.and_eq_true] at hc1
  obtain⟨⟨⟨hd,hg⟩,hop⟩,hs⟩:=hc1
  refine wpList_step fun K' hK'=>?_
  have hgn:o.guard=none:=by
   cases hgd:o.guard with
   | none=>rfl
   | some g=>rw[hgd] at hg;obtain⟨j,b⟩:=g;simp [c18] at hg
  simp only[Region.wanted,hgn,if_true]
  exact ps_ h hop hk K'
 | p::pre,[],_,_,_,hc,_,_ =>by simp [c12] at hc
 | p::pre,o::l,st,a,w,hc,hk,h=>by
  simp only[List.cons_append,c12,Bool.and_eq_true] at hc
  refine wpList_step fun K' hK'=>?_
  exact os_ h hc.1 hk fun st' a' w' h1 h2=>hK' _ _ (po_ pre l st' a' w' hc.2 h1 h2)
theorem ot_ {q:Bool} {os:List AO} {kt:List Nat} {S:St→Prop} (h:runO P G (fun _ =>False) q os kt [.cut S] st):opsP P G q os st fun st'=>S {st' with env:=st'.trimE kt}:=h
theorem PW.seq2 {a b:AC} (h:run P G (fun _ =>False) a [.cut (PW P G pv b)] st):PW P G pv (.seq a b) st:=by
 intro w0 F c a' w hc hr
 cases c <;> simp only[chkC,Bool.false_eq_true,Bool.and_eq_true] at hc
 refine wp_seq (wp_mono (as14 _ _ _ _ _ _ hc.1 h hr) fun e a2 w2 hq=>?_)
 cases e <;> simp only[l20,Exit.then] at hq ⊢
 ·obtain⟨st',h1,h2⟩:=hq;exact h1 w0 F _ _ _ hc.2 h2
 ·obtain⟨st',h1,h2⟩:=hq;exact (h1:False).elim
 ·obtain⟨st',h1,h2⟩:=hq;exact (h1:False).elim
theorem PW.seq1 {a b:AC} (h:PW P G pv a st):PW P G pv (.seq a b) st:=by
 intro w0 F c a' w hc hr
 cases c <;> simp only[chkC,Bool.false_eq_true,Bool.and_eq_true] at hc
 refine wp_seq (wp_mono (h w0 F _ _ _ hc.1 hr) fun e a2 w2 hq=>?_)
 cases e <;> first | exact hq | exact hq.elim
theorem PW.block {id:Nat} {a:AC} (h:PW P G pv a st):PW P G pv (.block id a) st:=by
 intro w0 F c a' w hc hr
 cases c <;> simp only[chkC,Bool.false_eq_true,Bool.and_eq_true,beq_iff_eq] at hc
 refine wp_block (wp_mono (h w0 F _ _ _ hc.2 hr) fun e a2 w2 hq=>?_)
 cases e <;> first | exact hq | exact hq.elim
theorem PW.cond {x:Opd} {a b:AC} {β:Bool} (hx:st.ev G x= .bool β) (h1:β=true→PW P G pv a st) (h2:β=false→PW P G pv b st):PW P G pv (.cond x a b) st:=by
 intro w0 F c a' w hc hr
 cases c <;> simp only[chkC,Bool.false_eq_true,Bool.and_eq_true] at hc
 obtain⟨⟨hc1,hc2⟩,hc3⟩:=hc
 obtain⟨nm,F1,hxx⟩:=hr
 have hrd:=hxx.opd hc1
 rw[hx] at hrd
 generalize hev:a'.eval _ =v at hrd
 cases hrd
 refine wp_cond hev ?_
 cases β
 ·exact h2 rfl w0 F _ _ _ hc3 ⟨nm,F1,hxx⟩
 ·exact h1 rfl w0 F _ _ _ hc2 ⟨nm,F1,hxx⟩
theorem PW.reg (n:Nat) {ops:List AO} {kt:List Nat} {d:Option Nat} {f:Nat} {xs:List Opd} (ho:ops[n]? =some ⟨d,.call f xs,none⟩) (h:opsP P G false (ops.take n) st (panO P G f xs pv)):PW P G pv (.reg ops kt) st:=by
 intro w0 F c a' w hc hr
 cases c <;> simp only[chkC,Bool.false_eq_true,Bool.and_eq_true,Bool.not_eq_true'] at hc
 obtain⟨hd,hc⟩:=hc
 subst hd
 have hlt:=(List.getElem?_eq_some_iff.1 ho).1
 have e:ops=ops.take n++⟨d,.call f xs,none⟩::ops.drop (n+1):=by
  conv=>lhs;rw[←List.take_append_drop n ops,List.drop_eq_getElem_cons hlt]
  rw[(List.getElem?_eq_some_iff.1 ho).2]
 rw[e] at hc
 exact wp_region_list (po_ _ _ _ _ _ hc h hr)
def b13 (aos:List AO) (n:Nat):Bool:=
 (List.range aos.length).all fun i=>decide (i≤n)||match aos[i]? with
  | none=>true
  | some x=>!q10 x.op||(List.range i).any fun j=>decide (n≤j)&&match aos[j]? with
   | none=>false
   | some y=>match y.d with
    | none=>false
    | some t=>x.looks.contains t
theorem ba12 {aos:List AO} {n:Nat} (h:b13 aos n=true) {i:Nat} {x:AO} (hx:aos[i]? =some x) (hi:n<i):q10 x.op=false∨∃j y t,n≤j∧j<i∧aos[j]? =some y∧y.d=some t∧t∈x.looks:=by
 have hlt:=(List.getElem?_eq_some_iff.1 hx).1
 have:=List.all_eq_true.1 h i (List.mem_range.2 hlt)
 rw[hx] at this
 simp only[Bool.or_eq_true,decide_eq_true_eq,Bool.not_eq_true',List.any_eq_true,List.mem_range,Bool.and_eq_true] at this
 rcases this with h1 | h1 | ⟨j,hj,hn,hy⟩
 ·omega
 ·exact .inl h1
 ·split at hy
  ·cases hy
  ·rename_i y hyj
   split at hy
   ·cases hy
   ·rename_i t ht
    exact .inr ⟨j,y,t,hn,hj,hyj,ht,by simpa using hy⟩
theorem pa14 {w0:World} {F0:Nat→Prop} {ops:Array Oper} {aos:List AO} (hd:DOk ops aos) (hc:c12 P ops ops.toList aos=true) {n:Nat} {d:Option Nat} {f:Nat} {xs:List Opd} (hn:aos[n]? =some ⟨d,.call f xs,none⟩) (hbh:b13 aos n=true)
  {vs:Nat→AV} {st0 stn:St} (hseg:∀i,0≤i→i<0+n→∃x st,aos[i]? =some x∧q10 x.op=true∧Part aos vs st0 (fun j=>decide (0≤j)&&decide (j<i)) st∧yld P G x st (vs i)∧dOK x st0.N)
  (hpn:Part aos vs st0 (fun j=>decide (0≤j)&&decide (j<0+n)) stn) (hpan:panO P G f xs pv stn):
  ∀(fuel:Nat) (listed:Array Bool) (st:St) (a:Act) (w:World),listed.size=ops.size→listed.toList.count false=fuel→
   (∀(i:Nat) (o:Oper),ops[i]? =some o→listed.getD i false=true→∀e∈o.after,Region.binds .any e=true→listed.getD e.on false=true)→listed.getD n false=false→
   Part aos vs st0 (fun j=>decide (0≤j)&&decide (j<0+n)&&listed.getD j false) st→Rel G (pctx w0 F0) st a w→wpAny P .any ops (PanQ w0 pv) fuel listed a w:=by
 obtain⟨hlen,hget⟩:=cg_ hc
 have hlen':ops.size=aos.length:=by simpa using hlen
 have hnlt:=(List.getElem?_eq_some_iff.1 hn).1
 intro fuel
 induction fuel with
 | zero=>
  intro listed st a w hs hcnt hcl hun hp hr
  exfalso
  have:false∉listed.toList:=List.count_eq_zero.1 hcnt
  have hi':n<listed.size:=by omega
  rw[Array.getD_eq_getD_getElem?,Array.getElem?_eq_getElem hi',Option.getD_some] at hun
  exact this (by rw[←hun];exact Array.getElem_mem_toList hi')
 | succ fuel ih=>
  intro listed st a w hs hcnt hcl hun hp hr
  have same:∀i,i<ops.size→listed.getD i true=listed.getD i false:=fun i hi=>by
   rw[Array.getD_eq_getD_getElem?,Array.getD_eq_getD_getElem?,Array.getElem?_eq_getElem (by omega)];rfl
  refine⟨fun h0=>?_,fun i hi=>?_⟩
  ·exfalso
   have all:∀i,i<ops.size→listed.getD i false=true:=fun i=>by
    induction i using Nat.strongRecOn with
    | _ i ihi=>
     intro hi
     cases e:listed.getD i false with
     | true=>rfl
     | false=>
      have ho:ops[i]? =some ops[i]:=Array.getElem?_eq_getElem hi
      have:i∈Region.ready .any ops listed:=mem_ready.2 ⟨by rw[same i hi];exact e,ops[i],ho,fun e he hb=>by
       have:=hd.low i _ (by omega) ho e he hb
       exact ihi e.on this (by omega)⟩
      rw[h0] at this
      cases this
   rw[all n (by omega)] at hun
   cases hun
  ·obtain⟨hui,o,ho,hed⟩:=mem_ready.1 hi
   have hi':i<ops.size:=(Array.getElem?_eq_some_iff.1 ho).1
   rw[same i hi'] at hui
   -- none b10 n comes up
   have b10:∀i,n<i→i<aos.length→(∀o,ops[i]? =some o→∀e∈o.after,Region.binds .any e=true→listed.getD e.on false=true)→listed.getD n false=true:=fun i=>by
    induction i using Nat.strongRecOn with
    | _ i ihi=>
     intro hni hil hp
     have hx:aos[i]? =some aos[i]:=List.getElem?_eq_getElem hil
     have hoi:ops[i]? =some ops[i]:=Array.getElem?_eq_getElem (by omega)
     rcases ba12 hbh hx hni with hq | ⟨j,y,t,hnj,hji,hyj,hyt,hlk⟩
     ·have hbar:b15 ops i aos.length=true:=by
       rcases hd.quiet _ _ hx with h | h
       ·rw[hq] at h;cases h
       ·exact h
      exact ba10 hbar (listed:=fun j=>listed.getD j false) hcl hp (i - n) n (by omega) hni
     ·have:=hd.look i j _ y t hx hyj (by omega) hyt hlk
      rw[if_pos hji] at this
      obtain⟨o',ho',e,he,hb,hon⟩:=hs_ this
      have hlj:=hp o' ho' e he hb
      rw[hon] at hlj
      by_cases e1:j=n
      ·subst e1;exact hlj
      ·exact ihi j hji (by omega) (by omega) fun o ho e he hb=>hcl j o ho hlj e he hb
   have hin:i≤n:=by
    rcases Nat.lt_or_ge n i with h | h
    ·have:=b10 i h (by omega) fun o' ho' e he hb=>by rw[ho] at ho';cases ho';exact hed e he hb
     rw[hun] at this;cases this
    ·exact h
   have look:∀(x:AO) (sti:St),aos[i]? =some x→Part aos vs st0 (fun j=>decide (0≤j)&&decide (j<i)) sti→∀t∈x.looks,eget st.env t=eget sti.env t:=fun x sti hx hpi t ht=>by
    by_cases hj:∃(j:Nat) (x:AO),aos[j]? =some x∧x.d=some t∧j<n
    ·obtain⟨j,y,hxj,htj,h2⟩:=hj
     have uniq:∀(j':Nat) (x':AO),aos[j']? =some x'→x'.d=some t→j'=j:=fun j' x' h1 h2=>hd.dst j' j x' y t h1 hxj h2 htj
     by_cases hlt:j<i
     ·have:=hd.look i j _ y t hx hxj (by omega) htj ht
      rw[if_pos hlt] at this
      obtain⟨o',ho',e,he,hb,hon⟩:=hs_ this
      rw[ho] at ho';cases ho'
      have hj1:=hed e he hb
      rw[hon] at hj1
      rw[hp.got t j y hxj htj (by simp [h2];simpa using hj1),hpi.got t j y hxj htj (by simp [hlt])]
     ·have hS:listed.getD j false=false:=by
       by_cases e:j=i
       ·subst e;exact hui
       ·have:=hd.look i j _ y t hx hxj (fun e'=>e e'.symm) htj ht
        rw[if_neg hlt] at this
        obtain⟨o',ho',e',he,hb,hon⟩:=hs_ this
        cases hlj:listed.getD j false with
        | false=>rfl
        | true=>
         have:=hcl j o' ho' hlj e' he hb
         rw[hon,hui] at this
         cases this
      rw[hp.old t fun j' x' h1 h2=>by rw[uniq j' x' h1 h2,hS];simp,hpi.old t fun j' x' h1 h2=>by rw[uniq j' x' h1 h2];simp;omega]
    ·have no:∀(j:Nat) (x:AO),aos[j]? =some x→x.d=some t→¬j<n:=fun j x h1 h2 h3=>hj ⟨j,x,h1,h2,h3⟩
     rw[hp.old t fun j x h1 h2=>by have:=no j x h1 h2;simp;intro h;omega,hpi.old t fun j x h1 h2=>by have:=no j x h1 h2;simp;omega]
   by_cases hie:i=n
   ·subst hie
    have hst:panO P G f xs pv st:=by
     obtain⟨vargs,args',hv,hf,hpc⟩:=hpan
     refine⟨vargs,args',?_,hf,hpc⟩
     rw[hp.heap.trans hpn.heap.symm,ec10 (st:=stn) (st':=st) fun t ht=>look _ stn hn (by simpa using hpn) t (by simp only[AO.looks,l13,List.append_nil];exact ht)]
     exact hv
    have hck:=hget i o _ (by rw[←ho];simp) hn
    simp only[c25,Bool.and_eq_true] at hck
    obtain⟨⟨⟨_,hg⟩,hop⟩,_⟩:=hck
    have hgn:o.guard=none:=by
     cases hgd:o.guard with
     | none=>rfl
     | some g=>rw[hgd] at hg;obtain⟨j,b⟩:=g;simp [c18] at hg
    have hs2:=ps_ hr hop hst (wpAny P .any ops (PanQ w0 pv) fuel (listed.setIfInBounds i true))
    unfold wpOp
    rw[ho]
    simp only[Region.wanted,hgn,if_true]
    exact .inl hs2
   ·have hilt:i<n:=by omega
    obtain⟨x,sti,hx,hq,hpi,hyi,hdi⟩:=hseg i (Nat.zero_le _) (by omega)
    have hy:yld P G x st (vs i):=yc_ (hp.heap.trans hpi.heap.symm) (look x sti hx hpi) hyi
    have hlst:∀j,(listed.setIfInBounds i true).getD j false=(listed.getD j false||j==i):=fun j=>by
     by_cases e:j=i
     ·subst e
      have:j<listed.size:=by omega
      simp [this]
     ·rw[getD_set_ne false (fun e'=>e e'.symm)]
      simp [e]
    have hcnt':(listed.setIfInBounds i true).toList.count false=fuel:=by
     have hi2:i<listed.toList.length:=by simp;omega
     have hf:listed.toList[i]=false:=by
      rw[Array.getD_eq_getD_getElem?,Array.getElem?_eq_getElem (show i<listed.size by omega)] at hui
      simpa using hui
     rw[Array.toList_setIfInBounds,List.count_set hi2,hf,hcnt]
     simp
    have hcl':∀(j:Nat) (o:Oper),ops[j]? =some o→(listed.setIfInBounds i true).getD j false=true→∀e∈o.after,Region.binds .any e=true→(listed.setIfInBounds i true).getD e.on false=true:=by
     intro j o' ho' hj e he hb
     rw[hlst] at hj ⊢
     by_cases e':j=i
     ·subst e'
      rw[ho] at ho';cases ho'
      rw[hed e he hb];rfl
     ·have:listed.getD j false=true:=by simpa [e'] using hj
      rw[hcl j o' ho' this e he hb];rfl
    have hop:=ooy_ hq (by rw[hp.N];exact hdi) hy
    have hs2:=os_ hr (K':=wpAny P .any ops (PanQ w0 pv) fuel (listed.setIfInBounds i true)) (Q:=PanQ w0 pv) (hget i o _ (by rw[←ho];simp) hx) hop (fun st1 a1 w1 ha hr1=>by
     refine ih _ st1 a1 w1 (by simp [hs]) hcnt' hcl' (by rw[hlst,hun];simp;omega) (hp.step hd hx ha fun j=>?_) hr1
     rw[hlst]
     by_cases e:j=i
     ·subst e;simp [hilt]
     ·have e0:(j==i)=false:=by simpa using e
      rw[e0,Bool.or_false,Bool.or_false])
    unfold wpOp
    rw[ho]
    simp only
    split
    ·rename_i hw;rw[if_pos hw] at hs2;exact .inl hs2
    ·rename_i hw;rw[if_neg hw] at hs2;exact hs2
theorem PW.dreg (n:Nat) {ops:List AO} {kt:List Nat} {d:Option Nat} {f:Nat} {xs:List Opd} (ho:ops[n]? =some ⟨d,.call f xs,none⟩) (hb:b13 ops n=true) (hq:((ops.take n).all fun x=>q10 x.op)=true) (h:opsP P G true (ops.take n) st (panO P G f xs pv)):PW P G pv (.dreg ops kt) st:=by
 intro w0 F c a' w hc hr
 cases c <;> simp only[chkC,Bool.false_eq_true,Bool.and_eq_true,Bool.not_eq_true'] at hc
 rename_i id os draw
 obtain⟨⟨⟨hd,hm⟩,hc⟩,hdc⟩:=hc
 subst hd
 have hdk:=do10 hdc
 have hlt:=(List.getElem?_eq_some_iff.1 ho).1
 have hchain:∀(r k:Nat) (st:St),k+r=n→opsP P G true ((ops.take n).drop k) st (panO P G f xs pv)→∃vs stn,c29 P G ops vs r k st stn∧panO P G f xs pv stn:=by
  intro r
  induction r with
  | zero=>
   intro k st hk h
   have:k=n:=by omega
   subst this
   rw[List.drop_of_length_le (by rw[List.length_take];omega)] at h
   exact⟨fun _ =>.top,st,rfl,h⟩
  | succ r ih=>
   intro k st hk h
   have hkn:k<(ops.take n).length:=by simp;omega
   rw[List.drop_eq_getElem_cons hkn] at h
   have hqk:q10 ((ops.take n)[k]).op=true:=List.all_eq_true.1 hq _ (List.getElem_mem hkn)
   obtain⟨v,st1,h1,h2,h3,h4⟩:=yoo_ hqk h
   obtain⟨vs,stn,e1,e2⟩:=ih (k+1) st1 (by omega) h4
   have hx:ops[k]? =some (ops.take n)[k]:=by
    rw[List.getElem_take]
    exact List.getElem?_eq_getElem _
   exact⟨fun j=>if j=k then v else vs j,stn,⟨_,hx,hqk,by simpa using h1,h3,st1,by simpa using h2,cc_ e1 fun j hj=>if_neg (by omega)⟩,e2⟩
 obtain⟨vs,stn,e1,e2⟩:=hchain n 0 st (by omega) (by simpa using h)
 have p0:Part ops vs st (fun j=>decide (0≤j)&&decide (j<0)) st:=⟨rfl,rfl,fun t j x _ _ hj=>by simp at hj,fun t _ =>rfl⟩
 obtain⟨h1,h2⟩:=cp_ hdk n 0 st (Nat.le_refl _) e1 p0
 have none0:∀j,(Array.replicate os.size false).getD j false=false:=fun j=>by
  rw[Array.getD_eq_getD_getElem?]
  simp only[Array.getElem?_replicate]
  split <;> rfl
 refine wp_region_any hm ?_
 refine pa14 hdk hc ho hb h1 h2 e2 os.size _ st a' _ (by simp) (by simp) (fun i o ho hi=>by rw[none0] at hi;cases hi) (none0 n) ?_ hr.drew
 exact p0.congr fun j _ =>by rw[none0];simp
theorem P10.of_pw {f:Nat} {fn:Func} {A:AFun} {args:List AV} (hf:P.funcs[f]? =some fn) (hc:chkF P fn A=true) (hk:args.length=A.k) (h:PW P G pv A.body ⟨A.N,a15 0 args,[]⟩):P10 P G f args pv:=by
 intro w F vs hg hargs
 simp only[chkF,Bool.and_eq_true,beq_iff_eq,decide_eq_true_eq] at hc
 obtain⟨⟨⟨hN,hkN⟩,hres⟩,hbody⟩:=hc
 split at hbody
 ·rename_i c hb
  have h0:Rel G (pctx w F) ⟨A.N,a15 0 args,[]⟩ {tmps:=vs++Array.replicate (fn.ntmps - vs.size) undef,defers:=[]} w:=by
   refine⟨n10,F,by simp [hN,hargs.1];omega,rfl,fun t=>?_,fun i b hi=>by simp [hget] at hi,fun i j b c m m' hi=>by simp [hget] at hi,fun i b m hi=>by simp [hget] at hi,fun i b m hi=>by simp [hget] at hi,hg,fun _ h=>h,fun _ h=>.inl h,
    ⟨rfl,rfl,rfl,Nat.le_refl _,fun _ _ _ =>rfl⟩,fun _ h=>h.elim⟩
   simp only[St.get]
   rw[ag10]
   simp only[Nat.zero_le,if_true,Nat.sub_zero]
   cases ht:args[t]? with
   | none=>exact .top _ _
   | some c=>
    have hlt:t<vs.size:=by rw[hargs.1];exact (List.getElem?_eq_some_iff.1 ht).1
    have e:(vs++Array.replicate (fn.ntmps - vs.size) undef).getD t undef=vs[t]:=by
     simp [Array.getElem?_append,hlt]
    rw[e]
    exact hargs.2 t c _ ht (Array.getElem?_eq_getElem hlt)
  refine calls_of_wp hf hb (wp_mono (h w F c _ _ hbody h0) fun e a' w' hq=>?_)
  cases e with
  | panic ch=>
   obtain⟨hd,v,rfl,hr,hb⟩:=hq
   exact⟨hd,v,rfl,hr,hb⟩
  | normal=>exact hq.elim
  | ret=>exact hq.elim
  | exit i=>exact hq.elim
  | goto l=>exact hq.elim
  | outgrown=>exact hq.elim
 ·cases hbody
end
end Go.Proofs.YtjbcfpkibnhodaaGreatDoor.Ab
