/-
  Of an automaton that may be all nodes' expressions may be. proctorref16.Value at an expression without free variables, whatever the values. No claim is proved here.
-/
import Derived.Test.YtjbcfpkibnhodaaGreatDoorQLi0
namespace Go.Proofs.YtjbcfpkibnhodaaGreatDoor.Ab
open Go
set_option linter.unusedSimpArgs false
theorem kc10 (q:QeaT):∀(r:Nat) (e:ExT),(e10 q)[r]? =some e→¬e.kind=0→∀i:Nat,e.from_≤i→i≤r→K_ q i:=by
 intro r
 induction r using Nat.strongRecOn with
 | _ r ih=>
  intro e he hk i h1 h2
  by_cases hir:i=r
  ·subst hir;exact⟨e,he,hk⟩
  have hlen:(e10 q).length=q.nodes.length:=el_ q q.nodes.length (Nat.le_refl _)
  have hr:r<q.nodes.length:=by
   have:=(List.getElem?_eq_some_iff.1 he).1
   omega
  obtain⟨x,hx,_⟩:=as10 hr
  have hel:=el_ q r (by omega)
  have he0:=he
  unfold e10 at he
  rw[eg_ hx _ hr (Nat.le_refl _)] at he
  simp only[Option.some.injEq] at he
  subst he
  unfold e12 at hk h1
  cases hleaf:l_ q r x with
  | some e1=>
   rw[hleaf] at h1
   dsimp only at h1
   have:=(lo_ hleaf).2
   omega
  | none=>
   rw[hleaf] at hk h1
   dsimp only at hk h1
   split at hk
   ·exact absurd rfl hk
   rename_i hop
   rw[if_neg hop] at h1
   cases hb:at? (exL q r) ((r:Int) - 1) with
   | none=>rw[hb] at hk;exact absurd rfl hk
   | some b=>
    rw[hb] at hk h1
    dsimp only at hk h1
    obtain⟨j,hj,hbj⟩:=at?_some hb
    have hjr:j+1=r:=by omega
    split at hk
    ·exact absurd rfl hk
    rename_i hbk
    rw[if_neg hbk] at h1
    have hcb:=ih j (by omega) b (ep10 (by omega) hbj) hbk
    split at hk
    ·rename_i h5
     rw[if_pos h5] at h1
     split at hk
     ·rename_i hc
      rw[if_pos hc] at h1
      exact hcb i h1 (by omega)
     ·exact absurd rfl hk
    ·rename_i h5
     rw[if_neg h5] at h1
     split at hk
     ·rename_i hc
      rw[if_pos hc] at h1
      cases ha:at? (exL q r) x.a with
      | none=>rw[ha] at hk;exact absurd rfl hk
      | some a=>
       rw[ha] at hk h1
       dsimp only at hk h1
       split at hk
       ·exact absurd rfl hk
       rename_i hak
       rw[if_neg hak] at h1
       obtain⟨k,hxk,hak'⟩:=at?_some ha
       have hkl:=(List.getElem?_eq_some_iff.1 hak').1
       by_cases hib:b.from_≤i
       ·exact hcb i hib (by omega)
       ·exact ih k (by omega) a (ep10 (by omega) hak') hak i h1 (by omega)
     ·exact absurd rfl hk
theorem wc_ {q:QeaT} {a r k:Int} (h:w_ (e10 q) a r k=true) (ha:∀i:Nat,(i:Int)<a→K_ q i):∀i:Nat,(i:Int)<r+1→K_ q i:=by
 unfold w_ at h
 split at h
 ·cases h
 ·rename_i e he
  obtain⟨j,rfl,hej⟩:=at?_some he
  simp only[Bool.and_eq_true,beq_iff_eq,Bool.not_eq_true',beq_eq_false_iff_ne,ne_eq,decide_eq_true_eq] at h
  intro i hi
  by_cases hia:(i:Int)<a
  ·exact ha i hia
  ·exact kc10 q j e hej (by rw[h.2.1];exact h.2.2.1) i (by omega) (by omega)
theorem sc_ {q:QeaT} {sets:List SetT}:∀{l:List SetT} {i:Nat} {a:Int},(allS (s12 q (e10 q) sets) l i a).1=true→(∀i:Nat,(i:Int)<a→K_ q i)→∀k:Nat,(k:Int)<(allS (s12 q (e10 q) sets) l i a).2→K_ q k
 | [],_,_,_,ha=>ha
 | s::l,i,a,h,ha=>by
  rw[allS] at h ⊢
  split at h
  ·rename_i hs
   rw[if_pos hs]
   refine sc_ h ?_
   unfold s12 at hs ⊢
   split at hs
   ·cases hs
   ·rename_i f hf
    split at hs
    ·cases hs
    ·rename_i hany
     split at hs
     ·rename_i hw
      first
       | rw[if_neg hany,if_pos hw];exact wc_ hw ha
       | (rw[hf];dsimp only;rw[if_neg hany,if_pos hw];exact wc_ hw ha)
     ·cases hs
  ·cases h
theorem tc_ {q:QeaT} {t:TransT} {a:Int} (h:(t12 q t a).2=true) (ha:∀i:Nat,(i:Int)<a→K_ q i):∀k:Nat,(k:Int)<(t12 q t a).1→K_ q k:=by
 have rest:∀a1,(r14 q t a a1).2=true→(∀i:Nat,(i:Int)<a1→K_ q i)→∀k:Nat,(k:Int)<(r14 q t a a1).1→K_ q k:=fun a1 hr h1=>by
  unfold r14 at hr ⊢
  dsimp only at hr ⊢
  split at hr
  ·rename_i hall
   rw[if_pos hall]
   exact sc_ hall h1
  ·cases hr
 unfold t12 at h ⊢
 split at h
 ·cases h
 ·rename_i h1
  rw[if_neg h1]
  split at h
  ·rename_i h2
   rw[if_pos h2]
   exact rest _ h ha
  ·rename_i h2
   rw[if_neg h2]
   split at h
   ·rename_i hw
    rw[if_pos hw]
    exact rest _ h (wc_ hw ha)
   ·cases h
theorem ac17 {q:QeaT}:∀{l:List TransT} {i:Nat} {a:Int},(allS (s26 q) l i a).1=true→(∀i:Nat,(i:Int)<a→K_ q i)→∀k:Nat,(k:Int)<(allS (s26 q) l i a).2→K_ q k
 | [],_,_,_,ha=>ha
 | t::l,i,a,h,ha=>by
  rw[allS] at h ⊢
  split at h
  ·rename_i hs
   rw[if_pos hs]
   exact ac17 h (tc_ hs ha)
  ·cases h
theorem ak_ {q:QeaT} (h:r10 q=true) (i:Nat) (hi:i<q.nodes.length):K_ q i:=by
 unfold r10 t13 at h
 simp only[Bool.and_eq_true,beq_iff_eq] at h
 exact ac17 h.2.1.1 (fun i hi=>by omega) i (by rw[h.2.1.2];omega)
end Go.Proofs.YtjbcfpkibnhodaaGreatDoor.Ab
namespace Go.Proofs.YtjbcfpkibnhodaaGreatDoor.Ab
open Go
set_option linter.unusedSimpArgs false
set_option maxHeartbeats 4000000
set_option maxRecDepth 100000
variable {G:Nat→Option AV}
structure EnvC (q:QeaT) (S:Nat→Prop) (b:List SlotT) (vals:List Val):Prop where
 bl:b.length≤1000000
 bok:∀s∈b,VOk s.value
 nf:∀(i:Nat) (x:NodeT),S i→q.nodes[i]? =some x→¬x.op=3
 vok:∀v∈vals,VOk v
 vl:vals.length≤1000000
theorem eo11 {q:QeaT} {b:List SlotT} {vals:List Val} {S:Nat→Prop} (hS:Safe q S) (hE:EnvC q S b vals) (i:Nat) (hi:S i):ROk (ev q b vals i):=by
 induction i using Nat.strongRecOn with
 | _ i ih=>
  obtain⟨x,hx,hw⟩:=hS.node i hi
  cases hw with
  | con h hv=>rw[ea_ hx,evN,if_pos h];exact .inl ⟨rfl,hv⟩
  | quant h j hj y hy=>
   rw[ea_ hx,evN,if_neg (by omega),if_pos h,hj,at?_nat hy]
   exact qo_ hE.bok _ _
  | free h j hj y hy=>exact absurd h (hE.nf i x hi hx)
  | una h j hj hlt=>
   have hs:=(hS.sub i x hi hx (by omega)).1
   rw[hj,Int.toNat_natCast] at hs
   rw[eu_ hx h hj hlt]
   rcases ih j hlt hs with ⟨h1,h2⟩ | ⟨h1,h2⟩
   ·rw[if_neg (by omega)];exact oo_ h2 (by omega)
   ·rw[if_pos (by omega)];exact .inr ⟨rfl,h2⟩
  | bin h j k hj hk hlt hlk=>
   obtain⟨hs,hs2⟩:=hS.sub i x hi hx (by omega)
   have hs2:=hs2 (by omega)
   rw[hj,Int.toNat_natCast] at hs
   rw[hk,Int.toNat_natCast] at hs2
   rw[eb_ hx h hj hk hlt hlk]
   unfold evOp
   rcases ih j hlt hs with ⟨h1,h2⟩ | ⟨h1,h2⟩
   ·rw[if_neg (by omega),if_neg (by omega)]
    split
    ·exact .inl ⟨rfl,h2⟩
    ·rcases ih k hlk hs2 with ⟨h3,h4⟩ | ⟨h3,h4⟩
     ·rw[if_neg (by omega)];exact oo_ h2 (by omega)
     ·rw[if_pos (by omega)];exact .inr ⟨rfl,h4⟩
   ·rw[if_pos (by omega)];exact .inr ⟨rfl,h2⟩
theorem rVp_ {q:QeaT} {b:List SlotT} {vals:List Val} {S:Nat→Prop} (hS:Safe q S) (hE:EnvC q S b vals) (i:Nat) (hi:S i):P_ Tryz.prog G npV_ [qeaV q,iv i,s13 b,v_ vals] (vt (ev q b vals i)):=by
 induction i using Nat.strongRecOn with
 | _ i ih=>
  obtain⟨x,hx,hw⟩:=hS.node i hi
  refine ppV_ (Runs.of fun Φ h=>?_)
  unfold cpV_
  unfold vt at h
  have hsub:=hS.sub i x hi hx
  obtain⟨op,xa,xb,⟨vk,vn,vs,vb⟩⟩:=x
  cases hw with
  | con ho hv=>
   dsimp only at ho
   subst ho
   rw[ea_ hx,evN,if_pos rfl] at h
   repeat' (first | (simp -implicitDefEqProofs only[go_sem,qeaV,d_,q_,f_,s_,s10,n_,t_,am_ hx,n11,valV]) | refine ag_ (fun hb=>?_) (fun hb=>?_) | refine⟨fun hb=>?_,fun hb=>?_⟩ | fail)
   exact h _ ⟨_,_,rfl,rfl,.refl _⟩
  | quant ho j hj y hy=>
   dsimp only at ho hj
   subst ho
   subst hj
   rw[ea_ hx,evN,if_neg (by simp),if_pos rfl,at?_nat hy] at h
   dsimp only at h
   have hg:=rGp_ (G:=G) b (by have:=hE.bl;omega) j
   unfold q12 at h
   generalize getR b j=r at*
   obtain⟨⟨k,n,s,t⟩,ok⟩:=r
   unfold vbt s13 at hg
   simp only[valV] at hg h
   cases ok
   ·repeat' (first | (simp -implicitDefEqProofs only[go_sem,qeaV,d_,q_,f_,s_,s10,n_,t_,am_ hx,n11,s13,v_,am_ hy,q11]) | refine ag_ (fun hb=>?_) (fun hb=>?_) | refine⟨fun hb=>?_,fun hb=>?_⟩ | refine ac_ (hg) rfl rfl ?_ | fail)
    exact h _ ⟨_,_,rfl,rfl,fe_ (by simp)⟩
   ·by_cases hk:k=y.type
    ·subst hk
     repeat' (first | (simp -implicitDefEqProofs only[go_sem,qeaV,d_,q_,f_,s_,s10,n_,t_,am_ hx,n11,s13,v_,am_ hy,q11,bne_self_eq_false]) | refine ag_ (fun hb=>?_) (fun hb=>?_) | refine⟨fun hb=>?_,fun hb=>?_⟩ | refine ac_ (hg) rfl rfl ?_ | fail)
     exact h _ ⟨_,_,rfl,rfl,fe_ (by simp)⟩
    ·have hk':(k != y.type)=true:=by simpa using hk
     repeat' (first | (simp -implicitDefEqProofs only[go_sem,qeaV,d_,q_,f_,s_,s10,n_,t_,am_ hx,n11,s13,v_,am_ hy,q11,hk']) | refine ag_ (fun hb=>?_) (fun hb=>?_) | refine⟨fun hb=>?_,fun hb=>?_⟩ | refine ac_ (hg) rfl rfl ?_ | fail)
     exact h _ ⟨_,_,rfl,rfl,fe_ (by simp [hk])⟩
  | free ho j hj y hy=>exact absurd ho (hE.nf i _ hi hx)
  | una ho j hj hlt=>
   rw[eu_ hx ho hj hlt] at h
   dsimp only at ho hj h
   subst hj
   have hs:=(hsub (by dsimp only;omega)).1
   dsimp only at hs
   rw[Int.toNat_natCast] at hs
   have hc:=ih j hlt hs
   have hop:P_ Tryz.prog G npO_ [iv op,valV (ev q b vals j).1,valV v0] (vt (opR op (ev q b vals j).1 v0))∨¬(ev q b vals j).2=0:=by
    rcases eo11 hS hE j hs with ⟨h1,h2⟩ | ⟨h1,h2⟩
    ·exact .inl (rOp_ op _ v0 h2.2 VOk.zero (by have:=h2.str;simp;omega) (by omega) h2.kind)
    ·exact .inr (by omega)
   generalize ev q b vals j=r at*
   obtain⟨⟨k,n,s,t⟩,e⟩:=r
   dsimp only at h hop
   generalize opR op ⟨k,n,s,t⟩ v0=z at*
   obtain⟨⟨zk,zn,zs,zt⟩,ze⟩:=z
   unfold vt s13 v_ at*
   simp only[valV,qeaV,d_,q_,f_,s_,s10,n_,t_] at hc hop h
   clear ih hsub
   rcases hop with hop | hne
   ·by_cases he:e=0
    ·subst he
     simp only[not_true_eq_false,if_false] at h
     rcases ho with rfl | rfl
     all_goals
      repeat' (first | (simp -implicitDefEqProofs only[go_sem,qeaV,d_,q_,f_,s_,s10,n_,t_,am_ hx,n11]) | refine ag_ (fun hb=>?_) (fun hb=>?_) | refine⟨fun hb=>?_,fun hb=>?_⟩ | refine ac_ (hc) rfl rfl ?_ | refine ac_ (hop) rfl rfl ?_ | fail)
      exact h _ ⟨_,_,rfl,rfl,.refl _⟩
    ·have he':(e != 0)=true:=by simpa using he
     rw[if_pos he] at h
     rcases ho with rfl | rfl
     all_goals
      repeat' (first | (simp -implicitDefEqProofs only[go_sem,qeaV,d_,q_,f_,s_,s10,n_,t_,am_ hx,n11,he']) | refine ag_ (fun hb=>?_) (fun hb=>?_) | refine⟨fun hb=>?_,fun hb=>?_⟩ | refine ac_ (hc) rfl rfl ?_ | fail)
      exact h _ ⟨_,_,rfl,rfl,.refl _⟩
   ·have he':(e != 0)=true:=by simpa using hne
    rw[if_pos hne] at h
    rcases ho with rfl | rfl
    all_goals
     repeat' (first | (simp -implicitDefEqProofs only[go_sem,qeaV,d_,q_,f_,s_,s10,n_,t_,am_ hx,n11,he']) | refine ag_ (fun hb=>?_) (fun hb=>?_) | refine⟨fun hb=>?_,fun hb=>?_⟩ | refine ac_ (hc) rfl rfl ?_ | fail)
     exact h _ ⟨_,_,rfl,rfl,.refl _⟩
  | bin ho j k hj hk hlt hlk=>
   rw[eb_ hx ho hj hk hlt hlk] at h
   dsimp only at ho hj hk h
   subst hj
   subst hk
   obtain⟨hs,hs2⟩:=hsub (by dsimp only;omega)
   have hs2:=hs2 (by dsimp only;omega)
   dsimp only at hs hs2
   rw[Int.toNat_natCast] at hs hs2
   have hc1:=ih j hlt hs
   have hc2:=ih k hlk hs2
   have hop:(ev q b vals j).2=0→(ev q b vals k).2=0→P_ Tryz.prog G npO_ [iv op,valV (ev q b vals j).1,valV (ev q b vals k).1] (vt (opR op (ev q b vals j).1 (ev q b vals k).1)):=fun z1 z2=>by
    rcases eo11 hS hE j hs with ⟨h1,h2⟩ | ⟨h1,h2⟩
    ·rcases eo11 hS hE k hs2 with ⟨h3,h4⟩ | ⟨h3,h4⟩
     ·exact rOp_ op _ _ h2.2 h4.2 (by have:=h2.str;have:=h4.str;omega) (by omega) h2.kind
     ·omega
    ·omega
   unfold evOp at h
   generalize ev q b vals j=r at*
   generalize ev q b vals k=u at*
   obtain⟨⟨rk,rn,rs,rb⟩,e⟩:=r
   obtain⟨⟨uk,un,us,ub⟩,f⟩:=u
   dsimp only at h hop
   generalize opR op ⟨rk,rn,rs,rb⟩ ⟨uk,un,us,ub⟩=z at*
   obtain⟨⟨zk,zn,zs,zt⟩,ze⟩:=z
   unfold vt s13 v_ at*
   simp only[valV,qeaV,d_,q_,f_,s_,s10,n_,t_] at hc1 hc2 hop h
   clear ih hsub
   have n1:(op==1)=false:=by simp;omega
   have n2:(op==2)=false:=by simp;omega
   have n3:(op==3)=false:=by simp;omega
   have n5:(op≤5)=False:=by simp;omega
   by_cases he:e=0
   ·subst he
    rw[if_neg (by omega),if_neg (by omega)] at h
    have tail:(¬((op=6∧rb=false)∨(op=7∧rb=true)))→∀b6 b7:Bool,(op==6)=b6→(op==7)=b7→True:=fun _ _ _ _ _ =>trivial
    by_cases hf:f=0
    ·subst hf
     have hop:=hop rfl rfl
     by_cases h6:op=6
     ·subst h6
      cases rb
      ·repeat' (first | (simp -implicitDefEqProofs only[go_sem,qeaV,d_,q_,f_,s_,s10,n_,t_,am_ hx,n11]) | refine ag_ (fun hb=>?_) (fun hb=>?_) | refine⟨fun hb=>?_,fun hb=>?_⟩ | refine ac_ (hc1) rfl rfl ?_ | refine ac_ (hc2) rfl rfl ?_ | refine ac_ (hop) rfl rfl ?_ | fail)
       exact h _ ⟨_,_,rfl,rfl,.refl _⟩
      ·repeat' (first | (simp -implicitDefEqProofs only[go_sem,qeaV,d_,q_,f_,s_,s10,n_,t_,am_ hx,n11]) | refine ag_ (fun hb=>?_) (fun hb=>?_) | refine⟨fun hb=>?_,fun hb=>?_⟩ | refine ac_ (hc1) rfl rfl ?_ | refine ac_ (hc2) rfl rfl ?_ | refine ac_ (hop) rfl rfl ?_ | fail)
       exact h _ ⟨_,_,rfl,rfl,.refl _⟩
     by_cases h7:op=7
     ·subst h7
      cases rb
      ·repeat' (first | (simp -implicitDefEqProofs only[go_sem,qeaV,d_,q_,f_,s_,s10,n_,t_,am_ hx,n11]) | refine ag_ (fun hb=>?_) (fun hb=>?_) | refine⟨fun hb=>?_,fun hb=>?_⟩ | refine ac_ (hc1) rfl rfl ?_ | refine ac_ (hc2) rfl rfl ?_ | refine ac_ (hop) rfl rfl ?_ | fail)
       exact h _ ⟨_,_,rfl,rfl,.refl _⟩
      ·repeat' (first | (simp -implicitDefEqProofs only[go_sem,qeaV,d_,q_,f_,s_,s10,n_,t_,am_ hx,n11]) | refine ag_ (fun hb=>?_) (fun hb=>?_) | refine⟨fun hb=>?_,fun hb=>?_⟩ | refine ac_ (hc1) rfl rfl ?_ | refine ac_ (hc2) rfl rfl ?_ | refine ac_ (hop) rfl rfl ?_ | fail)
       exact h _ ⟨_,_,rfl,rfl,.refl _⟩
     rw[if_neg (by omega),if_neg (by omega)] at h
     have n6:(op==6)=false:=by simpa using h6
     have n7:(op==7)=false:=by simpa using h7
     repeat' (first | (simp -implicitDefEqProofs only[go_sem,qeaV,d_,q_,f_,s_,s10,n_,t_,am_ hx,n11,n1,n2,n3,n5,n6,n7,decide_false]) | refine ag_ (fun hb=>?_) (fun hb=>?_) | refine⟨fun hb=>?_,fun hb=>?_⟩ | refine ac_ (hc1) rfl rfl ?_ | refine ac_ (hc2) rfl rfl ?_ | refine ac_ (hop) rfl rfl ?_ | fail)
     exact h _ ⟨_,_,rfl,rfl,.refl _⟩
    ·have he':(f != 0)=true:=by simpa using hf
     clear hop
     by_cases h6:op=6
     ·subst h6
      cases rb
      ·repeat' (first | (simp -implicitDefEqProofs only[go_sem,qeaV,d_,q_,f_,s_,s10,n_,t_,am_ hx,n11,he']) | refine ag_ (fun hb=>?_) (fun hb=>?_) | refine⟨fun hb=>?_,fun hb=>?_⟩ | refine ac_ (hc1) rfl rfl ?_ | refine ac_ (hc2) rfl rfl ?_ | fail)
       exact h _ ⟨_,_,rfl,rfl,.refl _⟩
      ·rw[if_neg (by simp),if_pos hf] at h
       repeat' (first | (simp -implicitDefEqProofs only[go_sem,qeaV,d_,q_,f_,s_,s10,n_,t_,am_ hx,n11,he']) | refine ag_ (fun hb=>?_) (fun hb=>?_) | refine⟨fun hb=>?_,fun hb=>?_⟩ | refine ac_ (hc1) rfl rfl ?_ | refine ac_ (hc2) rfl rfl ?_ | fail)
       exact h _ ⟨_,_,rfl,rfl,.refl _⟩
     by_cases h7:op=7
     ·subst h7
      cases rb
      ·rw[if_neg (by simp),if_pos hf] at h
       repeat' (first | (simp -implicitDefEqProofs only[go_sem,qeaV,d_,q_,f_,s_,s10,n_,t_,am_ hx,n11,he']) | refine ag_ (fun hb=>?_) (fun hb=>?_) | refine⟨fun hb=>?_,fun hb=>?_⟩ | refine ac_ (hc1) rfl rfl ?_ | refine ac_ (hc2) rfl rfl ?_ | fail)
       exact h _ ⟨_,_,rfl,rfl,.refl _⟩
      ·repeat' (first | (simp -implicitDefEqProofs only[go_sem,qeaV,d_,q_,f_,s_,s10,n_,t_,am_ hx,n11,he']) | refine ag_ (fun hb=>?_) (fun hb=>?_) | refine⟨fun hb=>?_,fun hb=>?_⟩ | refine ac_ (hc1) rfl rfl ?_ | refine ac_ (hc2) rfl rfl ?_ | fail)
       exact h _ ⟨_,_,rfl,rfl,.refl _⟩
     rw[if_neg (by omega),if_pos hf] at h
     have n6:(op==6)=false:=by simpa using h6
     have n7:(op==7)=false:=by simpa using h7
     repeat' (first | (simp -implicitDefEqProofs only[go_sem,qeaV,d_,q_,f_,s_,s10,n_,t_,am_ hx,n11,n1,n2,n3,n5,n6,n7,he',decide_false]) | refine ag_ (fun hb=>?_) (fun hb=>?_) | refine⟨fun hb=>?_,fun hb=>?_⟩ | refine ac_ (hc1) rfl rfl ?_ | refine ac_ (hc2) rfl rfl ?_ | fail)
     exact h _ ⟨_,_,rfl,rfl,.refl _⟩
   ·have he':(e != 0)=true:=by simpa using he
    rw[if_pos he] at h
    repeat' (first | (simp -implicitDefEqProofs only[go_sem,qeaV,d_,q_,f_,s_,s10,n_,t_,am_ hx,n11,n1,n2,n3,he']) | refine ag_ (fun hb=>?_) (fun hb=>?_) | refine⟨fun hb=>?_,fun hb=>?_⟩ | refine ac_ (hc1) rfl rfl ?_ | fail)
    exact h _ ⟨_,_,rfl,rfl,.refl _⟩
end Go.Proofs.YtjbcfpkibnhodaaGreatDoor.Ab
