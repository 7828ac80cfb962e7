/-
  eval's nodes: operators. No claim is proved here.
-/
import Derived.Test.YtjbcfpkibnhodaaGreatDoorYV7
namespace Go.Proofs.YtjbcfpkibnhodaaGreatDoor.Ab
open Go Go.RowKit
set_option linter.unusedSimpArgs false
set_option maxHeartbeats 4000000
set_option maxRecDepth 100000
variable {G:Nat→Option AV}
theorem nu10 {q:QeaT} {b:List SlotT} {vals:List Val} {S:Nat→Prop} (hS:Safe q S) (hE:Env q b vals) {i j:Nat} {x:NodeT} (hx:q.nodes[i]? =some x) (ho:x.op=4∨x.op=5) (hj:x.a=j) (hlt:j<i) (hsj:S j) (ih:N11 G q b vals j):N11 G q b vals i:=by
 have hev:=eu_ (b:=b) (vals:=vals) hx ho hj hlt
 have hop:(ev q b vals j).2=0→P_ Tryz.prog G nvO_ [iv x.op,valV (ev q b vals j).1,valV v0] (vt (opR x.op (ev q b vals j).1 v0)):=fun h0=>by
  rcases ev_ok hS hE j hsj with ⟨h1,h2⟩ | ⟨h1,h2⟩
  ·exact vOp_ x.op _ v0 h2.2 VOk.zero (by have:=h2.str;simp;omega)
  ·omega
 obtain⟨op,xa,xb,⟨vk,vn,vs,vb⟩⟩:=x
 dsimp only at ho hj hop hev
 subst hj
 unfold N11 at*
 rw[hev]
 clear hev
 generalize ev q b vals j=r at*
 obtain⟨⟨k,n,s,t⟩,e⟩:=r
 dsimp only at ih hop ⊢
 generalize opR op ⟨k,n,s,t⟩ v0=z at*
 obtain⟨⟨zk,zn,zs,zt⟩,ze⟩:=z
 obtain⟨ih1,ih2⟩:=ih
 simp only[vt,valV,f10,qeaV,d_,q_,f_,s_,s10,n_,t_,s11,v_] at ih1 ih2 hop
 refine⟨fun h0=>?_,fun h0=>?_⟩
 ·by_cases he:e=0
  ·subst he
   simp only[not_true_eq_false,if_false] at h0 ⊢
   subst h0
   have hc:=ih1 rfl
   have hop:=hop rfl
   have hm:=mp10 (G:=G) i ⟨zk,zn,zs,zt⟩
   simp only[valV] at hm
   refine pefn_ (Runs.of fun Φ h=>?_)
   unfold cefn_
   rcases ho with rfl | rfl
   all_goals
    repeat' (first|simp -implicitDefEqProofs only[go_sem,f10,qeaV,d_,q_,f_,s_,s10,n_,t_,s11,v_,am_ hx,n11,valV]|refine ag_ (fun hb=>?_) (fun hb=>?_)|refine⟨fun hb=>?_,fun hb=>?_⟩|refine ac_ hc rfl rfl ?_|refine ac_ hop rfl rfl ?_|refine ac_ hm rfl rfl ?_|fail)
    exact h _ ⟨_,_,rfl,rfl,.refl _⟩
  ·rw[if_pos he] at h0
   exact absurd h0 he
 ·by_cases he:e=0
  ·subst he
   simp only[not_true_eq_false,if_false] at h0 ⊢
   have hc:=ih1 rfl
   have hop:=hop rfl
   have hm:=mp_ (G:=G) i ⟨zk,zn,zs,zt⟩ ze h0
   refine⟨i,P10.of_pw Tryz.func258 kefn_ rfl ?_⟩
   unfold cefn_
   dsimp only
   rcases ho with rfl | rfl
   all_goals
    refine PW.seq2 ?_
    repeat' (first|simp -implicitDefEqProofs only[go_sem,f10,qeaV,d_,q_,f_,s_,s10,n_,t_,s11,v_]|refine ag_ (fun hb=>?_) (fun hb=>?_)|refine⟨fun hb=>?_,fun hb=>?_⟩|fail)
    refine PW.seq2 ?_
    repeat' (first|simp -implicitDefEqProofs only[go_sem,f10,qeaV,d_,q_,f_,s_,s10,n_,t_,s11,v_,am_ hx,n11,valV]|refine ag_ (fun hb=>?_) (fun hb=>?_)|refine⟨fun hb=>?_,fun hb=>?_⟩|fail)
    refine PW.seq2 ?_
    repeat' (first|simp -implicitDefEqProofs only[go_sem]|refine ag_ (fun hb=>?_) (fun hb=>?_)|refine⟨fun hb=>?_,fun hb=>?_⟩|fail)
    refine PW.seq2 ?_
    repeat' (first|simp -implicitDefEqProofs only[go_sem,valV]|refine ag_ (fun hb=>?_) (fun hb=>?_)|refine⟨fun hb=>?_,fun hb=>?_⟩|refine ac_ hc rfl rfl ?_|fail)
    refine PW.seq1 ?_
    refine PW.block ?_
    refine PW.seq2 ?_
    repeat' (first|simp -implicitDefEqProofs only[go_sem]|refine ag_ (fun hb=>?_) (fun hb=>?_)|refine⟨fun hb=>?_,fun hb=>?_⟩|fail)
    refine PW.cond (β:=true) rfl (fun _ =>?_) (fun h=>by cases h)
    refine PW.seq2 ?_
    repeat' (first|simp -implicitDefEqProofs only[go_sem,valV]|refine ag_ (fun hb=>?_) (fun hb=>?_)|refine⟨fun hb=>?_,fun hb=>?_⟩|refine ac_ hop rfl rfl ?_|fail)
    refine PW.seq1 ?_
    refine PW.regT 3 [62,63,64] rfl rfl ?_
    repeat' (first|simp -implicitDefEqProofs only[go_sem]|refine ag_ (fun hb=>?_) (fun hb=>?_)|refine⟨fun hb=>?_,fun hb=>?_⟩|fail)
    exact⟨_,_,rfl,FitL.refl _,hm⟩
  ·rw[if_pos he]
   obtain⟨a,hc⟩:=ih2 he
   clear ih1 ih2 hop h0
   refine⟨a,P10.of_pw Tryz.func258 kefn_ rfl ?_⟩
   unfold cefn_
   dsimp only
   rcases ho with rfl | rfl
   all_goals
    refine PW.seq2 ?_
    repeat' (first|simp -implicitDefEqProofs only[go_sem,f10,qeaV,d_,q_,f_,s_,s10,n_,t_,s11,v_]|refine ag_ (fun hb=>?_) (fun hb=>?_)|refine⟨fun hb=>?_,fun hb=>?_⟩|fail)
    refine PW.seq2 ?_
    repeat' (first|simp -implicitDefEqProofs only[go_sem,f10,qeaV,d_,q_,f_,s_,s10,n_,t_,s11,v_,am_ hx,n11,valV]|refine ag_ (fun hb=>?_) (fun hb=>?_)|refine⟨fun hb=>?_,fun hb=>?_⟩|fail)
    refine PW.seq2 ?_
    repeat' (first|simp -implicitDefEqProofs only[go_sem]|refine ag_ (fun hb=>?_) (fun hb=>?_)|refine⟨fun hb=>?_,fun hb=>?_⟩|fail)
    refine PW.seq1 ?_
    refine PW.regT 3 [46,48] rfl rfl ?_
    repeat' (first|simp -implicitDefEqProofs only[go_sem]|refine ag_ (fun hb=>?_) (fun hb=>?_)|refine⟨fun hb=>?_,fun hb=>?_⟩|fail)
    exact⟨_,_,rfl,FitL.refl _,hc⟩
def s33 (op:Int) (t:Bool):Bool:=(op==6&& !t)||(op==7&&t)
theorem es12 {op:Int} {r s:Val×Int} (h0:r.2=0) (h5:¬op≤5) (h:s33 op r.1.bool=true):evOp op r s=(r.1,0):=by
 unfold evOp
 rw[if_neg (by omega),if_neg h5,if_pos]
 unfold s33 at h
 simpa using h
theorem eg10 {op:Int} {r s:Val×Int} (h0:r.2=0) (h5:¬op≤5) (h:s33 op r.1.bool=false):evOp op r s=if ¬s.2=0 then (v0,s.2) else opR op r.1 s.1:=by
 unfold evOp
 rw[if_neg (by omega),if_neg h5,if_neg]
 unfold s33 at h
 simp only[Bool.or_eq_false_iff,Bool.and_eq_false_iff,beq_eq_false_iff_ne,ne_eq,Bool.not_eq_false'] at h
 rintro (⟨h1,h2⟩ | ⟨h1,h2⟩)
 ·rcases h.1 with h3 | h3
  ·exact h3 h1
  ·rw[h2] at h3;cases h3
 ·rcases h.2 with h3 | h3
  ·exact h3 h1
  ·rw[h2] at h3;cases h3
theorem nb_ {q:QeaT} {b:List SlotT} {vals:List Val} {S:Nat→Prop} (hS:Safe q S) (hE:Env q b vals) {i j l:Nat} {x:NodeT} (hx:q.nodes[i]? =some x) (ho:6≤x.op∧x.op≤16) (hj:x.a=j) (hl:x.b=l) (hlt:j<i) (hll:l<i) (hsj:S j) (hsl:S l) (ih:N11 G q b vals j) (ik:N11 G q b vals l):N11 G q b vals i:=by
 have hev:=eb_ (b:=b) (vals:=vals) hx ho hj hl hlt hll
 have hop:(ev q b vals j).2=0→(ev q b vals l).2=0→P_ Tryz.prog G nvO_ [iv x.op,valV (ev q b vals j).1,valV (ev q b vals l).1] (vt (opR x.op (ev q b vals j).1 (ev q b vals l).1)):=fun z1 z2=>by
  rcases ev_ok hS hE j hsj with ⟨h1,h2⟩ | ⟨h1,h2⟩
  ·rcases ev_ok hS hE l hsl with ⟨h3,h4⟩ | ⟨h3,h4⟩
   ·exact vOp_ x.op _ _ h2.2 h4.2 (by have:=h2.str;have:=h4.str;omega)
   ·omega
  ·omega
 obtain⟨op,xa,xb,⟨vk,vn,vs,vb⟩⟩:=x
 dsimp only at ho hj hl hop hev
 subst hj
 subst hl
 unfold N11 at*
 rw[hev]
 clear hev
 generalize ev q b vals j=r at*
 generalize ev q b vals l=u at*
 obtain⟨⟨k,n,s,t⟩,e⟩:=r
 obtain⟨⟨uk,un,us,ut⟩,f⟩:=u
 dsimp only at ih ik hop
 have n1:(op==1)=false:=by simp;omega
 have n2:(op==2)=false:=by simp;omega
 have n3:(op==3)=false:=by simp;omega
 have n5:(op≤5)=False:=by simp;omega
 have n5':¬op≤5:=by omega
 obtain⟨ih1,ih2⟩:=ih
 obtain⟨ik1,ik2⟩:=ik
 by_cases he:e=0
 ·subst he
  have hc:=ih1 rfl
  clear ih1 ih2
  have cnd:∀b6 b7:Bool,(op==6)=b6→(op==7)=b7→s33 op t=((b6&& !t)||(b7&&t)):=fun b6 b7 h6 h7=>by rw[s33,h6,h7]
  cases hsk:s33 op t with
  | true=>
   rw[es12 rfl n5' hsk]
   refine⟨fun _ =>?_,fun h=>absurd rfl h⟩
   refine pefn_ (Runs.of fun Φ h=>?_)
   unfold cefn_
   simp only[valV,f10,qeaV,d_,q_,f_,s_,s10,n_,t_,s11,v_] at hc
   have h67:(op=6∧t=false)∨(op=7∧t=true):=by unfold s33 at hsk;simpa using hsk
   rcases h67 with ⟨rfl,rfl⟩ | ⟨rfl,rfl⟩
   all_goals
    repeat' (first|simp -implicitDefEqProofs only[go_sem,f10,qeaV,d_,q_,f_,s_,s10,n_,t_,s11,v_,am_ hx,n11,valV]|refine ag_ (fun hb=>?_) (fun hb=>?_)|refine⟨fun hb=>?_,fun hb=>?_⟩|refine ac_ hc rfl rfl ?_|fail)
    exact h _ ⟨_,_,rfl,rfl,.refl _⟩
  | false=>
   rw[eg10 rfl n5' hsk]
   dsimp only
   have h67:(op=6∧t=true)∨(op=7∧t=false)∨((op==6)=false∧(op==7)=false):=by
    unfold s33 at hsk
    by_cases h6:op=6
    ·subst h6;left;simpa using hsk
    ·by_cases h7:op=7
     ·subst h7;right;left;simpa using hsk
     ·right;right;simp [h6,h7]
   clear cnd hsk
   by_cases hf:f=0
   ·subst hf
    have hd:=ik1 rfl
    have hop:=hop rfl rfl
    clear ik1 ik2
    simp only[not_true_eq_false,if_false]
    generalize opR op ⟨k,n,s,t⟩ ⟨uk,un,us,ut⟩=z at*
    obtain⟨⟨zk,zn,zs,zt⟩,ze⟩:=z
    simp only[vt,valV,f10,qeaV,d_,q_,f_,s_,s10,n_,t_,s11,v_] at hc hd hop
    refine⟨fun h0=>?_,fun h0=>?_⟩
    ·dsimp only at h0
     subst h0
     have hm:=mp10 (G:=G) i ⟨zk,zn,zs,zt⟩
     simp only[valV] at hm
     refine pefn_ (Runs.of fun Φ h=>?_)
     unfold cefn_
     rcases h67 with ⟨rfl,rfl⟩ | ⟨rfl,rfl⟩ | ⟨n6,n7⟩
     ·repeat' (first|simp -implicitDefEqProofs only[go_sem,f10,qeaV,d_,q_,f_,s_,s10,n_,t_,s11,v_,am_ hx,n11,valV]|refine ag_ (fun hb=>?_) (fun hb=>?_)|refine⟨fun hb=>?_,fun hb=>?_⟩|refine ac_ hc rfl rfl ?_|refine ac_ hd rfl rfl ?_|refine ac_ hop rfl rfl ?_|refine ac_ hm rfl rfl ?_|fail)
      exact h _ ⟨_,_,rfl,rfl,.refl _⟩
     ·repeat' (first|simp -implicitDefEqProofs only[go_sem,f10,qeaV,d_,q_,f_,s_,s10,n_,t_,s11,v_,am_ hx,n11,valV]|refine ag_ (fun hb=>?_) (fun hb=>?_)|refine⟨fun hb=>?_,fun hb=>?_⟩|refine ac_ hc rfl rfl ?_|refine ac_ hd rfl rfl ?_|refine ac_ hop rfl rfl ?_|refine ac_ hm rfl rfl ?_|fail)
      exact h _ ⟨_,_,rfl,rfl,.refl _⟩
     ·repeat' (first|simp -implicitDefEqProofs only[go_sem,f10,qeaV,d_,q_,f_,s_,s10,n_,t_,s11,v_,am_ hx,n11,valV,n1,n2,n3,n5,n6,n7,decide_false]|refine ag_ (fun hb=>?_) (fun hb=>?_)|refine⟨fun hb=>?_,fun hb=>?_⟩|refine ac_ hc rfl rfl ?_|refine ac_ hd rfl rfl ?_|refine ac_ hop rfl rfl ?_|refine ac_ hm rfl rfl ?_|fail)
      exact h _ ⟨_,_,rfl,rfl,.refl _⟩
    ·dsimp only at h0
     have hm:=mp_ (G:=G) i ⟨zk,zn,zs,zt⟩ ze h0
     refine⟨i,P10.of_pw Tryz.func258 kefn_ rfl ?_⟩
     unfold cefn_
     dsimp only
     rcases h67 with ⟨rfl,rfl⟩ | ⟨rfl,rfl⟩ | ⟨n6,n7⟩
     ·refine PW.seq2 ?_
      repeat' (first|simp -implicitDefEqProofs only[go_sem,f10,qeaV,d_,q_,f_,s_,s10,n_,t_,s11,v_]|refine ag_ (fun hb=>?_) (fun hb=>?_)|refine⟨fun hb=>?_,fun hb=>?_⟩|fail)
      refine PW.seq2 ?_
      repeat' (first|simp -implicitDefEqProofs only[go_sem,f10,qeaV,d_,q_,f_,s_,s10,n_,t_,s11,v_,am_ hx,n11,valV]|refine ag_ (fun hb=>?_) (fun hb=>?_)|refine⟨fun hb=>?_,fun hb=>?_⟩|fail)
      refine PW.seq2 ?_
      repeat' (first|simp -implicitDefEqProofs only[go_sem]|refine ag_ (fun hb=>?_) (fun hb=>?_)|refine⟨fun hb=>?_,fun hb=>?_⟩|fail)
      refine PW.seq2 ?_
      repeat' (first|simp -implicitDefEqProofs only[go_sem,valV]|refine ag_ (fun hb=>?_) (fun hb=>?_)|refine⟨fun hb=>?_,fun hb=>?_⟩|refine ac_ hc rfl rfl ?_|fail)
      refine PW.seq2 ?_
      repeat' (first|simp -implicitDefEqProofs only[go_sem,valV]|refine ag_ (fun hb=>?_) (fun hb=>?_)|refine⟨fun hb=>?_,fun hb=>?_⟩|fail)
      refine PW.seq2 ?_
      repeat' (first|simp -implicitDefEqProofs only[go_sem,valV]|refine ag_ (fun hb=>?_) (fun hb=>?_)|refine⟨fun hb=>?_,fun hb=>?_⟩|refine ac_ hd rfl rfl ?_|refine ac_ hop rfl rfl ?_|fail)
      refine PW.seq1 ?_
      refine PW.regT 3 [94,95,96] rfl rfl ?_
      repeat' (first|simp -implicitDefEqProofs only[go_sem]|refine ag_ (fun hb=>?_) (fun hb=>?_)|refine⟨fun hb=>?_,fun hb=>?_⟩|fail)
      exact⟨_,_,rfl,FitL.refl _,hm⟩
     ·refine PW.seq2 ?_
      repeat' (first|simp -implicitDefEqProofs only[go_sem,f10,qeaV,d_,q_,f_,s_,s10,n_,t_,s11,v_]|refine ag_ (fun hb=>?_) (fun hb=>?_)|refine⟨fun hb=>?_,fun hb=>?_⟩|fail)
      refine PW.seq2 ?_
      repeat' (first|simp -implicitDefEqProofs only[go_sem,f10,qeaV,d_,q_,f_,s_,s10,n_,t_,s11,v_,am_ hx,n11,valV]|refine ag_ (fun hb=>?_) (fun hb=>?_)|refine⟨fun hb=>?_,fun hb=>?_⟩|fail)
      refine PW.seq2 ?_
      repeat' (first|simp -implicitDefEqProofs only[go_sem]|refine ag_ (fun hb=>?_) (fun hb=>?_)|refine⟨fun hb=>?_,fun hb=>?_⟩|fail)
      refine PW.seq2 ?_
      repeat' (first|simp -implicitDefEqProofs only[go_sem,valV]|refine ag_ (fun hb=>?_) (fun hb=>?_)|refine⟨fun hb=>?_,fun hb=>?_⟩|refine ac_ hc rfl rfl ?_|fail)
      refine PW.seq2 ?_
      repeat' (first|simp -implicitDefEqProofs only[go_sem,valV]|refine ag_ (fun hb=>?_) (fun hb=>?_)|refine⟨fun hb=>?_,fun hb=>?_⟩|fail)
      refine PW.seq2 ?_
      repeat' (first|simp -implicitDefEqProofs only[go_sem,valV]|refine ag_ (fun hb=>?_) (fun hb=>?_)|refine⟨fun hb=>?_,fun hb=>?_⟩|refine ac_ hd rfl rfl ?_|refine ac_ hop rfl rfl ?_|fail)
      refine PW.seq1 ?_
      refine PW.regT 3 [94,95,96] rfl rfl ?_
      repeat' (first|simp -implicitDefEqProofs only[go_sem]|refine ag_ (fun hb=>?_) (fun hb=>?_)|refine⟨fun hb=>?_,fun hb=>?_⟩|fail)
      exact⟨_,_,rfl,FitL.refl _,hm⟩
     ·refine PW.seq2 ?_
      repeat' (first|simp -implicitDefEqProofs only[go_sem,f10,qeaV,d_,q_,f_,s_,s10,n_,t_,s11,v_]|refine ag_ (fun hb=>?_) (fun hb=>?_)|refine⟨fun hb=>?_,fun hb=>?_⟩|fail)
      refine PW.seq2 ?_
      repeat' (first|simp -implicitDefEqProofs only[go_sem,f10,qeaV,d_,q_,f_,s_,s10,n_,t_,s11,v_,am_ hx,n11,valV]|refine ag_ (fun hb=>?_) (fun hb=>?_)|refine⟨fun hb=>?_,fun hb=>?_⟩|fail)
      refine PW.seq2 ?_
      repeat' (first|simp -implicitDefEqProofs only[go_sem,n1,n2,n3,n5,n6,n7,decide_false]|refine ag_ (fun hb=>?_) (fun hb=>?_)|refine⟨fun hb=>?_,fun hb=>?_⟩|fail)
      refine PW.seq2 ?_
      repeat' (first|simp -implicitDefEqProofs only[go_sem,valV,n1,n2,n3,n5,n6,n7,decide_false]|refine ag_ (fun hb=>?_) (fun hb=>?_)|refine⟨fun hb=>?_,fun hb=>?_⟩|refine ac_ hc rfl rfl ?_|fail)
      refine PW.seq2 ?_
      repeat' (first|simp -implicitDefEqProofs only[go_sem,valV,n1,n2,n3,n5,n6,n7,decide_false]|refine ag_ (fun hb=>?_) (fun hb=>?_)|refine⟨fun hb=>?_,fun hb=>?_⟩|fail)
      refine PW.seq2 ?_
      repeat' (first|simp -implicitDefEqProofs only[go_sem,valV,n1,n2,n3,n5,n6,n7,decide_false]|refine ag_ (fun hb=>?_) (fun hb=>?_)|refine⟨fun hb=>?_,fun hb=>?_⟩|refine ac_ hd rfl rfl ?_|refine ac_ hop rfl rfl ?_|fail)
      refine PW.seq1 ?_
      refine PW.regT 3 [94,95,96] rfl rfl ?_
      repeat' (first|simp -implicitDefEqProofs only[go_sem]|refine ag_ (fun hb=>?_) (fun hb=>?_)|refine⟨fun hb=>?_,fun hb=>?_⟩|fail)
      exact⟨_,_,rfl,FitL.refl _,hm⟩
   ·obtain⟨a,hd⟩:=ik2 hf
    clear ik1 ik2 hop
    rw[if_pos hf]
    refine⟨fun h=>absurd h hf,fun _ =>?_⟩
    simp only[valV,f10,qeaV,d_,q_,f_,s_,s10,n_,t_,s11,v_] at hc hd
    refine⟨a,P10.of_pw Tryz.func258 kefn_ rfl ?_⟩
    unfold cefn_
    dsimp only
    rcases h67 with ⟨rfl,rfl⟩ | ⟨rfl,rfl⟩ | ⟨n6,n7⟩
    ·refine PW.seq2 ?_
     repeat' (first|simp -implicitDefEqProofs only[go_sem,f10,qeaV,d_,q_,f_,s_,s10,n_,t_,s11,v_]|refine ag_ (fun hb=>?_) (fun hb=>?_)|refine⟨fun hb=>?_,fun hb=>?_⟩|fail)
     refine PW.seq2 ?_
     repeat' (first|simp -implicitDefEqProofs only[go_sem,f10,qeaV,d_,q_,f_,s_,s10,n_,t_,s11,v_,am_ hx,n11,valV]|refine ag_ (fun hb=>?_) (fun hb=>?_)|refine⟨fun hb=>?_,fun hb=>?_⟩|fail)
     refine PW.seq2 ?_
     repeat' (first|simp -implicitDefEqProofs only[go_sem]|refine ag_ (fun hb=>?_) (fun hb=>?_)|refine⟨fun hb=>?_,fun hb=>?_⟩|fail)
     refine PW.seq2 ?_
     repeat' (first|simp -implicitDefEqProofs only[go_sem,valV]|refine ag_ (fun hb=>?_) (fun hb=>?_)|refine⟨fun hb=>?_,fun hb=>?_⟩|refine ac_ hc rfl rfl ?_|fail)
     refine PW.seq2 ?_
     repeat' (first|simp -implicitDefEqProofs only[go_sem,valV]|refine ag_ (fun hb=>?_) (fun hb=>?_)|refine⟨fun hb=>?_,fun hb=>?_⟩|fail)
     refine PW.seq1 ?_
     refine PW.dregA 6 rfl rfl rfl rfl rfl rfl rfl rfl ?_
     repeat' (first|simp -implicitDefEqProofs only[go_sem,valV]|refine ag_ (fun hb=>?_) (fun hb=>?_)|refine⟨fun hb=>?_,fun hb=>?_⟩|fail)
     exact⟨⟨_,_,rfl,FitL.refl _,hd⟩,⟨_,_,rfl,FitL.refl _,hd⟩⟩
    ·refine PW.seq2 ?_
     repeat' (first|simp -implicitDefEqProofs only[go_sem,f10,qeaV,d_,q_,f_,s_,s10,n_,t_,s11,v_]|refine ag_ (fun hb=>?_) (fun hb=>?_)|refine⟨fun hb=>?_,fun hb=>?_⟩|fail)
     refine PW.seq2 ?_
     repeat' (first|simp -implicitDefEqProofs only[go_sem,f10,qeaV,d_,q_,f_,s_,s10,n_,t_,s11,v_,am_ hx,n11,valV]|refine ag_ (fun hb=>?_) (fun hb=>?_)|refine⟨fun hb=>?_,fun hb=>?_⟩|fail)
     refine PW.seq2 ?_
     repeat' (first|simp -implicitDefEqProofs only[go_sem]|refine ag_ (fun hb=>?_) (fun hb=>?_)|refine⟨fun hb=>?_,fun hb=>?_⟩|fail)
     refine PW.seq2 ?_
     repeat' (first|simp -implicitDefEqProofs only[go_sem,valV]|refine ag_ (fun hb=>?_) (fun hb=>?_)|refine⟨fun hb=>?_,fun hb=>?_⟩|refine ac_ hc rfl rfl ?_|fail)
     refine PW.seq2 ?_
     repeat' (first|simp -implicitDefEqProofs only[go_sem,valV]|refine ag_ (fun hb=>?_) (fun hb=>?_)|refine⟨fun hb=>?_,fun hb=>?_⟩|fail)
     refine PW.seq1 ?_
     refine PW.dregA 6 rfl rfl rfl rfl rfl rfl rfl rfl ?_
     repeat' (first|simp -implicitDefEqProofs only[go_sem,valV]|refine ag_ (fun hb=>?_) (fun hb=>?_)|refine⟨fun hb=>?_,fun hb=>?_⟩|fail)
     exact⟨⟨_,_,rfl,FitL.refl _,hd⟩,⟨_,_,rfl,FitL.refl _,hd⟩⟩
    ·refine PW.seq2 ?_
     repeat' (first|simp -implicitDefEqProofs only[go_sem,f10,qeaV,d_,q_,f_,s_,s10,n_,t_,s11,v_]|refine ag_ (fun hb=>?_) (fun hb=>?_)|refine⟨fun hb=>?_,fun hb=>?_⟩|fail)
     refine PW.seq2 ?_
     repeat' (first|simp -implicitDefEqProofs only[go_sem,f10,qeaV,d_,q_,f_,s_,s10,n_,t_,s11,v_,am_ hx,n11,valV]|refine ag_ (fun hb=>?_) (fun hb=>?_)|refine⟨fun hb=>?_,fun hb=>?_⟩|fail)
     refine PW.seq2 ?_
     repeat' (first|simp -implicitDefEqProofs only[go_sem,n1,n2,n3,n5,n6,n7,decide_false]|refine ag_ (fun hb=>?_) (fun hb=>?_)|refine⟨fun hb=>?_,fun hb=>?_⟩|fail)
     refine PW.seq2 ?_
     repeat' (first|simp -implicitDefEqProofs only[go_sem,valV,n1,n2,n3,n5,n6,n7,decide_false]|refine ag_ (fun hb=>?_) (fun hb=>?_)|refine⟨fun hb=>?_,fun hb=>?_⟩|refine ac_ hc rfl rfl ?_|fail)
     refine PW.seq2 ?_
     repeat' (first|simp -implicitDefEqProofs only[go_sem,valV,n1,n2,n3,n5,n6,n7,decide_false]|refine ag_ (fun hb=>?_) (fun hb=>?_)|refine⟨fun hb=>?_,fun hb=>?_⟩|fail)
     refine PW.seq1 ?_
     refine PW.dregA 6 rfl rfl rfl rfl rfl rfl rfl rfl ?_
     repeat' (first|simp -implicitDefEqProofs only[go_sem,valV]|refine ag_ (fun hb=>?_) (fun hb=>?_)|refine⟨fun hb=>?_,fun hb=>?_⟩|fail)
     exact⟨⟨_,_,rfl,FitL.refl _,hd⟩,⟨_,_,rfl,FitL.refl _,hd⟩⟩
 ·obtain⟨a,hc⟩:=ih2 he
  clear ih1 ih2 ik1 ik2 hop
  rw[show evOp op (⟨k,n,s,t⟩,e) (⟨uk,un,us,ut⟩,f)=(v0,e) by unfold evOp;rw[if_pos he]]
  refine⟨fun h=>absurd h he,fun _ =>?_⟩
  simp only[valV,f10,qeaV,d_,q_,f_,s_,s10,n_,t_,s11,v_] at hc
  refine⟨a,P10.of_pw Tryz.func258 kefn_ rfl ?_⟩
  unfold cefn_
  dsimp only
  refine PW.seq2 ?_
  repeat' (first|simp -implicitDefEqProofs only[go_sem,f10,qeaV,d_,q_,f_,s_,s10,n_,t_,s11,v_]|refine ag_ (fun hb=>?_) (fun hb=>?_)|refine⟨fun hb=>?_,fun hb=>?_⟩|fail)
  refine PW.seq2 ?_
  repeat' (first|simp -implicitDefEqProofs only[go_sem,f10,qeaV,d_,q_,f_,s_,s10,n_,t_,s11,v_,am_ hx,n11,valV]|refine ag_ (fun hb=>?_) (fun hb=>?_)|refine⟨fun hb=>?_,fun hb=>?_⟩|fail)
  refine PW.seq2 ?_
  repeat' (first|simp -implicitDefEqProofs only[go_sem,n1,n2,n3]|refine ag_ (fun hb=>?_) (fun hb=>?_)|refine⟨fun hb=>?_,fun hb=>?_⟩|fail)
  refine PW.seq1 ?_
  refine PW.regT 3 [46,48] rfl rfl ?_
  repeat' (first|simp -implicitDefEqProofs only[go_sem]|refine ag_ (fun hb=>?_) (fun hb=>?_)|refine⟨fun hb=>?_,fun hb=>?_⟩|fail)
  exact⟨_,_,rfl,FitL.refl _,hc⟩
theorem np_ {q:QeaT} {b:List SlotT} {vals:List Val} {S:Nat→Prop} (hS:Safe q S) (hE:Env q b vals) (i:Nat) (hi:S i):N11 G q b vals i:=by
 induction i using Nat.strongRecOn with
 | _ i ih=>
  obtain⟨x,hx,hw⟩:=hS.node i hi
  cases hw with
  | con h hv=>exact nl12 hE hx (.con h hv) (by omega)
  | quant h j hj y hy=>exact nl12 hE hx (.quant h j hj y hy) (by omega)
  | free h j hj y hy=>exact nl12 hE hx (.free h j hj y hy) (by omega)
  | una h j hj hlt=>
   have hs:=(hS.sub i x hi hx (by omega)).1
   rw[hj,Int.toNat_natCast] at hs
   exact nu10 hS hE hx h hj hlt hs (ih j hlt hs)
  | bin h j k hj hk hlt hlk=>
   obtain⟨hs,hs2⟩:=hS.sub i x hi hx (by omega)
   have hs2:=hs2 (by omega)
   rw[hj,Int.toNat_natCast] at hs
   rw[hk,Int.toNat_natCast] at hs2
   exact nb_ hS hE hx h hj hk hlt hlk hs hs2 (ih j hlt hs) (ih k hlk hs2)
end Go.Proofs.YtjbcfpkibnhodaaGreatDoor.Ab
