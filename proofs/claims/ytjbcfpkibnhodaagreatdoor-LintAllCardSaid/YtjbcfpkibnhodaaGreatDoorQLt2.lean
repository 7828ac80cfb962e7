/-
  proctorlaw39.text: the text of what is odd, as the statement has it. No claim is proved here.
-/
import Derived.Test.YtjbcfpkibnhodaaGreatDoorQLt1
namespace Go.Proofs.YtjbcfpkibnhodaaGreatDoor.Ab
open Go Go.RowKit
set_option linter.unusedSimpArgs false
set_option maxHeartbeats 4000000
set_option maxRecDepth 100000
variable {G:Nat→Option AV}
def t14 (q:QeaT) (k n:Int):Str:=
 if k=1 then (match at? q.states n with | some x=>[117,110,114,101,97,99,104,101,100,32]++x.name | none=>[])
 else if k=2 then (match at? q.states n with | some x=>[100,101,97,100,32]++x.name | none=>[])
 else if k=3 then (match at? q.frees n with | some x=>[117,110,114,101,97,100,32]++x.name | none=>[])
 else if k=4 then (match at? q.frees n with | some x=>[117,110,99,104,97,110,103,101,100,32]++x.name | none=>[])
 else if k=5 then (match at? q.trans n with | some _ =>[110,101,118,101,114,32]++Lib.itoa (n+1) | none=>[])
 else if k=6 then (match at? q.decls n with | some x=>[117,110,117,115,101,100,32]++x.name | none=>[])
 else []
theorem tl16 {q:QeaT} {k n:Int} (h:n<0):t14 q k n=[]:=by
 unfold t14
 rw[at?_low h,at?_low h,at?_low h,at?_low h]
 dsimp only
 repeat' split
 all_goals rfl
theorem to10 {q:QeaT} {k n:Int} (h1:¬k=1) (h2:¬k=2) (h3:¬k=3) (h4:¬k=4) (h5:¬k=5) (h6:¬k=6):t14 q k n=[]:=by
 unfold t14
 rw[if_neg h1,if_neg h2,if_neg h3,if_neg h4,if_neg h5,if_neg h6]
structure QeaT.Named (q:QeaT):Prop where
 trans:q.trans.length≤1000000
 states:∀x∈q.states,x.name≠[]∧x.name.length≤1000000
 frees:∀x∈q.frees,x.name≠[]∧x.name.length≤1000000
 decls:∀x∈q.decls,x.name≠[]∧x.name.length≤1000000
theorem il_ {n:Nat} (h:n≤1000000):Lib.itoa ((n:Int)+1)≠[]∧(Lib.itoa ((n:Int)+1)).length≤1000000:=by
 rw[ip_ (by omega)]
 have key:∀(k u:Nat),u<k→Lib.decDigits u≠[]∧(Lib.decDigits u).length≤u+1:=fun k=>by
  induction k with
  | zero=>intro u hu;omega
  | succ k ih=>
   intro u hu
   by_cases h10:u<10
   ·rw[ds_ h10]
    exact⟨by simp,by simp⟩
   ·rw[db_ h10]
    have:=(ih (u / 10) (by omega)).2
    exact⟨by simp,by simp;omega⟩
 have:=key _ ((n:Int)+1).toNat (Nat.lt_succ_self _)
 by_cases hs:n<100000
 ·exact⟨this.1,by omega⟩
 ·refine⟨this.1,?_⟩
  have hn:((n:Int)+1).toNat=n+1:=by omega
  rw[hn,db_ (by omega),db_ (by omega),List.length_append,List.length_append]
  have:=(key _ ((n+1) / 10 / 10) (Nat.lt_succ_self _)).2
  simp
  omega
theorem ltp_ (q:QeaT) (hq:q.Named) (k n:Int):P_ Tryz.prog G np16 [qeaV q,iv k,iv n] (.str (t14 q k n)):=by
 have htl:=hq.trans
 refine pp25 (Runs.of fun Φ h=>?_)
 unfold cp25
 by_cases hn:n<0
 ·have e0:(n<0)=True:=by simp;exact hn
  rw[tl16 hn] at h
  repeat' (first | (simp -implicitDefEqProofs only[go_sem,qeaV,d_,q_,f_,s_,s10,n_,t_,e0,decide_true]) | refine ag_ (fun hb=>?_) (fun hb=>?_) | refine⟨fun hb=>?_,fun hb=>?_⟩ | fail)
  exact h _ ⟨_,_,rfl,rfl,.refl _⟩
 obtain⟨j,rfl⟩:=Int.eq_ofNat_of_zero_le (show 0≤n by omega)
 have e0:((j:Int)<0)=False:=by simp
 clear hn
 by_cases k1:k=1
 ·subst k1
  by_cases hlt':j<q.states.length
  ·obtain⟨x,hx,hxm⟩:=as10 hlt'
   have hlt:((j:Int)<(q.states.length:Int))=True:=by simp;exact hlt'
   rw[t14,if_pos rfl,at?_nat hx] at h
   dsimp only at h
   have hil:=(hq.states x hxm).2
   have a1:abin .add (.str [117,110,114,101,97,99,104,101,100,32]) (.str x.name)=some (.str ([117,110,114,101,97,99,104,101,100,32]++x.name)):=aa11 (by simp;omega)
   repeat' (first | (simp -implicitDefEqProofs only[go_sem,qeaV,d_,q_,f_,s_,s10,n_,t_,List.length_map,e0,hlt,decide_false,decide_true,am_ hx,s19,a1]) | refine ag_ (fun hb=>?_) (fun hb=>?_) | refine⟨fun hb=>?_,fun hb=>?_⟩ | fail)
   exact h _ ⟨_,_,rfl,rfl,.refl _⟩
  ·have hlt:((j:Int)<(q.states.length:Int))=False:=by simp;omega
   rw[t14,if_pos rfl,at?_out (by omega)] at h
   dsimp only at h
   repeat' (first | (simp -implicitDefEqProofs only[go_sem,qeaV,d_,q_,f_,s_,s10,n_,t_,List.length_map,e0,hlt,decide_false]) | refine ag_ (fun hb=>?_) (fun hb=>?_) | refine⟨fun hb=>?_,fun hb=>?_⟩ | fail)
   exact h _ ⟨_,_,rfl,rfl,.refl _⟩
 have d1:(k=1)=False:=by simp;exact k1
 have b1:(k==1)=false:=by simp;exact k1
 by_cases k2:k=2
 ·subst k2
  by_cases hlt':j<q.states.length
  ·obtain⟨x,hx,hxm⟩:=as10 hlt'
   have hlt:((j:Int)<(q.states.length:Int))=True:=by simp;exact hlt'
   rw[t14,if_neg (by decide),if_pos rfl,at?_nat hx] at h
   dsimp only at h
   have hil:=(hq.states x hxm).2
   have a1:abin .add (.str [100,101,97,100,32]) (.str x.name)=some (.str ([100,101,97,100,32]++x.name)):=aa11 (by simp;omega)
   repeat' (first | (simp -implicitDefEqProofs only[go_sem,qeaV,d_,q_,f_,s_,s10,n_,t_,List.length_map,e0,hlt,decide_false,decide_true,am_ hx,s19,a1]) | refine ag_ (fun hb=>?_) (fun hb=>?_) | refine⟨fun hb=>?_,fun hb=>?_⟩ | fail)
   exact h _ ⟨_,_,rfl,rfl,.refl _⟩
  ·have hlt:((j:Int)<(q.states.length:Int))=False:=by simp;omega
   rw[t14,if_neg (by decide),if_pos rfl,at?_out (by omega)] at h
   dsimp only at h
   repeat' (first | (simp -implicitDefEqProofs only[go_sem,qeaV,d_,q_,f_,s_,s10,n_,t_,List.length_map,e0,hlt,decide_false]) | refine ag_ (fun hb=>?_) (fun hb=>?_) | refine⟨fun hb=>?_,fun hb=>?_⟩ | fail)
   exact h _ ⟨_,_,rfl,rfl,.refl _⟩
 have d2:(k=2)=False:=by simp;exact k2
 have b2:(k==2)=false:=by simp;exact k2
 by_cases k3:k=3
 ·subst k3
  by_cases hlt':j<q.frees.length
  ·obtain⟨x,hx,hxm⟩:=as10 hlt'
   have hlt:((j:Int)<(q.frees.length:Int))=True:=by simp;exact hlt'
   rw[t14,if_neg (by decide),if_neg (by decide),if_pos rfl,at?_nat hx] at h
   dsimp only at h
   have hil:=(hq.frees x hxm).2
   have a1:abin .add (.str [117,110,114,101,97,100,32]) (.str x.name)=some (.str ([117,110,114,101,97,100,32]++x.name)):=aa11 (by simp;omega)
   repeat' (first | (simp -implicitDefEqProofs only[go_sem,qeaV,d_,q_,f_,s_,s10,n_,t_,List.length_map,e0,hlt,decide_false,decide_true,am_ hx,f11,a1]) | refine ag_ (fun hb=>?_) (fun hb=>?_) | refine⟨fun hb=>?_,fun hb=>?_⟩ | fail)
   exact h _ ⟨_,_,rfl,rfl,.refl _⟩
  ·have hlt:((j:Int)<(q.frees.length:Int))=False:=by simp;omega
   rw[t14,if_neg (by decide),if_neg (by decide),if_pos rfl,at?_out (by omega)] at h
   dsimp only at h
   repeat' (first | (simp -implicitDefEqProofs only[go_sem,qeaV,d_,q_,f_,s_,s10,n_,t_,List.length_map,e0,hlt,decide_false]) | refine ag_ (fun hb=>?_) (fun hb=>?_) | refine⟨fun hb=>?_,fun hb=>?_⟩ | fail)
   exact h _ ⟨_,_,rfl,rfl,.refl _⟩
 have d3:(k=3)=False:=by simp;exact k3
 have b3:(k==3)=false:=by simp;exact k3
 by_cases k4:k=4
 ·subst k4
  by_cases hlt':j<q.frees.length
  ·obtain⟨x,hx,hxm⟩:=as10 hlt'
   have hlt:((j:Int)<(q.frees.length:Int))=True:=by simp;exact hlt'
   rw[t14,if_neg (by decide),if_neg (by decide),if_neg (by decide),if_pos rfl,at?_nat hx] at h
   dsimp only at h
   have hil:=(hq.frees x hxm).2
   have a1:abin .add (.str [117,110,99,104,97,110,103,101,100,32]) (.str x.name)=some (.str ([117,110,99,104,97,110,103,101,100,32]++x.name)):=aa11 (by simp;omega)
   repeat' (first | (simp -implicitDefEqProofs only[go_sem,qeaV,d_,q_,f_,s_,s10,n_,t_,List.length_map,e0,hlt,decide_false,decide_true,am_ hx,f11,a1]) | refine ag_ (fun hb=>?_) (fun hb=>?_) | refine⟨fun hb=>?_,fun hb=>?_⟩ | fail)
   exact h _ ⟨_,_,rfl,rfl,.refl _⟩
  ·have hlt:((j:Int)<(q.frees.length:Int))=False:=by simp;omega
   rw[t14,if_neg (by decide),if_neg (by decide),if_neg (by decide),if_pos rfl,at?_out (by omega)] at h
   dsimp only at h
   repeat' (first | (simp -implicitDefEqProofs only[go_sem,qeaV,d_,q_,f_,s_,s10,n_,t_,List.length_map,e0,hlt,decide_false]) | refine ag_ (fun hb=>?_) (fun hb=>?_) | refine⟨fun hb=>?_,fun hb=>?_⟩ | fail)
   exact h _ ⟨_,_,rfl,rfl,.refl _⟩
 have d4:(k=4)=False:=by simp;exact k4
 have b4:(k==4)=false:=by simp;exact k4
 by_cases k5:k=5
 ·subst k5
  by_cases hlt':j<q.trans.length
  ·obtain⟨x,hx,hxm⟩:=as10 hlt'
   have hlt:((j:Int)<(q.trans.length:Int))=True:=by simp;exact hlt'
   rw[t14,if_neg (by decide),if_neg (by decide),if_neg (by decide),if_neg (by decide),if_pos rfl,at?_nat hx] at h
   dsimp only at h
   have hw:=ws_ hlt' (by omega)
   have h1:=rTp_ (G:=G) _ ((j:Int)+1) (Nat.lt_succ_self _) ⟨by omega,by omega⟩
   have hil:=(il_ (n:=j) (by omega)).2
   generalize Lib.itoa ((j:Int)+1)=z at*
   have hj1:((j+1:Nat):Int)=(j:Int)+1:=rfl
   rw[hj1] at hw
   have a1:abin .add (.str [110,101,118,101,114,32]) (.str z)=some (.str ([110,101,118,101,114,32]++z)):=aa11 (by simp;omega)
   repeat' (first | (simp -implicitDefEqProofs only[go_sem,qeaV,d_,q_,f_,s_,s10,n_,t_,List.length_map,e0,hlt,decide_false,decide_true,hw,a1]) | refine ag_ (fun hb=>?_) (fun hb=>?_) | refine⟨fun hb=>?_,fun hb=>?_⟩ | refine ac_ (h1) rfl rfl ?_ | fail)
   exact h _ ⟨_,_,rfl,rfl,.refl _⟩
  ·have hlt:((j:Int)<(q.trans.length:Int))=False:=by simp;omega
   rw[t14,if_neg (by decide),if_neg (by decide),if_neg (by decide),if_neg (by decide),if_pos rfl,at?_out (by omega)] at h
   dsimp only at h
   repeat' (first | (simp -implicitDefEqProofs only[go_sem,qeaV,d_,q_,f_,s_,s10,n_,t_,List.length_map,e0,hlt,decide_false]) | refine ag_ (fun hb=>?_) (fun hb=>?_) | refine⟨fun hb=>?_,fun hb=>?_⟩ | fail)
   exact h _ ⟨_,_,rfl,rfl,.refl _⟩
 have d5:(k=5)=False:=by simp;exact k5
 have b5:(k==5)=false:=by simp;exact k5
 by_cases k6:k=6
 ·subst k6
  by_cases hlt':j<q.decls.length
  ·obtain⟨x,hx,hxm⟩:=as10 hlt'
   have hlt:((j:Int)<(q.decls.length:Int))=True:=by simp;exact hlt'
   rw[t14,if_neg (by decide),if_neg (by decide),if_neg (by decide),if_neg (by decide),if_neg (by decide),if_pos rfl,at?_nat hx] at h
   dsimp only at h
   have hil:=(hq.decls x hxm).2
   have a1:abin .add (.str [117,110,117,115,101,100,32]) (.str x.name)=some (.str ([117,110,117,115,101,100,32]++x.name)):=aa11 (by simp;omega)
   repeat' (first | (simp -implicitDefEqProofs only[go_sem,qeaV,d_,q_,f_,s_,s10,n_,t_,List.length_map,e0,hlt,decide_false,decide_true,am_ hx,d12,a1]) | refine ag_ (fun hb=>?_) (fun hb=>?_) | refine⟨fun hb=>?_,fun hb=>?_⟩ | fail)
   exact h _ ⟨_,_,rfl,rfl,.refl _⟩
  ·have hlt:((j:Int)<(q.decls.length:Int))=False:=by simp;omega
   rw[t14,if_neg (by decide),if_neg (by decide),if_neg (by decide),if_neg (by decide),if_neg (by decide),if_pos rfl,at?_out (by omega)] at h
   dsimp only at h
   repeat' (first | (simp -implicitDefEqProofs only[go_sem,qeaV,d_,q_,f_,s_,s10,n_,t_,List.length_map,e0,hlt,decide_false]) | refine ag_ (fun hb=>?_) (fun hb=>?_) | refine⟨fun hb=>?_,fun hb=>?_⟩ | fail)
   exact h _ ⟨_,_,rfl,rfl,.refl _⟩
 have d6:(k=6)=False:=by simp;exact k6
 have b6:(k==6)=false:=by simp;exact k6
 rw[to10 k1 k2 k3 k4 k5 k6] at h
 repeat' (first | (simp -implicitDefEqProofs only[go_sem,qeaV,d_,q_,f_,s_,s10,n_,t_,List.length_map,e0,d1,b1,d2,b2,d3,b3,d4,b4,d5,b5,d6,b6,decide_false]) | refine ag_ (fun hb=>?_) (fun hb=>?_) | refine⟨fun hb=>?_,fun hb=>?_⟩ | fail)
 exact h _ ⟨_,_,rfl,rfl,.refl _⟩
theorem na_ {q:QeaT} (hq:q.Named) (k n:Int):(n14 q k n).length≤1000000:=by
 unfold n14
 repeat' split
 all_goals first | exact Nat.zero_le _ | skip
 ·rename_i h;obtain⟨j,_,hj⟩:=at?_some h;exact (hq.states _ (List.mem_of_getElem? hj)).2
 ·rename_i h;obtain⟨j,_,hj⟩:=at?_some h;exact (hq.states _ (List.mem_of_getElem? hj)).2
 ·rename_i h;obtain⟨j,_,hj⟩:=at?_some h;exact (hq.frees _ (List.mem_of_getElem? hj)).2
 ·rename_i h;obtain⟨j,_,hj⟩:=at?_some h;exact (hq.frees _ (List.mem_of_getElem? hj)).2
 ·rename_i h;obtain⟨j,rfl,hj⟩:=at?_some h;have:=(List.getElem?_eq_some_iff.1 hj).1;have:=hq.trans;exact (il_ (by omega)).2
 ·rename_i h;obtain⟨j,_,hj⟩:=at?_some h;exact (hq.decls _ (List.mem_of_getElem? hj)).2
theorem ts11 {q:QeaT} (hq:q.Named) (k n:Int):t16 q k n=t14 q k n:=by
 by_cases k1:k=1
 ·subst k1
  have e1:n14 q 1 n=(match at? q.states n with | some x=>x.name | none=>[]):=by rw[n14,if_pos rfl] <;> rfl
  have e2:t14 q 1 n=(match at? q.states n with | some x=>[117,110,114,101,97,99,104,101,100,32]++x.name | none=>[]):=by rw[t14,if_pos rfl] <;> rfl
  rw[t16,e1,e2]
  cases hc:at? q.states n with
  | none=>rfl
  | some x=>
   dsimp only
   obtain⟨j,_,hj⟩:=at?_some hc
   rw[if_neg (hq.states _ (List.mem_of_getElem? hj)).1,if_pos rfl]
 by_cases k2:k=2
 ·subst k2
  have e1:n14 q 2 n=(match at? q.states n with | some x=>x.name | none=>[]):=by rw[n14,if_neg (by decide),if_pos rfl] <;> rfl
  have e2:t14 q 2 n=(match at? q.states n with | some x=>[100,101,97,100,32]++x.name | none=>[]):=by rw[t14,if_neg (by decide),if_pos rfl] <;> rfl
  rw[t16,e1,e2]
  cases hc:at? q.states n with
  | none=>rfl
  | some x=>
   dsimp only
   obtain⟨j,_,hj⟩:=at?_some hc
   rw[if_neg (hq.states _ (List.mem_of_getElem? hj)).1,if_neg (by decide),if_pos rfl]
 by_cases k3:k=3
 ·subst k3
  have e1:n14 q 3 n=(match at? q.frees n with | some x=>x.name | none=>[]):=by rw[n14,if_neg (by decide),if_neg (by decide),if_pos rfl] <;> rfl
  have e2:t14 q 3 n=(match at? q.frees n with | some x=>[117,110,114,101,97,100,32]++x.name | none=>[]):=by rw[t14,if_neg (by decide),if_neg (by decide),if_pos rfl] <;> rfl
  rw[t16,e1,e2]
  cases hc:at? q.frees n with
  | none=>rfl
  | some x=>
   dsimp only
   obtain⟨j,_,hj⟩:=at?_some hc
   rw[if_neg (hq.frees _ (List.mem_of_getElem? hj)).1,if_neg (by decide),if_neg (by decide),if_pos rfl]
 by_cases k4:k=4
 ·subst k4
  have e1:n14 q 4 n=(match at? q.frees n with | some x=>x.name | none=>[]):=by rw[n14,if_neg (by decide),if_neg (by decide),if_neg (by decide),if_pos rfl] <;> rfl
  have e2:t14 q 4 n=(match at? q.frees n with | some x=>[117,110,99,104,97,110,103,101,100,32]++x.name | none=>[]):=by rw[t14,if_neg (by decide),if_neg (by decide),if_neg (by decide),if_pos rfl] <;> rfl
  rw[t16,e1,e2]
  cases hc:at? q.frees n with
  | none=>rfl
  | some x=>
   dsimp only
   obtain⟨j,_,hj⟩:=at?_some hc
   rw[if_neg (hq.frees _ (List.mem_of_getElem? hj)).1,if_neg (by decide),if_neg (by decide),if_neg (by decide),if_pos rfl]
 by_cases k5:k=5
 ·subst k5
  have e1:n14 q 5 n=(match at? q.trans n with | some _ =>Lib.itoa (n+1) | none=>[]):=by rw[n14,if_neg (by decide),if_neg (by decide),if_neg (by decide),if_neg (by decide),if_pos rfl] <;> rfl
  have e2:t14 q 5 n=(match at? q.trans n with | some _ =>[110,101,118,101,114,32]++Lib.itoa (n+1) | none=>[]):=by rw[t14,if_neg (by decide),if_neg (by decide),if_neg (by decide),if_neg (by decide),if_pos rfl] <;> rfl
  rw[t16,e1,e2]
  cases hc:at? q.trans n with
  | none=>rfl
  | some x=>
   dsimp only
   obtain⟨j,rfl,hj⟩:=at?_some hc
   have:=(List.getElem?_eq_some_iff.1 hj).1
   have:=hq.trans
   rw[if_neg (il_ (by omega)).1,if_neg (by decide),if_neg (by decide),if_neg (by decide),if_neg (by decide),if_pos rfl]
 by_cases k6:k=6
 ·subst k6
  have e1:n14 q 6 n=(match at? q.decls n with | some x=>x.name | none=>[]):=by rw[n14,if_neg (by decide),if_neg (by decide),if_neg (by decide),if_neg (by decide),if_neg (by decide),if_pos rfl] <;> rfl
  have e2:t14 q 6 n=(match at? q.decls n with | some x=>[117,110,117,115,101,100,32]++x.name | none=>[]):=by rw[t14,if_neg (by decide),if_neg (by decide),if_neg (by decide),if_neg (by decide),if_neg (by decide),if_pos rfl] <;> rfl
  rw[t16,e1,e2]
  cases hc:at? q.decls n with
  | none=>rfl
  | some x=>
   dsimp only
   obtain⟨j,_,hj⟩:=at?_some hc
   rw[if_neg (hq.decls _ (List.mem_of_getElem? hj)).1,if_neg (by decide),if_neg (by decide),if_neg (by decide),if_neg (by decide),if_neg (by decide)]
 rw[t16,to10 k1 k2 k3 k4 k5 k6,no_ k1 k2 k3 k4 k5 k6,if_pos rfl]
end Go.Proofs.YtjbcfpkibnhodaaGreatDoor.Ab
