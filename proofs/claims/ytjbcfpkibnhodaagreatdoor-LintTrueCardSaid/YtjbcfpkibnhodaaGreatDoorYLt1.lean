/-
  lint.Text, proctorlaw39.text: the text of what is odd. No claim is proved here.
-/
import Derived.Test.YtjbcfpkibnhodaaGreatDoorYShelfF
namespace Go.Proofs.YtjbcfpkibnhodaaGreatDoor.Ab
open Go Go.RowKit
set_option linter.unusedSimpArgs false
set_option maxHeartbeats 4000000
set_option maxRecDepth 100000
variable {G:Nat→Option AV}
structure LintG (G:Nat→Option AV):Prop where
 pow:G 7=some (.agg (Lib.pow10Tab.map (AV.int .u64)))
 space:G 0=some (.agg (Lib.asciiSpaceTab.map (AV.int .u8)))
def o13:Str:=[117,110,114,101,97,99,104,101,100,32,100,101,97,100,32,117,110,114,101,97,100,32,117,110,99,104,97,110,103,101,100,32,110,101,118,101,114,32,117,110,117,115,101,100]
def oddL:List Str:=[[117,110,114,101,97,99,104,101,100],[100,101,97,100],[117,110,114,101,97,100],[117,110,99,104,97,110,103,101,100],[110,101,118,101,114],[117,110,117,115,101,100]]
theorem of_:Lib.fields o13=oddL:=by decide
theorem fp11 (hG:LintG G):P11 Tryz.prog G ns16 [.str o13] (.seq 1 (oddL.map AV.str)):=by
 intro w F vs hg ha
 obtain⟨v,rfl,h1⟩:=a1_ ha
 cases h1
 refine (Tryz.strings_Fields_laid ⟨o13.toArray⟩ w (by decide) (fun j b hb=>?_) (to14 (by kernel_rfl) hg hG.space)).mono ?_
 ·have hall:∀x∈o13,x.toNat<128:=by decide
  exact hall b (List.mem_of_getElem? hb)
 ·rintro e w' ⟨rfl,rfl⟩
  rw[show Lib.fields (⟨o13.toArray⟩:ByteArray).data.toList=oddL from of_]
  generalize hW:w.alloc (.cells (oddL.map fun l=>Value.string ⟨l.toArray⟩).toArray 9)=W
  have hb:W.heap[w.heap.size]? =some (.cells (oddL.map fun l=>Value.string ⟨l.toArray⟩).toArray 9 (0,0)):=by
   rw[←hW]
   show (w.heap.push _)[w.heap.size]? =_
   simp
  have hs:W.heap.size=w.heap.size+1:=by rw[←hW];simp
  have hB:Below w.heap.size w W:=by rw[←hW];exact (Below.refl _ w).alloc (Nat.le_refl _) _
  clear hW
  refine⟨_,fun b=>b=w.heap.size,rfl,fun b hb=>Nat.le_of_eq hb.symm,fun b hb=>by omega,?_,hB⟩
  have hc:∀p,p<6→(oddL.map fun l=>Value.string ⟨l.toArray⟩).toArray[p]? =some (Value.string ⟨(oddL.getD p []).toArray⟩):=fun p hp=>by
   have:p=0∨p=1∨p=2∨p=3∨p=4∨p=5:=by omega
   rcases this with rfl | rfl | rfl | rfl | rfl | rfl <;> rfl
  exact Rd.seq (w:=W) (F:=fun b=>b=w.heap.size) n10 1 (oddL.map AV.str) w.heap.size 0 6 (fun p=>Value.string ⟨(oddL.getD p []).toArray⟩) (by decide) rfl (by decide) (by decide) (fun e he=>by obtain⟨n,_,rfl⟩:=List.mem_map.1 he;rfl)
   (fun p hp=>by
    rw[Lib.cell_of_heap hb,Nat.zero_add]
    have h6:oddL.length=6:=rfl
    rw[List.length_map] at hp
    exact hc p (by omega))
   (fun p hp=>rfl)
   (fun i e j c hi hj=>by
    rw[List.getElem?_map] at hi
    obtain⟨n,hn,rfl⟩:=Option.map_eq_some_iff.1 hi
    match j,hj with
    | 0,hj=>
     cases hj
     rw[Nat.mul_one,Nat.add_zero,List.getD_eq_getElem?_getD,hn]
     exact .str _ _)
theorem nTp_ (hG:LintG G) (n:Int) (hn:i64 n):P_ Tryz.prog G nnT_ [iv n] (.str (Lib.itoa n)):=by
 have h1:=sFp_ (G:=G) hG.pow n hn
 refine pnT_ (Runs.of fun Φ h=>?_)
 unfold cnT_
 generalize Lib.itoa n=x at*
 repeat' (first|simp -implicitDefEqProofs only[go_sem]|refine ag_ (fun hb=>?_) (fun hb=>?_)|refine⟨fun hb=>?_,fun hb=>?_⟩|refine ac_ h1 rfl rfl ?_|fail)
 all_goals (refine h _ ⟨_,_,rfl,rfl,fe_ ?_⟩;clear h;first | rfl | simp_all)
theorem at?_low {α:Type} {l:List α} {n:Int} (h:n<0):at? l n=none:=by unfold at?;rw[if_neg (by omega)]
theorem at?_out {α:Type} {l:List α} {j:Nat} (h:l.length≤j):at? l (j:Int)=none:=by unfold at?;rw[if_pos (by omega)];simpa using h
def n15 (q:QeaT) (k n:Int):Str:=
 if k=1 then (match at? q.states n with | some x=>x.name | none=>[])
 else if k=2 then (match at? q.states n with | some x=>x.name | none=>[])
 else if k=3 then (match at? q.frees n with | some x=>x.name | none=>[])
 else if k=4 then (match at? q.frees n with | some x=>x.name | none=>[])
 else if k=5 then (match at? q.trans n with | some _ =>Lib.itoa (n+1) | none=>[])
 else if k=6 then (match at? q.decls n with | some x=>x.name | none=>[])
 else []
theorem nl15 {q:QeaT} {k n:Int} (h:n<0):n15 q k n=[]:=by
 unfold n15
 rw[at?_low h,at?_low h,at?_low h,at?_low h]
 dsimp only
 repeat' split
 all_goals rfl
theorem no_ {q:QeaT} {k n:Int} (h1:¬k=1) (h2:¬k=2) (h3:¬k=3) (h4:¬k=4) (h5:¬k=5) (h6:¬k=6):n15 q k n=[]:=by
 unfold n15
 rw[if_neg h1,if_neg h2,if_neg h3,if_neg h4,if_neg h5,if_neg h6]
theorem ln10 (hG:LintG G) (q:QeaT) (hl:q.trans.length≤1000000) (k n:Int):P_ Tryz.prog G nl10 [qeaV q,.agg [iv k,iv n]] (.str (n15 q k n)):=by
 refine pl12 (Runs.of fun Φ h=>?_)
 unfold cl10
 by_cases hn:n<0
 ·have e0:(n<0)=True:=by simp;exact hn
  rw[nl15 hn] at h
  repeat' (first|simp -implicitDefEqProofs only[go_sem,qeaV,d_,q_,f_,s_,s10,n_,t_,e0,decide_true]|refine ag_ (fun hb=>?_) (fun hb=>?_)|refine⟨fun hb=>?_,fun hb=>?_⟩|fail)
  exact h _ ⟨_,_,rfl,rfl,.refl _⟩
 obtain⟨j,rfl⟩:=Int.eq_ofNat_of_zero_le (show 0≤n by omega)
 have e0:((j:Int)<0)=False:=by simp
 clear hn
 by_cases k1:k=1
 ·subst k1
  by_cases hlt':j<q.states.length
  ·obtain⟨x,hx,hxm⟩:=as10 hlt'
   have hlt:((j:Int)<(q.states.length:Int))=True:=by simp;exact hlt'
   rw[n15,if_pos rfl,at?_nat hx] at h
   dsimp only at h
   repeat' (first|simp -implicitDefEqProofs only[go_sem,qeaV,d_,q_,f_,s_,s10,n_,t_,List.length_map,e0,hlt,decide_false,decide_true,am_ hx,s22]|refine ag_ (fun hb=>?_) (fun hb=>?_)|refine⟨fun hb=>?_,fun hb=>?_⟩|fail)
   exact h _ ⟨_,_,rfl,rfl,.refl _⟩
  ·have hlt:((j:Int)<(q.states.length:Int))=False:=by simp;omega
   rw[n15,if_pos rfl,at?_out (by omega)] at h
   dsimp only at h
   repeat' (first|simp -implicitDefEqProofs only[go_sem,qeaV,d_,q_,f_,s_,s10,n_,t_,List.length_map,e0,hlt,decide_false]|refine ag_ (fun hb=>?_) (fun hb=>?_)|refine⟨fun hb=>?_,fun hb=>?_⟩|fail)
   exact h _ ⟨_,_,rfl,rfl,.refl _⟩
 have d1:(k=1)=False:=by simp;exact k1
 have b1:(k==1)=false:=by simp;exact k1
 by_cases k2:k=2
 ·subst k2
  by_cases hlt':j<q.states.length
  ·obtain⟨x,hx,hxm⟩:=as10 hlt'
   have hlt:((j:Int)<(q.states.length:Int))=True:=by simp;exact hlt'
   rw[n15,if_neg (by decide),if_pos rfl,at?_nat hx] at h
   dsimp only at h
   repeat' (first|simp -implicitDefEqProofs only[go_sem,qeaV,d_,q_,f_,s_,s10,n_,t_,List.length_map,e0,hlt,decide_false,decide_true,am_ hx,s22]|refine ag_ (fun hb=>?_) (fun hb=>?_)|refine⟨fun hb=>?_,fun hb=>?_⟩|fail)
   exact h _ ⟨_,_,rfl,rfl,.refl _⟩
  ·have hlt:((j:Int)<(q.states.length:Int))=False:=by simp;omega
   rw[n15,if_neg (by decide),if_pos rfl,at?_out (by omega)] at h
   dsimp only at h
   repeat' (first|simp -implicitDefEqProofs only[go_sem,qeaV,d_,q_,f_,s_,s10,n_,t_,List.length_map,e0,hlt,decide_false]|refine ag_ (fun hb=>?_) (fun hb=>?_)|refine⟨fun hb=>?_,fun hb=>?_⟩|fail)
   exact h _ ⟨_,_,rfl,rfl,.refl _⟩
 have d2:(k=2)=False:=by simp;exact k2
 have b2:(k==2)=false:=by simp;exact k2
 by_cases k3:k=3
 ·subst k3
  by_cases hlt':j<q.frees.length
  ·obtain⟨x,hx,hxm⟩:=as10 hlt'
   have hlt:((j:Int)<(q.frees.length:Int))=True:=by simp;exact hlt'
   rw[n15,if_neg (by decide),if_neg (by decide),if_pos rfl,at?_nat hx] at h
   dsimp only at h
   repeat' (first|simp -implicitDefEqProofs only[go_sem,qeaV,d_,q_,f_,s_,s10,n_,t_,List.length_map,e0,hlt,decide_false,decide_true,am_ hx,f11]|refine ag_ (fun hb=>?_) (fun hb=>?_)|refine⟨fun hb=>?_,fun hb=>?_⟩|fail)
   exact h _ ⟨_,_,rfl,rfl,.refl _⟩
  ·have hlt:((j:Int)<(q.frees.length:Int))=False:=by simp;omega
   rw[n15,if_neg (by decide),if_neg (by decide),if_pos rfl,at?_out (by omega)] at h
   dsimp only at h
   repeat' (first|simp -implicitDefEqProofs only[go_sem,qeaV,d_,q_,f_,s_,s10,n_,t_,List.length_map,e0,hlt,decide_false]|refine ag_ (fun hb=>?_) (fun hb=>?_)|refine⟨fun hb=>?_,fun hb=>?_⟩|fail)
   exact h _ ⟨_,_,rfl,rfl,.refl _⟩
 have d3:(k=3)=False:=by simp;exact k3
 have b3:(k==3)=false:=by simp;exact k3
 by_cases k4:k=4
 ·subst k4
  by_cases hlt':j<q.frees.length
  ·obtain⟨x,hx,hxm⟩:=as10 hlt'
   have hlt:((j:Int)<(q.frees.length:Int))=True:=by simp;exact hlt'
   rw[n15,if_neg (by decide),if_neg (by decide),if_neg (by decide),if_pos rfl,at?_nat hx] at h
   dsimp only at h
   repeat' (first|simp -implicitDefEqProofs only[go_sem,qeaV,d_,q_,f_,s_,s10,n_,t_,List.length_map,e0,hlt,decide_false,decide_true,am_ hx,f11]|refine ag_ (fun hb=>?_) (fun hb=>?_)|refine⟨fun hb=>?_,fun hb=>?_⟩|fail)
   exact h _ ⟨_,_,rfl,rfl,.refl _⟩
  ·have hlt:((j:Int)<(q.frees.length:Int))=False:=by simp;omega
   rw[n15,if_neg (by decide),if_neg (by decide),if_neg (by decide),if_pos rfl,at?_out (by omega)] at h
   dsimp only at h
   repeat' (first|simp -implicitDefEqProofs only[go_sem,qeaV,d_,q_,f_,s_,s10,n_,t_,List.length_map,e0,hlt,decide_false]|refine ag_ (fun hb=>?_) (fun hb=>?_)|refine⟨fun hb=>?_,fun hb=>?_⟩|fail)
   exact h _ ⟨_,_,rfl,rfl,.refl _⟩
 have d4:(k=4)=False:=by simp;exact k4
 have b4:(k==4)=false:=by simp;exact k4
 by_cases k5:k=5
 ·subst k5
  by_cases hlt':j<q.trans.length
  ·obtain⟨x,hx,hxm⟩:=as10 hlt'
   have hlt:((j:Int)<(q.trans.length:Int))=True:=by simp;exact hlt'
   rw[n15,if_neg (by decide),if_neg (by decide),if_neg (by decide),if_neg (by decide),if_pos rfl,at?_nat hx] at h
   dsimp only at h
   have hw:=ws_ hlt' (by omega)
   have h1:=nTp_ hG ((j:Int)+1) ⟨by omega,by omega⟩
   generalize Lib.itoa ((j:Int)+1)=z at*
   have hj1:((j+1:Nat):Int)=(j:Int)+1:=rfl
   rw[hj1] at hw
   repeat' (first|simp -implicitDefEqProofs only[go_sem,qeaV,d_,q_,f_,s_,s10,n_,t_,List.length_map,e0,hlt,decide_false,decide_true,hw]|refine ag_ (fun hb=>?_) (fun hb=>?_)|refine⟨fun hb=>?_,fun hb=>?_⟩|refine ac_ h1 rfl rfl ?_|fail)
   exact h _ ⟨_,_,rfl,rfl,.refl _⟩
  ·have hlt:((j:Int)<(q.trans.length:Int))=False:=by simp;omega
   rw[n15,if_neg (by decide),if_neg (by decide),if_neg (by decide),if_neg (by decide),if_pos rfl,at?_out (by omega)] at h
   dsimp only at h
   repeat' (first|simp -implicitDefEqProofs only[go_sem,qeaV,d_,q_,f_,s_,s10,n_,t_,List.length_map,e0,hlt,decide_false]|refine ag_ (fun hb=>?_) (fun hb=>?_)|refine⟨fun hb=>?_,fun hb=>?_⟩|fail)
   exact h _ ⟨_,_,rfl,rfl,.refl _⟩
 have d5:(k=5)=False:=by simp;exact k5
 have b5:(k==5)=false:=by simp;exact k5
 by_cases k6:k=6
 ·subst k6
  by_cases hlt':j<q.decls.length
  ·obtain⟨x,hx,hxm⟩:=as10 hlt'
   have hlt:((j:Int)<(q.decls.length:Int))=True:=by simp;exact hlt'
   rw[n15,if_neg (by decide),if_neg (by decide),if_neg (by decide),if_neg (by decide),if_neg (by decide),if_pos rfl,at?_nat hx] at h
   dsimp only at h
   repeat' (first|simp -implicitDefEqProofs only[go_sem,qeaV,d_,q_,f_,s_,s10,n_,t_,List.length_map,e0,hlt,decide_false,decide_true,am_ hx,d12]|refine ag_ (fun hb=>?_) (fun hb=>?_)|refine⟨fun hb=>?_,fun hb=>?_⟩|fail)
   exact h _ ⟨_,_,rfl,rfl,.refl _⟩
  ·have hlt:((j:Int)<(q.decls.length:Int))=False:=by simp;omega
   rw[n15,if_neg (by decide),if_neg (by decide),if_neg (by decide),if_neg (by decide),if_neg (by decide),if_pos rfl,at?_out (by omega)] at h
   dsimp only at h
   repeat' (first|simp -implicitDefEqProofs only[go_sem,qeaV,d_,q_,f_,s_,s10,n_,t_,List.length_map,e0,hlt,decide_false]|refine ag_ (fun hb=>?_) (fun hb=>?_)|refine⟨fun hb=>?_,fun hb=>?_⟩|fail)
   exact h _ ⟨_,_,rfl,rfl,.refl _⟩
 have d6:(k=6)=False:=by simp;exact k6
 have b6:(k==6)=false:=by simp;exact k6
 rw[no_ k1 k2 k3 k4 k5 k6] at h
 repeat' (first|simp -implicitDefEqProofs only[go_sem,qeaV,d_,q_,f_,s_,s10,n_,t_,List.length_map,e0,d1,b1,d2,b2,d3,b3,d4,b4,d5,b5,d6,b6,decide_false]|refine ag_ (fun hb=>?_) (fun hb=>?_)|refine⟨fun hb=>?_,fun hb=>?_⟩|fail)
 exact h _ ⟨_,_,rfl,rfl,.refl _⟩
def t19 (q:QeaT) (k n:Int):Str:=if n15 q k n=[] then [] else
 (if k=1 then [117,110,114,101,97,99,104,101,100,32] else if k=2 then [100,101,97,100,32] else if k=3 then [117,110,114,101,97,100,32] else if k=4 then [117,110,99,104,97,110,103,101,100,32] else if k=5 then [110,101,118,101,114,32] else [117,110,117,115,101,100,32])++n15 q k n
theorem lT10 (hG:LintG G) (q:QeaT) (hl:q.trans.length≤1000000) (k n:Int) (hx:(n15 q k n).length≤1000000):P_ Tryz.prog G nl11 [qeaV q,.agg [iv k,iv n]] (.str (t19 q k n)):=by
 have h1:=ln10 hG q hl k n
 have h2:=fp11 hG
 refine plT_ (Runs.of fun Φ h=>?_)
 unfold clT_
 unfold t19 at h
 have hk:n15 q k n≠[]→k=1∨k=2∨k=3∨k=4∨k=5∨k=6:=fun hne=>by
  refine Decidable.by_contra fun hno=>hne (no_ ?_ ?_ ?_ ?_ ?_ ?_) <;> (intro e;exact hno (by omega))
 generalize n15 q k n=x at*
 simp only[qeaV,d_,q_,f_,s_,s10,n_,t_] at h1
 by_cases hx0:x=[]
 ·subst hx0
  rw[if_pos rfl] at h
  repeat' (first|simp -implicitDefEqProofs only[go_sem,qeaV,d_,q_,f_,s_,s10,n_,t_]|refine ag_ (fun hb=>?_) (fun hb=>?_)|refine⟨fun hb=>?_,fun hb=>?_⟩|refine ac_ h1 rfl rfl ?_|fail)
  exact h _ ⟨_,_,rfl,rfl,.refl _⟩
 have hxe:(x=[])=False:=by simp;exact hx0
 have hxb:(x==[])=false:=by simp;exact hx0
 rw[if_neg hx0] at h
 simp only[o13] at h2
 obtain rfl | hk:=hk hx0
 ·rw[if_pos rfl] at h
  have a1:abin .add (.str [117,110,114,101,97,99,104,101,100]) (.str [32])=some (.str [117,110,114,101,97,99,104,101,100,32]):=aa11 (by simp)
  have a2:abin .add (.str [117,110,114,101,97,99,104,101,100,32]) (.str x)=some (.str ([117,110,114,101,97,99,104,101,100,32]++x)):=aa11 (by simp;omega)
  have hw:IntKind.i64.wrap 0=0:=by decide
  have ha:∀H,a14 H 1 (.seq 1 (oddL.map AV.str)) (.int .i64 0)=some (.eptr (.str [117,110,114,101,97,99,104,101,100]) 0):=fun H=>am_ (e:=AV.str) (sz:=1) (i:=0) (show oddL[0]? =some [117,110,114,101,97,99,104,101,100] from rfl)
  repeat' (first|simp -implicitDefEqProofs only[go_sem,qeaV,d_,q_,f_,s_,s10,n_,t_,hxe,hxb,decide_false]|refine ag_ (fun hb=>?_) (fun hb=>?_)|refine⟨fun hb=>?_,fun hb=>?_⟩|refine ac_ h1 rfl rfl ?_|fail)
  refine ac10 h2 rfl (FitL.refl _) rfl ?_
  repeat' (first|simp -implicitDefEqProofs only[go_sem,qeaV,d_,q_,f_,s_,s10,n_,t_,hw,ha,a1,a2]|refine ag_ (fun hb=>?_) (fun hb=>?_)|refine⟨fun hb=>?_,fun hb=>?_⟩|fail)
  exact h _ ⟨_,_,rfl,rfl,.refl _⟩
 obtain rfl | hk:=hk
 ·rw[if_neg (by decide),if_pos rfl] at h
  have a1:abin .add (.str [100,101,97,100]) (.str [32])=some (.str [100,101,97,100,32]):=aa11 (by simp)
  have a2:abin .add (.str [100,101,97,100,32]) (.str x)=some (.str ([100,101,97,100,32]++x)):=aa11 (by simp;omega)
  have hw:IntKind.i64.wrap 1=1:=by decide
  have ha:∀H,a14 H 1 (.seq 1 (oddL.map AV.str)) (.int .i64 1)=some (.eptr (.str [100,101,97,100]) 0):=fun H=>am_ (e:=AV.str) (sz:=1) (i:=1) (show oddL[1]? =some [100,101,97,100] from rfl)
  repeat' (first|simp -implicitDefEqProofs only[go_sem,qeaV,d_,q_,f_,s_,s10,n_,t_,hxe,hxb,decide_false]|refine ag_ (fun hb=>?_) (fun hb=>?_)|refine⟨fun hb=>?_,fun hb=>?_⟩|refine ac_ h1 rfl rfl ?_|fail)
  refine ac10 h2 rfl (FitL.refl _) rfl ?_
  repeat' (first|simp -implicitDefEqProofs only[go_sem,qeaV,d_,q_,f_,s_,s10,n_,t_,hw,ha,a1,a2]|refine ag_ (fun hb=>?_) (fun hb=>?_)|refine⟨fun hb=>?_,fun hb=>?_⟩|fail)
  exact h _ ⟨_,_,rfl,rfl,.refl _⟩
 obtain rfl | hk:=hk
 ·rw[if_neg (by decide),if_neg (by decide),if_pos rfl] at h
  have a1:abin .add (.str [117,110,114,101,97,100]) (.str [32])=some (.str [117,110,114,101,97,100,32]):=aa11 (by simp)
  have a2:abin .add (.str [117,110,114,101,97,100,32]) (.str x)=some (.str ([117,110,114,101,97,100,32]++x)):=aa11 (by simp;omega)
  have hw:IntKind.i64.wrap 2=2:=by decide
  have ha:∀H,a14 H 1 (.seq 1 (oddL.map AV.str)) (.int .i64 2)=some (.eptr (.str [117,110,114,101,97,100]) 0):=fun H=>am_ (e:=AV.str) (sz:=1) (i:=2) (show oddL[2]? =some [117,110,114,101,97,100] from rfl)
  repeat' (first|simp -implicitDefEqProofs only[go_sem,qeaV,d_,q_,f_,s_,s10,n_,t_,hxe,hxb,decide_false]|refine ag_ (fun hb=>?_) (fun hb=>?_)|refine⟨fun hb=>?_,fun hb=>?_⟩|refine ac_ h1 rfl rfl ?_|fail)
  refine ac10 h2 rfl (FitL.refl _) rfl ?_
  repeat' (first|simp -implicitDefEqProofs only[go_sem,qeaV,d_,q_,f_,s_,s10,n_,t_,hw,ha,a1,a2]|refine ag_ (fun hb=>?_) (fun hb=>?_)|refine⟨fun hb=>?_,fun hb=>?_⟩|fail)
  exact h _ ⟨_,_,rfl,rfl,.refl _⟩
 obtain rfl | hk:=hk
 ·rw[if_neg (by decide),if_neg (by decide),if_neg (by decide),if_pos rfl] at h
  have a1:abin .add (.str [117,110,99,104,97,110,103,101,100]) (.str [32])=some (.str [117,110,99,104,97,110,103,101,100,32]):=aa11 (by simp)
  have a2:abin .add (.str [117,110,99,104,97,110,103,101,100,32]) (.str x)=some (.str ([117,110,99,104,97,110,103,101,100,32]++x)):=aa11 (by simp;omega)
  have hw:IntKind.i64.wrap 3=3:=by decide
  have ha:∀H,a14 H 1 (.seq 1 (oddL.map AV.str)) (.int .i64 3)=some (.eptr (.str [117,110,99,104,97,110,103,101,100]) 0):=fun H=>am_ (e:=AV.str) (sz:=1) (i:=3) (show oddL[3]? =some [117,110,99,104,97,110,103,101,100] from rfl)
  repeat' (first|simp -implicitDefEqProofs only[go_sem,qeaV,d_,q_,f_,s_,s10,n_,t_,hxe,hxb,decide_false]|refine ag_ (fun hb=>?_) (fun hb=>?_)|refine⟨fun hb=>?_,fun hb=>?_⟩|refine ac_ h1 rfl rfl ?_|fail)
  refine ac10 h2 rfl (FitL.refl _) rfl ?_
  repeat' (first|simp -implicitDefEqProofs only[go_sem,qeaV,d_,q_,f_,s_,s10,n_,t_,hw,ha,a1,a2]|refine ag_ (fun hb=>?_) (fun hb=>?_)|refine⟨fun hb=>?_,fun hb=>?_⟩|fail)
  exact h _ ⟨_,_,rfl,rfl,.refl _⟩
 obtain rfl | hk:=hk
 ·rw[if_neg (by decide),if_neg (by decide),if_neg (by decide),if_neg (by decide),if_pos rfl] at h
  have a1:abin .add (.str [110,101,118,101,114]) (.str [32])=some (.str [110,101,118,101,114,32]):=aa11 (by simp)
  have a2:abin .add (.str [110,101,118,101,114,32]) (.str x)=some (.str ([110,101,118,101,114,32]++x)):=aa11 (by simp;omega)
  have hw:IntKind.i64.wrap 4=4:=by decide
  have ha:∀H,a14 H 1 (.seq 1 (oddL.map AV.str)) (.int .i64 4)=some (.eptr (.str [110,101,118,101,114]) 0):=fun H=>am_ (e:=AV.str) (sz:=1) (i:=4) (show oddL[4]? =some [110,101,118,101,114] from rfl)
  repeat' (first|simp -implicitDefEqProofs only[go_sem,qeaV,d_,q_,f_,s_,s10,n_,t_,hxe,hxb,decide_false]|refine ag_ (fun hb=>?_) (fun hb=>?_)|refine⟨fun hb=>?_,fun hb=>?_⟩|refine ac_ h1 rfl rfl ?_|fail)
  refine ac10 h2 rfl (FitL.refl _) rfl ?_
  repeat' (first|simp -implicitDefEqProofs only[go_sem,qeaV,d_,q_,f_,s_,s10,n_,t_,hw,ha,a1,a2]|refine ag_ (fun hb=>?_) (fun hb=>?_)|refine⟨fun hb=>?_,fun hb=>?_⟩|fail)
  exact h _ ⟨_,_,rfl,rfl,.refl _⟩
 subst hk
 rw[if_neg (by decide),if_neg (by decide),if_neg (by decide),if_neg (by decide),if_neg (by decide)] at h
 have a1:abin .add (.str [117,110,117,115,101,100]) (.str [32])=some (.str [117,110,117,115,101,100,32]):=aa11 (by simp)
 have a2:abin .add (.str [117,110,117,115,101,100,32]) (.str x)=some (.str ([117,110,117,115,101,100,32]++x)):=aa11 (by simp;omega)
 have hw:IntKind.i64.wrap 5=5:=by decide
 have ha:∀H,a14 H 1 (.seq 1 (oddL.map AV.str)) (.int .i64 5)=some (.eptr (.str [117,110,117,115,101,100]) 0):=fun H=>am_ (e:=AV.str) (sz:=1) (i:=5) (show oddL[5]? =some [117,110,117,115,101,100] from rfl)
 repeat' (first|simp -implicitDefEqProofs only[go_sem,qeaV,d_,q_,f_,s_,s10,n_,t_,hxe,hxb,decide_false]|refine ag_ (fun hb=>?_) (fun hb=>?_)|refine⟨fun hb=>?_,fun hb=>?_⟩|refine ac_ h1 rfl rfl ?_|fail)
 refine ac10 h2 rfl (FitL.refl _) rfl ?_
 repeat' (first|simp -implicitDefEqProofs only[go_sem,qeaV,d_,q_,f_,s_,s10,n_,t_,hw,ha,a1,a2]|refine ag_ (fun hb=>?_) (fun hb=>?_)|refine⟨fun hb=>?_,fun hb=>?_⟩|fail)
 exact h _ ⟨_,_,rfl,rfl,.refl _⟩
end Go.Proofs.YtjbcfpkibnhodaaGreatDoor.Ab
