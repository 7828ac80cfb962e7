/-
  proctorref01, proctorref03, proctorref13.Type: what operators make of empty values. core: expressions. No claim is proved here.
-/
import Derived.Test.YtjbcfpkibnhodaaGreatDoorYD5
set_option linter.unusedSimpArgs false
set_option maxHeartbeats 4000000
namespace Go.Proofs.YtjbcfpkibnhodaaGreatDoor.Ab
open Go
variable {G:Nat→Option AV}
theorem zAp_:P_ Tryz.prog G npA_ [iv 0,iv 0] (.tup [iv 0,.bool true]):=by
 refine ppA_ (Runs.of fun Φ h=>?_)
 unfold cpA_
 repeat' (first|simp -implicitDefEqProofs only[go_sem]|refine ag_ (fun hb=>?_) (fun hb=>?_)|refine⟨fun hb=>?_,fun hb=>?_⟩|fail)
 all_goals exact h _ ⟨_,_,rfl,rfl,.refl _⟩
theorem zSp_:P_ Tryz.prog G npS_ [iv 0,iv 0] (.tup [iv 0,.bool true]):=by
 refine ppS_ (Runs.of fun Φ h=>?_)
 unfold cp12
 repeat' (first|simp -implicitDefEqProofs only[go_sem]|refine ag_ (fun hb=>?_) (fun hb=>?_)|refine⟨fun hb=>?_,fun hb=>?_⟩|fail)
 all_goals exact h _ ⟨_,_,rfl,rfl,.refl _⟩
set_option maxRecDepth 8000 in
theorem zMp_:P_ Tryz.prog G npM_ [iv 0,iv 0] (.tup [iv 0,.bool true]):=by
 refine ppM_ (Runs.of fun Φ h=>?_)
 unfold cpM_
 repeat' (first|simp -implicitDefEqProofs only[go_sem]|refine ag_ (fun hb=>?_) (fun hb=>?_)|refine⟨fun hb=>?_,fun hb=>?_⟩|fail)
 all_goals exact h _ ⟨_,_,rfl,rfl,.refl _⟩
theorem zDp_:P_ Tryz.prog G npD_ [iv 0,iv 0] (.tup [iv 0,iv 0,iv 7]):=by
 refine ppD_ (Runs.of fun Φ h=>?_)
 unfold cpD_
 repeat' (first|simp -implicitDefEqProofs only[go_sem]|refine ag_ (fun hb=>?_) (fun hb=>?_)|refine⟨fun hb=>?_,fun hb=>?_⟩|fail)
 all_goals exact h _ ⟨_,_,rfl,rfl,.refl _⟩
theorem znp_:P_ Tryz.prog G npn_ [iv 0,.bool true] (.tup [valV ⟨1,0,[],false⟩,iv 0]):=by
 refine ppn_ (Runs.of fun Φ h=>?_)
 unfold cpn_
 repeat' (first|simp -implicitDefEqProofs only[go_sem,valV]|refine ag_ (fun hb=>?_) (fun hb=>?_)|refine⟨fun hb=>?_,fun hb=>?_⟩|fail)
 all_goals exact h _ ⟨_,_,rfl,rfl,.refl _⟩
theorem ztp_ (b:Bool):P_ Tryz.prog G npt_ [.bool b] (.tup [valV ⟨3,0,[],b⟩,iv 0]):=by
 refine ppt_ (Runs.of fun Φ h=>?_)
 unfold cpt_
 repeat' (first|simp -implicitDefEqProofs only[go_sem,valV]|refine ag_ (fun hb=>?_) (fun hb=>?_)|refine⟨fun hb=>?_,fun hb=>?_⟩|fail)
 all_goals exact h _ ⟨_,_,rfl,rfl,.refl _⟩
def a32 (op:Int):Val×Int:=if op=8∨op=9∨op=10 then (⟨1,0,[],false⟩,0) else (v0,7)
theorem zap_ (op:Int):P_ Tryz.prog G np10 [iv op,iv 0,iv 0] (.tup [valV (a32 op).1,iv (a32 op).2]):=by
 refine ppa_ (Runs.of fun Φ h=>?_)
 unfold cp10
 repeat' (first|simp -implicitDefEqProofs only[go_sem,valV]|refine ag_ (fun hb=>?_) (fun hb=>?_)|refine⟨fun hb=>?_,fun hb=>?_⟩|refine ac_ zAp_ rfl rfl ?_|refine ac_ zSp_ rfl rfl ?_|refine ac_ zMp_ rfl rfl ?_|refine ac_ zDp_ rfl rfl ?_|refine ac_ znp_ rfl rfl ?_|fail)
 all_goals (refine h _ ⟨_,_,rfl,rfl,fe_ ?_⟩;clear h;simp_all [a32,valV])
theorem zBp_:P_ Tryz.prog G npB_ [.str [],.str []] (.bool false):=by
 refine ppB_ (Runs.of fun Φ h=>?_)
 unfold cpB_
 simp -implicitDefEqProofs only[go_sem]
 refine al_ (fun n st=>st=⟨37,[(0,.str []),(1,.str []),(5,iv 0)],[]⟩) 0 rfl ?_
 rintro I hI n st rfl
 have e0:((0:Nat):Int)=0:=rfl
 repeat' (first|simp -implicitDefEqProofs only[go_sem,e0]|refine ag_ (fun hb=>?_) (fun hb=>?_)|refine⟨fun hb=>?_,fun hb=>?_⟩|fail)
 all_goals exact h _ ⟨_,_,rfl,rfl,.refl _⟩
theorem zLp_ (a:Int):P_ Tryz.prog G npL_ [valV ⟨a,0,[],false⟩,valV ⟨a,0,[],false⟩] (.bool false):=by
 refine ppL_ (Runs.of fun Φ h=>?_)
 unfold cpL_
 repeat' (first|simp -implicitDefEqProofs only[go_sem,valV]|refine ag_ (fun hb=>?_) (fun hb=>?_)|refine⟨fun hb=>?_,fun hb=>?_⟩|refine ac_ zBp_ rfl rfl ?_|fail)
 all_goals (refine h _ ⟨_,_,rfl,rfl,fe_ ?_⟩;clear h;simp_all)
def opZ (op a:Int):Val×Int:=
 if op<4∨16<op then (v0,1) else
 if op=4 then (if a=3 then (⟨3,0,[],true⟩,0) else (v0,8)) else
 if op=5 then (if a=1 then (⟨1,0,[],false⟩,0) else (v0,8)) else
 if op=13 then (⟨3,0,[],true⟩,0) else
 if op=14 then (⟨3,0,[],false⟩,0) else
 if a=3 then (if op=6∨op=7 then (⟨3,0,[],false⟩,0) else (v0,8)) else
 if op=15 then (⟨3,0,[],false⟩,0) else
 if op=16 then (⟨3,0,[],true⟩,0) else
 if a=1∧8≤op∧op≤12 then a32 op else
 if a=2∧op=8 then (⟨2,0,[],false⟩,0) else (v0,8)
theorem zOp_ (op a:Int):P_ Tryz.prog G npO_ [iv op,valV ⟨a,0,[],false⟩,valV ⟨a,0,[],false⟩] (.tup [valV (opZ op a).1,iv (opZ op a).2]):=by
 refine ppO_ (Runs.of fun Φ h=>?_)
 unfold cpO_
 have wrap0:IntKind.i64.wrap 0=0:=by decide
 repeat' (first|simp -implicitDefEqProofs only[go_sem,valV,wrap0]|refine ag_ (fun hb=>?_) (fun hb=>?_)|refine⟨fun hb=>?_,fun hb=>?_⟩|refine ac_ (ztp_ _) rfl rfl ?_|refine ac_ (zap_ _) rfl rfl ?_|refine ac_ (zLp_ a) rfl rfl ?_|fail)
 all_goals (refine h _ ⟨_,_,rfl,rfl,fe_ ?_⟩;clear h)
 all_goals
  first
  | (rw[opZ,if_pos (by simp at*;omega)];rfl)
  | (rw[opZ,if_neg (by simp at*;omega)]
     simp_all [a32,valV]
     try ((repeat' split) <;> first | rfl | omega | (simp_all;done) | (simp_all;omega)))
def t28 (op a b:Int):Int:=if a<1∨¬a=b then 0 else if (opZ op a).2=7 then 1 else if (opZ op a).2=0 then (opZ op a).1.kind else 0
theorem rTp_ (op a b:Int):P_ Tryz.prog G npT_ [iv op,iv a,iv b] (iv (t28 op a b)):=by
 refine ppT_ (Runs.of fun Φ h=>?_)
 unfold cpT_
 by_cases hc:a<1∨¬a=b
 ·repeat' (first|simp -implicitDefEqProofs only[go_sem,valV]|refine ag_ (fun hb=>?_) (fun hb=>?_)|refine⟨fun hb=>?_,fun hb=>?_⟩|fail)
  all_goals first | exact h _ ⟨_,_,rfl,rfl,fitI (by rw[t28,if_pos hc])⟩ | (exfalso;simp at*;omega)
 ·have hb:a=b:=by omega
  subst hb
  have he:=zOp_ (G:=G) op a
  simp only[valV] at he
  repeat' (first|simp -implicitDefEqProofs only[go_sem,valV]|refine ag_ (fun hb=>?_) (fun hb=>?_)|refine⟨fun hb=>?_,fun hb=>?_⟩|refine ac_ he rfl rfl ?_|fail)
  all_goals first | (exfalso;simp at*;omega) | (refine h _ ⟨_,_,rfl,rfl,fe_ ?_⟩;clear h;rw[t28,if_neg hc];simp_all)
theorem te_ (op a b:Int) (ha:1≤a∧a≤3):t28 op a b=if a=b then o11 op a b else 0:=by
 unfold t28
 by_cases hb:a=b
 ·subst hb
  rw[if_neg (by omega),if_pos rfl]
  have h1:a=1∨a=2∨a=3:=by omega
  by_cases h0:op<4∨16<op
  ·have e1:opZ op a=(v0,1):=by rw[opZ,if_pos h0]
   have e2:o11 op a a=0:=by
    unfold o11
    rw[if_neg (by omega),if_neg (by omega),if_neg (by omega),if_neg (by omega),if_neg (by omega),if_neg (by omega),if_neg (by omega)]
   rw[e1,e2];rfl
  ·have h2:op=4∨op=5∨op=6∨op=7∨op=8∨op=9∨op=10∨op=11∨op=12∨op=13∨op=14∨op=15∨op=16:=by omega
   rcases h1 with rfl | rfl | rfl <;> rcases h2 with rfl | rfl | rfl | rfl | rfl | rfl | rfl | rfl | rfl | rfl | rfl | rfl | rfl <;> decide
 ·rw[if_pos (by omega),if_neg hb]
end Go.Proofs.YtjbcfpkibnhodaaGreatDoor.Ab
namespace Go.Proofs.YtjbcfpkibnhodaaGreatDoor.Ab
open Go
variable {G:Nat→Option AV}
structure ExT where
 kind:Int
 depth:Int
 from_:Int
deriving DecidableEq
def exV (e:ExT):AV:=.agg [iv e.kind,iv e.depth,iv e.from_]
abbrev e0:ExT:=⟨0,0,0⟩
def at? {α:Type} (l:List α) (n:Int):Option α:=if 0≤n then l[n.toNat]? else none
theorem at?_some {α:Type} {l:List α} {n:Int} {y:α} (h:at? l n=some y):∃i:Nat,n=i∧l[i]? =some y:=by
 unfold at? at h
 split at h
 ·exact⟨n.toNat,by omega,h⟩
 ·cases h
theorem at?_none {α:Type} {l:List α} {n:Int} (h:at? l n=none):n<0∨(l.length:Int)≤n:=by
 unfold at? at h
 split at h
 ·rw[List.getElem?_eq_none_iff] at h;omega
 ·omega
theorem at?_nat {α:Type} {l:List α} {i:Nat} {y:α} (h:l[i]? =some y):at? l (i:Int)=some y:=by
 unfold at?
 rw[if_pos (by omega)]
 exact h
def l12 (q:QeaT) (i:Nat) (x:NodeT):Option ExT:=
 if x.op=1 then (if x.a=0∧x.b=0∧x.value.ok=true then some ⟨x.value.kind,1,i⟩ else none)
 else if x.op=2 then (if x.b=0∧x.value=v0 then (at? q.quants x.a).map fun y=>⟨y.type,1,i⟩ else none)
 else if x.op=3 then (if x.b=0∧x.value=v0 then (at? q.frees x.a).map fun y=>⟨y.init.kind,1,i⟩ else none)
 else none
def l21 (r:Option ExT):AV:=.tup [exV (r.getD e0),.bool r.isSome]
theorem clp_ (q:QeaT) (i:Nat) (x:NodeT) (hx:q.nodes[i]? =some x):P_ Tryz.prog G ncl_ [qeaV q,iv i] (l21 (l12 q i x)):=by
 obtain⟨op,a,b,⟨vk,vn,vs,vb⟩⟩:=x
 refine pcl_ (Runs.of fun Φ h=>?_)
 unfold ccl_
 have hv:=vRp_ (G:=G) ⟨vk,vn,vs,vb⟩
 simp only[valV] at hv
 have hok:∀r,l12 q i ⟨op,a,b,⟨vk,vn,vs,vb⟩⟩=some r→Fit (.tup [exV r,.bool true]) (l21 (l12 q i ⟨op,a,b,⟨vk,vn,vs,vb⟩⟩)):=fun r hr=>fe_ (by rw[hr];rfl)
 have hno:l12 q i ⟨op,a,b,⟨vk,vn,vs,vb⟩⟩=none→Fit (.tup [exV e0,.bool false]) (l21 (l12 q i ⟨op,a,b,⟨vk,vn,vs,vb⟩⟩)):=fun hr=>fe_ (by rw[hr];rfl)
 generalize hL:l12 q i ⟨op,a,b,⟨vk,vn,vs,vb⟩⟩=L at*
 by_cases h1:op=1
 ·subst h1
  simp only[l12,if_pos] at hL
  repeat' (first|simp -implicitDefEqProofs only[go_sem,am_ hx,n11,qeaV,d_,q_,f_,s_,s10,n_,t_,List.length_map]|refine ag_ (fun hb=>?_) (fun hb=>?_)|refine⟨fun hb=>?_,fun hb=>?_⟩|refine ac_ hv rfl rfl ?_|fail)
  all_goals
   first | refine h _ ⟨_,_,rfl,rfl,hno ?_⟩ | refine h _ ⟨_,_,rfl,rfl,hok ⟨vk,1,i⟩ ?_⟩
   rw[←hL]
   clear h hno hok hv hL
   simp_all
 by_cases h2:op=2
 ·subst h2
  simp only[l12,if_pos,show ¬(2:Int)=1 by omega,if_false] at hL
  cases hq:at? q.quants a with
  | none=>
   rw[hq] at hL
   have ha:=at?_none hq
   repeat' (first|simp -implicitDefEqProofs only[go_sem,am_ hx,n11,qeaV,d_,q_,f_,s_,s10,n_,t_,List.length_map]|refine ag_ (fun hb=>?_) (fun hb=>?_)|refine⟨fun hb=>?_,fun hb=>?_⟩|fail)
   all_goals first | (exfalso;simp at*;omega) | skip
   all_goals
    refine h _ ⟨_,_,rfl,rfl,hno ?_⟩
    rw[←hL]
    simp
  | some y=>
   obtain⟨j,rfl,hy⟩:=at?_some hq
   have hj:=(List.getElem?_eq_some_iff.1 hy).1
   rw[hq] at hL
   repeat' (first|simp -implicitDefEqProofs only[go_sem,am_ hx,n11,qeaV,d_,q_,f_,s_,s10,n_,t_,List.length_map,am_ hy,q11]|refine ag_ (fun hb=>?_) (fun hb=>?_)|refine⟨fun hb=>?_,fun hb=>?_⟩|fail)
   all_goals first | (exfalso;simp at*;omega) | skip
   all_goals
    first | refine h _ ⟨_,_,rfl,rfl,hno ?_⟩ | refine h _ ⟨_,_,rfl,rfl,hok ⟨y.type,1,i⟩ ?_⟩
    rw[←hL]
    clear h hno hok hv hL
    simp_all
 by_cases h3:op=3
 ·subst h3
  simp only[l12,if_pos,show ¬(3:Int)=1 by omega,show ¬(3:Int)=2 by omega,if_false] at hL
  cases hq:at? q.frees a with
  | none=>
   rw[hq] at hL
   have ha:=at?_none hq
   repeat' (first|simp -implicitDefEqProofs only[go_sem,am_ hx,n11,qeaV,d_,q_,f_,s_,s10,n_,t_,List.length_map]|refine ag_ (fun hb=>?_) (fun hb=>?_)|refine⟨fun hb=>?_,fun hb=>?_⟩|fail)
   all_goals first | (exfalso;simp at*;omega) | skip
   all_goals
    refine h _ ⟨_,_,rfl,rfl,hno ?_⟩
    rw[←hL]
    simp
  | some y=>
   obtain⟨j,rfl,hy⟩:=at?_some hq
   have hj:=(List.getElem?_eq_some_iff.1 hy).1
   rw[hq] at hL
   repeat' (first|simp -implicitDefEqProofs only[go_sem,am_ hx,n11,qeaV,d_,q_,f_,s_,s10,n_,t_,List.length_map,am_ hy,f11]|refine ag_ (fun hb=>?_) (fun hb=>?_)|refine⟨fun hb=>?_,fun hb=>?_⟩|fail)
   all_goals first | (exfalso;simp at*;omega) | skip
   all_goals
    first | refine h _ ⟨_,_,rfl,rfl,hno ?_⟩ | refine h _ ⟨_,_,rfl,rfl,hok ⟨y.init.kind,1,i⟩ ?_⟩
    rw[←hL]
    clear h hno hok hv hL
    simp_all
 ·simp only[l12,if_neg h1,if_neg h2,if_neg h3] at hL
  repeat' (first|simp -implicitDefEqProofs only[go_sem,am_ hx,n11,qeaV,d_,q_,f_,s_,s10,n_,t_,List.length_map]|refine ag_ (fun hb=>?_) (fun hb=>?_)|refine⟨fun hb=>?_,fun hb=>?_⟩|fail)
  all_goals first | (exfalso;simp at*;omega) | skip
  all_goals exact h _ ⟨_,_,rfl,rfl,hno hL.symm⟩
end Go.Proofs.YtjbcfpkibnhodaaGreatDoor.Ab
