/-
  The document's Same of domains, at the same; what two monitors have the same, at the same. What the law of chapter 38 asks of what a monitor has: over, short, few, bad. What the law of chapter 38 finds bad in what is to be put. No claim is proved here.
-/
import Derived.Test.YtkejmcgngblfnaaGreatDoorYSr1
set_option linter.unusedSimpArgs false
set_option maxHeartbeats 4000000
set_option maxRecDepth 100000
namespace Go.Proofs.YtkejmcgngblfnaaGreatDoor.Ab
open Go Go.RowKit
variable {G:Nat→Option AV}
theorem rSp_ (ds:List (List Val)) (hd:ds.length≤10000) (hl:∀l∈ds,l.length≤10000):P_ Tryz.prog G npS_ [.seq 1 (ds.map v_),.seq 1 (ds.map v_)] (.bool true):=by
 refine pp10 (Runs.of fun Φ h=>?_)
 unfold cp10
 simp -implicitDefEqProofs only[go_sem,List.length_map,bne_self_eq_false]
 refine al10 (fun n st=>∃(i:Nat),i+n=ds.length∧st=⟨53,[(0,.seq 1 (ds.map v_)),(1,.seq 1 (ds.map v_)),(5,iv i)],[]⟩) ds.length ⟨0,by simp,rfl⟩ ?_
 rintro I hI n st ⟨i,hi,rfl⟩
 simp -implicitDefEqProofs only[go_sem,List.length_map]
 refine⟨fun hlt=>?_,fun hge=>?_⟩
 ·have hlt':i<ds.length:=by omega
  obtain⟨x,hx,hxm⟩:=as10 hlt'
  have hw:=ws_ hlt' (by omega)
  have hxl:=hl x hxm
  have hnx:=hI (n - 1) _ ⟨i+1,by omega,rfl⟩
  clear hI
  repeat' (first|simp -implicitDefEqProofs only[go_sem,am_ hx,v_,List.length_map,bne_self_eq_false]|refine ag_ (fun hb=>?_) (fun hb=>?_)|refine⟨fun hb=>?_,fun hb=>?_⟩|fail)
  refine al10 (fun k st=>∃(j:Nat),j+k=x.length∧st=⟨53,[(0,.seq 1 (ds.map v_)),(1,.seq 1 (ds.map v_)),(5,iv i),(6,iv j)],[]⟩) x.length ⟨0,by simp,rfl⟩ ?_
  rintro J hJ k st ⟨j,hj,rfl⟩
  simp -implicitDefEqProofs only[go_sem,am_ hx,v_,List.length_map]
  refine⟨fun hlt2=>?_,fun hge2=>?_⟩
  ·have hlt2':j<x.length:=by omega
   obtain⟨y,hy,hym⟩:=as10 hlt2'
   have hw2:=ws_ hlt2' (by omega)
   have hny:=hJ (k - 1) _ ⟨j+1,by omega,rfl⟩
   clear hJ
   obtain⟨y1,y2,y3,y4⟩:=y
   repeat' (first|simp -implicitDefEqProofs only[go_sem,am_ hx,am_ hy,v_,valV,hw2,List.length_map,aeqA,aeqs,l12,andO,Bool.and_true,beq_self_eq_true,Bool.not_true]|refine ag_ (fun hb=>?_) (fun hb=>?_)|refine⟨fun hb=>?_,fun hb=>?_⟩|fail)
   exact aa_ (k - 1) (by omega) hny
  ·repeat' (first|simp -implicitDefEqProofs only[go_sem,hw]|refine ag_ (fun hb=>?_) (fun hb=>?_)|refine⟨fun hb=>?_,fun hb=>?_⟩|fail)
   exact aa_ (n - 1) (by omega) hnx
 ·repeat' (first|simp -implicitDefEqProofs only[go_sem]|refine ag_ (fun hb=>?_) (fun hb=>?_)|refine⟨fun hb=>?_,fun hb=>?_⟩|fail)
  exact h _ ⟨_,_,rfl,rfl,.refl _⟩
theorem lsp_ (s:V_) (hok:SnOk s) (hb:(s19 s).length≤maxB):P_ Tryz.prog G nps_ [s15 s,s15 s] (.bool true):=by
 have hB:=rBp_ (G:=G) s hok hb
 have hS:=rSp_ (G:=G) s.doms hok.2.2.2.2.1.1 (fun l hl=>(hok.2.2.2.2.1.2 l hl).1)
 generalize s19 s=y at*
 obtain⟨p1,p2,p3,p4,ds,rs⟩:=s
 simp only[s15,b_] at hB hS
 refine pps_ (Runs.of fun Φ h=>?_)
 unfold cps_
 have hab:=am10 y
 repeat' (first|simp -implicitDefEqProofs only[go_sem,s15,List.length_map,bne_self_eq_false,beq_self_eq_true,hab]|refine ag_ (fun hb=>?_) (fun hb=>?_)|refine⟨fun hb=>?_,fun hb=>?_⟩|refine ac10 hS rfl rfl ?_|refine ac10 hB rfl rfl ?_|refine al_ hB rfl rfl ?_|refine ac10 hB rfl rfl ?_|refine al_ hB rfl rfl ?_|(refine And.intro (a:=l13 ..) ?_ ?_)|fail)
 exact h _ ⟨_,_,rfl,rfl,.refl _⟩
end Go.Proofs.YtkejmcgngblfnaaGreatDoor.Ab
namespace Go.Proofs.YtkejmcgngblfnaaGreatDoor.Ab
open Go Go.RowKit
variable {G:Nat→Option AV}
theorem gy_ {n k:Nat} (h:¬n≤k):decide ((k:Int)<(n:Int))=true:=decide_eq_true (by omega)
theorem gn_ {n k:Nat} (h:n≤k):decide ((k:Int)<(n:Int))=false:=decide_eq_false (by omega)
end Go.Proofs.YtkejmcgngblfnaaGreatDoor.Ab
namespace Go.Proofs.YtkejmcgngblfnaaGreatDoor.Ab
open Go Go.RowKit
variable {G:Nat→Option AV}
end Go.Proofs.YtkejmcgngblfnaaGreatDoor.Ab
