/-
  What the law of chapter 38 asks of what a monitor has: over, short, few, bad. No claim is proved here.
-/
import Derived.Test.YtkejmcgngblfnaaGreatDoorQSw3
namespace Go.Proofs.YtkejmcgngblfnaaGreatDoor.Ab
open Go Go.RowKit
set_option linter.unusedSimpArgs false
set_option maxHeartbeats 4000000
set_option maxRecDepth 100000
variable {G:Nat→Option AV}
theorem lop_ (n:Int):P_ Tryz.prog G npo_ [iv n] (.bool (o_ n)):=by
 refine ppo_ (Runs.of fun Φ h=>?_)
 unfold cpo_
 by_cases h0:n<0
 ·rw[show o_ n=true by
   have h1:¬in31 n:=fun hh=>absurd (show 0≤n from hh.1) (by omega)
   simp [o_,h1]] at h
  repeat' (first|simp -implicitDefEqProofs only[go_sem,decide_eq_true h0]|refine ag_ (fun hb=>?_) (fun hb=>?_)|refine⟨fun hb=>?_,fun hb=>?_⟩|fail)
  exact h _ ⟨_,_,rfl,rfl,.refl _⟩
 ·rw[show o_ n=decide (2147483647<n) by
   by_cases h1:2147483647<n
   ·have h2:¬in31 n:=fun hh=>by have:=hh.2;omega
    simp [o_,h1,h2]
   ·have h2:in31 n:=⟨by omega,by omega⟩
    simp [o_,h2]
    omega] at h
  repeat' (first|simp -implicitDefEqProofs only[go_sem,decide_eq_false h0]|refine ag_ (fun hb=>?_) (fun hb=>?_)|refine⟨fun hb=>?_,fun hb=>?_⟩|fail)
  exact h _ ⟨_,_,rfl,rfl,.refl _⟩
theorem lsp_ (l:List Val) (hl:l.length≤10000):P_ Tryz.prog G nps_ [.seq 4 (l.map valV)] (.bool (s_ l)):=by
 refine pps_ (Runs.of fun Φ h=>?_)
 unfold cps_
 simp -implicitDefEqProofs only[go_sem]
 refine al_ (fun n st=>∃(i:Nat),i+n=l.length∧st=⟨17,[(0,.seq 4 (l.map valV)),(3,iv i)],[]⟩∧s_ l=s_ (l.drop i)) l.length ⟨0,by simp,rfl,by rw[List.drop_zero]⟩ ?_
 rintro I hI n st ⟨i,hi,rfl,hs⟩
 simp -implicitDefEqProofs only[go_sem,List.length_map]
 refine⟨fun hlt=>?_,fun hge=>?_⟩
 ·have hlt':i<l.length:=by omega
  obtain⟨x,hx,hxm⟩:=as10 hlt'
  have hw:=ws_ hlt' (by omega)
  rw[d10 hx] at hs
  obtain⟨x1,x2,x3,x4⟩:=x
  by_cases h1:x3.length≤100
  ·have hs2:s_ l=s_ (l.drop (i+1)):=by rw[hs];simp [s_,h1]
   have hnx:=hI (n - 1) _ ⟨i+1,by omega,rfl,hs2⟩
   clear hI
   have hd:decide ((x3.length:Int)>100)=false:=decide_eq_false (by omega)
   have hd2:decide ((100:Int)<x3.length)=false:=decide_eq_false (by omega)
   repeat' (first|simp -implicitDefEqProofs only[go_sem,am_ hx,valV,hw,List.length_map,hd,hd2]|refine ag_ (fun hb=>?_) (fun hb=>?_)|refine⟨fun hb=>?_,fun hb=>?_⟩|fail)
   exact aa_ (n - 1) (by omega) hnx
  ·have hs2:s_ l=false:=by rw[hs];simp [s_,h1]
   rw[hs2] at h
   clear hI
   have hd:decide ((x3.length:Int)>100)=true:=decide_eq_true (by omega)
   have hd2:decide ((100:Int)<x3.length)=true:=decide_eq_true (by omega)
   repeat' (first|simp -implicitDefEqProofs only[go_sem,am_ hx,valV,hw,List.length_map,hd,hd2]|refine ag_ (fun hb=>?_) (fun hb=>?_)|refine⟨fun hb=>?_,fun hb=>?_⟩|fail)
   exact h _ ⟨_,_,rfl,rfl,.refl _⟩
 ·rw[List.drop_eq_nil_of_le (by omega)] at hs
  rw[hs] at h
  repeat' (first|simp -implicitDefEqProofs only[go_sem]|refine ag_ (fun hb=>?_) (fun hb=>?_)|refine⟨fun hb=>?_,fun hb=>?_⟩|fail)
  exact h _ ⟨_,_,rfl,rfl,.refl _⟩
def fewD (l:List Val):Bool:=decide (l.length≤12)&&s_ l
def fewX (x:Int×Val):Bool:=decide (x.2.str.length≤100)
def fewC (c:Int×List Val):Bool:=decide (c.2.length≤12)&&s_ c.2
theorem fi10 (r:VRow):fewR r=(decide (r.1.length≤12)&&decide (r.2.length≤12)&&r.1.all fewX&&r.2.all fewC):=rfl
theorem gy_ {n k:Nat} (h:¬n≤k):decide ((k:Int)<(n:Int))=true:=decide_eq_true (by omega)
theorem gn_ {n k:Nat} (h:n≤k):decide ((k:Int)<(n:Int))=false:=decide_eq_false (by omega)
theorem lfp_ (s:V_):P_ Tryz.prog G np13 [s14 s] (.bool (fewS s)):=by
 obtain⟨p1,p2,p3,p4,ds,rs⟩:=s
 refine pp13 (Runs.of fun Φ h=>?_)
 unfold cp13
 have hF0:fewS ⟨p1,p2,p3,p4,ds,rs⟩=(decide (ds.length≤8)&&decide (rs.length≤12)&&ds.all fewD&&rs.all fewR):=rfl
 generalize fewS ⟨p1,p2,p3,p4,ds,rs⟩=F at*
 have fin:∀b env heap,F=b→Φ ⟨104,(2,.bool b)::env,heap⟩:=fun b env heap e=>h _ ⟨_,_,rfl,rfl,fe_ (by rw[e])⟩
 clear h
 by_cases hd8:ds.length≤8
 case neg=>
  rw[decide_eq_false hd8,Bool.false_and,Bool.false_and,Bool.false_and] at hF0
  have g1:decide ((8:Int)<(ds.length:Int))=true:=gy_ hd8
  repeat' (first|simp -implicitDefEqProofs only[go_sem,s14,List.length_map,g1]|refine ag_ (fun hb=>?_) (fun hb=>?_)|refine⟨fun hb=>?_,fun hb=>?_⟩|fail)
  exact fin _ _ _ hF0
 have g1:decide ((8:Int)<(ds.length:Int))=false:=gn_ hd8
 by_cases hr12:rs.length≤12
 case neg=>
  rw[decide_eq_false hr12,Bool.and_false,Bool.false_and,Bool.false_and] at hF0
  have g2:decide ((12:Int)<(rs.length:Int))=true:=gy_ hr12
  repeat' (first|simp -implicitDefEqProofs only[go_sem,s14,List.length_map,g1,g2]|refine ag_ (fun hb=>?_) (fun hb=>?_)|refine⟨fun hb=>?_,fun hb=>?_⟩|fail)
  exact fin _ _ _ hF0
 have g2:decide ((12:Int)<(rs.length:Int))=false:=gn_ hr12
 rw[decide_eq_true hd8,decide_eq_true hr12,Bool.true_and,Bool.true_and] at hF0
 repeat' (first|simp -implicitDefEqProofs only[go_sem,s14,List.length_map,g1,g2]|refine ag_ (fun hb=>?_) (fun hb=>?_)|refine⟨fun hb=>?_,fun hb=>?_⟩|fail)
 refine al_ (fun n st=>∃(i:Nat),i+n=ds.length∧st=⟨104,[(1,.ref 1 0 0),(3,iv i)],[(1,⟨false,taS_,6,[.agg [iv p1,iv p2,iv p3,iv p4,.seq 1 (ds.map v_),.seq 2 (rs.map rowE)]]⟩)]⟩∧
  F=((ds.drop i).all fewD&&rs.all fewR)) ds.length ⟨0,by simp,rfl,by rw[List.drop_zero];exact hF0⟩ ?_
 clear hF0 g1 g2
 rintro I hI n st ⟨i,hi,rfl,hF⟩
 simp -implicitDefEqProofs only[go_sem,List.length_map]
 refine⟨fun hlt=>?_,fun hge=>?_⟩
 ·have hlt':i<ds.length:=by omega
  obtain⟨x,hx,hxm⟩:=as10 hlt'
  have hw:=ws_ hlt' (by omega)
  rw[d10 hx,List.all_cons] at hF
  by_cases hx12:x.length≤12
  ·have g1:decide ((12:Int)<(x.length:Int))=false:=gn_ hx12
   have hs:=lsp_ (G:=G) x (by omega)
   have hxs:fewD x=s_ x:=by unfold fewD;rw[decide_eq_true hx12,Bool.true_and]
   rw[hxs] at hF
   cases hsx:s_ x with
   | true=>
    rw[hsx] at hs
    rw[hsx,Bool.true_and] at hF
    have hnx:=hI (n - 1) _ ⟨i+1,by omega,rfl,hF⟩
    clear hI
    repeat' (first|simp -implicitDefEqProofs only[go_sem,am_ hx,v_,hw,List.length_map,g1]|refine ag_ (fun hb=>?_) (fun hb=>?_)|refine⟨fun hb=>?_,fun hb=>?_⟩|refine ac10 hs rfl rfl ?_|fail)
    exact aa_ (n - 1) (by omega) hnx
   | false=>
    rw[hsx] at hs
    rw[hsx,Bool.false_and,Bool.false_and] at hF
    clear hI
    repeat' (first|simp -implicitDefEqProofs only[go_sem,am_ hx,v_,hw,List.length_map,g1]|refine ag_ (fun hb=>?_) (fun hb=>?_)|refine⟨fun hb=>?_,fun hb=>?_⟩|refine ac10 hs rfl rfl ?_|fail)
    exact fin _ _ _ hF
  ·have g1:decide ((12:Int)<(x.length:Int))=true:=gy_ hx12
   have hxs:fewD x=false:=by unfold fewD;rw[decide_eq_false hx12,Bool.false_and]
   rw[hxs,Bool.false_and,Bool.false_and] at hF
   clear hI
   repeat' (first|simp -implicitDefEqProofs only[go_sem,am_ hx,v_,hw,List.length_map,g1]|refine ag_ (fun hb=>?_) (fun hb=>?_)|refine⟨fun hb=>?_,fun hb=>?_⟩|fail)
   exact fin _ _ _ hF
 ·rw[List.drop_eq_nil_of_le (by omega),List.all_nil,Bool.true_and] at hF
  clear hI
  repeat' (first|simp -implicitDefEqProofs only[go_sem]|refine ag_ (fun hb=>?_) (fun hb=>?_)|refine⟨fun hb=>?_,fun hb=>?_⟩|fail)
  refine al_ (fun n st=>∃(i:Nat),i+n=rs.length∧st=⟨104,[(1,.ref 1 0 0),(4,iv i)],[(1,⟨false,taS_,6,[.agg [iv p1,iv p2,iv p3,iv p4,.seq 1 (ds.map v_),.seq 2 (rs.map rowE)]]⟩)]⟩∧
   F=(rs.drop i).all fewR) rs.length ⟨0,by simp,rfl,by rw[List.drop_zero];exact hF⟩ ?_
  clear hF hge hi
  rintro I hI n st ⟨i,hi,rfl,hF⟩
  simp -implicitDefEqProofs only[go_sem,List.length_map]
  refine⟨fun hlt=>?_,fun hge=>?_⟩
  ·have hlt':i<rs.length:=by omega
   obtain⟨x,hx,hxm⟩:=as10 hlt'
   have hw:=ws_ hlt' (by omega)
   rw[d10 hx,List.all_cons,fi10] at hF
   have hnx:=fun e=>hI (n - 1) _ ⟨i+1,by omega,rfl,e⟩
   clear hI
   generalize (rs.drop (i+1)).all fewR=R at*
   obtain⟨a,c⟩:=x
   simp only at hF
   by_cases ha12:a.length≤12
   case neg=>
    have g1:decide ((12:Int)<(a.length:Int))=true:=gy_ ha12
    rw[decide_eq_false ha12] at hF
    simp only[Bool.false_and,Bool.and_false] at hF
    repeat' (first|simp -implicitDefEqProofs only[go_sem,am_ hx,rowE,hw,List.length_map,g1]|refine ag_ (fun hb=>?_) (fun hb=>?_)|refine⟨fun hb=>?_,fun hb=>?_⟩|fail)
    exact fin _ _ _ hF
   have g1:decide ((12:Int)<(a.length:Int))=false:=gn_ ha12
   by_cases hc12:c.length≤12
   case neg=>
    have g2:decide ((12:Int)<(c.length:Int))=true:=gy_ hc12
    rw[decide_eq_false hc12] at hF
    simp only[Bool.false_and,Bool.and_false] at hF
    repeat' (first|simp -implicitDefEqProofs only[go_sem,am_ hx,rowE,hw,List.length_map,g1,g2]|refine ag_ (fun hb=>?_) (fun hb=>?_)|refine⟨fun hb=>?_,fun hb=>?_⟩|fail)
    exact fin _ _ _ hF
   have g2:decide ((12:Int)<(c.length:Int))=false:=gn_ hc12
   rw[decide_eq_true ha12,decide_eq_true hc12,Bool.true_and,Bool.true_and,Bool.and_assoc] at hF
   repeat' (first|simp -implicitDefEqProofs only[go_sem,am_ hx,rowE,hw,List.length_map,g1,g2]|refine ag_ (fun hb=>?_) (fun hb=>?_)|refine⟨fun hb=>?_,fun hb=>?_⟩|fail)
   refine al_ (fun n st=>∃(j:Nat),j+n=a.length∧st=⟨104,[(1,.ref 1 0 0),(4,iv i),(5,.ref 5 0 0),(6,iv j)],[(1,⟨false,taS_,6,[.agg [iv p1,iv p2,iv p3,iv p4,.seq 1 (ds.map v_),.seq 2 (rs.map rowE)]]⟩),(5,⟨false,taR_,2,[.agg [.seq 5 (a.map s12),.seq 2 (c.map cfgE)]]⟩)]⟩∧
    F=((a.drop j).all fewX&&(c.all fewC&&R))) a.length ⟨0,by simp,rfl,by rw[List.drop_zero];exact hF⟩ ?_
   clear hF g1 g2
   rintro J hJ k st ⟨j,hj,rfl,hF⟩
   simp -implicitDefEqProofs only[go_sem,List.length_map]
   refine⟨fun hlt2=>?_,fun hge2=>?_⟩
   ·have hlt2':j<a.length:=by omega
    obtain⟨y,hy,hym⟩:=as10 hlt2'
    have hw2:=ws_ hlt2' (by omega)
    rw[d10 hy,List.all_cons] at hF
    obtain⟨y1,⟨y2,y3,y4,y5⟩⟩:=y
    by_cases h1:y4.length≤100
    ·have g1:decide ((100:Int)<(y4.length:Int))=false:=gn_ h1
     rw[show fewX (y1,⟨y2,y3,y4,y5⟩)=true from decide_eq_true h1,Bool.true_and] at hF
     have hny:=hJ (k - 1) _ ⟨j+1,by omega,rfl,hF⟩
     clear hJ hnx
     repeat' (first|simp -implicitDefEqProofs only[go_sem,am_ hy,s12,hw2,List.length_map,g1]|refine ag_ (fun hb=>?_) (fun hb=>?_)|refine⟨fun hb=>?_,fun hb=>?_⟩|fail)
     exact aa_ (k - 1) (by omega) hny
    ·have g1:decide ((100:Int)<(y4.length:Int))=true:=gy_ h1
     rw[show fewX (y1,⟨y2,y3,y4,y5⟩)=false from decide_eq_false h1,Bool.false_and,Bool.false_and] at hF
     clear hJ hnx
     repeat' (first|simp -implicitDefEqProofs only[go_sem,am_ hy,s12,hw2,List.length_map,g1]|refine ag_ (fun hb=>?_) (fun hb=>?_)|refine⟨fun hb=>?_,fun hb=>?_⟩|fail)
     exact fin _ _ _ hF
   ·rw[List.drop_eq_nil_of_le (by omega),List.all_nil,Bool.true_and] at hF
    clear hJ
    repeat' (first|simp -implicitDefEqProofs only[go_sem]|refine ag_ (fun hb=>?_) (fun hb=>?_)|refine⟨fun hb=>?_,fun hb=>?_⟩|fail)
    refine al_ (fun n st=>∃(j:Nat),j+n=c.length∧st=⟨104,[(1,.ref 1 0 0),(4,iv i),(5,.ref 5 0 0),(7,iv j)],[(1,⟨false,taS_,6,[.agg [iv p1,iv p2,iv p3,iv p4,.seq 1 (ds.map v_),.seq 2 (rs.map rowE)]]⟩),(5,⟨false,taR_,2,[.agg [.seq 5 (a.map s12),.seq 2 (c.map cfgE)]]⟩)]⟩∧
     F=((c.drop j).all fewC&&R)) c.length ⟨0,by simp,rfl,by rw[List.drop_zero];exact hF⟩ ?_
    clear hF hge2 hj
    rintro J hJ k st ⟨j,hj,rfl,hF⟩
    simp -implicitDefEqProofs only[go_sem,List.length_map]
    refine⟨fun hlt2=>?_,fun hge2=>?_⟩
    ·have hlt2':j<c.length:=by omega
     obtain⟨y,hy,hym⟩:=as10 hlt2'
     have hw2:=ws_ hlt2' (by omega)
     rw[d10 hy,List.all_cons] at hF
     obtain⟨y1,y⟩:=y
     by_cases hx12:y.length≤12
     ·have g1:decide ((12:Int)<(y.length:Int))=false:=gn_ hx12
      have hs:=lsp_ (G:=G) y (by omega)
      have hxs:fewC (y1,y)=s_ y:=by unfold fewC;rw[decide_eq_true hx12,Bool.true_and]
      rw[hxs] at hF
      cases hsx:s_ y with
      | true=>
       rw[hsx] at hs
       rw[hsx,Bool.true_and] at hF
       have hny:=hJ (k - 1) _ ⟨j+1,by omega,rfl,hF⟩
       clear hJ hnx
       repeat' (first|simp -implicitDefEqProofs only[go_sem,am_ hy,cfgE,hw2,List.length_map,g1]|refine ag_ (fun hb=>?_) (fun hb=>?_)|refine⟨fun hb=>?_,fun hb=>?_⟩|refine ac10 hs rfl rfl ?_|fail)
       exact aa_ (k - 1) (by omega) hny
      | false=>
       rw[hsx] at hs
       rw[hsx,Bool.false_and,Bool.false_and] at hF
       clear hJ hnx
       repeat' (first|simp -implicitDefEqProofs only[go_sem,am_ hy,cfgE,hw2,List.length_map,g1]|refine ag_ (fun hb=>?_) (fun hb=>?_)|refine⟨fun hb=>?_,fun hb=>?_⟩|refine ac10 hs rfl rfl ?_|fail)
       exact fin _ _ _ hF
     ·have g1:decide ((12:Int)<(y.length:Int))=true:=gy_ hx12
      have hxs:fewC (y1,y)=false:=by unfold fewC;rw[decide_eq_false hx12,Bool.false_and]
      rw[hxs,Bool.false_and,Bool.false_and] at hF
      clear hJ hnx
      repeat' (first|simp -implicitDefEqProofs only[go_sem,am_ hy,cfgE,hw2,List.length_map,g1]|refine ag_ (fun hb=>?_) (fun hb=>?_)|refine⟨fun hb=>?_,fun hb=>?_⟩|fail)
      exact fin _ _ _ hF
    ·rw[List.drop_eq_nil_of_le (by omega),List.all_nil,Bool.true_and] at hF
     have hnx:=hnx hF
     clear hJ
     repeat' (first|simp -implicitDefEqProofs only[go_sem,hw]|refine ag_ (fun hb=>?_) (fun hb=>?_)|refine⟨fun hb=>?_,fun hb=>?_⟩|fail)
     exact aa_ (n - 1) (by omega) hnx
  ·rw[List.drop_eq_nil_of_le (by omega),List.all_nil] at hF
   repeat' (first|simp -implicitDefEqProofs only[go_sem]|refine ag_ (fun hb=>?_) (fun hb=>?_)|refine⟨fun hb=>?_,fun hb=>?_⟩|fail)
   exact fin _ _ _ hF
end Go.Proofs.YtkejmcgngblfnaaGreatDoor.Ab
