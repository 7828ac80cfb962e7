/-
  What the law of chapter 38 finds bad in what is to be put. No claim is proved here.
-/
import Derived.Test.YtkejmcgngblfnaaGreatDoorQSr3
namespace Go.Proofs.YtkejmcgngblfnaaGreatDoor.Ab
open Go Go.RowKit
set_option linter.unusedSimpArgs false
set_option maxHeartbeats 4000000
set_option maxRecDepth 100000
variable {G:Nat→Option AV}
theorem orA {o p R E:Bool} (h:(o||(p||R))=E):((o||p)||R)=E:=by rw[Bool.or_assoc];exact h
def lenS (s:V_):Prop:=s.doms.length≤10000∧(∀l∈s.doms,l.length≤10000)∧s.rows.length≤10000∧∀r∈s.rows,r.1.length≤10000∧r.2.length≤10000∧∀c∈r.2,c.2.length≤10000
theorem lbp_ (s:V_) (hs:lenS s):P_ Tryz.prog G npb_ [s14 s] (iv (badS s)):=by
 obtain⟨p1,p2,p3,p4,ds,rs⟩:=s
 obtain⟨hd,hdl,hr,hrl⟩:=hs
 simp only at hd hdl hr hrl
 have o1:=lop_ (G:=G) p1
 have o2:=lop_ (G:=G) p2
 have o3:=lop_ (G:=G) p3
 have o4:=lop_ (G:=G) p4
 refine ppb_ (Runs.of fun Φ h=>?_)
 unfold cpb_
 have fin:∀(b:Int) env heap,b=badS ⟨p1,p2,p3,p4,ds,rs⟩→Φ ⟨144,(2,iv b)::env,heap⟩:=fun b env heap e=>h _ ⟨_,_,rfl,rfl,fe_ (by rw[e])⟩
 clear h
 have eb:badS ⟨p1,p2,p3,p4,ds,rs⟩=if ((o_ p1||o_ p2||o_ p3||o_ p4)||rs.any farR)=true then 5 else if (ds.any o10||rs.any o11)=true then 8 else 0:=rfl
 rw[eb] at fin
 clear eb
 generalize o_ p1=u1 at*
 generalize o_ p2=u2 at*
 generalize o_ p3=u3 at*
 generalize o_ p4=u4 at*
 refine ac14 (fun st=>st=⟨144,[(1,.ref 1 0 0)],[(1,⟨false,taS_,6,[.agg [iv p1,iv p2,iv p3,iv p4,.seq 1 (ds.map v_),.seq 2 (rs.map rowE)]]⟩)]⟩) (by
  repeat' (first|simp -implicitDefEqProofs only[go_sem,s14]|refine ag_ (fun hb=>?_) (fun hb=>?_)|refine⟨fun hb=>?_,fun hb=>?_⟩|fail)) ?_
 rintro _ rfl
 refine ac14 (fun st=>st=⟨144,[(1,.ref 1 0 0),(3,.bool false)],[(1,⟨false,taS_,6,[.agg [iv p1,iv p2,iv p3,iv p4,.seq 1 (ds.map v_),.seq 2 (rs.map rowE)]]⟩)]⟩) (by
  repeat' (first|simp -implicitDefEqProofs only[go_sem]|refine ag_ (fun hb=>?_) (fun hb=>?_)|refine⟨fun hb=>?_,fun hb=>?_⟩|fail)) ?_
 rintro _ rfl
 refine ac14 (fun st=>st=⟨144,[(1,.ref 1 0 0),(3,.bool false),(4,.bool (u1||u2||u3||u4))],[(1,⟨false,taS_,6,[.agg [iv p1,iv p2,iv p3,iv p4,.seq 1 (ds.map v_),.seq 2 (rs.map rowE)]]⟩)]⟩) ?_ ?_
 ·cases u1
  ·cases u2
   ·cases u3
    ·repeat' (first|simp -implicitDefEqProofs only[go_sem,Bool.false_or]|refine ag_ (fun hb=>?_) (fun hb=>?_)|refine⟨fun hb=>?_,fun hb=>?_⟩|refine ac10 o1 rfl rfl ?_|refine ac10 o2 rfl rfl ?_|refine ac10 o3 rfl rfl ?_|refine ac10 o4 rfl rfl ?_|fail)
    ·repeat' (first|simp -implicitDefEqProofs only[go_sem,Bool.false_or,Bool.true_or]|refine ag_ (fun hb=>?_) (fun hb=>?_)|refine⟨fun hb=>?_,fun hb=>?_⟩|refine ac10 o1 rfl rfl ?_|refine ac10 o2 rfl rfl ?_|refine ac10 o3 rfl rfl ?_|fail)
   ·repeat' (first|simp -implicitDefEqProofs only[go_sem,Bool.false_or,Bool.true_or]|refine ag_ (fun hb=>?_) (fun hb=>?_)|refine⟨fun hb=>?_,fun hb=>?_⟩|refine ac10 o1 rfl rfl ?_|refine ac10 o2 rfl rfl ?_|fail)
  ·repeat' (first|simp -implicitDefEqProofs only[go_sem,Bool.true_or]|refine ag_ (fun hb=>?_) (fun hb=>?_)|refine⟨fun hb=>?_,fun hb=>?_⟩|refine ac10 o1 rfl rfl ?_|fail)
 rintro _ rfl
 clear o1 o2 o3 o4
 generalize (u1||u2||u3||u4)=far at*
 simp -implicitDefEqProofs only[go_sem]
 refine al_ (fun n st=>∃(i:Nat) (o:Bool),i+n=ds.length∧st=⟨144,[(1,.ref 1 0 0),(3,.bool o),(4,.bool far),(5,iv i)],[(1,⟨false,taS_,6,[.agg [iv p1,iv p2,iv p3,iv p4,.seq 1 (ds.map v_),.seq 2 (rs.map rowE)]]⟩)]⟩∧
  (o||(ds.drop i).any o10)=ds.any o10) ds.length ⟨0,false,by simp,rfl,by rw[List.drop_zero,Bool.false_or]⟩ ?_
 rintro I hI n st ⟨i,o,hi,rfl,ho⟩
 simp -implicitDefEqProofs only[go_sem,List.length_map]
 refine⟨fun hlt=>?_,fun hge=>?_⟩
 ·have hlt':i<ds.length:=by omega
  obtain⟨x,hx,hxm⟩:=as10 hlt'
  have hw:=ws_ hlt' (by omega)
  have hxl:=hdl x hxm
  rw[d10 hx,List.any_cons] at ho
  have hnx:=fun o e=>hI (n - 1) _ ⟨i+1,o,by omega,rfl,e⟩
  clear hI
  repeat' (first|simp -implicitDefEqProofs only[go_sem,am_ hx,v_,List.length_map]|refine ag_ (fun hb=>?_) (fun hb=>?_)|refine⟨fun hb=>?_,fun hb=>?_⟩|fail)
  refine al_ (fun k st=>∃(j:Nat) (q:Bool),j+k=x.length∧st=⟨144,[(1,.ref 1 0 0),(3,.bool q),(4,.bool far),(5,iv i),(6,iv j)],[(1,⟨false,taS_,6,[.agg [iv p1,iv p2,iv p3,iv p4,.seq 1 (ds.map v_),.seq 2 (rs.map rowE)]]⟩)]⟩∧
   (q||o10 (x.drop j))=(o||o10 x)) x.length ⟨0,o,by simp,rfl,by rw[List.drop_zero]⟩ ?_
  rintro J hJ k st ⟨j,q,hj,rfl,hq⟩
  simp -implicitDefEqProofs only[go_sem,am_ hx,v_,List.length_map]
  refine⟨fun hlt2=>?_,fun hge2=>?_⟩
  ·have hlt2':j<x.length:=by omega
   obtain⟨y,hy,hym⟩:=as10 hlt2'
   have hw2:=ws_ hlt2' (by omega)
   have hR:=rRp_ (G:=G) y
   rw[d10 hy,show o10 (y::x.drop (j+1))=(!y.ok||o10 (x.drop (j+1))) from rfl] at hq
   have hny:=hJ (k - 1) _ ⟨j+1,_,by omega,rfl,orA hq⟩
   clear hJ hnx
   generalize y.ok=z at*
   obtain⟨y1,y2,y3,y4⟩:=y
   simp only[valV] at hR
   cases q
   ·simp only[Bool.false_or] at hny
    repeat' (first|simp -implicitDefEqProofs only[go_sem,am_ hx,am_ hy,v_,valV,hw2,List.length_map]|refine ag_ (fun hb=>?_) (fun hb=>?_)|refine⟨fun hb=>?_,fun hb=>?_⟩|refine ac10 hR rfl rfl ?_|fail)
    exact aa_ (k - 1) (by omega) hny
   ·simp only[Bool.true_or] at hny
    repeat' (first|simp -implicitDefEqProofs only[go_sem,am_ hx,am_ hy,v_,valV,hw2,List.length_map]|refine ag_ (fun hb=>?_) (fun hb=>?_)|refine⟨fun hb=>?_,fun hb=>?_⟩|fail)
    exact aa_ (k - 1) (by omega) hny
  ·rw[List.drop_eq_nil_of_le (by omega),show o10 []=false from rfl,Bool.or_false] at hq
   subst hq
   have hnx:=hnx _ (orA ho)
   repeat' (first|simp -implicitDefEqProofs only[go_sem,hw]|refine ag_ (fun hb=>?_) (fun hb=>?_)|refine⟨fun hb=>?_,fun hb=>?_⟩|fail)
   exact aa_ (n - 1) (by omega) hnx
 ·rw[List.drop_eq_nil_of_le (by omega),List.any_nil,Bool.or_false] at ho
  rw[←ho] at fin
  clear ho hI hge hi
  repeat' (first|simp -implicitDefEqProofs only[go_sem]|refine ag_ (fun hb=>?_) (fun hb=>?_)|refine⟨fun hb=>?_,fun hb=>?_⟩|fail)
  refine al_ (fun n st=>∃(i:Nat) (q f:Bool),i+n=rs.length∧st=⟨144,[(1,.ref 1 0 0),(3,.bool q),(4,.bool f),(7,iv i)],[(1,⟨false,taS_,6,[.agg [iv p1,iv p2,iv p3,iv p4,.seq 1 (ds.map v_),.seq 2 (rs.map rowE)]]⟩)]⟩∧
   (q||(rs.drop i).any o11)=(o||rs.any o11)∧(f||(rs.drop i).any farR)=(far||rs.any farR)) rs.length ⟨0,o,far,by simp,rfl,by rw[List.drop_zero],by rw[List.drop_zero]⟩ ?_
  rintro I hI n st ⟨i,q,f,hi,rfl,hq,hf⟩
  rw[←hq,←hf] at fin
  simp -implicitDefEqProofs only[go_sem,List.length_map]
  refine⟨fun hlt=>?_,fun hge=>?_⟩
  ·clear fin
   have hlt':i<rs.length:=by omega
   obtain⟨x,hx,hxm⟩:=as10 hlt'
   have hw:=ws_ hlt' (by omega)
   obtain⟨hal,hcl,hcv⟩:=hrl x hxm
   rw[d10 hx,List.any_cons] at hq hf
   have hnx:=fun q f e1 e2=>hI (n - 1) _ ⟨i+1,q,f,by omega,rfl,e1,e2⟩
   clear hI
   obtain⟨a,c⟩:=x
   simp only at hal hcl hcv
   rw[show o11 (a,c)=(a.any (fun s=>!s.2.ok)||c.any fun c=>o10 c.2) from rfl,Bool.or_assoc] at hq
   rw[show farR (a,c)=(a.any (fun s=>o_ s.1)||c.any fun c=>o_ c.1) from rfl,Bool.or_assoc] at hf
   have hq:=orA hq
   have hf:=orA hf
   repeat' (first|simp -implicitDefEqProofs only[go_sem,am_ hx,rowE,List.length_map]|refine ag_ (fun hb=>?_) (fun hb=>?_)|refine⟨fun hb=>?_,fun hb=>?_⟩|fail)
   refine al_ (fun n st=>∃(j:Nat) (q1 f1:Bool),j+n=a.length∧st=⟨144,[(1,.ref 1 0 0),(3,.bool q1),(4,.bool f1),(7,iv i),(8,.ref 8 0 0),(9,iv j)],[(1,⟨false,taS_,6,[.agg [iv p1,iv p2,iv p3,iv p4,.seq 1 (ds.map v_),.seq 2 (rs.map rowE)]]⟩),(8,⟨false,taR_,2,[.agg [.seq 5 (a.map s12),.seq 2 (c.map cfgE)]]⟩)]⟩∧
    (q1||(a.drop j).any fun s=>!s.2.ok)=(q||a.any fun s=>!s.2.ok)∧(f1||(a.drop j).any fun s=>o_ s.1)=(f||a.any fun s=>o_ s.1)) a.length ⟨0,q,f,by simp,rfl,by rw[List.drop_zero],by rw[List.drop_zero]⟩ ?_
   rintro J hJ k st ⟨j,q1,f1,hj,rfl,hq1,hf1⟩
   simp -implicitDefEqProofs only[go_sem,List.length_map]
   refine⟨fun hlt2=>?_,fun hge2=>?_⟩
   ·have hlt2':j<a.length:=by omega
    obtain⟨y,hy,hym⟩:=as10 hlt2'
    have hw2:=ws_ hlt2' (by omega)
    have hO:=lop_ (G:=G) y.1
    have hR:=rRp_ (G:=G) y.2
    rw[d10 hy,List.any_cons] at hq1 hf1
    have hny:=hJ (k - 1) _ ⟨j+1,_,_,by omega,rfl,orA hq1,orA hf1⟩
    clear hJ hnx
    generalize o_ y.1=z1 at*
    generalize y.2.ok=z2 at*
    obtain⟨y0,⟨y1,y2,y3,y4⟩⟩:=y
    simp only[valV] at hR hO
    cases q1
    ·cases f1
     ·simp only[Bool.false_or] at hny
      repeat' (first|simp -implicitDefEqProofs only[go_sem,am_ hy,s12,hw2,List.length_map]|refine ag_ (fun hb=>?_) (fun hb=>?_)|refine⟨fun hb=>?_,fun hb=>?_⟩|refine ac10 hO rfl rfl ?_|refine ac10 hR rfl rfl ?_|fail)
      exact aa_ (k - 1) (by omega) hny
     ·simp only[Bool.false_or,Bool.true_or] at hny
      repeat' (first|simp -implicitDefEqProofs only[go_sem,am_ hy,s12,hw2,List.length_map]|refine ag_ (fun hb=>?_) (fun hb=>?_)|refine⟨fun hb=>?_,fun hb=>?_⟩|refine ac10 hR rfl rfl ?_|fail)
      exact aa_ (k - 1) (by omega) hny
    ·cases f1
     ·simp only[Bool.false_or,Bool.true_or] at hny
      repeat' (first|simp -implicitDefEqProofs only[go_sem,am_ hy,s12,hw2,List.length_map]|refine ag_ (fun hb=>?_) (fun hb=>?_)|refine⟨fun hb=>?_,fun hb=>?_⟩|refine ac10 hO rfl rfl ?_|fail)
      exact aa_ (k - 1) (by omega) hny
     ·simp only[Bool.true_or] at hny
      repeat' (first|simp -implicitDefEqProofs only[go_sem,am_ hy,s12,hw2,List.length_map]|refine ag_ (fun hb=>?_) (fun hb=>?_)|refine⟨fun hb=>?_,fun hb=>?_⟩|fail)
      exact aa_ (k - 1) (by omega) hny
   ·rw[List.drop_eq_nil_of_le (by omega),List.any_nil,Bool.or_false] at hq1 hf1
    rw[←hq1] at hq
    rw[←hf1] at hf
    clear hq1 hf1 hJ hge2 hj
    repeat' (first|simp -implicitDefEqProofs only[go_sem]|refine ag_ (fun hb=>?_) (fun hb=>?_)|refine⟨fun hb=>?_,fun hb=>?_⟩|fail)
    refine al_ (fun n st=>∃(j:Nat) (q2 f2:Bool),j+n=c.length∧st=⟨144,[(1,.ref 1 0 0),(3,.bool q2),(4,.bool f2),(7,iv i),(8,.ref 8 0 0),(10,iv j)],[(1,⟨false,taS_,6,[.agg [iv p1,iv p2,iv p3,iv p4,.seq 1 (ds.map v_),.seq 2 (rs.map rowE)]]⟩),(8,⟨false,taR_,2,[.agg [.seq 5 (a.map s12),.seq 2 (c.map cfgE)]]⟩)]⟩∧
     (q2||(c.drop j).any fun c=>o10 c.2)=(q1||c.any fun c=>o10 c.2)∧(f2||(c.drop j).any fun c=>o_ c.1)=(f1||c.any fun c=>o_ c.1)) c.length ⟨0,q1,f1,by simp,rfl,by rw[List.drop_zero],by rw[List.drop_zero]⟩ ?_
    rintro J hJ k st ⟨j,q2,f2,hj,rfl,hq2,hf2⟩
    simp -implicitDefEqProofs only[go_sem,List.length_map]
    refine⟨fun hlt2=>?_,fun hge2=>?_⟩
    ·have hlt2':j<c.length:=by omega
     obtain⟨y,hy,hym⟩:=as10 hlt2'
     have hw2:=ws_ hlt2' (by omega)
     have hyl:=hcv y hym
     have hO:=lop_ (G:=G) y.1
     rw[d10 hy,List.any_cons] at hq2 hf2
     have hny:=fun q e=>hJ (k - 1) _ ⟨j+1,q,_,by omega,rfl,e,orA hf2⟩
     clear hJ hnx hq hf hf2
     generalize o_ y.1=z1 at*
     obtain⟨y0,vs⟩:=y
     simp only at hyl hO hq2
     cases f2
     ·simp only[Bool.false_or] at hny
      repeat' (first|simp -implicitDefEqProofs only[go_sem,am_ hy,cfgE,List.length_map]|refine ag_ (fun hb=>?_) (fun hb=>?_)|refine⟨fun hb=>?_,fun hb=>?_⟩|refine ac10 hO rfl rfl ?_|fail)
      refine al_ (fun n st=>∃(m:Nat) (q3:Bool),m+n=vs.length∧st=⟨144,[(1,.ref 1 0 0),(3,.bool q3),(4,.bool z1),(7,iv i),(8,.ref 8 0 0),(10,iv j),(11,iv m)],[(1,⟨false,taS_,6,[.agg [iv p1,iv p2,iv p3,iv p4,.seq 1 (ds.map v_),.seq 2 (rs.map rowE)]]⟩),(8,⟨false,taR_,2,[.agg [.seq 5 (a.map s12),.seq 2 (c.map cfgE)]]⟩)]⟩∧
       (q3||o10 (vs.drop m))=(q2||o10 vs)) vs.length ⟨0,q2,by simp,rfl,by rw[List.drop_zero]⟩ ?_
      rintro L hL u st ⟨m,q3,hm,rfl,hq3⟩
      simp -implicitDefEqProofs only[go_sem,am_ hy,cfgE,List.length_map]
      refine⟨fun hlt3=>?_,fun hge3=>?_⟩
      ·have hlt3':m<vs.length:=by omega
       obtain⟨v,hv,hvm⟩:=as10 hlt3'
       have hw3:=ws_ hlt3' (by omega)
       have hR:=rRp_ (G:=G) v
       rw[d10 hv,show o10 (v::vs.drop (m+1))=(!v.ok||o10 (vs.drop (m+1))) from rfl] at hq3
       have hnz:=hL (u - 1) _ ⟨m+1,_,by omega,rfl,orA hq3⟩
       clear hL hny
       generalize v.ok=z at*
       obtain⟨y1,y2,y3,y4⟩:=v
       simp only[valV] at hR
       cases q3
       ·simp only[Bool.false_or] at hnz
        repeat' (first|simp -implicitDefEqProofs only[go_sem,am_ hy,am_ hv,cfgE,valV,hw3,List.length_map]|refine ag_ (fun hb=>?_) (fun hb=>?_)|refine⟨fun hb=>?_,fun hb=>?_⟩|refine ac10 hR rfl rfl ?_|fail)
        exact aa_ (u - 1) (by omega) hnz
       ·simp only[Bool.true_or] at hnz
        repeat' (first|simp -implicitDefEqProofs only[go_sem,am_ hy,am_ hv,cfgE,valV,hw3,List.length_map]|refine ag_ (fun hb=>?_) (fun hb=>?_)|refine⟨fun hb=>?_,fun hb=>?_⟩|fail)
        exact aa_ (u - 1) (by omega) hnz
      ·rw[List.drop_eq_nil_of_le (by omega),show o10 []=false from rfl,Bool.or_false] at hq3
       subst hq3
       have hny:=hny _ (orA hq2)
       repeat' (first|simp -implicitDefEqProofs only[go_sem,hw2]|refine ag_ (fun hb=>?_) (fun hb=>?_)|refine⟨fun hb=>?_,fun hb=>?_⟩|fail)
       exact aa_ (k - 1) (by omega) hny
     ·simp only[Bool.true_or] at hny
      repeat' (first|simp -implicitDefEqProofs only[go_sem,am_ hy,cfgE,List.length_map]|refine ag_ (fun hb=>?_) (fun hb=>?_)|refine⟨fun hb=>?_,fun hb=>?_⟩|fail)
      refine al_ (fun n st=>∃(m:Nat) (q3:Bool),m+n=vs.length∧st=⟨144,[(1,.ref 1 0 0),(3,.bool q3),(4,.bool true),(7,iv i),(8,.ref 8 0 0),(10,iv j),(11,iv m)],[(1,⟨false,taS_,6,[.agg [iv p1,iv p2,iv p3,iv p4,.seq 1 (ds.map v_),.seq 2 (rs.map rowE)]]⟩),(8,⟨false,taR_,2,[.agg [.seq 5 (a.map s12),.seq 2 (c.map cfgE)]]⟩)]⟩∧
       (q3||o10 (vs.drop m))=(q2||o10 vs)) vs.length ⟨0,q2,by simp,rfl,by rw[List.drop_zero]⟩ ?_
      rintro L hL u st ⟨m,q3,hm,rfl,hq3⟩
      simp -implicitDefEqProofs only[go_sem,am_ hy,cfgE,List.length_map]
      refine⟨fun hlt3=>?_,fun hge3=>?_⟩
      ·have hlt3':m<vs.length:=by omega
       obtain⟨v,hv,hvm⟩:=as10 hlt3'
       have hw3:=ws_ hlt3' (by omega)
       have hR:=rRp_ (G:=G) v
       rw[d10 hv,show o10 (v::vs.drop (m+1))=(!v.ok||o10 (vs.drop (m+1))) from rfl] at hq3
       have hnz:=hL (u - 1) _ ⟨m+1,_,by omega,rfl,orA hq3⟩
       clear hL hny
       generalize v.ok=z at*
       obtain⟨y1,y2,y3,y4⟩:=v
       simp only[valV] at hR
       cases q3
       ·simp only[Bool.false_or] at hnz
        repeat' (first|simp -implicitDefEqProofs only[go_sem,am_ hy,am_ hv,cfgE,valV,hw3,List.length_map]|refine ag_ (fun hb=>?_) (fun hb=>?_)|refine⟨fun hb=>?_,fun hb=>?_⟩|refine ac10 hR rfl rfl ?_|fail)
        exact aa_ (u - 1) (by omega) hnz
       ·simp only[Bool.true_or] at hnz
        repeat' (first|simp -implicitDefEqProofs only[go_sem,am_ hy,am_ hv,cfgE,valV,hw3,List.length_map]|refine ag_ (fun hb=>?_) (fun hb=>?_)|refine⟨fun hb=>?_,fun hb=>?_⟩|fail)
        exact aa_ (u - 1) (by omega) hnz
      ·rw[List.drop_eq_nil_of_le (by omega),show o10 []=false from rfl,Bool.or_false] at hq3
       subst hq3
       have hny:=hny _ (orA hq2)
       repeat' (first|simp -implicitDefEqProofs only[go_sem,hw2]|refine ag_ (fun hb=>?_) (fun hb=>?_)|refine⟨fun hb=>?_,fun hb=>?_⟩|fail)
       exact aa_ (k - 1) (by omega) hny
    ·rw[List.drop_eq_nil_of_le (by omega),List.any_nil,Bool.or_false] at hq2 hf2
     rw[←Bool.or_assoc,←hq2] at hq
     rw[←Bool.or_assoc,←hf2] at hf
     have hnx:=hnx _ _ hq hf
     repeat' (first|simp -implicitDefEqProofs only[go_sem,hw]|refine ag_ (fun hb=>?_) (fun hb=>?_)|refine⟨fun hb=>?_,fun hb=>?_⟩|fail)
     exact aa_ (n - 1) (by omega) hnx
  ·rw[List.drop_eq_nil_of_le (by omega),List.any_nil,List.any_nil,Bool.or_false,Bool.or_false] at fin
   clear hI hq hf
   cases f
   ·cases q
    ·repeat' (first|simp -implicitDefEqProofs only[go_sem]|refine ag_ (fun hb=>?_) (fun hb=>?_)|refine⟨fun hb=>?_,fun hb=>?_⟩|fail)
     exact fin _ _ _ rfl
    ·repeat' (first|simp -implicitDefEqProofs only[go_sem]|refine ag_ (fun hb=>?_) (fun hb=>?_)|refine⟨fun hb=>?_,fun hb=>?_⟩|fail)
     exact fin _ _ _ rfl
   ·repeat' (first|simp -implicitDefEqProofs only[go_sem]|refine ag_ (fun hb=>?_) (fun hb=>?_)|refine⟨fun hb=>?_,fun hb=>?_⟩|fail)
    exact fin _ _ _ rfl
end Go.Proofs.YtkejmcgngblfnaaGreatDoor.Ab
