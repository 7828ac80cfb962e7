/-
  The writer of chapter 38: vals, row, save.Put. No claim is proved here.
-/
import Derived.Test.YtkejmcgngblfnaaGreatDoorYSw1
namespace Go.Proofs.YtkejmcgngblfnaaGreatDoor.Ab
open Go Go.RowKit
set_option linter.unusedSimpArgs false
set_option maxHeartbeats 4000000
set_option maxRecDepth 100000
variable {G:Nat→Option AV}
theorem d10 {α:Type} {l:List α} {i:Nat} {x:α} (h:l[i]? =some x):l.drop i=x::l.drop (i+1):=by
 obtain⟨h1,rfl⟩:=List.getElem?_eq_some_iff.1 h
 exact List.drop_eq_getElem_cons h1
def WOk (v:Val):Prop:=i64 v.int∧v.str.length≤10000
def szV (l:List Val):Nat:=(l.flatMap k_).length
theorem sc10 (v:Val) (l:List Val):szV (v::l)=(k_ v).length+szV l:=by simp [szV]
theorem wvh_ (w:WS) (l:List Val) (hl:l.length≤1000000) (hok:∀v∈l,WOk v) (hb:w.1.length+4+szV l≤maxB):H_ Tryz.prog G nswv_ [.ref 1001 0 0,.seq 4 (l.map valV)] (wH w) (.tup []) (wH (v12 w l)):=by
 have hn:=wnh_ (G:=G) w l.length (by omega)
 have hnl:=nl_ w l.length
 refine hswv_ (R_.of fun Φ h=>?_)
 unfold cswv_
 have fin:∀env heap,subH heap (wH (v12 w l))→Φ ⟨20,env,heap⟩:=fun env heap hh=>h _ ⟨_,_,Weak.refl _,rfl,.refl _,hh.at⟩
 clear h
 unfold v12 at fin
 generalize numW w l.length=w1 at*
 unfold wH wrB byB at*
 repeat' (first|simp -implicitDefEqProofs only[go_sem,List.length_map]|refine ag_ (fun hb=>?_) (fun hb=>?_)|refine⟨fun hb=>?_,fun hb=>?_⟩|(refine ac_ [(1001,1001),(1002,1002)] hn rfl ⟨⟨_,_,rfl,rfl,rfl⟩,⟨_,_,rfl,rfl,rfl⟩,trivial⟩ rfl rfl rfl ?_)|fail)
 refine al10 (fun n st=>∃(i:Nat) (u:WS),i+n=l.length∧st=⟨20,[(0,.ref 1001 0 0),(10,.seq 4 (l.map valV)),(11,iv l.length),(12,iv i)],[(1001,⟨false,tsw_,2,[.agg [.arr 1002 0 u.1.length,iv u.2]]⟩),(1002,⟨true,tu_,1,u.1.map byV⟩)]⟩∧
  (l.drop i).foldl valW u=l.foldl valW w1∧u.1.length+szV (l.drop i)≤maxB) l.length ⟨0,w1,by simp,rfl,rfl,by rw[List.drop_zero];omega⟩ ?_
 rintro I hI n st ⟨i,u,hi,rfl,hu,hs⟩
 simp -implicitDefEqProofs only[go_sem,List.length_map]
 refine⟨fun hlt=>?_,fun hge=>?_⟩
 ·have hlt':i<l.length:=by omega
  obtain⟨v,hv,hm⟩:=as10 hlt'
  have hw:=ws_ hlt' (by omega)
  obtain⟨o1,o2⟩:=hok v hm
  rw[d10 hv,List.foldl_cons] at hu
  rw[d10 hv,sc10] at hs
  have hc:=wv10 (G:=G) u v o1 o2 (by omega)
  have hlen:=vl10 u v
  generalize valW u v=u1 at*
  have hnx:=hI (n - 1) _ ⟨i+1,u1,by omega,rfl,hu,by omega⟩
  clear hI hn
  obtain⟨k,m,s,t⟩:=v
  simp only[wH,wrB,byB,valV] at hc
  repeat' (first|simp -implicitDefEqProofs only[go_sem,am_ hv,valV,hw,List.length_map]|refine ag_ (fun hb=>?_) (fun hb=>?_)|refine⟨fun hb=>?_,fun hb=>?_⟩|(refine ac_ [(1001,1001),(1002,1002)] hc rfl ⟨⟨_,_,rfl,rfl,rfl⟩,⟨_,_,rfl,rfl,rfl⟩,trivial⟩ rfl rfl rfl ?_)|fail)
  exact aa_ (n - 1) (by omega) hnx
 ·rw[List.drop_eq_nil_of_le (by omega),List.foldl_nil] at hu
  subst hu
  exact fin _ _ ⟨rfl,rfl,trivial⟩
def szS (l:List (Int×Val)):Nat:=(l.flatMap s20).length
def szC (l:List (Int×List Val)):Nat:=(l.flatMap cfgB).length
theorem sc11 (s:Int×Val) (l:List (Int×Val)):szS (s::l)=4+(k_ s.2).length+szS l:=by
 simp only[szS,List.flatMap_cons,List.length_append,s20,show (intB s.1).length=4 from rfl]
theorem sc12 (c:Int×List Val) (l:List (Int×List Val)):szC (c::l)=8+szV c.2+szC l:=by
 simp only[szC,szV,List.flatMap_cons,List.length_append,cfgB,l10,show (intB c.1).length=4 from rfl,fl10]
 omega
theorem vl_:∀(w:WS) (l:List Val),(v12 w l).1.length≤w.1.length+4+szV l:=fun w l=>by
 unfold v12
 have h0:=nl_ w l.length
 generalize numW w l.length=u at*
 have go:∀(l:List Val) (u:WS),(l.foldl valW u).1.length≤u.1.length+szV l:=by
  intro l
  induction l with
  | nil=>intro u;simp
  | cons v l ih=>
   intro u
   rw[List.foldl_cons,sc10]
   have:=ih (valW u v)
   have:=vl10 u v
   omega
 have:=go l u
 omega
def RWOk (r:VRow):Prop:=r.1.length≤1000000∧r.2.length≤1000000∧(∀s∈r.1,WOk s.2)∧∀c∈r.2,c.2.length≤1000000∧∀v∈c.2,WOk v
def szR (r:VRow):Nat:=8+szS r.1+szC r.2
theorem wrh_ (w:WS) (r:VRow) (hok:RWOk r) (hb:w.1.length+szR r≤maxB):H_ Tryz.prog G nswr_ [.ref 1001 0 0,rowE r] (wH w) (.tup []) (wH (rowW w r)):=by
 obtain⟨a,c⟩:=r
 obtain⟨ha,hc,hoa,hoc⟩:=hok
 simp only[szR] at ha hc hoa hoc hb
 have hn:=wnh_ (G:=G) w a.length (by omega)
 have hnl:=nl_ w a.length
 refine hswr_ (R_.of fun Φ h=>?_)
 unfold cswr_
 have fin:∀env heap,subH heap (wH (rowW w (a,c)))→Φ ⟨50,env,heap⟩:=fun env heap hh=>h _ ⟨_,_,Weak.refl _,rfl,.refl _,hh.at⟩
 clear h
 unfold rowW at fin
 simp only at fin
 generalize numW w a.length=w1 at*
 unfold wH wrB byB at*
 repeat' (first|simp -implicitDefEqProofs only[go_sem,rowE,List.length_map]|refine ag_ (fun hb=>?_) (fun hb=>?_)|refine⟨fun hb=>?_,fun hb=>?_⟩|(refine ac_ [(1001,1001),(1002,1002)] hn rfl ⟨⟨_,_,rfl,rfl,rfl⟩,⟨_,_,rfl,rfl,rfl⟩,trivial⟩ rfl rfl rfl ?_)|fail)
 refine al10 (fun n st=>∃(i:Nat) (u:WS),i+n=a.length∧st=⟨50,[(0,.ref 1001 0 0),(3,.ref 3 0 0),(14,.seq 5 (a.map s17)),(15,iv a.length),(16,iv i)],[(3,⟨false,taR_,2,[.agg [.seq 5 (a.map s17),.seq 2 (c.map cfgE)]]⟩),(1001,⟨false,tsw_,2,[.agg [.arr 1002 0 u.1.length,iv u.2]]⟩),(1002,⟨true,tu_,1,u.1.map byV⟩)]⟩∧
  (a.drop i).foldl s23 u=a.foldl s23 w1∧u.1.length+szS (a.drop i)+4+szC c≤maxB) a.length ⟨0,w1,by simp,rfl,rfl,by rw[List.drop_zero];omega⟩ ?_
 rintro I hI n st ⟨i,u,hi,rfl,hu,hs⟩
 simp -implicitDefEqProofs only[go_sem,List.length_map]
 refine⟨fun hlt=>?_,fun hge=>?_⟩
 ·have hlt':i<a.length:=by omega
  obtain⟨x,hx,hm⟩:=as10 hlt'
  have hw:=ws_ hlt' (by omega)
  obtain⟨o1,o2⟩:=hoa x hm
  rw[d10 hx,List.foldl_cons] at hu
  rw[d10 hx,sc11] at hs
  have hc1:=wnh_ (G:=G) u x.1 (by omega)
  have hl1:=nl_ u x.1
  have hc2:=wv10 (G:=G) (numW u x.1) x.2 o1 o2 (by omega)
  have hl2:=vl10 (numW u x.1) x.2
  unfold s23 at hu
  generalize valW (numW u x.1) x.2=u2 at*
  generalize numW u x.1=u1 at*
  have hnx:=hI (n - 1) _ ⟨i+1,u2,by omega,rfl,hu,by omega⟩
  clear hI hn
  obtain⟨y,⟨k,m,s,t⟩⟩:=x
  simp only[wH,wrB,byB,valV] at hc1 hc2
  repeat' (first|simp -implicitDefEqProofs only[go_sem,am_ hx,s17,hw,List.length_map]|refine ag_ (fun hb=>?_) (fun hb=>?_)|refine⟨fun hb=>?_,fun hb=>?_⟩|(refine ac_ [(1001,1001),(1002,1002)] hc1 rfl ⟨⟨_,_,rfl,rfl,rfl⟩,⟨_,_,rfl,rfl,rfl⟩,trivial⟩ rfl rfl rfl ?_)|(refine ac_ [(1001,1001),(1002,1002)] hc2 rfl ⟨⟨_,_,rfl,rfl,rfl⟩,⟨_,_,rfl,rfl,rfl⟩,trivial⟩ rfl rfl rfl ?_)|fail)
  exact aa_ (n - 1) (by omega) hnx
 ·rw[List.drop_eq_nil_of_le (by omega),List.foldl_nil] at hu
  rw[List.drop_eq_nil_of_le (by omega)] at hs
  have hs:u.1.length+4+szC c≤maxB:=by have:szS []=0:=rfl;omega
  rw[←hu] at fin
  clear hu hI hn hnl
  have hn:=wnh_ (G:=G) u c.length (by omega)
  have hnl:=nl_ u c.length
  generalize numW u c.length=w2 at*
  simp only[wH,wrB,byB] at hn
  repeat' (first|simp -implicitDefEqProofs only[go_sem,List.length_map]|refine ag_ (fun hb=>?_) (fun hb=>?_)|refine⟨fun hb=>?_,fun hb=>?_⟩|(refine ac_ [(1001,1001),(1002,1002)] hn rfl ⟨⟨_,_,rfl,rfl,rfl⟩,⟨_,_,rfl,rfl,rfl⟩,trivial⟩ rfl rfl rfl ?_)|fail)
  refine al10 (fun n st=>∃(i:Nat) (u:WS),i+n=c.length∧st=⟨50,[(0,.ref 1001 0 0),(35,.seq 2 (c.map cfgE)),(36,iv c.length),(37,iv i)],[(3,⟨false,taR_,2,[.agg [.seq 5 (a.map s17),.seq 2 (c.map cfgE)]]⟩),(1001,⟨false,tsw_,2,[.agg [.arr 1002 0 u.1.length,iv u.2]]⟩),(1002,⟨true,tu_,1,u.1.map byV⟩)]⟩∧
   (c.drop i).foldl cfgW u=c.foldl cfgW w2∧u.1.length+szC (c.drop i)≤maxB) c.length ⟨0,w2,by simp,rfl,rfl,by rw[List.drop_zero];omega⟩ ?_
  rintro I hI n st ⟨i,u,hi,rfl,hu,hs⟩
  simp -implicitDefEqProofs only[go_sem,List.length_map]
  refine⟨fun hlt=>?_,fun hge=>?_⟩
  ·have hlt':i<c.length:=by omega
   obtain⟨x,hx,hm⟩:=as10 hlt'
   have hw:=ws_ hlt' (by omega)
   obtain⟨o1,o2⟩:=hoc x hm
   rw[d10 hx,List.foldl_cons] at hu
   rw[d10 hx,sc12] at hs
   have hc1:=wnh_ (G:=G) u x.1 (by omega)
   have hl1:=nl_ u x.1
   have hc2:=wvh_ (G:=G) (numW u x.1) x.2 o1 o2 (by omega)
   have hl2:=vl_ (numW u x.1) x.2
   unfold cfgW at hu
   generalize v12 (numW u x.1) x.2=u2 at*
   generalize numW u x.1=u1 at*
   have hnx:=hI (n - 1) _ ⟨i+1,u2,by omega,rfl,hu,by omega⟩
   clear hI hn
   obtain⟨y,vs⟩:=x
   simp only[wH,wrB,byB] at hc1 hc2
   repeat' (first|simp -implicitDefEqProofs only[go_sem,am_ hx,cfgE,hw,List.length_map]|refine ag_ (fun hb=>?_) (fun hb=>?_)|refine⟨fun hb=>?_,fun hb=>?_⟩|(refine ac_ [(1001,1001),(1002,1002)] hc1 rfl ⟨⟨_,_,rfl,rfl,rfl⟩,⟨_,_,rfl,rfl,rfl⟩,trivial⟩ rfl rfl rfl ?_)|(refine ac_ [(1001,1001),(1002,1002)] hc2 rfl ⟨⟨_,_,rfl,rfl,rfl⟩,⟨_,_,rfl,rfl,rfl⟩,trivial⟩ rfl rfl rfl ?_)|fail)
   exact aa_ (n - 1) (by omega) hnx
  ·rw[List.drop_eq_nil_of_le (by omega),List.foldl_nil] at hu
   subst hu
   exact fin _ _ ⟨rfl,rfl,trivial⟩
end Go.Proofs.YtkejmcgngblfnaaGreatDoor.Ab
