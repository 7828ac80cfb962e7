/-
  The writer of chapter 38: wrong, num, val, vals, row. The writer of chapter 38: vals, row, save.Put. No claim is proved here.
-/
import Derived.Test.YtkejmcgngblfnaaGreatDoorQSk1
set_option linter.unusedSimpArgs false
set_option maxHeartbeats 4000000
set_option maxRecDepth 100000
namespace Go.Proofs.YtkejmcgngblfnaaGreatDoor.Ab
open Go Go.RowKit
variable {G:Nat→Option AV}
def s12 (s:Int×Val):AV:=.agg [iv s.1,iv s.2.kind,iv s.2.int,.str s.2.str,.bool s.2.bool]
def cfgE (c:Int×List Val):AV:=.agg [iv c.1,.seq 4 (c.2.map valV)]
def rowE (r:VRow):AV:=.agg [.seq 5 (r.1.map s12),.seq 2 (r.2.map cfgE)]
def s14 (s:V_):AV:=.agg [iv s.taken,iv s.most,iv s.made,iv s.stopped,.seq 1 (s.doms.map v_),.seq 2 (s.rows.map rowE)]
def wrB (j:Nat) (w:WS):Box:=⟨false,tsw_,2,[.agg [.arr j 0 w.1.length,iv w.2]]⟩
def byB (w:WS):Box:=⟨true,tu_,1,w.1.map byV⟩
def wH (w:WS):List (Nat×Box):=[(1001,wrB 1002 w),(1002,byB w)]
abbrev maxB:Nat:=1099511627776
theorem wwh_ (w:WS) (e:Int):H_ Tryz.prog G nsww_ [.ref 1001 0 0,iv e] (wH w) (.tup []) (wH (w_ w e)):=by
 obtain⟨b,x⟩:=w
 refine hsww_ (R_.of fun Φ h=>?_)
 unfold csww_
 have fin:∀env heap,subH heap (wH (w_ (b,x) e))→Φ ⟨17,env,heap⟩:=fun env heap hh=>h _ ⟨_,_,Weak.refl _,rfl,.refl _,hh.at⟩
 clear h
 unfold w_ at fin
 by_cases h0:x=0
 ·subst h0
  rw[if_pos (Or.inl rfl)] at fin
  unfold wH wrB byB at*
  repeat' (first|simp -implicitDefEqProofs only[go_sem]|refine ag_ (fun hb=>?_) (fun hb=>?_)|refine⟨fun hb=>?_,fun hb=>?_⟩|fail)
  exact fin _ _ ⟨rfl,rfl,trivial⟩
 ·have e0:(x==0)=false:=by simpa using h0
  by_cases h5:e=5
  ·subst h5
   rw[if_pos (Or.inr rfl)] at fin
   unfold wH wrB byB at*
   repeat' (first|simp -implicitDefEqProofs only[go_sem,e0]|refine ag_ (fun hb=>?_) (fun hb=>?_)|refine⟨fun hb=>?_,fun hb=>?_⟩|fail)
   exact fin _ _ ⟨rfl,rfl,trivial⟩
  ·have e5:(e==5)=false:=by simpa using h5
   rw[if_neg (fun hh=>hh.elim h0 h5)] at fin
   unfold wH wrB byB at*
   repeat' (first|simp -implicitDefEqProofs only[go_sem,e0,e5]|refine ag_ (fun hb=>?_) (fun hb=>?_)|refine⟨fun hb=>?_,fun hb=>?_⟩|fail)
   exact fin _ _ ⟨rfl,rfl,trivial⟩
theorem nl_ (w:WS) (n:Int):(numW w n).1.length≤w.1.length+4:=by
 unfold numW
 split
 ·unfold w_;split <;> simp
 ·rw[List.length_append,show (intB n).length=4 from rfl];omega
theorem vl10 (w:WS) (v:Val):(valW w v).1.length≤w.1.length+(k_ v).length:=by
 unfold valW
 split
 ·rw[List.length_append];omega
 ·unfold w_;split <;> simp
theorem wnh_ (w:WS) (n:Int) (hb:w.1.length≤maxB):H_ Tryz.prog G nswn_ [.ref 1001 0 0,iv n] (wH w) (.tup []) (wH (numW w n)):=by
 have hw:=wwh_ (G:=G) w 5
 obtain⟨b,x⟩:=w
 refine hswn_ (R_.of fun Φ h=>?_)
 unfold cswn_
 have fin:∀env heap,subH heap (wH (numW (b,x) n))→Φ ⟨32,env,heap⟩:=fun env heap hh=>h _ ⟨_,_,Weak.refl _,rfl,.refl _,hh.at⟩
 clear h
 by_cases h0:n<0∨2147483647<n
 ·rw[show numW (b,x) n=w_ (b,x) 5 by unfold numW;rw[if_pos h0]] at fin
  generalize w_ (b,x) 5=w' at*
  unfold wH wrB byB at*
  rcases Decidable.em (n<0) with h1 | h1
  ·repeat' (first|simp -implicitDefEqProofs only[go_sem,decide_eq_true h1]|refine ag_ (fun hb=>?_) (fun hb=>?_)|refine⟨fun hb=>?_,fun hb=>?_⟩|(refine ac_ [(1001,1001),(1002,1002)] hw rfl ⟨⟨_,_,rfl,rfl,rfl⟩,⟨_,_,rfl,rfl,rfl⟩,trivial⟩ rfl rfl rfl ?_)|fail)
   exact fin _ _ ⟨rfl,rfl,trivial⟩
  ·have h2:=h0.resolve_left h1
   repeat' (first|simp -implicitDefEqProofs only[go_sem,decide_eq_false h1,decide_eq_true h2]|refine ag_ (fun hb=>?_) (fun hb=>?_)|refine⟨fun hb=>?_,fun hb=>?_⟩|(refine ac_ [(1001,1001),(1002,1002)] hw rfl ⟨⟨_,_,rfl,rfl,rfl⟩,⟨_,_,rfl,rfl,rfl⟩,trivial⟩ rfl rfl rfl ?_)|fail)
   exact fin _ _ ⟨rfl,rfl,trivial⟩
 ·have h1:¬n<0:=fun e=>h0 (.inl e)
  have h2:¬2147483647<n:=fun e=>h0 (.inr e)
  have q:=congrArg (List.map (AV.int .u8)) (fi_ (n:=n) (by omega))
  rw[List.map_map,show (AV.int .u8∘fun b:UInt8=>((b.toNat:Nat):Int))=byV from rfl] at q
  simp only[List.map_cons,List.map_nil] at q
  rw[show numW (b,x) n=(b++intB n,x) by unfold numW;rw[if_neg h0]] at fin
  unfold wH wrB byB at*
  simp only[List.map_append,←q,List.length_append,show (intB n).length=4 from rfl] at fin
  simp only[maxB] at hb
  have hb1:b.length+4≤140737488355328:=by omega
  clear q hw
  repeat' (first|simp -implicitDefEqProofs only[go_sem,decide_eq_false h1,decide_eq_false h2,List.length_map,hb1,Nat.mul_one]|refine ag_ (fun hb=>?_) (fun hb=>?_)|refine⟨fun hb=>?_,fun hb=>?_⟩|fail)
  exact fin _ _ ⟨rfl,rfl,trivial⟩
theorem wv10 (w:WS) (v:Val) (hi:i64 v.int) (hs:v.str.length≤10000) (hb:w.1.length≤maxB):H_ Tryz.prog G ns11 [.ref 1001 0 0,valV v] (wH w) (.tup []) (wH (valW w v)):=by
 have hw:=wwh_ (G:=G) w 8
 have hr:=vRp_ (G:=G) v
 have hk:v.ok=true→P_ Tryz.prog G nkO_ [.seq 4 [valV v]] (.seq 1 ((k_ v).map byV)):=fun hok=>by
  have:=kOp_ (G:=G) [v] (by simp) (fun x hx=>by rw[List.mem_singleton.1 hx];exact⟨hok,hi,hs⟩)
  simpa [v_,b10,k14] using this
 have hkl:=kl_ v
 obtain⟨b,x⟩:=w
 refine hs13 (R_.of fun Φ h=>?_)
 unfold cs12
 have fin:∀env heap,subH heap (wH (valW (b,x) v))→Φ ⟨20,env,heap⟩:=fun env heap hh=>h _ ⟨_,_,Weak.refl _,rfl,.refl _,hh.at⟩
 clear h
 cases hok:v.ok with
 | false=>
  rw[hok] at hr
  rw[show valW (b,x) v=w_ (b,x) 8 by unfold valW;rw[if_neg (by simp [hok])]] at fin
  generalize w_ (b,x) 8=w' at*
  obtain⟨k,n,s,t⟩:=v
  clear hk
  unfold wH wrB byB at*
  simp only[valV] at hr
  repeat' (first|simp -implicitDefEqProofs only[go_sem,valV]|refine ag_ (fun hb=>?_) (fun hb=>?_)|refine⟨fun hb=>?_,fun hb=>?_⟩|refine ac10 hr rfl rfl ?_|(refine ac_ [(1001,1001),(1002,1002)] hw rfl ⟨⟨_,_,rfl,rfl,rfl⟩,⟨_,_,rfl,rfl,rfl⟩,trivial⟩ rfl rfl rfl ?_)|fail)
  exact fin _ _ ⟨rfl,rfl,trivial⟩
 | true=>
  rw[hok] at hr
  have hk:=hk hok
  rw[show valW (b,x) v=(b++k_ v,x) by unfold valW;rw[if_pos hok]] at fin
  simp only[maxB] at hb
  have hb1:b.length+(k_ v).length≤140737488355328:=by omega
  generalize k_ v=y at*
  obtain⟨k,n,s,t⟩:=v
  unfold wH wrB byB at*
  simp only[List.map_append,List.length_append] at fin
  simp only[valV] at hr hk
  clear hw hkl
  repeat' (first|simp -implicitDefEqProofs only[go_sem,valV,List.length_map,hb1,Nat.mul_one]|refine ag_ (fun hb=>?_) (fun hb=>?_)|refine⟨fun hb=>?_,fun hb=>?_⟩|refine ac10 hr rfl rfl ?_|refine ac10 hk rfl rfl ?_|refine al10 hk rfl rfl ?_|(refine And.intro (a:=l13 ..) ?_ ?_)|fail)
  exact fin _ _ ⟨rfl,rfl,trivial⟩
end Go.Proofs.YtkejmcgngblfnaaGreatDoor.Ab
namespace Go.Proofs.YtkejmcgngblfnaaGreatDoor.Ab
open Go Go.RowKit
variable {G:Nat→Option AV}
theorem d10 {α:Type} {l:List α} {i:Nat} {x:α} (h:l[i]? =some x):l.drop i=x::l.drop (i+1):=by
 obtain⟨h1,rfl⟩:=List.getElem?_eq_some_iff.1 h
 exact List.drop_eq_getElem_cons h1
def WOk (v:Val):Prop:=i64 v.int∧v.str.length≤10000
def szV (l:List Val):Nat:=(l.flatMap k_).length
theorem sc10 (v:Val) (l:List Val):szV (v::l)=(k_ v).length+szV l:=by simp [szV]
theorem wvh_ (w:WS) (l:List Val) (hl:l.length≤1000000) (hok:∀v∈l,WOk v) (hb:w.1.length+4+szV l≤maxB):H_ Tryz.prog G nswv_ [.ref 1001 0 0,.seq 4 (l.map valV)] (wH w) (.tup []) (wH (v12 w l)):=by
 have hn:=wnh_ (G:=G) w l.length (by omega)
 have hnl:=nl_ w l.length
 refine hswv_ (R_.of fun Φ h=>?_)
 unfold cswv_
 have fin:∀env heap,subH heap (wH (v12 w l))→Φ ⟨20,env,heap⟩:=fun env heap hh=>h _ ⟨_,_,Weak.refl _,rfl,.refl _,hh.at⟩
 clear h
 unfold v12 at fin
 generalize numW w l.length=w1 at*
 unfold wH wrB byB at*
 repeat' (first|simp -implicitDefEqProofs only[go_sem,List.length_map]|refine ag_ (fun hb=>?_) (fun hb=>?_)|refine⟨fun hb=>?_,fun hb=>?_⟩|(refine ac_ [(1001,1001),(1002,1002)] hn rfl ⟨⟨_,_,rfl,rfl,rfl⟩,⟨_,_,rfl,rfl,rfl⟩,trivial⟩ rfl rfl rfl ?_)|fail)
 refine al_ (fun n st=>∃(i:Nat) (u:WS),i+n=l.length∧st=⟨20,[(0,.ref 1001 0 0),(10,.seq 4 (l.map valV)),(11,iv l.length),(12,iv i)],[(1001,⟨false,tsw_,2,[.agg [.arr 1002 0 u.1.length,iv u.2]]⟩),(1002,⟨true,tu_,1,u.1.map byV⟩)]⟩∧
  (l.drop i).foldl valW u=l.foldl valW w1∧u.1.length+szV (l.drop i)≤maxB) l.length ⟨0,w1,by simp,rfl,rfl,by rw[List.drop_zero];omega⟩ ?_
 rintro I hI n st ⟨i,u,hi,rfl,hu,hs⟩
 simp -implicitDefEqProofs only[go_sem,List.length_map]
 refine⟨fun hlt=>?_,fun hge=>?_⟩
 ·have hlt':i<l.length:=by omega
  obtain⟨v,hv,hm⟩:=as10 hlt'
  have hw:=ws_ hlt' (by omega)
  obtain⟨o1,o2⟩:=hok v hm
  rw[d10 hv,List.foldl_cons] at hu
  rw[d10 hv,sc10] at hs
  have hc:=wv10 (G:=G) u v o1 o2 (by omega)
  have hlen:=vl10 u v
  generalize valW u v=u1 at*
  have hnx:=hI (n - 1) _ ⟨i+1,u1,by omega,rfl,hu,by omega⟩
  clear hI hn
  obtain⟨k,m,s,t⟩:=v
  simp only[wH,wrB,byB,valV] at hc
  repeat' (first|simp -implicitDefEqProofs only[go_sem,am_ hv,valV,hw,List.length_map]|refine ag_ (fun hb=>?_) (fun hb=>?_)|refine⟨fun hb=>?_,fun hb=>?_⟩|(refine ac_ [(1001,1001),(1002,1002)] hc rfl ⟨⟨_,_,rfl,rfl,rfl⟩,⟨_,_,rfl,rfl,rfl⟩,trivial⟩ rfl rfl rfl ?_)|fail)
  exact aa_ (n - 1) (by omega) hnx
 ·rw[List.drop_eq_nil_of_le (by omega),List.foldl_nil] at hu
  subst hu
  exact fin _ _ ⟨rfl,rfl,trivial⟩
def szS (l:List (Int×Val)):Nat:=(l.flatMap s21).length
def szC (l:List (Int×List Val)):Nat:=(l.flatMap cfgB).length
theorem sc11 (s:Int×Val) (l:List (Int×Val)):szS (s::l)=4+(k_ s.2).length+szS l:=by
 simp only[szS,List.flatMap_cons,List.length_append,s21,show (intB s.1).length=4 from rfl]
theorem sc12 (c:Int×List Val) (l:List (Int×List Val)):szC (c::l)=8+szV c.2+szC l:=by
 simp only[szC,szV,List.flatMap_cons,List.length_append,cfgB,l10,show (intB c.1).length=4 from rfl,fl_]
 omega
theorem vl_:∀(w:WS) (l:List Val),(v12 w l).1.length≤w.1.length+4+szV l:=fun w l=>by
 unfold v12
 have h0:=nl_ w l.length
 generalize numW w l.length=u at*
 have go:∀(l:List Val) (u:WS),(l.foldl valW u).1.length≤u.1.length+szV l:=by
  intro l
  induction l with
  | nil=>intro u;simp
  | cons v l ih=>
   intro u
   rw[List.foldl_cons,sc10]
   have:=ih (valW u v)
   have:=vl10 u v
   omega
 have:=go l u
 omega
def RWOk (r:VRow):Prop:=r.1.length≤1000000∧r.2.length≤1000000∧(∀s∈r.1,WOk s.2)∧∀c∈r.2,c.2.length≤1000000∧∀v∈c.2,WOk v
def szR (r:VRow):Nat:=8+szS r.1+szC r.2
theorem wrh_ (w:WS) (r:VRow) (hok:RWOk r) (hb:w.1.length+szR r≤maxB):H_ Tryz.prog G nswr_ [.ref 1001 0 0,rowE r] (wH w) (.tup []) (wH (rowW w r)):=by
 obtain⟨a,c⟩:=r
 obtain⟨ha,hc,hoa,hoc⟩:=hok
 simp only[szR] at ha hc hoa hoc hb
 have hn:=wnh_ (G:=G) w a.length (by omega)
 have hnl:=nl_ w a.length
 refine hswr_ (R_.of fun Φ h=>?_)
 unfold cswr_
 have fin:∀env heap,subH heap (wH (rowW w (a,c)))→Φ ⟨50,env,heap⟩:=fun env heap hh=>h _ ⟨_,_,Weak.refl _,rfl,.refl _,hh.at⟩
 clear h
 unfold rowW at fin
 simp only at fin
 generalize numW w a.length=w1 at*
 unfold wH wrB byB at*
 repeat' (first|simp -implicitDefEqProofs only[go_sem,rowE,List.length_map]|refine ag_ (fun hb=>?_) (fun hb=>?_)|refine⟨fun hb=>?_,fun hb=>?_⟩|(refine ac_ [(1001,1001),(1002,1002)] hn rfl ⟨⟨_,_,rfl,rfl,rfl⟩,⟨_,_,rfl,rfl,rfl⟩,trivial⟩ rfl rfl rfl ?_)|fail)
 refine al_ (fun n st=>∃(i:Nat) (u:WS),i+n=a.length∧st=⟨50,[(0,.ref 1001 0 0),(3,.ref 3 0 0),(14,.seq 5 (a.map s12)),(15,iv a.length),(16,iv i)],[(3,⟨false,taR_,2,[.agg [.seq 5 (a.map s12),.seq 2 (c.map cfgE)]]⟩),(1001,⟨false,tsw_,2,[.agg [.arr 1002 0 u.1.length,iv u.2]]⟩),(1002,⟨true,tu_,1,u.1.map byV⟩)]⟩∧
  (a.drop i).foldl s23 u=a.foldl s23 w1∧u.1.length+szS (a.drop i)+4+szC c≤maxB) a.length ⟨0,w1,by simp,rfl,rfl,by rw[List.drop_zero];omega⟩ ?_
 rintro I hI n st ⟨i,u,hi,rfl,hu,hs⟩
 simp -implicitDefEqProofs only[go_sem,List.length_map]
 refine⟨fun hlt=>?_,fun hge=>?_⟩
 ·have hlt':i<a.length:=by omega
  obtain⟨x,hx,hm⟩:=as10 hlt'
  have hw:=ws_ hlt' (by omega)
  obtain⟨o1,o2⟩:=hoa x hm
  rw[d10 hx,List.foldl_cons] at hu
  rw[d10 hx,sc11] at hs
  have hc1:=wnh_ (G:=G) u x.1 (by omega)
  have hl1:=nl_ u x.1
  have hc2:=wv10 (G:=G) (numW u x.1) x.2 o1 o2 (by omega)
  have hl2:=vl10 (numW u x.1) x.2
  unfold s23 at hu
  generalize valW (numW u x.1) x.2=u2 at*
  generalize numW u x.1=u1 at*
  have hnx:=hI (n - 1) _ ⟨i+1,u2,by omega,rfl,hu,by omega⟩
  clear hI hn
  obtain⟨y,⟨k,m,s,t⟩⟩:=x
  simp only[wH,wrB,byB,valV] at hc1 hc2
  repeat' (first|simp -implicitDefEqProofs only[go_sem,am_ hx,s12,hw,List.length_map]|refine ag_ (fun hb=>?_) (fun hb=>?_)|refine⟨fun hb=>?_,fun hb=>?_⟩|(refine ac_ [(1001,1001),(1002,1002)] hc1 rfl ⟨⟨_,_,rfl,rfl,rfl⟩,⟨_,_,rfl,rfl,rfl⟩,trivial⟩ rfl rfl rfl ?_)|(refine ac_ [(1001,1001),(1002,1002)] hc2 rfl ⟨⟨_,_,rfl,rfl,rfl⟩,⟨_,_,rfl,rfl,rfl⟩,trivial⟩ rfl rfl rfl ?_)|fail)
  exact aa_ (n - 1) (by omega) hnx
 ·rw[List.drop_eq_nil_of_le (by omega),List.foldl_nil] at hu
  rw[List.drop_eq_nil_of_le (by omega)] at hs
  have hs:u.1.length+4+szC c≤maxB:=by have:szS []=0:=rfl;omega
  rw[←hu] at fin
  clear hu hI hn hnl
  have hn:=wnh_ (G:=G) u c.length (by omega)
  have hnl:=nl_ u c.length
  generalize numW u c.length=w2 at*
  simp only[wH,wrB,byB] at hn
  repeat' (first|simp -implicitDefEqProofs only[go_sem,List.length_map]|refine ag_ (fun hb=>?_) (fun hb=>?_)|refine⟨fun hb=>?_,fun hb=>?_⟩|(refine ac_ [(1001,1001),(1002,1002)] hn rfl ⟨⟨_,_,rfl,rfl,rfl⟩,⟨_,_,rfl,rfl,rfl⟩,trivial⟩ rfl rfl rfl ?_)|fail)
  refine al_ (fun n st=>∃(i:Nat) (u:WS),i+n=c.length∧st=⟨50,[(0,.ref 1001 0 0),(35,.seq 2 (c.map cfgE)),(36,iv c.length),(37,iv i)],[(3,⟨false,taR_,2,[.agg [.seq 5 (a.map s12),.seq 2 (c.map cfgE)]]⟩),(1001,⟨false,tsw_,2,[.agg [.arr 1002 0 u.1.length,iv u.2]]⟩),(1002,⟨true,tu_,1,u.1.map byV⟩)]⟩∧
   (c.drop i).foldl cfgW u=c.foldl cfgW w2∧u.1.length+szC (c.drop i)≤maxB) c.length ⟨0,w2,by simp,rfl,rfl,by rw[List.drop_zero];omega⟩ ?_
  rintro I hI n st ⟨i,u,hi,rfl,hu,hs⟩
  simp -implicitDefEqProofs only[go_sem,List.length_map]
  refine⟨fun hlt=>?_,fun hge=>?_⟩
  ·have hlt':i<c.length:=by omega
   obtain⟨x,hx,hm⟩:=as10 hlt'
   have hw:=ws_ hlt' (by omega)
   obtain⟨o1,o2⟩:=hoc x hm
   rw[d10 hx,List.foldl_cons] at hu
   rw[d10 hx,sc12] at hs
   have hc1:=wnh_ (G:=G) u x.1 (by omega)
   have hl1:=nl_ u x.1
   have hc2:=wvh_ (G:=G) (numW u x.1) x.2 o1 o2 (by omega)
   have hl2:=vl_ (numW u x.1) x.2
   unfold cfgW at hu
   generalize v12 (numW u x.1) x.2=u2 at*
   generalize numW u x.1=u1 at*
   have hnx:=hI (n - 1) _ ⟨i+1,u2,by omega,rfl,hu,by omega⟩
   clear hI hn
   obtain⟨y,vs⟩:=x
   simp only[wH,wrB,byB] at hc1 hc2
   repeat' (first|simp -implicitDefEqProofs only[go_sem,am_ hx,cfgE,hw,List.length_map]|refine ag_ (fun hb=>?_) (fun hb=>?_)|refine⟨fun hb=>?_,fun hb=>?_⟩|(refine ac_ [(1001,1001),(1002,1002)] hc1 rfl ⟨⟨_,_,rfl,rfl,rfl⟩,⟨_,_,rfl,rfl,rfl⟩,trivial⟩ rfl rfl rfl ?_)|(refine ac_ [(1001,1001),(1002,1002)] hc2 rfl ⟨⟨_,_,rfl,rfl,rfl⟩,⟨_,_,rfl,rfl,rfl⟩,trivial⟩ rfl rfl rfl ?_)|fail)
   exact aa_ (n - 1) (by omega) hnx
  ·rw[List.drop_eq_nil_of_le (by omega),List.foldl_nil] at hu
   subst hu
   exact fin _ _ ⟨rfl,rfl,trivial⟩
end Go.Proofs.YtkejmcgngblfnaaGreatDoor.Ab
