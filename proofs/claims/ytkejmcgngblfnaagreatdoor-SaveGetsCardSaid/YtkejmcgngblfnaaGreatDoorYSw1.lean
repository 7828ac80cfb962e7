/-
  The writer of chapter 38: wrong, num, val, vals, row. No claim is proved here.
-/
import Derived.Test.YtkejmcgngblfnaaGreatDoorYSk1
namespace Go.Proofs.YtkejmcgngblfnaaGreatDoor.Ab
open Go Go.RowKit
set_option linter.unusedSimpArgs false
set_option maxHeartbeats 4000000
set_option maxRecDepth 100000
variable {G:Nat→Option AV}
def s17 (s:Int×Val):AV:=.agg [iv s.1,iv s.2.kind,iv s.2.int,.str s.2.str,.bool s.2.bool]
def cfgE (c:Int×List Val):AV:=.agg [iv c.1,.seq 4 (c.2.map valV)]
def rowE (r:VRow):AV:=.agg [.seq 5 (r.1.map s17),.seq 2 (r.2.map cfgE)]
def s15 (s:V_):AV:=.agg [iv s.taken,iv s.most,iv s.made,iv s.stopped,.seq 1 (s.doms.map v_),.seq 2 (s.rows.map rowE)]
def wrB (j:Nat) (w:WS):Box:=⟨false,tsw_,2,[.agg [.arr j 0 w.1.length,iv w.2]]⟩
def byB (w:WS):Box:=⟨true,tu_,1,w.1.map byV⟩
def wH (w:WS):List (Nat×Box):=[(1001,wrB 1002 w),(1002,byB w)]
abbrev maxB:Nat:=1099511627776
theorem wwh_ (w:WS) (e:Int):H_ Tryz.prog G nsww_ [.ref 1001 0 0,iv e] (wH w) (.tup []) (wH (w_ w e)):=by
 obtain⟨b,x⟩:=w
 refine hsww_ (R_.of fun Φ h=>?_)
 unfold csww_
 have fin:∀env heap,subH heap (wH (w_ (b,x) e))→Φ ⟨17,env,heap⟩:=fun env heap hh=>h _ ⟨_,_,Weak.refl _,rfl,.refl _,hh.at⟩
 clear h
 unfold w_ at fin
 by_cases h0:x=0
 ·subst h0
  rw[if_pos (Or.inl rfl)] at fin
  unfold wH wrB byB at*
  repeat' (first|simp -implicitDefEqProofs only[go_sem]|refine ag_ (fun hb=>?_) (fun hb=>?_)|refine⟨fun hb=>?_,fun hb=>?_⟩|fail)
  exact fin _ _ ⟨rfl,rfl,trivial⟩
 ·have e0:(x==0)=false:=by simpa using h0
  by_cases h5:e=5
  ·subst h5
   rw[if_pos (Or.inr rfl)] at fin
   unfold wH wrB byB at*
   repeat' (first|simp -implicitDefEqProofs only[go_sem,e0]|refine ag_ (fun hb=>?_) (fun hb=>?_)|refine⟨fun hb=>?_,fun hb=>?_⟩|fail)
   exact fin _ _ ⟨rfl,rfl,trivial⟩
  ·have e5:(e==5)=false:=by simpa using h5
   rw[if_neg (fun hh=>hh.elim h0 h5)] at fin
   unfold wH wrB byB at*
   repeat' (first|simp -implicitDefEqProofs only[go_sem,e0,e5]|refine ag_ (fun hb=>?_) (fun hb=>?_)|refine⟨fun hb=>?_,fun hb=>?_⟩|fail)
   exact fin _ _ ⟨rfl,rfl,trivial⟩
theorem nl_ (w:WS) (n:Int):(numW w n).1.length≤w.1.length+4:=by
 unfold numW
 split
 ·unfold w_;split <;> simp
 ·rw[List.length_append,show (intB n).length=4 from rfl];omega
theorem vl10 (w:WS) (v:Val):(valW w v).1.length≤w.1.length+(k_ v).length:=by
 unfold valW
 split
 ·rw[List.length_append];omega
 ·unfold w_;split <;> simp
theorem wnh_ (w:WS) (n:Int) (hb:w.1.length≤maxB):H_ Tryz.prog G nswn_ [.ref 1001 0 0,iv n] (wH w) (.tup []) (wH (numW w n)):=by
 have hw:=wwh_ (G:=G) w 5
 obtain⟨b,x⟩:=w
 refine hswn_ (R_.of fun Φ h=>?_)
 unfold cswn_
 have fin:∀env heap,subH heap (wH (numW (b,x) n))→Φ ⟨32,env,heap⟩:=fun env heap hh=>h _ ⟨_,_,Weak.refl _,rfl,.refl _,hh.at⟩
 clear h
 by_cases h0:n<0∨2147483647<n
 ·rw[show numW (b,x) n=w_ (b,x) 5 by unfold numW;rw[if_pos h0]] at fin
  generalize w_ (b,x) 5=w' at*
  unfold wH wrB byB at*
  rcases Decidable.em (n<0) with h1 | h1
  ·repeat' (first|simp -implicitDefEqProofs only[go_sem,decide_eq_true h1]|refine ag_ (fun hb=>?_) (fun hb=>?_)|refine⟨fun hb=>?_,fun hb=>?_⟩|(refine ac_ [(1001,1001),(1002,1002)] hw rfl ⟨⟨_,_,rfl,rfl,rfl⟩,⟨_,_,rfl,rfl,rfl⟩,trivial⟩ rfl rfl rfl ?_)|fail)
   exact fin _ _ ⟨rfl,rfl,trivial⟩
  ·have h2:=h0.resolve_left h1
   repeat' (first|simp -implicitDefEqProofs only[go_sem,decide_eq_false h1,decide_eq_true h2]|refine ag_ (fun hb=>?_) (fun hb=>?_)|refine⟨fun hb=>?_,fun hb=>?_⟩|(refine ac_ [(1001,1001),(1002,1002)] hw rfl ⟨⟨_,_,rfl,rfl,rfl⟩,⟨_,_,rfl,rfl,rfl⟩,trivial⟩ rfl rfl rfl ?_)|fail)
   exact fin _ _ ⟨rfl,rfl,trivial⟩
 ·have h1:¬n<0:=fun e=>h0 (.inl e)
  have h2:¬2147483647<n:=fun e=>h0 (.inr e)
  have q:=congrArg (List.map (AV.int .u8)) (fi_ (n:=n) (by omega))
  rw[List.map_map,show (AV.int .u8∘fun b:UInt8=>((b.toNat:Nat):Int))=byV from rfl] at q
  simp only[List.map_cons,List.map_nil] at q
  rw[show numW (b,x) n=(b++intB n,x) by unfold numW;rw[if_neg h0]] at fin
  unfold wH wrB byB at*
  simp only[List.map_append,←q,List.length_append,show (intB n).length=4 from rfl] at fin
  simp only[maxB] at hb
  have hb1:b.length+4≤140737488355328:=by omega
  clear q hw
  repeat' (first|simp -implicitDefEqProofs only[go_sem,decide_eq_false h1,decide_eq_false h2,List.length_map,hb1,Nat.mul_one]|refine ag_ (fun hb=>?_) (fun hb=>?_)|refine⟨fun hb=>?_,fun hb=>?_⟩|fail)
  exact fin _ _ ⟨rfl,rfl,trivial⟩
theorem wv10 (w:WS) (v:Val) (hi:i64 v.int) (hs:v.str.length≤10000) (hb:w.1.length≤maxB):H_ Tryz.prog G ns11 [.ref 1001 0 0,valV v] (wH w) (.tup []) (wH (valW w v)):=by
 have hw:=wwh_ (G:=G) w 8
 have hr:=vRp_ (G:=G) v
 have hk:v.ok=true→P_ Tryz.prog G nkO_ [.seq 4 [valV v]] (.seq 1 ((k_ v).map byV)):=fun hok=>by
  have:=kOp_ (G:=G) [v] (by simp) (fun x hx=>by rw[List.mem_singleton.1 hx];exact⟨hok,hi,hs⟩)
  simpa [v_,b_,k14] using this
 have hkl:=kl10 v
 obtain⟨b,x⟩:=w
 refine hs13 (R_.of fun Φ h=>?_)
 unfold cs12
 have fin:∀env heap,subH heap (wH (valW (b,x) v))→Φ ⟨20,env,heap⟩:=fun env heap hh=>h _ ⟨_,_,Weak.refl _,rfl,.refl _,hh.at⟩
 clear h
 cases hok:v.ok with
 | false=>
  rw[hok] at hr
  rw[show valW (b,x) v=w_ (b,x) 8 by unfold valW;rw[if_neg (by simp [hok])]] at fin
  generalize w_ (b,x) 8=w' at*
  obtain⟨k,n,s,t⟩:=v
  clear hk
  unfold wH wrB byB at*
  simp only[valV] at hr
  repeat' (first|simp -implicitDefEqProofs only[go_sem,valV]|refine ag_ (fun hb=>?_) (fun hb=>?_)|refine⟨fun hb=>?_,fun hb=>?_⟩|refine ac10 hr rfl rfl ?_|(refine ac_ [(1001,1001),(1002,1002)] hw rfl ⟨⟨_,_,rfl,rfl,rfl⟩,⟨_,_,rfl,rfl,rfl⟩,trivial⟩ rfl rfl rfl ?_)|fail)
  exact fin _ _ ⟨rfl,rfl,trivial⟩
 | true=>
  rw[hok] at hr
  have hk:=hk hok
  rw[show valW (b,x) v=(b++k_ v,x) by unfold valW;rw[if_pos hok]] at fin
  simp only[maxB] at hb
  have hb1:b.length+(k_ v).length≤140737488355328:=by omega
  generalize k_ v=y at*
  obtain⟨k,n,s,t⟩:=v
  unfold wH wrB byB at*
  simp only[List.map_append,List.length_append] at fin
  simp only[valV] at hr hk
  clear hw hkl
  repeat' (first|simp -implicitDefEqProofs only[go_sem,valV,List.length_map,hb1,Nat.mul_one]|refine ag_ (fun hb=>?_) (fun hb=>?_)|refine⟨fun hb=>?_,fun hb=>?_⟩|refine ac10 hr rfl rfl ?_|refine ac10 hk rfl rfl ?_|refine al_ hk rfl rfl ?_|(refine And.intro (a:=l13 ..) ?_ ?_)|fail)
  exact fin _ _ ⟨rfl,rfl,trivial⟩
end Go.Proofs.YtkejmcgngblfnaaGreatDoor.Ab
