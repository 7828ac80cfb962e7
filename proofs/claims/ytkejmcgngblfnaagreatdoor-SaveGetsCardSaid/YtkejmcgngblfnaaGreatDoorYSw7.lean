/-
  The reader of chapter 38: all that a monitor has; save.Get (by program: mksw7.py). No claim is proved here.
-/
import Derived.Test.YtkejmcgngblfnaaGreatDoorYSw6
namespace Go.Proofs.YtkejmcgngblfnaaGreatDoor.Ab
open Go Go.RowKit
set_option linter.unusedSimpArgs false
set_option maxHeartbeats 8000000
set_option maxRecDepth 100000
variable {G:Nat→Option AV}
theorem nb_ {b:Str} {k:Nat} (h:(n10 b k).2.1=false):(n10 b k).1=0:=by
 unfold n10 at h ⊢
 cases hv:intP (b.drop k) with
 | none=>rfl
 | some x=>rw[hv] at h;cases h
theorem lb_ {α:Type} {b:Str} {u:RdF α} {k:Nat} (h:(l_ b u k).2.1=false):(l_ b u k).1=[]:=by
 unfold l_ at h ⊢
 split at h
 ·rename_i h1
  rw[if_pos h1]
  split at h
  ·rename_i h2;rw[if_pos h2]
  ·rename_i h2;rw[if_neg h2];exact tn_ _ _ h
 ·rename_i h1;rw[if_neg h1]
theorem rsh_ {e:Nat×Nat} (hE:ErrG G e) (b:Str) (hb:b.length≤maxB):H_ Tryz.prog G ns12 [rdr] (plH b 0) (outE e (s15 (s12 b).1) (s12 b).2) []:=by
 have hr:=prh_ (G:=G) b 0 (Nat.zero_le _)
 rw[List.drop_zero] at hr
 refine hsrs_ (R_.of fun Φ h=>?_)
 unfold csrs_
 have fin:∀st (bx:Box) cs (x:V_) (ok:Bool),s12 b=(x,ok)→hget st.heap 2=some bx→bx=⟨false,taS_,6,[.agg cs]⟩→FitL cs [iv x.taken,iv x.most,iv x.made,iv x.stopped,.seq 1 (x.doms.map v_),.seq 2 (x.rows.map rowE)]→
   r12 {st with heap:=hset st.heap 2 ⟨false,taS_,6,[.agg [iv x.taken,iv x.most,iv x.made,iv x.stopped,.seq 1 (x.doms.map v_),.seq 2 (x.rows.map rowE)]]⟩} [.cells 2 6,.t 3]=some [s15 x,if ok then .nili else errA e]→Φ st:=fun st bx cs x ok hh hi hbx hf hv=>by
  rw[hh] at h
  subst hbx
  exact h _ ⟨_,_,wc_ hi rfl (Nat.lt_of_sub_eq_succ rfl) hf,hv,.refl _,fun i b hib=>by cases hib⟩
 clear h
 unfold ErrG at hE
 simp only[plH,plB,errA] at*
 by_cases hne:b=[]
 ·subst hne
  have e1:(((0:Nat):Int)==0)=true:=rfl
  repeat' (first|simp -implicitDefEqProofs only[go_sem,hE,e1,List.length_map]|refine ag_ (fun hb=>?_) (fun hb=>?_)|refine⟨fun hb=>?_,fun hb=>?_⟩|(refine ac_ [(1003,1003)] hr rfl ⟨⟨_,_,rfl,rfl,rfl⟩,trivial⟩ rfl rfl rfl ?_)|fail)
  exact fin _ _ [iv 0,iv 0,iv 0,iv 0,.nils,.nils] V_.none false rfl rfl rfl ⟨.refl _,.refl _,.refl _,.refl _,.nil _,.nil _,trivial⟩ rfl
 obtain⟨c,r,rfl⟩:=List.exists_cons_of_ne_nil hne
 have e1:(((r.length+1:Nat):Int)==0)=false:=by simp;omega
 have a0:∀H,a10 H 1 (.seq 1 (byV c::r.map byV)) (.int .i64 0)=some (.eptr (byV c) 0):=fun H=>rfl
 have hr':=hr
 rw[List.map_cons] at hr'
 by_cases hc:¬c=81
 ·have hs:s12 (c::r)=(V_.none,false):=by
   unfold s12
   rw[if_pos (by simpa using hc)]
  have e2:((c.toNat:Int) != 81)=true:=by
   have:=bn_ (k:=81) (by decide) hc
   simpa using this
  simp only[byV] at a0
  repeat' (first|simp -implicitDefEqProofs only[go_sem,hE,e1,e2,a0,byV,List.map_cons,List.length_map]|refine ag_ (fun hb=>?_) (fun hb=>?_)|refine⟨fun hb=>?_,fun hb=>?_⟩|(refine ac_ [(1003,1003)] hr rfl ⟨⟨_,_,rfl,rfl,rfl⟩,trivial⟩ rfl rfl rfl ?_)|fail)
  exact fin _ _ [iv 0,iv 0,iv 0,iv 0,.nils,.nils] V_.none false hs rfl rfl ⟨.refl _,.refl _,.refl _,.refl _,.nil _,.nil _,trivial⟩ rfl
 obtain rfl:c=81:=Decidable.not_not.1 hc
 clear hc hne
 have e2:((((81:UInt8).toNat:Nat):Int) != 81)=false:=rfl
 simp only[byV] at a0
 generalize hbe:(81:UInt8)::r=b at*
 have hl1:1≤b.length:=by rw[←hbe];simp
 have hn0:=rnh_ (G:=G) (e:=e) hE b 1 hl1 hb
 have hq0:=nl10 (b:=b) (k:=1) hl1
 have hz0:=nb_ (b:=b) (k:=1)
 generalize hx0:n10 b 1=y at*
 obtain⟨x0,ok0,q2⟩:=y
 simp only[outE] at hn0 hq0 hz0
 have hn1:=rnh_ (G:=G) (e:=e) hE b q2 hq0 hb
 have hq1:=nl10 (b:=b) (k:=q2) hq0
 have hz1:=nb_ (b:=b) (k:=q2)
 generalize hx1:n10 b q2=y at*
 obtain⟨x1,ok1,q3⟩:=y
 simp only[outE] at hn1 hq1 hz1
 have hn2:=rnh_ (G:=G) (e:=e) hE b q3 hq1 hb
 have hq2:=nl10 (b:=b) (k:=q3) hq1
 have hz2:=nb_ (b:=b) (k:=q3)
 generalize hx2:n10 b q3=y at*
 obtain⟨x2,ok2,q4⟩:=y
 simp only[outE] at hn2 hq2 hz2
 have hn3:=rnh_ (G:=G) (e:=e) hE b q4 hq2 hb
 have hq3:=nl10 (b:=b) (k:=q4) hq2
 have hz3:=nb_ (b:=b) (k:=q4)
 generalize hx3:n10 b q4=y at*
 obtain⟨x3,ok3,q5⟩:=y
 simp only[outE] at hn3 hq3 hz3
 have hd:=lV10 (G:=G) (e:=e) hE b q5 hq3 hb
 have hqd:=(i16 b).list.list q5 hq3
 have hzd:=lb_ (b:=b) (u:=l_ b (valR b)) (k:=q5)
 generalize hxd:l_ b (l_ b (valR b)) q5=y at*
 obtain⟨ds,okd,qd⟩:=y
 simp only[outE] at hd hqd hzd
 have hw:=lRh_ (G:=G) (e:=e) hE b qd hqd hb
 have hqr:=(i18 b).list qd hqd
 have hzr:=lb_ (b:=b) (u:=rowR b) (k:=qd)
 generalize hxr:l_ b (rowR b) qd=y at*
 obtain⟨rs,okr,qr⟩:=y
 simp only[outE] at hw hqr hzr
 have hend:=prh_ (G:=G) b qr hqr
 have hs:s12 b=if ok0=false then (⟨x0,0,0,0,[],[]⟩,false) else if ok1=false then (⟨x0,x1,0,0,[],[]⟩,false) else if ok2=false then (⟨x0,x1,x2,0,[],[]⟩,false) else if ok3=false then (⟨x0,x1,x2,0,[],[]⟩,false) else
   if okd=false then (⟨x0,x1,x2,x3,ds,[]⟩,false) else if okr=false then (⟨x0,x1,x2,x3,ds,rs⟩,false) else (⟨x0,x1,x2,x3,ds,rs⟩,decide (qr=b.length)):=by
  unfold s12
  rw[if_neg (by rw[←hbe];simp)]
  simp only[hx0,hx1,hx2,hx3,hxd,hxr]
 clear hx0 hx1 hx2 hx3 hxd hxr
 rw[hs] at fin
 clear hs
 simp only[plH,plB,errA,List.cons_append,List.nil_append] at*
 have w1:IntKind.i64.wrap 1=1:=rfl
 have w2:IntKind.i64.wrap 2=2:=rfl
 have w3:IntKind.i64.wrap 3=3:=rfl
 have w4:IntKind.i64.wrap 4=4:=rfl
 have bx:(b.map byV)= .int .u8 (((81:UInt8).toNat:Nat):Int)::r.map byV:=by rw[←hbe];rfl
 have hbl:(b.length:Int)=((r.length+1:Nat):Int):=by rw[←hbe];rfl
 have e1':((b.length:Int)==0)=false:=by rw[hbl];exact e1
 have a0':∀H,a10 H 1 (.seq 1 (b.map byV)) (.int .i64 0)=some (.eptr (.int .u8 (((81:UInt8).toNat:Nat):Int)) 0):=fun H=>by rw[bx];exact a0 H
 clear a0 e1 bx hbl hbe hr'
 repeat' (first|simp -implicitDefEqProofs only[go_sem,hE,e1',e2,a0',w1,List.length_map]|refine ag_ (fun hb=>?_) (fun hb=>?_)|refine⟨fun hb=>?_,fun hb=>?_⟩|(refine ac_ [(1003,1003)] hr rfl ⟨⟨_,_,rfl,rfl,rfl⟩,trivial⟩ rfl rfl rfl ?_)|fail)
 refine al10 (fun n st=>(n=4∧st=⟨84,[(1,.ref 1 0 0),(2,.ref 2 0 0),(4,.ref 4 0 0),(33,.arr 33 0 4),(34,iv 4),(35,iv 0)],[(1,⟨false,tsr_,1,[rdr]⟩),(2,⟨false,taS_,6,[.agg [iv 0,iv 0,iv 0,iv 0,.nils,.nils]]⟩),(4,⟨false,ti_,1,[iv 0]⟩),(33,⟨false,tP_,1,[.ref 2 0 0,.ref 2 0 1,.ref 2 0 2,.ref 4 0 0]⟩),(1003,⟨false,tsp_,2,[.agg [.seq 1 (b.map byV),iv 1]]⟩)]⟩)∨(n=3∧ok0=true∧st=⟨84,[(1,.ref 1 0 0),(2,.ref 2 0 0),(4,.ref 4 0 0),(33,.arr 33 0 4),(34,iv 4),(35,iv 1)],[(1,⟨false,tsr_,1,[rdr]⟩),(2,⟨false,taS_,6,[.agg [iv x0,iv 0,iv 0,iv 0,.nils,.nils]]⟩),(4,⟨false,ti_,1,[iv 0]⟩),(33,⟨false,tP_,1,[.ref 2 0 0,.ref 2 0 1,.ref 2 0 2,.ref 4 0 0]⟩),(1003,⟨false,tsp_,2,[.agg [.seq 1 (b.map byV),iv q2]]⟩)]⟩)∨(n=2∧ok0=true∧ok1=true∧st=⟨84,[(1,.ref 1 0 0),(2,.ref 2 0 0),(4,.ref 4 0 0),(33,.arr 33 0 4),(34,iv 4),(35,iv 2)],[(1,⟨false,tsr_,1,[rdr]⟩),(2,⟨false,taS_,6,[.agg [iv x0,iv x1,iv 0,iv 0,.nils,.nils]]⟩),(4,⟨false,ti_,1,[iv 0]⟩),(33,⟨false,tP_,1,[.ref 2 0 0,.ref 2 0 1,.ref 2 0 2,.ref 4 0 0]⟩),(1003,⟨false,tsp_,2,[.agg [.seq 1 (b.map byV),iv q3]]⟩)]⟩)∨(n=1∧ok0=true∧ok1=true∧ok2=true∧st=⟨84,[(1,.ref 1 0 0),(2,.ref 2 0 0),(4,.ref 4 0 0),(33,.arr 33 0 4),(34,iv 4),(35,iv 3)],[(1,⟨false,tsr_,1,[rdr]⟩),(2,⟨false,taS_,6,[.agg [iv x0,iv x1,iv x2,iv 0,.nils,.nils]]⟩),(4,⟨false,ti_,1,[iv 0]⟩),(33,⟨false,tP_,1,[.ref 2 0 0,.ref 2 0 1,.ref 2 0 2,.ref 4 0 0]⟩),(1003,⟨false,tsp_,2,[.agg [.seq 1 (b.map byV),iv q4]]⟩)]⟩)∨(n=0∧ok0=true∧ok1=true∧ok2=true∧ok3=true∧st=⟨84,[(1,.ref 1 0 0),(2,.ref 2 0 0),(4,.ref 4 0 0),(33,.arr 33 0 4),(34,iv 4),(35,iv 4)],[(1,⟨false,tsr_,1,[rdr]⟩),(2,⟨false,taS_,6,[.agg [iv x0,iv x1,iv x2,iv 0,.nils,.nils]]⟩),(4,⟨false,ti_,1,[iv x3]⟩),(33,⟨false,tP_,1,[.ref 2 0 0,.ref 2 0 1,.ref 2 0 2,.ref 4 0 0]⟩),(1003,⟨false,tsp_,2,[.agg [.seq 1 (b.map byV),iv q5]]⟩)]⟩)) 4 (.inl ⟨rfl,rfl⟩) ?_
 rintro I hI n st (⟨rfl,rfl⟩ | ⟨rfl,rfl,rfl⟩ | ⟨rfl,rfl,rfl,rfl⟩ | ⟨rfl,rfl,rfl,rfl,rfl⟩ | ⟨rfl,rfl,rfl,rfl,rfl,rfl⟩)
 ·have ad:∀(H:List (Nat×Box)),hget H 33=some ⟨false,tP_,1,[.ref 2 0 0,.ref 2 0 1,.ref 2 0 2,.ref 4 0 0]⟩→a10 H 1 (.arr 33 0 4) (.int .i64 0)=some (.ref 33 0 0):=fun H h1=>by
   show (match hget H 33 with | some b=>if b.sz=1∧0≤(0:Int)∧(0:Int)<(4:Nat) then some (AV.ref 33 (0+(0:Int).toNat) 0) else none | none=>none)=_
   rw[h1]
   simp
  try simp only[if_true,Bool.true_eq_false,if_false] at fin
  cases ok0 with
  | false=>
   simp only[if_true,if_false,Bool.false_eq_true] at fin hn0
   obtain rfl:=hz0 rfl
   repeat' (first|simp -implicitDefEqProofs only[go_sem,hE,ad,w1,w2,w3,w4]|refine ag_ (fun hb=>?_) (fun hb=>?_)|refine⟨fun hb=>?_,fun hb=>?_⟩|(refine ac_ [(1003,1003)] hn0 rfl ⟨⟨_,_,rfl,rfl,rfl⟩,trivial⟩ rfl rfl rfl ?_)|fail)
   exact fin _ _ [iv 0,iv 0,iv 0,iv 0,.nils,.nils] _ false rfl rfl rfl ⟨.refl _,.refl _,.refl _,.refl _,.nil _,.nil _,trivial⟩ rfl
  | true=>
   simp only[if_true] at hn0
   have hnx:=hI 3 _ (.inr (.inl ⟨rfl,rfl,rfl⟩))
   repeat' (first|simp -implicitDefEqProofs only[go_sem,hE,ad,w1,w2,w3,w4]|refine ag_ (fun hb=>?_) (fun hb=>?_)|refine⟨fun hb=>?_,fun hb=>?_⟩|(refine ac_ [(1003,1003)] hn0 rfl ⟨⟨_,_,rfl,rfl,rfl⟩,trivial⟩ rfl rfl rfl ?_)|fail)
   exact aa_ 3 (by omega) hnx
 ·have ad:∀(H:List (Nat×Box)),hget H 33=some ⟨false,tP_,1,[.ref 2 0 0,.ref 2 0 1,.ref 2 0 2,.ref 4 0 0]⟩→a10 H 1 (.arr 33 0 4) (.int .i64 1)=some (.ref 33 1 0):=fun H h1=>by
   show (match hget H 33 with | some b=>if b.sz=1∧0≤(1:Int)∧(1:Int)<(4:Nat) then some (AV.ref 33 (0+(1:Int).toNat) 0) else none | none=>none)=_
   rw[h1]
   simp
  try simp only[if_true,Bool.true_eq_false,if_false] at fin
  cases ok1 with
  | false=>
   simp only[if_true,if_false,Bool.false_eq_true] at fin hn1
   obtain rfl:=hz1 rfl
   repeat' (first|simp -implicitDefEqProofs only[go_sem,hE,ad,w1,w2,w3,w4]|refine ag_ (fun hb=>?_) (fun hb=>?_)|refine⟨fun hb=>?_,fun hb=>?_⟩|(refine ac_ [(1003,1003)] hn1 rfl ⟨⟨_,_,rfl,rfl,rfl⟩,trivial⟩ rfl rfl rfl ?_)|fail)
   exact fin _ _ [iv x0,iv 0,iv 0,iv 0,.nils,.nils] _ false rfl rfl rfl ⟨.refl _,.refl _,.refl _,.refl _,.nil _,.nil _,trivial⟩ rfl
  | true=>
   simp only[if_true] at hn1
   have hnx:=hI 2 _ (.inr (.inr (.inl ⟨rfl,rfl,rfl,rfl⟩)))
   repeat' (first|simp -implicitDefEqProofs only[go_sem,hE,ad,w1,w2,w3,w4]|refine ag_ (fun hb=>?_) (fun hb=>?_)|refine⟨fun hb=>?_,fun hb=>?_⟩|(refine ac_ [(1003,1003)] hn1 rfl ⟨⟨_,_,rfl,rfl,rfl⟩,trivial⟩ rfl rfl rfl ?_)|fail)
   exact aa_ 2 (by omega) hnx
 ·have ad:∀(H:List (Nat×Box)),hget H 33=some ⟨false,tP_,1,[.ref 2 0 0,.ref 2 0 1,.ref 2 0 2,.ref 4 0 0]⟩→a10 H 1 (.arr 33 0 4) (.int .i64 2)=some (.ref 33 2 0):=fun H h1=>by
   show (match hget H 33 with | some b=>if b.sz=1∧0≤(2:Int)∧(2:Int)<(4:Nat) then some (AV.ref 33 (0+(2:Int).toNat) 0) else none | none=>none)=_
   rw[h1]
   simp
  try simp only[if_true,Bool.true_eq_false,if_false] at fin
  cases ok2 with
  | false=>
   simp only[if_true,if_false,Bool.false_eq_true] at fin hn2
   obtain rfl:=hz2 rfl
   repeat' (first|simp -implicitDefEqProofs only[go_sem,hE,ad,w1,w2,w3,w4]|refine ag_ (fun hb=>?_) (fun hb=>?_)|refine⟨fun hb=>?_,fun hb=>?_⟩|(refine ac_ [(1003,1003)] hn2 rfl ⟨⟨_,_,rfl,rfl,rfl⟩,trivial⟩ rfl rfl rfl ?_)|fail)
   exact fin _ _ [iv x0,iv x1,iv 0,iv 0,.nils,.nils] _ false rfl rfl rfl ⟨.refl _,.refl _,.refl _,.refl _,.nil _,.nil _,trivial⟩ rfl
  | true=>
   simp only[if_true] at hn2
   have hnx:=hI 1 _ (.inr (.inr (.inr (.inl ⟨rfl,rfl,rfl,rfl,rfl⟩))))
   repeat' (first|simp -implicitDefEqProofs only[go_sem,hE,ad,w1,w2,w3,w4]|refine ag_ (fun hb=>?_) (fun hb=>?_)|refine⟨fun hb=>?_,fun hb=>?_⟩|(refine ac_ [(1003,1003)] hn2 rfl ⟨⟨_,_,rfl,rfl,rfl⟩,trivial⟩ rfl rfl rfl ?_)|fail)
   exact aa_ 1 (by omega) hnx
 ·have ad:∀(H:List (Nat×Box)),hget H 33=some ⟨false,tP_,1,[.ref 2 0 0,.ref 2 0 1,.ref 2 0 2,.ref 4 0 0]⟩→a10 H 1 (.arr 33 0 4) (.int .i64 3)=some (.ref 33 3 0):=fun H h1=>by
   show (match hget H 33 with | some b=>if b.sz=1∧0≤(3:Int)∧(3:Int)<(4:Nat) then some (AV.ref 33 (0+(3:Int).toNat) 0) else none | none=>none)=_
   rw[h1]
   simp
  try simp only[if_true,Bool.true_eq_false,if_false] at fin
  cases ok3 with
  | false=>
   simp only[if_true,if_false,Bool.false_eq_true] at fin hn3
   obtain rfl:=hz3 rfl
   repeat' (first|simp -implicitDefEqProofs only[go_sem,hE,ad,w1,w2,w3,w4]|refine ag_ (fun hb=>?_) (fun hb=>?_)|refine⟨fun hb=>?_,fun hb=>?_⟩|(refine ac_ [(1003,1003)] hn3 rfl ⟨⟨_,_,rfl,rfl,rfl⟩,trivial⟩ rfl rfl rfl ?_)|fail)
   exact fin _ _ [iv x0,iv x1,iv x2,iv 0,.nils,.nils] _ false rfl rfl rfl ⟨.refl _,.refl _,.refl _,.refl _,.nil _,.nil _,trivial⟩ rfl
  | true=>
   simp only[if_true] at hn3
   have hnx:=hI 0 _ (.inr (.inr (.inr (.inr ⟨rfl,rfl,rfl,rfl,rfl,rfl⟩))))
   repeat' (first|simp -implicitDefEqProofs only[go_sem,hE,ad,w1,w2,w3,w4]|refine ag_ (fun hb=>?_) (fun hb=>?_)|refine⟨fun hb=>?_,fun hb=>?_⟩|(refine ac_ [(1003,1003)] hn3 rfl ⟨⟨_,_,rfl,rfl,rfl⟩,trivial⟩ rfl rfl rfl ?_)|fail)
   exact aa_ 0 (by omega) hnx
 ·simp only[if_true,Bool.true_eq_false,if_false] at fin
  clear hI
  have hts:FitL [.nils,.nils] [.seq 1 [],.seq 2 []]:=⟨.nil _,.nil _,trivial⟩
  cases okd with
  | false=>
   simp only[if_true,if_false,Bool.false_eq_true] at fin hd
   obtain rfl:=hzd rfl
   repeat' (first|simp -implicitDefEqProofs only[go_sem,hE,w1,w2,w3,w4]|refine ag_ (fun hb=>?_) (fun hb=>?_)|refine⟨fun hb=>?_,fun hb=>?_⟩|(refine ac_ [(1003,1003),(1004,1)] hd rfl ⟨⟨_,_,rfl,rfl,rfl⟩,⟨_,_,rfl,rfl,rfl⟩,trivial⟩ rfl rfl rfl ?_)|fail)
   exact fin _ _ [iv x0,iv x1,iv x2,iv x3,.seq 1 [],.nils] _ false rfl rfl rfl ⟨.refl _,.refl _,.refl _,.refl _,.refl _,.nil _,trivial⟩ rfl
  | true=>
   simp only[if_true,if_false,Bool.true_eq_false] at fin hd
   cases okr with
   | false=>
    simp only[if_true,if_false,Bool.false_eq_true] at fin hw
    obtain rfl:=hzr rfl
    repeat' (first|simp -implicitDefEqProofs only[go_sem,hE,w1,w2,w3,w4]|refine ag_ (fun hb=>?_) (fun hb=>?_)|refine⟨fun hb=>?_,fun hb=>?_⟩|(refine ac_ [(1003,1003),(1004,1)] hd rfl ⟨⟨_,_,rfl,rfl,rfl⟩,⟨_,_,rfl,rfl,rfl⟩,trivial⟩ rfl rfl rfl ?_)|(refine ac_ [(1003,1003)] hw rfl ⟨⟨_,_,rfl,rfl,rfl⟩,trivial⟩ rfl rfl rfl ?_)|fail)
    exact fin _ _ [iv x0,iv x1,iv x2,iv x3,.seq 1 (ds.map v_),.seq 2 []] _ false rfl rfl rfl (FitL.refl _) rfl
   | true=>
    simp only[if_true,if_false,Bool.true_eq_false] at fin hw
    have hdl:=dli_ hqr
    by_cases hq:qr=b.length
    ·have e3:decide ((0:Int)<((b.drop qr).length:Int))=false:=decide_eq_false (by omega)
     rw[decide_eq_true hq] at fin
     repeat' (first|simp -implicitDefEqProofs only[go_sem,hE,e3,List.length_map,w1,w2,w3,w4]|refine ag_ (fun hb=>?_) (fun hb=>?_)|refine⟨fun hb=>?_,fun hb=>?_⟩|(refine ac_ [(1003,1003),(1004,1)] hd rfl ⟨⟨_,_,rfl,rfl,rfl⟩,⟨_,_,rfl,rfl,rfl⟩,trivial⟩ rfl rfl rfl ?_)|(refine ac_ [(1003,1003)] hw rfl ⟨⟨_,_,rfl,rfl,rfl⟩,trivial⟩ rfl rfl rfl ?_)|(refine ac_ [(1003,1003)] hend rfl ⟨⟨_,_,rfl,rfl,rfl⟩,trivial⟩ rfl rfl rfl ?_)|fail)
     exact fin _ _ [iv x0,iv x1,iv x2,iv x3,.seq 1 (ds.map v_),.seq 2 (rs.map rowE)] _ true rfl rfl rfl (FitL.refl _) rfl
    ·have e3:decide ((0:Int)<((b.drop qr).length:Int))=true:=decide_eq_true (by omega)
     rw[decide_eq_false hq] at fin
     repeat' (first|simp -implicitDefEqProofs only[go_sem,hE,e3,List.length_map,w1,w2,w3,w4]|refine ag_ (fun hb=>?_) (fun hb=>?_)|refine⟨fun hb=>?_,fun hb=>?_⟩|(refine ac_ [(1003,1003),(1004,1)] hd rfl ⟨⟨_,_,rfl,rfl,rfl⟩,⟨_,_,rfl,rfl,rfl⟩,trivial⟩ rfl rfl rfl ?_)|(refine ac_ [(1003,1003)] hw rfl ⟨⟨_,_,rfl,rfl,rfl⟩,trivial⟩ rfl rfl rfl ?_)|(refine ac_ [(1003,1003)] hend rfl ⟨⟨_,_,rfl,rfl,rfl⟩,trivial⟩ rfl rfl rfl ?_)|fail)
     exact fin _ _ [iv x0,iv x1,iv x2,iv x3,.seq 1 (ds.map v_),.seq 2 (rs.map rowE)] _ false rfl rfl rfl (FitL.refl _) rfl
end Go.Proofs.YtkejmcgngblfnaaGreatDoor.Ab
