/-
  The reader of chapter 38: rest, num, val. A row of the call's own is written no more. No claim is proved here.
-/
import Derived.Test.YtkejmcgngblfnaaGreatDoorYSw4
namespace Go.Proofs.YtkejmcgngblfnaaGreatDoor.Ab
open Go Go.RowKit
set_option linter.unusedSimpArgs false
set_option maxHeartbeats 4000000
set_option maxRecDepth 100000
variable {G:Nat→Option AV}
def errA (e:Nat×Nat):AV:=.iface 405 (.rawp e.1 e.2)
def ErrG (G:Nat→Option AV) (e:Nat×Nat):Prop:=G 0=some (errA e)
def plB (b:Str) (k:Nat):Box:=⟨false,tsp_,2,[.agg [.seq 1 (b.map byV),iv k]]⟩
def plH (b:Str) (k:Nat):List (Nat×Box):=[(1003,plB b k)]
theorem prh_ (b:Str) (k:Nat) (hk:k≤b.length):H_ Tryz.prog G nspr_ [.ref 1003 0 0] (plH b k) (.seq 1 ((b.drop k).map byV)) (plH b k):=by
 have hs:=ad_ (e:=byV) (sz:=1) (l:=b) (i:=k) (by decide) hk
 refine hspr_ (R_.of fun Φ h=>?_)
 unfold cspr_
 unfold plH plB at*
 repeat' (first|simp -implicitDefEqProofs only[go_sem,hs]|refine ag_ (fun hb=>?_) (fun hb=>?_)|refine⟨fun hb=>?_,fun hb=>?_⟩|fail)
 exact h _ ⟨_,_,Weak.refl _,rfl,.refl _,subH.at ⟨rfl,trivial⟩⟩
def outE (e:Nat×Nat) (x:AV) (ok:Bool):AV:=.tup [x,if ok then .nili else errA e]
abbrev rdr:AV:=.agg [.ref 1003 0 0]
theorem nl10 {b:Str} {k:Nat} (hk:k≤b.length):(n10 b k).2.2≤b.length:=by
 unfold n10 intP
 cases h:numP (b.drop k) with
 | none=>exact hk
 | some x=>
  have:=congrArg List.length (np12.bwd _ _ _ h).2
  rw[List.length_append,List.length_drop,fl10] at this
  simp only[Option.map_some]
  omega
theorem ns21:∀{r:Str},r.length<4→numP r=none
 | [],_ =>rfl
 | [_],_ =>rfl
 | [_,_],_ =>rfl
 | [_,_,_],_ =>rfl
 | _ ::_ ::_ ::_ ::_,h=>by simp at h;omega
theorem nf_:∀{r:Str},¬r.length<4→∃x y z u q,r=x::y::z::u::q
 | [],h=>absurd (by simp) h
 | [_],h=>absurd (by simp) h
 | [_,_],h=>absurd (by simp) h
 | [_,_,_],h=>absurd (by simp) h
 | x::y::z::u::q,_ =>⟨x,y,z,u,q,rfl⟩
theorem rnh_ {e:Nat×Nat} (hE:ErrG G e) (b:Str) (k:Nat) (hk:k≤b.length) (hb:b.length≤maxB):H_ Tryz.prog G nsrn_ [rdr] (plH b k) (outE e (iv (n10 b k).1) (n10 b k).2.1) (plH b (n10 b k).2.2):=by
 have hr:=prh_ (G:=G) b k hk
 have hl:(b.drop k).length=b.length - k:=List.length_drop
 have hn:n10 b k=(match numP (b.drop k) with | some (n,_)=>((n:Int),true,k+4) | none=>(0,false,k)):=by
  unfold n10 intP
  cases numP (b.drop k) <;> rfl
 simp only[maxB] at hb
 refine hsrn_ (R_.of fun Φ h=>?_)
 unfold csrn_
 have fin:∀st (n:Int) (ok:Bool) (m:Nat),n10 b k=(n,ok,m)→r12 st [.t 2,.t 3]=some [iv n,if ok then .nili else errA e]→subH st.heap (plH b m)→Φ st:=fun st n ok m hh hv hs=>by
  rw[hh] at h
  exact h _ ⟨_,_,Weak.refl _,hv,.refl _,hs.at⟩
 clear h
 rw[hn] at fin
 clear hn
 unfold plH plB at*
 unfold ErrG at hE
 generalize b.drop k=r at*
 by_cases h4:r.length<4
 ·have e4:decide ((r.length:Int)<4)=true:=decide_eq_true (by omega)
  rw[ns21 h4] at fin
  repeat' (first|simp -implicitDefEqProofs only[go_sem,hE,errA,e4,List.length_map]|refine ag_ (fun hb=>?_) (fun hb=>?_)|refine⟨fun hb=>?_,fun hb=>?_⟩|(refine ac_ [(1003,1003)] hr rfl ⟨⟨_,_,rfl,rfl,rfl⟩,trivial⟩ rfl rfl rfl ?_)|fail)
  exact fin _ _ false _ rfl rfl ⟨rfl,trivial⟩
 ·obtain⟨x,y,z,u,q,rfl⟩:=nf_ h4
  have e4:decide (((q.length+1+1+1+1:Nat):Int)<4)=false:=decide_eq_false (by omega)
  have a0:∀H,a10 H 1 (.seq 1 (byV x::byV y::byV z::byV u::q.map byV)) (.int .i64 0)=some (.eptr (byV x) 0):=fun H=>rfl
  have a1:∀H,a10 H 1 (.seq 1 (byV x::byV y::byV z::byV u::q.map byV)) (.int .i64 1)=some (.eptr (byV y) 0):=fun H=>rfl
  have a2:∀H,a10 H 1 (.seq 1 (byV x::byV y::byV z::byV u::q.map byV)) (.int .i64 2)=some (.eptr (byV z) 0):=fun H=>rfl
  have a3:∀H,a10 H 1 (.seq 1 (byV x::byV y::byV z::byV u::q.map byV)) (.int .i64 3)=some (.eptr (byV u) 0):=fun H=>rfl
  simp only[byV] at a0 a1 a2 a3
  simp only[numP] at fin
  by_cases hx:127<x.toNat
  ·rw[if_pos hx] at fin
   have e5:decide ((127:Int)<(x.toNat:Int))=true:=decide_eq_true (by omega)
   repeat' (first|simp -implicitDefEqProofs only[go_sem,hE,errA,List.map_cons,byV,e4,e5,a0,List.length_cons,List.length_map]|refine ag_ (fun hb=>?_) (fun hb=>?_)|refine⟨fun hb=>?_,fun hb=>?_⟩|(refine ac_ [(1003,1003)] hr rfl ⟨⟨_,_,rfl,rfl,rfl⟩,trivial⟩ rfl rfl rfl ?_)|fail)
   exact fin _ _ false _ rfl rfl ⟨rfl,trivial⟩
  ·rw[if_neg hx] at fin
   have e5:decide ((127:Int)<(x.toNat:Int))=false:=decide_eq_false (by omega)
   have q1:=fr10 x y z u (by omega)
   have wb:∀c:UInt8,IntKind.i64.wrap (c.toNat:Int)=(c.toNat:Int):=fun c=>by have:=c.toNat_lt;exact wi_ (by omega) (by omega)
   have w4:IntKind.i64.wrap ((k:Int)+4)=((k+4:Nat):Int):=by
    simp only[List.length_cons] at hl
    rw[wi_ (by omega) (by omega)];omega
   repeat' (first|simp -implicitDefEqProofs only[go_sem,hE,errA,List.map_cons,byV,e4,e5,a0,a1,a2,a3,q1,wb,w4,List.length_cons,List.length_map]|refine ag_ (fun hb=>?_) (fun hb=>?_)|refine⟨fun hb=>?_,fun hb=>?_⟩|(refine ac_ [(1003,1003)] hr rfl ⟨⟨_,_,rfl,rfl,rfl⟩,trivial⟩ rfl rfl rfl ?_)|fail)
   exact fin _ _ true _ rfl rfl ⟨rfl,trivial⟩
theorem vl11 {b:Str} {k:Nat} (hk:k≤b.length):(valR b k).2.2≤b.length:=by
 unfold valR
 cases h:valP (b.drop k) with
 | none=>exact hk
 | some x=>
  have:=congrArg List.length (vp10.bwd _ _ _ h).2
  rw[List.length_append,List.length_drop] at this
  simp only
  have:=kp_ x.1
  omega
theorem cz_ {b:Str} (h:¬0<(cutV b).2):(cutV b).1=⟨0,0,[],false⟩:=by
 unfold cutV at h ⊢
 cases hv:valP b with
 | none=>rfl
 | some x=>
  rw[hv] at h
  exact absurd (kp_ x.1) h
theorem rvh_ {e:Nat×Nat} (hE:ErrG G e) (b:Str) (k:Nat) (hk:k≤b.length) (hb:b.length≤maxB):H_ Tryz.prog G nsrv_ [rdr] (plH b k) (outE e (valV (valR b k).1) (valR b k).2.1) (plH b (valR b k).2.2):=by
 have hr:=prh_ (G:=G) b k hk
 have hc:=kCp_ (G:=G) (b.drop k) (by simp only[List.length_drop];omega)
 have hle:=vl11 hk
 rw[vc13] at hle
 have hz:=cz_ (b:=b.drop k)
 refine hsrv_ (R_.of fun Φ h=>?_)
 unfold csrv_
 have fin:∀st (x:Int) (n:Int) (s:Str) (t ok:Bool) (m:Nat),valR b k=(⟨x,n,s,t⟩,ok,m)→r12 st [.cells 2 4,.t 3]=some [.agg [iv x,iv n,.str s,.bool t],if ok then .nili else errA e]→subH st.heap (plH b m)→Φ st:=fun st x n s t ok m hh hv hs=>by
  rw[hh] at h
  exact h _ ⟨_,_,Weak.refl _,hv,.refl _,hs.at⟩
 clear h
 rw[vc13] at fin
 unfold plH plB at*
 unfold ErrG at hE
 simp only[maxB] at hb
 generalize cutV (b.drop k)=x at*
 generalize b.drop k=r at*
 obtain⟨⟨x,n,s,t⟩,m⟩:=x
 simp only[valE,b_] at hc
 simp only at fin hle
 by_cases h0:0<m
 ·rw[if_pos h0] at fin hle
  rw[decide_eq_true h0] at hc
  have w4:IntKind.i64.wrap ((k:Int)+(m:Int))=((k+m:Nat):Int):=by
   simp only at hle
   rw[wi_ (by omega) (by omega)];omega
  repeat' (first|simp -implicitDefEqProofs only[go_sem,hE,errA,w4]|refine ag_ (fun hb=>?_) (fun hb=>?_)|refine⟨fun hb=>?_,fun hb=>?_⟩|(refine ac_ [(1003,1003)] hr rfl ⟨⟨_,_,rfl,rfl,rfl⟩,trivial⟩ rfl rfl rfl ?_)|refine ac10 hc rfl rfl ?_|fail)
  exact fin _ _ _ _ _ true _ rfl rfl ⟨rfl,trivial⟩
 ·rw[if_neg h0] at fin hle
  rw[decide_eq_false h0] at hc
  cases hz h0
  repeat' (first|simp -implicitDefEqProofs only[go_sem,hE,errA]|refine ag_ (fun hb=>?_) (fun hb=>?_)|refine⟨fun hb=>?_,fun hb=>?_⟩|(refine ac_ [(1003,1003)] hr rfl ⟨⟨_,_,rfl,rfl,rfl⟩,trivial⟩ rfl rfl rfl ?_)|refine ac10 hc rfl rfl ?_|fail)
  exact fin _ _ _ _ _ false _ rfl rfl ⟨rfl,trivial⟩
end Go.Proofs.YtkejmcgngblfnaaGreatDoor.Ab
namespace Go.Proofs.YtkejmcgngblfnaaGreatDoor.Ab
open Go Go.RowKit
theorem wt_ {st:St} {i:Nat} {b:Box} (hi:hget st.heap i=some b) (hrow:b.row=true):Weak st (st.thaw1 i):=fun _ _ _ _ ⟨nm,_,h⟩=>⟨nm,_,h.thaw1 hi hrow⟩
end Go.Proofs.YtkejmcgngblfnaaGreatDoor.Ab
