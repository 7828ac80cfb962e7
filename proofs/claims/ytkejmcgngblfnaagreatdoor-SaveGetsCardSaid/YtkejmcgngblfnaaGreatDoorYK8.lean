/-
  key.number: a number's bytes. No claim is proved here.
-/
import Derived.Test.YtkejmcgngblfnaaGreatDoorYC3
import Derived.Deep.Cut
import Derived.Laws.CopyOwn
import Derived.Lib.Walk
namespace Go.Proofs.YtkejmcgngblfnaaGreatDoor.Ab
open Go Go.RowKit
set_option linter.unusedSimpArgs false
set_option maxHeartbeats 4000000
set_option maxRecDepth 100000
variable {G:Nat→Option AV}
theorem xt_ {m:Nat} (h:m<18446744073709551616):m ^^^ 9223372036854775808=(m+9223372036854775808) % 18446744073709551616:=by
 have h1:(m ^^^ 9223372036854775808) % 2 ^ 63=m % 2 ^ 63:=by
  rw[Nat.xor_mod_two_pow]
  simp
 have h2:(m ^^^ 9223372036854775808) / 2 ^ 63=(m / 2 ^ 63) ^^^ 1:=by
  rw[←Nat.shiftRight_eq_div_pow,Nat.shiftRight_xor_distrib,Nat.shiftRight_eq_div_pow,Nat.shiftRight_eq_div_pow]
 have h3:m / 2 ^ 63=0∨m / 2 ^ 63=1:=by omega
 have e1:(0:Nat) ^^^ 1=1:=rfl
 have e2:(1:Nat) ^^^ 1=0:=rfl
 rcases h3 with h3 | h3
 ·rw[h3,e1] at h2;omega
 ·rw[h3,e2] at h2;omega
theorem nt_ {n:Int} (hn:i64 n):bXor .u64 (IntKind.wrap .u64 n) 9223372036854775808=((n+9223372036854775808).toNat:Int):=by
 unfold i64 at hn
 have hw:IntKind.wrap .u64 n=((n+18446744073709551616).toNat % 18446744073709551616:Nat):=by
  simp [IntKind.wrap,IntKind.bits,IntKind.signed]
  omega
 rw[hw]
 generalize hm:(n+18446744073709551616).toNat % 18446744073709551616=m
 have hlt:m<18446744073709551616:=by omega
 unfold bXor
 have e:(BitVec.ofInt 64 (m:Int) ^^^ BitVec.ofInt 64 9223372036854775808).toNat=m ^^^ 9223372036854775808:=by
  rw[BitVec.toNat_xor]
  congr 1
  ·simp [BitVec.toNat_ofInt];omega
 show IntKind.wrap .u64 ((BitVec.ofInt 64 (m:Int) ^^^ BitVec.ofInt 64 9223372036854775808).toNat:Int)=_
 rw[e,xt_ hlt]
 simp [IntKind.wrap,IntKind.bits,IntKind.signed]
 omega
def shB (U:Nat) (b:Nat):AV:=.int .u8 (IntKind.wrap .u8 (bShr .u64 (U:Int) (b:Int)))
theorem se_ (U:Nat) {b d:Nat} (hb:b≤64) (hd:2 ^ b=d):shB U b=byV (UInt8.ofNat (U / d)):=by
 unfold shB byV
 congr 1
 have:bShr .u64 (U:Int) (b:Int)=((U / d:Nat):Int):=by
  unfold bShr
  rw[show min (b:Int).toNat (IntKind.bits .u64)=b by simp [IntKind.bits];omega,Int.fdiv_eq_ediv_of_nonneg _ (Int.pow_nonneg (by decide)),←hd]
  simp
 rw[this]
 simp [IntKind.wrap,IntKind.bits,IntKind.signed]
abbrev z8:AV:=.int .u8 0
def c11 (U:Nat):Nat→List AV
 | 0=>[z8,z8,z8,z8,z8,z8,z8,z8]
 | 1=>[shB U 56,z8,z8,z8,z8,z8,z8,z8]
 | 2=>[shB U 56,shB U 48,z8,z8,z8,z8,z8,z8]
 | 3=>[shB U 56,shB U 48,shB U 40,z8,z8,z8,z8,z8]
 | 4=>[shB U 56,shB U 48,shB U 40,shB U 32,z8,z8,z8,z8]
 | 5=>[shB U 56,shB U 48,shB U 40,shB U 32,shB U 24,z8,z8,z8]
 | 6=>[shB U 56,shB U 48,shB U 40,shB U 32,shB U 24,shB U 16,z8,z8]
 | 7=>[shB U 56,shB U 48,shB U 40,shB U 32,shB U 24,shB U 16,shB U 8,z8]
 | _ =>[shB U 56,shB U 48,shB U 40,shB U 32,shB U 24,shB U 16,shB U 8,shB U 0]
theorem ca10 (U:Nat):c11 U 8=(beB U).map byV:=by
 simp only[c11,beB,List.map_cons,List.map_nil]
 rw[se_ U (b:=56) (by decide) rfl,se_ U (b:=48) (by decide) rfl,se_ U (b:=40) (by decide) rfl,se_ U (b:=32) (by decide) rfl,se_ U (b:=24) (by decide) rfl,se_ U (b:=16) (by decide) rfl,se_ U (b:=8) (by decide) rfl,se_ U (b:=0) (by decide) rfl]
 simp
theorem ws10 {P:Program} {C:Ctx} {c1 c2:Code} {ac:AC} {S:St→Prop} {st:St} {a:Act} {w:World} {Q:Exit→Act→World→Prop} (hc:chkC P c1 ac=true) (h:run P G (fun _ =>False) ac [.cut S] st) (hr:Rel G C st a w)
  (hk:∀st' a' w',S st'→Rel G C st' a' w'→c2.wp P Q a' w'):(Code.seq c1 c2).wp P Q a w:=by
 refine wp_seq (wp_mono (as13 c1 ac _ st a w hc h hr) fun e a' w' hq=>?_)
 cases e <;> simp only[l23,Exit.then] at hq ⊢
 ·obtain⟨st',h1,h2⟩:=hq;exact hk st' a' w' h1 h2
 ·obtain⟨st',h1,_⟩:=hq;exact (h1:False).elim
 ·obtain⟨st',h1,_⟩:=hq;exact (h1:False).elim
def n17:AC:=.reg [⟨some 7,.mov (.t 0),none⟩,⟨some 8,.conv .u64 (.t 7),none⟩,⟨some 9,.bin .xor (.t 8) (.k (.int .u64 9223372036854775808)),none⟩,⟨some 3,.mov (.t 9),none⟩] [3]
def n16:AC:=.reg [⟨some 4,.alloc 371 8 (.agg [.int .u8 0,.int .u8 0,.int .u8 0,.int .u8 0,.int .u8 0,.int .u8 0,.int .u8 0,.int .u8 0]),none⟩] [3,4]
def numL:AC:=(.seq (.reg [⟨some 10,.mov (.k (.int .i64 0)),none⟩]
[3,4,10])
(.block 0
(.loop [3,4,10] [2,4]
 (.seq (.reg [⟨some 11,.bin .lss (.t 10) (.k (.int .i64 8)),none⟩]
[3,4,10,11])
(.seq (.cond (.t 11)
.skip
(.exit 0))
(.seq (.block 1
(.seq (.reg [⟨some 12,.mov (.t 10),none⟩,
⟨some 5,.mov (.t 12),none⟩]
[3,4,5,10])
(.reg [⟨some 13,.mov (.t 5),none⟩,
⟨some 14,.mov (.t 3),none⟩,
⟨some 15,.mov (.t 5),none⟩,
⟨some 16,.bin .sub (.k (.int .i64 7)) (.t 15),none⟩,
⟨some 17,.bin .mul (.k (.int .i64 8)) (.t 16),none⟩,
⟨some 18,.bin .shr (.t 14) (.t 17),none⟩,
⟨some 19,.conv .u8 (.t 18),none⟩,
⟨some 20,.iaddrA 1 8 (.t 4) (.t 13),none⟩,
⟨none,.store (.t 20) (.t 19) 1,none⟩]
[3,4,10])))
(.reg [⟨some 21,.bin .add (.t 10) (.k (.int .i64 1)),none⟩,
⟨some 10,.mov (.t 21),none⟩]
[3,4,10])))))))
def n15:AC:=.reg [⟨some 22,.mks tu_ 1 1 (.int .u8 0) (.k (.int .i64 8)) (.k (.int .i64 8)),none⟩,⟨some 6,.mov (.t 22),none⟩] [4,6]
theorem nl11 (U:Nat):run Tryz.prog G (fun _ =>False) numL [.cut fun st=>st=⟨27,[(3,.int .u64 U),(4,.ref 4 0 0),(10,iv 8),(11,.bool false)],[(2,⟨true,tu_,1,[]⟩),(4,⟨false,371,8,[.agg (c11 U 8)]⟩)]⟩]
  ⟨27,[(3,.int .u64 U),(4,.ref 4 0 0)],[(4,⟨false,371,8,[.agg (c11 U 0)]⟩),(2,⟨true,tu_,1,[]⟩)]⟩:=by
 have w0:IntKind.i64.wrap 0=0:=by decide
 have w1:IntKind.i64.wrap 1=1:=by decide
 have w2:IntKind.i64.wrap 2=2:=by decide
 have w3:IntKind.i64.wrap 3=3:=by decide
 have w4:IntKind.i64.wrap 4=4:=by decide
 have w5:IntKind.i64.wrap 5=5:=by decide
 have w6:IntKind.i64.wrap 6=6:=by decide
 have w7:IntKind.i64.wrap 7=7:=by decide
 have w8:IntKind.i64.wrap 8=8:=by decide
 have w16:IntKind.i64.wrap 16=16:=by decide
 have w24:IntKind.i64.wrap 24=24:=by decide
 have w32:IntKind.i64.wrap 32=32:=by decide
 have w40:IntKind.i64.wrap 40=40:=by decide
 have w48:IntKind.i64.wrap 48=48:=by decide
 have w56:IntKind.i64.wrap 56=56:=by decide
 have s0:abin .shr (.int .u64 (U:Int)) (.int .i64 0)=some (.int .u64 (bShr .u64 (U:Int) 0)):=rfl
 have s8:abin .shr (.int .u64 (U:Int)) (.int .i64 8)=some (.int .u64 (bShr .u64 (U:Int) 8)):=rfl
 have s16:abin .shr (.int .u64 (U:Int)) (.int .i64 16)=some (.int .u64 (bShr .u64 (U:Int) 16)):=rfl
 have s24:abin .shr (.int .u64 (U:Int)) (.int .i64 24)=some (.int .u64 (bShr .u64 (U:Int) 24)):=rfl
 have s32:abin .shr (.int .u64 (U:Int)) (.int .i64 32)=some (.int .u64 (bShr .u64 (U:Int) 32)):=rfl
 have s40:abin .shr (.int .u64 (U:Int)) (.int .i64 40)=some (.int .u64 (bShr .u64 (U:Int) 40)):=rfl
 have s48:abin .shr (.int .u64 (U:Int)) (.int .i64 48)=some (.int .u64 (bShr .u64 (U:Int) 48)):=rfl
 have s56:abin .shr (.int .u64 (U:Int)) (.int .i64 56)=some (.int .u64 (bShr .u64 (U:Int) 56)):=rfl
 unfold numL
 simp -implicitDefEqProofs only[go_sem,c11]
 refine al10 (fun n st=>∃(i:Nat) (k:Int),i+n=8∧k=i∧st=⟨27,[(3,.int .u64 U),(4,.ref 4 0 0),(10,iv k)],[(2,⟨true,tu_,1,[]⟩),(4,⟨false,371,8,[.agg (c11 U i)]⟩)]⟩) 8 ⟨0,0,by simp,rfl,rfl⟩ ?_
 rintro I hI n st ⟨i,k,hi,hk,rfl⟩
 have hcases:i=0∨i=1∨i=2∨i=3∨i=4∨i=5∨i=6∨i=7∨i=8:=by omega
 rcases hcases with rfl | rfl | rfl | rfl | rfl | rfl | rfl | rfl | rfl
 ·obtain rfl:k=0:=by omega
  repeat' (first|simp -implicitDefEqProofs only[go_sem,c11,w0,w1,w2,w3,w4,w5,w6,w7,w8,w16,w24,w32,w40,w48,w56,s0,s8,s16,s24,s32,s40,s48,s56]|refine ag_ (fun hb=>?_) (fun hb=>?_)|refine⟨fun hb=>?_,fun hb=>?_⟩|fail)
  exact aa_ (n - 1) (by omega) (hI _ _ ⟨1,1,by omega,rfl,rfl⟩)
 ·obtain rfl:k=1:=by omega
  repeat' (first|simp -implicitDefEqProofs only[go_sem,c11,w0,w1,w2,w3,w4,w5,w6,w7,w8,w16,w24,w32,w40,w48,w56,s0,s8,s16,s24,s32,s40,s48,s56]|refine ag_ (fun hb=>?_) (fun hb=>?_)|refine⟨fun hb=>?_,fun hb=>?_⟩|fail)
  exact aa_ (n - 1) (by omega) (hI _ _ ⟨2,2,by omega,rfl,rfl⟩)
 ·obtain rfl:k=2:=by omega
  repeat' (first|simp -implicitDefEqProofs only[go_sem,c11,w0,w1,w2,w3,w4,w5,w6,w7,w8,w16,w24,w32,w40,w48,w56,s0,s8,s16,s24,s32,s40,s48,s56]|refine ag_ (fun hb=>?_) (fun hb=>?_)|refine⟨fun hb=>?_,fun hb=>?_⟩|fail)
  exact aa_ (n - 1) (by omega) (hI _ _ ⟨3,3,by omega,rfl,rfl⟩)
 ·obtain rfl:k=3:=by omega
  repeat' (first|simp -implicitDefEqProofs only[go_sem,c11,w0,w1,w2,w3,w4,w5,w6,w7,w8,w16,w24,w32,w40,w48,w56,s0,s8,s16,s24,s32,s40,s48,s56]|refine ag_ (fun hb=>?_) (fun hb=>?_)|refine⟨fun hb=>?_,fun hb=>?_⟩|fail)
  exact aa_ (n - 1) (by omega) (hI _ _ ⟨4,4,by omega,rfl,rfl⟩)
 ·obtain rfl:k=4:=by omega
  repeat' (first|simp -implicitDefEqProofs only[go_sem,c11,w0,w1,w2,w3,w4,w5,w6,w7,w8,w16,w24,w32,w40,w48,w56,s0,s8,s16,s24,s32,s40,s48,s56]|refine ag_ (fun hb=>?_) (fun hb=>?_)|refine⟨fun hb=>?_,fun hb=>?_⟩|fail)
  exact aa_ (n - 1) (by omega) (hI _ _ ⟨5,5,by omega,rfl,rfl⟩)
 ·obtain rfl:k=5:=by omega
  repeat' (first|simp -implicitDefEqProofs only[go_sem,c11,w0,w1,w2,w3,w4,w5,w6,w7,w8,w16,w24,w32,w40,w48,w56,s0,s8,s16,s24,s32,s40,s48,s56]|refine ag_ (fun hb=>?_) (fun hb=>?_)|refine⟨fun hb=>?_,fun hb=>?_⟩|fail)
  exact aa_ (n - 1) (by omega) (hI _ _ ⟨6,6,by omega,rfl,rfl⟩)
 ·obtain rfl:k=6:=by omega
  repeat' (first|simp -implicitDefEqProofs only[go_sem,c11,w0,w1,w2,w3,w4,w5,w6,w7,w8,w16,w24,w32,w40,w48,w56,s0,s8,s16,s24,s32,s40,s48,s56]|refine ag_ (fun hb=>?_) (fun hb=>?_)|refine⟨fun hb=>?_,fun hb=>?_⟩|fail)
  exact aa_ (n - 1) (by omega) (hI _ _ ⟨7,7,by omega,rfl,rfl⟩)
 ·obtain rfl:k=7:=by omega
  repeat' (first|simp -implicitDefEqProofs only[go_sem,c11,w0,w1,w2,w3,w4,w5,w6,w7,w8,w16,w24,w32,w40,w48,w56,s0,s8,s16,s24,s32,s40,s48,s56]|refine ag_ (fun hb=>?_) (fun hb=>?_)|refine⟨fun hb=>?_,fun hb=>?_⟩|fail)
  exact aa_ (n - 1) (by omega) (hI _ _ ⟨8,8,by omega,rfl,rfl⟩)
 ·obtain rfl:k=8:=by omega
  repeat' (first|simp -implicitDefEqProofs only[go_sem,c11]|refine ag_ (fun hb=>?_) (fun hb=>?_)|refine⟨fun hb=>?_,fun hb=>?_⟩|fail)
theorem a42 (st:St) (d ty:Nat) (z:AV) (k k':IntKind):amks st (some d) ty 1 1 z (.int k 8) (.int k' 8)=st.new (some d) ⟨true,ty,1,[z,z,z,z,z,z,z,z]⟩ (.arr d 0 8):=rfl
theorem l25 {l:List Value} (h:l.length=27):∃x0 x1 x2 x3 x4 x5 x6 x7 x8 x9 x10 x11 x12 x13 x14 x15 x16 x17 x18 x19 x20 x21 x22 x23 x24 x25 x26,l=[x0,x1,x2,x3,x4,x5,x6,x7,x8,x9,x10,x11,x12,x13,x14,x15,x16,x17,x18,x19,x20,x21,x22,x23,x24,x25,x26]:=by
 match l,h with
 | [x0,x1,x2,x3,x4,x5,x6,x7,x8,x9,x10,x11,x12,x13,x14,x15,x16,x17,x18,x19,x20,x21,x22,x23,x24,x25,x26],_ =>exact⟨x0,x1,x2,x3,x4,x5,x6,x7,x8,x9,x10,x11,x12,x13,x14,x15,x16,x17,x18,x19,x20,x21,x22,x23,x24,x25,x26,rfl⟩
theorem wc10 {P:Program} (w:World) {ops:Array Oper} {rest:List Oper} {o:Oper} {a:Act} {Q:Exit→Act→World→Prop} (hgd:o.guard=none) (d s:Operand) (t t':TypeId)
  (ho:o.op= .call {callee:=.builtin .copy,args:=#[d,s],argTypes:=#[t,t']}) (v u:Value) (hd:a.eval d=v) (hs:a.eval s=u) {v':Value} {w':World}
  (hr:(Builtin.copy_ #[t,t'] o.type #[v,u]).run P w= .ok v' w') (h:wpList P ops Q rest (a.put o.dst v') w'):wpList P ops Q (o::rest) a w:=
 wpList_plain hgd fun _ hK=>by
  unfold Oper.wp execOp
  simp only[ho,resolve,invoke,builtin,Sem.run_bind,Sem.run_pure,Result.andThen_ok,List.map_toArray,List.map_cons,List.map_nil,hd,hs,hr]
  exact hK _ _ h
theorem ps10 (i U b:Nat):purge i (shB U b)=shB U b:=rfl
def bvs (U:Nat):List Value:=(beB U).map fun c=>Value.int .u8 (c.toNat:Int)
theorem bl_ (U:Nat):(bvs U).length=8:=rfl
theorem knp_ (n:Int) (hn:i64 n):P_ Tryz.prog G nkn_ [iv n] (b_ (k12 n)):=by
 intro w F vs hg ha
 obtain⟨v,rfl,hv⟩:∃v,vs=#[v]∧Rd w F n_ (iv n) v:=by
  obtain⟨hs,hr⟩:=ha
  obtain⟨l⟩:=vs
  match l,hs with
  | [v],_ =>exact⟨v,rfl,hr 0 _ v rfl rfl⟩
 cases hv
 have hU:=nt_ hn
 generalize hUe:(n+9223372036854775808).toNat=U at hU
 have hrel:Rel G ⟨w,F,fun _ =>False,fun _ =>False,n_⟩ ⟨27,[(0,iv n)],[]⟩ {tmps:=#[.int .i64 n,undef,undef,undef,undef,undef,undef,undef,undef,undef,undef,undef,undef,undef,undef,undef,undef,undef,undef,undef,undef,undef,undef,undef,undef,undef,undef],defers:=[]} w:=by
  refine⟨n_,F,rfl,rfl,fun t=>?_,fun i b hi=>by simp [hget] at hi,fun i j b c m m' hi=>by simp [hget] at hi,fun i b m hi=>by simp [hget] at hi,fun i b m hi=>by simp [hget] at hi,hg,fun _ h=>h,fun _ h=>.inl h,⟨rfl,rfl,rfl,Nat.le_refl _,fun _ _ _ =>rfl⟩,fun _ h=>h.elim⟩
  simp only[St.get,eget]
  split
  ·rename_i e;subst e;exact .int _ _ _
  ·exact .top _ _
 go_enter Tryz.func209,Tryz.ntmps209
 refine ws10 (ac:=.reg [⟨some 2,.nilrow tu_ 1,none⟩] [0]) (S:=fun st=>st=⟨27,[(0,iv n)],[(2,⟨true,tu_,1,[]⟩)]⟩) (by kernel_rfl) (by simp -implicitDefEqProofs only[go_sem]) hrel ?_
 rintro st a w1 rfl hrel
 refine ws10 (ac:=n17) (S:=fun st=>st=⟨27,[(3,.int .u64 U)],[(2,⟨true,tu_,1,[]⟩)]⟩) (by kernel_rfl) (by unfold n17;simp -implicitDefEqProofs only[go_sem,hU]) hrel ?_
 rintro st a w2 rfl hrel
 refine ws10 (ac:=n16) (S:=fun st=>st=⟨27,[(3,.int .u64 U),(4,.ref 4 0 0)],[(4,⟨false,371,8,[.agg (c11 U 0)]⟩),(2,⟨true,tu_,1,[]⟩)]⟩) (by kernel_rfl) (by unfold n16;simp -implicitDefEqProofs only[go_sem,c11]) hrel ?_
 rintro st a w3 rfl hrel
 refine ws10 (ac:=numL) (by kernel_rfl) (nl11 U) hrel ?_
 rintro st a w4 rfl hrel
 refine ws10 (ac:=n15) (S:=fun st=>st=⟨27,[(4,.ref 4 0 0),(6,.arr 22 0 8)],[(22,⟨true,tu_,1,[z8,z8,z8,z8,z8,z8,z8,z8]⟩),(2,⟨true,tu_,1,[]⟩),(4,⟨false,371,8,[.agg (c11 U 8)]⟩)]⟩) (by kernel_rfl) (by unfold n15;simp -implicitDefEqProofs only[go_sem,c11,a42,ps10]) hrel ?_
 rintro st a w5 rfl ⟨nm1,F1,hx⟩
 have h4:=hx.env 4
 have h6:=hx.env 6
 have hN:=hx.N
 have hdf:=hx.df
 obtain⟨⟨tl⟩,df⟩:=a
 simp only at hdf
 subst hdf
 obtain⟨x0,x1,x2,x3,x4,x5,x6,x7,x8,x9,x10,x11,x12,x13,x14,x15,x16,x17,x18,x19,x20,x21,x22,x23,x24,x25,x26,rfl⟩:=l25 (l:=tl) (by simpa using hN)
 have h4:Rd w5 F1 nm1 (.ref 4 0 0) x4:=h4
 have h6:Rd w5 F1 nm1 (.arr 22 0 8) x6:=h6
 have hb4:=hx.box 4 _ rfl
 have hb22:=hx.box 22 _ rfl
 cases h4 with
 | ref _ _ _ _ m4 hi4=>
 cases h6 with
 | arr _ _ _ _ m22 hi22 hle hpos=>
 rcases hb4 with ⟨e,_⟩ | ⟨m4',e,hl4⟩
 ·rw[hi4] at e;cases e
 rw[hi4] at e;cases e
 rcases hb22 with ⟨e,_⟩ | ⟨m22',e,hl22⟩
 ·rw[hi22] at e;cases e
 rw[hi22] at e;cases e
 obtain⟨a1,a2,a3,cs4,a4,a5,a6,a7,a8,a9⟩:=hl4.c (show 0<8 by decide)
 obtain⟨b1,b2,b3,cs22,b4,b5,b6,b7,b8,b9⟩:=hl22.c (show 0<1 by decide)
 have hne:m4.g≠m22.g:=fun e=>absurd (hx.inj 4 22 _ _ m4 m22 rfl rfl hi4 hi22 e) (by decide)
 have hown:w.heap.size≤m22.g:=(hx.own 22 _ m22 rfl hi22).elim id (fun h=>h.elim)
 have hfr:¬F1 m22.g:=hx.fr 22 _ m22 rfl hi22
 have b1':m22.sz=1:=b1
 have b2':m22.ty=tu_:=b2
 have hcs:8≤cs22.size:=by rw[b5,b1'];omega
 have hsrc:∀j v,(bvs U)[j]? =some v→w5.cell? ((⟨m4.g,0,none⟩:Addr).add j)=some v:=fun j v hj=>by
  unfold bvs at hj
  rw[List.getElem?_map] at hj
  obtain⟨c,hc,rfl⟩:=Option.map_eq_some_iff.1 hj
  obtain⟨u,hu,_,hr⟩:=a9 0 (.agg (c11 U 8)) j (byV c) rfl (by show (c11 U 8)[j]? =_;rw[ca10,List.getElem?_map,hc];rfl)
  unfold byV at hr
  cases hr
  rw[Addr.add_lit]
  simp only[Nat.zero_mul,Nat.zero_add] at hu
  simp [World.cell?,a4,hu]
 have hcp:∀ty,(Builtin.copy_ #[29,29] ty #[.slice (some ⟨m22.g,0,none⟩) 8 m22.cap,.slice (some ⟨m4.g,0,none⟩) 8 8]).run Tryz.prog w5=
   .ok (goInt (bvs U).length) (w5.setRow m22.g (cs22.toList.take 0++bvs U++cs22.toList.drop (0+(bvs U).length)).toArray):=fun ty=>
  run_copy_row Tryz.prog w5 29 29 ty tu_ m22.g 0 8 m22.cap ⟨m4.g,0,none⟩ 8 8 cs22 m22.ty (bvs U) Tryz.underlying29 (by kernel_rfl) b4 (by rw[bl_];rfl) hsrc (by rw[bl_];omega) (fun v hv=>by
   unfold bvs at hv
   obtain⟨c,_,rfl⟩:=List.mem_map.1 hv
   rfl)
 have hfin:∃v F',(Ending.returned (.slice (some ⟨m22.g,0,none⟩) 8 m22.cap)=Ending.returned v)∧(∀b,F b→F' b)∧(∀b,F' b→F b∨w.heap.size≤b)∧(∀b,F' b→b<(w5.setRow m22.g (cs22.toList.take 0++bvs U++cs22.toList.drop (0+(bvs U).length)).toArray).heap.size)∧
   Rd (w5.setRow m22.g (cs22.toList.take 0++bvs U++cs22.toList.drop (0+(bvs U).length)).toArray) F' n_ (b_ (k12 n)) v∧Below w.heap.size w (w5.setRow m22.g (cs22.toList.take 0++bvs U++cs22.toList.drop (0+(bvs U).length)).toArray):=by
  refine⟨_,fun b=>F1 b∨b=m22.g,rfl,fun b hb=>.inl (hx.f0 b hb),fun b hb=>?_,fun b hb=>?_,?_,?_⟩
  ·rcases hb with hb | rfl
   ·rcases hx.fb b hb with h | h | h
    ·exact .inl h
    ·exact .inr h
    ·exact h.elim
   ·exact .inr hown
  ·rw[setRow_size]
   rcases hb with hb | rfl
   ·exact hx.good.1 b hb
   ·exact (Array.getElem?_eq_some_iff.1 b4).1
  ·have hk:k12 n=beB U:=by unfold k12;rw[hUe]
   have e8:((k12 n).map byV).length=8:=rfl
   have key:=Rd.seq (w:=w5.setRow m22.g (cs22.toList.take 0++bvs U++cs22.toList.drop (0+(bvs U).length)).toArray) (F:=fun b=>F1 b∨b=m22.g) n_ 1 ((k12 n).map byV) m22.g 0 m22.cap (fun p=>(bvs U).getD p undef) (by decide) (.inr rfl) (by rw[e8];omega) b7
    (fun e he=>by obtain⟨c,_,rfl⟩:=List.mem_map.1 he;rfl)
    (fun p hp=>by
     rw[e8] at hp
     rw[cell_setRow_same _ _ _ _ _ _ _ b4]
     simp only[List.take_zero,List.nil_append,Nat.zero_add,List.getElem?_toArray]
     rw[List.getElem?_append_left (by rw[bl_];omega),List.getElem?_eq_getElem (by rw[bl_];omega)]
     simp [List.getD,List.getElem?_eq_getElem (show p<(bvs U).length by rw[bl_];omega)])
    (fun p hp=>by
     rw[e8] at hp
     have:p<(beB U).length:=by show p<8;omega
     simp [bvs,List.getD,List.getElem?_eq_getElem this,Value.oneCell'])
    (fun k e j c he hc=>by
     rw[List.getElem?_map] at he
     obtain⟨x,hx',rfl⟩:=Option.map_eq_some_iff.1 he
     match j,hc with
     | 0,hc=>
      cases hc
      rw[hk] at hx'
      simp only[Nat.mul_one,Nat.add_zero,bvs,List.getD,List.getElem?_map,hx',Option.map_some,Option.getD_some]
      exact .int _ _ _)
   exact key
  ·exact below_setRow ⟨hx.keep.os,hx.keep.tape,hx.keep.output,hx.keep.size,fun k hk=>hx.keep.block k hk (fun h=>h)⟩ hown _
 have e1:0*m22.sz=0:=Nat.zero_mul _
 have e2:0*m4.sz+0=0:=by omega
 have e3:m22.cap - 0=m22.cap:=rfl
 rw[e1,e2,e3]
 clear hx h6 hU hUe hrel hsrc a8 a9 b8 b9
 generalize w5.setRow m22.g (cs22.toList.take 0++bvs U++cs22.toList.drop (0+(bvs U).length)).toArray=W at*
 go_wp2_with (at_builtin;refine wc10 _ rfl _ _ 29 29 rfl _ _ rfl rfl (hcp _) ?_)
 go_ret
 obtain⟨v,F',h⟩:=hfin
 exact⟨v,h.1,F',h.2⟩
end Go.Proofs.YtkejmcgngblfnaaGreatDoor.Ab
