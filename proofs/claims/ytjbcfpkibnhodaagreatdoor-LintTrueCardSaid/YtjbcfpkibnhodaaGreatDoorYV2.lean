/-
  The functions' abstract code: all of it. num, proctorref01: sums, differences, products, quotients. DERIVED: THE SHELF's CONTRACTS AT THIS DUMP, IN PLAIN WORDS (tools/lay-plain.mjs out of 'TryzHomeShelfM.lean', which tools/lay-shelf.mjs wrote): THE SAME DECLARATIONS UNDER THE SAME NAMES: 'import', 'namespace', 'open', 'def', 'theorem' AND NOTHING ELSE: no command of the shelf's: FOR A HAND-IN. Each laying: the table of numbers ('.._ren') and one theorem, a field a fact of the dump's own or the kernel's comparison; each contract: ONE APPLICATION. num.Mul, proctorref01.Mul: products. No claim is proved here.
-/
import Derived.Test.YtjbcfpkibnhodaaGreatDoorYAcR1
import Derived.Test.YtjbcfpkibnhodaaGreatDoorYAcR2
import Derived.Test.YtjbcfpkibnhodaaGreatDoorYAcR3
import Derived.Test.YtjbcfpkibnhodaaGreatDoorYAcR4
import Derived.Shelf.Bits.Mul64
set_option linter.unusedSimpArgs false
set_option maxHeartbeats 4000000
set_option maxRecDepth 100000
namespace Go.Proofs.YtjbcfpkibnhodaaGreatDoor.Ab
end Go.Proofs.YtjbcfpkibnhodaaGreatDoor.Ab
namespace Go.Proofs.YtjbcfpkibnhodaaGreatDoor.Ab
open Go
variable {G:Nat→Option AV}
def in64 (n:Int):Bool:=decide (-9223372036854775808≤n)&&decide (n≤9223372036854775807)
theorem ii_ {n:Int}:in64 n=true↔-9223372036854775808≤n∧n≤9223372036854775807:=by simp [in64]
def ovR (n:Int):Int×Int:=if in64 n=true then (n,0) else (0,6)
def okR (n:Int):Int×Bool:=if in64 n=true then (n,true) else (0,false)
def t2 (r:Int×Int):AV:=.tup [iv r.1,iv r.2]
def t2b (r:Int×Bool):AV:=.tup [iv r.1,.bool r.2]
theorem wf_ {n:Int} (h1: -27670116110564327424≤n) (h2:n<27670116110564327424):(in64 n=true∧IntKind.i64.wrap n=n∧-9223372036854775808≤n∧n≤9223372036854775807)∨(9223372036854775807<n∧in64 n=false∧IntKind.i64.wrap n=n - 18446744073709551616)∨(n< -9223372036854775808∧in64 n=false∧IntKind.i64.wrap n=n+18446744073709551616):=by
 have e1:(2:Int) ^ IntKind.i64.bits=18446744073709551616:=rfl
 have e2:(2:Int) ^ (IntKind.i64.bits - 1)=9223372036854775808:=rfl
 have e3:IntKind.i64.signed=true:=rfl
 by_cases h:in64 n=true
 ·have:=ii_.1 h
  exact .inl ⟨h,wrap_i64 this.1 this.2,this.1,this.2⟩
 ·have hf:in64 n=false:=by simpa using h
  have:¬(-9223372036854775808≤n∧n≤9223372036854775807):=fun e=>h (ii_.2 e)
  by_cases hp:9223372036854775807<n
  ·refine .inr (.inl ⟨hp,hf,?_⟩)
   unfold IntKind.wrap
   simp only[e1,e2,e3,Bool.true_and,decide_eq_true_eq]
   split <;> omega
  ·refine .inr (.inr ⟨by omega,hf,?_⟩)
   unfold IntKind.wrap
   simp only[e1,e2,e3,Bool.true_and,decide_eq_true_eq]
   split <;> omega
theorem nAp_ (a b:Int) (ha:i64 a) (hb:i64 b):P_ Tryz.prog G nnA_ [iv a,iv b] (t2 (ovR (a+b))):=by
 unfold i64 at ha hb
 have hw:=wf_ (n:=a+b) (by omega) (by omega)
 refine pnA_ (Runs.of fun Φ h=>?_)
 unfold cnA_
 unfold ovR at h
 repeat' (first|simp -implicitDefEqProofs only[go_sem]|refine ag_ (fun hb=>?_) (fun hb=>?_)|refine⟨fun hb=>?_,fun hb=>?_⟩|fail)
 all_goals
  refine h _ ⟨_,_,rfl,rfl,fe_ ?_⟩
  clear h
  try generalize IntKind.i64.wrap (a+b)=c at*
  try generalize in64 (a+b)=y at*
  rcases hw with ⟨rfl,rfl,_,_⟩ | ⟨_,rfl,rfl⟩ | ⟨_,rfl,rfl⟩
  all_goals first | rfl | (exfalso;simp at*;omega)
theorem nSp_ (a b:Int) (ha:i64 a) (hb:i64 b):P_ Tryz.prog G nnS_ [iv a,iv b] (t2 (ovR (a - b))):=by
 unfold i64 at ha hb
 have hw:=wf_ (n:=a - b) (by omega) (by omega)
 refine pnS_ (Runs.of fun Φ h=>?_)
 unfold cnS_
 unfold ovR at h
 repeat' (first|simp -implicitDefEqProofs only[go_sem]|refine ag_ (fun hb=>?_) (fun hb=>?_)|refine⟨fun hb=>?_,fun hb=>?_⟩|fail)
 all_goals
  refine h _ ⟨_,_,rfl,rfl,fe_ ?_⟩
  clear h
  try generalize IntKind.i64.wrap (a - b)=c at*
  try generalize in64 (a - b)=y at*
  rcases hw with ⟨rfl,rfl,_,_⟩ | ⟨_,rfl,rfl⟩ | ⟨_,rfl,rfl⟩
  all_goals first | rfl | (exfalso;simp at*;omega)
theorem nNp_ (a:Int) (ha:i64 a):P_ Tryz.prog G nnN_ [iv a] (t2 (ovR (-a))):=by
 have hc:=nSp_ (G:=G) 0 a (by unfold i64;omega) ha
 rw[show (0:Int) - a= -a by omega] at hc
 refine pnN_ (Runs.of fun Φ h=>?_)
 unfold cnN_
 unfold t2 at*
 generalize ovR (-a)=r at*
 repeat' (first|simp -implicitDefEqProofs only[go_sem]|refine ag_ (fun hb=>?_) (fun hb=>?_)|refine⟨fun hb=>?_,fun hb=>?_⟩|refine ac_ hc rfl rfl ?_|fail)
 all_goals (refine h _ ⟨_,_,rfl,rfl,fe_ ?_⟩;clear h;first | rfl | simp_all)
theorem rA11 (a b:Int) (ha:i64 a) (hb:i64 b):P_ Tryz.prog G npA_ [iv a,iv b] (t2b (okR (a+b))):=by
 unfold i64 at ha hb
 have hw:=wf_ (n:=a+b) (by omega) (by omega)
 have h1:0<b→IntKind.i64.wrap (9223372036854775807 - b)=9223372036854775807 - b:=fun h=>wrap_i64 (by omega) (by omega)
 have h2:b<0→IntKind.i64.wrap (-9223372036854775808 - b)= -9223372036854775808 - b:=fun h=>wrap_i64 (by omega) (by omega)
 refine ppA_ (Runs.of fun Φ h=>?_)
 unfold cpA_
 unfold okR at h
 repeat' (first|simp -implicitDefEqProofs only[go_sem]|refine ag_ (fun hb=>?_) (fun hb=>?_)|refine⟨fun hb=>?_,fun hb=>?_⟩|fail)
 all_goals
  refine h _ ⟨_,_,rfl,rfl,fe_ ?_⟩
  clear h
  try generalize IntKind.i64.wrap (a+b)=c at*
  try generalize in64 (a+b)=y at*
  try generalize IntKind.i64.wrap (9223372036854775807 - b)=c1 at*
  try generalize IntKind.i64.wrap (-9223372036854775808 - b)=c2 at*
  rcases hw with ⟨rfl,rfl,_,_⟩ | ⟨_,rfl,rfl⟩ | ⟨_,rfl,rfl⟩
  all_goals first | rfl | (exfalso;simp at*;omega)
theorem rSp_ (a b:Int) (ha:i64 a) (hb:i64 b):P_ Tryz.prog G npS_ [iv a,iv b] (t2b (okR (a - b))):=by
 unfold i64 at ha hb
 have hw:=wf_ (n:=a - b) (by omega) (by omega)
 have h1:b<0→IntKind.i64.wrap (9223372036854775807+b)=9223372036854775807+b:=fun h=>wrap_i64 (by omega) (by omega)
 have h2:0<b→IntKind.i64.wrap (-9223372036854775808+b)= -9223372036854775808+b:=fun h=>wrap_i64 (by omega) (by omega)
 refine ppS_ (Runs.of fun Φ h=>?_)
 unfold cp12
 unfold okR at h
 repeat' (first|simp -implicitDefEqProofs only[go_sem]|refine ag_ (fun hb=>?_) (fun hb=>?_)|refine⟨fun hb=>?_,fun hb=>?_⟩|fail)
 all_goals
  refine h _ ⟨_,_,rfl,rfl,fe_ ?_⟩
  clear h
  try generalize IntKind.i64.wrap (a - b)=c at*
  try generalize in64 (a - b)=y at*
  try generalize IntKind.i64.wrap (9223372036854775807+b)=c1 at*
  try generalize IntKind.i64.wrap (-9223372036854775808+b)=c2 at*
  rcases hw with ⟨rfl,rfl,_,_⟩ | ⟨_,rfl,rfl⟩ | ⟨_,rfl,rfl⟩
  all_goals first | rfl | (exfalso;simp at*;omega)
theorem ta16 (a b:Int):(a.tdiv b).natAbs≤a.natAbs:=by rw[Int.natAbs_tdiv];exact Nat.div_le_self _ _
theorem ts10 {a b:Int} (ha:i64 a) (h1:b≠-1):in64 (a.tdiv b)=true:=by
 have h:=ta16 a b
 unfold i64 at ha
 rw[ii_]
 by_cases hm:a.tdiv b≤9223372036854775807
 ·omega
 ·have he:a.natAbs=9223372036854775808:=by omega
  have ht:(a.tdiv b).natAbs=9223372036854775808:=by omega
  rw[Int.natAbs_tdiv,he] at ht
  have hb:b.natAbs=1:=by
   rcases Nat.lt_or_ge 1 b.natAbs with h2 | h2
   ·have:=Nat.div_lt_self (n:=9223372036854775808) (k:=b.natAbs) (by omega) h2
    change 9223372036854775808 / b.natAbs=_ at ht
    omega
   ·rcases Nat.eq_zero_or_pos b.natAbs with h0 | h0
    ·change 9223372036854775808 / b.natAbs=_ at ht
     rw[h0] at ht;simp at ht
    ·omega
  have:b=1:=by omega
  subst this
  rw[Int.tdiv_one] at hm ⊢
  omega
theorem ts13 {a b:Int} (ha:i64 a):i64 (a.tmod b):=by
 have h:(a.tmod b).natAbs≤a.natAbs:=by rw[Int.natAbs_tmod];exact Nat.mod_le _ _
 unfold i64 at*
 by_cases h0:0≤a
 ·have:=Int.tmod_nonneg b h0
  omega
 ·have:=Int.tmod_nonneg b (show 0≤-a by omega)
  rw[Int.neg_tmod] at this
  omega
def divR (a b:Int):Int×Int:=if b=0 then (0,7) else ovR (a.tdiv b)
def modR (a b:Int):Int×Int:=if b=0 then (0,7) else (a.tmod b,0)
theorem tn_ (a:Int):a.tdiv (-1)= -a:=by rw[Int.tdiv_neg,Int.tdiv_one]
theorem tn10 (a:Int):a.tmod (-1)=0:=by rw[Int.tmod_neg,Int.tmod_one]
theorem nDp_ (a b:Int) (ha:i64 a):P_ Tryz.prog G nnD_ [iv a,iv b] (t2 (divR a b)):=by
 have hn:=nNp_ (G:=G) a ha
 have hq:b≠-1→IntKind.i64.wrap (a.tdiv b)=a.tdiv b:=fun h=>by have:=ii_.1 (ts10 ha h);exact wrap_i64 this.1 this.2
 have hk:b≠-1→in64 (a.tdiv b)=true:=fun h=>ts10 ha h
 have h1:=tn_ a
 refine pnD_ (Runs.of fun Φ h=>?_)
 unfold cnD_
 unfold divR at h
 unfold t2 at*
 by_cases h0:b=0
 ·subst h0
  repeat' (first|simp -implicitDefEqProofs only[go_sem]|refine ag_ (fun hb=>?_) (fun hb=>?_)|refine⟨fun hb=>?_,fun hb=>?_⟩|fail)
  exact h _ ⟨_,_,rfl,rfl,.refl _⟩
 by_cases hb:b= -1
 ·subst hb
  rw[h1] at h
  generalize ovR (-a)=r at*
  repeat' (first|simp -implicitDefEqProofs only[go_sem]|refine ag_ (fun hb=>?_) (fun hb=>?_)|refine⟨fun hb=>?_,fun hb=>?_⟩|refine ac_ hn rfl rfl ?_|fail)
  all_goals (refine h _ ⟨_,_,rfl,rfl,fe_ ?_⟩;clear h;first | rfl | simp_all)
 ·have hq:=hq hb
  have hk:=hk hb
  repeat' (first|simp -implicitDefEqProofs only[go_sem,aq_ _ _ _ h0,hq]|refine ag_ (fun hb=>?_) (fun hb=>?_)|refine⟨fun hb=>?_,fun hb=>?_⟩|fail)
  all_goals first | (exfalso;simp at*;omega) | (refine h _ ⟨_,_,rfl,rfl,fe_ ?_⟩;simp [h0,ovR,hk])
theorem nM10 (a b:Int):P_ Tryz.prog G nn10 [iv a,iv b] (t2 (modR a b)):=by
 have h1:=tn10 a
 refine pn10 (Runs.of fun Φ h=>?_)
 unfold cn10
 unfold modR at h
 unfold t2 at*
 by_cases h0:b=0
 ·subst h0
  repeat' (first|simp -implicitDefEqProofs only[go_sem]|refine ag_ (fun hb=>?_) (fun hb=>?_)|refine⟨fun hb=>?_,fun hb=>?_⟩|fail)
  exact h _ ⟨_,_,rfl,rfl,.refl _⟩
 by_cases hb:b= -1
 ·subst hb
  rw[h1] at h
  repeat' (first|simp -implicitDefEqProofs only[go_sem]|refine ag_ (fun hb=>?_) (fun hb=>?_)|refine⟨fun hb=>?_,fun hb=>?_⟩|fail)
  all_goals (refine h _ ⟨_,_,rfl,rfl,fe_ ?_⟩;clear h;first | rfl | simp_all)
 ·repeat' (first|simp -implicitDefEqProofs only[go_sem,ar12 _ _ _ h0]|refine ag_ (fun hb=>?_) (fun hb=>?_)|refine⟨fun hb=>?_,fun hb=>?_⟩|fail)
  all_goals first | (exfalso;simp at*;omega) | (refine h _ ⟨_,_,rfl,rfl,fe_ ?_⟩;simp [h0])
def dmR (a b:Int):Int×Int×Int:=if b=0 then (0,0,7) else if in64 (a.tdiv b)=true then (a.tdiv b,a.tmod b,0) else (0,0,6)
theorem rDp_ (a b:Int) (ha:i64 a):P_ Tryz.prog G npD_ [iv a,iv b] (.tup [iv (dmR a b).1,iv (dmR a b).2.1,iv (dmR a b).2.2]):=by
 have hn:=rSp_ (G:=G) 0 a (by unfold i64;omega) ha
 rw[show (0:Int) - a= -a by omega] at hn
 have hq:b≠-1→IntKind.i64.wrap (a.tdiv b)=a.tdiv b:=fun h=>by have:=ii_.1 (ts10 ha h);exact wrap_i64 this.1 this.2
 have hk:b≠-1→in64 (a.tdiv b)=true:=fun h=>ts10 ha h
 have h1:=tn_ a
 have h2:=tn10 a
 refine ppD_ (Runs.of fun Φ h=>?_)
 unfold cpD_
 unfold dmR at h
 unfold t2b at*
 by_cases h0:b=0
 ·subst h0
  repeat' (first|simp -implicitDefEqProofs only[go_sem]|refine ag_ (fun hb=>?_) (fun hb=>?_)|refine⟨fun hb=>?_,fun hb=>?_⟩|fail)
  exact h _ ⟨_,_,rfl,rfl,.refl _⟩
 by_cases hb:b= -1
 ·subst hb
  rw[h1,h2] at h
  unfold okR at hn
  generalize in64 (-a)=r at*
  cases r
  all_goals
   repeat' (first|simp -implicitDefEqProofs only[go_sem]|refine ag_ (fun hb=>?_) (fun hb=>?_)|refine⟨fun hb=>?_,fun hb=>?_⟩|refine ac_ hn rfl rfl ?_|fail)
   all_goals (refine h _ ⟨_,_,rfl,rfl,fe_ ?_⟩;clear h;first | rfl | simp_all)
 ·have hq:=hq hb
  have hk:=hk hb
  repeat' (first|simp -implicitDefEqProofs only[go_sem,aq_ _ _ _ h0,ar12 _ _ _ h0,hq]|refine ag_ (fun hb=>?_) (fun hb=>?_)|refine⟨fun hb=>?_,fun hb=>?_⟩|fail)
  all_goals first | (exfalso;simp at*;omega) | (refine h _ ⟨_,_,rfl,rfl,fe_ ?_⟩;simp [h0,hk])
end Go.Proofs.YtjbcfpkibnhodaaGreatDoor.Ab
namespace Go.Proofs
open Go.Shelf
def Tryz.lays264_ren:Go.Shelf.Ren:=⟨fun | 264=>310 | n=>n,fun | 53=>57 | 46=>45 | n=>n,fun | n=>n⟩
theorem Tryz.lays264:Go.Proofs.Lays.n264 Tryz.prog Tryz.lays264_ren:={
 mixed:=by kernel_rfl
 f264:=Tryz.func310.trans (congrArg some (by kernel_rfl))
 t46:=Tryz.underlying45
 a46:=Tryz.isAgg45
 z46:=Tryz.sizeOf45
 v46:=Tryz.zeroValue45
 t53:=Tryz.underlying57
 a53:=Tryz.isAgg57
 z53:=Tryz.sizeOf57
 v53:=Tryz.zeroValue57}
open Go.RowKit Go.Lib in
theorem Tryz.bits_Mul64 (x y:Nat) (hx:x<18446744073709551616) (hy:y<18446744073709551616) (w:World):
  Calls Tryz.prog 310 #[.int .u64 x,.int .u64 y] w fun e w'=>e= .returned (.tuple #[.int .u64 ((x*y / 18446744073709551616:Nat):Int),.int .u64 ((x*y % 18446744073709551616:Nat):Int)])∧w'=w:=Any.bits_Mul64 Tryz.lays264 x y hx hy w
end Go.Proofs
namespace Go.Proofs.YtjbcfpkibnhodaaGreatDoor.Ab
open Go Go.RowKit
variable {G:Nat→Option AV}
theorem at11 {w:World} {F:Nat→Prop} {c d:AV} {vs:Array Value} (h:A_ w F [c,d] vs):∃v u,vs=#[v,u]∧Rd w F n10 c v∧Rd w F n10 d u:=by
 obtain⟨hs,hr⟩:=h
 obtain⟨l⟩:=vs
 match l,hs with
 | [v,u],_ =>exact⟨v,u,rfl,hr 0 c v rfl rfl,hr 1 d u rfl rfl⟩
theorem bMp_ (x y:Nat) (hx:x<18446744073709551616) (hy:y<18446744073709551616):P_ Tryz.prog G nmbM_ [.int .u64 x,.int .u64 y] (.tup [.int .u64 ((x*y / 18446744073709551616:Nat):Int),.int .u64 ((x*y % 18446744073709551616:Nat):Int)]):=by
 intro w F vs hg ha
 obtain⟨v,u,rfl,h1,h2⟩:=at11 ha
 cases h1
 cases h2
 refine (Tryz.bits_Mul64 x y hx hy w).mono ?_
 rintro e w' ⟨rfl,rfl⟩
 refine⟨_,F,rfl,fun b h=>h,fun b h=>.inl h,hg.1,?_,Below.refl _ _⟩
 refine Rd.tup _ [_,_] [_,_] rfl fun j c u hc hu=>?_
 match j,hc,hu with
 | 0,hc,hu=>cases hc;cases hu;exact .int _ _ _
 | 1,hc,hu=>cases hc;cases hu;exact .int _ _ _
theorem wu_ (n:Int):IntKind.u64.wrap n=n % 18446744073709551616:=by
 unfold IntKind.wrap
 have e1:(2:Int) ^ IntKind.u64.bits=18446744073709551616:=rfl
 have e3:IntKind.u64.signed=false:=rfl
 simp only[e1,e3,Bool.false_and,Bool.false_eq_true,if_false]
theorem nsp_ (a:Int) (ha:i64 a):P_ Tryz.prog G nns_ [iv a] (.int .u64 (a.natAbs:Int)):=by
 unfold i64 at ha
 refine pns_ (Runs.of fun Φ h=>?_)
 unfold cns_
 by_cases h0:a<0
 ·have e1:IntKind.u64.wrap a=a+18446744073709551616:=by rw[wu_];omega
  have e2:IntKind.u64.wrap (0 - (a+18446744073709551616))=(a.natAbs:Int):=by rw[wu_];omega
  have e3:IntKind.u64.wrap (-(a+18446744073709551616))=(a.natAbs:Int):=by rw[wu_];omega
  repeat' (first|simp -implicitDefEqProofs only[go_sem,h0,e1,e2,e3]|refine ag_ (fun hb=>?_) (fun hb=>?_)|refine⟨fun hb=>?_,fun hb=>?_⟩|fail)
  all_goals first | (exfalso;simp at*;omega) | exact h _ ⟨_,_,rfl,rfl,.refl _⟩
 ·have e1:IntKind.u64.wrap a=(a.natAbs:Int):=by rw[wu_];omega
  repeat' (first|simp -implicitDefEqProofs only[go_sem,h0,e1]|refine ag_ (fun hb=>?_) (fun hb=>?_)|refine⟨fun hb=>?_,fun hb=>?_⟩|fail)
  all_goals first | (exfalso;simp at*;omega) | exact h _ ⟨_,_,rfl,rfl,.refl _⟩
theorem nMp_ (a b:Int) (ha:i64 a) (hb:i64 b):P_ Tryz.prog G nnM_ [iv a,iv b] (t2 (ovR (a*b))):=by
 have hs1:=nsp_ (G:=G) a ha
 have hs2:=nsp_ (G:=G) b hb
 unfold i64 at ha hb
 have hm:=bMp_ (G:=G) a.natAbs b.natAbs (by omega) (by omega)
 have hab:(a*b).natAbs=a.natAbs*b.natAbs:=Int.natAbs_mul a b
 have hle:a.natAbs*b.natAbs≤9223372036854775808*9223372036854775808:=Nat.mul_le_mul (by omega) (by omega)
 have hsg:(a<0∧b<0→0≤a*b)∧(¬a<0∧¬b<0→0≤a*b)∧(a<0∧¬b<0→a*b≤0)∧(¬a<0∧b<0→a*b≤0):=
  ⟨fun h=>Int.mul_nonneg_of_nonpos_of_nonpos (by omega) (by omega),fun h=>Int.mul_nonneg (by omega) (by omega),fun h=>Int.mul_nonpos_of_nonpos_of_nonneg (by omega) (by omega),fun h=>Int.mul_nonpos_of_nonneg_of_nonpos (by omega) (by omega)⟩
 refine pnM_ (Runs.of fun Φ h=>?_)
 unfold cnM_
 unfold ovR at h
 have hin:in64 (a*b)=(decide (-9223372036854775808≤a*b)&&decide (a*b≤9223372036854775807)):=rfl
 rw[hin] at h
 generalize a*b=m at*
 rw[←hab] at hm hle
 clear hab
 have k1:(m.natAbs / 18446744073709551616:Nat)=0→m.natAbs % 18446744073709551616=m.natAbs:=fun h=>by omega
 generalize hhi:m.natAbs / 18446744073709551616=hi at*
 generalize hlo:m.natAbs % 18446744073709551616=lo at*
 have hlt:lo<18446744073709551616:=by omega
 have hc:=wf_ (n:=(lo:Int)) (by omega) (by omega)
 generalize hcw:IntKind.i64.wrap (lo:Int)=c at*
 have hcb: -9223372036854775808≤c∧c≤9223372036854775807:=by
  rcases hc with ⟨_,e1,h1,h2⟩ | ⟨h1,_,e1⟩ | ⟨h1,_,e1⟩ <;> omega
 have he:=wf_ (n:=-c) (by omega) (by omega)
 generalize hew:IntKind.i64.wrap (-c)=e at*
 have hew':IntKind.i64.wrap (0 - c)=e:=by rw[Int.zero_sub];exact hew
 have hE:lo≤9223372036854775808→e= -(lo:Int):=fun hl=>by
  rcases hc with ⟨_,e1,h1,h2⟩ | ⟨h1,_,e1⟩ | ⟨h1,_,e1⟩ <;> rcases he with ⟨_,e2,h3,h4⟩ | ⟨h3,_,e2⟩ | ⟨h3,_,e2⟩ <;> omega
 have hC:lo≤9223372036854775807→c=(lo:Int):=fun hl=>by
  rcases hc with ⟨_,e1,h1,h2⟩ | ⟨h1,_,e1⟩ | ⟨h1,_,e1⟩ <;> omega
 have hM:(0≤m→(m.natAbs:Int)=m)∧(m≤0→(m.natAbs:Int)= -m):=by omega
 clear hc he hcb hin hle
 repeat' (first|simp -implicitDefEqProofs only[go_sem,hcw,hew,hew']|refine ag_ (fun hb=>?_) (fun hb=>?_)|refine⟨fun hb=>?_,fun hb=>?_⟩|refine ac_ hs1 rfl rfl ?_|refine ac_ hs2 rfl rfl ?_|refine ac_ hm rfl rfl ?_|fail)
 all_goals
  refine h _ ⟨_,_,rfl,rfl,fe_ ?_⟩
  clear h hs1 hs2 hm hcw hew hew'
  unfold t2
  split
  all_goals
   simp at*
   try omega
theorem nt_ (x d:Nat):(x:Int).tdiv (d:Int)=((x / d:Nat):Int):=rfl
theorem mt_ {a b:Int} (h:¬a=0∧¬b=0):
  (0<a→0<b→∃q:Int,(9223372036854775807:Int).tdiv b=q∧0≤q∧q≤9223372036854775807∧(q<a↔9223372036854775807<a*b)∧0≤a*b)∧
  (0<a→b<0→∃q:Int,(-9223372036854775808:Int).tdiv a=q∧-9223372036854775808≤q∧q≤0∧(b<q↔a*b< -9223372036854775808)∧a*b≤0)∧
  (a<0→0<b→∃q:Int,(-9223372036854775808:Int).tdiv b=q∧-9223372036854775808≤q∧q≤0∧(a<q↔a*b< -9223372036854775808)∧a*b≤0)∧
  (a<0→b<0→∃q:Int,(9223372036854775807:Int).tdiv b=q∧-9223372036854775807≤q∧q≤0∧(a<q↔9223372036854775807<a*b)∧0≤a*b):=by
 have key:∀(X n d:Nat),0<d→(X / d<n↔X<n*d):=fun X n d hd=>Nat.div_lt_iff_lt_mul hd
 have le:∀X d:Nat,X / d≤X:=Nat.div_le_self
 have pos:∀x:Int,0<x→∃n:Nat,x=(n:Int)∧0<n:=fun x hx=>⟨x.toNat,by omega,by omega⟩
 have neg:∀x:Int,x<0→∃n:Nat,x= -(n:Int)∧0<n:=fun x hx=>⟨(-x).toNat,by omega,by omega⟩
 refine⟨fun ha hb=>?_,fun ha hb=>?_,fun ha hb=>?_,fun ha hb=>?_⟩
 ·obtain⟨n,rfl,hn⟩:=pos a ha
  obtain⟨d,rfl,hd⟩:=pos b hb
  have k:=key 9223372036854775807 n d hd
  have l:=le 9223372036854775807 d
  have e:((n:Int)*(d:Int))=((n*d:Nat):Int):=by simp
  rw[e]
  generalize n*d=m at*
  refine⟨_,nt_ 9223372036854775807 d,?_⟩
  generalize 9223372036854775807 / d=q at*
  omega
 ·obtain⟨n,rfl,hn⟩:=pos a ha
  obtain⟨d,rfl,hd⟩:=neg b hb
  have k:=key 9223372036854775808 d n hn
  have l:=le 9223372036854775808 n
  have e:((n:Int)* -(d:Int))= -((d*n:Nat):Int):=by rw[Int.mul_neg,Nat.mul_comm];simp
  rw[e]
  generalize d*n=m at*
  refine⟨_,(by rw[show (-9223372036854775808:Int)= -((9223372036854775808:Nat):Int) from rfl,Int.neg_tdiv,nt_]),?_⟩
  generalize 9223372036854775808 / n=q at*
  omega
 ·obtain⟨n,rfl,hn⟩:=neg a ha
  obtain⟨d,rfl,hd⟩:=pos b hb
  have k:=key 9223372036854775808 n d hd
  have l:=le 9223372036854775808 d
  have e:(-(n:Int)*(d:Int))= -((n*d:Nat):Int):=by rw[Int.neg_mul];simp
  rw[e]
  generalize n*d=m at*
  refine⟨_,(by rw[show (-9223372036854775808:Int)= -((9223372036854775808:Nat):Int) from rfl,Int.neg_tdiv,nt_]),?_⟩
  generalize 9223372036854775808 / d=q at*
  omega
 ·obtain⟨n,rfl,hn⟩:=neg a ha
  obtain⟨d,rfl,hd⟩:=neg b hb
  have k:=key 9223372036854775807 n d hd
  have l:=le 9223372036854775807 d
  have e:(-(n:Int)* -(d:Int))=((n*d:Nat):Int):=by rw[Int.neg_mul_neg];simp
  rw[e]
  generalize n*d=m at*
  refine⟨_,(by rw[show (9223372036854775807:Int)=((9223372036854775807:Nat):Int) from rfl,Int.tdiv_neg,nt_]),?_⟩
  generalize 9223372036854775807 / d=q at*
  omega
theorem rMp_ (a b:Int) (ha:i64 a) (hb:i64 b):P_ Tryz.prog G npM_ [iv a,iv b] (t2b (okR (a*b))):=by
 have hz:i64 0:=by unfold i64;omega
 have hs1:=rSp_ (G:=G) 0 b hz hb
 have hs2:=rSp_ (G:=G) 0 a hz ha
 unfold i64 at ha hb
 refine ppM_ (Runs.of fun Φ h=>?_)
 unfold cpM_
 unfold t2b at*
 by_cases a0:a=0
 ·subst a0
  rw[Int.zero_mul] at h
  repeat' (first|simp -implicitDefEqProofs only[go_sem]|refine ag_ (fun hb=>?_) (fun hb=>?_)|refine⟨fun hb=>?_,fun hb=>?_⟩|fail)
  all_goals first | (exfalso;simp at*;done) | exact h _ ⟨_,_,rfl,rfl,.refl _⟩
 by_cases b0:b=0
 ·subst b0
  rw[Int.mul_zero] at h
  have e0:(a==0)=false:=by simpa using a0
  repeat' (first|simp -implicitDefEqProofs only[go_sem,e0]|refine ag_ (fun hb=>?_) (fun hb=>?_)|refine⟨fun hb=>?_,fun hb=>?_⟩|fail)
  all_goals first | (exfalso;simp at*;done) | exact h _ ⟨_,_,rfl,rfl,.refl _⟩
 have e0:(a==0)=false:=by simpa using a0
 have e1:(b==0)=false:=by simpa using b0
 by_cases a1:a= -1
 ·subst a1
  rw[show (-1:Int)*b=0 - b by omega] at h
  generalize okR (0 - b)=r at*
  repeat' (first|simp -implicitDefEqProofs only[go_sem,e1]|refine ag_ (fun hb=>?_) (fun hb=>?_)|refine⟨fun hb=>?_,fun hb=>?_⟩|refine ac_ hs1 rfl rfl ?_|fail)
  all_goals first | (exfalso;simp at*;done) | exact h _ ⟨_,_,rfl,rfl,.refl _⟩
 by_cases b1:b= -1
 ·subst b1
  rw[show a*(-1:Int)=0 - a by omega] at h
  have e2:(a==-1)=false:=by simpa using a1
  generalize okR (0 - a)=r at*
  repeat' (first|simp -implicitDefEqProofs only[go_sem,e0,e2]|refine ag_ (fun hb=>?_) (fun hb=>?_)|refine⟨fun hb=>?_,fun hb=>?_⟩|refine ac_ hs2 rfl rfl ?_|fail)
  all_goals first | (exfalso;simp at*;done) | exact h _ ⟨_,_,rfl,rfl,.refl _⟩
 have e2:(a==-1)=false:=by simpa using a1
 have e3:(b==-1)=false:=by simpa using b1
 clear hs1 hs2
 have hm:∀m:Int,-9223372036854775808≤m→m≤9223372036854775807→okR m=(m,true)∧IntKind.i64.wrap m=m:=fun m h1 h2=>⟨by unfold okR;rw[if_pos (ii_.2 ⟨h1,h2⟩)],wrap_i64 h1 h2⟩
 have hn:∀m:Int,(m< -9223372036854775808∨9223372036854775807<m)→okR m=(0,false):=fun m h=>by
  unfold okR
  rw[if_neg (fun e=>by have:=ii_.1 e;omega)]
 by_cases sa:0<a
 ·by_cases sb:0<b
  ·obtain⟨q,hq,q1,q2,q3,q4⟩:=(mt_ ⟨a0,b0⟩).1 sa sb
   have n1:¬a<0:=by omega
   have n2:¬b<0:=by omega
   have hw:IntKind.i64.wrap q=q:=wrap_i64 (by omega) (by omega)
   generalize hmm:a*b=m at*
   by_cases hov:q<a
   ·rw[hn m (by omega)] at h
    repeat' (first|simp -implicitDefEqProofs only[go_sem,e0,e1,e2,e3,sa,sb,n1,n2,aq_ _ _ _ b0,aq_ _ _ _ a0,hq,hw,hov,hmm]|refine ag_ (fun hb=>?_) (fun hb=>?_)|refine⟨fun hb=>?_,fun hb=>?_⟩|fail)
    all_goals first | (exfalso;simp at*;done) | exact h _ ⟨_,_,rfl,rfl,.refl _⟩
   ·obtain⟨k1,k2⟩:=hm m (by omega) (by omega)
    rw[k1] at h
    repeat' (first|simp -implicitDefEqProofs only[go_sem,e0,e1,e2,e3,sa,sb,n1,n2,aq_ _ _ _ b0,aq_ _ _ _ a0,hq,hw,hov,hmm,k2]|refine ag_ (fun hb=>?_) (fun hb=>?_)|refine⟨fun hb=>?_,fun hb=>?_⟩|fail)
    all_goals first | (exfalso;simp at*;done) | exact h _ ⟨_,_,rfl,rfl,.refl _⟩
  ·replace sb:b<0:=by omega
   obtain⟨q,hq,q1,q2,q3,q4⟩:=(mt_ ⟨a0,b0⟩).2.1 sa sb
   have n1:¬a<0:=by omega
   have n2:¬0<b:=by omega
   have hw:IntKind.i64.wrap q=q:=wrap_i64 (by omega) (by omega)
   generalize hmm:a*b=m at*
   by_cases hov:b<q
   ·rw[hn m (by omega)] at h
    repeat' (first|simp -implicitDefEqProofs only[go_sem,e0,e1,e2,e3,sa,sb,n1,n2,aq_ _ _ _ b0,aq_ _ _ _ a0,hq,hw,hov,hmm]|refine ag_ (fun hb=>?_) (fun hb=>?_)|refine⟨fun hb=>?_,fun hb=>?_⟩|fail)
    all_goals first | (exfalso;simp at*;done) | exact h _ ⟨_,_,rfl,rfl,.refl _⟩
   ·obtain⟨k1,k2⟩:=hm m (by omega) (by omega)
    rw[k1] at h
    repeat' (first|simp -implicitDefEqProofs only[go_sem,e0,e1,e2,e3,sa,sb,n1,n2,aq_ _ _ _ b0,aq_ _ _ _ a0,hq,hw,hov,hmm,k2]|refine ag_ (fun hb=>?_) (fun hb=>?_)|refine⟨fun hb=>?_,fun hb=>?_⟩|fail)
    all_goals first | (exfalso;simp at*;done) | exact h _ ⟨_,_,rfl,rfl,.refl _⟩
 ·replace sa:a<0:=by omega
  by_cases sb:0<b
  ·obtain⟨q,hq,q1,q2,q3,q4⟩:=(mt_ ⟨a0,b0⟩).2.2.1 sa sb
   have n1:¬0<a:=by omega
   have n2:¬b<0:=by omega
   have hw:IntKind.i64.wrap q=q:=wrap_i64 (by omega) (by omega)
   generalize hmm:a*b=m at*
   by_cases hov:a<q
   ·rw[hn m (by omega)] at h
    repeat' (first|simp -implicitDefEqProofs only[go_sem,e0,e1,e2,e3,sa,sb,n1,n2,aq_ _ _ _ b0,aq_ _ _ _ a0,hq,hw,hov,hmm]|refine ag_ (fun hb=>?_) (fun hb=>?_)|refine⟨fun hb=>?_,fun hb=>?_⟩|fail)
    all_goals first | (exfalso;simp at*;done) | exact h _ ⟨_,_,rfl,rfl,.refl _⟩
   ·obtain⟨k1,k2⟩:=hm m (by omega) (by omega)
    rw[k1] at h
    repeat' (first|simp -implicitDefEqProofs only[go_sem,e0,e1,e2,e3,sa,sb,n1,n2,aq_ _ _ _ b0,aq_ _ _ _ a0,hq,hw,hov,hmm,k2]|refine ag_ (fun hb=>?_) (fun hb=>?_)|refine⟨fun hb=>?_,fun hb=>?_⟩|fail)
    all_goals first | (exfalso;simp at*;done) | exact h _ ⟨_,_,rfl,rfl,.refl _⟩
  ·replace sb:b<0:=by omega
   obtain⟨q,hq,q1,q2,q3,q4⟩:=(mt_ ⟨a0,b0⟩).2.2.2 sa sb
   have n1:¬0<a:=by omega
   have n2:¬0<b:=by omega
   have hw:IntKind.i64.wrap q=q:=wrap_i64 (by omega) (by omega)
   generalize hmm:a*b=m at*
   by_cases hov:a<q
   ·rw[hn m (by omega)] at h
    repeat' (first|simp -implicitDefEqProofs only[go_sem,e0,e1,e2,e3,sa,sb,n1,n2,aq_ _ _ _ b0,aq_ _ _ _ a0,hq,hw,hov,hmm]|refine ag_ (fun hb=>?_) (fun hb=>?_)|refine⟨fun hb=>?_,fun hb=>?_⟩|fail)
    all_goals first | (exfalso;simp at*;done) | exact h _ ⟨_,_,rfl,rfl,.refl _⟩
   ·obtain⟨k1,k2⟩:=hm m (by omega) (by omega)
    rw[k1] at h
    repeat' (first|simp -implicitDefEqProofs only[go_sem,e0,e1,e2,e3,sa,sb,n1,n2,aq_ _ _ _ b0,aq_ _ _ _ a0,hq,hw,hov,hmm,k2]|refine ag_ (fun hb=>?_) (fun hb=>?_)|refine⟨fun hb=>?_,fun hb=>?_⟩|fail)
    all_goals first | (exfalso;simp at*;done) | exact h _ ⟨_,_,rfl,rfl,.refl _⟩
end Go.Proofs.YtjbcfpkibnhodaaGreatDoor.Ab
