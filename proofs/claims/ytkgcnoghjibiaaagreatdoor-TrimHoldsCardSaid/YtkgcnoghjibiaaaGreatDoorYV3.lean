/- Lemmas. -/
import Derived.Test.YtkgcnoghjibiaaaGreatDoorYD2
import Derived.LaidMore
import Derived.Lib.ItoaNum
import Derived.Shelf.Bits.Mul64
set_option linter.unusedSimpArgs false
set_option maxHeartbeats 4000000
set_option maxRecDepth 100000
namespace Go.Proofs.YtkgcnoghjibiaaaGreatDoor.Ab
open Go Go.ChangeShapes Go.WideShapes Go.RowKit
theorem rInt {t:Nat} (ht:Tryz.prog.underlying t=some (.int .i64)) (hs:Tryz.prog.cellsOf t=1):RdT Tryz.prog t 1 λcs=>∃n:Int,cs=[iv n]:=
 (ri_ ht hs).mono (by rintro _ ⟨n,rfl,_⟩;exact⟨n,rfl⟩)
theorem rStr {t:Nat} (ht:Tryz.prog.underlying t=some .string) (hs:Tryz.prog.cellsOf t=1):RdT Tryz.prog t 1 λcs=>∃s:Str,cs=[.str s]:=
 (rs23 ht hs).mono (by rintro _ ⟨n,rfl,_⟩;exact⟨n,rfl⟩)
theorem rl10 {α:Type} {f:α->AV} {t e sz:Nat} (ht:Tryz.prog.underlying t=some (.slice e)) (hs:Tryz.prog.cellsOf t=1) (h:RdT Tryz.prog e sz λcs=>∃a:α,.agg cs=f a) (h0:0<sz):
  RdT Tryz.prog t 1 λcs=>∃l:List α,cs=[.seq sz (l.map f)]∧l.length<=maxLen:=
 (rs17 true ht hs h h0 (by intro h;cases h)).mono (by rintro _ ⟨es,rfl,hl,h⟩;obtain⟨l,rfl⟩:=lo13 (f:=f) (λx hx=>by obtain⟨_,⟨o,e⟩,rfl⟩:=h x hx;exact⟨o,e⟩);exact⟨l,rfl,by simpa using hl⟩)
theorem r36 {t e:Nat} (ht:Tryz.prog.underlying t=some (.slice e)) (hs:Tryz.prog.cellsOf t=1) (he:Tryz.prog.underlying e=some (.int .i64)) (hse:Tryz.prog.cellsOf e=1):RdT Tryz.prog t 1 λcs=>∃l:List Int,cs=[i11 l]∧l.length<=maxLen:=
 (rs17 (e:=e) false ht hs (rInt he hse) (by decide) (by rintro - _ ⟨n,rfl⟩;exact⟨_,rfl,rfl⟩)).mono (by rintro _ ⟨es,rfl,hl,h⟩;obtain⟨l,rfl⟩:=lo13 (f:=iv) (λx hx=>by obtain⟨_,⟨n,rfl⟩,rfl⟩:=h x hx;exact⟨n,rfl⟩);exact⟨l,rfl,by simpa using hl⟩)
theorem rVal:RdT Tryz.prog 48 4 λcs=>∃v:Val,cs=[iv v.kind,iv v.int,.str v.str,.bool v.bool]:=
 (rs_ (t:=48) (fs:=(Tryz.prog.fieldsOf 48)) (by kernel_rfl) (by kernel_rfl) (rc_ (f:=(Tryz.prog.fieldsOf 48)[0]!) (rInt (by kernel_rfl) (by kernel_rfl)) (by kernel_rfl) rfl (rc_ (f:=(Tryz.prog.fieldsOf 48)[1]!) (rInt (by kernel_rfl) (by kernel_rfl)) (by kernel_rfl) rfl (rc_ (f:=(Tryz.prog.fieldsOf 48)[2]!) (rStr (by kernel_rfl) (by kernel_rfl)) (by kernel_rfl) rfl (rc_ (f:=(Tryz.prog.fieldsOf 48)[3]!) (rb_ (by kernel_rfl) (by kernel_rfl)) (by kernel_rfl) rfl (rn_ _)))))).mono (by rintro _ ⟨_,_,rfl,⟨a,rfl⟩,_,_,rfl,⟨b,rfl⟩,_,_,rfl,⟨c,rfl⟩,_,_,rfl,⟨d,rfl⟩,rfl⟩;exact⟨⟨a,b,c,d⟩,rfl⟩)
theorem rArg:RdT Tryz.prog 108 6 λcs=>∃a:ArgT,.agg cs=argV a:=
 (rs_ (t:=108) (fs:=(Tryz.prog.fieldsOf 108)) (by kernel_rfl) (by kernel_rfl) (rc_ (f:=(Tryz.prog.fieldsOf 108)[0]!) (rInt (by kernel_rfl) (by kernel_rfl)) (by kernel_rfl) rfl (rc_ (f:=(Tryz.prog.fieldsOf 108)[1]!) (rInt (by kernel_rfl) (by kernel_rfl)) (by kernel_rfl) rfl (rc_ (f:=(Tryz.prog.fieldsOf 108)[2]!) rVal (by kernel_rfl) rfl (rn_ _))))).mono (by rintro _ ⟨_,_,rfl,⟨a,rfl⟩,_,_,rfl,⟨b,rfl⟩,_,_,rfl,⟨v,rfl⟩,rfl⟩;exact⟨⟨a,b,v⟩,rfl⟩)
theorem rSym:RdT Tryz.prog 106 2 λcs=>∃a:SymT,.agg cs=symV a:=
 (rs_ (t:=106) (fs:=(Tryz.prog.fieldsOf 106)) (by kernel_rfl) (by kernel_rfl) (rc_ (f:=(Tryz.prog.fieldsOf 106)[0]!) (rInt (by kernel_rfl) (by kernel_rfl)) (by kernel_rfl) rfl (rc_ (f:=(Tryz.prog.fieldsOf 106)[1]!) (rl10 (t:=104) (by kernel_rfl) (by kernel_rfl) rArg (by decide)) (by kernel_rfl) rfl (rn_ _)))).mono (by rintro _ ⟨_,_,rfl,⟨a,rfl⟩,_,_,rfl,⟨l,rfl,_⟩,rfl⟩;exact⟨⟨a,l⟩,rfl⟩)
theorem r31:RdT Tryz.prog 124 3 λcs=>∃a:QuantT,.agg cs=q11 a:=
 (rs_ (t:=124) (fs:=(Tryz.prog.fieldsOf 124)) (by kernel_rfl) (by kernel_rfl) (rc_ (f:=(Tryz.prog.fieldsOf 124)[0]!) (rb_ (by kernel_rfl) (by kernel_rfl)) (by kernel_rfl) rfl (rc_ (f:=(Tryz.prog.fieldsOf 124)[1]!) (rStr (by kernel_rfl) (by kernel_rfl)) (by kernel_rfl) rfl (rc_ (f:=(Tryz.prog.fieldsOf 124)[2]!) (rInt (by kernel_rfl) (by kernel_rfl)) (by kernel_rfl) rfl (rn_ _))))).mono (by rintro _ ⟨_,_,rfl,⟨a,rfl⟩,_,_,rfl,⟨b,rfl⟩,_,_,rfl,⟨c,rfl⟩,rfl⟩;exact⟨⟨a,b,c⟩,rfl⟩)
theorem r30:RdT Tryz.prog 53 3 λcs=>∃a:StateT,.agg cs=s14 a:=
 (rs_ (t:=53) (fs:=(Tryz.prog.fieldsOf 53)) (by kernel_rfl) (by kernel_rfl) (rc_ (f:=(Tryz.prog.fieldsOf 53)[0]!) (rStr (by kernel_rfl) (by kernel_rfl)) (by kernel_rfl) rfl (rc_ (f:=(Tryz.prog.fieldsOf 53)[1]!) (rb_ (by kernel_rfl) (by kernel_rfl)) (by kernel_rfl) rfl (rc_ (f:=(Tryz.prog.fieldsOf 53)[2]!) (rb_ (by kernel_rfl) (by kernel_rfl)) (by kernel_rfl) rfl (rn_ _))))).mono (by rintro _ ⟨_,_,rfl,⟨a,rfl⟩,_,_,rfl,⟨b,rfl⟩,_,_,rfl,⟨c,rfl⟩,rfl⟩;exact⟨⟨a,b,c⟩,rfl⟩)
theorem rSet:RdT Tryz.prog 168 2 λcs=>∃a:SetT,.agg cs=setV a:=
 (rs_ (t:=168) (fs:=(Tryz.prog.fieldsOf 168)) (by kernel_rfl) (by kernel_rfl) (rc_ (f:=(Tryz.prog.fieldsOf 168)[0]!) (rInt (by kernel_rfl) (by kernel_rfl)) (by kernel_rfl) rfl (rc_ (f:=(Tryz.prog.fieldsOf 168)[1]!) (rInt (by kernel_rfl) (by kernel_rfl)) (by kernel_rfl) rfl (rn_ _)))).mono (by rintro _ ⟨_,_,rfl,⟨a,rfl⟩,_,_,rfl,⟨b,rfl⟩,rfl⟩;exact⟨⟨a,b⟩,rfl⟩)
theorem r29:RdT Tryz.prog 95 5 λcs=>∃a:TransT,.agg cs=t11 a:=
 (rs_ (t:=95) (fs:=(Tryz.prog.fieldsOf 95)) (by kernel_rfl) (by kernel_rfl) (rc_ (f:=(Tryz.prog.fieldsOf 95)[0]!) (rInt (by kernel_rfl) (by kernel_rfl)) (by kernel_rfl) rfl (rc_ (f:=(Tryz.prog.fieldsOf 95)[1]!) (rInt (by kernel_rfl) (by kernel_rfl)) (by kernel_rfl) rfl (rc_ (f:=(Tryz.prog.fieldsOf 95)[2]!) (rInt (by kernel_rfl) (by kernel_rfl)) (by kernel_rfl) rfl (rc_ (f:=(Tryz.prog.fieldsOf 95)[3]!) (rInt (by kernel_rfl) (by kernel_rfl)) (by kernel_rfl) rfl (rc_ (f:=(Tryz.prog.fieldsOf 95)[4]!) (rl10 (t:=93) (by kernel_rfl) (by kernel_rfl) rSet (by decide)) (by kernel_rfl) rfl (rn_ _))))))).mono (by rintro _ ⟨_,_,rfl,⟨a,rfl⟩,_,_,rfl,⟨b,rfl⟩,_,_,rfl,⟨c,rfl⟩,_,_,rfl,⟨d,rfl⟩,_,_,rfl,⟨l,rfl,_⟩,rfl⟩;exact⟨⟨a,b,c,d,l⟩,rfl⟩)
theorem r37:RdT Tryz.prog 42 2 λcs=>∃a:DeclT,.agg cs=d12 a:=
 (rs_ (t:=42) (fs:=(Tryz.prog.fieldsOf 42)) (by kernel_rfl) (by kernel_rfl) (rc_ (f:=(Tryz.prog.fieldsOf 42)[0]!) (rStr (by kernel_rfl) (by kernel_rfl)) (by kernel_rfl) rfl (rc_ (f:=(Tryz.prog.fieldsOf 42)[1]!) (r36 (t:=40) (e:=3) (by kernel_rfl) (by kernel_rfl) (by kernel_rfl) (by kernel_rfl)) (by kernel_rfl) rfl (rn_ _)))).mono (by rintro _ ⟨_,_,rfl,⟨a,rfl⟩,_,_,rfl,⟨l,rfl,_⟩,rfl⟩;exact⟨⟨a,l⟩,rfl⟩)
theorem ha11 {W:World} {u:Nat} {x:Value} (h:W.var? Tryz.prog "errors.errorType" =some #[.iface u (.agg #[x])]) {e:AV} (hx:∀F nm,Rd W F nm e x):Rd W (oldF W) n10 (.eptr (.iface u (.agg [e])) 0) (.pointer (some ⟨0,0,none⟩))∧W10 W 0 (.iface u (.agg [e])):=by
 have hg:Tryz.prog.globalNamed "errors.errorType" =some 0:=by kernel_rfl
 simp only[World.var?,hg,vN] at h;split at h
 .rename_i cs t fz hb;simp only[zZ] at h;subst h;refine⟨?_,_,t,fz,hb,rfl⟩
  have key:=Rd.eptr (w:=W) (F:=oldF W) n10 (.iface u (.agg [e])) 0 0 0 (λ_ =>.iface u (.agg #[x])) (yC.1 hb).1
   (λp hp=>by
    have:p=0:=by simp [AV.cells] at hp;omega
    subst this;simp [World.cell?,hb])
   (λp hp=>rfl)
   (λj c hj=>by
    match j,hj with
    | 0,hj=>cases hj;exact .iface _ _ _ _ (.agg _ [_] [_] rfl λj c z hc hz=>by
      match j,hc,hz with
      | 0,hc,hz=>cases hc;cases hz;exact hx _ _))
  simpa using key
 .cases h
theorem aa19 {a b:Str} (h:a.length+b.length<=9223372036854775807):abin .add (.str a) (.str b)=some (.str (a++b)):=by simp [abin,h]
def i64 (n:Int):Prop:=-9223372036854775808<=n∧n<9223372036854775808
variable {G:Nat->Option AV}
def in64 (n:Int):Bool:=decide (-9223372036854775808<=n)&&decide (n<=9223372036854775807)
theorem ii_ {n:Int}:in64 n=true↔-9223372036854775808<=n∧n<=9223372036854775807:=by simp [in64]
def ovR (n:Int):Int×Int:=if in64 n=true then (n,0) else (0,6)
def okR (n:Int):Int×Bool:=if in64 n=true then (n,true) else (0,false)
def t2 (r:Int×Int):AV:=.tup [iv r.1,iv r.2]
def t2b (r:Int×Bool):AV:=.tup [iv r.1,.bool r.2]
theorem wf_ {n:Int} (h1: -27670116110564327424<=n) (h2:n<27670116110564327424):(in64 n=true∧IntKind.i64.wrap n=n∧-9223372036854775808<=n∧n<=9223372036854775807)∨(9223372036854775807<n∧in64 n=false∧IntKind.i64.wrap n=n - 18446744073709551616)∨(n< -9223372036854775808∧in64 n=false∧IntKind.i64.wrap n=n+18446744073709551616):=by
 have e1:(2:Int) ^ IntKind.i64.bits=18446744073709551616:=rfl;have e2:(2:Int) ^ (IntKind.i64.bits - 1)=9223372036854775808:=rfl;have e3:IntKind.i64.signed=true:=rfl;by_cases h:in64 n=true
 .have:=ii_.1 h;exact .inl ⟨h,wi_ this.1 this.2,this.1,this.2⟩
 .have hf:in64 n=false:=by simpa using h
  have:¬(-9223372036854775808<=n∧n<=9223372036854775807):=λe=>h (ii_.2 e);by_cases hp:9223372036854775807<n
  .refine .inr (.inl ⟨hp,hf,?_⟩);unfold IntKind.wrap;simp only[e1,e2,e3,yR,zW];split <;> omega
  .refine .inr (.inr ⟨by omega,hf,?_⟩);unfold IntKind.wrap;simp only[e1,e2,e3,yR,zW];split <;> omega
theorem rA14 (a b:Int) (ha:i64 a) (hb:i64 b):PQ G 288 [iv a,iv b] (t2b (okR (a+b))):=by
 unfold i64 at ha hb;have hw:=wf_ (n:=a+b) (by omega) (by omega);have h1:0<b->IntKind.i64.wrap (9223372036854775807 - b)=9223372036854775807 - b:=λh=>wi_ (by omega) (by omega);have h2:b<0->IntKind.i64.wrap (-9223372036854775808 - b)= -9223372036854775808 - b:=λh=>wi_ (by omega) (by omega);refine ppA_ λΦ h=>?_;unfold cpA_;unfold okR at h
 repeat' (first|simp -implicitDefEqProofs only[go_sem]|apply ai__<;>intro hb)
 all_goals
  refine h _ ⟨_,_,rfl,rfl,fe_ ?_⟩;clear h
  try generalize IntKind.i64.wrap (a+b)=c at*
  try generalize in64 (a+b)=y at*
  try generalize IntKind.i64.wrap (9223372036854775807 - b)=c1 at*
  try generalize IntKind.i64.wrap (-9223372036854775808 - b)=c2 at*
  rcases hw with ⟨rfl,rfl,_,_⟩ | ⟨_,rfl,rfl⟩ | ⟨_,rfl,rfl⟩
  all_goals first | rfl | (exfalso;simp at*;omega)
theorem rSp_ (a b:Int) (ha:i64 a) (hb:i64 b):PQ G 290 [iv a,iv b] (t2b (okR (a - b))):=by
 unfold i64 at ha hb;have hw:=wf_ (n:=a - b) (by omega) (by omega);have h1:b<0->IntKind.i64.wrap (9223372036854775807+b)=9223372036854775807+b:=λh=>wi_ (by omega) (by omega);have h2:0<b->IntKind.i64.wrap (-9223372036854775808+b)= -9223372036854775808+b:=λh=>wi_ (by omega) (by omega);refine ppS_ λΦ h=>?_;unfold cp11;unfold okR at h
 repeat' (first|simp -implicitDefEqProofs only[go_sem]|apply ai__<;>intro hb)
 all_goals
  refine h _ ⟨_,_,rfl,rfl,fe_ ?_⟩;clear h
  try generalize IntKind.i64.wrap (a - b)=c at*
  try generalize in64 (a - b)=y at*
  try generalize IntKind.i64.wrap (9223372036854775807+b)=c1 at*
  try generalize IntKind.i64.wrap (-9223372036854775808+b)=c2 at*
  rcases hw with ⟨rfl,rfl,_,_⟩ | ⟨_,rfl,rfl⟩ | ⟨_,rfl,rfl⟩
  all_goals first | rfl | (exfalso;simp at*;omega)
theorem ta39 (a b:Int):(a.tdiv b).natAbs<=a.natAbs:=by rw[Int.natAbs_tdiv];exact Nat.div_le_self _ _
theorem ts10 {a b:Int} (ha:i64 a) (h1:b≠-1):in64 (a.tdiv b)=true:=by
 have h:=ta39 a b;unfold i64 at ha;rw[ii_];by_cases hm:a.tdiv b<=9223372036854775807
 .omega
 .have he:a.natAbs=9223372036854775808:=by omega
  have ht:(a.tdiv b).natAbs=9223372036854775808:=by omega
  rw[Int.natAbs_tdiv,he] at ht;have hb:b.natAbs=1:=by
   rcases vD 1 b.natAbs with h2 | h2
   .have:=Nat.div_lt_self (n:=9223372036854775808) (k:=b.natAbs) (by omega) h2;change 9223372036854775808 / b.natAbs=_ at ht;omega
   .rcases Nat.eq_zero_or_pos b.natAbs with h0 | h0
    .change 9223372036854775808 / b.natAbs=_ at ht;rw[h0] at ht;simp at ht
    .omega
  have:b=1:=by omega
  subst this;rw[Int.tdiv_one] at hm ⊢;omega
theorem ts14 {a b:Int} (ha:i64 a):i64 (a.tmod b):=by
 have h:(a.tmod b).natAbs<=a.natAbs:=by rw[Int.natAbs_tmod];exact Nat.mod_le _ _
 unfold i64 at*;by_cases h0:0<=a
 .have:=Int.tmod_nonneg b h0;omega
 .have:=Int.tmod_nonneg b (show 0<=-a by omega);rw[Int.neg_tmod] at this;omega
def divR (a b:Int):Int×Int:=if b=0 then (0,7) else ovR (a.tdiv b)
def modR (a b:Int):Int×Int:=if b=0 then (0,7) else (a.tmod b,0)
theorem tn10 (a:Int):a.tdiv (-1)= -a:=by rw[Int.tdiv_neg,Int.tdiv_one]
theorem tn11 (a:Int):a.tmod (-1)=0:=by rw[Int.tmod_neg,Int.tmod_one]
def dmR (a b:Int):Int×Int×Int:=if b=0 then (0,0,7) else if in64 (a.tdiv b)=true then (a.tdiv b,a.tmod b,0) else (0,0,6)
theorem rDp_ (a b:Int) (ha:i64 a):PQ G 292 [iv a,iv b] (.tup [iv (dmR a b).1,iv (dmR a b).2.1,iv (dmR a b).2.2]):=by
 have hn:=rSp_ (G:=G) 0 a (by unfold i64;omega) ha;rw[show (0:Int) - a= -a by omega] at hn;have hq:b≠-1->IntKind.i64.wrap (a.tdiv b)=a.tdiv b:=λh=>by have:=ii_.1 (ts10 ha h);exact wi_ this.1 this.2
 have hk:b≠-1->in64 (a.tdiv b)=true:=λh=>ts10 ha h;have h1:=tn10 a;have h2:=tn11 a;refine ppD_ λΦ h=>?_;unfold cpD_;unfold dmR at h;unfold t2b at*;by_cases h0:b=0
 .subst h0
  repeat' (first|simp -implicitDefEqProofs only[go_sem]|apply ai__<;>intro hb)
  exact hq_ h
 by_cases hb:b= -1
 .subst hb;rw[h1,h2] at h;unfold okR at hn;generalize in64 (-a)=r at*;cases r
  all_goals
   repeat' (first|simp -implicitDefEqProofs only[go_sem]|apply ai__<;>intro hb|refine ac_ hn rfl rfl ?_|fail)
   all_goals (refine h _ ⟨_,_,rfl,rfl,fe_ ?_⟩;clear h;first | rfl | simp_all)
 .have hq:=hq hb;have hk:=hk hb
  repeat' (first|simp -implicitDefEqProofs only[go_sem,aq_ _ _ _ h0,ar11 _ _ _ h0,hq]|apply ai__<;>intro hb)
  all_goals first | (exfalso;simp at*;omega) | (refine h _ ⟨_,_,rfl,rfl,fe_ ?_⟩;simp [h0,hk])
theorem nt_ (x d:Nat):(x:Int).tdiv (d:Int)=((x / d:Nat):Int):=rfl
theorem mt_ {a b:Int} (h:¬a=0∧¬b=0):
  (0<a->0<b->∃q:Int,(9223372036854775807:Int).tdiv b=q∧0<=q∧q<=9223372036854775807∧(q<a↔9223372036854775807<a*b)∧0<=a*b)∧
  (0<a->b<0->∃q:Int,(-9223372036854775808:Int).tdiv a=q∧-9223372036854775808<=q∧q<=0∧(b<q↔a*b< -9223372036854775808)∧a*b<=0)∧
  (a<0->0<b->∃q:Int,(-9223372036854775808:Int).tdiv b=q∧-9223372036854775808<=q∧q<=0∧(a<q↔a*b< -9223372036854775808)∧a*b<=0)∧
  (a<0->b<0->∃q:Int,(9223372036854775807:Int).tdiv b=q∧-9223372036854775807<=q∧q<=0∧(a<q↔9223372036854775807<a*b)∧0<=a*b):=by
 have key:∀(X n d:Nat),0<d->(X / d<n↔X<n*d):=λX n d hd=>Nat.div_lt_iff_lt_mul hd;have le:∀X d:Nat,X / d<=X:=Nat.div_le_self;have pos:∀x:Int,0<x->∃n:Nat,x=(n:Int)∧0<n:=λx hx=>⟨x.toNat,by omega,by omega⟩;have neg:∀x:Int,x<0->∃n:Nat,x= -(n:Int)∧0<n:=λx hx=>⟨(-x).toNat,by omega,by omega⟩;refine⟨λha hb=>?_,λha hb=>?_,λha hb=>?_,λha hb=>?_⟩
 .obtain⟨n,rfl,hn⟩:=pos a ha;obtain⟨d,rfl,hd⟩:=pos b hb;have k:=key 9223372036854775807 n d hd;have l:=le 9223372036854775807 d;have e:((n:Int)*(d:Int))=((n*d:Nat):Int):=by simp
  rw[e];generalize n*d=m at*;refine⟨_,nt_ 9223372036854775807 d,?_⟩;generalize 9223372036854775807 / d=q at*;omega
 .obtain⟨n,rfl,hn⟩:=pos a ha;obtain⟨d,rfl,hd⟩:=neg b hb;have k:=key 9223372036854775808 d n hn;have l:=le 9223372036854775808 n;have e:((n:Int)* -(d:Int))= -((d*n:Nat):Int):=by rw[Int.mul_neg,uV];simp
  rw[e];generalize d*n=m at*;refine⟨_,(by rw[show (-9223372036854775808:Int)= -((9223372036854775808:Nat):Int) from rfl,Int.neg_tdiv,nt_]),?_⟩;generalize 9223372036854775808 / n=q at*;omega
 .obtain⟨n,rfl,hn⟩:=neg a ha;obtain⟨d,rfl,hd⟩:=pos b hb;have k:=key 9223372036854775808 n d hd;have l:=le 9223372036854775808 d;have e:(-(n:Int)*(d:Int))= -((n*d:Nat):Int):=by rw[Int.neg_mul];simp
  rw[e];generalize n*d=m at*;refine⟨_,(by rw[show (-9223372036854775808:Int)= -((9223372036854775808:Nat):Int) from rfl,Int.neg_tdiv,nt_]),?_⟩;generalize 9223372036854775808 / d=q at*;omega
 .obtain⟨n,rfl,hn⟩:=neg a ha;obtain⟨d,rfl,hd⟩:=neg b hb;have k:=key 9223372036854775807 n d hd;have l:=le 9223372036854775807 d;have e:(-(n:Int)* -(d:Int))=((n*d:Nat):Int):=by rw[Int.neg_mul_neg];simp
  rw[e];generalize n*d=m at*;refine⟨_,(by rw[show (9223372036854775807:Int)=((9223372036854775807:Nat):Int) from rfl,Int.tdiv_neg,nt_]),?_⟩;generalize 9223372036854775807 / d=q at*;omega
theorem rM10 (a b:Int) (ha:i64 a) (hb:i64 b):PQ G 291 [iv a,iv b] (t2b (okR (a*b))):=by
 have hz:i64 0:=by unfold i64;omega
 have hs1:=rSp_ (G:=G) 0 b hz hb;have hs2:=rSp_ (G:=G) 0 a hz ha;unfold i64 at ha hb;refine ppM_ λΦ h=>?_;unfold cpM_;unfold t2b at*;by_cases a0:a=0
 .subst a0;rw[Int.zero_mul] at h
  repeat' (first|simp -implicitDefEqProofs only[go_sem]|apply ai__<;>intro hb)
  all_goals first | (exfalso;simp at*;done) | exact hq_ h
 by_cases b0:b=0
 .subst b0;rw[Int.mul_zero] at h;have e0:(a==0)=false:=by simpa using a0
  repeat' (first|simp -implicitDefEqProofs only[go_sem,e0]|apply ai__<;>intro hb)
  all_goals first | (exfalso;simp at*;done) | exact hq_ h
 have e0:(a==0)=false:=by simpa using a0
 have e1:(b==0)=false:=by simpa using b0
 by_cases a1:a= -1
 .subst a1;rw[show (-1:Int)*b=0 - b by omega] at h;generalize okR (0 - b)=r at*
  repeat' (first|simp -implicitDefEqProofs only[go_sem,e1]|apply ai__<;>intro hb|refine ac_ hs1 rfl rfl ?_|fail)
  all_goals first | (exfalso;simp at*;done) | exact hq_ h
 by_cases b1:b= -1
 .subst b1;rw[show a*(-1:Int)=0 - a by omega] at h;have e2:(a==-1)=false:=by simpa using a1
  generalize okR (0 - a)=r at*
  repeat' (first|simp -implicitDefEqProofs only[go_sem,e0,e2]|apply ai__<;>intro hb|refine ac_ hs2 rfl rfl ?_|fail)
  all_goals first | (exfalso;simp at*;done) | exact hq_ h
 have e2:(a==-1)=false:=by simpa using a1
 have e3:(b==-1)=false:=by simpa using b1
 clear hs1 hs2;have hm:∀m:Int,-9223372036854775808<=m->m<=9223372036854775807->okR m=(m,true)∧IntKind.i64.wrap m=m:=λm h1 h2=>⟨by unfold okR;rw[zY (ii_.2 ⟨h1,h2⟩)],wi_ h1 h2⟩;have hn:∀m:Int,(m< -9223372036854775808∨9223372036854775807<m)->okR m=(0,false):=λm h=>by unfold okR;rw[zK (λe=>by have:=ii_.1 e;omega)]
 by_cases sa:0<a
 .by_cases sb:0<b
  .obtain⟨q,hq,q1,q2,q3,q4⟩:=(mt_ ⟨a0,b0⟩).1 sa sb;have n1:¬a<0:=by omega
   have n2:¬b<0:=by omega
   have hw:IntKind.i64.wrap q=q:=wi_ (by omega) (by omega);generalize hmm:a*b=m at*;by_cases hov:q<a
   .rw[hn m (by omega)] at h
    repeat' (first|simp -implicitDefEqProofs only[go_sem,e0,e1,e2,e3,sa,sb,n1,n2,aq_ _ _ _ b0,aq_ _ _ _ a0,hq,hw,hov,hmm]|apply ai__<;>intro hb)
    all_goals first | (exfalso;simp at*;done) | exact hq_ h
   .obtain⟨k1,k2⟩:=hm m (by omega) (by omega);rw[k1] at h
    repeat' (first|simp -implicitDefEqProofs only[go_sem,e0,e1,e2,e3,sa,sb,n1,n2,aq_ _ _ _ b0,aq_ _ _ _ a0,hq,hw,hov,hmm,k2]|apply ai__<;>intro hb)
    all_goals first | (exfalso;simp at*;done) | exact hq_ h
  .replace sb:b<0:=by omega
   obtain⟨q,hq,q1,q2,q3,q4⟩:=(mt_ ⟨a0,b0⟩).2.1 sa sb;have n1:¬a<0:=by omega
   have n2:¬0<b:=by omega
   have hw:IntKind.i64.wrap q=q:=wi_ (by omega) (by omega);generalize hmm:a*b=m at*;by_cases hov:b<q
   .rw[hn m (by omega)] at h
    repeat' (first|simp -implicitDefEqProofs only[go_sem,e0,e1,e2,e3,sa,sb,n1,n2,aq_ _ _ _ b0,aq_ _ _ _ a0,hq,hw,hov,hmm]|apply ai__<;>intro hb)
    all_goals first | (exfalso;simp at*;done) | exact hq_ h
   .obtain⟨k1,k2⟩:=hm m (by omega) (by omega);rw[k1] at h
    repeat' (first|simp -implicitDefEqProofs only[go_sem,e0,e1,e2,e3,sa,sb,n1,n2,aq_ _ _ _ b0,aq_ _ _ _ a0,hq,hw,hov,hmm,k2]|apply ai__<;>intro hb)
    all_goals first | (exfalso;simp at*;done) | exact hq_ h
 .replace sa:a<0:=by omega
  by_cases sb:0<b
  .obtain⟨q,hq,q1,q2,q3,q4⟩:=(mt_ ⟨a0,b0⟩).2.2.1 sa sb;have n1:¬0<a:=by omega
   have n2:¬b<0:=by omega
   have hw:IntKind.i64.wrap q=q:=wi_ (by omega) (by omega);generalize hmm:a*b=m at*;by_cases hov:a<q
   .rw[hn m (by omega)] at h
    repeat' (first|simp -implicitDefEqProofs only[go_sem,e0,e1,e2,e3,sa,sb,n1,n2,aq_ _ _ _ b0,aq_ _ _ _ a0,hq,hw,hov,hmm]|apply ai__<;>intro hb)
    all_goals first | (exfalso;simp at*;done) | exact hq_ h
   .obtain⟨k1,k2⟩:=hm m (by omega) (by omega);rw[k1] at h
    repeat' (first|simp -implicitDefEqProofs only[go_sem,e0,e1,e2,e3,sa,sb,n1,n2,aq_ _ _ _ b0,aq_ _ _ _ a0,hq,hw,hov,hmm,k2]|apply ai__<;>intro hb)
    all_goals first | (exfalso;simp at*;done) | exact hq_ h
  .replace sb:b<0:=by omega
   obtain⟨q,hq,q1,q2,q3,q4⟩:=(mt_ ⟨a0,b0⟩).2.2.2 sa sb;have n1:¬0<a:=by omega
   have n2:¬0<b:=by omega
   have hw:IntKind.i64.wrap q=q:=wi_ (by omega) (by omega);generalize hmm:a*b=m at*;by_cases hov:a<q
   .rw[hn m (by omega)] at h
    repeat' (first|simp -implicitDefEqProofs only[go_sem,e0,e1,e2,e3,sa,sb,n1,n2,aq_ _ _ _ b0,aq_ _ _ _ a0,hq,hw,hov,hmm]|apply ai__<;>intro hb)
    all_goals first | (exfalso;simp at*;done) | exact hq_ h
   .obtain⟨k1,k2⟩:=hm m (by omega) (by omega);rw[k1] at h
    repeat' (first|simp -implicitDefEqProofs only[go_sem,e0,e1,e2,e3,sa,sb,n1,n2,aq_ _ _ _ b0,aq_ _ _ _ a0,hq,hw,hov,hmm,k2]|apply ai__<;>intro hb)
    all_goals first | (exfalso;simp at*;done) | exact hq_ h
def numR (op a b:Int):Int×Int:=
 if op=5 then ovR (0 - a) else if op=9 then ovR (a - b) else if op=8 then ovR (a+b) else if op=10 then ovR (a*b) else if op=11 then divR a b else if op=12 then modR a b else (0,1)
def vt (r:Val×Int):AV:=.tup [valV r.1,iv r.2]
def t46 (s:Str):Val×Int:=if (4096:Int)<s.length then (v0,3) else (⟨2,0,s,false⟩,0)
def l11 (a b:Val):Bool:=if ¬a.kind=b.kind then decide (a.kind<b.kind) else if a.kind=1 then decide (a.int<b.int) else if a.kind=2 then Op.bytesLess a.str b.str else !a.bool&&b.bool
def opR (op:Int) (a b:Val):Val×Int:=
 if op<4∨16<op then (v0,1) else if o11 op a.kind b.kind=0 then (v0,8)
 else if op=4 then (⟨3,0,[],!a.bool⟩,0) else if op=6 then (⟨3,0,[],a.bool&&b.bool⟩,0) else if op=7 then (⟨3,0,[],a.bool||b.bool⟩,0)
 else if op=13 then (⟨3,0,[],a==b⟩,0) else if op=14 then (⟨3,0,[],!(a==b)⟩,0) else if op=15 then (⟨3,0,[],l11 a b⟩,0) else if op=16 then (⟨3,0,[],!l11 b a⟩,0)
 else if a.kind=2 then t46 (a.str++b.str)
 else if (numR op a.int b.int).2=0 then (⟨1,(numR op a.int b.int).1,[],false⟩,0) else (v0,(numR op a.int b.int).2)
theorem vb_ (k n:Int) (s:Str) (t:Bool) (k' n':Int) (s':Str) (t':Bool):((⟨k,n,s,t⟩:Val)==⟨k',n',s',t'⟩)=(k==k'&&(n==n'&&(s==s'&&t==t'))):=by rw[yY];simp
