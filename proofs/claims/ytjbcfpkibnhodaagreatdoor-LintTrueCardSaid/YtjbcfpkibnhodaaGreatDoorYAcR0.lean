/-
  Running abstract code step by step: rules for the simplifier, and what is asked at a call, a test, a loop. Lists of values, and functions handed over: what proofs about loops share. Numbers as texts, in plain words. The numbers of functions and types. No claim is proved here.
-/
import Derived.Test.YtjbcfpkibnhodaaGreatDoorYAbFun
import Derived.Lib.ItoaNum
import Derived.Test.YtjbcfpkibnhodaaGreatDoorProg
namespace Go.Proofs.YtjbcfpkibnhodaaGreatDoor.Ab
open Go Go.RowKit
inductive Kt where
 | code (a:AC)
 | blk (id:Nat)
 | lp (I:Nat→St→Prop) (n:Nat) (kt kb:List Nat)
 | cut (S:St→Prop)
section
variable (P:Program) (G:Nat→Option AV) (Φ:St→Prop)
def den:List Kt→AE→St→Prop
 | [],e,st=>match e with | .exit _ =>False | _ =>Φ st
 | .code a::κ,e,st=>match e with | .normal=>awp P G a (den κ) st | e=>den κ e st
 | .blk id::κ,e,st=>match e with | .exit j=>if j=id then den κ .normal st else den κ (.exit j) st | e=>den κ e st
 | .lp I n kt kb::κ,e,st=>match e with | .normal=>∃m,m<n∧∃st0,Weak (st.trim kt kb) st0∧I m st0 | e=>den κ e st
 | .cut S::κ,e,st=>match e with | .normal=>S st | e=>den κ e st
def run (a:AC) (κ:List Kt) (st:St):Prop:=awp P G a (den P G Φ κ) st
def pop (κ:List Kt) (st:St):Prop:=den P G Φ κ .normal st
def unw (κ:List Kt) (id:Nat) (st:St):Prop:=den P G Φ κ (.exit id) st
def runO (q:Bool) (os:List AO) (kt:List Nat) (κ:List Kt) (st:St):Prop:=opsP P G q os st fun st'=>den P G Φ κ .normal {st' with env:=st'.trimE kt}
def r16 (q:Bool) (os:List AO) (kt:List Nat) (κ:List Kt):Option St→Prop
 | some st=>runO P G Φ q os kt κ st
 | none=>False
def c31 (q:Bool) (f:Nat) (args:List AV) (src:Option Opd×List Opd) (d:Option Nat) (st:St) (os:List AO) (kt:List Nat) (κ:List Kt):Prop:=
 c26 P G q f args src d st fun st'=>runO P G Φ q os kt κ st'
def c35 (q:Bool) (f:AV) (args:List AV) (src:Option Opd×List Opd) (d:Option Nat) (st:St) (os:List AO) (kt:List Nat) (κ:List Kt):Prop:=
 match f with
 | .fn f caps=>b_ P f=true∧c31 P G Φ q f (args++caps) src d st os kt κ
 | _ =>False
def c28 (q:Bool) (f:Nat) (args:List AV) (src:Option Opd×List Opd) (d:Option Nat) (st:St) (os:List AO) (kt:List Nat) (κ:List Kt):Prop:=
 c26 P G false f args src d st fun st'=>runO P G Φ q os kt κ st'
def c33 (q:Bool) (f:AV) (args:List AV) (src:Option Opd×List Opd) (d:Option Nat) (st:St) (os:List AO) (kt:List Nat) (κ:List Kt):Prop:=
 match f with
 | .fn f caps=>b_ P f=true∧c28 P G Φ q f (args++caps) src d st os kt κ
 | _ =>False
def grd (q:Bool) (v:AV) (t:Nat) (want:Bool) (d:Option Nat) (op:AOp) (os:List AO) (kt:List Nat) (κ:List Kt) (st:St):Prop:=
 match v with
 | .bool b=>(b=want→runO P G Φ q (⟨d,op,none⟩::os) kt κ (st.know t want))∧(b=(!want)→r16 P G Φ q os kt κ ((st.know t (!want)).put d .undef))
 | .undef=>r16 P G Φ q os kt κ (st.put d .undef)
 | _ =>False
def phD (ops:List AO) (k s:Nat) (_ktm kt:List Nat) (κ:List Kt) (d:Nat) (stn1 stn2:St):Prop:=
 a16 d stn1 stn2 (d13 ((ops.set k dumO).set s dumO))∧pop P G Φ κ ⟨stn2.N,stn2.trimE kt,stn2.heap⟩
def phE (ops:List AO) (k s:Nat) (ktm kt:List Nat) (κ:List Kt) (d:Nat) (st1 stn1:St):Option St→Prop
 | some stS=>runO P G Φ true ((ops.set k dumO).set s dumO) ktm [.cut (phD P G Φ ops k s ktm kt κ d stn1)] ⟨st1.N,st1.env,stS.heap⟩
 | none=>False
def phC (ops:List AO) (k s:Nat) (ktm kt:List Nat) (κ:List Kt) (d:Nat) (p x:Opd) (n:Nat) (st1 stn stn1:St):Prop:=
 a16 d stn stn1 (d13 ((ops.set k dumO).set s dumO))∧phE P G Φ ops k s ktm kt κ d st1 stn1 (e_ G none (.store p x n) stn1)
def phB (ops:List AO) (k s:Nat) (ktm kt:List Nat) (κ:List Kt) (d:Nat) (p x:Opd) (n:Nat) (st1 stn:St):Prop:=
 runO P G Φ true ((ops.set k dumO).set s dumO) ktm [.cut (phC P G Φ ops k s ktm kt κ d p x n st1 stn)] st1
def phO (ops:List AO) (k s:Nat) (ktm kt:List Nat) (κ:List Kt) (d:Nat) (p x:Opd) (n:Nat) (st:St):Option St→Prop
 | some st1=>runO P G Φ true ((ops.set k dumO).set s dumO) ktm [.cut (phB P G Φ ops k s ktm kt κ d p x n st1)] st
 | none=>False
def phA (ops:List AO) (k s:Nat) (ktm kt:List Nat) (κ:List Kt) (st:St):Option AO→Option AO→Prop
 | some ⟨some d,.alloc ty sz z,none⟩,some ⟨none,.store p x n,none⟩=>phO P G Φ ops k s ktm kt κ d p x n st (e_ G (some d) (.alloc ty sz z) st)
 | _,_ =>False
def stg (ops:List AO) (ktm kt:List Nat) (κ:List Kt) (ls:List Nat) (ph:List (List Nat×List Nat)) (st:St):Prop:=
 s17 P G ops ktm (fun X=>den P G Φ κ .normal {X with env:=X.trimE kt}) ls ph st
def stgO (ops:List AO) (ktm kt:List Nat) (κ:List Kt) (ls:List Nat) (ph:List (List Nat×List Nat)):Option St→Prop
 | some Y=>stg P G Φ ops ktm kt κ ls ph Y
 | none=>False
def stgL (ops:List AO) (ktm kt:List Nat) (κ:List Kt) (ls:List Nat) (ph:List (List Nat×List Nat)) (X:St):Option AO→Prop
 | some ⟨d,op,none⟩=>stgO P G Φ ops ktm kt κ ls ph (e_ G d op X)
 | _ =>False
def selO (ops:List AO) (is:List Nat):Option AO→List AO
 | some x=>x::selC ops is
 | none=>selC ops is
def tst (v:AV) (a b:AC) (κ:List Kt) (st:St):Prop:=
 match v with
 | .bool β=>(β=true→run P G Φ a κ st)∧(β=false→run P G Φ b κ st)
 | _ =>False
def enter (kt kb:List Nat) (a:AC) (κ:List Kt) (st:St):Prop:=
 ∃(I:Nat→St→Prop) (n:Nat),(∃st0,Weak (st.trim kt kb) st0∧I n st0)∧∀n st,I n st→run P G Φ a (.lp I n kt kb::κ) st
def a12 (I:Nat→St→Prop) (n:Nat) (st:St):Prop:=∃m,m<n∧∃st0,Weak st st0∧I m st0
end
section
variable {P:Program} {G:Nat→Option AV} {Φ:St→Prop} {q:Bool}
theorem rs17 (κ:List Kt) (st:St):run P G Φ .skip κ st=pop P G Φ κ st:=rfl
theorem rr12 (ops:List AO) (kt:List Nat) (κ:List Kt) (st:St):run P G Φ (.reg ops kt) κ st=runO P G Φ false ops kt κ st:=rfl
theorem rd11 (ops:List AO) (kt:List Nat) (κ:List Kt) (st:St):run P G Φ (.dreg ops kt) κ st=runO P G Φ true ops kt κ st:=rfl
theorem pe_ (ops:List AO) (k s:Nat) (ktm kt:List Nat) (κ:List Kt) (d:Nat) (stn1 stn2:St):phD P G Φ ops k s ktm kt κ d stn1 stn2=(a16 d stn1 stn2 (d13 ((ops.set k dumO).set s dumO))∧pop P G Φ κ ⟨stn2.N,stn2.trimE kt,stn2.heap⟩):=rfl
theorem ps19 (ops:List AO) (k s:Nat) (ktm kt:List Nat) (κ:List Kt) (d:Nat) (st1 stn1 stS:St):phE P G Φ ops k s ktm kt κ d st1 stn1 (some stS)=runO P G Φ true ((ops.set k dumO).set s dumO) ktm [.cut (phD P G Φ ops k s ktm kt κ d stn1)] ⟨st1.N,st1.env,stS.heap⟩:=rfl
theorem pe10 (ops:List AO) (k s:Nat) (ktm kt:List Nat) (κ:List Kt) (d:Nat) (p x:Opd) (n:Nat) (st1 stn stn1:St):phC P G Φ ops k s ktm kt κ d p x n st1 stn stn1=(a16 d stn stn1 (d13 ((ops.set k dumO).set s dumO))∧phE P G Φ ops k s ktm kt κ d st1 stn1 (e_ G none (.store p x n) stn1)):=rfl
theorem pe11 (ops:List AO) (k s:Nat) (ktm kt:List Nat) (κ:List Kt) (d:Nat) (p x:Opd) (n:Nat) (st1 stn:St):phB P G Φ ops k s ktm kt κ d p x n st1 stn=runO P G Φ true ((ops.set k dumO).set s dumO) ktm [.cut (phC P G Φ ops k s ktm kt κ d p x n st1 stn)] st1:=rfl
theorem ps18 (ops:List AO) (k s:Nat) (ktm kt:List Nat) (κ:List Kt) (d:Nat) (p x:Opd) (n:Nat) (st st1:St):phO P G Φ ops k s ktm kt κ d p x n st (some st1)=runO P G Φ true ((ops.set k dumO).set s dumO) ktm [.cut (phB P G Φ ops k s ktm kt κ d p x n st1)] st:=rfl
theorem ps16 (ops:List AO) (k s:Nat) (ktm kt:List Nat) (κ:List Kt) (st:St) (d ty sz:Nat) (z:AV) (p x:Opd) (n:Nat):phA P G Φ ops k s ktm kt κ st (some ⟨some d,.alloc ty sz z,none⟩) (some ⟨none,.store p x n,none⟩)=phO P G Φ ops k s ktm kt κ d p x n st (e_ G (some d) (.alloc ty sz z) st):=rfl
theorem rd10 (ops:List AO) (k s:Nat) (ktm kt:List Nat) (κ:List Kt) (st:St):run P G Φ (.dregA ops k s ktm kt) κ st=phA P G Φ ops k s ktm kt κ st (ops[k]?) (ops[s]?):=by
 have E:∀(d:Nat) (st1 stn1:St) (p x:Opd) (n:Nat),phE P G Φ ops k s ktm kt κ d st1 stn1 (e_ G none (.store p x n) stn1)↔∃stS,e_ G none (.store p x n) stn1=some stS∧runO P G Φ true ((ops.set k dumO).set s dumO) ktm [.cut (phD P G Φ ops k s ktm kt κ d stn1)] ⟨st1.N,st1.env,stS.heap⟩:=fun d st1 stn1 p x n=>by
  cases h:e_ G none (.store p x n) stn1 with
  | none=>exact⟨fun h=>h.elim,fun⟨_,h,_⟩=>by cases h⟩
  | some stS=>exact⟨fun h=>⟨stS,rfl,h⟩,fun⟨_,h1,h2⟩=>by cases h1;exact h2⟩
 apply propext
 constructor
 ·rintro⟨d,ty,sz,z,p,x,n,st1,h1,h2,h3,h4⟩
  rw[h1,h2,ps16,h3]
  exact om_ h4 fun stn h5=>om_ h5 fun stn1 h6=>⟨h6.1,(E _ _ _ _ _ _).2 h6.2⟩
 ·intro h
  unfold phA at h
  split at h
  ·rename_i d ty sz z p x n hk hs
   unfold phO at h
   split at h
   ·rename_i st1 h2
    exact⟨d,ty,sz,z,p,x,n,st1,hk,hs,h2,om_ h fun stn h5=>om_ h5 fun stn1 h6=>⟨h6.1,(E _ _ _ _ _ _).1 h6.2⟩⟩
   ·exact h.elim
  ·exact h.elim
theorem as50 (H:List (Nat×Box)) (z sz:Nat) (es:List AV) (lo hi:Option AV):a34 H z (.seq sz es) lo hi=aslc z (.seq sz es) lo hi:=rfl
theorem as49 (H:List (Nat×Box)) (z:Nat) (s:List UInt8) (lo hi:Option AV):a34 H z (.str s) lo hi=aslc z (.str s) lo hi:=rfl
theorem aa17 (H:List (Nat×Box)) (z i k n:Nat) (lo hi:Option AV):a34 H z (.arr i k n) lo hi=match hget H i with
  | some b=>if b.sz=z∧0<z then match lo.getD (.int .i64 0),hi.getD (.int .i64 n) with
   | .int _ l,.int _ h=>if 0≤l∧l≤h∧h≤n then some (.arr i (k+l.toNat) (h.toNat - l.toNat)) else none
   | _,_ =>none
   else none
  | none=>none:=rfl
theorem sn_ (ops:List AO):selC ops []=[]:=rfl
theorem sc10 (ops:List AO) (i:Nat) (is:List Nat):selC ops (i::is)=selO ops is (ops[i]?):=rfl
theorem ss18 (ops:List AO) (is:List Nat) (x:AO):selO ops is (some x)=x::selC ops is:=rfl
theorem an10 (X X':St):a22 X X' []=True:=rfl
theorem ac17 (X X':St) (t:Nat) (ts:List Nat):a22 X X' (t::ts)=(eget X'.env t=eget X.env t∧a22 X X' ts):=rfl
theorem rd_ (ops:List AO) (ls sa sb:List Nat) (ph:List (List Nat×List Nat)) (ktm kt:List Nat) (κ:List Kt) (st:St):run P G Φ (.dregC ops ls sa sb ph ktm kt) κ st=stg P G Φ ops ktm kt κ ls ph st:=rfl
theorem sn10 (ops:List AO) (ktm kt:List Nat) (κ:List Kt) (f l:List Nat) (r:List (List Nat×List Nat)) (st:St):stg P G Φ ops ktm kt κ [] ((f,l)::r) st=
  runO P G Φ true (selC ops f) ktm [.cut fun X=>runO P G Φ true (selC ops l) ktm [.cut fun X1=>a22 X X1 (d13 (selC ops l))∧pop P G Φ κ ⟨X.N,X.trimE kt,X.heap⟩] X] st:=rfl
theorem sc11 (ops:List AO) (ktm kt:List Nat) (κ:List Kt) (c:Nat) (ls f l:List Nat) (r:List (List Nat×List Nat)) (st:St):stg P G Φ ops ktm kt κ (c::ls) ((f,l)::r) st=
  runO P G Φ true (selC ops f) ktm [.cut fun X=>runO P G Φ true (selC ops l) ktm [.cut fun X1=>a22 X X1 (d13 (selC ops l))∧stgL P G Φ ops ktm kt κ ls r X (ops[c]?)] X] st:=by
 have E:∀X:St,(∃d op Y,ops[c]? =some ⟨d,op,none⟩∧e_ G d op X=some Y∧s17 P G ops ktm (fun X=>den P G Φ κ .normal {X with env:=X.trimE kt}) ls r Y)=stgL P G Φ ops ktm kt κ ls r X (ops[c]?):=fun X=>by
  apply propext
  generalize ops[c]? =y
  constructor
  ·rintro⟨d,op,Y,rfl,h1,h2⟩
   show stgO P G Φ ops ktm kt κ ls r (e_ G d op X)
   rw[h1]
   exact h2
  ·intro h
   unfold stgL at h
   split at h
   ·rename_i d op
    unfold stgO at h
    split at h
    ·rename_i Y hY
     exact⟨d,op,Y,rfl,hY,h⟩
    ·exact h.elim
   ·exact h.elim
 unfold stg
 simp only[s17,E]
 rfl
theorem ss17 (ops:List AO) (ktm kt:List Nat) (κ:List Kt) (ls:List Nat) (ph:List (List Nat×List Nat)) (X:St) (d:Option Nat) (op:AOp):stgL P G Φ ops ktm kt κ ls ph X (some ⟨d,op,none⟩)=stgO P G Φ ops ktm kt κ ls ph (e_ G d op X):=rfl
theorem ss16 (ops:List AO) (ktm kt:List Nat) (κ:List Kt) (ls:List Nat) (ph:List (List Nat×List Nat)) (Y:St):stgO P G Φ ops ktm kt κ ls ph (some Y)=stg P G Φ ops ktm kt κ ls ph Y:=rfl
theorem rs11 (a b:AC) (κ:List Kt) (st:St):run P G Φ (.seq a b) κ st=run P G Φ a (.code b::κ) st:=by
 unfold run
 rw[awp]
 congr 1
theorem rc16 (c:Opd) (a b:AC) (κ:List Kt) (st:St):run P G Φ (.cond c a b) κ st=tst P G Φ (st.ev G c) a b κ st:=by
 unfold run
 rw[awp]
 unfold tst run
 generalize st.ev G c=v
 cases v <;> rfl
theorem rb12 (id:Nat) (a:AC) (κ:List Kt) (st:St):run P G Φ (.block id a) κ st=run P G Φ a (.blk id::κ) st:=by
 unfold run
 rw[awp]
 congr 1
theorem rl11 (kt kb:List Nat) (a:AC) (κ:List Kt) (st:St):run P G Φ (.loop kt kb a) κ st=enter P G Φ kt kb a κ st:=by
 unfold run
 rw[awp]
 unfold enter run
 rfl
theorem re_ (id:Nat) (κ:List Kt) (st:St):run P G Φ (.exit id) κ st=unw P G Φ κ id st:=rfl
theorem rr11 (κ:List Kt) (st:St):run P G Φ .ret κ st=Φ st:=by
 show den P G Φ κ .ret st=Φ st
 induction κ with
 | nil=>rfl
 | cons k κ ih=>cases k <;> exact ih
theorem pn13 (st:St):pop P G Φ [] st=Φ st:=rfl
theorem pc_ (a:AC) (κ:List Kt) (st:St):pop P G Φ (.code a::κ) st=run P G Φ a κ st:=rfl
theorem pb_ (id:Nat) (κ:List Kt) (st:St):pop P G Φ (.blk id::κ) st=pop P G Φ κ st:=rfl
theorem pl16 (I:Nat→St→Prop) (n:Nat) (kt kb:List Nat) (κ:List Kt) (st:St):pop P G Φ (.lp I n kt kb::κ) st=a12 I n (st.trim kt kb):=rfl
theorem uc_ (a:AC) (κ:List Kt) (id:Nat) (st:St):unw P G Φ (.code a::κ) id st=unw P G Φ κ id st:=rfl
theorem ub_ (id j:Nat) (κ:List Kt) (st:St):unw P G Φ (.blk id::κ) j st=if j=id then pop P G Φ κ st else unw P G Φ κ j st:=rfl
theorem pc14 (S:St→Prop) (κ:List Kt) (st:St):pop P G Φ (.cut S::κ) st=S st:=rfl
theorem uc10 (S:St→Prop) (κ:List Kt) (id:Nat) (st:St):unw P G Φ (.cut S::κ) id st=unw P G Φ κ id st:=rfl
theorem ul12 (I:Nat→St→Prop) (n:Nat) (kt kb:List Nat) (κ:List Kt) (id:Nat) (st:St):unw P G Φ (.lp I n kt kb::κ) id st=unw P G Φ κ id st:=rfl
theorem rn11 (kt:List Nat) (κ:List Kt) (st:St):runO P G Φ q [] kt κ st=pop P G Φ κ ⟨st.N,st.trimE kt,st.heap⟩:=rfl
theorem rc15 (d:Option Nat) (f:Nat) (xs:List Opd) (os:List AO) (kt:List Nat) (κ:List Kt) (st:St):runO P G Φ q (⟨d,.call f xs,none⟩::os) kt κ st=c31 P G Φ q f (evs G st xs) (none,xs) d st os kt κ:=rfl
theorem rc13 (d:Option Nat) (f:Opd) (xs:List Opd) (os:List AO) (kt:List Nat) (κ:List Kt) (st:St):runO P G Φ q (⟨d,.callv f xs,none⟩::os) kt κ st=c35 P G Φ q (st.ev G f) (evs G st xs) (some f,xs) d st os kt κ:=by
 show opsP P G _ _ _ _ =_
 simp only[opsP,opP,s24,c35]
 generalize st.ev G f=v
 cases v <;> rfl
theorem rc14 (d:Option Nat) (f:Nat) (xs:List Opd) (os:List AO) (kt:List Nat) (κ:List Kt) (st:St):runO P G Φ q (⟨d,.callB f xs,none⟩::os) kt κ st=c28 P G Φ q f (evs G st xs) (none,xs) d st os kt κ:=rfl
theorem rc12 (d:Option Nat) (f:Opd) (xs:List Opd) (os:List AO) (kt:List Nat) (κ:List Kt) (st:St):runO P G Φ q (⟨d,.callvB f xs,none⟩::os) kt κ st=c33 P G Φ q (st.ev G f) (evs G st xs) (some f,xs) d st os kt κ:=by
 show opsP P G _ _ _ _ =_
 simp only[opsP,opP,s24,c33]
 generalize st.ev G f=v
 cases v <;> rfl
theorem cf_ (f:Nat) (caps args:List AV) (src:Option Opd×List Opd) (d:Option Nat) (st:St) (os:List AO) (kt:List Nat) (κ:List Kt):c33 P G Φ q (.fn f caps) args src d st os kt κ=(b_ P f=true∧c28 P G Φ q f (args++caps) src d st os kt κ):=rfl
theorem ro11 (d:Option Nat) (op:AOp) (os:List AO) (kt:List Nat) (κ:List Kt) (st:St) (h:(match op with | .call .. =>false | .callv .. =>false | .callB .. =>false | .callvB .. =>false | _ =>true)=true):runO P G Φ q (⟨d,op,none⟩::os) kt κ st=r16 P G Φ q os kt κ (e_ G d op st):=by
 show opsP P G _ _ _ _ =_
 cases op <;> first
  | (simp at h;done)
  | (simp only[opsP,opP,s24]
     generalize e_ G d _ st=r
     cases r <;> rfl)
theorem rg_ (d:Option Nat) (op:AOp) (t:Nat) (want:Bool) (os:List AO) (kt:List Nat) (κ:List Kt) (st:St):runO P G Φ q (⟨d,op,some (t,want)⟩::os) kt κ st=grd P G Φ q (eget st.env t) t want d op os kt κ st:=by
 show opsP P G _ _ _ _ =_
 simp only[opsP,opP,St.get,grd]
 generalize eget st.env t=v
 have e:∀(st:St),s28 d st (fun st'=>opsP P G q os st' fun st'=>den P G Φ κ .normal {st' with env:=st'.trimE kt})=r16 P G Φ q os kt κ (st.put d .undef):=fun st=>by
  unfold s28
  generalize st.put d .undef=r
  cases r <;> rfl
 cases v <;> first | rfl | exact e st | (simp only[e];rfl)
theorem rs16 (os:List AO) (kt:List Nat) (κ:List Kt) (st:St):r16 P G Φ q os kt κ (some st)=runO P G Φ q os kt κ st:=rfl
theorem tb11 (β:Bool) (a b:AC) (κ:List Kt) (st:St):tst P G Φ (.bool β) a b κ st=((β=true→run P G Φ a κ st)∧(β=false→run P G Φ b κ st)):=rfl
theorem tt11 (a b:AC) (κ:List Kt) (st:St):tst P G Φ (.bool true) a b κ st=run P G Φ a κ st:=by simp [tst]
theorem tf_ (a b:AC) (κ:List Kt) (st:St):tst P G Φ (.bool false) a b κ st=run P G Φ b κ st:=by simp [tst]
theorem gu_ (t:Nat) (want:Bool) (d:Option Nat) (op:AOp) (os:List AO) (kt:List Nat) (κ:List Kt) (st:St):grd P G Φ q .undef t want d op os kt κ st=r16 P G Φ q os kt κ (st.put d .undef):=rfl
theorem gs11 (t:Nat) (b:Bool) (d:Option Nat) (op:AOp) (os:List AO) (kt:List Nat) (κ:List Kt) (st:St):grd P G Φ q (.bool b) t b d op os kt κ st=runO P G Φ q (⟨d,op,none⟩::os) kt κ (st.know t b):=by cases b <;> simp [grd]
theorem gt11 (t:Nat) (d:Option Nat) (op:AOp) (os:List AO) (kt:List Nat) (κ:List Kt) (st:St):grd P G Φ q (.bool true) t false d op os kt κ st=r16 P G Φ q os kt κ ((st.know t true).put d .undef):=by simp [grd]
theorem gf_ (t:Nat) (d:Option Nat) (op:AOp) (os:List AO) (kt:List Nat) (κ:List Kt) (st:St):grd P G Φ q (.bool false) t true d op os kt κ st=r16 P G Φ q os kt κ ((st.know t false).put d .undef):=by simp [grd]
theorem cf10 (f:Nat) (caps args:List AV) (src:Option Opd×List Opd) (d:Option Nat) (st:St) (os:List AO) (kt:List Nat) (κ:List Kt):c35 P G Φ q (.fn f caps) args src d st os kt κ=(b_ P f=true∧c31 P G Φ q f (args++caps) src d st os kt κ):=rfl
theorem acf_ {f:Nat} {args:List AV} {src:Option Opd×List Opd} {d:Option Nat} {st:St} {os:List AO} {kt:List Nat} {κ:List Kt} {args' vargs:List AV} {r:AV} (hc:P_ P G f args' r) (hv:v10 r st.heap args=some vargs) (hf:FitL vargs args') {st':St} (hp:(b10 st args r).put d r=some st')
  (h:runO P G Φ q os kt κ st') (hq:q=true→q13 args r=true:=by first | (intro _;rfl) | (intro h;cases h)):c31 P G Φ q f args src d st os kt κ:=.inl (.inl (.inl ⟨vargs,args',r,st',hv,hf,hc,hp,hq,h⟩))
theorem ac10 {f:Nat} {args:List AV} {src:Option Opd×List Opd} {d:Option Nat} {st:St} {os:List AO} {kt:List Nat} {κ:List Kt} {args' vargs:List AV} {r:AV} (hc:P11 P G f args' r) (hv:viewBs st.heap args=some vargs) (hf:FitL vargs args') {st':St} (hp:st.put d r=some st')
  (h:runO P G Φ q os kt κ st'):c31 P G Φ q f args src d st os kt κ:=.inl (.inl (.inr ⟨vargs,args',r,st',hv,hf,hc,hp,h⟩))
theorem ac_ {f:Nat} {args:List AV} {src:Option Opd×List Opd} {d:Option Nat} {st:St} {os:List AO} {kt:List Nat} {κ:List Kt} {args':List AV} {r:AV} (hc:P_ P G f args' r) (hv:v10 r st.heap args=some args') {st':St} (hp:(b10 st args r).put d r=some st')
  (h:runO P G Φ q os kt κ st') (hq:q=true→q13 args r=true:=by first | (intro _;rfl) | (intro h;cases h)):c31 P G Φ q f args src d st os kt κ:=acf_ hc hv (FitL.refl _) hp h hq
theorem ac11 {f:Nat} {args:List AV} {src:Option Opd×List Opd} {d:Option Nat} {st:St} {os:List AO} {kt:List Nat} {κ:List Kt} {args':List AV} {H H':List (Nat×Box)} {r:AV} (I:List (Nat×Nat)) (hc:H_ P G f args' H r H') (ha:renO.go I args'=some args) (hg:G_ I st.heap H)
  {H2:List (Nat×Box)} {r2:AV} {st':St} (hr:renO I r=some r2) (ht:t27 I H'=some H2) (hp:(a26 st I H H2).put d r2=some st') (h:runO P G Φ false os kt κ st')
  (h1:n16 (ours I)=true:=by rfl) (h2:n16 (t14 I)=true:=by rfl) (h3:n20 st.N H I=true:=by rfl):c31 P G Φ false f args src d st os kt κ:=
 .inl (.inr ⟨rfl,I,args,args',H,H',H2,r,r2,st',FitL.refl _,ha,hg,h1,h2,h3,hc,hr,ht,hp,h⟩)
theorem ach_ {f:Nat} {args:List AV} {src:Option Opd×List Opd} {d:Option Nat} {st:St} {os:List AO} {kt:List Nat} {κ:List Kt} {args':List AV} {H H':List (Nat×Box)} {r:AV} (I:List (Nat×Nat)) (hc:H_ P G f args' H r H') (ha:renO.go I args'=some args) (hg:G_ I st.heap H)
  {H2:List (Nat×Box)} {r2:AV} {st':St} (hr:renO I r=some r2) (ht:t27 I H'=some H2) (hp:(a26 st I H H2).put d r2=some st') (h:runO P G Φ q os kt κ st')
  (h1:n16 (ours I)=true:=by rfl) (h2:n16 (t14 I)=true:=by rfl) (h3:n20 st.N H I=true:=by rfl):c28 P G Φ q f args src d st os kt κ:=
 .inl (.inr ⟨rfl,I,args,args',H,H',H2,r,r2,st',FitL.refl _,ha,hg,h1,h2,h3,hc,hr,ht,hp,h⟩)
theorem ag_ {b want:Bool} {t:Nat} {d:Option Nat} {op:AOp} {os:List AO} {kt:List Nat} {κ:List Kt} {st:St} (h1:b=want→runO P G Φ q (⟨d,op,none⟩::os) kt κ (st.know t want)) (h2:b=(!want)→r16 P G Φ q os kt κ ((st.know t (!want)).put d .undef)):grd P G Φ q (.bool b) t want d op os kt κ st:=⟨h1,h2⟩
theorem al_ {kt kb:List Nat} {a:AC} {κ:List Kt} {st:St} (I0:Nat→St→Prop) (n:Nat) (h0:I0 n (st.trim kt kb)) (h:∀I:Nat→St→Prop,(∀n st,I0 n st→I n st)→∀n st,I0 n st→run P G Φ a (.lp I n kt kb::κ) st):enter P G Φ kt kb a κ st:=⟨I0,n,⟨_,Weak.refl _,h0⟩,fun n st hi=>h I0 (fun _ _ h=>h) n st hi⟩
theorem al13 {kt kb:List Nat} {a:AC} {κ:List Kt} {st:St} (I0:Nat→St→Prop) (n:Nat) (st0:St) (hw:Weak (st.trim kt kb) st0) (h0:I0 n st0) (h:∀I:Nat→St→Prop,(∀n st,I0 n st→I n st)→∀n st,I0 n st→run P G Φ a (.lp I n kt kb::κ) st):enter P G Φ kt kb a κ st:=⟨I0,n,⟨st0,hw,h0⟩,fun n st hi=>h I0 (fun _ _ h=>h) n st hi⟩
theorem aa_ {I:Nat→St→Prop} {n:Nat} {st:St} (m:Nat) (hm:m<n) (h:I m st):a12 I n st:=⟨m,hm,st,Weak.refl st,h⟩
theorem ac19 {a b:AC} {κ:List Kt} {st:St} (S:St→Prop) (h1:run P G Φ a (.cut S::κ) st) (h2:∀st,S st→run P G Φ b κ st):run P G Φ (.seq a b) κ st:=by
 rw[rs11]
 refine am12 h1 fun e st' h=>?_
 cases e
 ·exact h2 _ h
 ·exact h
 ·exact h
end
theorem wrap_i64 {e:Int} (h1: -9223372036854775808≤e) (h2:e≤9223372036854775807):IntKind.i64.wrap e=e:=by
 have e1:(2:Int) ^ IntKind.i64.bits=18446744073709551616:=rfl
 have e2:(2:Int) ^ (IntKind.i64.bits - 1)=9223372036854775808:=rfl
 have e3:IntKind.i64.signed=true:=rfl
 unfold IntKind.wrap
 simp only[e1,e2,e3,Bool.true_and,decide_eq_true_eq]
 split <;> omega
section
variable (k:IntKind) (a b:Int)
theorem aa19:abin .add (.int k a) (.int k b)=some (.int k (k.wrap (a+b))):=by simp [abin]
theorem as59:abin .sub (.int k a) (.int k b)=some (.int k (k.wrap (a - b))):=by simp [abin]
theorem am13:abin .mul (.int k a) (.int k b)=some (.int k (k.wrap (a*b))):=by simp [abin]
theorem aq_ (h:b≠0):abin .quo (.int k a) (.int k b)=some (.int k (k.wrap (a.tdiv b))):=by simp [abin,h]
theorem ar12 (h:b≠0):abin .rem (.int k a) (.int k b)=some (.int k (a.tmod b)):=by simp [abin,h]
theorem aa18:abin .and (.int k a) (.int k b)=some (.int k (bAnd k a b)):=by show (if k=k then _ else _)=_;rw[if_pos rfl]
theorem ao12:abin .or (.int k a) (.int k b)=some (.int k (bOr k a b)):=by show (if k=k then _ else _)=_;rw[if_pos rfl]
theorem ax_:abin .xor (.int k a) (.int k b)=some (.int k (bXor k a b)):=by show (if k=k then _ else _)=_;rw[if_pos rfl]
theorem as61 (k':IntKind) (h:¬b<0):abin .shl (.int k a) (.int k' b)=some (.int k (bShl k a b)):=by simp [abin,h]
theorem as60 (k':IntKind) (h:¬b<0):abin .shr (.int k a) (.int k' b)=some (.int k (bShr k a b)):=by simp [abin,h]
theorem ae11:abin .eql (.int k a) (.int k b)=some (.bool (a==b)):=by simp [abin]
theorem an12:abin .neq (.int k a) (.int k b)=some (.bool (a != b)):=by simp [abin]
theorem al17:abin .lss (.int k a) (.int k b)=some (.bool (decide (a<b))):=by simp [abin]
theorem al18:abin .leq (.int k a) (.int k b)=some (.bool (decide (a≤b))):=by simp [abin]
theorem ag11:abin .gtr (.int k a) (.int k b)=some (.bool (decide (b<a))):=by simp [abin]
theorem ag12:abin .geq (.int k a) (.int k b)=some (.bool (decide (b≤a))):=by simp [abin]
theorem as57 (s t:List UInt8):abin .eql (.str s) (.str t)=some (.bool (s==t)):=by simp [abin]
theorem as52 (s t:List UInt8):abin .neq (.str s) (.str t)=some (.bool (!(s==t))):=by simp [abin]
theorem as53 (s t:List UInt8):abin .lss (.str s) (.str t)=some (.bool (Op.bytesLess s t)):=by simp [abin]
theorem as54 (s t:List UInt8):abin .leq (.str s) (.str t)=some (.bool (Op.bytesLess s t||s==t)):=by simp [abin]
theorem as55 (s t:List UInt8):abin .gtr (.str s) (.str t)=some (.bool (!(Op.bytesLess s t||s==t))):=by simp [abin]
theorem as56 (s t:List UInt8):abin .geq (.str s) (.str t)=some (.bool (!(Op.bytesLess s t))):=by simp [abin]
theorem as18 {H:List (Nat×Box)} {sz:Nat} {es:List AV} {e:AV} {n:Int} (h0:0≤n) (h:es[n.toNat]? =some e):a14 H sz (.seq sz es) (.int k n)=some (.eptr e 0):=by simp [a14,h0,h]
theorem as21 {s:List UInt8} {e:UInt8} {n:Int} (h0:0≤n) (h:s[n.toNat]? =some e):aidx (.str s) (.int k n)=some (.int .u8 e.toNat):=by simp [aidx,h0,h]
end
theorem ps17 (st:St) (d:Nat) (v:AV) (h:d<st.N):st.put (some d) v=some {st with env:=(d,v)::st.env}:=by simp [St.put,h]
theorem pn11 (st:St) (v:AV):st.put none v=some st:=rfl
theorem ns22 (st:St) (d:Nat) (b:Box) (v:AV) (h:d<st.N):st.new (some d) b v=some ⟨st.N,(d,v)::p_ d st.env,(d,b)::p10 d st.heap⟩:=by simp [St.new,h]
theorem R11.of {P:Program} {G:Nat→Option AV} {A:AFun} {args:List AV} {H H':List (Nat×Box)} {r:AV} (h:∀Φ:St→Prop,(∀st,H11 A r H' st→Φ st)→run P G Φ A.body [] ⟨A.N,a15 0 args,H⟩):R11 P G A args H r H':=by
 have:=h (H11 A r H') (fun _ h=>h)
 unfold run at this
 unfold R11
 have e:den P G (H11 A r H') []=P14 A r H':=by
  funext e st
  cases e <;> rfl
 rw[e] at this
 exact this
theorem R10.of {P:Program} {G:Nat→Option AV} {A:AFun} {args:List AV} {r:AV} (h:∀Φ:St→Prop,(∀st,H10 A r st→Φ st)→run P G Φ A.body [] ⟨A.N,a15 0 args,[]⟩):R10 P G A args r:=by
 have:=h (H10 A r) (fun _ h=>h)
 unfold run at this
 unfold R10
 have e:den P G (H10 A r) []=P13 A r:=by
  funext e st
  cases e <;> rfl
 rw[e] at this
 exact this
theorem Runs.of {P:Program} {G:Nat→Option AV} {A:AFun} {args:List AV} {r:AV} (h:∀Φ:St→Prop,(∀st,H12 A r st→Φ st)→run P G Φ A.body [] ⟨A.N,a15 0 args,[]⟩):Runs P G A args r:=by
 have:=h (H12 A r) (fun _ h=>h)
 unfold run at this
 unfold Runs
 have e:den P G (H12 A r) []=Post A r:=by
  funext e st
  cases e <;> rfl
 rw[e] at this
 exact this
attribute [go_sem_proc] Nat.reduceAdd Nat.reduceSub Nat.reduceMul Nat.reduceLT Nat.reduceLeDiff Nat.reduceEqDiff Nat.reduceBEq Int.reduceNeg Int.reduceAdd Int.reduceLT Int.reduceLE Int.reduceToNat Int.reduceEq Int.reduceNe Int.reduceBEq Int.reduceBNe Int.reduceMul Int.reduceSub reduceIte reduceCtorEq
attribute [go_sem] false_and and_false or_false false_or or_true true_or Bool.and_false Bool.false_and Bool.or_false Bool.false_or Bool.true_or Bool.or_true Nat.add_zero Nat.zero_add Int.toNat_natCast Int.toNat_zero Int.natCast_nonneg and_self and_true true_and ne_eq not_false_eq_true not_true_eq_false List.length_cons List.length_nil List.drop_zero List.drop_succ_cons List.take_succ_cons List.take_zero List.all_cons List.all_nil List.getElem?_cons_zero List.getElem?_cons_succ List.set_cons_zero List.nil_append List.cons_append List.append_nil Option.bind_some Option.map_some Option.some.injEq Option.getD_some Option.getD_none Option.map_none Bool.and_self Bool.and_true Bool.true_and Bool.not_true beq_true beq_false Bool.true_beq Bool.false_beq bne_self_eq_false Bool.not_false Bool.false_eq_true if_true if_false forall_const true_implies false_implies implies_true beq_self_eq_true BEq.rfl decide_true decide_false decide_eq_true_eq decide_eq_false_iff_not Bool.and_eq_true List.map_cons List.map_nil List.zip_cons_cons List.zip_nil_left List.zip_nil_right List.replicate_succ List.replicate_zero List.set_cons_succ
attribute [go_sem]               sn_ sc10 ss18 an10 ac17 rd_ sn10 sc11 ss17 ss16 rd10 ps16 ps18 pe11 pe10 pe_ ps19 dumO d13 a16 rs17 rr12 rd11 rs11 rc16 rb12 rl11 re_ rr11 pn13 pc_ pb_ pl16 pc14 uc_ ub_ ul12 uc10 rn11 rc15 rc13 rc14 rc12 cf_ ro11 rg_ rs16 tt11 tf_ tb11 gu_ gs11 gt11 gf_ cf10
 ps17 pn11 ns22 eget hget hset purge purge.go p_ p10 p11 St.ev evs e_ aa19 as59 am13 aq_ ar12 aa18 ao12 ax_ as61 as60 ae11 an12 al17 al18 ag11 ag12 as57 as52 as53 as54 as55 as56
 a39 a41 a50 mres k13 k14 m_ i13 aa17 as50 as49 aclr a36 amx a11 ab2s a28 a42 clean clean.go arng aeqA aeqB aeqP aeqI aeqs l10 andO aun a44 a38 alen aext a48 afld a43 a33 h15 a35 a18 a23 fits c24 r18 s18 AV.cells a19 St.trimE St.trimH St.trim f14 happ St.know r12 news aapp a15
 St.thaws St.thaw1 thaw thaw.go t25 t24 t22 view view.go v11 v10 viewBs viewB viewK viewK.go r13 r13.go r11 b10 a26 r_ i18 ours t14 purges p14 p12 r20 memb t27 renO renO.go renB look flat flat.go r15 one as21 as18
end Go.Proofs.YtjbcfpkibnhodaaGreatDoor.Ab
namespace Go.Proofs.YtjbcfpkibnhodaaGreatDoor.Ab
open Go
abbrev iv (n:Int):AV:=.int .i64 n
abbrev Str:=List UInt8
theorem fe_ {a b:AV} (h:a=b):Fit a b:=h ▸ .refl _
theorem fitB {a b:Bool} (h:a=b):Fit (.bool a) (.bool b):=h ▸ .refl _
theorem fitI {a b:Int} (h:a=b):Fit (iv a) (iv b):=h ▸ .refl _
structure OkC (caps:List AV):Prop where
 purge:∀i,purge.go i caps=caps
 viewK:∀rec H,viewK.go rec H caps=some caps
 view:∀H,view.go H caps=some caps
 thaw:∀i b,thaw.go i b caps=caps
 viewBs:∀H,viewBs H caps=some caps
 v11:∀H,v11 H caps=some caps
theorem on_:OkC []:=⟨fun _ =>rfl,fun _ _ =>rfl,fun _ =>rfl,fun _ _ =>rfl,fun _ =>rfl,fun _ =>rfl⟩
theorem am_ {α:Type} {e:α→AV} {H:List (Nat×Box)} {sz:Nat} {l:List α} {i:Nat} {x:α} (h:l[i]? =some x):a14 H sz (.seq sz (l.map e)) (.int .i64 (i:Int))=some (.eptr (e x) 0):=
 as18 _ (by omega) (by simp [h])
theorem ws_ {i n:Nat} (h:i<n) (hn:n<9223372036854775808):IntKind.i64.wrap ((i:Int)+1)=((i+1:Nat):Int):=by rw[wrap_i64 (by omega) (by omega)];omega
theorem as10 {α:Type} {l:List α} {i:Nat} (h:i<l.length):∃x,l[i]? =some x∧x∈l:=⟨l[i],List.getElem?_eq_getElem h,List.getElem_mem h⟩
def idxF {α:Type} (p:α→Bool) (l:List α):Int:=match l.findIdx? p with | some i=>(i:Int) | none=>-1
theorem ia10 {α:Type} {p:α→Bool} {l:List α} {i:Nat} {x:α} (hx:l[i]? =some x) (hp:p x=true) (hno:∀j y,j<i→l[j]? =some y→p y=false):idxF p l=i:=by
 have:l.findIdx? p=some i:=by
  rw[List.findIdx?_eq_some_iff_getElem]
  obtain⟨hlt,rfl⟩:=List.getElem?_eq_some_iff.1 hx
  exact⟨hlt,hp,fun j hj=>by simp [hno j _ hj (List.getElem?_eq_getElem (by omega))]⟩
 simp [idxF,this]
theorem in10 {α:Type} {p:α→Bool} {l:List α} (hno:∀j y,j<l.length→l[j]? =some y→p y=false):idxF p l= -1:=by
 have:l.findIdx? p=none:=by
  rw[List.findIdx?_eq_none_iff]
  intro x hx
  obtain⟨j,hj⟩:=List.getElem?_of_mem hx
  exact hno j x (List.getElem?_eq_some_iff.1 hj).1 hj
 simp [idxF,this]
theorem ia_ {α:Type} (p:α→Bool) (l:List α):decide (0≤idxF p l)=l.any p:=by
 unfold idxF
 cases h:l.findIdx? p with
 | none=>
  rw[List.findIdx?_eq_none_iff] at h
  rw[show l.any p=false by rw[List.any_eq_false];intro x hx;simp [h x hx]]
  rfl
 | some i=>
  rw[List.findIdx?_eq_some_iff_getElem] at h
  obtain⟨hlt,hp,_⟩:=h
  rw[show l.any p=true by rw[List.any_eq_true];exact⟨l[i],List.getElem_mem hlt,hp⟩]
  simp
def allI {α:Type} (p:Nat→α→Bool) (l:List α):Bool:=l.zipIdx.all fun x=>p x.2 x.1
theorem at10 {α:Type} {p:Nat→α→Bool} {l:List α}:allI p l=true↔∀i x,l[i]? =some x→p i x=true:=by
 simp only[allI,List.all_eq_true,Prod.forall]
 constructor
 ·intro h i x hx
  exact h x i (by rw[List.mem_zipIdx_iff_getElem?];exact hx)
 ·intro h x i hx
  rw[List.mem_zipIdx_iff_getElem?] at hx
  exact h i x hx
theorem af_ {α:Type} {p:Nat→α→Bool} {l:List α} {i:Nat} {x:α} (hx:l[i]? =some x) (hp:p i x=false):allI p l=false:=by
 cases h:allI p l with
 | false=>rfl
 | true=>rw[at10.1 h i x hx] at hp;cases hp
theorem ac18 {α:Type} (p:α→Bool) (l:List α):allI (fun _ =>p) l=l.all p:=by
 rw[Bool.eq_iff_iff,at10,List.all_eq_true]
 exact⟨fun h x hx=>let ⟨i,hi⟩:=List.getElem?_of_mem hx;h i x hi,fun h i x hx=>h x (List.mem_of_getElem? hx)⟩
theorem as11 {α:Type} {p:Nat→α→Bool} {l:List α} {i:Nat} {x:α} (hx:l[i]? =some x) (hp:p i x=true) (h:∀j y,j<i→l[j]? =some y→p j y=true):∀j y,j<i+1→l[j]? =some y→p j y=true:=fun j y hj hy=>by
 by_cases e:j=i
 ·subst e;rw[hx] at hy;cases hy;exact hp
 ·exact h j y (by omega) hy
theorem aa12 {α:Type} {p:Nat→α→Bool} {l:List α} {i:Nat} (hi:l.length≤i) (h:∀j y,j<i→l[j]? =some y→p j y=true):allI p l=true:=at10.2 fun j y hj=>h j y (by have:=(List.getElem?_eq_some_iff.1 hj).1;omega) hj
end Go.Proofs.YtjbcfpkibnhodaaGreatDoor.Ab
namespace Go.Proofs.YtjbcfpkibnhodaaGreatDoor.Ab
open Go
set_option linter.unusedSimpArgs false
theorem aa11 {a b:Str} (h:a.length+b.length≤9223372036854775807):abin .add (.str a) (.str b)=some (.str (a++b)):=by simp [abin,h]
def i64 (n:Int):Prop:=-9223372036854775808≤n∧n<9223372036854775808
def dgt (n:Nat):UInt8:=UInt8.ofNat (48+n)
theorem ip10 {n:Int} (h:0≤n):Lib.itoa n=Lib.decDigits n.toNat:=if_neg (by omega)
theorem ds12 {u:Nat} (h:u<10):Lib.decDigits u=[dgt u]:=by rw[Lib.decDigits,dif_pos h];rfl
theorem db_ {u:Nat} (h:¬u<10):Lib.decDigits u=Lib.decDigits (u / 10)++[dgt (u % 10)]:=by rw[Lib.decDigits,dif_neg h];rfl
end Go.Proofs.YtjbcfpkibnhodaaGreatDoor.Ab
namespace Go.Proofs.YtjbcfpkibnhodaaGreatDoor.Ab
open Go
abbrev ti_:Nat:=3
abbrev tb_:Nat:=4
abbrev ts_:Nat:=9
abbrev taQ_:Nat:=30
abbrev taC_:Nat:=43
abbrev ta11:Nat:=72
abbrev tSO_:Nat:=82
abbrev tlO_:Nat:=89
abbrev taV_:Nat:=95
abbrev ta10:Nat:=97
abbrev ta13:Nat:=99
abbrev taF_:Nat:=104
abbrev ta14:Nat:=106
abbrev tS10:Nat:=115
abbrev tS_:Nat:=120
abbrev taD_:Nat:=122
abbrev taS_:Nat:=125
abbrev taA_:Nat:=127
abbrev taN_:Nat:=129
abbrev taT_:Nat:=132
abbrev taH_:Nat:=147
abbrev ta12:Nat:=195
abbrev taE_:Nat:=217
abbrev tSe_:Nat:=252
abbrev tce_:Nat:=255
abbrev tfiib_:Nat:=256
abbrev tef_:Nat:=282
abbrev tew_:Nat:=317
abbrev tPw_:Nat:=321
abbrev np32:Nat:=7
abbrev np16:Nat:=13
abbrev np11:Nat:=17
abbrev np37:Nat:=25
abbrev np24:Nat:=28
abbrev np25:Nat:=41
abbrev npU_:Nat:=42
abbrev np35:Nat:=43
abbrev np34:Nat:=45
abbrev npa_:Nat:=46
abbrev nlA_:Nat:=47
abbrev nlT_:Nat:=48
abbrev nl11:Nat:=50
abbrev np17:Nat:=52
abbrev npE_:Nat:=53
abbrev npP_:Nat:=54
abbrev np18:Nat:=59
abbrev neF_:Nat:=67
abbrev ncR_:Nat:=69
abbrev npC_:Nat:=71
abbrev np22:Nat:=72
abbrev np21:Nat:=73
abbrev nps_:Nat:=74
abbrev npR_:Nat:=76
abbrev npF_:Nat:=77
abbrev np28:Nat:=78
abbrev npH_:Nat:=79
abbrev np33:Nat:=80
abbrev npw_:Nat:=81
abbrev nlr_:Nat:=82
abbrev nsClOlO_:Nat:=83
abbrev nlgaS_:Nat:=84
abbrev nlA1_:Nat:=85
abbrev nsCii_:Nat:=86
abbrev nlA2_:Nat:=87
abbrev nrK_:Nat:=88
abbrev nlgaF_:Nat:=89
abbrev nlA3_:Nat:=90
abbrev ns12:Nat:=91
abbrev nlA4_:Nat:=92
abbrev nlc_:Nat:=93
abbrev nlgaT_:Nat:=94
abbrev nlA5_:Nat:=95
abbrev nln_:Nat:=96
abbrev nlgaD_:Nat:=97
abbrev nlA6_:Nat:=98
abbrev nsCaSaS_:Nat:=99
abbrev nlA61_:Nat:=100
abbrev nl10:Nat:=109
abbrev ns16:Nat:=110
abbrev np12:Nat:=112
abbrev nvL_:Nat:=117
abbrev nvR_:Nat:=120
abbrev nnT_:Nat:=121
abbrev nsEaVaFaVaF_:Nat:=125
abbrev neF1_:Nat:=126
abbrev ncf_:Nat:=128
abbrev nch_:Nat:=129
abbrev nct_:Nat:=130
abbrev nc12:Nat:=131
abbrev nsCaTaT_:Nat:=132
abbrev npN_:Nat:=134
abbrev np14:Nat:=135
abbrev npK_:Nat:=136
abbrev np23:Nat:=137
abbrev np19:Nat:=138
abbrev np13:Nat:=139
abbrev np15:Nat:=140
abbrev npG_:Nat:=141
abbrev np31:Nat:=142
abbrev np27:Nat:=143
abbrev npp_:Nat:=144
abbrev npf_:Nat:=145
abbrev nsGlOlO_:Nat:=146
abbrev ns15:Nat:=147
abbrev nrt_:Nat:=148
abbrev ns11:Nat:=149
abbrev nrK1_:Nat:=150
abbrev nrK2_:Nat:=151
abbrev ns14:Nat:=152
abbrev nlc1_:Nat:=153
abbrev nsCaAaA_:Nat:=154
abbrev ns10:Nat:=155
abbrev nlc11_:Nat:=156
abbrev nlf_:Nat:=157
abbrev nsCaNaN_:Nat:=158
abbrev nln1_:Nat:=159
abbrev neV_:Nat:=160
abbrev nsIaSaS_:Nat:=161
abbrev npV_:Nat:=164
abbrev npL_:Nat:=167
abbrev nvI_:Nat:=178
abbrev nvS_:Nat:=179
abbrev nvB_:Nat:=180
abbrev nsF_:Nat:=181
abbrev nsC_:Nat:=188
abbrev nsN_:Nat:=189
abbrev ncn_:Nat:=190
abbrev ncaaQ_:Nat:=191
abbrev nch1_:Nat:=192
abbrev nvN_:Nat:=193
abbrev ncaaF_:Nat:=194
abbrev nch2_:Nat:=195
abbrev nce_:Nat:=196
abbrev nct1_:Nat:=197
abbrev nct2_:Nat:=198
abbrev nct21_:Nat:=199
abbrev nct211_:Nat:=200
abbrev nc11:Nat:=201
abbrev ncaaN_:Nat:=202
abbrev nct22_:Nat:=203
abbrev ncS_:Nat:=204
abbrev ncaaT_:Nat:=205
abbrev nc10:Nat:=206
abbrev nc13:Nat:=207
abbrev ncs11_:Nat:=208
abbrev ncs_:Nat:=209
abbrev ncai_:Nat:=210
abbrev ncs2_:Nat:=211
abbrev ncaaS_:Nat:=212
abbrev ncs3_:Nat:=213
abbrev ncs31_:Nat:=214
abbrev nsIaTaT_:Nat:=215
abbrev npW_:Nat:=216
abbrev np26:Nat:=217
abbrev npb_:Nat:=218
abbrev np36:Nat:=219
abbrev np29:Nat:=220
abbrev np20:Nat:=221
abbrev np30:Nat:=222
abbrev nsIii_:Nat:=223
abbrev nsIaAaA_:Nat:=224
abbrev ns13:Nat:=225
abbrev nsIaNaN_:Nat:=226
abbrev ncK_:Nat:=227
abbrev nefr_:Nat:=228
abbrev nee_:Nat:=229
abbrev npO_:Nat:=231
abbrev npB_:Nat:=233
abbrev nso_:Nat:=244
abbrev nsS_:Nat:=245
abbrev nsW_:Nat:=246
abbrev ncas_:Nat:=247
abbrev ncn1_:Nat:=248
abbrev nsIss_:Nat:=249
abbrev ncl_:Nat:=250
abbrev nvT_:Nat:=251
abbrev nsEaAiaAi_:Nat:=252
abbrev ncs1_:Nat:=253
abbrev nca_:Nat:=254
abbrev nsEaAaA_:Nat:=255
abbrev npT_:Nat:=256
abbrev nefn_:Nat:=258
abbrev neA_:Nat:=259
abbrev neI_:Nat:=260
abbrev npt_:Nat:=261
abbrev np10:Nat:=262
abbrev ns17:Nat:=270
abbrev nso1_:Nat:=271
abbrev nsS1_:Nat:=272
abbrev nsI_:Nat:=273
abbrev nsCss_:Nat:=274
abbrev nvw_:Nat:=275
abbrev nefq_:Nat:=276
abbrev nem_:Nat:=277
abbrev nvO_:Nat:=278
abbrev npA_:Nat:=285
abbrev npn_:Nat:=286
abbrev npS_:Nat:=287
abbrev npM_:Nat:=288
abbrev npD_:Nat:=289
abbrev nsIaDaD_:Nat:=294
abbrev nsF1_:Nat:=295
abbrev nsi_:Nat:=296
abbrev nbG_:Nat:=297
abbrev nvt_:Nat:=298
abbrev nv10:Nat:=299
abbrev nnO_:Nat:=300
abbrev nnS_:Nat:=305
abbrev nnA_:Nat:=306
abbrev nnM_:Nat:=307
abbrev nnD_:Nat:=308
abbrev nn10:Nat:=309
abbrev nmbM_:Nat:=310
abbrev nns_:Nat:=311
abbrev nnN_:Nat:=312
theorem pcR {f:Nat} {fn:Func} {A:AFun} (hf:Tryz.prog.funcs[f]? =some fn) (hc:chkF Tryz.prog fn A=true) {G:Nat→Option AV} {args:List AV} {r:AV} (h:Runs Tryz.prog G A args r) (hk:args.length=A.k:=by rfl):P_ Tryz.prog G f args r:=P_.of_runs hf hc hk h
abbrev op (d:Nat) (x:AOp):AO:=⟨some d,x,none⟩
abbrev oG (d:Nat) (x:AOp) (t:Nat) (b:Bool):AO:=⟨some d,x,some (t,b)⟩
abbrev oM (d x:Nat):AO:=⟨some d,.mov (.t x),none⟩
abbrev oN (d p n:Nat):AO:=⟨some d,.loadN (.t p) n,none⟩
abbrev oL (d p:Nat):AO:=⟨some d,.load (.t p),none⟩
abbrev oF (d p n:Nat):AO:=⟨some d,.faddr (.t p) n,none⟩
abbrev oI (d z x i:Nat):AO:=⟨some d,.iaddr z (.t x) (.t i),none⟩
abbrev oB (d:Nat) (o:BinOp) (x y:Nat):AO:=⟨some d,.bin o (.t x) (.t y),none⟩
abbrev oK (d:Nat) (o:BinOp) (x:Nat) (k:Int):AO:=⟨some d,.bin o (.t x) (.k (.int .i64 k)),none⟩
abbrev oE (d x i:Nat):AO:=⟨some d,.ext (.t x) i,none⟩
abbrev oZ (d x:Nat):AO:=⟨some d,.len false (.t x),none⟩
abbrev oA (d x y:Nat):AO:=⟨some d,.pick (.t x) (.t y) (.k (.bool false)),none⟩
abbrev oO (d x y:Nat):AO:=⟨some d,.pick (.t x) (.k (.bool true)) (.t y),none⟩
abbrev oU (d x:Nat):AO:=⟨some d,.un .not (.t x),none⟩
abbrev oV (d:Nat) (b:Bool):AO:=⟨some d,.mov (.k (.bool b)),none⟩
abbrev oC (d:Nat) (k:Int):AO:=⟨some d,.mov (.k (.int .i64 k)),none⟩
abbrev qM (d x t:Nat) (b:Bool):AO:=⟨some d,.mov (.t x),some (t,b)⟩
abbrev qL (d p t:Nat) (b:Bool):AO:=⟨some d,.load (.t p),some (t,b)⟩
abbrev qN (d p n t:Nat) (b:Bool):AO:=⟨some d,.loadN (.t p) n,some (t,b)⟩
abbrev qF (d p n t:Nat) (b:Bool):AO:=⟨some d,.faddr (.t p) n,some (t,b)⟩
abbrev qI (d z x i t:Nat) (b:Bool):AO:=⟨some d,.iaddr z (.t x) (.t i),some (t,b)⟩
abbrev qB (d:Nat) (o:BinOp) (x y t:Nat) (b:Bool):AO:=⟨some d,.bin o (.t x) (.t y),some (t,b)⟩
abbrev qK (d:Nat) (o:BinOp) (x:Nat) (k:Int) (t:Nat) (b:Bool):AO:=⟨some d,.bin o (.t x) (.k (.int .i64 k)),some (t,b)⟩
abbrev qA (d x y t:Nat) (b:Bool):AO:=⟨some d,.pick (.t x) (.t y) (.k (.bool false)),some (t,b)⟩
abbrev qO (d x y t:Nat) (b:Bool):AO:=⟨some d,.pick (.t x) (.k (.bool true)) (.t y),some (t,b)⟩
end Go.Proofs.YtjbcfpkibnhodaaGreatDoor.Ab
