/- Lemmas. -/
import Derived.Test.YtkgcnoghjibiaaaGreatDoorYAbFun
set_option linter.unusedSimpArgs false
namespace Go.Proofs.YtkgcnoghjibiaaaGreatDoor.Ab
open Go Go.RowKit
inductive Kt where
 | code (a:AC)
 | blk (id:Nat)
 | lp (I:Nat->St->Prop) (n:Nat) (kt kb:List Nat)
 | cut (S:St->Prop)
section
variable (P:Program) (G:Nat->Option AV) (Φ:St->Prop)
def den:List Kt->AE->St->Prop
 | [],e,st=>match e with | .exit _ =>False | _ =>Φ st
 | .code a::κ,e,st=>match e with | .normal=>awp P G a (den κ) st | e=>den κ e st
 | .blk id::κ,e,st=>match e with | .exit j=>if j=id then den κ .normal st else den κ (.exit j) st | e=>den κ e st
 | .lp I n kt kb::κ,e,st=>match e with | .normal=>∃m,m<n∧∃st0,Weak (st.trim kt kb) st0∧I m st0 | e=>den κ e st
 | .cut S::κ,e,st=>match e with | .normal=>S st | e=>den κ e st
def run (a:AC) (κ:List Kt) (st:St):Prop:=awp P G a (den P G Φ κ) st
def pop (κ:List Kt) (st:St):Prop:=den P G Φ κ .normal st
def unw (κ:List Kt) (id:Nat) (st:St):Prop:=den P G Φ κ (.exit id) st
def runO (q:Bool) (os:List AO) (kt:List Nat) (κ:List Kt) (st:St):Prop:=opsP P G q os st λst'=>den P G Φ κ .normal {st' with env:=st'.trimE kt}
def r21 (q:Bool) (os:List AO) (kt:List Nat) (κ:List Kt):Option St->Prop
 | some st=>runO P G Φ q os kt κ st
 | none=>False
def c27 (q:Bool) (f:Nat) (args:List AV) (src:Option Opd×List Opd) (d:Option Nat) (st:St) (os:List AO) (kt:List Nat) (κ:List Kt):Prop:=
 c24 P G q f args src d st λst'=>runO P G Φ q os kt κ st'
def c34 (q:Bool) (f:AV) (args:List AV) (src:Option Opd×List Opd) (d:Option Nat) (st:St) (os:List AO) (kt:List Nat) (κ:List Kt):Prop:=
 match f with
 | .fn f caps=>b11 P f=true∧c27 P G Φ q f (args++caps) src d st os kt κ
 | _ =>False
def c26 (q:Bool) (f:Nat) (args:List AV) (src:Option Opd×List Opd) (d:Option Nat) (st:St) (os:List AO) (kt:List Nat) (κ:List Kt):Prop:=
 c24 P G false f args src d st λst'=>runO P G Φ q os kt κ st'
def c31 (q:Bool) (f:AV) (args:List AV) (src:Option Opd×List Opd) (d:Option Nat) (st:St) (os:List AO) (kt:List Nat) (κ:List Kt):Prop:=
 match f with
 | .fn f caps=>b11 P (fnN f)=true∧c26 P G Φ q (fnN f) (fnA f caps args) src d st os kt κ
 | _ =>False
def grd (q:Bool) (v:AV) (t:Nat) (want:Bool) (d:Option Nat) (op:AOp) (os:List AO) (kt:List Nat) (κ:List Kt) (st:St):Prop:=
 match v with
 | .bool b=>(b=want->runO P G Φ q (⟨d,op,none⟩::os) kt κ (st.know t want))∧(b=(!want)->r21 P G Φ q os kt κ ((st.know t (!want)).put d .undef))
 | .undef=>r21 P G Φ q os kt κ (st.put d .undef)
 | _ =>False
def phD (ops:List AO) (k s:Nat) (_ktm kt:List Nat) (κ:List Kt) (d:Nat) (stn1 stn2:St):Prop:=
 a26 d stn1 stn2 (d16 ((ops.set k dumO).set s dumO))∧pop P G Φ κ ⟨stn2.N,stn2.trimE kt,stn2.heap⟩
def phE (ops:List AO) (k s:Nat) (ktm kt:List Nat) (κ:List Kt) (d:Nat) (st1 stn1:St):Option St->Prop
 | some stS=>runO P G Φ true ((ops.set k dumO).set s dumO) ktm [.cut (phD P G Φ ops k s ktm kt κ d stn1)] ⟨st1.N,st1.env,stS.heap⟩
 | none=>False
def phC (ops:List AO) (k s:Nat) (ktm kt:List Nat) (κ:List Kt) (d:Nat) (p x:Opd) (n:Nat) (st1 stn stn1:St):Prop:=
 a26 d stn stn1 (d16 ((ops.set k dumO).set s dumO))∧phE P G Φ ops k s ktm kt κ d st1 stn1 (e12 G none (.store p x n) stn1)
def phB (ops:List AO) (k s:Nat) (ktm kt:List Nat) (κ:List Kt) (d:Nat) (p x:Opd) (n:Nat) (st1 stn:St):Prop:=
 runO P G Φ true ((ops.set k dumO).set s dumO) ktm [.cut (phC P G Φ ops k s ktm kt κ d p x n st1 stn)] st1
def phO (ops:List AO) (k s:Nat) (ktm kt:List Nat) (κ:List Kt) (d:Nat) (p x:Opd) (n:Nat) (st:St):Option St->Prop
 | some st1=>runO P G Φ true ((ops.set k dumO).set s dumO) ktm [.cut (phB P G Φ ops k s ktm kt κ d p x n st1)] st
 | none=>False
def stg (ops:List AO) (ktm kt:List Nat) (κ:List Kt) (ls:List Nat) (ph:List (List Nat×List Nat)) (st:St):Prop:=
 s34 P G ops ktm (λX=>den P G Φ κ .normal {X with env:=X.trimE kt}) ls ph st
def stgO (ops:List AO) (ktm kt:List Nat) (κ:List Kt) (ls:List Nat) (ph:List (List Nat×List Nat)):Option St->Prop
 | some Y=>stg P G Φ ops ktm kt κ ls ph Y
 | none=>False
def stgL (ops:List AO) (ktm kt:List Nat) (κ:List Kt) (ls:List Nat) (ph:List (List Nat×List Nat)) (X:St):Option AO->Prop
 | some ⟨d,op,none⟩=>stgO P G Φ ops ktm kt κ ls ph (e12 G d op X)
 | _ =>False
def stgT (ops:List AO) (ktm kt:List Nat) (κ:List Kt) (tr:DT) (X:St):Prop:=
 t41 P G ops ktm (λX=>den P G Φ κ .normal {X with env:=X.trimE kt}) tr X
def cutB (ops:List AO) (ktm kt:List Nat) (κ:List Kt) (l:List Nat) (sub:DT) (X0 X1:St):Prop:=a18 X0 X1 (d16 (selC ops l))∧stgT P G Φ ops ktm kt κ sub X0
def cutA (ops:List AO) (ktm kt:List Nat) (κ:List Kt) (l:List Nat) (sub:DT) (X0:St):Prop:=runO P G Φ true (selC ops l) ktm [.cut (cutB P G Φ ops ktm kt κ l sub X0)] X0
def lstT (ops:List AO) (ktm kt:List Nat) (κ:List Kt) (f l:List Nat) (sub:DT):Option St->Prop
 | some Y=>runO P G Φ true (selC ops f) ktm [.cut (cutA P G Φ ops ktm kt κ l sub)] Y
 | none=>False
def l23 (ops:List AO) (ktm kt:List Nat) (κ:List Kt) (f l:List Nat) (sub:DT) (g:Nat) (args:List AV) (d:Option Nat) (X:St):Prop:=c20 P G false g args d X λY=>lstT P G Φ ops ktm kt κ f l sub (some Y)
def lstK (ops:List AO) (ktm kt:List Nat) (κ:List Kt) (f l:List Nat) (sub:DT) (X:St):Option AO->Prop
 | some ⟨d,.callB g xs,none⟩=>l23 P G Φ ops ktm kt κ f l sub g (evs G X xs) d X
 | some ⟨d,op,none⟩=>lstT P G Φ ops ktm kt κ f l sub (e12 G d op X)
 | _ =>False
def selO (ops:List AO) (is:List Nat):Option AO->List AO
 | some x=>x::selC ops is
 | none=>selC ops is
def tst (v:AV) (a b:AC) (κ:List Kt) (st:St):Prop:=
 match v with
 | .bool β=>(β=true->run P G Φ a κ st)∧(β=false->run P G Φ b κ st)
 | _ =>False
def enter (kt kb:List Nat) (a:AC) (κ:List Kt) (st:St):Prop:=
 ∃(I:Nat->St->Prop) (n:Nat),(∃st0,Weak (st.trim kt kb) st0∧I n st0)∧∀n st,I n st->run P G Φ a (.lp I n kt kb::κ) st
def a13 (I:Nat->St->Prop) (n:Nat) (st:St):Prop:=∃m,m<n∧∃st0,Weak st st0∧I m st0
end
section
variable {P:Program} {G:Nat->Option AV} {Φ:St->Prop} {q:Bool}
theorem rs21 (κ:List Kt) (st:St):run P G Φ .skip κ st=pop P G Φ κ st:=rfl
theorem rr13 (ops:List AO) (kt:List Nat) (κ:List Kt) (st:St):run P G Φ (.reg ops kt) κ st=runO P G Φ false ops kt κ st:=rfl
theorem rd10 (ops:List AO) (kt:List Nat) (κ:List Kt) (st:St):run P G Φ (.dreg ops kt) κ st=runO P G Φ true ops kt κ st:=rfl
theorem pe10 (ops:List AO) (k s:Nat) (ktm kt:List Nat) (κ:List Kt) (d:Nat) (stn1 stn2:St):phD P G Φ ops k s ktm kt κ d stn1 stn2=(a26 d stn1 stn2 (d16 ((ops.set k dumO).set s dumO))∧pop P G Φ κ ⟨stn2.N,stn2.trimE kt,stn2.heap⟩):=rfl
theorem ps13 (ops:List AO) (k s:Nat) (ktm kt:List Nat) (κ:List Kt) (d:Nat) (st1 stn1 stS:St):phE P G Φ ops k s ktm kt κ d st1 stn1 (some stS)=runO P G Φ true ((ops.set k dumO).set s dumO) ktm [.cut (phD P G Φ ops k s ktm kt κ d stn1)] ⟨st1.N,st1.env,stS.heap⟩:=rfl
theorem pe11 (ops:List AO) (k s:Nat) (ktm kt:List Nat) (κ:List Kt) (d:Nat) (p x:Opd) (n:Nat) (st1 stn stn1:St):phC P G Φ ops k s ktm kt κ d p x n st1 stn stn1=(a26 d stn stn1 (d16 ((ops.set k dumO).set s dumO))∧phE P G Φ ops k s ktm kt κ d st1 stn1 (e12 G none (.store p x n) stn1)):=rfl
theorem pe12 (ops:List AO) (k s:Nat) (ktm kt:List Nat) (κ:List Kt) (d:Nat) (p x:Opd) (n:Nat) (st1 stn:St):phB P G Φ ops k s ktm kt κ d p x n st1 stn=runO P G Φ true ((ops.set k dumO).set s dumO) ktm [.cut (phC P G Φ ops k s ktm kt κ d p x n st1 stn)] st1:=rfl
theorem ps12 (ops:List AO) (k s:Nat) (ktm kt:List Nat) (κ:List Kt) (d:Nat) (p x:Opd) (n:Nat) (st st1:St):phO P G Φ ops k s ktm kt κ d p x n st (some st1)=runO P G Φ true ((ops.set k dumO).set s dumO) ktm [.cut (phB P G Φ ops k s ktm kt κ d p x n st1)] st:=rfl
theorem as42 (H:List (Nat×Box)) (z sz:Nat) (es:List AV) (lo hi:Option AV):a31 H z (.seq sz es) lo hi=aslc z (.seq sz es) lo hi:=rfl
theorem as41 (H:List (Nat×Box)) (z:Nat) (s:List UInt8) (lo hi:Option AV):a31 H z (.str s) lo hi=aslc z (.str s) lo hi:=rfl
theorem aa18 (H:List (Nat×Box)) (z i k n:Nat) (lo hi:Option AV):a31 H z (.arr i k n) lo hi=match hget H i with
  | some b=>if b.sz=z∧0<z then match lo.getD (.int .i64 0),hi.getD (.int .i64 n) with
   | .int _ l,.int _ h=>if 0<=l∧l<=h∧h<=n then some (.arr i (k+l.toNat) (h.toNat - l.toNat)) else none
   | _,_ =>none
   else none
  | none=>none:=rfl
theorem sn11 (ops:List AO):selC ops []=[]:=rfl
theorem sc10 (ops:List AO) (i:Nat) (is:List Nat):selC ops (i::is)=selO ops is (ops[i]?):=rfl
theorem ss19 (ops:List AO) (is:List Nat) (x:AO):selO ops is (some x)=x::selC ops is:=rfl
theorem an10 (X X':St):a18 X X' []=True:=rfl
theorem ac19 (X X':St) (t:Nat) (ts:List Nat):a18 X X' (t::ts)=(eget X'.env t=eget X.env t∧a18 X X' ts):=rfl
theorem sn12 (ops:List AO) (ktm kt:List Nat) (κ:List Kt) (f l:List Nat) (r:List (List Nat×List Nat)) (st:St):stg P G Φ ops ktm kt κ [] ((f,l)::r) st=
  runO P G Φ true (selC ops f) ktm [.cut λX=>runO P G Φ true (selC ops l) ktm [.cut λX1=>a18 X X1 (d16 (selC ops l))∧pop P G Φ κ ⟨X.N,X.trimE kt,X.heap⟩] X] st:=rfl
theorem sc11 (ops:List AO) (ktm kt:List Nat) (κ:List Kt) (c:Nat) (ls f l:List Nat) (r:List (List Nat×List Nat)) (st:St):stg P G Φ ops ktm kt κ (c::ls) ((f,l)::r) st=
  runO P G Φ true (selC ops f) ktm [.cut λX=>runO P G Φ true (selC ops l) ktm [.cut λX1=>a18 X X1 (d16 (selC ops l))∧stgL P G Φ ops ktm kt κ ls r X (ops[c]?)] X] st:=by
 have E:∀X:St,(∃d op Y,ops[c]?=some ⟨d,op,none⟩∧e12 G d op X=some Y∧s34 P G ops ktm (λX=>den P G Φ κ .normal {X with env:=X.trimE kt}) ls r Y)=stgL P G Φ ops ktm kt κ ls r X (ops[c]?):=λX=>by
  apply propext;generalize ops[c]? =y;constructor
  .rintro⟨d,op,Y,rfl,h1,h2⟩;show stgO P G Φ ops ktm kt κ ls r (e12 G d op X);rw[h1];exact h2
  .intro h;unfold stgL at h;split at h
   .rename_i d op;unfold stgO at h;split at h
    .rename_i Y hY;exact⟨d,op,Y,rfl,hY,h⟩
    .exact h.elim
   .exact h.elim
 unfold stg;simp only[s34,E];rfl
theorem rd_ (ops:List AO) (ls:List Nat) (en fb:List (List Nat)) (f0:List Nat) (tr:DT) (ktm kt:List Nat) (κ:List Kt) (st:St):run P G Φ (.dregT ops ls en fb f0 tr ktm kt) κ st=runO P G Φ true (selC ops f0) ktm [.cut (stgT P G Φ ops ktm kt κ tr)] st:=rfl
theorem sf13 (ops:List AO) (ktm kt:List Nat) (κ:List Kt) (X:St):stgT P G Φ ops ktm kt κ .fin X=pop P G Φ κ ⟨X.N,X.trimE kt,X.heap⟩:=rfl
theorem sn10 (ops:List AO) (ktm kt:List Nat) (κ:List Kt) (X:St):stgT P G Φ ops ktm kt κ .nil X=True:=rfl
theorem ls14 (ops:List AO) (ktm kt:List Nat) (κ:List Kt) (f l:List Nat) (sub:DT) (Y:St):lstT P G Φ ops ktm kt κ f l sub (some Y)=runO P G Φ true (selC ops f) ktm [.cut (cutA P G Φ ops ktm kt κ l sub)] Y:=rfl
theorem ce10 (ops:List AO) (ktm kt:List Nat) (κ:List Kt) (l:List Nat) (sub:DT) (X0:St):cutA P G Φ ops ktm kt κ l sub X0=runO P G Φ true (selC ops l) ktm [.cut (cutB P G Φ ops ktm kt κ l sub X0)] X0:=rfl
theorem ce_ (ops:List AO) (ktm kt:List Nat) (κ:List Kt) (l:List Nat) (sub:DT) (X0 X1:St):cutB P G Φ ops ktm kt κ l sub X0 X1=(a18 X0 X1 (d16 (selC ops l))∧stgT P G Φ ops ktm kt κ sub X0):=rfl
theorem lc_ (ops:List AO) (ktm kt:List Nat) (κ:List Kt) (f l:List Nat) (sub:DT) (X:St) (d:Option Nat) (g:Nat) (xs:List Opd):lstK P G Φ ops ktm kt κ f l sub X (some ⟨d,.callB g xs,none⟩)=l23 P G Φ ops ktm kt κ f l sub g (evs G X xs) d X:=rfl
theorem ln_ (ops:List AO) (ktm kt:List Nat) (κ:List Kt) (f l:List Nat) (sub:DT) (X:St) (d:Option Nat) (a b:Nat):lstK P G Φ ops ktm kt κ f l sub X (some ⟨d,.nilrow a b,none⟩)=lstT P G Φ ops ktm kt κ f l sub (e12 G d (.nilrow a b) X):=rfl
theorem la11 (ops:List AO) (ktm kt:List Nat) (κ:List Kt) (f l:List Nat) (sub:DT) (X:St) (d:Option Nat) (a b:Nat) (z:AV):lstK P G Φ ops ktm kt κ f l sub X (some ⟨d,.alloc a b z,none⟩)=lstT P G Φ ops ktm kt κ f l sub (e12 G d (.alloc a b z) X):=rfl
theorem lb_ (ops:List AO) (ktm kt:List Nat) (κ:List Kt) (f l:List Nat) (sub:DT) (X:St) (d:Option Nat) (a b:Nat) (z:Opd):lstK P G Φ ops ktm kt κ f l sub X (some ⟨d,.box a b z,none⟩)=lstT P G Φ ops ktm kt κ f l sub (e12 G d (.box a b z) X):=rfl
theorem lm10 (ops:List AO) (ktm kt:List Nat) (κ:List Kt) (f l:List Nat) (sub:DT) (X:St) (d:Option Nat) (a b n:Nat) (z:AV) (ps:List (Nat×Opd)):lstK P G Φ ops ktm kt κ f l sub X (some ⟨d,.mkrow a b n z ps,none⟩)=lstT P G Φ ops ktm kt κ f l sub (e12 G d (.mkrow a b n z ps) X):=rfl
theorem lm13 (ops:List AO) (ktm kt:List Nat) (κ:List Kt) (f l:List Nat) (sub:DT) (X:St) (d:Option Nat) (a b e:Nat) (z:AV) (n c:Opd):lstK P G Φ ops ktm kt κ f l sub X (some ⟨d,.mks a b e z n c,none⟩)=lstT P G Φ ops ktm kt κ f l sub (e12 G d (.mks a b e z n c) X):=rfl
theorem ls11 (ops:List AO) (ktm kt:List Nat) (κ:List Kt) (f l:List Nat) (sub:DT) (X:St) (d:Option Nat) (p x:Opd) (n:Nat):lstK P G Φ ops ktm kt κ f l sub X (some ⟨d,.store p x n,none⟩)=lstT P G Φ ops ktm kt κ f l sub (e12 G d (.store p x n) X):=rfl
theorem la12 (ops:List AO) (ktm kt:List Nat) (κ:List Kt) (f l:List Nat) (sub:DT) (X:St) (d:Option Nat) (a b c:Nat) (x y:Opd):lstK P G Φ ops ktm kt κ f l sub X (some ⟨d,.app a b c x y,none⟩)=lstT P G Φ ops ktm kt κ f l sub (e12 G d (.app a b c x y) X):=rfl
theorem sn_ (ops:List AO) (ktm kt:List Nat) (κ:List Kt) (c:Nat) (f l:List Nat) (sub rest:DT) (X:St):stgT P G Φ ops ktm kt κ (.next c f l sub rest) X=(lstK P G Φ ops ktm kt κ f l sub X (ops[c]?)∧stgT P G Φ ops ktm kt κ rest X):=by
 have E:∀y:Option St,(∃Y,y=some Y∧lstT P G Φ ops ktm kt κ f l sub (some Y))=lstT P G Φ ops ktm kt κ f l sub y:=λy=>by
  apply propext;cases y with
  | none=>exact⟨(λ⟨_,h,_⟩=>by cases h),(λh=>h.elim)⟩
  | some Y=>exact⟨(λ⟨_,h1,h2⟩=>by cases h1;exact h2),(λh=>⟨Y,rfl,h⟩)⟩
 have E2:∀o:Option AO,l16 P G o X (λY=>lstT P G Φ ops ktm kt κ f l sub (some Y))=lstK P G Φ ops ktm kt κ f l sub X o:=λo=>by
  cases o with
  | none=>rfl
  | some x=>
   obtain⟨d,op,g⟩:=x;cases g with
   | some g=>cases op <;> rfl
   | none=>
    cases op
    case callB=>rfl
    all_goals exact E _
 rw[<-E2];rfl
theorem ss18 (ops:List AO) (ktm kt:List Nat) (κ:List Kt) (ls:List Nat) (ph:List (List Nat×List Nat)) (X:St) (d:Option Nat) (op:AOp):stgL P G Φ ops ktm kt κ ls ph X (some ⟨d,op,none⟩)=stgO P G Φ ops ktm kt κ ls ph (e12 G d op X):=rfl
theorem ss17 (ops:List AO) (ktm kt:List Nat) (κ:List Kt) (ls:List Nat) (ph:List (List Nat×List Nat)) (Y:St):stgO P G Φ ops ktm kt κ ls ph (some Y)=stg P G Φ ops ktm kt κ ls ph Y:=rfl
theorem rs13 (a b:AC) (κ:List Kt) (st:St):run P G Φ (.seq a b) κ st=run P G Φ a (.code b::κ) st:=by unfold run;rw[awp];congr 1
theorem rc17 (c:Opd) (a b:AC) (κ:List Kt) (st:St):run P G Φ (.cond c a b) κ st=tst P G Φ (st.ev G c) a b κ st:=by unfold run;rw[awp];unfold tst run;generalize st.ev G c=v;cases v <;> rfl
theorem rb11 (id:Nat) (a:AC) (κ:List Kt) (st:St):run P G Φ (.block id a) κ st=run P G Φ a (.blk id::κ) st:=by unfold run;rw[awp];congr 1
theorem rl15 (kt kb:List Nat) (a:AC) (κ:List Kt) (st:St):run P G Φ (.loop kt kb a) κ st=enter P G Φ kt kb a κ st:=by unfold run;rw[awp];unfold enter run;rfl
theorem re_ (id:Nat) (κ:List Kt) (st:St):run P G Φ (.exit id) κ st=unw P G Φ κ id st:=rfl
theorem rr12 (κ:List Kt) (st:St):run P G Φ .ret κ st=Φ st:=by
 show den P G Φ κ .ret st=Φ st
 induction κ with
 | nil=>rfl
 | cons k κ ih=>cases k <;> exact ih
theorem rb12 (κ:List Kt) (st:St):run P G Φ .bad κ st=False:=rfl
theorem pn13 (st:St):pop P G Φ [] st=Φ st:=rfl
theorem pc_ (a:AC) (κ:List Kt) (st:St):pop P G Φ (.code a::κ) st=run P G Φ a κ st:=rfl
theorem pb10 (id:Nat) (κ:List Kt) (st:St):pop P G Φ (.blk id::κ) st=pop P G Φ κ st:=rfl
theorem pl19 (I:Nat->St->Prop) (n:Nat) (kt kb:List Nat) (κ:List Kt) (st:St):pop P G Φ (.lp I n kt kb::κ) st=a13 I n (st.trim kt kb):=rfl
theorem uc_ (a:AC) (κ:List Kt) (id:Nat) (st:St):unw P G Φ (.code a::κ) id st=unw P G Φ κ id st:=rfl
theorem ub_ (id j:Nat) (κ:List Kt) (st:St):unw P G Φ (.blk id::κ) j st=if j=id then pop P G Φ κ st else unw P G Φ κ j st:=rfl
theorem pc15 (S:St->Prop) (κ:List Kt) (st:St):pop P G Φ (.cut S::κ) st=S st:=rfl
theorem uc10 (S:St->Prop) (κ:List Kt) (id:Nat) (st:St):unw P G Φ (.cut S::κ) id st=unw P G Φ κ id st:=rfl
theorem ul12 (I:Nat->St->Prop) (n:Nat) (kt kb:List Nat) (κ:List Kt) (id:Nat) (st:St):unw P G Φ (.lp I n kt kb::κ) id st=unw P G Φ κ id st:=rfl
theorem rn13 (kt:List Nat) (κ:List Kt) (st:St):runO P G Φ q [] kt κ st=pop P G Φ κ ⟨st.N,st.trimE kt,st.heap⟩:=rfl
theorem rc16 (d:Option Nat) (f:Nat) (xs:List Opd) (os:List AO) (kt:List Nat) (κ:List Kt) (st:St):runO P G Φ q (⟨d,.call f xs,none⟩::os) kt κ st=c27 P G Φ q f (evs G st xs) (none,xs) d st os kt κ:=rfl
theorem rc14 (d:Option Nat) (f:Opd) (xs:List Opd) (os:List AO) (kt:List Nat) (κ:List Kt) (st:St):runO P G Φ q (⟨d,.callv f xs,none⟩::os) kt κ st=c34 P G Φ q (st.ev G f) (evs G st xs) (some f,xs) d st os kt κ:=by show opsP P G _ _ _ _ =_;simp only[opsP,opP,s29,c34];generalize st.ev G f=v;cases v <;> rfl
theorem rc15 (d:Option Nat) (f:Nat) (xs:List Opd) (os:List AO) (kt:List Nat) (κ:List Kt) (st:St):runO P G Φ q (⟨d,.callB f xs,none⟩::os) kt κ st=c26 P G Φ q f (evs G st xs) (none,xs) d st os kt κ:=rfl
theorem rc13 (d:Option Nat) (f:Opd) (xs:List Opd) (os:List AO) (kt:List Nat) (κ:List Kt) (st:St):runO P G Φ q (⟨d,.callvB f xs,none⟩::os) kt κ st=c31 P G Φ q (st.ev G f) (evs G st xs) (some f,xs) d st os kt κ:=by show opsP P G _ _ _ _ =_;simp only[opsP,opP,s29,c31];generalize st.ev G f=v;cases v <;> rfl
theorem cf_ (f:Nat) (caps args:List AV) (src:Option Opd×List Opd) (d:Option Nat) (st:St) (os:List AO) (kt:List Nat) (κ:List Kt):c31 P G Φ q (.fn f caps) args src d st os kt κ=(b11 P (fnN f)=true∧c26 P G Φ q (fnN f) (fnA f caps args) src d st os kt κ):=rfl
theorem ro15 (d:Option Nat) (op:AOp) (os:List AO) (kt:List Nat) (κ:List Kt) (st:St) (h:(match op with | .call .. =>false | .callv .. =>false | .callB .. =>false | .callvB .. =>false | _ =>true)=true):runO P G Φ q (⟨d,op,none⟩::os) kt κ st=r21 P G Φ q os kt κ (e12 G d op st):=by
 show opsP P G _ _ _ _ =_
 cases op <;> first
  | (simp at h;done)
  | (simp only[opsP,opP,s29]
     generalize e12 G d _ st=r;cases r <;> rfl)
theorem rg10 (d:Option Nat) (op:AOp) (t:Nat) (want:Bool) (os:List AO) (kt:List Nat) (κ:List Kt) (st:St):runO P G Φ q (⟨d,op,some (t,want)⟩::os) kt κ st=grd P G Φ q (eget st.env t) t want d op os kt κ st:=by
 show opsP P G _ _ _ _ =_;simp only[opsP,opP,St.get,grd];generalize eget st.env t=v;have e:∀(st:St),s33 d st (λst'=>opsP P G q os st' λst'=>den P G Φ κ .normal {st' with env:=st'.trimE kt})=r21 P G Φ q os kt κ (st.put d .undef):=λst=>by unfold s33;generalize st.put d .undef=r;cases r <;> rfl
 cases v <;> first | rfl | exact e st | (simp only[e];rfl)
theorem rs19 (os:List AO) (kt:List Nat) (κ:List Kt) (st:St):r21 P G Φ q os kt κ (some st)=runO P G Φ q os kt κ st:=rfl
theorem tb10 (β:Bool) (a b:AC) (κ:List Kt) (st:St):tst P G Φ (.bool β) a b κ st=((β=true->run P G Φ a κ st)∧(β=false->run P G Φ b κ st)):=rfl
theorem tt_ (a b:AC) (κ:List Kt) (st:St):tst P G Φ (.bool true) a b κ st=run P G Φ a κ st:=by simp [tst]
theorem tf17 (a b:AC) (κ:List Kt) (st:St):tst P G Φ (.bool false) a b κ st=run P G Φ b κ st:=by simp [tst]
theorem gu_ (t:Nat) (want:Bool) (d:Option Nat) (op:AOp) (os:List AO) (kt:List Nat) (κ:List Kt) (st:St):grd P G Φ q .undef t want d op os kt κ st=r21 P G Φ q os kt κ (st.put d .undef):=rfl
theorem gs10 (t:Nat) (b:Bool) (d:Option Nat) (op:AOp) (os:List AO) (kt:List Nat) (κ:List Kt) (st:St):grd P G Φ q (.bool b) t b d op os kt κ st=runO P G Φ q (⟨d,op,none⟩::os) kt κ (st.know t b):=by cases b <;> simp [grd]
theorem gt_ (t:Nat) (d:Option Nat) (op:AOp) (os:List AO) (kt:List Nat) (κ:List Kt) (st:St):grd P G Φ q (.bool true) t false d op os kt κ st=r21 P G Φ q os kt κ ((st.know t true).put d .undef):=by simp [grd]
theorem gf_ (t:Nat) (d:Option Nat) (op:AOp) (os:List AO) (kt:List Nat) (κ:List Kt) (st:St):grd P G Φ q (.bool false) t true d op os kt κ st=r21 P G Φ q os kt κ ((st.know t false).put d .undef):=by simp [grd]
theorem cf10 (f:Nat) (caps args:List AV) (src:Option Opd×List Opd) (d:Option Nat) (st:St) (os:List AO) (kt:List Nat) (κ:List Kt):c34 P G Φ q (.fn f caps) args src d st os kt κ=(b11 P f=true∧c27 P G Φ q f (args++caps) src d st os kt κ):=rfl
theorem acf_ {f:Nat} {args:List AV} {src:Option Opd×List Opd} {d:Option Nat} {st:St} {os:List AO} {kt:List Nat} {κ:List Kt} {args' vargs:List AV} {r:AV} (hc:P_ P G f args' r) (hv:v10 r st.heap args=some vargs) (hf:FitL vargs args') {st':St} (hp:(b_ st args r).put d r=some st')
  (h:runO P G Φ q os kt κ st') (hq:q=true->q13 args r=true:=by first | (intro _;rfl) | (intro h;cases h)):c27 P G Φ q f args src d st os kt κ:=.inl (.inl (.inl ⟨vargs,args',r,st',hv,hf,hc,hp,hq,h⟩))
theorem ac12 {f:Nat} {args:List AV} {src:Option Opd×List Opd} {d:Option Nat} {st:St} {os:List AO} {kt:List Nat} {κ:List Kt} {args' vargs:List AV} {r:AV} (hc:P10 P G f args' r) (hv:viewBs st.heap args=some vargs) (hf:FitL vargs args') {st':St} (hp:st.put d r=some st')
  (h:runO P G Φ q os kt κ st'):c27 P G Φ q f args src d st os kt κ:=.inl (.inl (.inr ⟨vargs,args',r,st',hv,hf,hc,hp,h⟩))
theorem ac_ {f:Nat} {args:List AV} {src:Option Opd×List Opd} {d:Option Nat} {st:St} {os:List AO} {kt:List Nat} {κ:List Kt} {args':List AV} {r:AV} (hc:P_ P G f args' r) (hv:v10 r st.heap args=some args') {st':St} (hp:(b_ st args r).put d r=some st')
  (h:runO P G Φ q os kt κ st') (hq:q=true->q13 args r=true:=by first | (intro _;rfl) | (intro h;cases h)):c27 P G Φ q f args src d st os kt κ:=acf_ hc hv (FitL.refl _) hp h hq
theorem ac10 {f:Nat} {args:List AV} {src:Option Opd×List Opd} {d:Option Nat} {st:St} {os:List AO} {kt:List Nat} {κ:List Kt} {args':List AV} {H H':List (Nat×Box)} {r:AV} (I:List (Nat×Nat)) (hc:H_ P G f args' H r H') (ha:renO.go I args'=some args) (hg:G_ I st.heap H)
  {H2:List (Nat×Box)} {r2:AV} {st':St} (hr:renO I r=some r2) (ht:t42 I H'=some H2) (hp:(a17 st I H H2).put d r2=some st') (h:runO P G Φ false os kt κ st')
  (h1:n15 (ours I)=true:=by rfl) (h2:n15 (t29 I)=true:=by rfl) (h3:n22 st.N H I=true:=by rfl):c27 P G Φ false f args src d st os kt κ:=
 .inl (.inr ⟨rfl,I,args,args',H,H',H2,r,r2,st',FitL.refl _,ha,hg,h1,h2,h3,hc,hr,ht,hp,h⟩)
theorem ac16 {f:Nat} {args args1:List AV} {src:Option Opd×List Opd} {d:Option Nat} {st:St} {os:List AO} {kt:List Nat} {κ:List Kt} {args':List AV} {H H':List (Nat×Box)} {r:AV} (I:List (Nat×Nat)) (hc:H_ P G f args' H r H') (hf:FitL args args1) (ha:renO.go I args'=some args1) (hg:G_ I st.heap H)
  {H2:List (Nat×Box)} {r2:AV} {st':St} (hr:renO I r=some r2) (ht:t42 I H'=some H2) (hp:(a17 st I H H2).put d r2=some st') (h:runO P G Φ false os kt κ st')
  (h1:n15 (ours I)=true:=by rfl) (h2:n15 (t29 I)=true:=by rfl) (h3:n22 st.N H I=true:=by rfl):c27 P G Φ false f args src d st os kt κ:=
 .inl (.inr ⟨rfl,I,args1,args',H,H',H2,r,r2,st',hf,ha,hg,h1,h2,h3,hc,hr,ht,hp,h⟩)
theorem ach_ {f:Nat} {args:List AV} {src:Option Opd×List Opd} {d:Option Nat} {st:St} {os:List AO} {kt:List Nat} {κ:List Kt} {args':List AV} {H H':List (Nat×Box)} {r:AV} (I:List (Nat×Nat)) (hc:H_ P G f args' H r H') (ha:renO.go I args'=some args) (hg:G_ I st.heap H)
  {H2:List (Nat×Box)} {r2:AV} {st':St} (hr:renO I r=some r2) (ht:t42 I H'=some H2) (hp:(a17 st I H H2).put d r2=some st') (h:runO P G Φ q os kt κ st')
  (h1:n15 (ours I)=true:=by rfl) (h2:n15 (t29 I)=true:=by rfl) (h3:n22 st.N H I=true:=by rfl):c26 P G Φ q f args src d st os kt κ:=
 .inl (.inr ⟨rfl,I,args,args',H,H',H2,r,r2,st',FitL.refl _,ha,hg,h1,h2,h3,hc,hr,ht,hp,h⟩)
theorem aw_ {f:Nat} {args:List AV} {xs:List Opd} {d:Option Nat} {st:St} {os:List AO} {kt:List Nat} {κ:List Kt} (st1:St) (hw:Weak st st1) (h:c20 P G false f (evs G st1 xs) d st1 λst'=>runO P G Φ false os kt κ st'):c27 P G Φ false f args (none,xs) d st os kt κ:=.inr ⟨rfl,st1,hw,h⟩
theorem cp47 {f:Nat} {args:List AV} {d:Option Nat} {st:St} {K:St->Prop} {args' vargs:List AV} {r:AV} (hc:P_ P G f args' r) (hv:v10 r st.heap args=some vargs) (hf:FitL vargs args') {st':St} (hp:(b_ st args r).put d r=some st') (h:K st'):c20 P G false f args d st K:=.inl (.inl ⟨vargs,args',r,st',hv,hf,hc,hp,(λh=>by cases h),h⟩)
theorem ch_ {f:Nat} {args args1:List AV} {d:Option Nat} {st:St} {K:St->Prop} {args':List AV} {H H':List (Nat×Box)} {r:AV} (I:List (Nat×Nat)) (hc:H_ P G f args' H r H') (hf:FitL args args1) (ha:renO.go I args'=some args1) (hg:G_ I st.heap H)
  {H2:List (Nat×Box)} {r2:AV} {st':St} (hr:renO I r=some r2) (ht:t42 I H'=some H2) (hp:(a17 st I H H2).put d r2=some st') (h:K st')
  (h1:n15 (ours I)=true:=by rfl) (h2:n15 (t29 I)=true:=by rfl) (h3:n22 st.N H I=true:=by rfl):c20 P G false f args d st K:=
 .inr ⟨rfl,I,args1,args',H,H',H2,r,r2,st',hf,ha,hg,h1,h2,h3,hc,hr,ht,hp,h⟩
abbrev ai__:=@And.intro
theorem ag_ {b want:Bool} {t:Nat} {d:Option Nat} {op:AOp} {os:List AO} {kt:List Nat} {κ:List Kt} {st:St} (h1:b=want->runO P G Φ q (⟨d,op,none⟩::os) kt κ (st.know t want)) (h2:b=(!want)->r21 P G Φ q os kt κ ((st.know t (!want)).put d .undef)):grd P G Φ q (.bool b) t want d op os kt κ st:=⟨h1,h2⟩
theorem al_ {kt kb:List Nat} {a:AC} {κ:List Kt} {st:St} (I0:Nat->St->Prop) (n:Nat) (h0:I0 n (st.trim kt kb)) (h:∀I:Nat->St->Prop,(∀n st,I0 n st->I n st)->∀n st,I0 n st->run P G Φ a (.lp I n kt kb::κ) st):enter P G Φ kt kb a κ st:=⟨I0,n,⟨_,Weak.refl _,h0⟩,λn st hi=>h I0 (λ_ _ h=>h) n st hi⟩
theorem al11 {kt kb:List Nat} {a:AC} {κ:List Kt} {st:St} (I0:Nat->St->Prop) (n:Nat) (st0:St) (hw:Weak (st.trim kt kb) st0) (h0:I0 n st0) (h:∀I:Nat->St->Prop,(∀n st,I0 n st->I n st)->∀n st,I0 n st->run P G Φ a (.lp I n kt kb::κ) st):enter P G Φ kt kb a κ st:=⟨I0,n,⟨st0,hw,h0⟩,λn st hi=>h I0 (λ_ _ h=>h) n st hi⟩
theorem aa_ {I:Nat->St->Prop} {n:Nat} {st:St} (m:Nat) (hm:m<n) (h:I m st):a13 I n st:=⟨m,hm,st,Weak.refl st,h⟩
theorem ae__ {I:Nat->St->Prop} {n m:Nat} {st:St} (h:I m st) (hm:m<n:=by omega):a13 I n st:=aa_ m hm h
theorem aa12 {I:Nat->St->Prop} {n:Nat} {st:St} (m:Nat) (hm:m<n) (st0:St) (hw:Weak st st0) (h:I m st0):a13 I n st:=⟨m,hm,st0,hw,h⟩
theorem ac18 {a b:AC} {κ:List Kt} {st:St} (S:St->Prop) (h1:run P G Φ a (.cut S::κ) st) (h2:∀st,S st->run P G Φ b κ st):run P G Φ (.seq a b) κ st:=by
 rw[rs13];refine am15 h1 λe st' h=>?_;cases e
 .exact h2 _ h
 .exact h
 .exact h
end
theorem wi_ {e:Int} (h1: -9223372036854775808<=e) (h2:e<=9223372036854775807):IntKind.i64.wrap e=e:=by have e1:(2:Int) ^ IntKind.i64.bits=18446744073709551616:=rfl;have e2:(2:Int) ^ (IntKind.i64.bits - 1)=9223372036854775808:=rfl;have e3:IntKind.i64.signed=true:=rfl;unfold IntKind.wrap;simp only[e1,e2,e3,yR,zW];split <;> omega
section
variable (k:IntKind) (a b:Int)
theorem aa22:abin .add (.int k a) (.int k b)=some (.int k (k.wrap (a+b))):=by simp [abin]
theorem as53:abin .sub (.int k a) (.int k b)=some (.int k (k.wrap (a - b))):=by simp [abin]
theorem am16:abin .mul (.int k a) (.int k b)=some (.int k (k.wrap (a*b))):=by simp [abin]
theorem aq_ (h:b≠0):abin .quo (.int k a) (.int k b)=some (.int k (k.wrap (a.tdiv b))):=by simp [abin,h]
theorem ar11 (h:b≠0):abin .rem (.int k a) (.int k b)=some (.int k (a.tmod b)):=by simp [abin,h]
theorem aa21:abin .and (.int k a) (.int k b)=some (.int k (bAnd k a b)):=by show (if k=k then _ else _)=_;rw[zY rfl]
theorem ao19:abin .or (.int k a) (.int k b)=some (.int k (bOr k a b)):=by show (if k=k then _ else _)=_;rw[zY rfl]
theorem ax_:abin .xor (.int k a) (.int k b)=some (.int k (bXor k a b)):=by show (if k=k then _ else _)=_;rw[zY rfl]
theorem as55 (k':IntKind) (h:¬b<0):abin .shl (.int k a) (.int k' b)=some (.int k (bShl k a b)):=by simp [abin,h]
theorem as54 (k':IntKind) (h:¬b<0):abin .shr (.int k a) (.int k' b)=some (.int k (bShr k a b)):=by simp [abin,h]
theorem ae12:abin .eql (.int k a) (.int k b)=some (.bool (a==b)):=by simp [abin]
theorem an12:abin .neq (.int k a) (.int k b)=some (.bool (a != b)):=by simp [abin]
theorem al18:abin .lss (.int k a) (.int k b)=some (.bool (decide (a<b))):=by simp [abin]
theorem al19:abin .leq (.int k a) (.int k b)=some (.bool (decide (a<=b))):=by simp [abin]
theorem ag12:abin .gtr (.int k a) (.int k b)=some (.bool (decide (b<a))):=by simp [abin]
theorem ag13:abin .geq (.int k a) (.int k b)=some (.bool (decide (b<=a))):=by simp [abin]
theorem as51 (s t:List UInt8):abin .eql (.str s) (.str t)=some (.bool (s==t)):=by simp [abin]
theorem as46 (s t:List UInt8):abin .neq (.str s) (.str t)=some (.bool (!(s==t))):=by simp [abin]
theorem as47 (s t:List UInt8):abin .lss (.str s) (.str t)=some (.bool (Op.bytesLess s t)):=by simp [abin]
theorem as48 (s t:List UInt8):abin .leq (.str s) (.str t)=some (.bool (Op.bytesLess s t||s==t)):=by simp [abin]
theorem as49 (s t:List UInt8):abin .gtr (.str s) (.str t)=some (.bool (!(Op.bytesLess s t||s==t))):=by simp [abin]
theorem as50 (s t:List UInt8):abin .geq (.str s) (.str t)=some (.bool (!(Op.bytesLess s t))):=by simp [abin]
theorem as19 {H:List (Nat×Box)} {sz:Nat} {es:List AV} {e:AV} {n:Int} (h0:0<=n) (h:es[n.toNat]?=some e):a16 H sz (.seq sz es) (.int k n)=some (.eptr e 0):=by simp [a16,h0,h]
theorem as20 {s:List UInt8} {e:UInt8} {n:Int} (h0:0<=n) (h:s[n.toNat]?=some e):aidx (.str s) (.int k n)=some (.int .u8 e.toNat):=by simp [aidx,h0,h]
end
theorem ps11 (st:St) (d:Nat) (v:AV) (h:d<st.N):st.put (some d) v=some {st with env:=(d,v)::st.env}:=by simp [St.put,h]
theorem pn12 (st:St) (v:AV):st.put none v=some st:=rfl
theorem ns37 (st:St) (d:Nat) (b:Box) (v:AV) (h:d<st.N):st.new (some d) b v=some ⟨st.N,(d,v)::p13 d st.env,(d,b)::p12 d st.heap⟩:=by simp [St.new,h]
theorem R10.of {P:Program} {G:Nat->Option AV} {A:AFun} {args:List AV} {H H':List (Nat×Box)} {r:AV} (h:∀Φ:St->Prop,(∀st,H10 A r H' st->Φ st)->run P G Φ A.body [] ⟨A.N,a14 0 args,H⟩):R10 P G A args H r H':=by
 have:=h (H10 A r H') (λ_ h=>h);unfold run at this;unfold R10;have e:den P G (H10 A r H') []=P12 A r H':=by funext e st;cases e <;> rfl
 rw[e] at this;exact this
theorem R11.of {P:Program} {G:Nat->Option AV} {A:AFun} {args:List AV} {r:AV} (h:∀Φ:St->Prop,(∀st,H11 A r st->Φ st)->run P G Φ A.body [] ⟨A.N,a14 0 args,[]⟩):R11 P G A args r:=by
 have:=h (H11 A r) (λ_ h=>h);unfold run at this;unfold R11;have e:den P G (H11 A r) []=P11 A r:=by funext e st;cases e <;> rfl
 rw[e] at this;exact this
theorem Runs.of {P:Program} {G:Nat->Option AV} {A:AFun} {args:List AV} {r:AV} (h:∀Φ:St->Prop,(∀st,H12 A r st->Φ st)->run P G Φ A.body [] ⟨A.N,a14 0 args,[]⟩):Runs P G A args r:=by
 have:=h (H12 A r) (λ_ h=>h);unfold run at this;unfold Runs;have e:den P G (H12 A r) []=Post A r:=by funext e st;cases e <;> rfl
 rw[e] at this;exact this
attribute [go_sem_proc] Nat.reduceAdd Nat.reduceSub Nat.reduceMul Nat.reduceLT Nat.reduceLeDiff Nat.reduceEqDiff Nat.reduceBEq Int.reduceNeg Int.reduceAdd Int.reduceLT Int.reduceLE Int.reduceToNat Int.reduceEq Int.reduceNe Int.reduceBEq Int.reduceBNe Int.reduceMul Int.reduceSub reduceIte reduceCtorEq
attribute [go_sem] false_and and_false or_false false_or or_true true_or tN yM tV tE Bool.true_or Bool.or_true vZ yS zP Int.toNat_zero vU and_self and_true true_and sZ not_false_eq_true wF yH xY xO List.drop_succ_cons uQ wY uL List.all_nil yK yW List.set_cons_zero tU List.cons_append xT vN yF zZ xK Option.getD_none tW Bool.and_self wX yR wM beq_true beq_false Bool.true_beq Bool.false_beq uP vX zF xW yI forall_const true_implies false_implies implies_true uD BEq.rfl yD yA zW yQ zJ yJ yU List.zip_cons_cons List.zip_nil_left List.zip_nil_right List.replicate_succ List.replicate_zero List.set_cons_succ
attribute [go_sem] rd_ sf13 sn10 sn_ ls14 ce10 ce_ lc_ ln_ la11 lb_ lm10 lm13 ls11 la12 sn11 sc10 ss19 an10 ac19  sn12 sc11 ss18 ss17   ps12 pe12 pe11 pe10 ps13 dumO d16 a26 rs21 rr13 rd10 rs13 rc17 rb11 rl15 re_ rr12 rb12 pn13 pc_ pb10 pl19 pc15 uc_ ub_ ul12 uc10 rn13 rc16 rc14 rc15 rc13 cf_ ro15 rg10 rs19 tt_ tf17 tb10 gu_ gs10 gt_ gf_ cf10
 ps11 pn12 ns37 eget hget hset purge purge.go p13 p12 p10 St.ev evs e12 aa22 as53 am16 aq_ ar11 aa21 ao19 ax_ as55 as54 ae12 an12 al18 al19 ag12 ag13 as51 as46 as47 as48 as49 as50
     a36 a40 mres k14 k15 m13 i13 aa18 as42 as41 a34 amx clean clean.go arng aeqA aeqB aeqI aeqs l10 andO aun a37 a35 alen aext a39 afld a28 h16 a32 a19 a23 fits c22 r22 s21 AV.cells a21 St.trimE St.trimH St.trim f11 happ St.know r12 news aapp a14
 St.thaws St.thaw1 thaw thaw.go t38 t37 t36 view view.go viewAll v10 viewBs viewB viewK viewK.go r14 r14.go r11 b_ a17 r_ i14 ours t29 purges p15 p11 r23 memb t42 renO renO.go renB look flat flat.go r19 one as20 as19
