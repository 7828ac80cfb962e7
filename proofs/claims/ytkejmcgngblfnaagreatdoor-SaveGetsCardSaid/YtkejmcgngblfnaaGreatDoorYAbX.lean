/-
  Abstract code, run by reckoning: what a call of known values comes to. No claim is proved here.
-/
import Derived.Test.YtkejmcgngblfnaaGreatDoorYAbRun
namespace Go.Proofs.YtkejmcgngblfnaaGreatDoor.Ab
open Go Go.RowKit

mutual
def aveq:AV→AV→Bool
 | .top,.top=>true
 | .undef,.undef=>true
 | .bool a,.bool b=>a==b
 | .int k a,.int l b=>decide (k=l)&&a==b
 | .str a,.str b=>a==b
 | .agg a,.agg b=>a21 a b
 | .tup a,.tup b=>a21 a b
 | .seq n a,.seq m b=>n==m&&a21 a b
 | .full n a,.full m b=>n==m&&a21 a b
 | .nils,.nils=>true
 | .arr a b c,.arr x y z=>a==x&&(b==y&&c==z)
 | .ref a b c,.ref x y z=>a==x&&(b==y&&c==z)
 | .eptr a n,.eptr b m=>n==m&&aveq a b
 | .nilp,.nilp=>true
 | .fn f a,.fn g b=>f==g&&a21 a b
 | .nilfn,.nilfn=>true
 | .nili,.nili=>true
 | .iface t a,.iface u b=>t==u&&aveq a b
 | .mapv a,.mapv b=>a==b
 | .nilm,.nilm=>true
 | .rawp a b,.rawp x y=>a==x&&b==y
 | .mapc a,.mapc b=>a21 a b
 | _,_ =>false
def a21:List AV→List AV→Bool
 | [],[]=>true
 | a::l,b::k=>aveq a b&&a21 l k
 | _,_ =>false
end
mutual
theorem ae10:∀(a b:AV),aveq a b=true→a=b
 | .top,b,h=>by cases b <;> simp [aveq] at h;rfl
 | .undef,b,h=>by cases b <;> simp [aveq] at h;rfl
 | .bool a,b,h=>by cases b <;> simp [aveq] at h;rw[h]
 | .int k a,b,h=>by cases b <;> simp [aveq] at h;rw[h.1,h.2]
 | .str a,b,h=>by cases b <;> simp [aveq] at h;rw[h]
 | .agg a,b,h=>by cases b <;> simp [aveq] at h;rw[ae_ _ _ h]
 | .tup a,b,h=>by cases b <;> simp [aveq] at h;rw[ae_ _ _ h]
 | .seq n a,b,h=>by cases b <;> simp [aveq] at h;rw[h.1,ae_ _ _ h.2]
 | .full n a,b,h=>by cases b <;> simp [aveq] at h;rw[h.1,ae_ _ _ h.2]
 | .nils,b,h=>by cases b <;> simp [aveq] at h;rfl
 | .arr a b c,x,h=>by cases x <;> simp [aveq] at h;rw[h.1,h.2.1,h.2.2]
 | .ref a b c,x,h=>by cases x <;> simp [aveq] at h;rw[h.1,h.2.1,h.2.2]
 | .eptr a n,x,h=>by cases x <;> simp [aveq] at h;rw[h.1,ae10 _ _ h.2]
 | .nilp,b,h=>by cases b <;> simp [aveq] at h;rfl
 | .fn f a,b,h=>by cases b <;> simp [aveq] at h;rw[h.1,ae_ _ _ h.2]
 | .nilfn,b,h=>by cases b <;> simp [aveq] at h;rfl
 | .nili,b,h=>by cases b <;> simp [aveq] at h;rfl
 | .iface t a,b,h=>by cases b <;> simp [aveq] at h;rw[h.1,ae10 _ _ h.2]
 | .mapv a,b,h=>by cases b <;> simp [aveq] at h;rw[h]
 | .nilm,b,h=>by cases b <;> simp [aveq] at h;rfl
 | .rawp a b,x,h=>by cases x <;> simp [aveq] at h;rw[h.1,h.2]
 | .mapc a,b,h=>by cases b <;> simp [aveq] at h;rw[ae_ _ _ h]
theorem ae_:∀(a b:List AV),a21 a b=true→a=b
 | [],b,h=>by cases b <;> simp [a21] at h;rfl
 | x::a,b,h=>by
  cases b with
  | nil=>simp [a21] at h
  | cons y b=>
   rw[a21,Bool.and_eq_true] at h
   rw[ae10 x y h.1,ae_ a b h.2]
end
def b16 (a b:Box):Bool:=a.row==b.row&&(a.ty==b.ty&&(a.sz==b.sz&&a21 a.es b.es))
theorem be_ {a b:Box} (h:b16 a b=true):a=b:=by
 unfold b16 at h
 simp only[Bool.and_eq_true,beq_iff_eq] at h
 obtain⟨a1,a2,a3,a4⟩:=a
 obtain⟨b1,b2,b3,b4⟩:=b
 obtain⟨h1,h2,h3,h4⟩:=h
 dsimp only at h1 h2 h3 h4
 rw[h1,h2,h3,ae_ _ _ h4]
def n12:AV→List Nat
 | .arr i _ _ =>[i]
 | .ref i _ _ =>[i]
 | .mapv i=>[i]
 | .agg cs=>go cs
 | .tup cs=>go cs
 | .fn _ cs=>go cs
 | .iface _ v=>n12 v
 | _ =>[]
where
 go:List AV→List Nat
 | []=>[]
 | c::cs=>n12 c++go cs
def r14 (H:List (Nat×Box)):Nat→List Nat→List Nat→List Nat
 | 0,_,dn=>dn
 | _ +1,[],dn=>dn
 | n+1,i::r,dn=>if memb dn i then r14 H n r dn else match hget H i with
  | some b=>r14 H n ((if b.row then [] else n12.go b.es)++r) (dn++[i])
  | none=>r14 H n r dn
def p16 (H:List (Nat×Box)):List Nat→List (Nat×Box)
 | []=>[]
 | i::r=>match hget H i with | some b=>(i,b)::p16 H r | none=>p16 H r
theorem pg_ {H:List (Nat×Box)}:∀{l:List Nat} {i:Nat} {b:Box},hget (p16 H l) i=some b→hget H i=some b
 | [],i,b,h=>by simp [p16,hget] at h
 | j::r,i,b,h=>by
  unfold p16 at h
  split at h
  ·rename_i c hc
   simp only[hget] at h
   split at h
   ·rename_i e
    subst e
    rw[hc]
    exact h
   ·exact pg_ h
  ·exact pg_ h
def g14 (I:List (Nat×Nat)) (heap:List (Nat×Box)):List Nat→Option (List (Nat×Box))
 | []=>some []
 | j::r=>match look I j,(hget heap j).bind (renB I),g14 I heap r with
  | some i,some b,some H=>some ((i,b)::H)
  | _,_,_ =>none
def g12 (I:List (Nat×Nat)) (heap:List (Nat×Box)):List (Nat×Box)→Bool
 | []=>true
 | (i,b)::r=>(match look I i with
  | some j=>match renB I b,hget heap j with
   | some b2,some c=>b16 b2 c
   | _,_ =>false
  | none=>false)&&g12 I heap r
theorem go_ {I:List (Nat×Nat)} {heap:List (Nat×Box)}:∀{H:List (Nat×Box)},g12 I heap H=true→G_ I heap H
 | [],_ =>trivial
 | (i,b)::r,h=>by
  rw[g12,Bool.and_eq_true] at h
  refine⟨?_,go_ h.2⟩
  have h:=h.1
  split at h
  ·rename_i j hj
   split at h
   ·rename_i b2 c hb hc
    exact⟨j,b2,hj,hb,by rw[hc,be_ h]⟩
   ·cases h
  ·cases h
structure XE where
 pc:Nat→List AV→Option AV
 hc:Nat→List AV→List (Nat×Box)→Option (AV×List (Nat×Box))
 mode:Nat→Nat
 body:Nat→Bool
 fr:List Nat
structure XOk (P:Program) (G:Nat→Option AV) (X:XE):Prop where
 pc:∀f args r,X.pc f args=some r→P_ P G f args r
 hc:∀f args H r H',X.hc f args H=some (r,H')→H_ P G f args H r H'
 body:∀f,X.body f=true→b10 P f=true
def x31 (X:XE) (q:Bool) (f:Nat) (args:List AV) (d:Option Nat) (st:St):Option St:=
 match v11 st.heap args with
 | some b=>match X.pc f b with
  | some r=>if flat r=true then st.put d r else match v10 st.heap args with
   | some a=>if a21 a b=true∧(q=true→q11 args r=true) then (st.thaws (r10 args)).put d r else none
   | none=>none
  | none=>none
 | none=>none
def f21 (st:St) (d:Option Nat) (fr:List Nat):List Nat:=(match d with | some d=>d::fr.filter (fun j=>j != d) | none=>fr).filter fun j=>(hget st.heap j).isNone&&decide (j<st.N)
def zipX:List Nat→List Nat→List (Nat×Nat)
 | a::l,b::k=>(a,b)::zipX l k
 | _,_ =>[]
def bigX:Nat:=1000000
def h15 (rs:List Nat):List (Nat×Box)→List Nat
 | []=>[]
 | (i,b)::r=>if b.row=false∧(n12.go b.es).any (memb rs)=true then i::h15 rs r else h15 rs r
def r21 (H:List (Nat×Box)) (js:List Nat):List Nat:=js.filter fun j=>match hget H j with | some b=>b.row | none=>false
def w11 (H:List (Nat×Box)) (js:List Nat):List Nat:=
 match r21 H js with
 | []=>js
 | rs=>r14 H 10000 (h15 rs H) js
def x32 (X:XE) (f:Nat) (args:List AV) (d:Option Nat) (st:St):Option St:=
 let js:=w11 st.heap (w11 st.heap (r14 st.heap 10000 (n12.go args) []))
 let I':=js.map fun j=>(j,bigX+j)
 let I0:=js.map fun j=>(bigX+j,j)
 match renO.go I' args with
 | some args'=>match renO.go I0 args',g14 I' st.heap js with
  | some args2,some H=>match X.hc f args' H with
   | some (r,H')=>
    let I:=I0++zipX ((H'.map (·.1)).filter fun i=>(hget H i).isNone) (f21 st d X.fr)
    match renO.go I args',renO I r,t16 I H' with
    | some args1,some r2,some H2=>if a21 args2 args=true∧a21 args1 args=true∧g12 I st.heap H=true∧n11 (ours I)=true∧n11 (t10 I)=true∧n14 st.N H I=true then (a13 st I H H2).put d r2 else none
    | _,_,_ =>none
   | none=>none
  | _,_ =>none
 | none=>none
def x28 (X:XE) (q:Bool) (f:Nat) (args:List AV) (d:Option Nat) (st:St):Option St:=
 if X.mode f=0 then x31 X q f args d st else if X.mode f=1 then (if q=true then none else x32 X f args d st) else
  match x31 X q f args d st with
  | some st'=>some st'
  | none=>if q=true then none else x32 X f args d st
section
variable {P:Program} {G:Nat→Option AV} {X:XE}
theorem xo14 (hX:XOk P G X) {q:Bool} {f:Nat} {args:List AV} {d:Option Nat} {st st':St} (h:x31 X q f args d st=some st') {K:St→Prop} (hK:K st'):c31 P G q f args d st K:=by
 unfold x31 at h
 split at h
 ·rename_i b hb
  split at h
  ·rename_i r hr
   have hc:=hX.pc f b r hr
   split at h
   ·rename_i hf
    refine⟨b,b,r,st',?_,FitL.refl _,hc,?_,fun _ =>?_,hK⟩
    ·unfold v13;rw[if_pos hf];exact hb
    ·unfold b11;rw[if_pos hf];exact h
    ·unfold q11;rw[hf];rfl
   ·rename_i hf
    split at h
    ·rename_i a ha
     split at h
     ·rename_i hc2
      rw[ae_ _ _ hc2.1] at ha
      refine⟨b,b,r,st',?_,FitL.refl _,hc,?_,hc2.2,hK⟩
      ·unfold v13;rw[if_neg hf];exact ha
      ·unfold b11;rw[if_neg hf];exact h
     ·cases h
    ·cases h
  ·cases h
 ·cases h
theorem xo15 (hX:XOk P G X) {f:Nat} {args:List AV} {d:Option Nat} {st st':St} (h:x32 X f args d st=some st') {K:St→Prop} (hK:K st'):c27 P G f args d st K:=by
 unfold x32 at h
 dsimp only at h
 split at h
 ·rename_i args' ha
  split at h
  ·rename_i args2 H h2 hH
   split at h
   ·rename_i r H' hr
    split at h
    ·rename_i args1 r2 H2 e1 e2 e3
     split at h
     ·rename_i hc
      obtain⟨c1,c2,c3,c4,c5,c6⟩:=hc
      rw[ae_ _ _ c2] at e1
      exact⟨_,args,args',H,H',H2,r,r2,st',FitL.refl _,e1,go_ c3,c4,c5,c6,hX.hc f args' H r H' hr,e2,e3,h,hK⟩
     ·cases h
    ·cases h
   ·cases h
  ·cases h
 ·cases h
theorem xo10 (hX:XOk P G X) {q:Bool} {f:Nat} {args:List AV} {d:Option Nat} {st st':St} (h:x28 X q f args d st=some st') {K:St→Prop} (hK:K st'):c20 P G q f args d st K:=by
 unfold x28 at h
 split at h
 ·exact .inl (.inl (xo14 hX h hK))
 ·split at h
  ·split at h
   ·cases h
   ·rename_i hq
    exact .inr ⟨by simpa using hq,xo15 hX h hK⟩
  ·split at h
   ·rename_i st1 h1
    cases h
    exact .inl (.inl (xo14 hX h1 hK))
   ·split at h
    ·cases h
    ·rename_i hq
     exact .inr ⟨by simpa using hq,xo15 hX h hK⟩
end
def x30 (X:XE) (G:Nat→Option AV) (q:Bool) (d:Option Nat) (op:AOp) (st:St):Option St:=
 match op with
 | .call f xs=>x28 X q f (evs G st xs) d st
 | .callv x xs=>match st.ev G x with
  | .fn f caps=>if X.body f=true then x28 X q f (evs G st xs++caps) d st else none
  | _ =>none
 | .callB f xs=>x28 X false f (evs G st xs) d st
 | .callvB x xs=>match st.ev G x with
  | .fn f caps=>if X.body (fnN f)=true then x28 X false (fnN f) (fnA f caps (evs G st xs)) d st else none
  | _ =>none
 | op=>e_ G d op st
def xop (X:XE) (G:Nat→Option AV) (q:Bool) (o:AO) (st:St):Option St:=
 match o.g with
 | none=>x30 X G q o.d o.op st
 | some (t,want)=>match st.get t with
  | .bool b=>if b=want then x30 X G q o.d o.op (st.know t want) else (st.know t (!want)).put o.d .undef
  | .undef=>st.put o.d .undef
  | _ =>none
def xops (X:XE) (G:Nat→Option AV) (q:Bool):List AO→St→Option St
 | [],st=>some st
 | o::os,st=>match xop X G q o st with
  | some st'=>xops X G q os st'
  | none=>none
section
variable {P:Program} {G:Nat→Option AV} {X:XE}
theorem xo12 (hX:XOk P G X) {q:Bool} {d:Option Nat} {op:AOp} {st st':St} (h:x30 X G q d op st=some st') {K:St→Prop} (hK:K st'):s11 P G q d op st K:=by
 cases op
 case call f xs=>exact .inl (xo10 hX h hK)
 case callB f xs=>exact .inl (xo10 hX h hK)
 case callv x xs=>
  simp only[x30] at h
  simp only[s11]
  split at h
  ·rename_i f caps e
   split at h
   ·rename_i hb
    rw[e]
    exact⟨hX.body f hb,.inl (xo10 hX h hK)⟩
   ·cases h
  ·cases h
 case callvB x xs=>
  simp only[x30] at h
  simp only[s11]
  split at h
  ·rename_i f caps e
   split at h
   ·rename_i hb
    rw[e]
    exact⟨hX.body (fnN f) hb,.inl (xo10 hX h hK)⟩
   ·cases h
  ·cases h
 all_goals (simp only[s11];simp only[x30] at h;rw[h];exact hK)
theorem xo20 (hX:XOk P G X) {q:Bool} {o:AO} {st st':St} (h:xop X G q o st=some st') {K:St→Prop} (hK:K st'):opP P G q o st K:=by
 unfold xop at h
 unfold opP
 split at h
 ·rename_i hg
  simp only[hg]
  exact xo12 hX h hK
 ·rename_i t want hg
  simp only[hg]
  split at h
  ·rename_i b hb
   simp only[hb]
   split at h
   ·rename_i e
    subst e
    exact⟨fun _ =>xo12 hX h hK,fun e=>by cases b <;> cases e⟩
   ·rename_i e
    refine⟨fun e'=>absurd e' e,fun _ =>?_⟩
    unfold s18
    rw[h]
    exact hK
  ·rename_i hb
   simp only[hb]
   unfold s18
   rw[h]
   exact hK
  ·cases h
theorem xo_ (hX:XOk P G X) {q:Bool}:∀{os:List AO} {st st':St},xops X G q os st=some st'→∀{K:St→Prop},K st'→opsP P G q os st K
 | [],st,st',h,K,hK=>by cases h;exact hK
 | o::os,st,st',h,K,hK=>by
  rw[xops] at h
  split at h
  ·rename_i st1 h1
   exact xo20 hX h1 (xo_ hX h hK)
  ·cases h
end
def a24 (d:Nat) (a b:St):List Nat→Bool
 | []=>true
 | t::ts=>aveq (eget b.env t) (eget a.env t)&&(aveq (purge d (eget a.env t)) (eget a.env t)&&a24 d a b ts)
theorem ao10 {d:Nat} {a b:St}:∀{ts:List Nat},a24 d a b ts=true→a14 d a b ts
 | [],_ =>trivial
 | t::ts,h=>by
  rw[a24,Bool.and_eq_true,Bool.and_eq_true] at h
  exact⟨⟨ae10 _ _ h.1,ae10 _ _ h.2.1⟩,ao10 h.2.2⟩
def a23 (a b:St):List Nat→Bool
 | []=>true
 | t::ts=>aveq (eget b.env t) (eget a.env t)&&a23 a b ts
theorem ao_ {a b:St}:∀{ts:List Nat},a23 a b ts=true→a12 a b ts
 | [],_ =>trivial
 | t::ts,h=>by
  rw[a23,Bool.and_eq_true] at h
  exact⟨ae10 _ _ h.1,ao_ h.2⟩
def St.trE (st:St) (k:List Nat):St:={st with env:=st.trimE k}
def xdA (X:XE) (G:Nat→Option AV) (ops:List AO) (k s:Nat) (ktm kt:List Nat) (st:St):Option St:=
 match ops[k]?,ops[s]? with
 | some ⟨some d,.alloc ty sz z,none⟩,some ⟨none,.store p x n,none⟩=>
  match e_ G (some d) (.alloc ty sz z) st with
  | some st1=>match xops X G true ((ops.set k dumO).set s dumO) st,xops X G true ((ops.set k dumO).set s dumO) st1 with
   | some stn,some stn1=>if a24 d (stn.trE ktm) (stn1.trE ktm) (d_ ((ops.set k dumO).set s dumO))=true then
     match e_ G none (.store p x n) (stn1.trE ktm) with
     | some stS=>match xops X G true ((ops.set k dumO).set s dumO) {st1 with heap:=stS.heap} with
      | some stn2=>if a24 d (stn1.trE ktm) (stn2.trE ktm) (d_ ((ops.set k dumO).set s dumO))=true then some ((stn2.trE ktm).trE kt) else none
      | none=>none
     | none=>none
    else none
   | _,_ =>none
  | none=>none
 | _,_ =>none
def xstg (X:XE) (G:Nat→Option AV) (aos:List AO) (ktm:List Nat):List Nat→List (List Nat×List Nat)→St→Option St
 | [],(f,l)::_,st=>match xops X G true (selC aos f) st with
  | some X0=>match xops X G true (selC aos l) (X0.trE ktm) with
   | some X1=>if a23 (X0.trE ktm) (X1.trE ktm) (d_ (selC aos l))=true then some (X0.trE ktm) else none
   | none=>none
  | none=>none
 | c::ls,(f,l)::r,st=>match xops X G true (selC aos f) st with
  | some X0=>match xops X G true (selC aos l) (X0.trE ktm) with
   | some X1=>if a23 (X0.trE ktm) (X1.trE ktm) (d_ (selC aos l))=true then match aos[c]? with
     | some ⟨d,op,none⟩=>match e_ G d op (X0.trE ktm) with
      | some Y=>xstg X G aos ktm ls r Y
      | none=>none
     | _ =>none
    else none
   | none=>none
  | none=>none
 | _,[],_ =>none
section
variable {P:Program} {G:Nat→Option AV} {X:XE}
theorem xo17 (hX:XOk P G X) {aos:List AO} {ktm:List Nat} {K:St→Prop}:∀{ls:List Nat} {ph:List (List Nat×List Nat)} {st st':St},xstg X G aos ktm ls ph st=some st'→K st'→s10 P G aos ktm K ls ph st
 | [],(f,l)::r,st,st',h,hK=>by
  rw[xstg] at h
  split at h
  ·rename_i X0 h0
   split at h
   ·rename_i X1 h1
    split at h
    ·rename_i ha
     cases h
     exact xo_ hX h0 (xo_ hX h1 ⟨ao_ ha,hK⟩)
    ·cases h
   ·cases h
  ·cases h
 | c::ls,(f,l)::r,st,st',h,hK=>by
  rw[xstg] at h
  split at h
  ·rename_i X0 h0
   split at h
   ·rename_i X1 h1
    split at h
    ·rename_i ha
     split at h
     ·rename_i d op hc
      split at h
      ·rename_i Y hY
       exact xo_ hX h0 (xo_ hX h1 ⟨ao_ ha,d,op,Y,hc,hY,xo17 hX h hK⟩)
      ·cases h
     ·cases h
    ·cases h
   ·cases h
  ·cases h
 | [],[],st,st',h,_ =>by simp [xstg] at h
 | _ ::_,[],st,st',h,_ =>by simp [xstg] at h
theorem xo21 (hX:XOk P G X) {ops:List AO} {k s:Nat} {ktm kt:List Nat} {st st':St} (h:xdA X G ops k s ktm kt st=some st') {Q:AE→St→Prop} (hQ:Q .normal st'):awp P G (.dregA ops k s ktm kt) Q st:=by
 unfold xdA at h
 split at h
 ·rename_i d ty sz z p x n e1 e2
  split at h
  ·rename_i st1 h1
   split at h
   ·rename_i stn stn1 h2 h3
    split at h
    ·rename_i ha
     split at h
     ·rename_i stS hS
      split at h
      ·rename_i stn2 h4
       split at h
       ·rename_i hb
        cases h
        exact⟨d,ty,sz,z,p,x,n,st1,e1,e2,h1,xo_ hX h2 (xo_ hX h3 ⟨ao10 ha,stS,hS,xo_ hX h4 ⟨ao10 hb,hQ⟩⟩)⟩
       ·cases h
      ·cases h
     ·cases h
    ·cases h
   ·cases h
  ·cases h
 ·cases h
end
def x27 (X:XE) (G:Nat→Option AV) (o:Option AO) (st:St):Option St:=
 match o with
 | some ⟨d,.callB f xs,none⟩=>x28 X false f (evs G st xs) d st
 | some ⟨d,op,none⟩=>e_ G d op st
 | _ =>none
theorem xo16 {P:Program} {G:Nat→Option AV} {X:XE} (hX:XOk P G X) {o:Option AO} {st st':St} (h:x27 X G o st=some st') {K:St→Prop} (hK:K st'):l16 P G o st K:=by
 unfold x27 at h
 unfold l16
 split at h
 ·exact xo10 hX h hK
 ·rename_i d op hn
  split
  ·rename_i d' f xs e
   simp only[Option.some.injEq,AO.mk.injEq] at e
   obtain⟨rfl,rfl,_⟩:=e
   exact (hn _ _ rfl).elim
  ·rename_i d' op' _ e
   simp only[Option.some.injEq,AO.mk.injEq] at e
   obtain⟨rfl,rfl,_⟩:=e
   exact⟨st',h,hK⟩
  ·rename_i h2
   exact (h2 _ _ rfl).elim
 ·cases h
def e11:List (Nat×AV)→List (Nat×AV)→Bool
 | [],[]=>true
 | (i,a)::l,(j,b)::k=>i==j&&(aveq a b&&e11 l k)
 | _,_ =>false
theorem ee10:∀{a b:List (Nat×AV)},e11 a b=true→a=b
 | [],b,h=>by cases b <;> simp [e11] at h;rfl
 | (i,x)::a,b,h=>by
  cases b with
  | nil=>simp [e11] at h
  | cons y b=>
   obtain⟨j,y⟩:=y
   rw[e11,Bool.and_eq_true,Bool.and_eq_true,beq_iff_eq] at h
   rw[h.1,ae10 _ _ h.2.1,ee10 h.2.2]
def h13:List (Nat×Box)→List (Nat×Box)→Bool
 | [],[]=>true
 | (i,a)::l,(j,b)::k=>i==j&&(b16 a b&&h13 l k)
 | _,_ =>false
theorem he_:∀{a b:List (Nat×Box)},h13 a b=true→a=b
 | [],b,h=>by cases b <;> simp [h13] at h;rfl
 | (i,x)::a,b,h=>by
  cases b with
  | nil=>simp [h13] at h
  | cons y b=>
   obtain⟨j,y⟩:=y
   rw[h13,Bool.and_eq_true,Bool.and_eq_true,beq_iff_eq] at h
   rw[h.1,be_ h.2.1,he_ h.2.2]
def steq (a b:St):Bool:=a.N==b.N&&(e11 a.env b.env&&h13 a.heap b.heap)
theorem se10 {a b:St} (h:steq a b=true):a=b:=by
 unfold steq at h
 rw[Bool.and_eq_true,Bool.and_eq_true,beq_iff_eq] at h
 cases a;cases b
 rw[St.mk.injEq]
 exact⟨h.1,ee10 h.2.1,he_ h.2.2⟩
def dedS:List St→List St
 | []=>[]
 | s::r=>let q:=dedS r;if q.any (steq s) then q else s::q
theorem dm10:∀{l:List St} {s:St},s∈l→s∈dedS l
 | x::r,s,h=>by
  simp only[dedS]
  rcases List.mem_cons.1 h with rfl | h
  ·split
   ·rename_i ha
    obtain⟨t,ht,he⟩:=List.any_eq_true.1 ha
    rw[se10 he]
    exact ht
   ·exact List.mem_cons_self
  ·split
   ·exact dm10 h
   ·exact List.mem_cons_of_mem _ (dm10 h)
def x29 (X:XE) (G:Nat→Option AV) (aos:List AO) (ktm:List Nat):DT→St→Option (List St)
 | .fin,st=>some [st]
 | .nil,_ =>some []
 | .next c f l sub rest,st=>match x27 X G (aos[c]?) st with
  | some Y=>match xops X G true (selC aos f) Y with
   | some X0=>match xops X G true (selC aos l) (X0.trE ktm) with
    | some X1=>if a23 (X0.trE ktm) (X1.trE ktm) (d_ (selC aos l))=true then match x29 X G aos ktm sub (X0.trE ktm),x29 X G aos ktm rest st with
      | some a,some b=>some (a++b)
      | _,_ =>none
     else none
    | none=>none
   | none=>none
  | none=>none
theorem xo11 {P:Program} {G:Nat→Option AV} {X:XE} (hX:XOk P G X) {aos:List AO} {ktm:List Nat} {K:St→Prop}:∀{t:DT} {st:St} {L:List St},x29 X G aos ktm t st=some L→(∀s∈L,K s)→t15 P G aos ktm K t st
 | .fin,st,L,h,hK=>by simp only[x29,Option.some.injEq] at h;subst h;exact hK st (by simp)
 | .nil,st,L,h,hK=>trivial
 | .next c f l sub rest,st,L,h,hK=>by
  simp only[x29] at h
  split at h
  ·rename_i Y hY
   split at h
   ·rename_i X0 h0
    split at h
    ·rename_i X1 h1
     split at h
     ·rename_i ha
      split at h
      ·rename_i a b ea eb
       simp only[Option.some.injEq] at h
       subst h
       exact⟨xo16 hX hY (xo_ hX h0 (xo_ hX h1 ⟨ao_ ha,xo11 hX ea fun s hs=>hK s (List.mem_append_left _ hs)⟩)),xo11 hX eb fun s hs=>hK s (List.mem_append_right _ hs)⟩
      ·cases h
     ·cases h
    ·cases h
   ·cases h
  ·cases h
def b13 (f:St→Option (List (AE×St))):List (AE×St)→Option (List (AE×St))
 | []=>some []
 | (.normal,s)::r=>match f s,b13 f r with
  | some a,some b=>some (a++b)
  | _,_ =>none
 | (e,s)::r=>match b13 f r with
  | some b=>some ((e,s)::b)
  | none=>none
theorem bo10 {f:St→Option (List (AE×St))} {Q:AE→St→Prop}:∀{l L:List (AE×St)},b13 f l=some L→(∀x∈L,Q x.1 x.2)→∀x∈l,match x.1 with
  | .normal=>∃L',f x.2=some L'∧∀y∈L',Q y.1 y.2
  | e=>Q e x.2
 | [],L,h,hQ,x,hx=>by cases hx
 | (e,s)::r,L,h,hQ,x,hx=>by
  cases e with
  | normal=>
   simp only[b13] at h
   split at h
   ·rename_i a b ea eb
    simp only[Option.some.injEq] at h
    subst h
    rcases List.mem_cons.1 hx with rfl | hx
    ·exact⟨a,ea,fun y hy=>hQ y (List.mem_append_left _ hy)⟩
    ·exact bo10 eb (fun y hy=>hQ y (List.mem_append_right _ hy)) x hx
   ·cases h
  | exit id=>
   simp only[b13] at h
   split at h
   ·rename_i b eb
    simp only[Option.some.injEq] at h
    subst h
    rcases List.mem_cons.1 hx with rfl | hx
    ·exact hQ _ List.mem_cons_self
    ·exact bo10 eb (fun y hy=>hQ y (List.mem_cons_of_mem _ hy)) x hx
   ·cases h
  | ret=>
   simp only[b13] at h
   split at h
   ·rename_i b eb
    simp only[Option.some.injEq] at h
    subst h
    rcases List.mem_cons.1 hx with rfl | hx
    ·exact hQ _ List.mem_cons_self
    ·exact bo10 eb (fun y hy=>hQ y (List.mem_cons_of_mem _ hy)) x hx
   ·cases h
def x_ (body:St→Option (List (AE×St))) (kt kb:List Nat):Nat→St→Option (List (AE×St))
 | 0,_ =>none
 | n+1,st=>match body st with
  | some [(.normal,st')]=>x_ body kt kb n (st'.trim kt kb)
  | some L=>b13 (fun st'=>x_ body kt kb n (st'.trim kt kb)) L
  | none=>none
def e14 (id:Nat):AE×St→AE×St
 | (.exit j,s)=>if j=id then (.normal,s) else (.exit j,s)
 | x=>x
def xac (X:XE) (G:Nat→Option AV) (fuel:Nat):AC→St→Option (List (AE×St))
 | .skip,st=>some [(.normal,st)]
 | .reg ops kt,st=>(xops X G false ops st).map fun st'=>[(.normal,st'.trE kt)]
 | .dreg ops kt,st=>(xops X G true ops st).map fun st'=>[(.normal,st'.trE kt)]
 | .dregA ops k s ktm kt,st=>(xdA X G ops k s ktm kt st).map fun st'=>[(.normal,st')]
 | .dregC ops ls _ _ ph ktm kt,st=>(xstg X G ops ktm ls ph st).map fun st'=>[(.normal,st'.trE kt)]
 | .dregT ops _ _ _ f0 tr ktm kt,st=>match xops X G true (selC ops f0) st with
  | some X0=>(x29 X G ops ktm tr (X0.trE ktm)).map fun L=>(dedS (L.map fun s=>s.trE kt)).map fun s=>(.normal,s)
  | none=>none
 | .seq a b,st=>match xac X G fuel a st with
  | some [(.normal,st')]=>xac X G fuel b st'
  | some L=>b13 (xac X G fuel b) L
  | none=>none
 | .cond c a b,st=>match st.ev G c with
  | .bool true=>xac X G fuel a st
  | .bool false=>xac X G fuel b st
  | _ =>none
 | .block id a,st=>(xac X G fuel a st).map fun L=>L.map (e14 id)
 | .loop kt kb a,st=>x_ (xac X G fuel a) kt kb fuel (st.trim kt kb)
 | .exit id,st=>some [(.exit id,st)]
 | .ret,st=>some [(.ret,st)]
section
variable {P:Program} {G:Nat→Option AV} {X:XE}
theorem xo19 (hX:XOk P G X) {fuel:Nat}:∀{ac:AC} {st:St} {L:List (AE×St)},xac X G fuel ac st=some L→∀{Q:AE→St→Prop},(∀x∈L,Q x.1 x.2)→awp P G ac Q st:=by
 intro ac
 induction ac with
 | skip=>intro st L h Q hQ;simp only[xac,Option.some.injEq] at h;subst h;exact hQ _ List.mem_cons_self
 | reg ops kt=>
  intro st L h Q hQ
  simp only[xac,Option.map_eq_some_iff] at h
  obtain⟨st1,h1,rfl⟩:=h
  exact xo_ hX h1 (hQ _ List.mem_cons_self)
 | dreg ops kt=>
  intro st L h Q hQ
  simp only[xac,Option.map_eq_some_iff] at h
  obtain⟨st1,h1,rfl⟩:=h
  exact xo_ hX h1 (hQ _ List.mem_cons_self)
 | dregA ops k s ktm kt=>
  intro st L h Q hQ
  simp only[xac,Option.map_eq_some_iff] at h
  obtain⟨st1,h1,rfl⟩:=h
  exact xo21 hX h1 (hQ _ List.mem_cons_self)
 | dregC ops ls sa sb ph ktm kt=>
  intro st L h Q hQ
  simp only[xac,Option.map_eq_some_iff] at h
  obtain⟨st1,h1,rfl⟩:=h
  exact xo17 hX (K:=fun X=>Q .normal (X.trE kt)) h1 (hQ _ List.mem_cons_self)
 | dregT ops ls en fb f0 tr ktm kt=>
  intro st L h Q hQ
  simp only[xac] at h
  split at h
  ·rename_i X0 h0
   simp only[Option.map_eq_some_iff] at h
   obtain⟨L1,h1,rfl⟩:=h
   refine xo_ hX h0 (xo11 hX (K:=fun X=>Q .normal (X.trE kt)) h1 fun s hs=>?_)
   exact hQ (.normal,s.trE kt) (List.mem_map.2 ⟨s.trE kt,dm10 (List.mem_map.2 ⟨s,hs,rfl⟩),rfl⟩)
  ·cases h
 | seq a b iha ihb=>
  intro st L h Q hQ
  have key:∀La,xac X G fuel a st=some La→b13 (xac X G fuel b) La=some L→awp P G (.seq a b) Q st:=fun La ea eb=>by
   refine iha ea fun x hx=>?_
   have h1:=bo10 eb hQ x hx
   obtain⟨e,s⟩:=x
   cases e with
   | normal=>obtain⟨L',h2,h3⟩:=h1;exact ihb h2 h3
   | exit id=>exact h1
   | ret=>exact h1
  simp only[xac] at h
  split at h
  ·rename_i st1 h1
   refine key _ h1 ?_
   simp only[b13,h,List.append_nil]
  ·rename_i La _ h1
   exact key _ h1 h
  ·cases h
 | cond c a b iha ihb=>
  intro st L h Q hQ
  simp only[xac] at h
  simp only[awp]
  split at h
  ·rename_i hb
   rw[hb]
   exact⟨fun _ =>iha h hQ,fun e=>by cases e⟩
  ·rename_i hb
   rw[hb]
   exact⟨fun e=>(by cases e),fun _ =>ihb h hQ⟩
  ·cases h
 | block id a iha=>
  intro st L h Q hQ
  simp only[xac,Option.map_eq_some_iff] at h
  obtain⟨L1,h1,rfl⟩:=h
  refine iha h1 fun x hx=>?_
  have h2:=hQ _ (List.mem_map.2 ⟨x,hx,rfl⟩)
  obtain⟨e,s⟩:=x
  cases e with
  | normal=>exact h2
  | ret=>exact h2
  | exit j=>
   simp only[e14] at h2
   simp only
   split
   ·rename_i e;rw[if_pos e] at h2;exact h2
   ·rename_i e;rw[if_neg e] at h2;exact h2
 | loop kt kb a iha=>
  intro st L h Q hQ
  simp only[xac] at h
  refine⟨fun n s=>∃L,x_ (xac X G fuel a) kt kb n s=some L∧∀x∈L,Q x.1 x.2,fuel,⟨_,Weak.refl _,L,h,hQ⟩,fun n s hs=>?_⟩
  obtain⟨L,hs,hQ⟩:=hs
  cases n with
  | zero=>simp [x_] at hs
  | succ n=>
   have key:∀La,xac X G fuel a s=some La→b13 (fun st'=>x_ (xac X G fuel a) kt kb n (st'.trim kt kb)) La=some L→awp P G a (fun e st'=>match e with | .normal=>∃m,m<n+1∧∃st0,Weak (st'.trim kt kb) st0∧∃L,x_ (xac X G fuel a) kt kb m st0=some L∧∀x∈L,Q x.1 x.2 | e=>Q e st') s:=fun La ea eb=>by
    refine iha ea fun x hx=>?_
    have h1:=bo10 eb hQ x hx
    obtain⟨e,s1⟩:=x
    cases e with
    | normal=>obtain⟨L',h2,h3⟩:=h1;exact⟨n,Nat.lt_succ_self n,_,Weak.refl _,L',h2,h3⟩
    | exit id=>exact h1
    | ret=>exact h1
   simp only[x_] at hs
   split at hs
   ·rename_i s1 h1
    refine key _ h1 ?_
    simp only[b13,hs,List.append_nil]
   ·rename_i La _ h1
    exact key _ h1 hs
   ·cases hs
 | exit id=>intro st L h Q hQ;simp only[xac,Option.some.injEq] at h;subst h;exact hQ _ List.mem_cons_self
 | ret=>intro st L h Q hQ;simp only[xac,Option.some.injEq] at h;subst h;exact hQ _ List.mem_cons_self
end
structure XF where
 A:AFun
 mode:Nat
 fr:List Nat
abbrev XTab:=List (Nat×XF)
def tabX:XTab→Nat→Option XF
 | [],_ =>none
 | (g,x)::r,f=>if g=f then some x else tabX r f
def X_ (P:Program):XTab→Prop
 | []=>True
 | (g,x)::r=>(b10 P g=true∧∃fn,P.funcs[g]? =some fn∧chkF P fn x.A=true)∧X_ P r
theorem to_ {P:Program}:∀{T:XTab} {f:Nat} {x:XF},X_ P T→tabX T f=some x→b10 P f=true∧∃fn,P.funcs[f]? =some fn∧chkF P fn x.A=true
 | [],_,_,_,h=>by cases h
 | (g,y)::r,f,x,hT,h=>by
  rw[tabX] at h
  split at h
  ·rename_i e
   cases h
   exact e ▸ hT.1
  ·exact to_ hT.2 h
def finP (A:AFun) (st:St):Option AV:=match r12 st A.res with
 | some vs=>view st.heap (one vs)
 | none=>none
def s25 (A:AFun) (r:AV):List (AE×St)→Bool
 | []=>true
 | (.exit _,_)::_ =>false
 | (_,st)::l=>(match finP A st with | some v=>aveq v r | none=>false)&&s25 A r l
def runP (X:XE) (G:Nat→Option AV) (fuel:Nat) (A:AFun) (args:List AV):Option AV:=
 if args.length=A.k then match xac X G fuel A.body ⟨A.N,a11 0 args,[]⟩ with
  | some ((e,st)::l)=>match finP A st with
   | some r=>if s25 A r ((e,st)::l)=true then some r else none
   | none=>none
  | _ =>none
 else none
theorem so10 {A:AFun} {r:AV}:∀{l:List (AE×St)},s25 A r l=true→∀x∈l,(∀id,x.1≠ .exit id)∧finP A x.2=some r
 | (e,st)::l,h,x,hx=>by
  have:(match finP A st with | some v=>aveq v r | none=>false)=true∧s25 A r l=true∧∀id,e≠ .exit id:=by
   cases e with
   | exit id=>simp [s25] at h
   | normal=>rw[s25,Bool.and_eq_true] at h;exact⟨h.1,h.2,fun _ e=>(by cases e)⟩;intro _ e;cases e
   | ret=>rw[s25,Bool.and_eq_true] at h;exact⟨h.1,h.2,fun _ e=>(by cases e)⟩;intro _ e;cases e
  obtain⟨h1,h2,h3⟩:=this
  rcases List.mem_cons.1 hx with rfl | hx
  ·refine⟨h3,?_⟩
   split at h1
   ·rename_i v hv
    rw[hv,ae10 _ _ h1]
   ·cases h1
  ·exact so10 h2 x hx
def finH (A:AFun) (H:List (Nat×Box)) (st:St):Option (AV×List (Nat×Box)):=match r12 st A.res with
 | some vs=>some (one vs,p16 st.heap (r14 st.heap 10000 (H.map (·.1)++n12 (one vs)) []))
 | none=>none
def s26 (A:AFun) (H:List (Nat×Box)) (r:AV) (H':List (Nat×Box)):List (AE×St)→Bool
 | []=>true
 | (.exit _,_)::_ =>false
 | (_,st)::l=>(match finH A H st with | some v=>aveq v.1 r&&h13 v.2 H' | none=>false)&&s26 A H r H' l
theorem so11 {A:AFun} {H H':List (Nat×Box)} {r:AV}:∀{l:List (AE×St)},s26 A H r H' l=true→∀x∈l,(∀id,x.1≠ .exit id)∧finH A H x.2=some (r,H')
 | (e,st)::l,h,x,hx=>by
  have:(match finH A H st with | some v=>aveq v.1 r&&h13 v.2 H' | none=>false)=true∧s26 A H r H' l=true∧∀id,e≠ .exit id:=by
   cases e with
   | exit id=>simp [s26] at h
   | normal=>rw[s26,Bool.and_eq_true] at h;exact⟨h.1,h.2,fun _ e=>(by cases e)⟩;intro _ e;cases e
   | ret=>rw[s26,Bool.and_eq_true] at h;exact⟨h.1,h.2,fun _ e=>(by cases e)⟩;intro _ e;cases e
  obtain⟨h1,h2,h3⟩:=this
  rcases List.mem_cons.1 hx with rfl | hx
  ·refine⟨h3,?_⟩
   split at h1
   ·rename_i v hv
    rw[Bool.and_eq_true] at h1
    rw[hv,←ae10 _ _ h1.1,←he_ h1.2]
   ·cases h1
  ·exact so11 h2 x hx
def r19 (X:XE) (G:Nat→Option AV) (fuel:Nat) (A:AFun) (args:List AV) (H:List (Nat×Box)):Option (AV×List (Nat×Box)):=
 if args.length=A.k∧h12 A.N H=true then match xac X G fuel A.body ⟨A.N,a11 0 args,H⟩ with
  | some ((e,st)::l)=>match finH A H st with
   | some r=>if s26 A H r.1 r.2 ((e,st)::l)=true then some r else none
   | none=>none
  | _ =>none
 else none
section
variable {P:Program} {G:Nat→Option AV} {X:XE}
theorem ro12 (hX:XOk P G X) {fuel:Nat} {A:AFun} {f:Nat} {fn:Func} {args:List AV} {r:AV} (hf:P.funcs[f]? =some fn) (hc:chkF P fn A=true) (h:runP X G fuel A args=some r):P_ P G f args r:=by
 unfold runP at h
 split at h
 ·rename_i hk
  have fin:∀st,finP A st=some r→H12 A r st:=fun st hst=>by
   unfold finP at hst
   split at hst
   ·rename_i vs hv
    exact⟨vs,r,hv,hst,.refl _⟩
   ·cases hst
  split at h
  ·rename_i e st l h1
   split at h
   ·rename_i v hv
    split at h
    ·rename_i hs
     cases h
     refine P_.of_runs hf hc hk (xo19 hX h1 fun x hx=>?_)
     obtain⟨h2,h3⟩:=so10 hs x hx
     obtain⟨e,s⟩:=x
     cases e with
     | normal=>exact fin _ h3
     | exit id=>exact (h2 id rfl).elim
     | ret=>exact fin _ h3
    ·cases h
   ·cases h
  ·cases h
 ·cases h
theorem ro11 (hX:XOk P G X) {fuel:Nat} {A:AFun} {f:Nat} {fn:Func} {args:List AV} {H H':List (Nat×Box)} {r:AV} (hf:P.funcs[f]? =some fn) (hc:chkF P fn A=true) (h:r19 X G fuel A args H=some (r,H')):H_ P G f args H r H':=by
 unfold r19 at h
 split at h
 ·rename_i hk
  have fin:∀st,finH A H st=some (r,H')→H10 A r H' st:=fun st hst=>by
   unfold finH at hst
   split at hst
   ·rename_i vs hv
    simp only[Option.some.injEq,Prod.mk.injEq] at hst
    obtain⟨rfl,rfl⟩:=hst
    exact⟨st,vs,Weak.refl _,hv,.refl _,fun i b hb=>pg_ hb⟩
   ·cases hst
  split at h
  ·rename_i e st l h1
   split at h
   ·rename_i v hv
    split at h
    ·rename_i hs
     cases h
     refine H_.of_runs hf hc hk.1 hk.2 (xo19 hX h1 fun x hx=>?_)
     obtain⟨h2,h3⟩:=so11 hs x hx
     obtain⟨e,s⟩:=x
     cases e with
     | normal=>exact fin _ h3
     | exit id=>exact (h2 id rfl).elim
     | ret=>exact fin _ h3
    ·cases h
   ·cases h
  ·cases h
 ·cases h
end
def xrun (T:XTab) (G:Nat→Option AV) (pc0:Nat→List AV→Option AV) (fuel:Nat):Nat→Nat→XE
 | 0,_ =>⟨fun _ _ =>none,fun _ _ _ =>none,fun _ =>0,fun _ =>false,[]⟩
 | n+1,g=>⟨fun f args=>match tabX T f with
    | some x=>runP (xrun T G pc0 fuel n f) G fuel x.A args
    | none=>pc0 f args,
  fun f args H=>match tabX T f with
   | some x=>r19 (xrun T G pc0 fuel n f) G fuel x.A args H
   | none=>none,
  fun f=>match tabX T f with | some x=>x.mode | none=>0,
  fun f=>match tabX T f with | some _ =>true | none=>false,
  match tabX T g with | some x=>x.fr | none=>[]⟩
theorem xo13 {P:Program} {G:Nat→Option AV} {T:XTab} {pc0:Nat→List AV→Option AV} (hT:X_ P T) (h0:∀f args r,pc0 f args=some r→P_ P G f args r) (fuel:Nat):∀n g,XOk P G (xrun T G pc0 fuel n g)
 | 0,_ =>⟨fun _ _ _ h=>(by cases h),fun _ _ _ _ _ h=>(by cases h),fun _ h=>(by cases h)⟩
 | n+1,g=>by
  refine⟨fun f args r h=>?_,fun f args H r H' h=>?_,fun f h=>?_⟩
  ·simp only[xrun] at h
   split at h
   ·rename_i x hx
    obtain⟨_,fn,h1,h2⟩:=to_ hT hx
    exact ro12 (xo13 hT h0 fuel n f) h1 h2 h
   ·exact h0 f args r h
  ·simp only[xrun] at h
   split at h
   ·rename_i x hx
    obtain⟨_,fn,h1,h2⟩:=to_ hT hx
    exact ro11 (xo13 hT h0 fuel n f) h1 h2 h
   ·cases h
  ·simp only[xrun] at h
   split at h
   ·rename_i x hx
    exact (to_ hT hx).1
   ·cases h
theorem xp_ {P:Program} {G:Nat→Option AV} {T:XTab} {pc0:Nat→List AV→Option AV} (hT:X_ P T) (h0:∀f args r,pc0 f args=some r→P_ P G f args r) (fuel n:Nat) {f:Nat} {args:List AV} {r:AV} (h:(xrun T G pc0 fuel n 0).pc f args=some r):P_ P G f args r:=(xo13 hT h0 fuel n 0).pc f args r h
end Go.Proofs.YtkejmcgngblfnaaGreatDoor.Ab
