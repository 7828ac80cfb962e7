/-
  Lemmas. No claim is proved here.
-/
import Derived.Test.YtkadalpaeglmnaaGreatDoorYAbDrC
set_option linter.unusedSimpArgs false
namespace Go.Proofs.YtkadalpaeglmnaaGreatDoor.Ab
open Go Go.RowKit
inductive DT where
 | fin
 | nil
 | next (c:Nat) (f l:List Nat) (sub rest:DT)
def DT.beq:DT→DT→Bool
 | .fin,.fin=>true
 | .nil,.nil=>true
 | .next c f l s r,.next c' f' l' s' r'=>c==c'&&f==f'&&l==l'&&s.beq s'&&r.beq r'
 | _,_ =>false
theorem DT.of_beq:∀{a b:DT},a.beq b=true→a=b
 | .fin,.fin,_ =>rfl
 | .nil,.nil,_ =>rfl
 | .next c f l s r,.next c' f' l' s' r',h=>by simp only[DT.beq,zK,zC] at h;obtain⟨⟨⟨⟨rfl,rfl⟩,rfl⟩,h1⟩,h2⟩:=h;rw[DT.of_beq h1,DT.of_beq h2]
 | .fin,.nil,h=>by cases h
 | .fin,.next ..,h=>by cases h
 | .nil,.fin,h=>by cases h
 | .nil,.next ..,h=>by cases h
 | .next ..,.fin,h=>by cases h
 | .next ..,.nil,h=>by cases h
def l23:AOp→Bool
 | .callB .. =>true
 | op=>l17 op
section
variable (P:Program) (G:Nat→Option AV)
def l14 (o:Option AO) (X:St) (K:St→Prop):Prop:=
 match o with
 | some ⟨d,.callB f xs,none⟩=>c17 P G false f (evs G X xs) d X K
 | some ⟨d,op,none⟩=>∃Y,e_ G d op X=some Y∧K Y
 | _ =>False
def t40 (aos:List AO) (ktm:List Nat) (K:St→Prop):DT→St→Prop
 | .fin,X=>K X
 | .nil,_ =>True
 | .next c f l sub rest,X=>l14 P G (aos[c]?) X (fun Y=>opsP P G true (selC aos f) Y fun X0=>opsP P G true (selC aos l) {X0 with env:=X0.trimE ktm} fun X1=>
   a14 {X0 with env:=X0.trimE ktm} {X1 with env:=X1.trimE ktm} (d13 (selC aos l))∧t40 aos ktm K sub {X0 with env:=X0.trimE ktm})∧t40 aos ktm K rest X
end
theorem lm_ {P:Program} {G:Nat→Option AV} {o:Option AO} {X:St} {K K':St→Prop} (hk:∀Y,K Y→K' Y) (h:l14 P G o X K):l14 P G o X K':=by
 unfold l14 at h ⊢;split at h
 ·exact cm_ h hk
 ·obtain⟨Y,h1,h2⟩:=h;exact⟨Y,h1,hk _ h2⟩
 ·exact h.elim
theorem tm10 {P:Program} {G:Nat→Option AV} {aos:List AO} {ktm:List Nat} {K K':St→Prop} (hk:∀X,K X→K' X):∀(t:DT) (X:St),t40 P G aos ktm K t X→t40 P G aos ktm K' t X
 | .fin,X,h=>hk X h
 | .nil,_,_ =>trivial
 | .next _c _f _l sub rest,X,h=>⟨lm_ (fun _Y h=>om_ h fun _X0 h=>om_ h fun _X1 h=>⟨h.1,tm10 hk sub _ h.2⟩) h.1,tm10 hk rest X h.2⟩
section
variable {P:Program} {G:Nat→Option AV} {st st':St}
theorem pu10 {d:Option Nat} {v:AV} {a b st1:St} (hh:b.heap=a.heap) (hN:b.N=a.N) (N0:a.N=st.N) (T:AV→AV) (hT:∀t,eget a.env t=T (eget st.env t)∧eget b.env t=T (eget st'.env t)) (h:a.put d v=some st1):
  ∃st1',b.put d v=some st1'∧Uni d st st' st1 st1':=by
 unfold St.put at h ⊢;split at h
 ·cases h;exact⟨_,rfl,⟨hh,hN,N0,T,fun t _ =>hT t,fun t ht=>by cases ht⟩⟩
 ·rename_i d;split at h
  ·rename_i hd;cases h
   try simp only
   rw[zG (by rw[hN];exact hd)];refine⟨_,rfl,⟨hh,hN,N0,T,fun t ht=>?_,fun t ht=>?_⟩⟩
   ·have hne:¬d=t:=fun e=>ht (by rw[e]);simp only[eget,zF hne];exact hT t
   ·cases ht;simp [eget]
  ·cases h
theorem lu10 {d:Option Nat} {op:AOp} (hu:l23 op=true) (hs:i12 op=true→d=none) (hh:st'.heap=st.heap) (hN:st'.N=st.N) (hl:∀t∈l13 op,eget st'.env t=eget st.env t) {K:St→Prop} (h:l14 P G (some ⟨d,op,none⟩) st K):
  opP P G true ⟨d,op,none⟩ st' (fun st1'=>∃Y,K Y∧Uni d st st' Y st1'):=by
 by_cases hb:∃f xs,op= .callB f xs
 ·obtain⟨f,xs,rfl⟩:=hb;show c21 P G false f (evs G st' xs) (none,xs) d st' _;have he:evs G st' xs=evs G st xs:=ec10 hl;rw[he];have h':c17 P G false f (evs G st xs) d st K:=h;left;rcases h' with (⟨vargs,args',r,Y,h1,h2,h3,h4,_,h6⟩ | ⟨vargs,args',r,Y,h1,h2,h3,h4,h6⟩) | ⟨_,I,args1,args',H,H',H2,r,r2,Y,h1,h2,h3,h4,h5,h6,h7,h8,h9,h10,h11⟩
  ·have hbh:∃T:AV→AV,(∀t,eget (b10 st (evs G st xs) r).env t=T (eget st.env t)∧eget (b10 st' (evs G st xs) r).env t=T (eget st'.env t))∧(b10 st' (evs G st xs) r).heap=(b10 st (evs G st xs) r).heap∧(b10 st' (evs G st xs) r).N=(b10 st (evs G st xs) r).N∧(b10 st (evs G st xs) r).N=st.N:=by
    unfold b10;split
    ·exact⟨id,fun t=>⟨rfl,rfl⟩,hh,hN,rfl⟩
    ·obtain⟨t1,t2,t3,T,hT⟩:=tu_ (r12 (evs G st xs)) hh hN;exact⟨T,hT,t1,t2,t3⟩
   obtain⟨T,hT,b1,b2,b3⟩:=hbh;obtain⟨Y',e1,hu⟩:=pu10 (st':=st') b1 b2 b3 T hT h4;refine .inl (.inl ⟨vargs,args',r,Y',?_,h2,h3,e1,(fun e=>by cases e),Y,h6,hu⟩);rw[hh];exact h1
  ·obtain⟨Y',e1,hu⟩:=pu10 (st:=st) (st':=st') hh hN rfl id (fun t=>⟨rfl,rfl⟩) h4;refine .inl (.inr ⟨vargs,args',r,Y',?_,h2,h3,e1,Y,h6,hu⟩);rw[hh];exact h1
  ·obtain⟨Y',e1,hu⟩:=pu10 (st:=st) (st':=st') (a:=a15 st I H H2) (b:=a15 st' I H H2) (by simp only[a15,hh]) (by simp only[a15,hN]) rfl (purges (r10 H I)) (fun t=>by simp only[a15,ep10];exact⟨trivial,trivial⟩) h10;refine .inr ⟨rfl,I,args1,args',H,H',H2,r,r2,Y',h1,h2,?_,h4,h5,?_,h7,h8,h9,e1,Y,h11,hu⟩
   ·rw[hh];exact h3
   ·rw[hN];exact h6
 ·have hu':l17 op=true:=by
   cases op <;> first | exact hu | exact absurd ⟨_,_,rfl⟩ hb
  have h':∃Y,e_ G d op st=some Y∧K Y:=by cases op <;> first | exact h | exact absurd ⟨_,_,rfl⟩ hb
  obtain⟨Y,h1,h2⟩:=h';obtain⟨Y',e1,hun⟩:=lu_ hu' hs hh hN hl h1;show s23 P G true d op st' _;cases op <;> simp only[l17,zW] at hu' <;> (simp only[s23,e1];exact⟨Y,h2,hun⟩)
end
def inD (xs done:List Nat):Bool:=xs.all fun c=>done.contains c
def outD (xs done:List Nat):Bool:=done.all fun c=>!xs.contains c
theorem ii_ {xs done:List Nat}:inD xs done=true↔∀c∈xs,c∈done:=by simp [inD]
theorem oi_ {xs done:List Nat}:outD xs done=true↔∀c∈done,c∉xs:=by simp [outD]
def f23 (aos:List AO) (en fb:List (List Nat)) (h:Nat) (done:List Nat):List Nat:=(List.range aos.length).filter fun j=>q12 aos j&&(inD (en.getD j []) (h::done)&& !inD (en.getD j []) done&&outD (fb.getD j []) (h::done))
def l18 (aos:List AO) (en fb:List (List Nat)) (h:Nat) (done:List Nat):List Nat:=(List.range aos.length).filter fun j=>q12 aos j&&(inD (en.getD j []) done&&outD (fb.getD j []) (h::done))
def f24 (aos:List AO) (en:List (List Nat)):List Nat:=(List.range aos.length).filter fun j=>q12 aos j&&inD (en.getD j []) []
def l16 (ls done:List Nat):List Nat:=ls.filter fun c=>!done.contains c
def n19 (ls:List Nat) (en:List (List Nat)) (done:List Nat):List Nat:=ls.filter fun c=>!done.contains c&&inD (en.getD c []) done
def k17 (aos:List AO) (en fb:List (List Nat)) (rec:List Nat→DT) (done:List Nat):List Nat→DT
 | []=>.nil
 | c::cs=>.next c (f23 aos en fb c done) (l18 aos en fb c done) (rec (c::done)) (k17 aos en fb rec done cs)
def mkT (aos:List AO) (ls:List Nat) (en fb:List (List Nat)):Nat→List Nat→DT
 | 0,done=>if (l16 ls done).isEmpty then .fin else .nil
 | n+1,done=>if (l16 ls done).isEmpty then .fin else k17 aos en fb (mkT aos ls en fb n) done (n19 ls en done)
def d18 (ops:Array Oper) (aos:List AO) (ls:List Nat) (en fb:List (List Nat)) (f0:List Nat) (tr:DT) (ktm kt:List Nat):Bool:=
 let n:=aos.length
 tr.beq (mkT aos ls en fb ls.length [])&&f0==f24 aos en&&
 kt.all (fun t=>ktm.contains t)&&
 ls.all (fun c=>match aos[c]? with
  | some x=>l23 x.op&&x.g.isNone&& !q10 x.op
  | none=>false)&&
 (List.range n).all (fun i=>match aos[i]? with
  | some x=>e14 ops i&&(q10 x.op||ls.contains i)&&
    (match x.d with | some d=>ktm.contains d&& !x.looksC.contains d | none=>true)&&x.looksC.all (fun t=>ktm.contains t)&&
    (en.getD i []).all (fun c=>ls.contains c&&(h_ ops i c||(List.range i).any fun j=>h_ ops i j&&(en.getD j []).contains c))&&
    (!q10 x.op||(fb.getD i []).all fun c=>h_ ops c i||(List.range n).any fun q=>h_ ops q i&&((decide (i<q)&&q12 aos q&&(fb.getD q []).contains c)||(ls.contains q&&(en.getD c []).contains q)))&&
    (List.range n).all (fun j=>match aos[j]? with
     | some y=>i==j||match y.d with
      | some d=>x.d != some d&&(!(x.looksC.contains d)||h_ ops i j|| !q10 y.op||(if q10 x.op then (en.getD j []).any fun c=>(fb.getD i []).contains c else (en.getD j []).contains i))
      | none=>true
     | none=>true)
  | none=>true)
structure TOk (ops:Array Oper) (aos:List AO) (ls:List Nat) (en fb:Nat→List Nat) (ktm:List Nat):Prop where
 low:∀(i:Nat) (o:Oper),i<aos.length→ops[i]? =some o→∀e∈o.after,Region.binds .any e=true→e.on<i
 dst:∀(i j:Nat) (x y:AO) (d:Nat),aos[i]? =some x→aos[j]? =some y→x.d=some d→y.d=some d→i=j
 ktd:∀(i:Nat) (x:AO) (d:Nat),aos[i]? =some x→x.d=some d→d∈ktm
 ktl:∀(i:Nat) (x:AO) (t:Nat),aos[i]? =some x→t∈x.looksC→t∈ktm
 self:∀(i:Nat) (x:AO) (d:Nat),aos[i]? =some x→x.d=some d→d∉x.looksC
 loud:∀(i:Nat) (x:AO),aos[i]? =some x→q10 x.op=false→i∈ls
 lsq:∀c∈ls,∃x,aos[c]? =some x∧q10 x.op=false∧l23 x.op=true∧x.g=none
 enc:∀(i:Nat) (x:AO) (c:Nat),aos[i]? =some x→c∈en i→c∈ls∧(h_ ops i c=true∨∃j:Nat,j<i∧h_ ops i j=true∧c∈en j)
 fbc:∀(i:Nat) (x:AO) (c:Nat),aos[i]? =some x→q10 x.op=true→c∈fb i→h_ ops c i=true∨(∃(q:Nat) (y:AO),i<q∧aos[q]? =some y∧q10 y.op=true∧h_ ops q i=true∧c∈fb q)∨∃q∈ls,h_ ops q i=true∧q∈en c
 lookQ:∀(i j:Nat) (x y:AO) (d:Nat),aos[i]? =some x→aos[j]? =some y→q10 x.op=true→q10 y.op=true→y.d=some d→d∈x.looksC→h_ ops i j=true∨∃c∈en j,c∈fb i
 lookL:∀(i j:Nat) (x y:AO) (d:Nat),aos[i]? =some x→aos[j]? =some y→q10 x.op=false→q10 y.op=true→y.d=some d→d∈x.looksC→h_ ops i j=true∨i∈en j
section
variable {P:Program} {G:Nat→Option AV} {ops:Array Oper} {aos:List AO} {ls ktm:List Nat} {en fb:Nat→List Nat} {K:St→Prop}
theorem seqT (hdst:∀(i j:Nat) (x y:AO) (d:Nat),aos[i]? =some x→aos[j]? =some y→x.d=some d→y.d=some d→i=j):∀(f:List Nat) (st:St),f.Pairwise (·<·)→(∀j∈f,∃x,aos[j]? =some x∧q10 x.op=true)→opsP P G true (selC aos f) st K→
  ∃X0,K X0∧X0.heap=st.heap∧X0.N=st.N∧(∀t,(∀m∈f,∀x,aos[m]? =some x→x.d≠some t)→eget X0.env t=eget st.env t)∧
   ∀j∈f,∀x,aos[j]? =some x→∃S v,yld P G x S v∧dOK x S.N∧S.heap=st.heap∧S.N=st.N∧(∀d,x.d=some d→eget X0.env d=v)∧
    (∀t,(∀m∈f,j≤m→∀y,aos[m]? =some y→y.d≠some t)→eget X0.env t=eget S.env t)∧(∀t,(∀m∈f,m<j→∀y,aos[m]? =some y→y.d≠some t)→eget S.env t=eget st.env t)
 | [],st,_,_,h=>⟨st,h,rfl,rfl,fun _ _ =>rfl,fun j hj=>by cases hj⟩
 | i::f,st,hp,hq,h=>by
  obtain⟨x,hx,hxq⟩:=hq i (by simp);rw[List.pairwise_cons] at hp;simp only[selC,hx] at h;obtain⟨v,st1,h1,h2,h3,h4⟩:=yoo_ hxq h;obtain⟨X0,hK,hh,hN,hun,hall⟩:=seqT hdst f st1 hp.2 (fun j hj=>hq j (by simp [hj])) h4;have nof:∀d,x.d=some d→∀m∈f,∀y,aos[m]? =some y→y.d≠some d:=fun d hxd m hm y hy hyd=>by have:=hdst i m x y d hx hy hxd hyd;have:=hp.1 m hm;omega
  refine⟨X0,hK,hh.trans h2.heap,hN.trans h2.N,fun t ht=>?_,fun j hj y hy=>?_⟩
  ·rw[hun t fun m hm=>ht m (by simp [hm]),h2.env,zF (ht i (by simp) x hx)]
  ·rcases yM.1 hj with rfl | hj
   ·rw[hx] at hy;cases hy;refine⟨st,v,h1,h3,rfl,rfl,fun d hxd=>?_,fun t ht=>?_,fun t _ =>rfl⟩
    ·rw[hun d (nof d hxd),h2.env,zG hxd]
    ·rw[hun t fun m hm=>ht m (by simp [hm]) (Nat.le_of_lt (hp.1 m hm)),h2.env,zF (ht j (by simp) (zE _) x hx)]
   ·obtain⟨S,u,e1,e2,e3,e4,e5,e6,e7⟩:=hall j hj y hy;refine⟨S,u,e1,e2,e3.trans h2.heap,e4.trans h2.N,e5,fun t ht=>e6 t fun m hm=>ht m (by simp [hm]),fun t ht=>?_⟩;rw[e7 t fun m hm=>ht m (by simp [hm]),h2.env,zF (ht i (by simp) (hp.1 j hj) x hx)]
def YlT (P:Program) (G:Nat→Option AV) (aos:List AO) (en fb:Nat→List Nat) (done:List Nat) (X:St):Prop:=
 ∀(j:Nat) (x:AO),aos[j]? =some x→q10 x.op=true→(∀c∈en j,c∈done)→(∀c∈done,c∉fb j)→∃v,yld P G x X v∧dOK x X.N∧∀d,x.d=some d→eget X.env d=v
theorem s33 (hd:TOk ops aos ls en fb ktm) {done f l:List Nat} {nw old:Nat→Prop} {Y:St} {K':St→Prop} (h:opsP P G true (selC aos f) Y fun X0=>opsP P G true (selC aos l) {X0 with env:=X0.trimE ktm} fun X1=>
   a14 {X0 with env:=X0.trimE ktm} {X1 with env:=X1.trimE ktm} (d13 (selC aos l))∧K' {X0 with env:=X0.trimE ktm})
  (hno:∀j,(∀c∈en j,c∈done)→nw j∨old j) (hnw:∀j,nw j→∀c∈en j,c∈done)
  (hf:f.Pairwise (·<·)∧∀j,j∈f↔∃x,aos[j]? =some x∧q10 x.op=true∧nw j∧∀c∈done,c∉fb j) (hl:l.Pairwise (·<·)∧∀j,j∈l↔∃x,aos[j]? =some x∧q10 x.op=true∧old j∧∀c∈done,c∉fb j):
  ∃X,K' X∧YlT P G aos en fb done X∧X.heap=Y.heap∧X.N=Y.N∧∀t∈ktm,(∀(j:Nat) (x:AO),aos[j]? =some x→q10 x.op=true→nw j→x.d≠some t)→eget X.env t=eget Y.env t:=by
 obtain⟨X0,h0,hh,hN,hun,hall⟩:=seqT hd.dst f Y hf.1 (fun j hj=>let ⟨x,h1,h2,_⟩:=(hf.2 j).1 hj;⟨x,h1,h2⟩) h;obtain⟨X1,⟨hag,hK⟩,hh1,hN1,hun1,hall1⟩:=seqT hd.dst l _ hl.1 (fun j hj=>let ⟨x,h1,h2,_⟩:=(hl.2 j).1 hj;⟨x,h1,h2⟩) h0;have tr:∀t∈ktm,eget (X0.trimE ktm) t=eget X0.env t:=fun t ht=>eti_ X0 ktm t ht;have tr1:∀t∈ktm,eget (X1.trimE ktm) t=eget X1.env t:=fun t ht=>eti_ X1 ktm t ht;have same1:∀t∈ktm,eget X1.env t=eget (X0.trimE ktm) t:=fun t ht=>by
  by_cases hw:∃m∈l,∃y,aos[m]? =some y∧y.d=some t
  ·obtain⟨m,hm,y,hy,hyt⟩:=hw;have hmem:t∈d13 (selC aos l):=by
    have:y∈selC aos l:=by
     clear hag hun1 hall1 hK h0 h hl
     revert hm
     generalize l=l';intro hm
     induction l' with
     | nil=>cases hm
     | cons a l' ih=>
      simp only[selC];rcases yM.1 hm with rfl | hm
      ·rw[hy];simp
      ·split
       ·exact zD _ (ih hm)
       ·exact ih hm
    obtain⟨k,hk⟩:=zN this;exact dm10 hk hyt
   have:=aa16 hag t hmem;simp only at this;rw[←tr1 t ht,this]
  ·exact hun1 t fun m hm y hy hyt=>hw ⟨m,hm,y,hy,hyt⟩
 refine⟨_,hK,fun j x hx hq h1 h2=>?_,hh,hN,fun t ht hno=>?_⟩
 ·rcases hno j h1 with e | e
  ·have hj:j∈f:=(hf.2 j).2 ⟨x,hx,hq,e,h2⟩;obtain⟨S,v,e1,e2,e3,e4,e5,e6,_⟩:=hall j hj x hx;refine⟨v,yc_ (hh.trans e3.symm) (fun t ht=>?_) e1,by simp only;rw[hN,←e4];exact e2,fun d hdd=>?_⟩
   ·have htc:t∈x.looksC:=by rw[lq_ hq];exact ht
    have htk:=hd.ktl j x t hx htc
    try simp only
    rw[tr t htk];refine e6 t fun m hm hjm y hy hyt=>?_;rcases Nat.lt_or_eq_of_le hjm with hlt | rfl
    ·obtain⟨y',hy',hqm,hnm,_⟩:=(hf.2 m).1 hm;rw[hy] at hy';cases hy';rcases hd.lookQ j m x y t hx hy hq hqm hyt htc with h | ⟨c,hc1,hc2⟩
     ·obtain⟨o,ho,e,he,hb,hon⟩:=hs_ h;have:=hd.low j o (zZ.1 hx).1 ho e he hb;omega
     ·exact h2 c (hnw m hnm c hc1) hc2
    ·rw[hx] at hy;cases hy;exact hd.self j x t hx hyt htc
   ·simp only;rw[tr d (hd.ktd j x d hx hdd)];exact e5 d hdd
  ·have hj:j∈l:=(hl.2 j).2 ⟨x,hx,hq,e,h2⟩;obtain⟨S,v,e1,e2,e3,e4,e5,e6,e7⟩:=hall1 j hj x hx;refine⟨v,yc_ e3.symm (fun t ht=>?_) e1,by rw[←e4];exact e2,fun d hdd=>?_⟩
   ·have htc:t∈x.looksC:=by rw[lq_ hq];exact ht
    have htk:=hd.ktl j x t hx htc;by_cases hw:∃m∈l,j≤m∧∃y,aos[m]? =some y∧y.d=some t
    ·obtain⟨m,hm,hjm,y,hy,hyt⟩:=hw;exact (e7 t fun m' hm' hlt y' hy' hyt'=>by have:=hd.dst m m' y y' t hy hy' hyt hyt';omega).symm
    ·rw[←e6 t fun m hm hjm y hy hyt=>hw ⟨m,hm,hjm,y,hy,hyt⟩];exact (same1 t htk).symm
   ·have hdk:=hd.ktd j x d hx hdd;exact (same1 d hdk).symm.trans (e5 d hdd)
 ·simp only;rw[tr t ht];exact hun t fun m hm x hx hxt=>by obtain⟨y,hy,hq,hs,_⟩:=(hf.2 m).1 hm;rw[hx] at hy;cases hy;exact hno m x hx hq hs hxt
structure SameT (aos:List AO) (ktm:List Nat) (en:Nat→List Nat) (done:List Nat) (X:St) (listed:Nat→Bool) (st:St):Prop where
 heap:st.heap=X.heap
 N:st.N=X.N
 env:∀t∈ktm,(∀(j:Nat) (x:AO),aos[j]? =some x→x.d=some t→q10 x.op=true→(∀c∈en j,c∈done)→listed j=true)→eget st.env t=eget X.env t
theorem b15 (hd:TOk ops aos ls en fb ktm) {listed:Nat→Bool} {done:List Nat} (hcl:∀(i:Nat) (o:Oper),ops[i]? =some o→listed i=true→∀e∈o.after,Region.binds .any e=true→listed e.on=true)
  (hdl:∀c∈done,listed c=true) (hde:∀c∈done,∀q∈en c,q∈done):∀(n i:Nat) (x:AO) (c:Nat),aos.length≤i+n→aos[i]? =some x→q10 x.op=true→c∈done→c∈fb i→listed i=true:=by
 intro n
 induction n with
 | zero=>
  intro i x c hn hx;have:=(zZ.1 hx).1;omega
 | succ n ih=>
  intro i x c hn hx hq hc hcf;have up:∀q,h_ ops q i=true→listed q=true→listed i=true:=fun q he hql=>by obtain⟨o,ho,e,he,hb,hon⟩:=hs_ he;rw[←hon];exact hcl q o ho hql e he hb
  rcases hd.fbc i x c hx hq hcf with h | ⟨q,y,hiq,hy,hqy,he,h⟩ | ⟨q,hq1,he,hqc⟩
  ·exact up c h (hdl c hc)
  ·exact up q he (ih q y c (by omega) hy hqy hc h)
  ·exact up q he (hdl q (hde c hc q hqc))
theorem km10 {enl fbl:List (List Nat)} {rec:List Nat→DT} {done:List Nat} {X:St} {i:Nat}:∀{cs:List Nat},t40 P G aos ktm K (k17 aos enl fbl rec done cs) X→i∈cs→
  l14 P G (aos[i]?) X (fun Y=>opsP P G true (selC aos (f23 aos enl fbl i done)) Y fun X0=>opsP P G true (selC aos (l18 aos enl fbl i done)) {X0 with env:=X0.trimE ktm} fun X1=>
   a14 {X0 with env:=X0.trimE ktm} {X1 with env:=X1.trimE ktm} (d13 (selC aos (l18 aos enl fbl i done)))∧t40 P G aos ktm K (rec (i::done)) {X0 with env:=X0.trimE ktm})
 | [],_,h=>by cases h
 | c::cs,h,hi=>by
  rcases yM.1 hi with rfl | hi
  ·exact h.1
  ·exact km10 h.2 hi
theorem ll_ {done:List Nat} {i:Nat} (h:i∈ls) (hi:i∉done):(l16 ls (i::done)).length<(l16 ls done).length:=by
 have e:l16 ls (i::done)=(l16 ls done).filter (· != i):=by unfold l16;rw[List.filter_filter];apply tH;intro x _;by_cases hx:x=i <;> simp [hx]
 rw[e,List.length_filter_lt_length_iff_exists];exact⟨i,by simp [l16,h,hi],by simp⟩
theorem qi_ {j:Nat}:q12 aos j=true↔∃x,aos[j]? =some x∧q10 x.op=true:=by
 unfold q12;cases h:aos[j]? with
 | none=>simp
 | some x=>simp
theorem fs17 {enl fbl:List (List Nat)} {h:Nat} {done:List Nat}:(f23 aos enl fbl h done).Pairwise (·<·)∧∀j,j∈f23 aos enl fbl h done↔∃x,aos[j]? =some x∧q10 x.op=true∧((∀c∈enl.getD j [],c∈h::done)∧¬∀c∈enl.getD j [],c∈done)∧∀c∈h::done,c∉fbl.getD j []:=by
 refine⟨uZ _ vS,fun j=>?_⟩;simp only[f23,yG,yS,zK,yQ,qi_,ii_,oi_];rw[←Bool.not_eq_true,ii_];constructor
 ·rintro⟨_,⟨x,h1,h2⟩,⟨h3,h4⟩,h5⟩;exact⟨x,h1,h2,⟨h3,h4⟩,h5⟩
 ·rintro⟨x,h1,h2,⟨h3,h4⟩,h5⟩;exact⟨(zZ.1 h1).1,⟨x,h1,h2⟩,⟨h3,h4⟩,h5⟩
theorem ls13 {enl fbl:List (List Nat)} {h:Nat} {done:List Nat}:(l18 aos enl fbl h done).Pairwise (·<·)∧∀j,j∈l18 aos enl fbl h done↔∃x,aos[j]? =some x∧q10 x.op=true∧(∀c∈enl.getD j [],c∈done)∧∀c∈h::done,c∉fbl.getD j []:=by
 refine⟨uZ _ vS,fun j=>?_⟩;simp only[l18,yG,yS,zK,qi_,ii_,oi_];constructor
 ·rintro⟨_,⟨x,h1,h2⟩,h3,h5⟩;exact⟨x,h1,h2,h3,h5⟩
 ·rintro⟨x,h1,h2,h3,h5⟩;exact⟨(zZ.1 h1).1,⟨x,h1,h2⟩,h3,h5⟩
theorem fs15 {enl:List (List Nat)}:(f24 aos enl).Pairwise (·<·)∧∀j,j∈f24 aos enl↔∃x,aos[j]? =some x∧q10 x.op=true∧(∀c∈enl.getD j [],c∈([]:List Nat)):=by
 refine⟨uZ _ vS,fun j=>?_⟩;simp only[f24,yG,yS,zK,qi_,ii_];constructor
 ·rintro⟨_,⟨x,h1,h2⟩,h3⟩;exact⟨x,h1,h2,h3⟩
 ·rintro⟨x,h1,h2,h3⟩;exact⟨(zZ.1 h1).1,⟨x,h1,h2⟩,h3⟩
theorem s34 {C:Ctx} {Q:Exit→Act→World→Prop} {enl fbl:List (List Nat)} (hd:TOk ops aos ls (fun j=>enl.getD j []) (fun j=>fbl.getD j []) ktm) (hlen:ops.toList.length=aos.length) (hget:∀(i:Nat) o x,ops.toList[i]? =some o→aos[i]? =some x→c22 P ops o x=true)
  (hQ:∀st X a w,K X→st.heap=X.heap→st.N=X.N→(∀t∈ktm,eget st.env t=eget X.env t)→Rel G C st a w→Q .normal a w):
  ∀(fuel:Nat) (listed:Array Bool) (done:List Nat) (n:Nat) (X st:St) (a:Act) (w:World),listed.size=ops.size→listed.toList.count false=fuel→
   (∀(i:Nat) (o:Oper),ops[i]? =some o→listed.getD i false=true→∀e∈o.after,Region.binds .any e=true→listed.getD e.on false=true)→
   (∀c∈ls,(listed.getD c false=true↔c∈done))→(∀c∈done,c∈ls)→(∀(j:Nat) (x:AO),aos[j]? =some x→listed.getD j false=true→∀c∈enl.getD j [],c∈done)→(l16 ls done).length≤n→
   t40 P G aos ktm K (mkT aos ls enl fbl n done) X→YlT P G aos (fun j=>enl.getD j []) (fun j=>fbl.getD j []) done X→SameT aos ktm (fun j=>enl.getD j []) done X (fun j=>listed.getD j false) st→Rel G C st a w→wpAny P .any ops Q fuel listed a w:=by
 have hlen':ops.size=aos.length:=by simpa using hlen
 have full:∀(listed:Array Bool) (done:List Nat) (n:Nat) (X st:St) (a:Act) (w:World),(∀i,i<ops.size→listed.getD i false=true)→(∀c∈ls,(listed.getD c false=true↔c∈done))→
   t40 P G aos ktm K (mkT aos ls enl fbl n done) X→SameT aos ktm (fun j=>enl.getD j []) done X (fun j=>listed.getD j false) st→Rel G C st a w→Q .normal a w:=by
  intro listed done n X st a w hall hlo htr hsm hr;have hl:l16 ls done=[]:=by unfold l16;rw[List.filter_eq_nil_iff];intro c hc;obtain⟨x,hx,_⟩:=hd.lsq c hc;have:=(hlo c hc).1 (hall c (by rw[hlen'];exact (zZ.1 hx).1));simp [this]
  have hK:K X:=by
   cases n with
   | zero=>simp only[mkT,hl,List.isEmpty_nil,xZ] at htr;exact htr
   | succ n=>simp only[mkT,hl,List.isEmpty_nil,xZ] at htr;exact htr
  exact hQ st X a w hK hsm.heap hsm.N (fun t ht=>hsm.env t ht fun j x hx _ _ _ =>hall j (by rw[hlen'];exact (zZ.1 hx).1)) hr
 intro fuel
 induction fuel with
 | zero=>
  intro listed done n X st a w hsz hcnt hcl hlo hdl hqs hn htr hyl hsm hr;have hall:∀i,i<ops.size→listed.getD i false=true:=fun i hi=>by
   have hi':i<listed.size:=by omega
   have:false∉listed.toList:=uG.1 hcnt;rw[zL,zP hi',yR];cases e:listed[i] with
   | true=>rfl
   | false=>exact absurd (by rw[←e];exact vG hi') this
  refine⟨?_,full listed done n X st a w hall hlo htr hsm hr⟩;rw[uW];intro i hi;obtain⟨h1,o,ho,_⟩:=mem_ready.1 hi;have hi':=(yK.1 ho).1;have h2:=hall i hi';rw[zL,zP (by omega)] at h1 h2;simp only[yR] at h1 h2;rw[h1] at h2;cases h2
 | succ fuel ih=>
  intro listed done n X st a w hsz hcnt hcl hlo hdl hqs hn htr hyl hsm hr;have same:∀i,i<ops.size→listed.getD i true=listed.getD i false:=fun i hi=>by rw[zL,zL,zP (by omega)];rfl
  refine⟨fun h0=>full listed done n X st a w (fun i=>?_) hlo htr hsm hr,fun i hi=>?_⟩
  ·induction i using Nat.strongRecOn with
   | _ i ihi=>
    intro hi;cases e:listed.getD i false with
    | true=>rfl
    | false=>
     have ho:ops[i]? =some ops[i]:=zP hi;have:i∈Region.ready .any ops listed:=mem_ready.2 ⟨by rw[same i hi];exact e,ops[i],ho,fun e he hb=>by have:=hd.low i _ (by omega) ho e he hb;exact ihi e.on this (by omega)⟩
     rw[h0] at this;cases this
  ·obtain⟨hun,o,ho,hed⟩:=mem_ready.1 hi;have hi':i<ops.size:=(yK.1 ho).1;rw[same i hi'] at hun;have hlst:∀j,(listed.setIfInBounds i true).getD j false=(listed.getD j false||j==i):=fun j=>by
    by_cases e:j=i
    ·subst e;have:j<listed.size:=by omega
     simp [this]
    ·rw[getD_set_ne false (fun e'=>e e'.symm)];simp [e]
   have hcnt':(listed.setIfInBounds i true).toList.count false=fuel:=by
    have hi2:i<listed.toList.length:=by simp;omega
    have hf:listed.toList[i]=false:=by rw[zL,zP (show i<listed.size by omega)] at hun;simpa using hun
    rw[vJ,tL hi2,hf,hcnt];simp
   have hcl':∀(j:Nat) (o:Oper),ops[j]? =some o→(listed.setIfInBounds i true).getD j false=true→∀e∈o.after,Region.binds .any e=true→(listed.setIfInBounds i true).getD e.on false=true:=by
    intro j o' ho' hj e he hb;rw[hlst] at hj ⊢;by_cases e':j=i
    ·subst e';rw[ho] at ho';cases ho';rw[hed e he hb];rfl
    ·have:listed.getD j false=true:=by simpa [e'] using hj
     rw[hcl j o' ho' this e he hb];rfl
   have hxi:i<aos.length:=by omega
   have hx:aos[i]? =some aos[i]:=zY hxi;have fin:∀{K1:St→Prop},opP P G true aos[i] st K1→(∀st1 a1 w1,K1 st1→Rel G C st1 a1 w1→wpAny P .any ops Q fuel (listed.setIfInBounds i true) a1 w1)→wpOp P ops Q i (wpAny P .any ops Q fuel (listed.setIfInBounds i true)) a w:=by
    intro K1 hop key;have hs:=os_ hr (K':=wpAny P .any ops Q fuel (listed.setIfInBounds i true)) (Q:=Q) (hget i o _ (by rw[←ho];simp) hx) hop key;unfold wpOp;rw[ho];simp only;split
    ·rename_i hw;rw[zG hw] at hs;exact .inl hs
    ·rename_i hw;rw[zF hw] at hs;exact hs
   have hchk:=hget i o _ (by rw[←ho];simp) hx;generalize hxe:aos[i]=x at*;have lst:∀j,h_ ops i j=true→listed.getD j false=true:=fun j he=>by obtain⟨o',ho',e,he,hb,hon⟩:=hs_ he;rw[ho] at ho';cases ho';have:=hed e he hb;rw[hon] at this;exact this
   have hen:∀c∈enl.getD i [],c∈done:=fun c hc=>by
    obtain⟨hcl2,h | ⟨j,hji,he,hj⟩⟩:=hd.enc i x c hx hc
    ·exact (hlo c hcl2).1 (lst c h)
    ·exact hqs j _ (zY (show j<aos.length by omega)) (lst j he) c hj
   cases hq:q10 x.op with
   | true=>
    have hils:i∉ls:=fun hm=>by obtain⟨y,hy1,hy2,_⟩:=hd.lsq i hm;rw[hx] at hy1;cases hy1;rw[hq] at hy2;cases hy2
    have hfb:∀c∈done,c∉fbl.getD i []:=fun c hc hcf=>by
     have:=b15 hd (listed:=fun j=>listed.getD j false) (done:=done) hcl (fun c hc=>(hlo c (hdl c hc)).2 hc) (fun c hc q hq=>by obtain⟨y,hy,_⟩:=hd.lsq c (hdl c hc);exact hqs c y hy ((hlo c (hdl c hc)).2 hc) q hq) aos.length i x c (by omega) hx hq hc hcf
     simp only[hun] at this;cases this
    obtain⟨v,hy,hdk,hv⟩:=hyl i x hx hq hen hfb;have look:∀t∈x.looks,eget st.env t=eget X.env t:=fun t ht=>by
     have htc:t∈x.looksC:=by rw[lq_ hq];exact ht
     refine hsm.env t (hd.ktl i x t hx htc) fun j y hyj hyt hqy hsy=>?_;rcases hd.lookQ i j x y t hx hyj hq hqy hyt htc with h | ⟨c,hc1,hc2⟩
     ·exact lst j h
     ·exact absurd hc2 (hfb c (hsy c hc1))
    have hy':yld P G x st v:=yc_ hsm.heap look hy;have hop:=ooy_ hq (by rw[hsm.N];exact hdk) hy';refine fin hop fun st1 a1 w1 ha hr1=>?_;refine ih _ done n X st1 a1 w1 (by simp [hsz]) hcnt' hcl' (fun c hc=>?_) hdl (fun j y hyj hj=>?_) hn htr hyl ⟨ha.heap.trans hsm.heap,ha.N.trans hsm.N,fun t ht hall=>?_⟩ hr1
    ·rw[hlst];have hne:c≠i:=fun e=>hils (e ▸ hc);have e0:(c==i)=false:=by simpa using hne
     rw[e0,wV];exact hlo c hc
    ·rw[hlst] at hj;by_cases e:j=i
     ·subst e;exact hen
     ·exact hqs j y hyj (by simpa [e] using hj)
    ·rw[ha.env];split
     ·rename_i e;exact (hv t e).symm
     ·rename_i e;refine hsm.env t ht fun j y hyj hyt hqy hsy=>?_;have:=hall j y hyj hyt hqy hsy;rw[hlst] at this;have hne:j≠i:=fun e'=>by
       subst e';rw[hx] at hyj;cases hyj;exact e hyt
      simpa [hne] using this
   | false=>
    have hm:=hd.loud i x hx hq;obtain⟨x',hx',_,hlu,hg⟩:=hd.lsq i hm;rw[hx] at hx';cases hx';have hnd:i∉done:=fun h=>by have:=(hlo i hm).2 h;rw[hun] at this;cases this
    have hlt:=ll_ hm hnd;have hne0:l16 ls done≠[]:=fun e=>by rw[e] at hlt;simp at hlt
    obtain⟨n',rfl⟩:∃n',n=n'+1:=⟨n - 1,by omega⟩;have hmk:mkT aos ls enl fbl (n'+1) done=k17 aos enl fbl (mkT aos ls enl fbl n') done (n19 ls enl done):=by simp only[mkT];rw[zF (by simpa using hne0)]
    rw[hmk] at htr;have hin:i∈n19 ls enl done:=by unfold n19;rw[yG];refine⟨hm,?_⟩;rw[zK,ii_];exact⟨by simpa using hnd,hen⟩
    have hstep:=km10 htr hin;rw[hx] at hstep;obtain⟨d,op,g⟩:=x;simp only at hg hlu hq;subst hg;have hsd:i12 op=true→d=none:=fun e=>by simp only[c22,zK,zC] at hchk;have:=hchk.2;rw[e] at this;have hdd:=hchk.1.1.1;rw[←hdd];simpa using this
    have look:∀t∈l13 op,eget st.env t=eget X.env t:=fun t ht=>by
     have htc:t∈AO.looksC ⟨d,op,none⟩:=by simp only[AO.looksC,xW];exact ht
     refine hsm.env t (hd.ktl i _ t hx htc) fun j y hyj hyt hqy hsy=>?_;rcases hd.lookL i j _ y t hx hyj hq hqy hyt htc with h | h
     ·exact lst j h
     ·exact absurd (hsy i h) hnd
    have hop:=lu10 hlu hsd hsm.heap hsm.N look hstep;refine fin hop fun st1 a1 w1 ⟨Y,h4,hu⟩ hr1=>?_
    obtain⟨X2,htr2,hyl2,hh2,hN2,hun2⟩:=s33 hd (done:=i::done) (nw:=fun j=>(∀c∈enl.getD j [],c∈i::done)∧¬∀c∈enl.getD j [],c∈done) (old:=fun j=>∀c∈enl.getD j [],c∈done) h4
     (fun j hj=>by
      by_cases e:∀c∈enl.getD j [],c∈done
      ·exact .inr e
      ·exact .inl ⟨hj,e⟩) (fun j hj=>hj.1) fs17 ls13
    obtain⟨T,hT,hdT⟩:=hu.env;refine ih _ (i::done) n' X2 st1 a1 w1 (by simp [hsz]) hcnt' hcl' (fun c hc=>?_) (fun c hc=>?_) (fun j y hyj hj=>?_) (by omega) htr2 hyl2 ⟨hu.heap.trans hh2.symm,hu.N.trans hN2.symm,fun t ht hall=>?_⟩ hr1
    ·rw[hlst,yM,←hlo c hc];simp only[xT,zC];exact⟨fun h=>h.elim .inr .inl,fun h=>h.elim .inr .inl⟩
    ·rcases yM.1 hc with rfl | hc
     ·exact hm
     ·exact hdl c hc
    ·rw[hlst] at hj;intro c hc;by_cases e:j=i
     ·subst e;exact zD _ (hen c hc)
     ·exact zD _ (hqs j y hyj (by simpa [e] using hj) c hc)
    ·have noW:∀(j:Nat) (y:AO),aos[j]? =some y→q10 y.op=true→((∀c∈enl.getD j [],c∈i::done)∧¬∀c∈enl.getD j [],c∈done)→y.d≠some t:=fun j y hyj hqy hsy hyt=>by
      have:=hall j y hyj hyt hqy hsy.1;rw[hlst] at this;have hne:j≠i:=fun e'=>by subst e';rw[hx] at hyj;cases hyj;rw[hq] at hqy;cases hqy
      exact hsy.2 (hqs j y hyj (by simpa [hne] using this))
     rw[hun2 t ht noW];by_cases e:d=some t
     ·exact hdT t e
     ·obtain⟨a1,a2⟩:=hT t e;rw[a1,a2];congr 1;refine hsm.env t ht fun j y hyj hyt hqy hsy=>?_;have:=hall j y hyj hyt hqy fun c hc=>zD _ (hsy c hc);rw[hlst] at this;have hne:j≠i:=fun e'=>by
       subst e';rw[hx] at hyj;cases hyj;rw[hq] at hqy;cases hqy
      simpa [hne] using this
theorem do11 {enl fbl:List (List Nat)} {f0 kt:List Nat} {tr:DT} (h:d18 ops aos ls enl fbl f0 tr ktm kt=true):
  TOk ops aos ls (fun j=>enl.getD j []) (fun j=>fbl.getD j []) ktm∧tr=mkT aos ls enl fbl ls.length []∧f0=f24 aos enl∧∀t∈kt,t∈ktm:=by
 simp only[d18,zK] at h;obtain⟨⟨⟨⟨h0,h1⟩,h2⟩,h3⟩,h4⟩:=h;have get:∀(i:Nat) (x:AO),aos[i]? =some x→_ :=fun i x hx=>by have:=yH.1 h4 i (yS.2 (zZ.1 hx).1);rw[hx] at this;simp only[zK] at this;exact this
 have prs:∀(i j:Nat) (x y:AO),aos[i]? =some x→aos[j]? =some y→i≠j→∀d,y.d=some d→(x.d≠some d)∧(d∈x.looksC→q10 y.op=true→h_ ops i j=true∨(if q10 x.op then (enl.getD j []).any (fun c=>(fbl.getD i []).contains c) else (enl.getD j []).contains i)=true):=fun i j x y hx hy hne d hyd=>by
  have:=(get i x hx).2;have:=yH.1 this j (yS.2 (zZ.1 hy).1);simp only[hy,hyd,xT,zC,hne,tI,zK,tB,sY,yQ,wL,zO] at this;refine⟨this.1,fun hm hqy=>?_⟩;rcases this.2 with ((h | h) | h) | h
  ·exact absurd hm h
  ·exact .inl h
  ·rw[hqy] at h;cases h
  ·right;simpa using h
 refine⟨⟨fun i o hi ho e he hb=>?_,fun i j x y d hx hy hxd hyd=>?_,fun i x d hx hxd=>?_,fun i x t hx ht=>?_,fun i x d hx hxd=>?_,fun i x hx hq=>?_,fun c hc=>?_,fun i x c hx hc=>?_,fun i x c hx hq hc=>?_,fun i j x y d hx hy hq hqy hyd hl=>?_,fun i j x y d hx hy hq hqy hyd hl=>?_⟩,DT.of_beq h0,by simpa using h1,fun t ht=>by have:=yH.1 h2 t ht;simpa using this⟩
 ·have:=(get i aos[i] (zY hi)).1.1.1.1.1.1;simp only[e14,ho,uJ] at this;have:=this e he;simpa [hb] using this
 ·by_cases hne:i=j
  ·exact hne
  ·exact absurd hxd (prs i j x y hx hy hne d hyd).1
 ·have:=(get i x hx).1.1.1.1.2;simp only[hxd,zK] at this;simpa using this.1
 ·have:=(get i x hx).1.1.1.2;have:=yH.1 this t ht;simpa using this
 ·have:=(get i x hx).1.1.1.1.2;simp only[hxd,zK,yQ] at this;simpa using this.2
 ·have:=(get i x hx).1.1.1.1.1.2;rw[hq] at this;simpa using this
 ·have:=yH.1 h3 c hc;split at this
  ·rename_i x hx;simp only[zK,tZ,yQ] at this;exact⟨x,hx,this.2,this.1.1,this.1.2⟩
  ·cases this
 ·have:=(get i x hx).1.1.2;have:=yH.1 this c hc;simp only[zK,xT,yL,yS,wL,zU] at this;exact this
 ·have:=(get i x hx).1.2;rw[hq] at this;simp only[vX,Bool.false_or] at this;have:=yH.1 this c hc;simp only[zK,xT,yL,yS,wL,zU,qi_] at this;rcases this with h | ⟨q,hqn,he,⟨⟨h1,y,hy1,hy2⟩,h2⟩ | ⟨h1,h2⟩⟩
  ·exact .inl h
  ·exact .inr (.inl ⟨q,y,h1,hy1,hy2,he,h2⟩)
  ·exact .inr (.inr ⟨q,h1,he,h2⟩)
 ·have hne:i≠j:=fun e=>by
   subst e;rw[hx] at hy;cases hy;have:=(get i x hx).1.1.1.1.2;simp only[hyd,zK,yQ] at this;have:=this.2;simp only[wL,zO] at this;exact this hl
  have:=(prs i j x y hx hy hne d hyd).2 hl hqy;rw[hq] at this;simpa using this
 ·have hne:i≠j:=fun e=>by
   subst e;rw[hx] at hy;cases hy;rw[hq] at hqy;cases hqy
  have:=(prs i j x y hx hy hne d hyd).2 hl hqy;rw[hq] at this;simpa using this
theorem ds_ {C:Ctx} {id:Nat} {enl fbl:List (List Nat)} {f0 kt:List Nat} {tr:DT} {st:St} {a:Act} {w:World} {Q:Exit→Act→World→Prop} (hm:P.follows .mixedOrders=true) (hc:c11 P ops ops.toList aos=true) (hdc:d18 ops aos ls enl fbl f0 tr ktm kt=true)
  (hk:opsP P G true (selC aos f0) st fun X0=>t40 P G aos ktm (fun X=>K {X with env:=X.trimE kt}) tr {X0 with env:=X0.trimE ktm}) (h:Rel G C st a w) (hQ:∀st' a' w',K st'→Rel G C st' a' w'→Q .normal a' w'):(Code.region id ops true).wp P Q a w:=by
 obtain⟨hd,htr,hf0,hkt⟩:=do11 hdc;subst htr hf0;obtain⟨hlen,hget⟩:=cg_ hc;have none0:∀j,(Array.replicate ops.size false).getD j false=false:=fun j=>by rw[zL];simp only[uY];split <;> rfl
 obtain⟨X,hst,hyl,hh,hN,hun⟩:=s33 hd (done:=[]) (l:=[]) (nw:=fun j=>∀c∈enl.getD j [],c∈([]:List Nat)) (old:=fun _ =>False) (K':=t40 P G aos ktm (fun X=>K {X with env:=X.trimE kt}) (mkT aos ls enl fbl ls.length []))
  (om_ hk fun X0 h=>⟨trivial,h⟩) (fun j hj=>.inl hj) (fun j hj=>hj) ⟨fs15.1,fun j=>by rw[fs15.2];exact⟨fun⟨x,h1,h2,h3⟩=>⟨x,h1,h2,h3,fun c hc=>by cases hc⟩,fun⟨x,h1,h2,h3,_⟩=>⟨x,h1,h2,h3⟩⟩⟩ ⟨List.Pairwise.nil,fun j=>⟨(fun h=>by cases h),fun⟨_,_,_,h,_⟩=>h.elim⟩⟩
 refine wp_region_any hm ?_
 refine s34 hd hlen hget (fun st' X' a' w' hK hh' hN' he hr=>?_) ops.size _ [] ls.length X st a _ (by simp) (by simp) (fun i o ho hi=>by rw[none0] at hi;cases hi) (fun c _ =>by rw[none0];simp) (fun c hc=>by cases hc) (fun j x hx hj=>by rw[none0] at hj;cases hj) (xK _ _)
  hst hyl ⟨hh.symm,hN.symm,fun t ht hall=>(hun t ht fun j x hx hq hsj hxt=>by have:=hall j x hx hxt hq hsj;simp only[none0] at this;cases this).symm⟩ h.drew
 obtain⟨nm,F,hx⟩:=hr;refine hQ _ _ _ hK ?_;have hx2:=hx.trimEnv kt;refine Rel.env (st:={st' with env:=st'.trimE kt}) ⟨nm,F,hx2⟩ hN'.symm hh'.symm fun t=>?_;show eget (X'.trimE kt) t=eget (st'.trimE kt) t;exact ts10 (fun u hu=>he u (hkt u hu)) t
end
