/-
  Lemmas. No claim is proved here.
-/
import Derived.Test.YtkadalpaeglmnaaGreatDoorYAbAny
set_option linter.unusedSimpArgs false
namespace Go.Proofs.YtkadalpaeglmnaaGreatDoor.Ab
open Go Go.RowKit
def selC (aos:List AO):List Nat→List AO
 | []=>[]
 | i::is=>match aos[i]? with | some x=>x::selC aos is | none=>selC aos is
def a14 (X X':St):List Nat→Prop
 | []=>True
 | t::ts=>eget X'.env t=eget X.env t∧a14 X X' ts
theorem aa16 {X X':St}:∀{ts:List Nat},a14 X X' ts→∀t∈ts,eget X'.env t=eget X.env t
 | [],_,t,h=>by cases h
 | u::ts,h,t,ht=>by
  rcases yM.1 ht with rfl | ht
  ·exact h.1
  ·exact aa16 h.2 t ht
def l17:AOp→Bool
 | .nilrow .. | .alloc .. | .box .. | .mkrow .. | .store .. | .app .. | .mks .. =>true
 | _ =>false
def l13:AOp→List Nat
 | .box _ _ x=>l10 x
 | .mkrow _ _ _ _ ps=>(ps.map (·.2)).flatMap l10
 | .store p x _ =>l10 p++l10 x
 | .app _ _ _ x y=>l10 x++l10 y
 | .mks _ _ _ _ x y=>l10 x++l10 y
 | op=>l12 op
def AO.looksC (o:AO):List Nat:=l13 o.op++(match o.g with | some (t,_)=>[t] | none=>[])
theorem lq_ {o:AO} (h:q10 o.op=true):o.looksC=o.looks:=by unfold AO.looksC AO.looks;congr 1;generalize o.op=op at*;cases op <;> first | rfl | (simp [q10] at h)
section
variable {G:Nat→Option AV} {st st' st1:St}
structure Uni (d:Option Nat) (st st' st1 st1':St):Prop where
 heap:st1'.heap=st1.heap
 N:st1'.N=st1.N
 N0:st1.N=st.N
 env:∃T:AV→AV,(∀t,d≠some t→eget st1.env t=T (eget st.env t)∧eget st1'.env t=T (eget st'.env t))∧∀t,d=some t→eget st1'.env t=eget st1.env t
theorem nu_ {d:Option Nat} {b:Box} {v:AV} (hh:st'.heap=st.heap) (hN:st'.N=st.N) (h:st.new d b v=some st1):∃st1',st'.new d b v=some st1'∧Uni d st st' st1 st1':=by
 unfold St.new at h ⊢;split at h
 ·cases h
 ·rename_i d;split at h
  ·rename_i hd;cases h
   try simp only
   rw[zG (by rw[hN];exact hd)];refine⟨_,rfl,⟨by simp only[hh],hN,rfl,purge d,fun t ht=>?_,fun t ht=>?_⟩⟩
   ·have hne:¬d=t:=fun e=>ht (by rw[e]);simp only[eget,zF hne,ep_,and_self]
   ·cases ht;simp [eget]
  ·cases h
theorem tu_:∀(rows:List Nat) {st st':St},st'.heap=st.heap→st'.N=st.N→(st'.thaws rows).heap=(st.thaws rows).heap∧(st'.thaws rows).N=(st.thaws rows).N∧(st.thaws rows).N=st.N∧
  ∃T:AV→AV,∀t,eget (st.thaws rows).env t=T (eget st.env t)∧eget (st'.thaws rows).env t=T (eget st'.env t)
 | [],st,st',hh,hN=>⟨hh,hN,rfl,id,fun t=>⟨rfl,rfl⟩⟩
 | i::is,st,st',hh,hN=>by
  simp only[St.thaws];cases hi:hget st.heap i with
  | none=>
   have e1:st.thaw1 i=st:=by simp [St.thaw1,hi]
   have e2:st'.thaw1 i=st':=by simp [St.thaw1,hh,hi]
   rw[e1,e2];exact tu_ is hh hN
  | some b=>
   have e1:st.thaw1 i={st with env:=t39 i b st.env,heap:=t38 i b st.heap}:=by simp [St.thaw1,hi]
   have e2:st'.thaw1 i={st' with env:=t39 i b st'.env,heap:=t38 i b st'.heap}:=by simp [St.thaw1,hh,hi]
   rw[e1,e2];obtain⟨h1,h2,h3,T,hT⟩:=tu_ is (st:={st with env:=t39 i b st.env,heap:=t38 i b st.heap}) (st':={st' with env:=t39 i b st'.env,heap:=t38 i b st'.heap}) (by simp only[hh]) hN;refine⟨h1,h2,h3,fun v=>T (thaw i b v),fun t=>?_⟩;have:=hT t;simp only[et10] at this;exact this
theorem pu11 {d:Option Nat} {v:AV} {a b st1:St} (hh:b.heap=a.heap) (hN:b.N=a.N) (N0:a.N=st.N) (T:AV→AV) (hT:∀t,eget a.env t=T (eget st.env t)∧eget b.env t=T (eget st'.env t)) (h:a.put d v=some st1):
  ∃st1',b.put d v=some st1'∧Uni d st st' st1 st1':=by
 unfold St.put at h ⊢;split at h
 ·cases h;exact⟨_,rfl,⟨hh,hN,N0,T,fun t _ =>hT t,fun t ht=>by cases ht⟩⟩
 ·rename_i d;split at h
  ·rename_i hd;cases h
   try simp only
   rw[zG (by rw[hN];exact hd)];refine⟨_,rfl,⟨hh,hN,N0,T,fun t ht=>?_,fun t ht=>?_⟩⟩
   ·have hne:¬d=t:=fun e=>ht (by rw[e]);simp only[eget,zF hne];exact hT t
   ·cases ht;simp [eget]
  ·cases h
theorem pu_ {d:Option Nat} {v:AV} (hh:st'.heap=st.heap) (hN:st'.N=st.N) (h:st.put d v=some st1):∃st1',st'.put d v=some st1'∧Uni d st st' st1 st1':=
 pu11 hh hN rfl id (fun _ =>⟨rfl,rfl⟩) h
theorem au_ {d:Option Nat} {ty sz bytes:Nat} {x y:AV} (hh:st'.heap=st.heap) (hN:st'.N=st.N) (h:aapp st d ty sz bytes x y=some st1):∃st1',aapp st' d ty sz bytes x y=some st1'∧Uni d st st' st1 st1':=by
 unfold aapp at h ⊢;rw[hh];split at h
 ·split at h
  ·split at h
   ·split at h
    ·rename_i hb
     try simp only at h ⊢
     rw[zG hb];exact nu_ hh hN h
    ·cases h
   ·cases h
  ·cases h
 ·rename_i i n;split at h
  ·rename_i d b es hb hes;split at h
   ·rename_i hc;cases h;rw[zG (by rw[hN];exact hc)];refine⟨_,rfl,⟨rfl,hN,rfl,purge i,fun t ht=>?_,fun t ht=>?_⟩⟩
    ·have hne:¬d=t:=fun e=>ht (by rw[e]);simp only[eget,zF hne,ep_,and_self]
    ·cases ht;simp [eget]
   ·cases h
  ·cases h
 ·split at h
  ·split at h
   ·rename_i hb
    try simp only at h ⊢
    rw[zG hb];exact pu_ hh hN h
   ·cases h
  ·cases h
 ·cases h
theorem lu_ {op:AOp} (hu:l17 op=true) {d:Option Nat} (hs:i12 op=true→d=none) (hh:st'.heap=st.heap) (hN:st'.N=st.N) (hl:∀t∈l13 op,eget st'.env t=eget st.env t) (h:e_ G d op st=some st1):
  ∃st1',e_ G d op st'=some st1'∧Uni d st st' st1 st1':=by
 cases op <;> simp only[l17,zW] at hu
 case nilrow ty sz=>
  simp only[e_] at h ⊢;split at h
  ·exact nu_ hh hN h
  ·cases h
 case alloc ty sz z=>
  simp only[e_] at h ⊢;split at h
  ·exact nu_ hh hN h
  ·cases h
 case box ty sz x=>
  simp only[l13] at hl;simp only[e_] at h ⊢;rw[ec_ hl];split at h
  ·split at h
   ·rename_i hf
    try simp only
    rw[zG hf];exact nu_ hh hN h
   ·cases h
  ·cases h
 case mkrow ty sz n z ps=>
  simp only[l13] at hl;simp only[e_] at h ⊢;rw[ec10 hl,hh];split at h
  ·rename_i d;split at h
   ·split at h
    ·exact nu_ hh hN h
    ·cases h
   ·split at h
    ·split at h
     ·split at h
      ·rename_i hb
       try simp only
       rw[zG hb];exact pu_ hh hN h
      ·cases h
     ·cases h
    ·cases h
   split at h
   ·rename_i vs hvs;split at h
    ·rename_i es hes
     try simp only
     obtain⟨t1,t2,t3,T,hT⟩:=tu_ (r12 (evs G st (ps.map (·.2)))) hh hN;obtain⟨st1',h1,h2⟩:=nu_ t1 t2 h;refine⟨st1',h1,⟨h2.heap,h2.N,h2.N0.trans t3,?_⟩⟩;obtain⟨T2,hT2,hd⟩:=h2.env;refine⟨fun v=>T2 (T v),fun t ht=>?_,hd⟩;obtain⟨a1,a2⟩:=hT2 t ht;rw[(hT t).1] at a1;rw[(hT t).2] at a2;exact⟨a1,a2⟩
    ·cases h
   ·cases h
  ·cases h
 case store p x n=>
  obtain rfl:=hs rfl;simp only[l13,yB] at hl;simp only[e_] at h ⊢;rw[ec_ fun t ht=>hl t (.inl ht),ec_ fun t ht=>hl t (.inr ht)];have h2:=ae10 hh h;have hst1:st1.env=st.env∧st1.N=st.N:=by
   unfold a19 at h
   repeat' (split at h)
   all_goals first | (cases h;done) | (cases h;exact⟨rfl,rfl⟩)
  exact⟨_,h2,⟨rfl,hN.trans hst1.2.symm,hst1.2,id,fun t _ =>⟨by rw[hst1.1];rfl,rfl⟩,fun t ht=>by cases ht⟩⟩
 case app ty sz bytes x y=>
  simp only[l13,yB] at hl;simp only[e_] at h ⊢;rw[ec_ (x:=x) fun t ht=>hl t (.inl ht),ec_ (x:=y) fun t ht=>hl t (.inr ht)];exact au_ hh hN h
 case mks ty sz bytes z x y=>
  simp only[l13,yB] at hl;simp only[e_] at h ⊢;rw[ec_ (x:=x) fun t ht=>hl t (.inl ht),ec_ (x:=y) fun t ht=>hl t (.inr ht)];unfold amks at h ⊢;split at h
  ·split at h
   ·rename_i hc
    try simp only
    rw[zG hc];exact nu_ hh hN h
   ·cases h
  ·cases h
end
section
variable (P:Program) (G:Nat→Option AV)
def s17 (aos:List AO) (ktm:List Nat) (K:St→Prop):List Nat→List (List Nat×List Nat)→St→Prop
 | [],(f,l)::_,st=>opsP P G true (selC aos f) st fun X0=>opsP P G true (selC aos l) {X0 with env:=X0.trimE ktm} fun X1=>
     a14 {X0 with env:=X0.trimE ktm} {X1 with env:=X1.trimE ktm} (d13 (selC aos l))∧K {X0 with env:=X0.trimE ktm}
 | c::ls,(f,l)::r,st=>opsP P G true (selC aos f) st fun X0=>opsP P G true (selC aos l) {X0 with env:=X0.trimE ktm} fun X1=>
    a14 {X0 with env:=X0.trimE ktm} {X1 with env:=X1.trimE ktm} (d13 (selC aos l))∧∃d op Y,aos[c]? =some ⟨d,op,none⟩∧e_ G d op {X0 with env:=X0.trimE ktm}=some Y∧s17 aos ktm K ls r Y
 | _,[],_ =>False
end
theorem sm12 {P:Program} {G:Nat→Option AV} {aos:List AO} {ktm:List Nat} {K K':St→Prop} (hk:∀X,K X→K' X):∀{ls:List Nat} {ph:List (List Nat×List Nat)} {st:St},s17 P G aos ktm K ls ph st→s17 P G aos ktm K' ls ph st
 | [],(_f,_l)::_,_st,h=>om_ h fun _X0 h=>om_ h fun _X1 h=>⟨h.1,hk _ h.2⟩
 | _c::_ls,(_f,_l)::_r,_st,h=>om_ h fun _X0 h=>om_ h fun _X1 ⟨h1,d,op,Y,h2,h3,h4⟩=>⟨h1,d,op,Y,h2,h3,sm12 hk h4⟩
 | [],[],_,h=>h.elim
 | _ ::_,[],_,h=>h.elim
def f21 (aos:List AO) (sa:List Nat) (s:Nat):List Nat:=(List.range aos.length).filter fun j=>(match aos[j]? with | some x=>q10 x.op | none=>false)&&sa.getD j 0==s
def l19 (aos:List AO) (sa sb:List Nat) (s:Nat):List Nat:=(List.range aos.length).filter fun j=>(match aos[j]? with | some x=>q10 x.op | none=>false)&&decide (sa.getD j 0<s)&&decide (s≤sb.getD j 0)
def q12 (aos:List AO) (j:Nat):Bool:=match aos[j]? with | some x=>q10 x.op | none=>false
def d19 (ops:Array Oper) (aos:List AO) (ls sa sb:List Nat) (ph:List (List Nat×List Nat)) (ktm kt:List Nat):Bool:=
 let n:=aos.length
 ph==((List.range (ls.length+1)).map fun s=>(f21 aos sa s,l19 aos sa sb s))&&
 kt.all (fun t=>ktm.contains t)&&
 (List.range ls.length).all (fun m=>match ls[m]?.bind (aos[·]?) with
  | some x=>l17 x.op&&x.g.isNone&&sa.getD (ls.getD m 0) 0==m+1&&(m==0||h_ ops (ls.getD m 0) (ls.getD (m - 1) 0))
  | none=>false)&&
 (List.range n).all (fun i=>match aos[i]? with
  | some x=>e14 ops i&&(q10 x.op||ls.contains i)&&(!ls.contains i|| !q10 x.op)&&
    (match x.d with | some d=>ktm.contains d&& !x.looksC.contains d | none=>true)&&x.looksC.all (fun t=>ktm.contains t)&&
    (!q10 x.op||(decide (sa.getD i 0≤sb.getD i 0)&&(sa.getD i 0==0||(List.range i).any fun j=>h_ ops i j&&sa.getD j 0==sa.getD i 0)&&
     (decide (ls.length≤sb.getD i 0)||(List.range n).any fun q=>decide (i<q)&&h_ ops q i&&(if q12 aos q then decide (sb.getD q 0≤sb.getD i 0) else decide (sa.getD q 0≤sb.getD i 0+1)))))&&
    (List.range n).all (fun j=>match aos[j]? with
     | some y=>i==j||match y.d with
      | some d=>x.d != some d&&(!(x.looksC.contains d)||h_ ops i j||(if q10 x.op then decide (sb.getD i 0<sa.getD j 0) else decide (sa.getD i 0≤sa.getD j 0)))
      | none=>true
     | none=>true)
  | none=>true)
structure COk (ops:Array Oper) (aos:List AO) (ls:List Nat) (sa sb:Nat→Nat) (ktm:List Nat):Prop where
 low:∀(i:Nat) (o:Oper),i<aos.length→ops[i]? =some o→∀e∈o.after,Region.binds .any e=true→e.on<i
 dst:∀(i j:Nat) (x y:AO) (d:Nat),aos[i]? =some x→aos[j]? =some y→x.d=some d→y.d=some d→i=j
 ktd:∀(i:Nat) (x:AO) (d:Nat),aos[i]? =some x→x.d=some d→d∈ktm
 ktl:∀(i:Nat) (x:AO) (t:Nat),aos[i]? =some x→t∈x.looksC→t∈ktm
 self:∀(i:Nat) (x:AO) (d:Nat),aos[i]? =some x→x.d=some d→d∉x.looksC
 loud:∀(i:Nat) (x:AO),aos[i]? =some x→q10 x.op=false→∃m:Nat,ls[m]? =some i
 lsq:∀(m c:Nat),ls[m]? =some c→∃x,aos[c]? =some x∧q10 x.op=false∧l17 x.op=true∧x.g=none∧sa c=m+1
 lso:∀(m c c':Nat),ls[m]? =some c→ls[m+1]? =some c'→h_ ops c' c=true
 sab:∀(i:Nat) (x:AO),aos[i]? =some x→q10 x.op=true→sa i≤sb i
 sal:∀(i:Nat) (x:AO),aos[i]? =some x→q10 x.op=true→sa i=0∨∃j:Nat,j<i∧h_ ops i j=true∧sa j=sa i
 sbl:∀(i:Nat) (x:AO),aos[i]? =some x→q10 x.op=true→ls.length≤sb i∨∃(q:Nat) (y:AO),i<q∧aos[q]? =some y∧h_ ops q i=true∧((q10 y.op=true∧sb q≤sb i)∨(q10 y.op=false∧sa q≤sb i+1))
 lookQ:∀(i j:Nat) (x y:AO) (d:Nat),aos[i]? =some x→aos[j]? =some y→q10 x.op=true→y.d=some d→d∈x.looksC→h_ ops i j=true∨sb i<sa j
 lookL:∀(i j:Nat) (x y:AO) (d:Nat),aos[i]? =some x→aos[j]? =some y→q10 x.op=false→y.d=some d→d∈x.looksC→h_ ops i j=true∨sa i≤sa j
section
variable {P:Program} {G:Nat→Option AV} {ops:Array Oper} {aos:List AO} {ls ktm:List Nat} {sa sb:Nat→Nat} {K:St→Prop}
theorem seqC (hd:COk ops aos ls sa sb ktm):∀(f:List Nat) (st:St),f.Pairwise (·<·)→(∀j∈f,∃x,aos[j]? =some x∧q10 x.op=true)→opsP P G true (selC aos f) st K→
  ∃X0,K X0∧X0.heap=st.heap∧X0.N=st.N∧(∀t,(∀m∈f,∀x,aos[m]? =some x→x.d≠some t)→eget X0.env t=eget st.env t)∧
   ∀j∈f,∀x,aos[j]? =some x→∃S v,yld P G x S v∧dOK x S.N∧S.heap=st.heap∧S.N=st.N∧(∀d,x.d=some d→eget X0.env d=v)∧
    (∀t,(∀m∈f,j≤m→∀y,aos[m]? =some y→y.d≠some t)→eget X0.env t=eget S.env t)∧(∀t,(∀m∈f,m<j→∀y,aos[m]? =some y→y.d≠some t)→eget S.env t=eget st.env t)
 | [],st,_,_,h=>⟨st,h,rfl,rfl,fun _ _ =>rfl,fun j hj=>by cases hj⟩
 | i::f,st,hp,hq,h=>by
  obtain⟨x,hx,hxq⟩:=hq i (by simp);rw[List.pairwise_cons] at hp;simp only[selC,hx] at h;obtain⟨v,st1,h1,h2,h3,h4⟩:=yoo_ hxq h;obtain⟨X0,hK,hh,hN,hun,hall⟩:=seqC hd f st1 hp.2 (fun j hj=>hq j (by simp [hj])) h4;have nof:∀d,x.d=some d→∀m∈f,∀y,aos[m]? =some y→y.d≠some d:=fun d hxd m hm y hy hyd=>by have:=hd.dst i m x y d hx hy hxd hyd;have:=hp.1 m hm;omega
  refine⟨X0,hK,hh.trans h2.heap,hN.trans h2.N,fun t ht=>?_,fun j hj y hy=>?_⟩
  ·rw[hun t fun m hm=>ht m (by simp [hm]),h2.env,zF (ht i (by simp) x hx)]
  ·rcases yM.1 hj with rfl | hj
   ·rw[hx] at hy;cases hy;refine⟨st,v,h1,h3,rfl,rfl,fun d hxd=>?_,fun t ht=>?_,fun t _ =>rfl⟩
    ·rw[hun d (nof d hxd),h2.env,zG hxd]
    ·rw[hun t fun m hm=>ht m (by simp [hm]) (Nat.le_of_lt (hp.1 m hm)),h2.env,zF (ht j (by simp) (zE _) x hx)]
   ·obtain⟨S,u,e1,e2,e3,e4,e5,e6,e7⟩:=hall j hj y hy;refine⟨S,u,e1,e2,e3.trans h2.heap,e4.trans h2.N,e5,fun t ht=>e6 t fun m hm=>ht m (by simp [hm]),fun t ht=>?_⟩;rw[e7 t fun m hm=>ht m (by simp [hm]),h2.env,zF (ht i (by simp) (hp.1 j hj) x hx)]
structure StageC (P:Program) (G:Nat→Option AV) (aos:List AO) (ktm:List Nat) (sa sb:Nat→Nat) (K:St→Prop) (s:Nat) (X:St) (ls':List Nat) (r:List (List Nat×List Nat)):Prop where
 yl:∀(j:Nat) (x:AO),aos[j]? =some x→q10 x.op=true→sa j≤s→s≤sb j→∃v,yld P G x X v∧dOK x X.N∧∀d,x.d=some d→eget X.env d=v
 nx:(ls'=[]∧K X)∨∃c q d op Y,ls'=c::q∧aos[c]? =some ⟨d,op,none⟩∧e_ G d op X=some Y∧s17 P G aos ktm K q r Y
theorem so14 (hd:COk ops aos ls sa sb ktm) {s:Nat} {ls' f l:List Nat} {r:List (List Nat×List Nat)} {Y:St} (h:s17 P G aos ktm K ls' ((f,l)::r) Y)
  (hf:f.Pairwise (·<·)∧∀j,j∈f↔∃x,aos[j]? =some x∧q10 x.op=true∧sa j=s) (hl:l.Pairwise (·<·)∧∀j,j∈l↔∃x,aos[j]? =some x∧q10 x.op=true∧sa j<s∧s≤sb j):
  ∃X,StageC P G aos ktm sa sb K s X ls' r∧X.heap=Y.heap∧X.N=Y.N∧∀t∈ktm,(∀(j:Nat) (x:AO),aos[j]? =some x→q10 x.op=true→sa j=s→x.d≠some t)→eget X.env t=eget Y.env t:=by
 have key:∀K':St→Prop,(opsP P G true (selC aos f) Y fun X0=>opsP P G true (selC aos l) {X0 with env:=X0.trimE ktm} fun X1=>a14 {X0 with env:=X0.trimE ktm} {X1 with env:=X1.trimE ktm} (d13 (selC aos l))∧K' {X0 with env:=X0.trimE ktm})→
   ∃X:St,K' X∧(∀(j:Nat) (x:AO),aos[j]? =some x→q10 x.op=true→sa j≤s→s≤sb j→∃v,yld P G x X v∧dOK x X.N∧∀d,x.d=some d→eget X.env d=v)∧
    X.heap=Y.heap∧X.N=Y.N∧∀t∈ktm,(∀(j:Nat) (x:AO),aos[j]? =some x→q10 x.op=true→sa j=s→x.d≠some t)→eget X.env t=eget Y.env t:=by
  intro K' h;obtain⟨X0,h0,hh,hN,hun,hall⟩:=seqC hd f Y hf.1 (fun j hj=>let ⟨x,h1,h2,_⟩:=(hf.2 j).1 hj;⟨x,h1,h2⟩) h;obtain⟨X1,⟨hag,hK⟩,hh1,hN1,hun1,hall1⟩:=seqC hd l _ hl.1 (fun j hj=>let ⟨x,h1,h2,_⟩:=(hl.2 j).1 hj;⟨x,h1,h2⟩) h0;have tr:∀t∈ktm,eget (X0.trimE ktm) t=eget X0.env t:=fun t ht=>eti_ X0 ktm t ht;have tr1:∀t∈ktm,eget (X1.trimE ktm) t=eget X1.env t:=fun t ht=>eti_ X1 ktm t ht
  -- looked at a11, all is as it was
  have same1:∀t∈ktm,eget X1.env t=eget (X0.trimE ktm) t:=fun t ht=>by
   by_cases hw:∃m∈l,∃y,aos[m]? =some y∧y.d=some t
   ·obtain⟨m,hm,y,hy,hyt⟩:=hw;have hmem:t∈d13 (selC aos l):=by
     have:y∈selC aos l:=by
      clear hag hun1 hall1 hK h0 h
      revert hm
      generalize l=l';intro hm
      induction l' with
      | nil=>cases hm
      | cons a l' ih=>
       simp only[selC];rcases yM.1 hm with rfl | hm
       ·rw[hy];simp
       ·split
        ·exact zD _ (ih hm)
        ·exact ih hm
     obtain⟨k,hk⟩:=zN this;exact dm10 hk hyt
    have:=aa16 hag t hmem;simp only at this;rw[←tr1 t ht,this]
   ·exact hun1 t fun m hm y hy hyt=>hw ⟨m,hm,y,hy,hyt⟩
  refine⟨_,hK,fun j x hx hq h1 h2=>?_,hh,hN,fun t ht hno=>?_⟩
  ·by_cases e:sa j=s
   ·have hj:j∈f:=(hf.2 j).2 ⟨x,hx,hq,e⟩;obtain⟨S,v,e1,e2,e3,e4,e5,e6,_⟩:=hall j hj x hx;refine⟨v,yc_ (hh.trans e3.symm) (fun t ht=>?_) e1,by simp only;rw[hN,←e4];exact e2,fun d hdd=>?_⟩
    ·have htc:t∈x.looksC:=by rw[lq_ hq];exact ht
     have htk:=hd.ktl j x t hx htc
     try simp only
     rw[tr t htk];refine e6 t fun m hm hjm y hy hyt=>?_;rcases Nat.lt_or_eq_of_le hjm with hlt | rfl
     ·rcases hd.lookQ j m x y t hx hy hq hyt htc with h | h
      ·obtain⟨o,ho,e,he,hb,hon⟩:=hs_ h;have:=hd.low j o (zZ.1 hx).1 ho e he hb;omega
      ·obtain⟨_,_,_,hsm⟩:=(hf.2 m).1 hm;omega
     ·rw[hx] at hy;cases hy;exact hd.self j x t hx hyt htc
    ·simp only;rw[tr d (hd.ktd j x d hx hdd)];exact e5 d hdd
   ·have hj:j∈l:=(hl.2 j).2 ⟨x,hx,hq,by omega,h2⟩;obtain⟨S,v,e1,e2,e3,e4,e5,e6,e7⟩:=hall1 j hj x hx;refine⟨v,yc_ e3.symm (fun t ht=>?_) e1,by rw[←e4];exact e2,fun d hdd=>?_⟩
    ·have htc:t∈x.looksC:=by rw[lq_ hq];exact ht
     have htk:=hd.ktl j x t hx htc;by_cases hw:∃m∈l,j≤m∧∃y,aos[m]? =some y∧y.d=some t
     ·obtain⟨m,hm,hjm,y,hy,hyt⟩:=hw;exact (e7 t fun m' hm' hlt y' hy' hyt'=>by have:=hd.dst m m' y y' t hy hy' hyt hyt';omega).symm
     ·rw[←e6 t fun m hm hjm y hy hyt=>hw ⟨m,hm,hjm,y,hy,hyt⟩];exact (same1 t htk).symm
    ·have hdk:=hd.ktd j x d hx hdd;exact (same1 d hdk).symm.trans (e5 d hdd)
  ·simp only;rw[tr t ht];exact hun t fun m hm x hx hxt=>by obtain⟨y,hy,hq,hs⟩:=(hf.2 m).1 hm;rw[hx] at hy;cases hy;exact hno m x hx hq hs hxt
 cases ls' with
 | nil=>
  obtain⟨X,hK,h1,h2⟩:=key K h;exact⟨X,⟨h1,.inl ⟨rfl,hK⟩⟩,h2⟩
 | cons c q=>
  obtain⟨X,⟨d,op,Y',e1,e2,e3⟩,h1,h2⟩:=key (fun X=>∃d op Y,aos[c]? =some ⟨d,op,none⟩∧e_ G d op X=some Y∧s17 P G aos ktm K q r Y) h;exact⟨X,⟨h1,.inr ⟨c,q,d,op,Y',rfl,e1,e2,e3⟩⟩,h2⟩
theorem ts10 {X st:St}:∀{kt:List Nat},(∀t∈kt,eget st.env t=eget X.env t)→∀t,eget (X.trimE kt) t=eget (st.trimE kt) t
 | [],_,_ =>rfl
 | u::kt,he,t=>by
  simp only[St.trimE,eget];split
  ·exact (he u (by simp)).symm
  ·exact ts10 (fun t ht=>he t (by simp [ht])) t
theorem fs13 {sa:List Nat} {s:Nat}:(f21 aos sa s).Pairwise (·<·)∧∀j,j∈f21 aos sa s↔∃x,aos[j]? =some x∧q10 x.op=true∧sa.getD j 0=s:=by
 refine⟨uZ _ vS,fun j=>?_⟩;simp only[f21,yG,yS,zK,zC];constructor
 ·rintro⟨hj,h1,h2⟩;rw[zY hj] at h1;exact⟨_,zY hj,h1,h2⟩
 ·rintro⟨x,hx,h1,h2⟩;exact⟨(zZ.1 hx).1,by rw[hx];exact h1,h2⟩
theorem ls_ {sa sb:List Nat} {s:Nat}:(l19 aos sa sb s).Pairwise (·<·)∧∀j,j∈l19 aos sa sb s↔∃x,aos[j]? =some x∧q10 x.op=true∧sa.getD j 0<s∧s≤sb.getD j 0:=by
 refine⟨uZ _ vS,fun j=>?_⟩;simp only[l19,yG,yS,zK,zU];constructor
 ·rintro⟨hj,⟨h1,h2⟩,h3⟩;rw[zY hj] at h1;exact⟨_,zY hj,h1,h2,h3⟩
 ·rintro⟨x,hx,h1,h2,h3⟩;exact⟨(zZ.1 hx).1,⟨by rw[hx];exact h1,h2⟩,h3⟩
structure SameC (aos:List AO) (ktm:List Nat) (sa:Nat→Nat) (s:Nat) (X:St) (listed:Nat→Bool) (st:St):Prop where
 heap:st.heap=X.heap
 N:st.N=X.N
 env:∀t∈ktm,(∀(j:Nat) (x:AO),aos[j]? =some x→x.d=some t→q10 x.op=true→sa j≤s→listed j=true)→eget st.env t=eget X.env t
theorem bl10 (hd:COk ops aos ls sa sb ktm) {listed:Nat→Bool} {s:Nat} (hs:s≤ls.length) (hcl:∀(i:Nat) (o:Oper),ops[i]? =some o→listed i=true→∀e∈o.after,Region.binds .any e=true→listed e.on=true)
  (hlo:∀(m c:Nat),ls[m]? =some c→(listed c=true↔m<s)):∀(n i:Nat) (x:AO),aos.length≤i+n→aos[i]? =some x→q10 x.op=true→sb i<s→listed i=true:=by
 intro n
 induction n with
 | zero=>
  intro i x hn hx;have:=(zZ.1 hx).1;omega
 | succ n ih=>
  intro i x hn hx hq hlt;rcases hd.sbl i x hx hq with h | ⟨q,y,hiq,hy,he,h⟩
  ·omega
  ·obtain⟨o,ho,e,he,hb,hon⟩:=hs_ he;have hql:listed q=true:=by
    rcases h with ⟨h1,h2⟩ | ⟨h1,h2⟩
    ·exact ih q y (by omega) hy h1 (by omega)
    ·obtain⟨m,hm⟩:=hd.loud q y hy h1;obtain⟨_,_,_,_,_,hsm⟩:=hd.lsq m q hm;exact (hlo m q hm).2 (by omega)
   rw[←hon];exact hcl q o ho hql e he hb
theorem s35 {C:Ctx} {Q:Exit→Act→World→Prop} {phs:Nat→List (List Nat×List Nat)} (hd:COk ops aos ls sa sb ktm) (hlen:ops.toList.length=aos.length) (hget:∀(i:Nat) o x,ops.toList[i]? =some o→aos[i]? =some x→c22 P ops o x=true)
  (hph:∀s,s≤ls.length→∃f l,phs s=(f,l)::phs (s+1)∧(f.Pairwise (·<·)∧∀j,j∈f↔∃x,aos[j]? =some x∧q10 x.op=true∧sa j=s)∧(l.Pairwise (·<·)∧∀j,j∈l↔∃x,aos[j]? =some x∧q10 x.op=true∧sa j<s∧s≤sb j))
  (hQ:∀st X a w,K X→st.heap=X.heap→st.N=X.N→(∀t∈ktm,eget st.env t=eget X.env t)→Rel G C st a w→Q .normal a w):
  ∀(fuel:Nat) (listed:Array Bool) (s:Nat) (X st:St) (a:Act) (w:World),listed.size=ops.size→listed.toList.count false=fuel→
   (∀(i:Nat) (o:Oper),ops[i]? =some o→listed.getD i false=true→∀e∈o.after,Region.binds .any e=true→listed.getD e.on false=true)→s≤ls.length→
   (∀(m c:Nat),ls[m]? =some c→(listed.getD c false=true↔m<s))→(∀(j:Nat) (x:AO),aos[j]? =some x→q10 x.op=true→listed.getD j false=true→sa j≤s)→
   StageC P G aos ktm sa sb K s X (ls.drop s) (phs (s+1))→SameC aos ktm sa s X (fun j=>listed.getD j false) st→Rel G C st a w→wpAny P .any ops Q fuel listed a w:=by
 have hlen':ops.size=aos.length:=by simpa using hlen
 have full:∀(listed:Array Bool) (s:Nat) (X st:St) (a:Act) (w:World),(∀i,i<ops.size→listed.getD i false=true)→s≤ls.length→(∀(m c:Nat),ls[m]? =some c→(listed.getD c false=true↔m<s))→
   StageC P G aos ktm sa sb K s X (ls.drop s) (phs (s+1))→SameC aos ktm sa s X (fun j=>listed.getD j false) st→Rel G C st a w→Q .normal a w:=by
  intro listed s X st a w hall hs hlo hst hsm hr;have hse:s=ls.length:=by
   rcases Nat.lt_or_eq_of_le hs with h | h
   ·have hc:=zY h;obtain⟨x,hx,_⟩:=hd.lsq s _ hc;have:=(hlo s _ hc).1 (hall _ (by rw[hlen'];exact (zZ.1 hx).1));omega
   ·exact h
  rcases hst.nx with ⟨_,hK⟩ | ⟨c,q,d,op,Y,h1,_⟩
  ·exact hQ st X a w hK hsm.heap hsm.N (fun t ht=>hsm.env t ht fun j x hx _ _ _ =>hall j (by rw[hlen'];exact (zZ.1 hx).1)) hr
  ·rw[hse,tX] at h1;cases h1
 intro fuel
 induction fuel with
 | zero=>
  intro listed s X st a w hsz hcnt hcl hs hlo hqs hst hsm hr;have hall:∀i,i<ops.size→listed.getD i false=true:=fun i hi=>by
   have hi':i<listed.size:=by omega
   have:false∉listed.toList:=uG.1 hcnt;rw[zL,zP hi',yR];cases e:listed[i] with
   | true=>rfl
   | false=>exact absurd (by rw[←e];exact vG hi') this
  refine⟨?_,full listed s X st a w hall hs hlo hst hsm hr⟩;rw[uW];intro i hi;obtain⟨h1,o,ho,_⟩:=mem_ready.1 hi;have hi':=(yK.1 ho).1;have h2:=hall i hi';rw[zL,zP (by omega)] at h1 h2;simp only[yR] at h1 h2;rw[h1] at h2;cases h2
 | succ fuel ih=>
  intro listed s X st a w hsz hcnt hcl hs hlo hqs hst hsm hr;have same:∀i,i<ops.size→listed.getD i true=listed.getD i false:=fun i hi=>by rw[zL,zL,zP (by omega)];rfl
  refine⟨fun h0=>full listed s X st a w (fun i=>?_) hs hlo hst hsm hr,fun i hi=>?_⟩
  ·induction i using Nat.strongRecOn with
   | _ i ihi=>
    intro hi;cases e:listed.getD i false with
    | true=>rfl
    | false=>
     have ho:ops[i]? =some ops[i]:=zP hi;have:i∈Region.ready .any ops listed:=mem_ready.2 ⟨by rw[same i hi];exact e,ops[i],ho,fun e he hb=>by have:=hd.low i _ (by omega) ho e he hb;exact ihi e.on this (by omega)⟩
     rw[h0] at this;cases this
  ·obtain⟨hun,o,ho,hed⟩:=mem_ready.1 hi;have hi':i<ops.size:=(yK.1 ho).1;rw[same i hi'] at hun;have hlst:∀j,(listed.setIfInBounds i true).getD j false=(listed.getD j false||j==i):=fun j=>by
    by_cases e:j=i
    ·subst e;have:j<listed.size:=by omega
     simp [this]
    ·rw[getD_set_ne false (fun e'=>e e'.symm)];simp [e]
   have hcnt':(listed.setIfInBounds i true).toList.count false=fuel:=by
    have hi2:i<listed.toList.length:=by simp;omega
    have hf:listed.toList[i]=false:=by rw[zL,zP (show i<listed.size by omega)] at hun;simpa using hun
    rw[vJ,tL hi2,hf,hcnt];simp
   have hcl':∀(j:Nat) (o:Oper),ops[j]? =some o→(listed.setIfInBounds i true).getD j false=true→∀e∈o.after,Region.binds .any e=true→(listed.setIfInBounds i true).getD e.on false=true:=by
    intro j o' ho' hj e he hb;rw[hlst] at hj ⊢;by_cases e':j=i
    ·subst e';rw[ho] at ho';cases ho';rw[hed e he hb];rfl
    ·have:listed.getD j false=true:=by simpa [e'] using hj
     rw[hcl j o' ho' this e he hb];rfl
   have hxi:i<aos.length:=by omega
   have hx:aos[i]? =some aos[i]:=zY hxi;have fin:∀{K1:St→Prop},opP P G true aos[i] st K1→(∀st1 a1 w1,K1 st1→Rel G C st1 a1 w1→wpAny P .any ops Q fuel (listed.setIfInBounds i true) a1 w1)→wpOp P ops Q i (wpAny P .any ops Q fuel (listed.setIfInBounds i true)) a w:=by
    intro K1 hop key;have hs:=os_ hr (K':=wpAny P .any ops Q fuel (listed.setIfInBounds i true)) (Q:=Q) (hget i o _ (by rw[←ho];simp) hx) hop key;unfold wpOp;rw[ho];simp only;split
    ·rename_i hw;rw[zG hw] at hs;exact .inl hs
    ·rename_i hw;rw[zF hw] at hs;exact hs
   have hchk:=hget i o _ (by rw[←ho];simp) hx;generalize hxe:aos[i]=x at*;cases hq:q10 x.op with
   | true=>
    have hsa:sa i≤s:=by
     rcases hd.sal i x hx hq with h | ⟨j,hji,he,hj⟩
     ·omega
     ·obtain⟨o',ho',e,he,hb,hon⟩:=hs_ he;rw[ho] at ho';cases ho';have hjl:=hed e he hb;rw[hon] at hjl;have hyj:aos[j]? =some aos[j]:=zY (by omega);rw[←hj];cases hqj:q10 aos[j].op with
      | true=>exact hqs j _ hyj hqj hjl
      | false=>
       obtain⟨m,hm⟩:=hd.loud j _ hyj hqj;obtain⟨_,_,_,_,_,hsm'⟩:=hd.lsq m j hm;have:=(hlo m j hm).1 hjl;omega
    have hsb:s≤sb i:=by
     rcases uH (sb i) s with h | h
     ·have:=bl10 hd hs (listed:=fun j=>listed.getD j false) hcl hlo aos.length i x (by omega) hx hq h;simp only[hun] at this;cases this
     ·exact h
    obtain⟨v,hy,hdk,hv⟩:=hst.yl i x hx hq hsa hsb;have look:∀t∈x.looks,eget st.env t=eget X.env t:=fun t ht=>by
     have htc:t∈x.looksC:=by rw[lq_ hq];exact ht
     refine hsm.env t (hd.ktl i x t hx htc) fun j y hyj hyt hqy hsy=>?_;rcases hd.lookQ i j x y t hx hyj hq hyt htc with h | h
     ·obtain⟨o',ho',e,he,hb,hon⟩:=hs_ h;rw[ho] at ho';cases ho';have:=hed e he hb;rw[hon] at this;exact this
     ·omega
    have hy':yld P G x st v:=yc_ hsm.heap look hy;have hop:=ooy_ hq (by rw[hsm.N];exact hdk) hy';refine fin hop fun st1 a1 w1 ha hr1=>?_;refine ih _ s X st1 a1 w1 (by simp [hsz]) hcnt' hcl' hs (fun m c hm=>?_) (fun j y hyj hqy hj=>?_) hst ⟨ha.heap.trans hsm.heap,ha.N.trans hsm.N,fun t ht hall=>?_⟩ hr1
    ·rw[hlst];have hne:c≠i:=fun e=>by
      subst e;obtain⟨y,hy1,hy2,_⟩:=hd.lsq m c hm;rw[hx] at hy1;cases hy1;rw[hq] at hy2;cases hy2
     have e0:(c==i)=false:=by simpa using hne
     rw[e0,wV];exact hlo m c hm
    ·rw[hlst] at hj;by_cases e:j=i
     ·subst e;exact hsa
     ·exact hqs j y hyj hqy (by simpa [e] using hj)
    ·rw[ha.env];split
     ·rename_i e;exact (hv t e).symm
     ·rename_i e;refine hsm.env t ht fun j y hyj hyt hqy hsy=>?_;have:=hall j y hyj hyt hqy hsy;rw[hlst] at this;have hne:j≠i:=fun e'=>by
       subst e';rw[hx] at hyj;cases hyj;exact e hyt
      simpa [hne] using this
   | false=>
    obtain⟨m,hm⟩:=hd.loud i x hx hq;have hms:m=s:=by
     have h1:¬m<s:=fun h=>by have:=(hlo m i hm).2 h;rw[hun] at this;cases this
     rcases uH s m with h | h
     ·obtain⟨m',rfl⟩:∃m',m=m'+1:=⟨m - 1,by omega⟩;have hlt:m'<ls.length:=by have:=(zZ.1 hm).1;omega
      have hc:=zY hlt;have he:=hd.lso m' _ i hc hm;obtain⟨o',ho',e,he,hb,hon⟩:=hs_ he;rw[ho] at ho';cases ho';have:=hed e he hb;rw[hon] at this;have:=(hlo m' _ hc).1 this;omega
     ·omega
    subst hms;have hslt:=(zZ.1 hm).1;obtain⟨x',hx',_,hlu,hg,hsai⟩:=hd.lsq m i hm;rw[hx] at hx';cases hx';have hdrop:ls.drop m=i::ls.drop (m+1):=by rw[yD hslt];congr 1;exact (zZ.1 hm).2
    rcases hst.nx with ⟨h1,_⟩ | ⟨c,q,d,op,Y,h1,h2,h3,h4⟩
    ·rw[hdrop] at h1;cases h1
    rw[hdrop] at h1;cases h1;rw[hx] at h2;cases h2;have hsd:i12 op=true→d=none:=fun e=>by simp only[c22,zK,zC] at hchk;have:=hchk.2;rw[e] at this;have hdd:=hchk.1.1.1;rw[←hdd];simpa using this
    have look:∀t∈l13 op,eget st.env t=eget X.env t:=fun t ht=>by
     have htc:t∈AO.looksC ⟨d,op,none⟩:=by simp only[AO.looksC,xW];exact ht
     refine hsm.env t (hd.ktl i _ t hx htc) fun j y hyj hyt hqy hsy=>?_;rcases hd.lookL i j _ y t hx hyj hq hyt htc with h | h
     ·obtain⟨o',ho',e,he,hb,hon⟩:=hs_ h;rw[ho] at ho';cases ho';have:=hed e he hb;rw[hon] at this;exact this
     ·omega
    obtain⟨Y',e1,hu⟩:=lu_ hlu hsd hsm.heap hsm.N look h3;have hop:opP P G true ⟨d,op,none⟩ st (fun st1=>st1=Y'):=by show s23 P G true d op st _;cases op <;> simp only[l17,zW] at hlu <;> (simp only[s23,e1])
    obtain⟨f,l,hp1,hp2,hp3⟩:=hph (m+1) (by omega);rw[hp1] at h4;obtain⟨X2,hst2,hh2,hN2,hun2⟩:=so14 hd h4 hp2 hp3;refine fin hop fun st1 a1 w1 ha hr1=>?_;subst ha;obtain⟨T,hT,hdT⟩:=hu.env;refine ih _ (m+1) X2 st1 a1 w1 (by simp [hsz]) hcnt' hcl' (by omega) (fun m' c hm'=>?_) (fun j y hyj hqy hj=>?_) hst2 ⟨hu.heap.trans hh2.symm,hu.N.trans hN2.symm,fun t ht hall=>?_⟩ hr1
    ·rw[hlst];by_cases e:c=i
     ·subst e;obtain⟨_,_,_,_,_,hsm'⟩:=hd.lsq m' c hm';simp;omega
     ·have e0:(c==i)=false:=by simpa using e
      rw[e0,wV,hlo m' c hm'];have:m'≠m:=fun e'=>by subst e';rw[hm] at hm';cases hm';exact e rfl
      omega
    ·rw[hlst] at hj;by_cases e:j=i
     ·subst e;rw[hx] at hyj;cases hyj;rw[hq] at hqy;cases hqy
     ·have:=hqs j y hyj hqy (by simpa [e] using hj);omega
    ·have noW:∀(j:Nat) (y:AO),aos[j]? =some y→q10 y.op=true→sa j=m+1→y.d≠some t:=fun j y hyj hqy hsy hyt=>by
      have:=hall j y hyj hyt hqy (by omega);rw[hlst] at this;have hne:j≠i:=fun e'=>by subst e';rw[hx] at hyj;cases hyj;rw[hq] at hqy;cases hqy
      have:=hqs j y hyj hqy (by simpa [hne] using this);omega
     rw[hun2 t ht noW];by_cases e:d=some t
     ·exact hdT t e
     ·obtain⟨a1,a2⟩:=hT t e;rw[a1,a2];congr 1;refine hsm.env t ht fun j y hyj hyt hqy hsy=>?_;have:=hall j y hyj hyt hqy (by omega);rw[hlst] at this;have hne:j≠i:=fun e'=>by
       subst e';rw[hx] at hyj;cases hyj;rw[hq] at hqy;cases hqy
      simpa [hne] using this
theorem do12 {sa sb kt:List Nat} {ph:List (List Nat×List Nat)} (h:d19 ops aos ls sa sb ph ktm kt=true):
  COk ops aos ls (fun j=>sa.getD j 0) (fun j=>sb.getD j 0) ktm∧ph=((List.range (ls.length+1)).map fun s=>(f21 aos sa s,l19 aos sa sb s))∧∀t∈kt,t∈ktm:=by
 simp only[d19,zK] at h;obtain⟨⟨⟨h1,h2⟩,h3⟩,h4⟩:=h;have get:∀(i:Nat) (x:AO),aos[i]? =some x→_ :=fun i x hx=>by have:=yH.1 h4 i (yS.2 (zZ.1 hx).1);rw[hx] at this;simp only[zK,xT,yQ] at this;exact this
 have prs:∀(i j:Nat) (x y:AO),aos[i]? =some x→aos[j]? =some y→i≠j→∀d,y.d=some d→(x.d≠some d)∧(d∈x.looksC→h_ ops i j=true∨(if q10 x.op then sb.getD i 0<sa.getD j 0 else sa.getD i 0≤sa.getD j 0)):=fun i j x y hx hy hne d hyd=>by
  have:=(get i x hx).2;have:=yH.1 this j (yS.2 (zZ.1 hy).1);simp only[hy,hyd,xT,zC,hne,tI,zK,tB,sY,yQ,wL,zO] at this;refine⟨this.1,fun hm=>?_⟩;rcases this.2 with (h | h) | h
  ·exact absurd hm h
  ·exact .inl h
  ·right;split at h
   ·rename_i hq;simp only[hq,xZ];simpa using h
   ·rename_i hq;simp only[hq,zW,yA];simpa using h
 refine⟨?_,by simpa using h1,fun t ht=>by have:=yH.1 h2 t ht;simpa using this⟩;have lsg:∀(m c:Nat),ls[m]? =some c→∃x,aos[c]? =some x∧l17 x.op=true∧x.g=none∧sa.getD c 0=m+1∧(m=0∨h_ ops c (ls.getD (m - 1) 0)=true):=fun m c hm=>by
  have hlt:=(zZ.1 hm).1;have:=yH.1 h3 m (yS.2 hlt);have hgd:ls.getD m 0=c:=by simp [vK,hm]
  simp only[hm,vU,hgd] at this;split at this
  ·rename_i x hx;simp only[zK,xT,zC,tZ] at this;exact⟨x,hx,this.1.1.1,this.1.1.2,this.1.2,this.2⟩
  ·cases this
 refine⟨fun i o hi ho e he hb=>?_,fun i j x y d hx hy hxd hyd=>?_,fun i x d hx hxd=>?_,fun i x t hx ht=>?_,fun i x d hx hxd=>?_,fun i x hx hq=>?_,fun m c hm=>?_,fun m c c' hm hm'=>?_,fun i x hx hq=>?_,fun i x hx hq=>?_,fun i x hx hq=>?_,fun i j x y d hx hy hq hyd hl=>?_,fun i j x y d hx hy hq hyd hl=>?_⟩
 ·have:=(get i aos[i] (zY hi)).1.1.1.1.1.1;simp only[e14,ho,uJ] at this;have:=this e he;simpa [hb] using this
 ·by_cases hne:i=j
  ·exact hne
  ·exact absurd hxd (prs i j x y hx hy hne d hyd).1
 ·have:=(get i x hx).1.1.1.2;simp only[hxd,zK] at this;simpa using this.1
 ·have:=(get i x hx).1.1.2;have:=yH.1 this t ht;simpa using this
 ·have:=(get i x hx).1.1.1.2;simp only[hxd,zK,yQ] at this;simpa using this.2
 ·have:=(get i x hx).1.1.1.1.1.2;rw[hq] at this;simp only[zW,tI] at this;have:i∈ls:=by simpa using this
  obtain⟨m,hm⟩:=zN this;exact⟨m,hm⟩
 ·obtain⟨x,hx,h1,h2,h3,_⟩:=lsg m c hm;have:=(get c x hx).1.1.1.1.2;have hcl:ls.contains c=true:=by simpa using List.mem_of_getElem? hm
  rw[hcl] at this;simp only[vB,tI] at this;exact⟨x,hx,this,h1,h2,h3⟩
 ·obtain⟨x,hx,_,_,_,h⟩:=lsg (m+1) c' hm';rcases h with h | h
  ·omega
  ·have hgd:ls.getD (m+1 - 1) 0=c:=by simp [vK,hm]
   rw[hgd] at h;exact h
 ·have:=(get i x hx).1.2;rw[hq] at this;simp only[vB,tI] at this;simpa using this.1.1
 ·have:=(get i x hx).1.2;rw[hq] at this;simp only[vB,tI] at this;rcases this.1.2 with h | h
  ·exact .inl (by simpa using h)
  ·simp only[yL,yS,zK,zC] at h;exact .inr h
 ·have:=(get i x hx).1.2;rw[hq] at this;simp only[vB,tI] at this;rcases this.2 with h | h
  ·exact .inl (by simpa using h)
  ·simp only[yL,yS,zK,zU] at h;obtain⟨q,hqn,⟨hiq,he⟩,hv⟩:=h;have hy:aos[q]? =some aos[q]:=zY hqn;refine .inr ⟨q,_,hiq,hy,he,?_⟩;have hqa:q12 aos q=q10 aos[q].op:=by simp [q12,hy]
   cases hqq:q10 aos[q].op with
   | true=>rw[hqq] at hqa;simp only[hqa,xZ,zU] at hv;exact .inl ⟨rfl,hv⟩
   | false=>rw[hqq] at hqa;simp only[hqa,zW,yA,zU] at hv;exact .inr ⟨rfl,hv⟩
 ·have hne:i≠j:=fun e=>by
   subst e;rw[hx] at hy;cases hy;have:=(get i x hx).1.1.1.2;simp only[hyd,zK,yQ] at this;have:=this.2;simp only[wL,zO] at this;exact this hl
  have:=(prs i j x y hx hy hne d hyd).2 hl;rw[hq] at this;simpa using this
 ·have hne:i≠j:=fun e=>by
   subst e;rw[hx] at hy;cases hy;have:=(get i x hx).1.1.1.2;simp only[hyd,zK,yQ] at this;have:=this.2;simp only[wL,zO] at this;exact this hl
  have:=(prs i j x y hx hy hne d hyd).2 hl;rw[hq] at this;simpa using this
theorem ds10 {C:Ctx} {id:Nat} {sa sb kt:List Nat} {ph:List (List Nat×List Nat)} {st:St} {a:Act} {w:World} {Q:Exit→Act→World→Prop} (hm:P.follows .mixedOrders=true) (hc:c11 P ops ops.toList aos=true) (hdc:d19 ops aos ls sa sb ph ktm kt=true)
  (hk:s17 P G aos ktm (fun X=>K {X with env:=X.trimE kt}) ls ph st) (h:Rel G C st a w) (hQ:∀st' a' w',K st'→Rel G C st' a' w'→Q .normal a' w'):(Code.region id ops true).wp P Q a w:=by
 obtain⟨hd,hph,hkt⟩:=do12 hdc;obtain⟨hlen,hget⟩:=cg_ hc;have none0:∀j,(Array.replicate ops.size false).getD j false=false:=fun j=>by rw[zL];simp only[uY];split <;> rfl
 have hphs:∀s,s≤ls.length→ph.drop s=(f21 aos sa s,l19 aos sa sb s)::ph.drop (s+1):=fun s hs=>by
  have hl:s<ph.length:=by rw[hph];simp;omega
  rw[yD hl];congr 1;simp [hph]
 have h0:=hphs 0 (by omega);rw[uU] at h0;rw[h0] at hk;obtain⟨X,hst,hh,hN,hun⟩:=so14 (s:=0) hd hk fs13 ls_;refine wp_region_any hm ?_
 refine s35 hd hlen hget (phs:=fun s=>ph.drop s) (fun s hs=>⟨_,_,hphs s hs,fs13,ls_⟩) (fun st' X' a' w' hK hh' hN' he hr=>?_) ops.size _ 0 X st a _ (by simp) (by simp) (fun i o ho hi=>by rw[none0] at hi;cases hi) (by omega) (fun m c hm=>by rw[none0];simp) (fun j x hx hq hj=>by rw[none0] at hj;cases hj)
  (by simpa using hst) ⟨hh.symm,hN.symm,fun t ht hall=>(hun t ht fun j x hx hq hsj hxt=>by have:=hall j x hx hxt hq (by omega);simp only[none0] at this;cases this).symm⟩ h.drew
 obtain⟨nm,F,hx⟩:=hr;refine hQ _ _ _ hK ?_;have hx2:=hx.trimEnv kt;refine Rel.env (st:={st' with env:=st'.trimE kt}) ⟨nm,F,hx2⟩ hN'.symm hh'.symm fun t=>?_;show eget (X'.trimE kt) t=eget (st'.trimE kt) t;exact ts10 (fun u hu=>he u (hkt u hu)) t
end
