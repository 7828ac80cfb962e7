/- Lemmas. -/
import Derived.Test.YtkgcnoghjibiaaaGreatDoorYAbAny
set_option linter.unusedSimpArgs false
namespace Go.Proofs.YtkgcnoghjibiaaaGreatDoor.Ab
open Go Go.RowKit
def selC (aos:List AO):List Nat->List AO
 | []=>[]
 | i::is=>match aos[i]? with | some x=>x::selC aos is | none=>selC aos is
def a18 (X X':St):List Nat->Prop
 | []=>True
 | t::ts=>eget X'.env t=eget X.env t∧a18 X X' ts
theorem aa16 {X X':St}:∀{ts:List Nat},a18 X X' ts->∀t∈ts,eget X'.env t=eget X.env t
 | [],_,t,h=>by cases h
 | u::ts,h,t,ht=>by
  rcases yV.1 ht with rfl | ht
  .exact h.1
  .exact aa16 h.2 t ht
def l21:AOp->Bool
 | .nilrow .. | .alloc .. | .box .. | .mkrow .. | .store .. | .app .. | .mks .. =>true
 | _ =>false
def l15:AOp->List Nat
 | .box _ _ x=>l12 x
 | .mkrow _ _ _ _ ps=>(ps.map (·.2)).flatMap l12
 | .store p x _ =>l12 p++l12 x
 | .app _ _ _ x y=>l12 x++l12 y
 | .mks _ _ _ _ x y=>l12 x++l12 y
 | op=>l13 op
def AO.looksC (o:AO):List Nat:=l15 o.op++(match o.g with | some (t,_)=>[t] | none=>[])
theorem lq_ {o:AO} (h:q10 o.op=true):o.looksC=o.looks:=by unfold AO.looksC AO.looks;congr 1;generalize o.op=op at*;cases op <;> first | rfl | (simp [q10] at h)
section
variable {G:Nat->Option AV} {st st' st1:St}
structure Uni (d:Option Nat) (st st' st1 st1':St):Prop where
 heap:st1'.heap=st1.heap
 N:st1'.N=st1.N
 N0:st1.N=st.N
 env:∃T:AV->AV,(∀t,d≠some t->eget st1.env t=T (eget st.env t)∧eget st1'.env t=T (eget st'.env t))∧∀t,d=some t->eget st1'.env t=eget st1.env t
theorem nu_ {d:Option Nat} {b:Box} {v:AV} (hh:st'.heap=st.heap) (hN:st'.N=st.N) (h:st.new d b v=some st1):∃st1',st'.new d b v=some st1'∧Uni d st st' st1 st1':=by
 unfold St.new at h ⊢;split at h
 .cases h
 .rename_i d;split at h
  .rename_i hd;cases h
   try simp only
   rw[zY (by rw[hN];exact hd)];refine⟨_,rfl,⟨by simp only[hh],hN,rfl,purge d,λt ht=>?_,λt ht=>?_⟩⟩
   .have hne:¬d=t:=λe=>ht (by rw[e]);simp only[eget,zK hne,ep_,and_self]
   .cases ht;simp [eget]
  .cases h
theorem tu_:∀(rows:List Nat) {st st':St},st'.heap=st.heap->st'.N=st.N->(st'.thaws rows).heap=(st.thaws rows).heap∧(st'.thaws rows).N=(st.thaws rows).N∧(st.thaws rows).N=st.N∧
  ∃T:AV->AV,∀t,eget (st.thaws rows).env t=T (eget st.env t)∧eget (st'.thaws rows).env t=T (eget st'.env t)
 | [],st,st',hh,hN=>⟨hh,hN,rfl,id,λt=>⟨rfl,rfl⟩⟩
 | i::is,st,st',hh,hN=>by
  simp only[St.thaws];cases hi:hget st.heap i with
  | none=>
   have e1:st.thaw1 i=st:=by simp [St.thaw1,hi]
   have e2:st'.thaw1 i=st':=by simp [St.thaw1,hh,hi]
   rw[e1,e2];exact tu_ is hh hN
  | some b=>
   have e1:st.thaw1 i={st with env:=t38 i b st.env,heap:=t37 i b st.heap}:=by simp [St.thaw1,hi]
   have e2:st'.thaw1 i={st' with env:=t38 i b st'.env,heap:=t37 i b st'.heap}:=by simp [St.thaw1,hh,hi]
   rw[e1,e2];obtain⟨h1,h2,h3,T,hT⟩:=tu_ is (st:={st with env:=t38 i b st.env,heap:=t37 i b st.heap}) (st':={st' with env:=t38 i b st'.env,heap:=t37 i b st'.heap}) (by simp only[hh]) hN;refine⟨h1,h2,h3,λv=>T (thaw i b v),λt=>?_⟩;have:=hT t;simp only[et14] at this;exact this
theorem pu_ {d:Option Nat} {v:AV} {a b st1:St} (hh:b.heap=a.heap) (hN:b.N=a.N) (N0:a.N=st.N) (T:AV->AV) (hT:∀t,eget a.env t=T (eget st.env t)∧eget b.env t=T (eget st'.env t)) (h:a.put d v=some st1):
  ∃st1',b.put d v=some st1'∧Uni d st st' st1 st1':=by
 unfold St.put at h ⊢;split at h
 .cases h;exact⟨_,rfl,⟨hh,hN,N0,T,λt _ =>hT t,λt ht=>by cases ht⟩⟩
 .rename_i d;split at h
  .rename_i hd;cases h
   try simp only
   rw[zY (by rw[hN];exact hd)];refine⟨_,rfl,⟨hh,hN,N0,T,λt ht=>?_,λt ht=>?_⟩⟩
   .have hne:¬d=t:=λe=>ht (by rw[e]);simp only[eget,zK hne];exact hT t
   .cases ht;simp [eget]
  .cases h
theorem pu10 {d:Option Nat} {v:AV} (hh:st'.heap=st.heap) (hN:st'.N=st.N) (h:st.put d v=some st1):∃st1',st'.put d v=some st1'∧Uni d st st' st1 st1':=
 pu_ hh hN rfl id (λ_ =>⟨rfl,rfl⟩) h
theorem au_ {d:Option Nat} {ty sz bytes:Nat} {x y:AV} (hh:st'.heap=st.heap) (hN:st'.N=st.N) (h:aapp st d ty sz bytes x y=some st1):∃st1',aapp st' d ty sz bytes x y=some st1'∧Uni d st st' st1 st1':=by
 unfold aapp at h ⊢;rw[hh];split at h
 .split at h
  .split at h
   .split at h
    .rename_i hb
     try simp only at h ⊢
     rw[zY hb];exact nu_ hh hN h
    .cases h
   .cases h
  .cases h
 .rename_i i n;split at h
  .rename_i d b es hb hes;split at h
   .rename_i hc;cases h;rw[zY (by rw[hN];exact hc)];refine⟨_,rfl,⟨rfl,hN,rfl,purge i,λt ht=>?_,λt ht=>?_⟩⟩
    .have hne:¬d=t:=λe=>ht (by rw[e]);simp only[eget,zK hne,ep_,and_self]
    .cases ht;simp [eget]
   .cases h
  .cases h
 .split at h
  .split at h
   .rename_i hb
    try simp only at h ⊢
    rw[zY hb];exact pu10 hh hN h
   .cases h
  .cases h
 .cases h
theorem lu10 {op:AOp} (hu:l21 op=true) {d:Option Nat} (hs:i12 op=true->d=none) (hh:st'.heap=st.heap) (hN:st'.N=st.N) (hl:∀t∈l15 op,eget st'.env t=eget st.env t) (h:e12 G d op st=some st1):
  ∃st1',e12 G d op st'=some st1'∧Uni d st st' st1 st1':=by
 cases op <;> simp only[l21,zF] at hu
 case nilrow ty sz=>
  simp only[e12] at h ⊢;split at h
  .exact nu_ hh hN h
  .cases h
 case alloc ty sz z=>
  simp only[e12] at h ⊢;split at h
  .exact nu_ hh hN h
  .cases h
 case box ty sz x=>
  simp only[l15] at hl;simp only[e12] at h ⊢;rw[ec_ hl];split at h
  .split at h
   .rename_i hf
    try simp only
    rw[zY hf];exact nu_ hh hN h
   .cases h
  .cases h
 case mkrow ty sz n z ps=>
  simp only[l15] at hl;simp only[e12] at h ⊢;rw[ec10 hl,hh];split at h
  .rename_i d;split at h
   .split at h
    .exact nu_ hh hN h
    .cases h
   .split at h
    .split at h
     .split at h
      .rename_i hb
       try simp only
       rw[zY hb];exact pu10 hh hN h
      .cases h
     .cases h
    .cases h
   split at h
   .rename_i vs hvs;split at h
    .rename_i es hes
     try simp only
     obtain⟨t1,t2,t3,T,hT⟩:=tu_ (r11 (evs G st (ps.map (·.2)))) hh hN;obtain⟨st1',h1,h2⟩:=nu_ t1 t2 h;refine⟨st1',h1,⟨h2.heap,h2.N,h2.N0.trans t3,?_⟩⟩;obtain⟨T2,hT2,hd⟩:=h2.env;refine⟨λv=>T2 (T v),λt ht=>?_,hd⟩;obtain⟨a1,a2⟩:=hT2 t ht;rw[(hT t).1] at a1;rw[(hT t).2] at a2;exact⟨a1,a2⟩
    .cases h
   .cases h
  .cases h
 case store p x n=>
  obtain rfl:=hs rfl;simp only[l15,yB] at hl;simp only[e12] at h ⊢;rw[ec_ λt ht=>hl t (.inl ht),ec_ λt ht=>hl t (.inr ht)];have h2:=ae10 hh h;have hst1:st1.env=st.env∧st1.N=st.N:=by
   unfold a23 at h
   repeat' (split at h)
   all_goals first | (cases h;done) | (cases h;exact⟨rfl,rfl⟩)
  exact⟨_,h2,⟨rfl,hN.trans hst1.2.symm,hst1.2,id,λt _ =>⟨by rw[hst1.1];rfl,rfl⟩,λt ht=>by cases ht⟩⟩
 case app ty sz bytes x y=>
  simp only[l15,yB] at hl;simp only[e12] at h ⊢;rw[ec_ (x:=x) λt ht=>hl t (.inl ht),ec_ (x:=y) λt ht=>hl t (.inr ht)];exact au_ hh hN h
 case mks ty sz bytes z x y=>
  simp only[l15,yB] at hl;simp only[e12] at h ⊢;rw[ec_ (x:=x) λt ht=>hl t (.inl ht),ec_ (x:=y) λt ht=>hl t (.inr ht)];unfold amks at h ⊢;split at h
  .split at h
   .rename_i hc
    try simp only
    rw[zY hc];exact nu_ hh hN h
   .cases h
  .cases h
end
section
variable (P:Program) (G:Nat->Option AV)
def s34 (aos:List AO) (ktm:List Nat) (K:St->Prop):List Nat->List (List Nat×List Nat)->St->Prop
 | [],(f,l)::_,st=>opsP P G true (selC aos f) st λX0=>opsP P G true (selC aos l) {X0 with env:=X0.trimE ktm} λX1=>
     a18 {X0 with env:=X0.trimE ktm} {X1 with env:=X1.trimE ktm} (d16 (selC aos l))∧K {X0 with env:=X0.trimE ktm}
 | c::ls,(f,l)::r,st=>opsP P G true (selC aos f) st λX0=>opsP P G true (selC aos l) {X0 with env:=X0.trimE ktm} λX1=>
    a18 {X0 with env:=X0.trimE ktm} {X1 with env:=X1.trimE ktm} (d16 (selC aos l))∧∃d op Y,aos[c]?=some ⟨d,op,none⟩∧e12 G d op {X0 with env:=X0.trimE ktm}=some Y∧s34 aos ktm K ls r Y
 | _,[],_ =>False
end
def q12 (aos:List AO) (j:Nat):Bool:=match aos[j]? with | some x=>q10 x.op | none=>false
section
variable {P:Program} {G:Nat->Option AV} {ops:Array Oper} {aos:List AO} {ls ktm:List Nat} {sa sb:Nat->Nat} {K:St->Prop}
theorem ts11 {X st:St}:∀{kt:List Nat},(∀t∈kt,eget st.env t=eget X.env t)->∀t,eget (X.trimE kt) t=eget (st.trimE kt) t
 | [],_,_ =>rfl
 | u::kt,he,t=>by
  simp only[St.trimE,eget];split
  .exact (he u (by simp)).symm
  .exact ts11 (λt ht=>he t (by simp [ht])) t
end
