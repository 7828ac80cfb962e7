/-
  What a call does to a state, where rows and variables are handed over. No claim is proved here.
-/
import Derived.Test.YtkejmcgngblfnaaGreatDoorYAbHeap
namespace Go.Proofs.YtkejmcgngblfnaaGreatDoor.Ab
open Go Go.RowKit
def memb:List Nat→Nat→Bool
 | [],_ =>false
 | a::r,i=>if a=i then true else memb r i
def n11:List Nat→Bool
 | []=>true
 | a::r=>!memb r a&&n11 r
def l18:List (Nat×Nat)→Nat→Option Nat
 | [],_ =>none
 | (a,b)::r,j=>if b=j then some a else l18 r j
def ours:List (Nat×Nat)→List Nat
 | []=>[]
 | (_,b)::r=>b::ours r
def t10:List (Nat×Nat)→List Nat
 | []=>[]
 | (a,_)::r=>a::t10 r
def i14 (H:List (Nat×Box)) (i:Nat):Bool:=match hget H i with | some b=>!b.row | none=>false
def r_ (H:List (Nat×Box)):List (Nat×Nat)→List Nat
 | []=>[]
 | (i,j)::r=>if i14 H i then r_ H r else j::r_ H r
def purges:List Nat→AV→AV
 | [],v=>v
 | i::is,v=>purge i (purges is v)
def p13:List Nat→List (Nat×AV)→List (Nat×AV)
 | [],E=>E
 | i::is,E=>p_ i (p13 is E)
def p11:List Nat→Box→Box
 | [],b=>b
 | i::is,b=>p10 i (p11 is b)
def r17 (R A:List Nat):List (Nat×Box)→List (Nat×Box)
 | []=>[]
 | (j,b)::r=>if memb A j then r17 R A r else (j,p11 R b)::r17 R A r
def t16 (I:List (Nat×Nat)):List (Nat×Box)→Option (List (Nat×Box))
 | []=>some []
 | (i,b)::r=>match look I i,renB I b,t16 I r with
  | some j,some b2,some r2=>some ((j,b2)::r2)
  | _,_,_ =>none
def G_ (I:List (Nat×Nat)) (heap:List (Nat×Box)):List (Nat×Box)→Prop
 | []=>True
 | (i,b)::r=>(∃j b2,look I i=some j∧renB I b=some b2∧hget heap j=some b2)∧G_ I heap r
def n14 (N:Nat) (H:List (Nat×Box)):List (Nat×Nat)→Bool
 | []=>true
 | (i,j)::r=>((hget H i).isSome||decide (j<N))&&n14 N H r
def a13 (st:St) (I:List (Nat×Nat)) (H H2:List (Nat×Box)):St:=⟨st.N,p13 (r_ H I) st.env,happ H2 (r17 (r_ H I) (ours I) st.heap)⟩
theorem mm10 {l:List Nat} {i:Nat}:memb l i=true↔i∈l:=by
 induction l with
 | nil=>simp [memb]
 | cons a r ih=>
  simp only[memb,List.mem_cons]
  split
  ·rename_i h;simp [h]
  ·rename_i h;rw[ih];exact⟨fun x=>.inr x,fun x=>x.elim (fun e=>absurd e.symm h) id⟩
theorem nn_ {l:List Nat} (h:n11 l=true):l.Nodup:=by
 induction l with
 | nil=>exact List.nodup_nil
 | cons a r ih=>
  simp only[n11,Bool.and_eq_true,Bool.not_eq_true'] at h
  exact List.nodup_cons.2 ⟨fun hm=>by rw[mm10.2 hm] at h;simp at h,ih h.2⟩
theorem lm10 {I:List (Nat×Nat)} {i j:Nat} (h:look I i=some j):j∈ours I∧i∈t10 I:=by
 induction I with
 | nil=>simp [look] at h
 | cons x r ih=>
  obtain⟨a,b⟩:=x
  simp only[look] at h
  split at h
  ·rename_i e;simp only[Option.some.injEq] at h;subst e;subst h;simp [ours,t10]
  ·simp only[ours,t10,List.mem_cons];exact⟨.inr (ih h).1,.inr (ih h).2⟩
theorem lol_ {I:List (Nat×Nat)} (h2:(ours I).Nodup) {i j:Nat} (h:look I i=some j):l18 I j=some i:=by
 induction I with
 | nil=>simp [look] at h
 | cons x r ih=>
  obtain⟨a,b⟩:=x
  simp only[ours,List.nodup_cons] at h2
  simp only[look] at h
  simp only[l18]
  split at h
  ·rename_i e;simp only[Option.some.injEq] at h;subst e;subst h;simp
  ·rw[if_neg (fun (e:b=j)=>h2.1 (e ▸ (lm10 h).1))];exact ih h2.2 h
theorem lo10 {I:List (Nat×Nat)} (h1:(t10 I).Nodup) {i j:Nat} (h:l18 I j=some i):look I i=some j:=by
 have mem:∀{I:List (Nat×Nat)},l18 I j=some i→i∈t10 I:=by
  intro I
  induction I with
  | nil=>intro h;simp [l18] at h
  | cons x r ih=>
   obtain⟨a,b⟩:=x
   intro h
   simp only[l18] at h
   split at h
   ·simp only[Option.some.injEq] at h;subst h;simp [t10]
   ·simp only[t10,List.mem_cons];exact .inr (ih h)
 induction I with
 | nil=>simp [l18] at h
 | cons x r ih=>
  obtain⟨a,b⟩:=x
  simp only[t10,List.nodup_cons] at h1
  simp only[l18] at h
  simp only[look]
  split at h
  ·rename_i e;simp only[Option.some.injEq] at h;subst e;subst h;simp
  ·rw[if_neg (fun (e:a=i)=>h1.1 (e ▸ mem h))];exact ih h1.2 h
theorem li10 {I:List (Nat×Nat)} (h2:(ours I).Nodup) {i i' j:Nat} (h:look I i=some j) (h':look I i'=some j):i=i':=by
 have e1:=lol_ h2 h
 have e2:=lol_ h2 h'
 rw[e1] at e2
 exact Option.some.inj e2
theorem rm_ {H:List (Nat×Box)} {I:List (Nat×Nat)} {j:Nat} (h:j∈r_ H I):j∈ours I:=by
 induction I with
 | nil=>simp [r_] at h
 | cons x r ih=>
  obtain⟨a,b⟩:=x
  simp only[r_] at h
  simp only[ours,List.mem_cons]
  split at h
  ·exact .inr (ih h)
  ·rcases List.mem_cons.1 h with h | h
   ·exact .inl h
   ·exact .inr (ih h)
theorem ro_ {H:List (Nat×Box)} {I:List (Nat×Nat)} {i j:Nat} (h:look I i=some j) (hv:i14 H i=false):j∈r_ H I:=by
 induction I with
 | nil=>simp [look] at h
 | cons x r ih=>
  obtain⟨a,b⟩:=x
  simp only[look] at h
  simp only[r_]
  split at h
  ·rename_i e;subst e;simp only[Option.some.injEq] at h;subst h;rw[if_neg (by simp [hv])];simp
  ·split
   ·exact ih h
   ·exact List.mem_cons_of_mem _ (ih h)
theorem G_.at_ {I:List (Nat×Nat)} {heap H:List (Nat×Box)} (h:G_ I heap H) {i:Nat} {b:Box} (hi:hget H i=some b):∃j b2,look I i=some j∧renB I b=some b2∧hget heap j=some b2:=by
 induction H with
 | nil=>simp [hget] at hi
 | cons x r ih=>
  obtain⟨k,c⟩:=x
  simp only[hget] at hi
  split at hi
  ·rename_i e;simp only[Option.some.injEq] at hi;subst e;subst hi;exact h.1
  ·exact ih h.2 hi
theorem na_ {N:Nat} {H:List (Nat×Box)} {I:List (Nat×Nat)} (h:n14 N H I=true) {i j:Nat} (hi:look I i=some j) (hn:hget H i=none):j<N:=by
 induction I with
 | nil=>simp [look] at hi
 | cons x r ih=>
  obtain⟨a,b⟩:=x
  simp only[n14,Bool.and_eq_true,Bool.or_eq_true,decide_eq_true_eq] at h
  simp only[look] at hi
  split at hi
  ·rename_i e;simp only[Option.some.injEq] at hi;subst e;subst hi
   rcases h.1 with h1 | h1
   ·rw[hn] at h1;cases h1
   ·exact h1
  ·exact ih h.2 hi
theorem ta15 {I:List (Nat×Nat)} {H H2:List (Nat×Box)} (h:t16 I H=some H2) {j:Nat} {b2:Box} (hj:hget H2 j=some b2):∃i b,look I i=some j∧hget H i=some b∧renB I b=some b2:=by
 induction H generalizing H2 with
 | nil=>simp only[t16,Option.some.injEq] at h;subst h;simp [hget] at hj
 | cons x r ih=>
  obtain⟨k,c⟩:=x
  simp only[t16] at h
  split at h
  ·rename_i j' b' r2 e1 e2 e3
   simp only[Option.some.injEq] at h
   subst h
   simp only[hget] at hj
   split at hj
   ·rename_i e;simp only[Option.some.injEq] at hj;subst e;subst hj;exact⟨k,c,e1,by simp [hget],e2⟩
   ·rename_i hne
    obtain⟨i,b,g1,g2,g3⟩:=ih e3 hj
    refine⟨i,b,g1,?_,g3⟩
    simp only[hget]
    rw[if_neg (fun e=>by subst e;rw[e1] at g1;exact hne (Option.some.inj g1))]
    exact g2
  ·cases h
theorem pr_ (R:List Nat) (b:Box):(p11 R b).row=b.row:=by
 induction R with
 | nil=>rfl
 | cons i is ih=>simp only[p11,p10];split <;> simp_all
theorem pn_ (R:List Nat) (b:Box) (h:b.row=true):(p11 R b)=b:=by
 induction R with
 | nil=>rfl
 | cons i is ih=>simp only[p11,p10,ih,h,if_true]
theorem hr_ (R A:List Nat) (H:List (Nat×Box)) (j:Nat) {b:Box} (h:hget (r17 R A H) j=some b):memb A j=false∧∃c,hget H j=some c∧b=p11 R c:=by
 induction H with
 | nil=>simp [r17,hget] at h
 | cons x r ih=>
  obtain⟨k,c⟩:=x
  simp only[r17] at h
  split at h
  ·rename_i hk
   obtain⟨h1,c',h2,h3⟩:=ih h
   refine⟨h1,c',?_,h3⟩
   simp only[hget]
   rw[if_neg (fun e=>by subst e;rw[hk] at h1;cases h1)]
   exact h2
  ·rename_i hk
   simp only[hget] at h ⊢
   split at h
   ·rename_i e;subst e;simp only[Option.some.injEq] at h;exact⟨by simpa using hk,c,by simp,h.symm⟩
   ·rename_i e;rw[if_neg e];exact ih h
theorem ep10 (R:List Nat) (E:List (Nat×AV)) (t:Nat):eget (p13 R E) t=purges R (eget E t):=by
 induction R with
 | nil=>rfl
 | cons i is ih=>simp only[p13,purges,ep_,ih]
section
variable {P:Program} {G:Nat→Option AV} {C:Ctx} {nm nm':N_} {F F':Nat→Prop} {st:St} {a:Act} {w:World}
theorem Rd.purges {c:AV} {v:Value}:∀(R:List Nat) {nm nm':N_},Rd w F nm c v→(∀j,j∉R→nm' j=nm j)→Rd w F nm' (Ab.purges R c) v
 | [],nm,nm',h,hn=>by
  have:nm'=nm:=funext fun j=>hn j (by simp)
  rw[this];exact h
 | i::is,nm,nm',h,hn=>by
  have h1:=Rd.purges is (nm':=fun j=>if j=i then nm j else nm' j) h (fun j hj=>by
   by_cases e:j=i
   ·simp [e]
   ·simp only[e,if_false];exact hn j (by simp [e,hj]))
  exact h1.purge (i:=i) fun j hj=>by simp [hj]
theorem Lies.purges {m:Nm} {b:Box}:∀(R:List Nat) {nm nm':N_},Lies w F nm m b→(∀j,j∉R→nm' j=nm j)→Lies w F nm' m (p11 R b)
 | [],nm,nm',h,hn=>by
  have:nm'=nm:=funext fun j=>hn j (by simp)
  rw[this];exact h
 | i::is,nm,nm',h,hn=>by
  have h1:=Lies.purges is (nm':=fun j=>if j=i then nm j else nm' j) h (fun j hj=>by
   by_cases e:j=i
   ·simp [e]
   ·simp only[e,if_false];exact hn j (by simp [e,hj]))
  exact h1.purge (i:=i) fun j hj=>by simp [hj]
theorem cs19 (h:RelX G C nm F st a w) {f:Nat} {args args1 args':List AV} {us:List Value} (hl:args.length=us.length) (hrd:∀(j:Nat) c u,args[j]? =some c→us[j]? =some u→Rd w F nm c u)
  {I:List (Nat×Nat)} {H H' H2:List (Nat×Box)} {r r2:AV} (hfit:FitL args args1) (hargs:renO.go I args'=some args1) (hgive:G_ I st.heap H) (hd1:n11 (ours I)=true) (hd2:n11 (t10 I)=true) (hnew:n14 st.N H I=true)
  (hc:H_ P G f args' H r H') (hr:renO I r=some r2) (htake:t16 I H'=some H2) {d:Option Nat} {st':St} (hp:(a13 st I H H2).put d r2=some st'):
  Calls P f us.toArray w fun e w'=>∃v,e= .returned v∧Rel G C st' (a.put d v) w':=by
 have n1:=nn_ hd1
 have n2:=nn_ hd2
 let nI:N_:=fun i=>match look I i with | some j=>nm j | none=>none
 have hI:∀i j,look I i=some j→nI i=nm j:=fun i j e=>by simp only[nI,e]
 obtain⟨hfl,hfa⟩:=hfit.at_
 have hA:us.toArray.size=args'.length∧∀(j:Nat) c u,args'[j]? =some c→us.toArray[j]? =some u→Rd w F nI c u:=by
  obtain⟨e1,e2⟩:=renO.go_at hargs
  refine⟨by simp;omega,fun j c u hc hu=>?_⟩
  obtain⟨x,hx,hx'⟩:=e2 j c hc
  have hj:j<args.length:=by rw[hfl];exact (List.getElem?_eq_some_iff.1 hx').1
  have hjc:=List.getElem?_eq_getElem hj
  exact ((hrd j _ u hjc (by simpa using hu)).fit (hfa j _ x hjc hx')).unren hI hx
 have hB:HB w F nI H:=by
  refine⟨fun i b hi=>?_,fun i j b c m m' hi hj hm hm' hg=>?_,fun i b m hi hm=>?_⟩
  ·obtain⟨j,b2,e1,e2,e3⟩:=hgive.at_ hi
   obtain⟨q1,q2,q3,q4,q5,q6⟩:=rs10 e2
   rcases h.box j b2 e3 with ⟨g1,g2,g3,g4⟩ | ⟨m,g1,g2⟩
   ·left
    refine⟨by rw[hI i j e1];exact g1,List.eq_nil_of_length_eq_zero (by rw[q4,g2];rfl),by rw[←q1];exact g3,by rw[←q3];exact g4⟩
   ·exact .inr ⟨m,by rw[hI i j e1];exact g1,g2.unren hI e2⟩
  ·obtain⟨j1,b1,e1,_,e3⟩:=hgive.at_ hi
   obtain⟨j2,b2,e4,_,e6⟩:=hgive.at_ hj
   rw[hI _ _ e1] at hm
   rw[hI _ _ e4] at hm'
   obtain rfl:=h.inj j1 j2 b1 b2 m m' e3 e6 hm hm' hg
   exact li10 n1 e1 e4
  ·obtain⟨j1,b1,e1,_,e3⟩:=hgive.at_ hi
   rw[hI _ _ e1] at hm
   exact h.fr j1 b1 m e3 hm
 have ownI:∀k,Own nI H k→∃j b m,hget st.heap j=some b∧nm j=some m∧m.g=k∧j∈ours I:=by
  rintro k ⟨i,b,m,hi,hm,rfl⟩
  obtain⟨j,b2,e1,_,e3⟩:=hgive.at_ hi
  exact⟨j,b2,m,e3,by rw[←hI i j e1];exact hm,rfl,(lm10 e1).1⟩
 refine (hc w F nI us.toArray h.good hA hB).mono ?_
 rintro e w' ⟨v,F',nm',rfl,hF,hF',hFs,hrv,hB',hvar,hown,⟨hos,htape,hout,hsz⟩,hblk⟩
 refine⟨v,rfl,?_⟩
 let n2m:N_:=fun j=>match l18 I j with | some i=>nm' i | none=>nm j
 have hN1:∀i j,look I i=some j→n2m j=nm' i:=fun i j e=>by simp only[n2m,lol_ n1 e]
 have hN2:∀j,j∉r_ H I→n2m j=nm j:=fun j hj=>by
  simp only[n2m]
  cases hlr:l18 I j with
  | none=>rfl
  | some i=>
   have hlk:=lo10 n2 hlr
   cases hv:i14 H i with
   | false=>exact absurd (ro_ hlk hv) hj
   | true=>
    unfold i14 at hv
    split at hv
    ·rename_i b hb
     simp only[(hvar i b hb (by simpa using hv)).1,hI i j hlk]
    ·cases hv
 have notOwn:∀j b m,hget st.heap j=some b→nm j=some m→j∉ours I→¬Own nI H m.g:=by
  rintro j b m hj hm hni hO
  obtain⟨j',b',m',g1,g2,g3,g4⟩:=ownI _ hO
  exact hni (h.inj j j' b b' m m' hj g1 hm g2 g3.symm ▸ g4)
 have hFw:∀k,F k→w'.heap[k]? =w.heap[k]? :=fun k hk=>hblk k (h.good.1 k hk) fun hO=>by
  obtain⟨j',b',m',g1,g2,g3,g4⟩:=ownI _ hO
  exact h.fr j' b' m' g1 g2 (g3 ▸ hk)
 have hk:Kept C w':=⟨hos.trans h.keep.os,htape.trans h.keep.tape,hout.trans h.keep.output,Nat.le_trans h.keep.size hsz,fun b hb hL=>by
  rw[hblk b (Nat.lt_of_lt_of_le hb h.keep.size) (fun hO=>by
   obtain⟨j',b',m',g1,g2,g3,g4⟩:=ownI _ hO
   rcases h.own j' b' m' g1 g2 with g5 | g5
   ·omega
   ·exact hL (g3 ▸ g5))]
  exact h.keep.block b hb hL⟩
 -- the rows and variables b11 the call
 have get:∀j b,hget (a13 st I H H2).heap j=some b→(∃i b0,look I i=some j∧hget H' i=some b0∧renB I b0=some b)∨(j∉ours I∧∃c,hget st.heap j=some c∧b=p11 (r_ H I) c):=by
  intro j b hj
  simp only[a13,hh10] at hj
  split at hj
  ·rename_i c hcj
   simp only[Option.some.injEq] at hj
   subst hj
   exact .inl (ta15 htake hcj)
  ·obtain⟨g1,c,g2,g3⟩:=hr_ _ _ _ _ hj
   exact .inr ⟨fun hm=>(by rw[mm10.2 hm] at g1;cases g1),c,g2,g3⟩
 have blk:∀j c m1,j∉ours I→hget st.heap j=some c→nm j=some m1→w'.heap[m1.g]? =w.heap[m1.g]? :=fun j c m1 hj hc hm=>hblk _ (h.lt hc hm) (notOwn j c m1 hc hm hj)
 have outside:∀j,j∉ours I→n2m j=nm j:=fun j hj=>hN2 j fun hm=>hj (rm_ hm)
 have theirsOwn:∀i j b0 m,look I i=some j→hget H' i=some b0→n2m j=some m→w.heap.size≤m.g∨∃j' b' m',hget st.heap j'=some b'∧nm j'=some m'∧m'.g=m.g∧j'∈ours I:=fun i j b0 m e1 e2 hm=>by
  rw[hN1 i j e1] at hm
  rcases hown m.g ⟨i,b0,m,e2,hm,rfl⟩ with g | g
  ·exact .inl g
  ·exact .inr (ownI _ g)
 have key:RelX G C n2m F' (a13 st I H H2) a w':=by
  refine⟨h.N,h.df,fun t=>?_,fun j b hj=>?_,fun j j' b b' m m' hj hj' hm hm' hg=>?_,fun j b m hj hm hf=>?_,fun j b m hj hm=>?_,h.good.mono hFw hF hFs,fun b hb=>hF b (h.f0 b hb),fun b hb=>?_,hk,fun j hj=>?_⟩
  ·simp only[St.get,a13,ep10]
   exact ((h.env t).mono hFw hF).purges _ hN2
  ·rcases get j b hj with ⟨i,b0,e1,e2,e3⟩ | ⟨hni,c,e1,rfl⟩
   ·obtain⟨q1,q2,q3,q4,q5,q6⟩:=rs10 e3
    rcases hB'.box i b0 e2 with ⟨g1,g2,g3,g4⟩ | ⟨m,g1,g2⟩
    ·left
     exact⟨by rw[hN1 i j e1];exact g1,List.eq_nil_of_length_eq_zero (by rw[←q4,g2];rfl),by rw[q1];exact g3,by rw[q3];exact g4⟩
    ·exact .inr ⟨m,by rw[hN1 i j e1];exact g1,g2.ren hN1 e3⟩
   ·rcases h.box j c e1 with ⟨g1,g2,g3,g4⟩ | ⟨m,g1,g2⟩
    ·left
     rw[pn_ _ _ g3]
     exact⟨by rw[outside j hni];exact g1,g2,g3,g4⟩
    ·exact .inr ⟨m,by rw[outside j hni];exact g1,(g2.mono (blk j c m hni e1 g1) hFw hF).purges _ hN2⟩
  ·rcases get j b hj with ⟨i,b0,e1,e2,e3⟩ | ⟨hni,c,e1,rfl⟩ <;> rcases get j' b' hj' with ⟨i',b0',e1',e2',e3'⟩ | ⟨hni',c',e1',rfl⟩
   ·rw[hN1 i j e1] at hm
    rw[hN1 i' j' e1'] at hm'
    obtain rfl:=hB'.inj i i' b0 b0' m m' e2 e2' hm hm' hg
    rw[e1] at e1'
    exact Option.some.inj e1'
   ·exfalso
    rw[outside j' hni'] at hm'
    rcases theirsOwn i j b0 m e1 e2 hm with g | ⟨j2,b2,m2,g1,g2,g3,g4⟩
    ·have:=h.lt e1' hm';omega
    ·exact hni' (h.inj j2 j' b2 c' m2 m' g1 e1' g2 hm' (by omega) ▸ g4)
   ·exfalso
    rw[outside j hni] at hm
    rcases theirsOwn i' j' b0' m' e1' e2' hm' with g | ⟨j2,b2,m2,g1,g2,g3,g4⟩
    ·have:=h.lt e1 hm;omega
    ·exact hni (h.inj j2 j b2 c m2 m g1 e1 g2 hm (by omega) ▸ g4)
   ·rw[outside j hni] at hm
    rw[outside j' hni'] at hm'
    exact h.inj j j' c c' m m' e1 e1' hm hm' hg
  ·rcases get j b hj with ⟨i,b0,e1,e2,e3⟩ | ⟨hni,c,e1,rfl⟩
   ·rw[hN1 i j e1] at hm
    exact hB'.fr i b0 m e2 hm hf
   ·rw[outside j hni] at hm
    rcases hF' _ hf with g | g | g
    ·exact h.fr j c m e1 hm g
    ·have:=h.lt e1 hm;omega
    ·exact notOwn j c m e1 hm hni g
  ·rcases get j b hj with ⟨i,b0,e1,e2,e3⟩ | ⟨hni,c,e1,rfl⟩
   ·rcases theirsOwn i j b0 m e1 e2 hm with g | ⟨j2,b2,m2,g1,g2,g3,g4⟩
    ·left;have:=h.keep.size;omega
    ·rw[←g3];exact h.own j2 b2 m2 g1 g2
   ·rw[outside j hni] at hm
    exact h.own j c m e1 hm
  ·rcases hF' b hb with g | g | g
   ·exact h.fb b g
   ·right;left;have:=h.keep.size;omega
   ·obtain⟨j',b',m',g1,g2,g3,g4⟩:=ownI _ g
    rw[←g3]
    exact .inr (h.own j' b' m' g1 g2)
  ·obtain⟨v1,v2,v3⟩:=h.vn j hj
   have notRow:j∉r_ H I→n2m j=C.n0 j:=fun hn=>by rw[hN2 j hn];exact v2
   refine⟨v1,?_,fun b hb=>?_⟩
   ·by_cases hj':l18 I j=none
    ·simp only[n2m,hj'];exact v2
    ·obtain⟨i,hi⟩:=Option.ne_none_iff_exists'.1 hj'
     have hlk:=lo10 n2 hi
     cases hH:hget H i with
     | none=>have:=na_ hnew hlk hH;omega
     | some b0=>
      obtain⟨j1,b1,e1,e2,e3⟩:=hgive.at_ hH
      rw[hlk] at e1
      cases e1
      have hrow:=v3 b1 e3
      rw[(rs10 e2).1] at hrow
      rw[hN1 i j hlk,(hvar i b0 hH hrow).1,hI i j hlk]
      exact v2
   ·rcases get j b hb with ⟨i,b0,e1,e2,e3⟩ | ⟨hni,c,e1,rfl⟩
    ·rw[(rs10 e3).1]
     cases hH:hget H i with
     | none=>have:=na_ hnew e1 hH;omega
     | some b1=>
      obtain⟨j1,b2,e4,e5,e6⟩:=hgive.at_ hH
      rw[e1] at e4
      cases e4
      have hrow:=v3 b2 e6
      rw[(rs10 e5).1] at hrow
      exact (hvar i b1 hH hrow).2 b0 e2
    ·rw[pr_];exact v3 c e1
 exact⟨n2m,F',key.put (hrv.ren hN1 hr) hp⟩
end
end Go.Proofs.YtkejmcgngblfnaaGreatDoor.Ab
