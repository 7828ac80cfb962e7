/-
  What a call does to a state, where rows and variables are handed over. Whether an operation of the model's code is the one that an abstract one says: reckoned by the kernel. No claim is proved here.
-/
import Derived.Test.YtjbcfpkibnhodaaGreatDoorQAbHeap
import Derived.Stop.IfaceNil
namespace Go.Proofs.YtjbcfpkibnhodaaGreatDoor.Ab
open Go Go.RowKit
def memb:List Nat→Nat→Bool
 | [],_ =>false
 | a::r,i=>if a=i then true else memb r i
def n16:List Nat→Bool
 | []=>true
 | a::r=>!memb r a&&n16 r
def l14:List (Nat×Nat)→Nat→Option Nat
 | [],_ =>none
 | (a,b)::r,j=>if b=j then some a else l14 r j
def ours:List (Nat×Nat)→List Nat
 | []=>[]
 | (_,b)::r=>b::ours r
def t15:List (Nat×Nat)→List Nat
 | []=>[]
 | (a,_)::r=>a::t15 r
def i18 (H:List (Nat×Box)) (i:Nat):Bool:=match hget H i with | some b=>!b.row | none=>false
def r_ (H:List (Nat×Box)):List (Nat×Nat)→List Nat
 | []=>[]
 | (i,j)::r=>if i18 H i then r_ H r else j::r_ H r
def purges:List Nat→AV→AV
 | [],v=>v
 | i::is,v=>purge i (purges is v)
def p13:List Nat→List (Nat×AV)→List (Nat×AV)
 | [],E=>E
 | i::is,E=>p_ i (p13 is E)
def p12:List Nat→Box→Box
 | [],b=>b
 | i::is,b=>p11 i (p12 is b)
def r20 (R A:List Nat):List (Nat×Box)→List (Nat×Box)
 | []=>[]
 | (j,b)::r=>if memb A j then r20 R A r else (j,p12 R b)::r20 R A r
def t26 (I:List (Nat×Nat)):List (Nat×Box)→Option (List (Nat×Box))
 | []=>some []
 | (i,b)::r=>match look I i,renB I b,t26 I r with
  | some j,some b2,some r2=>some ((j,b2)::r2)
  | _,_,_ =>none
def G_ (I:List (Nat×Nat)) (heap:List (Nat×Box)):List (Nat×Box)→Prop
 | []=>True
 | (i,b)::r=>(∃j b2,look I i=some j∧renB I b=some b2∧hget heap j=some b2)∧G_ I heap r
def n20 (N:Nat) (H:List (Nat×Box)):List (Nat×Nat)→Bool
 | []=>true
 | (i,j)::r=>((hget H i).isSome||decide (j<N))&&n20 N H r
def a19 (st:St) (I:List (Nat×Nat)) (H H2:List (Nat×Box)):St:=⟨st.N,p13 (r_ H I) st.env,happ H2 (r20 (r_ H I) (ours I) st.heap)⟩
theorem mm11 {l:List Nat} {i:Nat}:memb l i=true↔i∈l:=by
 induction l with
 | nil=>simp [memb]
 | cons a r ih=>
  simp only[memb,List.mem_cons]
  split
  ·rename_i h;simp [h]
  ·rename_i h;rw[ih];exact⟨fun x=>.inr x,fun x=>x.elim (fun e=>absurd e.symm h) id⟩
theorem nn_ {l:List Nat} (h:n16 l=true):l.Nodup:=by
 induction l with
 | nil=>exact List.nodup_nil
 | cons a r ih=>
  simp only[n16,Bool.and_eq_true,Bool.not_eq_true'] at h
  exact List.nodup_cons.2 ⟨fun hm=>by rw[mm11.2 hm] at h;simp at h,ih h.2⟩
theorem lm_ {I:List (Nat×Nat)} {i j:Nat} (h:look I i=some j):j∈ours I∧i∈t15 I:=by
 induction I with
 | nil=>simp [look] at h
 | cons x r ih=>
  obtain⟨a,b⟩:=x
  simp only[look] at h
  split at h
  ·rename_i e;simp only[Option.some.injEq] at h;subst e;subst h;simp [ours,t15]
  ·simp only[ours,t15,List.mem_cons];exact⟨.inr (ih h).1,.inr (ih h).2⟩
theorem lol_ {I:List (Nat×Nat)} (h2:(ours I).Nodup) {i j:Nat} (h:look I i=some j):l14 I j=some i:=by
 induction I with
 | nil=>simp [look] at h
 | cons x r ih=>
  obtain⟨a,b⟩:=x
  simp only[ours,List.nodup_cons] at h2
  simp only[look] at h
  simp only[l14]
  split at h
  ·rename_i e;simp only[Option.some.injEq] at h;subst e;subst h;simp
  ·rw[if_neg (fun (e:b=j)=>h2.1 (e ▸ (lm_ h).1))];exact ih h2.2 h
theorem lo10 {I:List (Nat×Nat)} (h1:(t15 I).Nodup) {i j:Nat} (h:l14 I j=some i):look I i=some j:=by
 have mem:∀{I:List (Nat×Nat)},l14 I j=some i→i∈t15 I:=by
  intro I
  induction I with
  | nil=>intro h;simp [l14] at h
  | cons x r ih=>
   obtain⟨a,b⟩:=x
   intro h
   simp only[l14] at h
   split at h
   ·simp only[Option.some.injEq] at h;subst h;simp [t15]
   ·simp only[t15,List.mem_cons];exact .inr (ih h)
 induction I with
 | nil=>simp [l14] at h
 | cons x r ih=>
  obtain⟨a,b⟩:=x
  simp only[t15,List.nodup_cons] at h1
  simp only[l14] at h
  simp only[look]
  split at h
  ·rename_i e;simp only[Option.some.injEq] at h;subst e;subst h;simp
  ·rw[if_neg (fun (e:a=i)=>h1.1 (e ▸ mem h))];exact ih h1.2 h
theorem li_ {I:List (Nat×Nat)} (h2:(ours I).Nodup) {i i' j:Nat} (h:look I i=some j) (h':look I i'=some j):i=i':=by
 have e1:=lol_ h2 h
 have e2:=lol_ h2 h'
 rw[e1] at e2
 exact Option.some.inj e2
theorem rm_ {H:List (Nat×Box)} {I:List (Nat×Nat)} {j:Nat} (h:j∈r_ H I):j∈ours I:=by
 induction I with
 | nil=>simp [r_] at h
 | cons x r ih=>
  obtain⟨a,b⟩:=x
  simp only[r_] at h
  simp only[ours,List.mem_cons]
  split at h
  ·exact .inr (ih h)
  ·rcases List.mem_cons.1 h with h | h
   ·exact .inl h
   ·exact .inr (ih h)
theorem ro_ {H:List (Nat×Box)} {I:List (Nat×Nat)} {i j:Nat} (h:look I i=some j) (hv:i18 H i=false):j∈r_ H I:=by
 induction I with
 | nil=>simp [look] at h
 | cons x r ih=>
  obtain⟨a,b⟩:=x
  simp only[look] at h
  simp only[r_]
  split at h
  ·rename_i e;subst e;simp only[Option.some.injEq] at h;subst h;rw[if_neg (by simp [hv])];simp
  ·split
   ·exact ih h
   ·exact List.mem_cons_of_mem _ (ih h)
theorem G_.at_ {I:List (Nat×Nat)} {heap H:List (Nat×Box)} (h:G_ I heap H) {i:Nat} {b:Box} (hi:hget H i=some b):∃j b2,look I i=some j∧renB I b=some b2∧hget heap j=some b2:=by
 induction H with
 | nil=>simp [hget] at hi
 | cons x r ih=>
  obtain⟨k,c⟩:=x
  simp only[hget] at hi
  split at hi
  ·rename_i e;simp only[Option.some.injEq] at hi;subst e;subst hi;exact h.1
  ·exact ih h.2 hi
theorem na10 {N:Nat} {H:List (Nat×Box)} {I:List (Nat×Nat)} (h:n20 N H I=true) {i j:Nat} (hi:look I i=some j) (hn:hget H i=none):j<N:=by
 induction I with
 | nil=>simp [look] at hi
 | cons x r ih=>
  obtain⟨a,b⟩:=x
  simp only[n20,Bool.and_eq_true,Bool.or_eq_true,decide_eq_true_eq] at h
  simp only[look] at hi
  split at hi
  ·rename_i e;simp only[Option.some.injEq] at hi;subst e;subst hi
   rcases h.1 with h1 | h1
   ·rw[hn] at h1;cases h1
   ·exact h1
  ·exact ih h.2 hi
theorem ta15 {I:List (Nat×Nat)} {H H2:List (Nat×Box)} (h:t26 I H=some H2) {j:Nat} {b2:Box} (hj:hget H2 j=some b2):∃i b,look I i=some j∧hget H i=some b∧renB I b=some b2:=by
 induction H generalizing H2 with
 | nil=>simp only[t26,Option.some.injEq] at h;subst h;simp [hget] at hj
 | cons x r ih=>
  obtain⟨k,c⟩:=x
  simp only[t26] at h
  split at h
  ·rename_i j' b' r2 e1 e2 e3
   simp only[Option.some.injEq] at h
   subst h
   simp only[hget] at hj
   split at hj
   ·rename_i e;simp only[Option.some.injEq] at hj;subst e;subst hj;exact⟨k,c,e1,by simp [hget],e2⟩
   ·rename_i hne
    obtain⟨i,b,g1,g2,g3⟩:=ih e3 hj
    refine⟨i,b,g1,?_,g3⟩
    simp only[hget]
    rw[if_neg (fun e=>by subst e;rw[e1] at g1;exact hne (Option.some.inj g1))]
    exact g2
  ·cases h
theorem pr_ (R:List Nat) (b:Box):(p12 R b).row=b.row:=by
 induction R with
 | nil=>rfl
 | cons i is ih=>simp only[p12,p11];split <;> simp_all
theorem pn_ (R:List Nat) (b:Box) (h:b.row=true):(p12 R b)=b:=by
 induction R with
 | nil=>rfl
 | cons i is ih=>simp only[p12,p11,ih,h,if_true]
theorem hr_ (R A:List Nat) (H:List (Nat×Box)) (j:Nat) {b:Box} (h:hget (r20 R A H) j=some b):memb A j=false∧∃c,hget H j=some c∧b=p12 R c:=by
 induction H with
 | nil=>simp [r20,hget] at h
 | cons x r ih=>
  obtain⟨k,c⟩:=x
  simp only[r20] at h
  split at h
  ·rename_i hk
   obtain⟨h1,c',h2,h3⟩:=ih h
   refine⟨h1,c',?_,h3⟩
   simp only[hget]
   rw[if_neg (fun e=>by subst e;rw[hk] at h1;cases h1)]
   exact h2
  ·rename_i hk
   simp only[hget] at h ⊢
   split at h
   ·rename_i e;subst e;simp only[Option.some.injEq] at h;exact⟨by simpa using hk,c,by simp,h.symm⟩
   ·rename_i e;rw[if_neg e];exact ih h
theorem ep11 (R:List Nat) (E:List (Nat×AV)) (t:Nat):eget (p13 R E) t=purges R (eget E t):=by
 induction R with
 | nil=>rfl
 | cons i is ih=>simp only[p13,purges,ep_,ih]
section
variable {P:Program} {G:Nat→Option AV} {C:Ctx} {nm nm':N_} {F F':Nat→Prop} {st:St} {a:Act} {w:World}
theorem Rd.purges {c:AV} {v:Value}:∀(R:List Nat) {nm nm':N_},Rd w F nm c v→(∀j,j∉R→nm' j=nm j)→Rd w F nm' (Ab.purges R c) v
 | [],nm,nm',h,hn=>by
  have:nm'=nm:=funext fun j=>hn j (by simp)
  rw[this];exact h
 | i::is,nm,nm',h,hn=>by
  have h1:=Rd.purges is (nm':=fun j=>if j=i then nm j else nm' j) h (fun j hj=>by
   by_cases e:j=i
   ·simp [e]
   ·simp only[e,if_false];exact hn j (by simp [e,hj]))
  exact h1.purge (i:=i) fun j hj=>by simp [hj]
theorem Lies.purges {m:Nm} {b:Box}:∀(R:List Nat) {nm nm':N_},Lies w F nm m b→(∀j,j∉R→nm' j=nm j)→Lies w F nm' m (p12 R b)
 | [],nm,nm',h,hn=>by
  have:nm'=nm:=funext fun j=>hn j (by simp)
  rw[this];exact h
 | i::is,nm,nm',h,hn=>by
  have h1:=Lies.purges is (nm':=fun j=>if j=i then nm j else nm' j) h (fun j hj=>by
   by_cases e:j=i
   ·simp [e]
   ·simp only[e,if_false];exact hn j (by simp [e,hj]))
  exact h1.purge (i:=i) fun j hj=>by simp [hj]
theorem cs23 (h:RelX G C nm F st a w) {f:Nat} {args args1 args':List AV} {us:List Value} (hl:args.length=us.length) (hrd:∀(j:Nat) c u,args[j]? =some c→us[j]? =some u→Rd w F nm c u)
  {I:List (Nat×Nat)} {H H' H2:List (Nat×Box)} {r r2:AV} (hfit:FitL args args1) (hargs:renO.go I args'=some args1) (hgive:G_ I st.heap H) (hd1:n16 (ours I)=true) (hd2:n16 (t15 I)=true) (hnew:n20 st.N H I=true)
  (hc:H_ P G f args' H r H') (hr:renO I r=some r2) (htake:t26 I H'=some H2) {d:Option Nat} {st':St} (hp:(a19 st I H H2).put d r2=some st'):
  Calls P f us.toArray w fun e w'=>∃v,e= .returned v∧Rel G C st' (a.put d v) w':=by
 have n1:=nn_ hd1
 have n2:=nn_ hd2
 let nI:N_:=fun i=>match look I i with | some j=>nm j | none=>none
 have hI:∀i j,look I i=some j→nI i=nm j:=fun i j e=>by simp only[nI,e]
 obtain⟨hfl,hfa⟩:=hfit.at_
 have hA:us.toArray.size=args'.length∧∀(j:Nat) c u,args'[j]? =some c→us.toArray[j]? =some u→Rd w F nI c u:=by
  obtain⟨e1,e2⟩:=renO.go_at hargs
  refine⟨by simp;omega,fun j c u hc hu=>?_⟩
  obtain⟨x,hx,hx'⟩:=e2 j c hc
  have hj:j<args.length:=by rw[hfl];exact (List.getElem?_eq_some_iff.1 hx').1
  have hjc:=List.getElem?_eq_getElem hj
  exact ((hrd j _ u hjc (by simpa using hu)).fit (hfa j _ x hjc hx')).unren hI hx
 have hB:HB w F nI H:=by
  refine⟨fun i b hi=>?_,fun i j b c m m' hi hj hm hm' hg=>?_,fun i b m hi hm=>?_⟩
  ·obtain⟨j,b2,e1,e2,e3⟩:=hgive.at_ hi
   obtain⟨q1,q2,q3,q4,q5,q6⟩:=rs10 e2
   rcases h.box j b2 e3 with ⟨g1,g2,g3,g4⟩ | ⟨m,g1,g2⟩
   ·left
    refine⟨by rw[hI i j e1];exact g1,List.eq_nil_of_length_eq_zero (by rw[q4,g2];rfl),by rw[←q1];exact g3,by rw[←q3];exact g4⟩
   ·exact .inr ⟨m,by rw[hI i j e1];exact g1,g2.unren hI e2⟩
  ·obtain⟨j1,b1,e1,_,e3⟩:=hgive.at_ hi
   obtain⟨j2,b2,e4,_,e6⟩:=hgive.at_ hj
   rw[hI _ _ e1] at hm
   rw[hI _ _ e4] at hm'
   obtain rfl:=h.inj j1 j2 b1 b2 m m' e3 e6 hm hm' hg
   exact li_ n1 e1 e4
  ·obtain⟨j1,b1,e1,_,e3⟩:=hgive.at_ hi
   rw[hI _ _ e1] at hm
   exact h.fr j1 b1 m e3 hm
 have ownI:∀k,Own nI H k→∃j b m,hget st.heap j=some b∧nm j=some m∧m.g=k∧j∈ours I:=by
  rintro k ⟨i,b,m,hi,hm,rfl⟩
  obtain⟨j,b2,e1,_,e3⟩:=hgive.at_ hi
  exact⟨j,b2,m,e3,by rw[←hI i j e1];exact hm,rfl,(lm_ e1).1⟩
 refine (hc w F nI us.toArray h.good hA hB).mono ?_
 rintro e w' ⟨v,F',nm',rfl,hF,hF',hFs,hrv,hB',hvar,hown,⟨hos,htape,hout,hsz⟩,hblk⟩
 refine⟨v,rfl,?_⟩
 let n2m:N_:=fun j=>match l14 I j with | some i=>nm' i | none=>nm j
 have hN1:∀i j,look I i=some j→n2m j=nm' i:=fun i j e=>by simp only[n2m,lol_ n1 e]
 have hN2:∀j,j∉r_ H I→n2m j=nm j:=fun j hj=>by
  simp only[n2m]
  cases hlr:l14 I j with
  | none=>rfl
  | some i=>
   have hlk:=lo10 n2 hlr
   cases hv:i18 H i with
   | false=>exact absurd (ro_ hlk hv) hj
   | true=>
    unfold i18 at hv
    split at hv
    ·rename_i b hb
     simp only[(hvar i b hb (by simpa using hv)).1,hI i j hlk]
    ·cases hv
 have notOwn:∀j b m,hget st.heap j=some b→nm j=some m→j∉ours I→¬Own nI H m.g:=by
  rintro j b m hj hm hni hO
  obtain⟨j',b',m',g1,g2,g3,g4⟩:=ownI _ hO
  exact hni (h.inj j j' b b' m m' hj g1 hm g2 g3.symm ▸ g4)
 have hFw:∀k,F k→w'.heap[k]? =w.heap[k]? :=fun k hk=>hblk k (h.good.1 k hk) fun hO=>by
  obtain⟨j',b',m',g1,g2,g3,g4⟩:=ownI _ hO
  exact h.fr j' b' m' g1 g2 (g3 ▸ hk)
 have hk:Kept C w':=⟨hos.trans h.keep.os,htape.trans h.keep.tape,hout.trans h.keep.output,Nat.le_trans h.keep.size hsz,fun b hb hL=>by
  rw[hblk b (Nat.lt_of_lt_of_le hb h.keep.size) (fun hO=>by
   obtain⟨j',b',m',g1,g2,g3,g4⟩:=ownI _ hO
   rcases h.own j' b' m' g1 g2 with g5 | g5
   ·omega
   ·exact hL (g3 ▸ g5))]
  exact h.keep.block b hb hL⟩
 -- the rows and variables b10 the call
 have get:∀j b,hget (a19 st I H H2).heap j=some b→(∃i b0,look I i=some j∧hget H' i=some b0∧renB I b0=some b)∨(j∉ours I∧∃c,hget st.heap j=some c∧b=p12 (r_ H I) c):=by
  intro j b hj
  simp only[a19,hh10] at hj
  split at hj
  ·rename_i c hcj
   simp only[Option.some.injEq] at hj
   subst hj
   exact .inl (ta15 htake hcj)
  ·obtain⟨g1,c,g2,g3⟩:=hr_ _ _ _ _ hj
   exact .inr ⟨fun hm=>(by rw[mm11.2 hm] at g1;cases g1),c,g2,g3⟩
 have blk:∀j c m1,j∉ours I→hget st.heap j=some c→nm j=some m1→w'.heap[m1.g]? =w.heap[m1.g]? :=fun j c m1 hj hc hm=>hblk _ (h.lt hc hm) (notOwn j c m1 hc hm hj)
 have outside:∀j,j∉ours I→n2m j=nm j:=fun j hj=>hN2 j fun hm=>hj (rm_ hm)
 have theirsOwn:∀i j b0 m,look I i=some j→hget H' i=some b0→n2m j=some m→w.heap.size≤m.g∨∃j' b' m',hget st.heap j'=some b'∧nm j'=some m'∧m'.g=m.g∧j'∈ours I:=fun i j b0 m e1 e2 hm=>by
  rw[hN1 i j e1] at hm
  rcases hown m.g ⟨i,b0,m,e2,hm,rfl⟩ with g | g
  ·exact .inl g
  ·exact .inr (ownI _ g)
 have key:RelX G C n2m F' (a19 st I H H2) a w':=by
  refine⟨h.N,h.df,fun t=>?_,fun j b hj=>?_,fun j j' b b' m m' hj hj' hm hm' hg=>?_,fun j b m hj hm hf=>?_,fun j b m hj hm=>?_,h.good.mono hFw hF hFs,fun b hb=>hF b (h.f0 b hb),fun b hb=>?_,hk,fun j hj=>?_⟩
  ·simp only[St.get,a19,ep11]
   exact ((h.env t).mono hFw hF).purges _ hN2
  ·rcases get j b hj with ⟨i,b0,e1,e2,e3⟩ | ⟨hni,c,e1,rfl⟩
   ·obtain⟨q1,q2,q3,q4,q5,q6⟩:=rs10 e3
    rcases hB'.box i b0 e2 with ⟨g1,g2,g3,g4⟩ | ⟨m,g1,g2⟩
    ·left
     exact⟨by rw[hN1 i j e1];exact g1,List.eq_nil_of_length_eq_zero (by rw[←q4,g2];rfl),by rw[q1];exact g3,by rw[q3];exact g4⟩
    ·exact .inr ⟨m,by rw[hN1 i j e1];exact g1,g2.ren hN1 e3⟩
   ·rcases h.box j c e1 with ⟨g1,g2,g3,g4⟩ | ⟨m,g1,g2⟩
    ·left
     rw[pn_ _ _ g3]
     exact⟨by rw[outside j hni];exact g1,g2,g3,g4⟩
    ·exact .inr ⟨m,by rw[outside j hni];exact g1,(g2.mono (blk j c m hni e1 g1) hFw hF).purges _ hN2⟩
  ·rcases get j b hj with ⟨i,b0,e1,e2,e3⟩ | ⟨hni,c,e1,rfl⟩ <;> rcases get j' b' hj' with ⟨i',b0',e1',e2',e3'⟩ | ⟨hni',c',e1',rfl⟩
   ·rw[hN1 i j e1] at hm
    rw[hN1 i' j' e1'] at hm'
    obtain rfl:=hB'.inj i i' b0 b0' m m' e2 e2' hm hm' hg
    rw[e1] at e1'
    exact Option.some.inj e1'
   ·exfalso
    rw[outside j' hni'] at hm'
    rcases theirsOwn i j b0 m e1 e2 hm with g | ⟨j2,b2,m2,g1,g2,g3,g4⟩
    ·have:=h.lt e1' hm';omega
    ·exact hni' (h.inj j2 j' b2 c' m2 m' g1 e1' g2 hm' (by omega) ▸ g4)
   ·exfalso
    rw[outside j hni] at hm
    rcases theirsOwn i' j' b0' m' e1' e2' hm' with g | ⟨j2,b2,m2,g1,g2,g3,g4⟩
    ·have:=h.lt e1 hm;omega
    ·exact hni (h.inj j2 j b2 c m2 m g1 e1 g2 hm (by omega) ▸ g4)
   ·rw[outside j hni] at hm
    rw[outside j' hni'] at hm'
    exact h.inj j j' c c' m m' e1 e1' hm hm' hg
  ·rcases get j b hj with ⟨i,b0,e1,e2,e3⟩ | ⟨hni,c,e1,rfl⟩
   ·rw[hN1 i j e1] at hm
    exact hB'.fr i b0 m e2 hm hf
   ·rw[outside j hni] at hm
    rcases hF' _ hf with g | g | g
    ·exact h.fr j c m e1 hm g
    ·have:=h.lt e1 hm;omega
    ·exact notOwn j c m e1 hm hni g
  ·rcases get j b hj with ⟨i,b0,e1,e2,e3⟩ | ⟨hni,c,e1,rfl⟩
   ·rcases theirsOwn i j b0 m e1 e2 hm with g | ⟨j2,b2,m2,g1,g2,g3,g4⟩
    ·left;have:=h.keep.size;omega
    ·rw[←g3];exact h.own j2 b2 m2 g1 g2
   ·rw[outside j hni] at hm
    exact h.own j c m e1 hm
  ·rcases hF' b hb with g | g | g
   ·exact h.fb b g
   ·right;left;have:=h.keep.size;omega
   ·obtain⟨j',b',m',g1,g2,g3,g4⟩:=ownI _ g
    rw[←g3]
    exact .inr (h.own j' b' m' g1 g2)
  ·obtain⟨v1,v2,v3⟩:=h.vn j hj
   have notRow:j∉r_ H I→n2m j=C.n0 j:=fun hn=>by rw[hN2 j hn];exact v2
   refine⟨v1,?_,fun b hb=>?_⟩
   ·by_cases hj':l14 I j=none
    ·simp only[n2m,hj'];exact v2
    ·obtain⟨i,hi⟩:=Option.ne_none_iff_exists'.1 hj'
     have hlk:=lo10 n2 hi
     cases hH:hget H i with
     | none=>have:=na10 hnew hlk hH;omega
     | some b0=>
      obtain⟨j1,b1,e1,e2,e3⟩:=hgive.at_ hH
      rw[hlk] at e1
      cases e1
      have hrow:=v3 b1 e3
      rw[(rs10 e2).1] at hrow
      rw[hN1 i j hlk,(hvar i b0 hH hrow).1,hI i j hlk]
      exact v2
   ·rcases get j b hb with ⟨i,b0,e1,e2,e3⟩ | ⟨hni,c,e1,rfl⟩
    ·rw[(rs10 e3).1]
     cases hH:hget H i with
     | none=>have:=na10 hnew e1 hH;omega
     | some b1=>
      obtain⟨j1,b2,e4,e5,e6⟩:=hgive.at_ hH
      rw[e1] at e4
      cases e4
      have hrow:=v3 b2 e6
      rw[(rs10 e5).1] at hrow
      exact (hvar i b1 hH hrow).2 b0 e2
    ·rw[pr_];exact v3 c e1
 exact⟨n2m,F',key.put (hrv.ren hN1 hr) hp⟩
end
end Go.Proofs.YtjbcfpkibnhodaaGreatDoor.Ab
namespace Go.Proofs.YtjbcfpkibnhodaaGreatDoor.Ab
open Go Go.RowKit
def repV:AV→Value→Bool
 | .bool a,.bool b=>a==b
 | .int k a,.int k' b=>decide (k=k')&&a==b
 | .str s,.string b=>s==b.data.toList
 | .agg cs,.agg us=>go cs us.toList
 | .nils,.slice a n c=>a.isNone&&n==0&&c==0
 | .nilp,.pointer a=>a.isNone
 | .nilfn,.nilFunc=>true
 | .nili,.nilIface=>true
 | .nilm,.map a=>a.isNone
 | _,_ =>false
where
 go:List AV→List Value→Bool
 | [],[]=>true
 | c::cs,u::us=>repV c u&&go cs us
 | _,_ =>false
theorem rr_ {w:World} {F:Nat→Prop} {nm:N_}:∀{c:AV} {v:Value},repV c v=true→Rd w F nm c v:=by
 suffices h:∀(n:Nat) (c:AV),SizeOf.sizeOf c<n→∀{v:Value},repV c v=true→Rd w F nm c v from fun {c _} hv=>h (SizeOf.sizeOf c+1) c (by omega) hv
 intro n
 induction n with
 | zero=>intro c h;omega
 | succ n ih=>
  intro c hs v h
  cases c <;> cases v <;> simp only[repV,Bool.and_eq_true,decide_eq_true_eq,beq_iff_eq,Bool.false_eq_true] at h
  case bool.bool=>subst h;exact .bool _ _
  case int.int=>obtain⟨rfl,rfl⟩:=h;exact .int _ _ _
  case str.string s b=>subst h;exact .str _ _
  case agg.agg cs us=>
   have go:∀(cs:List AV) (us:List Value),SizeOf.sizeOf cs<n+1→repV.go cs us=true→cs.length=us.length∧∀(j:Nat) c u,cs[j]? =some c→us[j]? =some u→Rd w F nm c u:=by
    intro cs
    induction cs with
    | nil=>intro us _ h;cases us with
     | nil=>simp
     | cons u us=>simp [repV.go] at h
    | cons x xs ihx=>
     intro us hs h
     cases us with
     | nil=>simp [repV.go] at h
     | cons u us=>
      simp only[repV.go,Bool.and_eq_true] at h
      simp at hs
      obtain⟨h1,h2⟩:=ihx us (by omega) h.2
      refine⟨by simp [h1],fun j c u' hc hu=>?_⟩
      cases j with
      | zero=>simp at hc hu;subst hc;subst hu;exact ih x (by omega) h.1
      | succ j=>simp at hc hu;exact h2 j c u' hc hu
   obtain⟨h1,h2⟩:=go cs us.toList (by simp at hs;omega) h
   exact .agg _ _ _ h1 h2
  case nils.slice a n c=>
   obtain⟨⟨h1,rfl⟩,rfl⟩:=h
   cases a with
   | none=>exact .nils _
   | some a=>simp at h1
  case nilp.pointer a=>
   cases a with
   | none=>exact .nilp _
   | some a=>simp at h
  case nilfn.nilFunc=>exact .nilfn _
  case nili.nilIface=>exact .nili _
  case nilm.map a=>
   cases a with
   | none=>exact .nilm _
   | some a=>simp at h
def c_:Operand→Opd→Bool
 | .tmp t,.t n=>t==n
 | .const v,.k c=>repV c v
 | .func f,.f n=>f==n
 | .global g,.g n=>g==n
 | _,_ =>false
def c13:List Operand→List Opd→Bool
 | [],[]=>true
 | x::xs,y::ys=>c_ x y&&c13 xs ys
 | _,_ =>false
def c20:Option Operand→Option Opd→Bool
 | none,none=>true
 | some x,some y=>c_ x y
 | _,_ =>false
section
variable {P:Program} {G:Nat→Option AV} {C:Ctx} {nm:N_} {F:Nat→Prop} {st:St} {a:Act} {w:World}
theorem RelX.opd (h:RelX G C nm F st a w) {x:Operand} {y:Opd} (hx:c_ x y=true):Rd w F nm (st.ev G y) (a.eval x):=by
 refine h.ev ?_
 cases x <;> cases y <;> simp only[c_,beq_iff_eq,Bool.false_eq_true] at hx ⊢
 ·exact hx
 ·exact fun w F nm=>rr_ hx
 ·exact hx
 ·exact hx
theorem RelX.opds (h:RelX G C nm F st a w) {xs:List Operand} {ys:List Opd} (hx:c13 xs ys=true):
  (evs G st ys).length=(xs.map a.eval).length∧∀(j:Nat) c u,(evs G st ys)[j]? =some c→(xs.map a.eval)[j]? =some u→Rd w F nm c u:=by
 induction xs generalizing ys with
 | nil=>cases ys with
  | nil=>simp [evs]
  | cons y ys=>simp [c13] at hx
 | cons x xs ih=>
  cases ys with
  | nil=>simp [c13] at hx
  | cons y ys=>
   simp only[c13,Bool.and_eq_true] at hx
   obtain⟨h1,h2⟩:=ih hx.2
   refine⟨by simp [evs,h1],fun j c u hc hu=>?_⟩
   cases j with
   | zero=>simp [evs] at hc hu;subst hc;subst hu;exact h.opd hx.1
   | succ j=>simp [evs] at hc hu;exact h2 j c u hc (by simpa using hu)
end
def i10 (P:Program) (t:Nat):Bool:=match P.underlying t with
 | some (.struct _) | some (.array ..) | none=>false
 | _ =>true
def i_ (P:Program) (t:Nat):Bool:=match P.underlying t with
 | some (.struct _) | some (.array ..)=>true
 | _ =>false
def szIs (P:Program) (t n:Nat):Bool:=match P.info? t with | some i=>i.size==n | none=>false
def z_ (P:Program) (t:Nat) (z:AV):Bool:=match P.info? t with
 | some i=>match i.zero with | some v=>repV z v | none=>false
 | none=>false
def b12 (P:Program) (t n:Nat):Bool:=match P.info? t with | some i=>i.bytes==n | none=>false
def s23 (P:Program) (t:Nat) (e:Nat):Bool:=match P.underlying t with | some (.slice x)=>x==e | _ =>false
def c15 (place:Nat→Option (Nat×Nat)):List (Nat×Operand)→List (Nat×Nat×Opd)→Bool
 | [],[]=>true
 | (i,x)::xs,(off,n,y)::ys=>(match place i with | some (f,m)=>f==off&&m==n | none=>false)&&c_ x y&&c15 place xs ys
 | _,_ =>false
def c19 (P:Program) (t:Nat) (zs:List AV) (ps:List (Nat×Operand)) (qs:List (Nat×Nat×Opd)):Bool:=
 match P.info? t,P.underlying t with
 | some it,some (.array _ e)=>match it.zero,P.info? e with
  | some z,some ie=>repV (.agg zs) z&&c15 (fun i=>some (i*ie.size,ie.size)) ps qs
  | _,_ =>false
 | some it,some (.struct fields)=>match it.zero,fields.toList.mapM (fun f=>(P.info? f.type).map fun i=>(f.offset,i.size)) with
  | some z,some places=>repV (.agg zs) z&&c15 (places.toArray[·]?) ps qs
  | _,_ =>false
 | _,_ =>false
def c17:List (Nat×Operand)→List (Nat×Opd)→Bool
 | [],[]=>true
 | (i,x)::xs,(j,y)::ys=>i==j&&c_ x y&&c17 xs ys
 | _,_ =>false
def k11 (P:Program) (rec:Nat→Option (List Nat)):List Field→Nat→Option (List Nat)
 | [],_ =>some []
 | f::fs,off=>if f.name≠ "_" ∧f.offset=off then match rec f.type with
    | some k=>if szIs P f.type k.length then (k11 P rec fs (off+k.length)).map (k++·) else none
    | none=>none
  else none
def k10 (P:Program):Nat→Nat→Option (List Nat)
 | 0,_ =>none
 | d+1,t=>match P.underlying t with
  | some (.int _)=>some [0]
  | some .string=>some [1]
  | some .bool=>some [2]
  | some (.struct fs)=>if P.stoodInHeld t then none else k11 P (k10 P d) fs.toList 0
  | _ =>none
def b_ (P:Program) (f:Nat):Bool:=match P.funcs[f]? with | some fn=>fn.body.isSome&& !(fn.name== "runtime.NumGoroutine") | none=>false
def c10 (P:Program) (o:Op) (c:AOp):Bool:=
 match o,c with
 | .move x,.mov y | .assign x,.mov y=>c_ x y
 | .move (.const (.slice none 0 0)),.nilrow _ sz | .assign (.const (.slice none 0 0)),.nilrow _ sz=>decide (0<sz)
 | .pick c a b,.pick c' a' b'=>c_ c c'&&c_ a a'&&c_ b b'
 | .alloc e,.alloc ty sz z=>e==ty&&z_ P e z&&fits z sz&&decide (0<sz)
 | .box e x,.box ty sz y=>e==ty&&c_ x y&&decide (0<sz)
 | .build t ps,.build zs qs=>c19 P t zs ps.toList qs
 | .buildSlice t n ps,.mkrow ty sz n' z qs=>s23 P t ty&&szIs P ty sz&&decide (0<sz)&&n==n'&&decide (n*sz≤16777216)&&z_ P ty z&&fits z sz&&c17 ps.toList qs
 | .load t p,.load q=>c_ p q&&i10 P t
 | .load t p,.loadN q n=>c_ p q&&i_ P t&&szIs P t n
 | .store t p x,.store q y n=>c_ p q&&c_ x y&&szIs P t n
 | .binOp op _ x y _,.bin op' x' y'=>decide (op=op')&&c_ x x'&&c_ y y'
 | .binOp op t x y _,.eqA neg ks x' y'=>decide (op=if neg then .neq else .eql)&&c_ x x'&&c_ y y'&&i_ P t&&decide (k10 P 20 t=some ks)&& !P.eqGuardType P.depth t
 | .binOp op t x y _,.eqB neg x' y'=>decide (op=if neg then .neq else .eql)&&c_ x x'&&c_ y y'&&(match P.underlying t with | some .bool=>true | _ =>false)
 | .binOp op t x y _,.eqP neg x' y'=>decide (op=if neg then .neq else .eql)&&c_ x x'&&c_ y y'&&(match P.underlying t with | some (.pointer _)=>true | _ =>false)
 | .binOp op t x y _,.eqI neg x' y'=>decide (op=if neg then .neq else .eql)&&c_ x x'&&c_ y y'&&(match y with | .const _ =>true | _ =>false)&&P.isIface t
 | .makeInterface t x,.mki t' y=>t==t'&&c_ x y&&(match P.underlying t with | some (.interface _)=>false | some _ =>true | none=>false)
 | .unOp op _ x,.un op' y=>decide (op=op')&&c_ x y
 | .convert src dst x,.conv k y=>(P.underlying src).isSome&&(match P.underlying dst with | some (.int k')=>decide (k=k') | _ =>false)&&c_ x y
 | .field t x i,.fld y off=>(match P.underlying t with | some (.struct fs)=>(match fs[i]? with | some f=>f.offset==off&&i10 P f.type | none=>false) | _ =>false)&&c_ x y
 | .field t x i,.fldN y off n=>(match P.underlying t with | some (.struct fs)=>(match fs[i]? with | some f=>f.offset==off&&i_ P f.type&&szIs P f.type n | none=>false) | _ =>false)&&c_ x y
 | .fieldAddr t x i,.faddr y off=>(match P.underlying t with | some (.struct fs)=>(match fs[i]? with | some f=>f.offset==off&&(match P.info? f.type with | some i=>decide (0<i.size) | none=>false) | none=>false) | _ =>false)&&c_ x y
 | .indexAddr t x i,.iaddr sz y j=>(match P.underlying t with | some (.slice e)=>szIs P e sz&&decide (0<sz) | _ =>false)&&c_ x y&&c_ i j
 | .index t x i,.idx y j=>(match P.underlying t with | some .string=>true | _ =>false)&&c_ x y&&c_ i j
 | .slice t x lo hi none,.slc z y lo' hi'=>(match P.underlying t with | some .string=>z==0 | some (.slice e)=>szIs P e z&&decide (0<z) | _ =>false)&&c_ x y&&c20 lo lo'&&c20 hi hi'
 | .call {callee:=.builtin .len,args,argTypes},.len b y=>(match args.toList,argTypes.toList with | [x],[t]=>c_ x y&&(match P.underlying t with | some .string=>b | some (.slice _)=>!b | _ =>false) | _,_ =>false)
 | .call {callee:=.builtin .append,args,argTypes},.app e sz bytes y z=>(match args.toList,argTypes.toList with
  | [x,u],[t,t']=>t==t'&&c_ x y&&c_ u z&&s23 P t e&&szIs P e sz&&decide (0<sz)&&b12 P e bytes&&decide (0<bytes)&&(match P.info? e with | some i=>(match i.zero with | some z=>z.cells.size==sz | none=>false) | none=>false)
  | _,_ =>false)
 | .call {callee:=.value x,args,argTypes:=_},.call f ys=>(match x with | .func g=>g==f | _ =>false)&&c13 args.toList ys&&b_ P f
 | .call {callee:=.value x,args,argTypes:=_},.callv y ys=>c_ x y&&c13 args.toList ys
 | .call {callee:=.value x,args,argTypes:=_},.callB f ys=>(match x with | .func g=>g==f | _ =>false)&&c13 args.toList ys&&b_ P f
 | .call {callee:=.value x,args,argTypes:=_},.callvB y ys=>c_ x y&&c13 args.toList ys
 | _,.bad=>true
 | .makeSlice t n c,.mks e sz bytes z n' c'=>s23 P t e&&szIs P e sz&&decide (0<sz)&&b12 P e bytes&&decide (0<bytes)&&z_ P e z&&fits z sz&&c_ n n'&&c_ c c'
 | .slice t x none none none,.slcG n y=>(match P.underlying t with | some (.array m e)=>m==n&&szIs P e 1&&decide (n≤1048576) | _ =>false)&&c_ x y
 | .call {callee:=.builtin .max,args,argTypes:=_},.mx mn y z=>(match args.toList with | [u,v]=>!mn&&c_ u y&&c_ v z | _ =>false)
 | .call {callee:=.builtin .min,args,argTypes:=_},.mx mn y z=>(match args.toList with | [u,v]=>mn&&c_ u y&&c_ v z | _ =>false)
 | .range t x,.rng y=>(match P.underlying t with | some .string=>true | _ =>false)&&c_ x y
 | .next x is,.nxt y=>is&&c_ x y
 | .convert src dst x,.b2s y=>(match P.underlying src with | some (.slice e)=>(match P.underlying e with | some (.int .u8)=>true | _ =>false) | _ =>false)&&(match P.underlying dst with | some .string=>true | _ =>false)&&c_ x y
 | .indexAddr t x i,.iaddrA sz n y j=>(match P.underlying t with | some (.array m e)=>m==n&&szIs P e sz&&decide (0<sz) | _ =>false)&&c_ x y&&c_ i j
 | .index t x i,.idxA sz n y j=>(match P.underlying t with | some (.array m e)=>m==n&&szIs P e sz&&i10 P e | _ =>false)&&c_ x y&&c_ i j
 | .call {callee:=.builtin .clear,args,argTypes},.clr sz z y=>(match args.toList,argTypes.toList with
  | [x],[t]=>c_ x y&&(match P.underlying t with | some (.slice e)=>szIs P e sz&&decide (0<sz)&&z_ P e z&&fits z sz | _ =>false)
  | _,_ =>false)
 | .makeMap t none,.mkmap=>(match P.underlying t with | some (.map ..)=>true | _ =>false)
 | .call {callee:=.builtin .len,args,argTypes},.mlen y=>(match args.toList,argTypes.toList with | [x],[t]=>c_ x y&&(match P.underlying t with | some (.map ..)=>true | _ =>false) | _,_ =>false)
 | .lookup t x k ok,.mget ok' ag ks z y j=>ok==ok'&&c_ x y&&c_ k j&&(match P.underlying t with | some (.map kt et)=>i_ P kt==ag&&decide (k10 P 20 kt=some ks)&&z_ P et z | _ =>false)
 | .mapUpdate t x k v,.mput ag ks y j u=>c_ x y&&c_ k j&&c_ v u&&(match P.underlying t with | some (.map kt _)=>i_ P kt==ag&&decide (k10 P 20 kt=some ks) | _ =>false)
 | .insert t x k v,.mput ag ks y j u=>c_ x y&&c_ k j&&c_ v u&&(match P.underlying t with | some (.map kt _)=>i_ P kt==ag&&decide (k10 P 20 kt=some ks) | _ =>false)
 | .extract x i,.ext y j=>c_ x y&&i==j
 | .nilCheck x,.nchk y=>c_ x y
 | .makeFunc (.func f) first caps,.mkfn f' ys=>f==f'&&first.isEmpty&&c13 caps.toList ys
 | _,_ =>false
end Go.Proofs.YtjbcfpkibnhodaaGreatDoor.Ab
