/- Lemmas. -/
import Derived.Test.YtkgcnoghjibiaaaGreatDoorYAbDrC
set_option linter.unusedSimpArgs false
namespace Go.Proofs.YtkgcnoghjibiaaaGreatDoor.Ab
open Go Go.RowKit
inductive DT where
 | fin
 | nil
 | next (c:Nat) (f l:List Nat) (sub rest:DT)
def DT.beq:DT->DT->Bool
 | .fin,.fin=>true
 | .nil,.nil=>true
 | .next c f l s r,.next c' f' l' s' r'=>c==c'&&f==f'&&l==l'&&s.beq s'&&r.beq r'
 | _,_ =>false
theorem DT.of_beq:∀{a b:DT},a.beq b=true->a=b
 | .fin,.fin,_ =>rfl
 | .nil,.nil,_ =>rfl
 | .next c f l s r,.next c' f' l' s' r',h=>by simp only[DT.beq,zJ,zB] at h;obtain⟨⟨⟨⟨rfl,rfl⟩,rfl⟩,h1⟩,h2⟩:=h;rw[DT.of_beq h1,DT.of_beq h2]
 | .fin,.nil,h=>by cases h
 | .fin,.next ..,h=>by cases h
 | .nil,.fin,h=>by cases h
 | .nil,.next ..,h=>by cases h
 | .next ..,.fin,h=>by cases h
 | .next ..,.nil,h=>by cases h
def l25:AOp->Bool
 | .callB .. =>true
 | op=>l21 op
section
variable (P:Program) (G:Nat->Option AV)
def l16 (o:Option AO) (X:St) (K:St->Prop):Prop:=
 match o with
 | some ⟨d,.callB f xs,none⟩=>c20 P G false f (evs G X xs) d X K
 | some ⟨d,op,none⟩=>∃Y,e12 G d op X=some Y∧K Y
 | _ =>False
def t41 (aos:List AO) (ktm:List Nat) (K:St->Prop):DT->St->Prop
 | .fin,X=>K X
 | .nil,_ =>True
 | .next c f l sub rest,X=>l16 P G (aos[c]?) X (λY=>opsP P G true (selC aos f) Y λX0=>opsP P G true (selC aos l) {X0 with env:=X0.trimE ktm} λX1=>
   a18 {X0 with env:=X0.trimE ktm} {X1 with env:=X1.trimE ktm} (d16 (selC aos l))∧t41 aos ktm K sub {X0 with env:=X0.trimE ktm})∧t41 aos ktm K rest X
end
theorem lm_ {P:Program} {G:Nat->Option AV} {o:Option AO} {X:St} {K K':St->Prop} (hk:∀Y,K Y->K' Y) (h:l16 P G o X K):l16 P G o X K':=by
 unfold l16 at h ⊢;split at h
 .exact cm_ h hk
 .obtain⟨Y,h1,h2⟩:=h;exact⟨Y,h1,hk _ h2⟩
 .exact h.elim
theorem tm_ {P:Program} {G:Nat->Option AV} {aos:List AO} {ktm:List Nat} {K K':St->Prop} (hk:∀X,K X->K' X):∀(t:DT) (X:St),t41 P G aos ktm K t X->t41 P G aos ktm K' t X
 | .fin,X,h=>hk X h
 | .nil,_,_ =>trivial
 | .next _c _f _l sub rest,X,h=>⟨lm_ (λ_Y h=>om_ h λ_X0 h=>om_ h λ_X1 h=>⟨h.1,tm_ hk sub _ h.2⟩) h.1,tm_ hk rest X h.2⟩
section
variable {P:Program} {G:Nat->Option AV} {st st':St}
theorem lu_ {d:Option Nat} {op:AOp} (hu:l25 op=true) (hs:i12 op=true->d=none) (hh:st'.heap=st.heap) (hN:st'.N=st.N) (hl:∀t∈l15 op,eget st'.env t=eget st.env t) {K:St->Prop} (h:l16 P G (some ⟨d,op,none⟩) st K):
  opP P G true ⟨d,op,none⟩ st' (λst1'=>∃Y,K Y∧Uni d st st' Y st1'):=by
 by_cases hb:∃f xs,op= .callB f xs
 .obtain⟨f,xs,rfl⟩:=hb;show c24 P G false f (evs G st' xs) (none,xs) d st' _;have he:evs G st' xs=evs G st xs:=ec10 hl;rw[he];have h':c20 P G false f (evs G st xs) d st K:=h;left;rcases h' with (⟨vargs,args',r,Y,h1,h2,h3,h4,_,h6⟩ | ⟨vargs,args',r,Y,h1,h2,h3,h4,h6⟩) | ⟨_,I,args1,args',H,H',H2,r,r2,Y,h1,h2,h3,h4,h5,h6,h7,h8,h9,h10,h11⟩
  .have hbh:∃T:AV->AV,(∀t,eget (b_ st (evs G st xs) r).env t=T (eget st.env t)∧eget (b_ st' (evs G st xs) r).env t=T (eget st'.env t))∧(b_ st' (evs G st xs) r).heap=(b_ st (evs G st xs) r).heap∧(b_ st' (evs G st xs) r).N=(b_ st (evs G st xs) r).N∧(b_ st (evs G st xs) r).N=st.N:=by
    unfold b_;split
    .exact⟨id,λt=>⟨rfl,rfl⟩,hh,hN,rfl⟩
    .obtain⟨t1,t2,t3,T,hT⟩:=tu_ (r11 (evs G st xs)) hh hN;exact⟨T,hT,t1,t2,t3⟩
   obtain⟨T,hT,b1,b2,b3⟩:=hbh;obtain⟨Y',e1,hu⟩:=pu_ (st':=st') b1 b2 b3 T hT h4;refine .inl (.inl ⟨vargs,args',r,Y',?_,h2,h3,e1,(λe=>by cases e),Y,h6,hu⟩);rw[hh];exact h1
  .obtain⟨Y',e1,hu⟩:=pu_ (st:=st) (st':=st') hh hN rfl id (λt=>⟨rfl,rfl⟩) h4;refine .inl (.inr ⟨vargs,args',r,Y',?_,h2,h3,e1,Y,h6,hu⟩);rw[hh];exact h1
  .obtain⟨Y',e1,hu⟩:=pu_ (st:=st) (st':=st') (a:=a17 st I H H2) (b:=a17 st' I H H2) (by simp only[a17,hh]) (by simp only[a17,hN]) rfl (purges (r_ H I)) (λt=>by simp only[a17,ep10];exact⟨trivial,trivial⟩) h10;refine .inr ⟨rfl,I,args1,args',H,H',H2,r,r2,Y',h1,h2,?_,h4,h5,?_,h7,h8,h9,e1,Y,h11,hu⟩
   .rw[hh];exact h3
   .rw[hN];exact h6
 .have hu':l21 op=true:=by
   cases op <;> first | exact hu | exact absurd ⟨_,_,rfl⟩ hb
  have h':∃Y,e12 G d op st=some Y∧K Y:=by cases op <;> first | exact h | exact absurd ⟨_,_,rfl⟩ hb
  obtain⟨Y,h1,h2⟩:=h';obtain⟨Y',e1,hun⟩:=lu10 hu' hs hh hN hl h1;show s29 P G true d op st' _;cases op <;> simp only[l21,zF] at hu' <;> (simp only[s29,e1];exact⟨Y,h2,hun⟩)
end
def inD (xs done:List Nat):Bool:=xs.all λc=>done.contains c
def outD (xs done:List Nat):Bool:=done.all λc=>!xs.contains c
theorem ii10 {xs done:List Nat}:inD xs done=true↔∀c∈xs,c∈done:=by simp [inD]
theorem oi_ {xs done:List Nat}:outD xs done=true↔∀c∈done,c∉xs:=by simp [outD]
def f25 (aos:List AO) (en fb:List (List Nat)) (h:Nat) (done:List Nat):List Nat:=(List.range aos.length).filter λj=>q12 aos j&&(inD (en.getD j []) (h::done)&& !inD (en.getD j []) done&&outD (fb.getD j []) (h::done))
def l20 (aos:List AO) (en fb:List (List Nat)) (h:Nat) (done:List Nat):List Nat:=(List.range aos.length).filter λj=>q12 aos j&&(inD (en.getD j []) done&&outD (fb.getD j []) (h::done))
def f26 (aos:List AO) (en:List (List Nat)):List Nat:=(List.range aos.length).filter λj=>q12 aos j&&inD (en.getD j []) []
def l18 (ls done:List Nat):List Nat:=ls.filter λc=>!done.contains c
def n21 (ls:List Nat) (en:List (List Nat)) (done:List Nat):List Nat:=ls.filter λc=>!done.contains c&&inD (en.getD c []) done
def k17 (aos:List AO) (en fb:List (List Nat)) (rec:List Nat->DT) (done:List Nat):List Nat->DT
 | []=>.nil
 | c::cs=>.next c (f25 aos en fb c done) (l20 aos en fb c done) (rec (c::done)) (k17 aos en fb rec done cs)
def mkT (aos:List AO) (ls:List Nat) (en fb:List (List Nat)):Nat->List Nat->DT
 | 0,done=>if (l18 ls done).isEmpty then .fin else .nil
 | n+1,done=>if (l18 ls done).isEmpty then .fin else k17 aos en fb (mkT aos ls en fb n) done (n21 ls en done)
def d18 (ops:Array Oper) (aos:List AO) (ls:List Nat) (en fb:List (List Nat)) (f0:List Nat) (tr:DT) (ktm kt:List Nat):Bool:=
 let n:=aos.length
 tr.beq (mkT aos ls en fb ls.length [])&&f0==f26 aos en&&
 kt.all (λt=>ktm.contains t)&&
 ls.all (λc=>match aos[c]? with
  | some x=>l25 x.op&&x.g.isNone&& !q10 x.op
  | none=>false)&&
 (List.range n).all (λi=>match aos[i]? with
  | some x=>e18 ops i&&(q10 x.op||ls.contains i)&&
    (match x.d with | some d=>ktm.contains d&& !x.looksC.contains d | none=>true)&&x.looksC.all (λt=>ktm.contains t)&&
    (en.getD i []).all (λc=>ls.contains c&&(h_ ops i c||(List.range i).any λj=>h_ ops i j&&(en.getD j []).contains c))&&
    (!q10 x.op||(fb.getD i []).all λc=>h_ ops c i||(List.range n).any λq=>h_ ops q i&&((decide (i<q)&&q12 aos q&&(fb.getD q []).contains c)||(ls.contains q&&(en.getD c []).contains q)))&&
    (List.range n).all (λj=>match aos[j]? with
     | some y=>i==j||match y.d with
      | some d=>x.d != some d&&(!(x.looksC.contains d)||h_ ops i j|| !q10 y.op||(if q10 x.op then (en.getD j []).any λc=>(fb.getD i []).contains c else (en.getD j []).contains i))
      | none=>true
     | none=>true)
  | none=>true)
structure TOk (ops:Array Oper) (aos:List AO) (ls:List Nat) (en fb:Nat->List Nat) (ktm:List Nat):Prop where
 low:∀(i:Nat) (o:Oper),i<aos.length->ops[i]?=some o->∀e∈o.after,Region.binds .any e=true->e.on<i
 dst:∀(i j:Nat) (x y:AO) (d:Nat),aos[i]?=some x->aos[j]?=some y->x.d=some d->y.d=some d->i=j
 ktd:∀(i:Nat) (x:AO) (d:Nat),aos[i]?=some x->x.d=some d->d∈ktm
 ktl:∀(i:Nat) (x:AO) (t:Nat),aos[i]?=some x->t∈x.looksC->t∈ktm
 self:∀(i:Nat) (x:AO) (d:Nat),aos[i]?=some x->x.d=some d->d∉x.looksC
 loud:∀(i:Nat) (x:AO),aos[i]?=some x->q10 x.op=false->i∈ls
 lsq:∀c∈ls,∃x,aos[c]?=some x∧q10 x.op=false∧l25 x.op=true∧x.g=none
 enc:∀(i:Nat) (x:AO) (c:Nat),aos[i]?=some x->c∈en i->c∈ls∧(h_ ops i c=true∨∃j:Nat,j<i∧h_ ops i j=true∧c∈en j)
 fbc:∀(i:Nat) (x:AO) (c:Nat),aos[i]?=some x->q10 x.op=true->c∈fb i->h_ ops c i=true∨(∃(q:Nat) (y:AO),i<q∧aos[q]?=some y∧q10 y.op=true∧h_ ops q i=true∧c∈fb q)∨∃q∈ls,h_ ops q i=true∧q∈en c
 lookQ:∀(i j:Nat) (x y:AO) (d:Nat),aos[i]?=some x->aos[j]?=some y->q10 x.op=true->q10 y.op=true->y.d=some d->d∈x.looksC->h_ ops i j=true∨∃c∈en j,c∈fb i
 lookL:∀(i j:Nat) (x y:AO) (d:Nat),aos[i]?=some x->aos[j]?=some y->q10 x.op=false->q10 y.op=true->y.d=some d->d∈x.looksC->h_ ops i j=true∨i∈en j
section
variable {P:Program} {G:Nat->Option AV} {ops:Array Oper} {aos:List AO} {ls ktm:List Nat} {en fb:Nat->List Nat} {K:St->Prop}
theorem seqT (hdst:∀(i j:Nat) (x y:AO) (d:Nat),aos[i]?=some x->aos[j]?=some y->x.d=some d->y.d=some d->i=j):∀(f:List Nat) (st:St),f.Pairwise (·<·)->(∀j∈f,∃x,aos[j]?=some x∧q10 x.op=true)->opsP P G true (selC aos f) st K->
  ∃X0,K X0∧X0.heap=st.heap∧X0.N=st.N∧(∀t,(∀m∈f,∀x,aos[m]?=some x->x.d≠some t)->eget X0.env t=eget st.env t)∧
   ∀j∈f,∀x,aos[j]?=some x->∃S v,yld P G x S v∧dOK x S.N∧S.heap=st.heap∧S.N=st.N∧(∀d,x.d=some d->eget X0.env d=v)∧
    (∀t,(∀m∈f,j<=m->∀y,aos[m]?=some y->y.d≠some t)->eget X0.env t=eget S.env t)∧(∀t,(∀m∈f,m<j->∀y,aos[m]?=some y->y.d≠some t)->eget S.env t=eget st.env t)
 | [],st,_,_,h=>⟨st,h,rfl,rfl,λ_ _ =>rfl,λj hj=>by cases hj⟩
 | i::f,st,hp,hq,h=>by
  obtain⟨x,hx,hxq⟩:=hq i (by simp);rw[tH] at hp;simp only[selC,hx] at h;obtain⟨v,st1,h1,h2,h3,h4⟩:=yoo_ hxq h;obtain⟨X0,hK,hh,hN,hun,hall⟩:=seqT hdst f st1 hp.2 (λj hj=>hq j (by simp [hj])) h4;have nof:∀d,x.d=some d->∀m∈f,∀y,aos[m]?=some y->y.d≠some d:=λd hxd m hm y hy hyd=>by have:=hdst i m x y d hx hy hxd hyd;have:=hp.1 m hm;omega
  refine⟨X0,hK,hh.trans h2.heap,hN.trans h2.N,λt ht=>?_,λj hj y hy=>?_⟩
  .rw[hun t λm hm=>ht m (by simp [hm]),h2.env,zK (ht i (by simp) x hx)]
  .rcases yV.1 hj with rfl | hj
   .rw[hx] at hy;cases hy;refine⟨st,v,h1,h3,rfl,rfl,λd hxd=>?_,λt ht=>?_,λt _ =>rfl⟩
    .rw[hun d (nof d hxd),h2.env,zY hxd]
    .rw[hun t λm hm=>ht m (by simp [hm]) (Nat.le_of_lt (hp.1 m hm)),h2.env,zK (ht j (by simp) (zN _) x hx)]
   .obtain⟨S,u,e1,e2,e3,e4,e5,e6,e7⟩:=hall j hj y hy;refine⟨S,u,e1,e2,e3.trans h2.heap,e4.trans h2.N,e5,λt ht=>e6 t λm hm=>ht m (by simp [hm]),λt ht=>?_⟩;rw[e7 t λm hm=>ht m (by simp [hm]),h2.env,zK (ht i (by simp) (hp.1 j hj) x hx)]
def YlT (P:Program) (G:Nat->Option AV) (aos:List AO) (en fb:Nat->List Nat) (done:List Nat) (X:St):Prop:=
 ∀(j:Nat) (x:AO),aos[j]?=some x->q10 x.op=true->(∀c∈en j,c∈done)->(∀c∈done,c∉fb j)->∃v,yld P G x X v∧dOK x X.N∧∀d,x.d=some d->eget X.env d=v
theorem s38 (hd:TOk ops aos ls en fb ktm) {done f l:List Nat} {nw old:Nat->Prop} {Y:St} {K':St->Prop} (h:opsP P G true (selC aos f) Y λX0=>opsP P G true (selC aos l) {X0 with env:=X0.trimE ktm} λX1=>
   a18 {X0 with env:=X0.trimE ktm} {X1 with env:=X1.trimE ktm} (d16 (selC aos l))∧K' {X0 with env:=X0.trimE ktm})
  (hno:∀j,(∀c∈en j,c∈done)->nw j∨old j) (hnw:∀j,nw j->∀c∈en j,c∈done)
  (hf:f.Pairwise (·<·)∧∀j,j∈f↔∃x,aos[j]?=some x∧q10 x.op=true∧nw j∧∀c∈done,c∉fb j) (hl:l.Pairwise (·<·)∧∀j,j∈l↔∃x,aos[j]?=some x∧q10 x.op=true∧old j∧∀c∈done,c∉fb j):
  ∃X,K' X∧YlT P G aos en fb done X∧X.heap=Y.heap∧X.N=Y.N∧∀t∈ktm,(∀(j:Nat) (x:AO),aos[j]?=some x->q10 x.op=true->nw j->x.d≠some t)->eget X.env t=eget Y.env t:=by
 obtain⟨X0,h0,hh,hN,hun,hall⟩:=seqT hd.dst f Y hf.1 (λj hj=>let ⟨x,h1,h2,_⟩:=(hf.2 j).1 hj;⟨x,h1,h2⟩) h;obtain⟨X1,⟨hag,hK⟩,hh1,hN1,hun1,hall1⟩:=seqT hd.dst l _ hl.1 (λj hj=>let ⟨x,h1,h2,_⟩:=(hl.2 j).1 hj;⟨x,h1,h2⟩) h0;have tr:∀t∈ktm,eget (X0.trimE ktm) t=eget X0.env t:=λt ht=>eti_ X0 ktm t ht;have tr1:∀t∈ktm,eget (X1.trimE ktm) t=eget X1.env t:=λt ht=>eti_ X1 ktm t ht;have same1:∀t∈ktm,eget X1.env t=eget (X0.trimE ktm) t:=λt ht=>by
  by_cases hw:∃m∈l,∃y,aos[m]?=some y∧y.d=some t
  .obtain⟨m,hm,y,hy,hyt⟩:=hw;have hmem:t∈d16 (selC aos l):=by
    have:y∈selC aos l:=by
     clear hag hun1 hall1 hK h0 h hl
     revert hm
     generalize l=l';intro hm
     induction l' with
     | nil=>cases hm
     | cons a l' ih=>
      simp only[selC];rcases yV.1 hm with rfl | hm
      .rw[hy];simp
      .split
       .exact zR _ (ih hm)
       .exact ih hm
    obtain⟨k,hk⟩:=zM this;exact dm10 hk hyt
   have:=aa16 hag t hmem;simp only at this;rw[<-tr1 t ht,this]
  .exact hun1 t λm hm y hy hyt=>hw ⟨m,hm,y,hy,hyt⟩
 refine⟨_,hK,λj x hx hq h1 h2=>?_,hh,hN,λt ht hno=>?_⟩
 .rcases hno j h1 with e | e
  .have hj:j∈f:=(hf.2 j).2 ⟨x,hx,hq,e,h2⟩;obtain⟨S,v,e1,e2,e3,e4,e5,e6,_⟩:=hall j hj x hx;refine⟨v,yc_ (hh.trans e3.symm) (λt ht=>?_) e1,by simp only;rw[hN,<-e4];exact e2,λd hdd=>?_⟩
   .have htc:t∈x.looksC:=by rw[lq_ hq];exact ht
    have htk:=hd.ktl j x t hx htc
    try simp only
    rw[tr t htk];refine e6 t λm hm hjm y hy hyt=>?_;rcases Nat.lt_or_eq_of_le hjm with hlt | rfl
    .obtain⟨y',hy',hqm,hnm,_⟩:=(hf.2 m).1 hm;rw[hy] at hy';cases hy';rcases hd.lookQ j m x y t hx hy hq hqm hyt htc with h | ⟨c,hc1,hc2⟩
     .obtain⟨o,ho,e,he,hb,hon⟩:=hs_ h;have:=hd.low j o (zX.1 hx).1 ho e he hb;omega
     .exact h2 c (hnw m hnm c hc1) hc2
    .rw[hx] at hy;cases hy;exact hd.self j x t hx hyt htc
   .simp only;rw[tr d (hd.ktd j x d hx hdd)];exact e5 d hdd
  .have hj:j∈l:=(hl.2 j).2 ⟨x,hx,hq,e,h2⟩;obtain⟨S,v,e1,e2,e3,e4,e5,e6,e7⟩:=hall1 j hj x hx;refine⟨v,yc_ e3.symm (λt ht=>?_) e1,by rw[<-e4];exact e2,λd hdd=>?_⟩
   .have htc:t∈x.looksC:=by rw[lq_ hq];exact ht
    have htk:=hd.ktl j x t hx htc;by_cases hw:∃m∈l,j<=m∧∃y,aos[m]?=some y∧y.d=some t
    .obtain⟨m,hm,hjm,y,hy,hyt⟩:=hw;exact (e7 t λm' hm' hlt y' hy' hyt'=>by have:=hd.dst m m' y y' t hy hy' hyt hyt';omega).symm
    .rw[<-e6 t λm hm hjm y hy hyt=>hw ⟨m,hm,hjm,y,hy,hyt⟩];exact (same1 t htk).symm
   .have hdk:=hd.ktd j x d hx hdd;exact (same1 d hdk).symm.trans (e5 d hdd)
 .simp only;rw[tr t ht];exact hun t λm hm x hx hxt=>by obtain⟨y,hy,hq,hs,_⟩:=(hf.2 m).1 hm;rw[hx] at hy;cases hy;exact hno m x hx hq hs hxt
structure SameT (aos:List AO) (ktm:List Nat) (en:Nat->List Nat) (done:List Nat) (X:St) (listed:Nat->Bool) (st:St):Prop where
 heap:st.heap=X.heap
 N:st.N=X.N
 env:∀t∈ktm,(∀(j:Nat) (x:AO),aos[j]?=some x->x.d=some t->q10 x.op=true->(∀c∈en j,c∈done)->listed j=true)->eget st.env t=eget X.env t
theorem b18 (hd:TOk ops aos ls en fb ktm) {listed:Nat->Bool} {done:List Nat} (hcl:∀(i:Nat) (o:Oper),ops[i]?=some o->listed i=true->∀e∈o.after,Region.binds .any e=true->listed e.on=true)
  (hdl:∀c∈done,listed c=true) (hde:∀c∈done,∀q∈en c,q∈done):∀(n i:Nat) (x:AO) (c:Nat),aos.length<=i+n->aos[i]?=some x->q10 x.op=true->c∈done->c∈fb i->listed i=true:=by
 intro n
 induction n with
 | zero=>
  intro i x c hn hx;have:=(zX.1 hx).1;omega
 | succ n ih=>
  intro i x c hn hx hq hc hcf;have up:∀q,h_ ops q i=true->listed q=true->listed i=true:=λq he hql=>by obtain⟨o,ho,e,he,hb,hon⟩:=hs_ he;rw[<-hon];exact hcl q o ho hql e he hb
  rcases hd.fbc i x c hx hq hcf with h | ⟨q,y,hiq,hy,hqy,he,h⟩ | ⟨q,hq1,he,hqc⟩
  .exact up c h (hdl c hc)
  .exact up q he (ih q y c (by omega) hy hqy hc h)
  .exact up q he (hdl q (hde c hc q hqc))
theorem km10 {enl fbl:List (List Nat)} {rec:List Nat->DT} {done:List Nat} {X:St} {i:Nat}:∀{cs:List Nat},t41 P G aos ktm K (k17 aos enl fbl rec done cs) X->i∈cs->
  l16 P G (aos[i]?) X (λY=>opsP P G true (selC aos (f25 aos enl fbl i done)) Y λX0=>opsP P G true (selC aos (l20 aos enl fbl i done)) {X0 with env:=X0.trimE ktm} λX1=>
   a18 {X0 with env:=X0.trimE ktm} {X1 with env:=X1.trimE ktm} (d16 (selC aos (l20 aos enl fbl i done)))∧t41 P G aos ktm K (rec (i::done)) {X0 with env:=X0.trimE ktm})
 | [],_,h=>by cases h
 | c::cs,h,hi=>by
  rcases yV.1 hi with rfl | hi
  .exact h.1
  .exact km10 h.2 hi
theorem ll_ {done:List Nat} {i:Nat} (h:i∈ls) (hi:i∉done):(l18 ls (i::done)).length<(l18 ls done).length:=by
 have e:l18 ls (i::done)=(l18 ls done).filter (· != i):=by unfold l18;rw[List.filter_filter];apply tL;intro x _;by_cases hx:x=i <;> simp [hx]
 rw[e,List.length_filter_lt_length_iff_exists];exact⟨i,by simp [l18,h,hi],by simp⟩
theorem qi_ {j:Nat}:q12 aos j=true↔∃x,aos[j]?=some x∧q10 x.op=true:=by
 unfold q12;cases h:aos[j]? with
 | none=>simp
 | some x=>simp
theorem fs17 {enl fbl:List (List Nat)} {h:Nat} {done:List Nat}:(f25 aos enl fbl h done).Pairwise (·<·)∧∀j,j∈f25 aos enl fbl h done↔∃x,aos[j]?=some x∧q10 x.op=true∧((∀c∈enl.getD j [],c∈h::done)∧¬∀c∈enl.getD j [],c∈done)∧∀c∈h::done,c∉fbl.getD j []:=by
 refine⟨uB _ tR,λj=>?_⟩;simp only[f25,yP,xF,zJ,yX,qi_,ii10,oi_];rw[<-Bool.not_eq_true,ii10];constructor
 .rintro⟨_,⟨x,h1,h2⟩,⟨h3,h4⟩,h5⟩;exact⟨x,h1,h2,⟨h3,h4⟩,h5⟩
 .rintro⟨x,h1,h2,⟨h3,h4⟩,h5⟩;exact⟨(zX.1 h1).1,⟨x,h1,h2⟩,⟨h3,h4⟩,h5⟩
theorem ls13 {enl fbl:List (List Nat)} {h:Nat} {done:List Nat}:(l20 aos enl fbl h done).Pairwise (·<·)∧∀j,j∈l20 aos enl fbl h done↔∃x,aos[j]?=some x∧q10 x.op=true∧(∀c∈enl.getD j [],c∈done)∧∀c∈h::done,c∉fbl.getD j []:=by
 refine⟨uB _ tR,λj=>?_⟩;simp only[l20,yP,xF,zJ,qi_,ii10,oi_];constructor
 .rintro⟨_,⟨x,h1,h2⟩,h3,h5⟩;exact⟨x,h1,h2,h3,h5⟩
 .rintro⟨x,h1,h2,h3,h5⟩;exact⟨(zX.1 h1).1,⟨x,h1,h2⟩,h3,h5⟩
theorem fs15 {enl:List (List Nat)}:(f26 aos enl).Pairwise (·<·)∧∀j,j∈f26 aos enl↔∃x,aos[j]?=some x∧q10 x.op=true∧(∀c∈enl.getD j [],c∈([]:List Nat)):=by
 refine⟨uB _ tR,λj=>?_⟩;simp only[f26,yP,xF,zJ,qi_,ii10];constructor
 .rintro⟨_,⟨x,h1,h2⟩,h3⟩;exact⟨x,h1,h2,h3⟩
 .rintro⟨x,h1,h2,h3⟩;exact⟨(zX.1 h1).1,⟨x,h1,h2⟩,h3⟩
theorem s39 {C:Ctx} {Q:Exit->Act->World->Prop} {enl fbl:List (List Nat)} (hd:TOk ops aos ls (λj=>enl.getD j []) (λj=>fbl.getD j []) ktm) (hlen:ops.toList.length=aos.length) (hget:∀(i:Nat) o x,ops.toList[i]?=some o->aos[i]?=some x->c29 P ops o x=true)
  (hQ:∀st X a w,K X->st.heap=X.heap->st.N=X.N->(∀t∈ktm,eget st.env t=eget X.env t)->Rel G C st a w->Q .normal a w):
  ∀(fuel:Nat) (listed:Array Bool) (done:List Nat) (n:Nat) (X st:St) (a:Act) (w:World),listed.size=ops.size->listed.toList.count false=fuel->
   (∀(i:Nat) (o:Oper),ops[i]?=some o->listed.getD i false=true->∀e∈o.after,Region.binds .any e=true->listed.getD e.on false=true)->
   (∀c∈ls,(listed.getD c false=true↔c∈done))->(∀c∈done,c∈ls)->(∀(j:Nat) (x:AO),aos[j]?=some x->listed.getD j false=true->∀c∈enl.getD j [],c∈done)->(l18 ls done).length<=n->
   t41 P G aos ktm K (mkT aos ls enl fbl n done) X->YlT P G aos (λj=>enl.getD j []) (λj=>fbl.getD j []) done X->SameT aos ktm (λj=>enl.getD j []) done X (λj=>listed.getD j false) st->Rel G C st a w->wpAny P .any ops Q fuel listed a w:=by
 have hlen':ops.size=aos.length:=by simpa using hlen
 have full:∀(listed:Array Bool) (done:List Nat) (n:Nat) (X st:St) (a:Act) (w:World),(∀i,i<ops.size->listed.getD i false=true)->(∀c∈ls,(listed.getD c false=true↔c∈done))->
   t41 P G aos ktm K (mkT aos ls enl fbl n done) X->SameT aos ktm (λj=>enl.getD j []) done X (λj=>listed.getD j false) st->Rel G C st a w->Q .normal a w:=by
  intro listed done n X st a w hall hlo htr hsm hr;have hl:l18 ls done=[]:=by unfold l18;rw[List.filter_eq_nil_iff];intro c hc;obtain⟨x,hx,_⟩:=hd.lsq c hc;have:=(hlo c hc).1 (hall c (by rw[hlen'];exact (zX.1 hx).1));simp [this]
  have hK:K X:=by
   cases n with
   | zero=>simp only[mkT,hl,List.isEmpty_nil,xW] at htr;exact htr
   | succ n=>simp only[mkT,hl,List.isEmpty_nil,xW] at htr;exact htr
  exact hQ st X a w hK hsm.heap hsm.N (λt ht=>hsm.env t ht λj x hx _ _ _ =>hall j (by rw[hlen'];exact (zX.1 hx).1)) hr
 intro fuel
 induction fuel with
 | zero=>
  intro listed done n X st a w hsz hcnt hcl hlo hdl hqs hn htr hyl hsm hr;have hall:∀i,i<ops.size->listed.getD i false=true:=λi hi=>by
   have hi':i<listed.size:=by omega
   have:false∉listed.toList:=List.count_eq_zero.1 hcnt;rw[zC,yG hi',xK];cases e:listed[i] with
   | true=>rfl
   | false=>exact absurd (by rw[<-e];exact Array.getElem_mem_toList hi') this
  refine⟨?_,full listed done n X st a w hall hlo htr hsm hr⟩;rw[vF];intro i hi;obtain⟨h1,o,ho,_⟩:=mem_ready.1 hi;have hi':=(yC.1 ho).1;have h2:=hall i hi';rw[zC,yG (by omega)] at h1 h2;simp only[xK] at h1 h2;rw[h1] at h2;cases h2
 | succ fuel ih=>
  intro listed done n X st a w hsz hcnt hcl hlo hdl hqs hn htr hyl hsm hr;have same:∀i,i<ops.size->listed.getD i true=listed.getD i false:=λi hi=>by rw[zC,zC,yG (by omega)];rfl
  refine⟨λh0=>full listed done n X st a w (λi=>?_) hlo htr hsm hr,λi hi=>?_⟩
  .induction i using Nat.strongRecOn with
   | _ i ihi=>
    intro hi;cases e:listed.getD i false with
    | true=>rfl
    | false=>
     have ho:ops[i]?=some ops[i]:=yG hi;have:i∈Region.ready .any ops listed:=mem_ready.2 ⟨by rw[same i hi];exact e,ops[i],ho,λe he hb=>by have:=hd.low i _ (by omega) ho e he hb;exact ihi e.on this (by omega)⟩
     rw[h0] at this;cases this
  .obtain⟨hun,o,ho,hed⟩:=mem_ready.1 hi;have hi':i<ops.size:=(yC.1 ho).1;rw[same i hi'] at hun;have hlst:∀j,(listed.setIfInBounds i true).getD j false=(listed.getD j false||j==i):=λj=>by
    by_cases e:j=i
    .subst e;have:j<listed.size:=by omega
     simp [this]
    .rw[getD_set_ne false (λe'=>e e'.symm)];simp [e]
   have hcnt':(listed.setIfInBounds i true).toList.count false=fuel:=by
    have hi2:i<listed.toList.length:=by simp;omega
    have hf:listed.toList[i]=false:=by rw[zC,yG (show i<listed.size by omega)] at hun;simpa using hun
    rw[Array.toList_setIfInBounds,List.count_set hi2,hf,hcnt];simp
   have hcl':∀(j:Nat) (o:Oper),ops[j]?=some o->(listed.setIfInBounds i true).getD j false=true->∀e∈o.after,Region.binds .any e=true->(listed.setIfInBounds i true).getD e.on false=true:=by
    intro j o' ho' hj e he hb;rw[hlst] at hj ⊢;by_cases e':j=i
    .subst e';rw[ho] at ho';cases ho';rw[hed e he hb];rfl
    .have:listed.getD j false=true:=by simpa [e'] using hj
     rw[hcl j o' ho' this e he hb];rfl
   have hxi:i<aos.length:=by omega
   have hx:aos[i]?=some aos[i]:=zU hxi;have fin:∀{K1:St->Prop},opP P G true aos[i] st K1->(∀st1 a1 w1,K1 st1->Rel G C st1 a1 w1->wpAny P .any ops Q fuel (listed.setIfInBounds i true) a1 w1)->wpOp P ops Q i (wpAny P .any ops Q fuel (listed.setIfInBounds i true)) a w:=by
    intro K1 hop key;have hs:=os_ hr (K':=wpAny P .any ops Q fuel (listed.setIfInBounds i true)) (Q:=Q) (hget i o _ (by rw[<-ho];simp) hx) hop key;unfold wpOp;rw[ho];simp only;split
    .rename_i hw;rw[zY hw] at hs;exact .inl hs
    .rename_i hw;rw[zK hw] at hs;exact hs
   have hchk:=hget i o _ (by rw[<-ho];simp) hx;generalize hxe:aos[i]=x at*;have lst:∀j,h_ ops i j=true->listed.getD j false=true:=λj he=>by obtain⟨o',ho',e,he,hb,hon⟩:=hs_ he;rw[ho] at ho';cases ho';have:=hed e he hb;rw[hon] at this;exact this
   have hen:∀c∈enl.getD i [],c∈done:=λc hc=>by
    obtain⟨hcl2,h | ⟨j,hji,he,hj⟩⟩:=hd.enc i x c hx hc
    .exact (hlo c hcl2).1 (lst c h)
    .exact hqs j _ (zU (show j<aos.length by omega)) (lst j he) c hj
   cases hq:q10 x.op with
   | true=>
    have hils:i∉ls:=λhm=>by obtain⟨y,hy1,hy2,_⟩:=hd.lsq i hm;rw[hx] at hy1;cases hy1;rw[hq] at hy2;cases hy2
    have hfb:∀c∈done,c∉fbl.getD i []:=λc hc hcf=>by
     have:=b18 hd (listed:=λj=>listed.getD j false) (done:=done) hcl (λc hc=>(hlo c (hdl c hc)).2 hc) (λc hc q hq=>by obtain⟨y,hy,_⟩:=hd.lsq c (hdl c hc);exact hqs c y hy ((hlo c (hdl c hc)).2 hc) q hq) aos.length i x c (by omega) hx hq hc hcf
     simp only[hun] at this;cases this
    obtain⟨v,hy,hdk,hv⟩:=hyl i x hx hq hen hfb;have look:∀t∈x.looks,eget st.env t=eget X.env t:=λt ht=>by
     have htc:t∈x.looksC:=by rw[lq_ hq];exact ht
     refine hsm.env t (hd.ktl i x t hx htc) λj y hyj hyt hqy hsy=>?_;rcases hd.lookQ i j x y t hx hyj hq hqy hyt htc with h | ⟨c,hc1,hc2⟩
     .exact lst j h
     .exact absurd hc2 (hfb c (hsy c hc1))
    have hy':yld P G x st v:=yc_ hsm.heap look hy;have hop:=ooy_ hq (by rw[hsm.N];exact hdk) hy';refine fin hop λst1 a1 w1 ha hr1=>?_;refine ih _ done n X st1 a1 w1 (by simp [hsz]) hcnt' hcl' (λc hc=>?_) hdl (λj y hyj hj=>?_) hn htr hyl ⟨ha.heap.trans hsm.heap,ha.N.trans hsm.N,λt ht hall=>?_⟩ hr1
    .rw[hlst];have hne:c≠i:=λe=>hils (e ▸ hc);have e0:(c==i)=false:=by simpa using hne
     rw[e0,tV];exact hlo c hc
    .rw[hlst] at hj;by_cases e:j=i
     .subst e;exact hen
     .exact hqs j y hyj (by simpa [e] using hj)
    .rw[ha.env];split
     .rename_i e;exact (hv t e).symm
     .rename_i e;refine hsm.env t ht λj y hyj hyt hqy hsy=>?_;have:=hall j y hyj hyt hqy hsy;rw[hlst] at this;have hne:j≠i:=λe'=>by
       subst e';rw[hx] at hyj;cases hyj;exact e hyt
      simpa [hne] using this
   | false=>
    have hm:=hd.loud i x hx hq;obtain⟨x',hx',_,hlu,hg⟩:=hd.lsq i hm;rw[hx] at hx';cases hx';have hnd:i∉done:=λh=>by have:=(hlo i hm).2 h;rw[hun] at this;cases this
    have hlt:=ll_ hm hnd;have hne0:l18 ls done≠[]:=λe=>by rw[e] at hlt;simp at hlt
    obtain⟨n',rfl⟩:∃n',n=n'+1:=⟨n - 1,by omega⟩;have hmk:mkT aos ls enl fbl (n'+1) done=k17 aos enl fbl (mkT aos ls enl fbl n') done (n21 ls enl done):=by simp only[mkT];rw[zK (by simpa using hne0)]
    rw[hmk] at htr;have hin:i∈n21 ls enl done:=by unfold n21;rw[yP];refine⟨hm,?_⟩;rw[zJ,ii10];exact⟨by simpa using hnd,hen⟩
    have hstep:=km10 htr hin;rw[hx] at hstep;obtain⟨d,op,g⟩:=x;simp only at hg hlu hq;subst hg;have hsd:i12 op=true->d=none:=λe=>by simp only[c29,zJ,zB] at hchk;have:=hchk.2;rw[e] at this;have hdd:=hchk.1.1.1;rw[<-hdd];simpa using this
    have look:∀t∈l15 op,eget st.env t=eget X.env t:=λt ht=>by
     have htc:t∈AO.looksC ⟨d,op,none⟩:=by simp only[AO.looksC,xT];exact ht
     refine hsm.env t (hd.ktl i _ t hx htc) λj y hyj hyt hqy hsy=>?_;rcases hd.lookL i j _ y t hx hyj hq hqy hyt htc with h | h
     .exact lst j h
     .exact absurd (hsy i h) hnd
    have hop:=lu_ hlu hsd hsm.heap hsm.N look hstep;refine fin hop λst1 a1 w1 ⟨Y,h4,hu⟩ hr1=>?_
    obtain⟨X2,htr2,hyl2,hh2,hN2,hun2⟩:=s38 hd (done:=i::done) (nw:=λj=>(∀c∈enl.getD j [],c∈i::done)∧¬∀c∈enl.getD j [],c∈done) (old:=λj=>∀c∈enl.getD j [],c∈done) h4
     (λj hj=>by
      by_cases e:∀c∈enl.getD j [],c∈done
      .exact .inr e
      .exact .inl ⟨hj,e⟩) (λj hj=>hj.1) fs17 ls13
    obtain⟨T,hT,hdT⟩:=hu.env;refine ih _ (i::done) n' X2 st1 a1 w1 (by simp [hsz]) hcnt' hcl' (λc hc=>?_) (λc hc=>?_) (λj y hyj hj=>?_) (by omega) htr2 hyl2 ⟨hu.heap.trans hh2.symm,hu.N.trans hN2.symm,λt ht hall=>?_⟩ hr1
    .rw[hlst,yV,<-hlo c hc];simp only[wH,zB];exact⟨λh=>h.elim .inr .inl,λh=>h.elim .inr .inl⟩
    .rcases yV.1 hc with rfl | hc
     .exact hm
     .exact hdl c hc
    .rw[hlst] at hj;intro c hc;by_cases e:j=i
     .subst e;exact zR _ (hen c hc)
     .exact zR _ (hqs j y hyj (by simpa [e] using hj) c hc)
    .have noW:∀(j:Nat) (y:AO),aos[j]?=some y->q10 y.op=true->((∀c∈enl.getD j [],c∈i::done)∧¬∀c∈enl.getD j [],c∈done)->y.d≠some t:=λj y hyj hqy hsy hyt=>by
      have:=hall j y hyj hyt hqy hsy.1;rw[hlst] at this;have hne:j≠i:=λe'=>by subst e';rw[hx] at hyj;cases hyj;rw[hq] at hqy;cases hqy
      exact hsy.2 (hqs j y hyj (by simpa [hne] using this))
     rw[hun2 t ht noW];by_cases e:d=some t
     .exact hdT t e
     .obtain⟨a1,a2⟩:=hT t e;rw[a1,a2];congr 1;refine hsm.env t ht λj y hyj hyt hqy hsy=>?_;have:=hall j y hyj hyt hqy λc hc=>zR _ (hsy c hc);rw[hlst] at this;have hne:j≠i:=λe'=>by
       subst e';rw[hx] at hyj;cases hyj;rw[hq] at hqy;cases hqy
      simpa [hne] using this
theorem do11 {enl fbl:List (List Nat)} {f0 kt:List Nat} {tr:DT} (h:d18 ops aos ls enl fbl f0 tr ktm kt=true):
  TOk ops aos ls (λj=>enl.getD j []) (λj=>fbl.getD j []) ktm∧tr=mkT aos ls enl fbl ls.length []∧f0=f26 aos enl∧∀t∈kt,t∈ktm:=by
 simp only[d18,zJ] at h;obtain⟨⟨⟨⟨h0,h1⟩,h2⟩,h3⟩,h4⟩:=h;have get:∀(i:Nat) (x:AO),aos[i]?=some x->_ :=λi x hx=>by have:=xQ.1 h4 i (xF.2 (zX.1 hx).1);rw[hx] at this;simp only[zJ] at this;exact this
 have prs:∀(i j:Nat) (x y:AO),aos[i]?=some x->aos[j]?=some y->i≠j->∀d,y.d=some d->(x.d≠some d)∧(d∈x.looksC->q10 y.op=true->h_ ops i j=true∨(if q10 x.op then (enl.getD j []).any (λc=>(fbl.getD i []).contains c) else (enl.getD j []).contains i)=true):=λi j x y hx hy hne d hyd=>by
  have:=(get i x hx).2;have:=xQ.1 this j (xF.2 (zX.1 hy).1);simp only[hy,hyd,wH,zB,hne,false_or,zJ,bne_iff_ne,sZ,yX,vA,yQ] at this;refine⟨this.1,λhm hqy=>?_⟩;rcases this.2 with ((h | h) | h) | h
  .exact absurd hm h
  .exact .inl h
  .rw[hqy] at h;cases h
  .right;simpa using h
 refine⟨⟨λi o hi ho e he hb=>?_,λi j x y d hx hy hxd hyd=>?_,λi x d hx hxd=>?_,λi x t hx ht=>?_,λi x d hx hxd=>?_,λi x hx hq=>?_,λc hc=>?_,λi x c hx hc=>?_,λi x c hx hq hc=>?_,λi j x y d hx hy hq hqy hyd hl=>?_,λi j x y d hx hy hq hqy hyd hl=>?_⟩,DT.of_beq h0,by simpa using h1,λt ht=>by have:=xQ.1 h2 t ht;simpa using this⟩
 .have:=(get i aos[i] (zU hi)).1.1.1.1.1.1;simp only[e18,ho,Array.all_eq_true_iff_forall_mem] at this;have:=this e he;simpa [hb] using this
 .by_cases hne:i=j
  .exact hne
  .exact absurd hxd (prs i j x y hx hy hne d hyd).1
 .have:=(get i x hx).1.1.1.1.2;simp only[hxd,zJ] at this;simpa using this.1
 .have:=(get i x hx).1.1.1.2;have:=xQ.1 this t ht;simpa using this
 .have:=(get i x hx).1.1.1.1.2;simp only[hxd,zJ,yX] at this;simpa using this.2
 .have:=(get i x hx).1.1.1.1.1.2;rw[hq] at this;simpa using this
 .have:=xQ.1 h3 c hc;split at this
  .rename_i x hx;simp only[zJ,Option.isNone_iff_eq_none,yX] at this;exact⟨x,hx,this.2,this.1.1,this.1.2⟩
  .cases this
 .have:=(get i x hx).1.1.2;have:=xQ.1 this c hc;simp only[zJ,wH,yE,xF,vA,zW] at this;exact this
 .have:=(get i x hx).1.2;rw[hq] at this;simp only[wM,tE] at this;have:=xQ.1 this c hc;simp only[zJ,wH,yE,xF,vA,zW,qi_] at this;rcases this with h | ⟨q,hqn,he,⟨⟨h1,y,hy1,hy2⟩,h2⟩ | ⟨h1,h2⟩⟩
  .exact .inl h
  .exact .inr (.inl ⟨q,y,h1,hy1,hy2,he,h2⟩)
  .exact .inr (.inr ⟨q,h1,he,h2⟩)
 .have hne:i≠j:=λe=>by
   subst e;rw[hx] at hy;cases hy;have:=(get i x hx).1.1.1.1.2;simp only[hyd,zJ,yX] at this;have:=this.2;simp only[vA,yQ] at this;exact this hl
  have:=(prs i j x y hx hy hne d hyd).2 hl hqy;rw[hq] at this;simpa using this
 .have hne:i≠j:=λe=>by
   subst e;rw[hx] at hy;cases hy;rw[hq] at hqy;cases hqy
  have:=(prs i j x y hx hy hne d hyd).2 hl hqy;rw[hq] at this;simpa using this
theorem ds_ {C:Ctx} {id:Nat} {enl fbl:List (List Nat)} {f0 kt:List Nat} {tr:DT} {st:St} {a:Act} {w:World} {Q:Exit->Act->World->Prop} (hm:P.follows .mixedOrders=true) (hc:c16 P ops ops.toList aos=true) (hdc:d18 ops aos ls enl fbl f0 tr ktm kt=true)
  (hk:opsP P G true (selC aos f0) st λX0=>t41 P G aos ktm (λX=>K {X with env:=X.trimE kt}) tr {X0 with env:=X0.trimE ktm}) (h:Rel G C st a w) (hQ:∀st' a' w',K st'->Rel G C st' a' w'->Q .normal a' w'):(Code.region id ops true).wp P Q a w:=by
 obtain⟨hd,htr,hf0,hkt⟩:=do11 hdc;subst htr hf0;obtain⟨hlen,hget⟩:=cg_ hc;have none0:∀j,(Array.replicate ops.size false).getD j false=false:=λj=>by rw[zC];simp only[Array.getElem?_replicate];split <;> rfl
 obtain⟨X,hst,hyl,hh,hN,hun⟩:=s38 hd (done:=[]) (l:=[]) (nw:=λj=>∀c∈enl.getD j [],c∈([]:List Nat)) (old:=λ_ =>False) (K':=t41 P G aos ktm (λX=>K {X with env:=X.trimE kt}) (mkT aos ls enl fbl ls.length []))
  (om_ hk λX0 h=>⟨trivial,h⟩) (λj hj=>.inl hj) (λj hj=>hj) ⟨fs15.1,λj=>by rw[fs15.2];exact⟨λ⟨x,h1,h2,h3⟩=>⟨x,h1,h2,h3,λc hc=>by cases hc⟩,λ⟨x,h1,h2,h3,_⟩=>⟨x,h1,h2,h3⟩⟩⟩ ⟨List.Pairwise.nil,λj=>⟨(λh=>by cases h),λ⟨_,_,_,h,_⟩=>h.elim⟩⟩
 refine wp_region_any hm ?_
 refine s39 hd hlen hget (λst' X' a' w' hK hh' hN' he hr=>?_) ops.size _ [] ls.length X st a _ (by simp) (by simp) (λi o ho hi=>by rw[none0] at hi;cases hi) (λc _ =>by rw[none0];simp) (λc hc=>by cases hc) (λj x hx hj=>by rw[none0] at hj;cases hj) (xH _ _)
  hst hyl ⟨hh.symm,hN.symm,λt ht hall=>(hun t ht λj x hx hq hsj hxt=>by have:=hall j x hx hxt hq hsj;simp only[none0] at this;cases this).symm⟩ h.drew
 obtain⟨nm,F,hx⟩:=hr;refine hQ _ _ _ hK ?_;have hx2:=hx.trimEnv kt;refine Rel.env (st:={st' with env:=st'.trimE kt}) ⟨nm,F,hx2⟩ hN'.symm hh'.symm λt=>?_;show eget (X'.trimE kt) t=eget (st'.trimE kt) t;exact ts11 (λu hu=>he u (hkt u hu)) t
end
