/- Lemmas. -/
import Derived.Test.YtkgcnoghjibiaaaGreatDoorYAbOpP
set_option linter.unusedSimpArgs false
namespace Go.Proofs.YtkgcnoghjibiaaaGreatDoor.Ab
open Go Go.RowKit
def v12 (G:Nat->Option AV) (op:AOp) (st:St):Option AV:=
 match op with
 | .mov x=>some (st.ev G x)
 | .pick c a b=>a35 (st.ev G c) (st.ev G a) (st.ev G b)
 | .build zs ps=>a21 G st zs ps
 | .load p=>a32 st.heap (st.ev G p)
 | .loadN p n=>a19 st.heap (st.ev G p) n
 | .bin op x y=>abin op (st.ev G x) (st.ev G y)
 | .eqA neg ks x y=>aeqA neg ks (st.ev G x) (st.ev G y)
 | .eqB neg x y=>aeqB neg (st.ev G x) (st.ev G y)
 | .un op x=>aun op (st.ev G x)
 | .conv k x=>a37 k (st.ev G x)
 | .fld x off=>afld (st.ev G x) off
 | .faddr p off=>a28 (st.ev G p) off
 | .iaddr sz x i=>a16 st.heap sz (st.ev G x) (st.ev G i)
 | .idx x i=>aidx (st.ev G x) (st.ev G i)
 | .slc z x lo hi=>a31 st.heap z (st.ev G x) (lo.map (st.ev G)) (hi.map (st.ev G))
 | .len b x=>alen b (st.ev G x)
 | .ext x i=>aext (st.ev G x) i
 | .nchk x=>a39 (st.ev G x)
 | .mkfn f caps=>some (.fn f (evs G st caps))
 | .slcG n x=>a34 n (st.ev G x)
 | .mx mn x y=>amx mn (st.ev G x) (st.ev G y)
 | .mki t x=>some (.iface t (st.ev G x))
 | .eqI neg x y=>aeqI neg (st.ev G x) (st.ev G y)
 | .mget ok ag ks z x k=>a36 st.heap ok ag ks z (st.ev G x) (st.ev G k)
 | _ =>none
def q10:AOp->Bool
 | .nilrow .. | .alloc .. | .box .. | .mkrow .. | .store .. | .app .. | .mks .. | .rng _ | .nxt _ | .callB .. | .callvB .. | .mkmap | .mput .. =>false
 | _ =>true
theorem ev_ (G:Nat->Option AV) (d:Option Nat) (op:AOp) (st:St) (h:q10 op=true):e12 G d op st=(v12 G op st).bind (st.put d):=by cases op <;> first | rfl | simp [q10] at h
def l12:Opd->List Nat
 | .t n=>[n]
 | _ =>[]
def l13:AOp->List Nat
 | .slcG _ x | .mov x | .load x | .loadN x _ | .un _ x | .conv _ x | .fld x _ | .faddr x _ | .len _ x | .ext x _ | .nchk x | .mki _ x=>l12 x
 | .pick c a b=>l12 c++l12 a++l12 b
 | .build _ ps=>ps.flatMap λp=>l12 p.2.2
 | .mget _ _ _ _ x y | .mx _ x y | .bin _ x y | .eqA _ _ x y | .eqB _ x y | .eqI _ x y | .iaddr _ x y | .idx x y=>l12 x++l12 y
 | .slc _ x lo hi=>l12 x++lo.toList.flatMap l12++hi.toList.flatMap l12
 | .mkfn _ xs | .call _ xs | .callB _ xs=>xs.flatMap l12
 | .callv x xs | .callvB x xs=>l12 x++xs.flatMap l12
 | _ =>[]
def AO.looks (o:AO):List Nat:=l13 o.op++(match o.g with | some (t,_)=>[t] | none=>[])
section
variable {P:Program} {G:Nat->Option AV} {st st':St}
theorem ec_ {x:Opd} (h:∀t∈l12 x,eget st'.env t=eget st.env t):st'.ev G x=st.ev G x:=by cases x <;> first | rfl | exact h _ (by simp [l12])
theorem ec10 {xs:List Opd} (h:∀t∈xs.flatMap l12,eget st'.env t=eget st.env t):evs G st' xs=evs G st xs:=by
 induction xs with
 | nil=>rfl
 | cons x xs ih=>
  simp only[evs];rw[ec_ λt ht=>h t (by simp [ht]),ih λt ht=>h t (by rw[wB];simp [ht])]
theorem ac17 {ps:List (Nat×Nat×Opd)} (h:∀t∈ps.flatMap (λp=>l12 p.2.2),eget st'.env t=eget st.env t):∀zs,a21 G st' zs ps=a21 G st zs ps:=by
 induction ps with
 | nil=>intro zs;rfl
 | cons p ps ih=>
  intro zs;obtain⟨off,n,x⟩:=p;simp only[a21];rw[ec_ λt ht=>h t (by simp [ht]),ih λt ht=>h t (by rw[wB];simp [ht])]
theorem vc11 {op:AOp} (hh:st'.heap=st.heap) (h:∀t∈l13 op,eget st'.env t=eget st.env t):v12 G op st'=v12 G op st:=by
 cases op <;> simp only[v12,l13,yB] at h ⊢
 case mov x=>rw[ec_ h]
 case pick c a b=>rw[ec_ (x:=c) λt ht=>h t (by simp [ht]),ec_ (x:=a) λt ht=>h t (by simp [ht]),ec_ (x:=b) λt ht=>h t (by simp [ht])]
 case build zs ps=>rw[ac17 h]
 case mkfn f xs=>rw[ec10 h]
 case slc z x lo hi=>
  have e1:lo.map (st'.ev G)=lo.map (st.ev G):=by cases lo with | none=>rfl | some y=>simp only[yF];rw[ec_ λt ht=>h t (by simp [ht])]
  have e2:hi.map (st'.ev G)=hi.map (st.ev G):=by cases hi with | none=>rfl | some y=>simp only[yF];rw[ec_ λt ht=>h t (by simp [ht])]
  rw[hh,ec_ (x:=x) λt ht=>h t (by simp [ht]),e1,e2]
 all_goals first
  | (rw[hh,ec_ (x:=_) λt ht=>h t (by simp [ht]),ec_ (x:=_) λt ht=>h t (by simp [ht])];done)
  | (rw[ec_ (x:=_) λt ht=>h t (.inl ht),ec_ (x:=_) λt ht=>h t (.inr ht)];done)
  | (rw[hh,ec_ (x:=_) λt ht=>h t (.inl ht),ec_ (x:=_) λt ht=>h t (.inr ht)];done)
  | (rw[hh,ec_ h];done)
  | (rw[ec_ h];done)
def q16 (P:Program) (G:Nat->Option AV) (f:Nat) (args:List AV) (st:St) (v:AV):Prop:=
 (∃vargs args',v10 v st.heap args=some vargs∧FitL vargs args'∧P_ P G f args' v∧q13 args v=true)∨
 ∃vargs args',viewBs st.heap args=some vargs∧FitL vargs args'∧P10 P G f args' v
def qv (P:Program) (G:Nat->Option AV) (op:AOp) (st:St) (v:AV):Prop:=
 match op with
 | .call f xs=>q16 P G f (evs G st xs) st v
 | .callv x xs=>match st.ev G x with
  | .fn f caps=>b11 P f=true∧q16 P G f (evs G st xs++caps) st v
  | _ =>False
 | op=>v12 G op st=some v
def yld (P:Program) (G:Nat->Option AV) (o:AO) (st:St) (v:AV):Prop:=
 match o.g with
 | none=>qv P G o.op st v
 | some (t,want)=>(st.get t= .bool want∧qv P G o.op st v)∨((st.get t= .bool (!want)∨st.get t= .undef)∧v= .undef)
def dOK (o:AO) (N:Nat):Prop:=∀d,o.d=some d->d<N
structure A_ (o:AO) (v:AV) (st st1:St):Prop where
 heap:st1.heap=st.heap
 N:st1.N=st.N
 env:∀t,eget st1.env t=if o.d=some t then v else eget st.env t
theorem qc_ {f:Nat} {args:List AV} {v:AV} (hh:st'.heap=st.heap) (h:q16 P G f args st v):q16 P G f args st' v:=by
 rcases h with ⟨a,b,h1,h2⟩ | ⟨a,b,h1,h2⟩
 .exact .inl ⟨a,b,by rw[hh];exact h1,h2⟩
 .exact .inr ⟨a,b,by rw[hh];exact h1,h2⟩
theorem qc10 {op:AOp} {v:AV} (hh:st'.heap=st.heap) (h:∀t∈l13 op,eget st'.env t=eget st.env t) (hv:qv P G op st v):qv P G op st' v:=by
 cases op <;> first
  | exact (vc11 (G:=G) hh h).trans hv
  | (simp only[qv] at hv ⊢;rw[ec10 h];exact qc_ hh hv)
  | (simp only[qv,l13,yB] at hv h ⊢
     rw[ec10 λt ht=>h t (.inr ht),ec_ λt ht=>h t (.inl ht)];split
     .rename_i e;rw[e] at hv;exact⟨hv.1,qc_ hh hv.2⟩
     .rename_i e1 e2;split at hv
      .rename_i e3;exact (e2 _ _ e3).elim
      .exact hv)
theorem yc_ {o:AO} {v:AV} (hh:st'.heap=st.heap) (h:∀t∈o.looks,eget st'.env t=eget st.env t) (hv:yld P G o st v):yld P G o st' v:=by
 have h1:∀t∈l13 o.op,eget st'.env t=eget st.env t:=λt ht=>h t (by simp [AO.looks,ht]);unfold yld at hv ⊢;split
 .rename_i e;rw[e] at hv;exact qc10 hh h1 hv
 .rename_i t want e;rw[e] at hv;have h2:st'.get t=st.get t:=h t (by simp [AO.looks,e]);rw[h2];rcases hv with ⟨a,b⟩ | hv
  .exact .inl ⟨a,qc10 hh h1 b⟩
  .exact .inr hv
theorem pa_ {o:AO} {v:AV} {st1:St} (h:st.put o.d v=some st1):A_ o v st st1∧dOK o st.N:=by
 cases hd:o.d with
 | none=>
  rw[hd] at h;cases h;exact⟨⟨rfl,rfl,λt=>by simp [hd]⟩,λd' e=>by rw[hd] at e;cases e⟩
 | some d=>
  rw[hd] at h;simp only[St.put] at h;split at h
  .rename_i hlt;cases h;refine⟨⟨rfl,rfl,λt=>?_⟩,λd' e=>by rw[hd] at e;cases e;exact hlt⟩;simp only[eget,hd,zZ]
  .cases h
theorem pod_ {o:AO} (h:dOK o st.N) (v:AV):∃st1,st.put o.d v=some st1∧A_ o v st st1:=by
 have:∃st1,st.put o.d v=some st1:=by
  unfold St.put;cases hd:o.d with
  | none=>exact⟨_,rfl⟩
  | some d=>simp [h d hd]
 obtain⟨st1,e⟩:=this;exact⟨st1,e,(pa_ e).1⟩
theorem bq_ {args:List AV} {r:AV} (h:q13 args r=true):b_ st args r=st:=by
 unfold b_;unfold q13 at h;split
 .rfl
 .rename_i hf;simp only[hf,tE,List.isEmpty_iff] at h;rw[h];rfl
theorem A_.know {o:AO} {v:AV} {st1:St} {t:Nat} {b:Bool} (ht:st.get t= .bool b) (h:A_ o v (st.know t b) st1):A_ o v st st1:=by
 refine⟨h.heap,h.N,λs=>?_⟩;rw[h.env];split
 .rfl
 .simp only[St.know,eget];split
  .rename_i e;subst e;exact ht.symm
  .rfl
theorem ke_ {t:Nat} {b:Bool} (ht:st.get t= .bool b) (s:Nat):eget (st.know t b).env s=eget st.env s:=by
 simp only[St.know,eget];split
 .rename_i e;subst e;exact ht.symm
 .rfl
theorem qos_ {o:AO} {K:St->Prop} (hq:q10 o.op=true) (h:s29 P G true o.d o.op st K):∃v st1,qv P G o.op st v∧A_ o v st st1∧dOK o st.N∧K st1:=by
 have call:∀{f:Nat} {args:List AV},c25 P G true f args o.d st K->∃v st1,q16 P G f args st v∧A_ o v st st1∧dOK o st.N∧K st1:=by
  rintro f args (⟨va,a',r,st1,h1,h2,h3,h4,h5,h6⟩ | ⟨va,a',r,st1,h1,h2,h3,h4,h6⟩)
  .rw[bq_ (h5 rfl)] at h4;obtain⟨h7,h8⟩:=pa_ h4;exact⟨r,st1,.inl ⟨va,a',h1,h2,h3,h5 rfl⟩,h7,h8,h6⟩
  .obtain⟨h7,h8⟩:=pa_ h4;exact⟨r,st1,.inr ⟨va,a',h1,h2,h3⟩,h7,h8,h6⟩
 have hX:∀{f:Nat} {args:List AV} {src:Option Opd×List Opd},c24 P G true f args src o.d st K->c25 P G true f args o.d st K:=by
  rintro f args src ((h | ⟨h,_⟩) | ⟨h,_⟩)
  .exact h
  .cases h
  .cases h
 have pure_:(match e12 G o.d o.op st with | some st'=>K st' | none=>False)->∃v st1,v12 G o.op st=some v∧A_ o v st st1∧dOK o st.N∧K st1:=by
  rw[ev_ _ _ _ _ hq];intro h;cases hv:v12 G o.op st with
  | none=>rw[hv] at h;exact h.elim
  | some v=>
   rw[hv] at h;simp only[vN] at h;split at h
   .rename_i st1 e;obtain⟨h7,h8⟩:=pa_ e;exact⟨v,st1,rfl,h7,h8,h⟩
   .exact h.elim
 generalize hop:o.op=op at*;cases op
 case call f xs=>exact call (hX (src:=(none,xs)) h)
 case callv x xs=>
  simp only[s29] at h;simp only[qv];split at h
  .rename_i f caps e;obtain⟨v,st1,h1,h2,h3,h4⟩:=call (hX h.2);exact⟨v,st1,by rw[e];exact⟨h.1,h1⟩,h2,h3,h4⟩
  .exact h.elim
 case callB=>simp [q10] at hq
 case callvB=>simp [q10] at hq
 all_goals exact pure_ h
theorem soq_ {o:AO} {v:AV} (hq:q10 o.op=true) (hd:dOK o st.N) (h:qv P G o.op st v):s29 P G true o.d o.op st (A_ o v st):=by
 obtain⟨st1,e1,e2⟩:=pod_ hd v;have call:∀{f:Nat} {args:List AV},q16 P G f args st v->c25 P G true f args o.d st (A_ o v st):=by
  rintro f args (⟨va,a',h1,h2,h3,h4⟩ | ⟨va,a',h1,h2,h3⟩)
  .exact .inl ⟨va,a',v,st1,h1,h2,h3,by rw[bq_ h4];exact e1,λ_ =>h4,e2⟩
  .exact .inr ⟨va,a',v,st1,h1,h2,h3,e1,e2⟩
 have pure_:v12 G o.op st=some v->(match e12 G o.d o.op st with | some st'=>A_ o v st st' | none=>False):=by intro h;rw[ev_ _ _ _ _ hq,h,vN,e1];exact e2
 generalize hop:o.op=op at*;cases op
 case call f xs=>exact .inl (.inl (call h))
 case callv x xs=>
  simp only[qv] at h;simp only[s29];split at h
  .rename_i f caps e;rw[e];exact⟨h.1,.inl (.inl (call h.2))⟩
  .exact h.elim
 case callB=>simp [q10] at hq
 case callvB=>simp [q10] at hq
 all_goals exact pure_ h
theorem yoo_ {o:AO} {K:St->Prop} (hq:q10 o.op=true) (h:opP P G true o st K):∃v st1,yld P G o st v∧A_ o v st st1∧dOK o st.N∧K st1:=by
 unfold opP at h;have skip:∀{st:St},s33 o.d st K->∃st1,A_ o .undef st st1∧dOK o st.N∧K st1:=by
  intro st h;unfold s33 at h;split at h
  .rename_i st1 e;obtain⟨h1,h2⟩:=pa_ e;exact⟨st1,h1,h2,h⟩
  .exact h.elim
 split at h
 .rename_i e;unfold yld;rw[e];exact qos_ hq h
 .rename_i t want e;unfold yld;rw[e];split at h
  .rename_i b hb;by_cases hw:b=want
   .subst hw;obtain⟨v,st1,h1,h2,h3,h4⟩:=qos_ hq (h.1 rfl);exact⟨v,st1,.inl ⟨hb,qc10 (st:=st.know t b) rfl (λs _ =>(ke_ hb s).symm) h1⟩,h2.know hb,h3,h4⟩
   .have hw':b=(!want):=by revert hw;cases b <;> cases want <;> decide
    subst hw';obtain⟨st1,h1,h2,h3⟩:=skip (h.2 rfl);exact⟨.undef,st1,.inr ⟨.inl hb,rfl⟩,h1.know hb,h2,h3⟩
  .rename_i hb;obtain⟨st1,h1,h2,h3⟩:=skip h;exact⟨.undef,st1,.inr ⟨.inr hb,rfl⟩,h1,h2,h3⟩
  .exact h.elim
theorem sm10 {op:AOp} {d:Option Nat} {q:Bool} {K K':St->Prop} (h:s29 P G q d op st K) (hk:∀st,K st->K' st):s29 P G q d op st K':=by
 cases op
 case call f xs=>exact cm11 (src:=(none,xs)) h hk
 case callv x xs=>
  simp only[s29] at h ⊢;split at h
  .exact⟨h.1,cm11 h.2 hk⟩
  .exact h.elim
 case callB f xs=>exact cm11 (src:=(none,xs)) h hk
 case callvB x xs=>
  simp only[s29] at h ⊢;split at h
  .exact⟨h.1,cm11 h.2 hk⟩
  .exact h.elim
 all_goals
  simp only[s29] at h ⊢;split at h
  .exact hk _ h
  .exact h.elim
theorem om11 {o:AO} {q:Bool} {K K':St->Prop} (h:opP P G q o st K) (hk:∀st,K st->K' st):opP P G q o st K':=by
 have skipm:∀{st:St},s33 o.d st K->s33 o.d st K':=by
  intro st h;unfold s33 at h ⊢;split at h
  .exact hk _ h
  .exact h.elim
 unfold opP at h ⊢;split
 .rename_i e;rw[e] at h;exact sm10 h hk
 .rename_i t want e;simp only[e] at h;split
  .rename_i b hb;rw[hb] at h;exact⟨λe=>sm10 (h.1 e) hk,λe=>skipm (h.2 e)⟩
  .rename_i hb;rw[hb] at h;exact skipm h
  .rename_i h1 h2;split at h
   .rename_i e;exact (h1 _ e).elim
   .rename_i e;exact (h2 e).elim
   .exact h.elim
theorem om_ {q:Bool} {K K':St->Prop}:∀{os:List AO} {st:St},opsP P G q os st K->(∀st,K st->K' st)->opsP P G q os st K'
 | [],_,h,hk=>hk _ h
 | _ ::_,_,h,hk=>om11 h λ_ h'=>om_ h' hk
theorem ooy_ {o:AO} {v:AV} (hq:q10 o.op=true) (hd:dOK o st.N) (h:yld P G o st v):opP P G true o st (A_ o v st):=by
 unfold yld at h;unfold opP;have skip:∀{st:St},dOK o st.N->s33 o.d st (A_ o .undef st):=by intro st hd;obtain⟨st1,e1,e2⟩:=pod_ hd .undef;unfold s33;rw[e1];exact e2
 have skipm:∀{st:St} {K K':St->Prop},(∀st,K st->K' st)->s33 o.d st K->s33 o.d st K':=by
  intro st K K' hk h;unfold s33 at h ⊢;split at h
  .exact hk _ h
  .exact h.elim
 split at h
 .rename_i e;simp only[e];exact soq_ hq hd h
 .rename_i t want e;simp only[e];rcases h with ⟨ht,h⟩ | ⟨ht | ht,rfl⟩
  .rw[ht];refine⟨λ_ =>?_,λhb=>by cases want <;> simp at hb⟩;exact sm10 (soq_ (st:=st.know t want) hq hd (qc10 (st:=st) (st':=st.know t want) rfl (λs _ =>ke_ ht s) h)) λst1 h1=>h1.know ht
  .rw[ht];refine⟨λhb=>by cases want <;> simp at hb,λ_ =>?_⟩;exact skipm (λst1 h1=>h1.know ht) (skip (st:=st.know t (!want)) hd)
  .rw[ht];exact skip hd
end
def h_ (ops:Array Oper) (i j:Nat):Bool:=
 match ops[i]? with
 | some o=>o.after.any λe=>Region.binds .any e&&e.on==j
 | none=>false
def p18 (ops:Array Oper) (x y:AO) (i j:Nat):Bool:=
 i==j||match y.d with
  | some d=>x.d != some d&&(!(x.looks.contains d)||(if j<i then h_ ops i j else h_ ops j i))
  | none=>true
def e18 (ops:Array Oper) (i:Nat):Bool:=
 match ops[i]? with
 | some o=>o.after.all λe=>!Region.binds .any e||decide (e.on<i)
 | none=>true
def b16 (ops:Array Oper) (c n:Nat):Bool:=
 (List.range c).all (λi=>(List.range (c+1)).any λs=>decide (i<s)&&h_ ops s i)&&
 (List.range n).all (λj=>decide (j<=c)||(List.range j).any λp=>decide (c<=p)&&h_ ops j p)
def dchk (ops:Array Oper) (aos:List AO):Bool:=
 aos.zipIdx.all λ(x,i)=>(q10 x.op||b16 ops i aos.length)&&e18 ops i&&aos.zipIdx.all λ(y,j)=>p18 ops x y i j
structure DOk (ops:Array Oper) (aos:List AO):Prop where
 quiet:∀(i:Nat) (x:AO),aos[i]?=some x->q10 x.op=true∨b16 ops i aos.length=true
 low:∀(i:Nat) (o:Oper),i<aos.length->ops[i]?=some o->∀e∈o.after,Region.binds .any e=true->e.on<i
 dst:∀(i j:Nat) (x y:AO) (d:Nat),aos[i]?=some x->aos[j]?=some y->x.d=some d->y.d=some d->i=j
 look:∀(i j:Nat) (x y:AO) (d:Nat),aos[i]?=some x->aos[j]?=some y->i≠j->y.d=some d->d∈x.looks->if j<i then h_ ops i j=true else h_ ops j i=true
theorem do12 {ops:Array Oper} {aos:List AO} (h:dchk ops aos=true):DOk ops aos:=by
 have get:∀(i:Nat) (x:AO),aos[i]?=some x->(x,i)∈aos.zipIdx:=λi x hx=>by rw[uH];exact hx
 simp only[dchk,xQ,zJ,Prod.forall] at h;refine⟨λi x hx=>by simpa using (h x i (get i x hx)).1.1,λi o hi ho e he hb=>?_,λi j x y d hx hy h1 h2=>?_,λi j x y d hx hy hne h1 h2=>?_⟩
 .have:=(h aos[i] i (get i _ (zU hi))).1.2;simp only[e18,ho,Array.all_eq_true_iff_forall_mem] at this;have:=this e he;simpa [hb] using this
 .have:=(h x i (get i x hx)).2 y j (get j y hy);simp only[p18,h2,h1,uP,yM,tV,zB] at this;exact this
 .have:=(h x i (get i x hx)).2 y j (get j y hy);simp only[p18,h1,wH,zB,hne,false_or,zJ,yX,vA,yQ,h2,wF] at this;split
  .rename_i e;simpa [e] using this.2
  .rename_i e;simpa [e] using this.2
structure Part (aos:List AO) (vs:Nat->AV) (st0:St) (S:Nat->Bool) (st:St):Prop where
 heap:st.heap=st0.heap
 N:st.N=st0.N
 got:∀(t j:Nat) (x:AO),aos[j]?=some x->x.d=some t->S j=true->eget st.env t=vs j
 old:∀t,(∀(j:Nat) (x:AO),aos[j]?=some x->x.d=some t->S j=false)->eget st.env t=eget st0.env t
theorem Part.step {ops:Array Oper} {aos:List AO} {vs:Nat->AV} {st0 st st1:St} {S S':Nat->Bool} (hd:DOk ops aos) (h:Part aos vs st0 S st) {i:Nat} {x:AO} (hx:aos[i]?=some x)
  (ha:A_ x (vs i) st st1) (hS:∀j,S' j=(S j||j==i)):Part aos vs st0 S' st1:=by
 refine⟨ha.heap.trans h.heap,ha.N.trans h.N,λt j y hy ht hj=>?_,λt ho=>?_⟩
 .rw[ha.env];by_cases e:j=i
  .subst e;rw[hx] at hy;cases hy;rw[zY ht]
  .have:S j=true:=by rw[hS] at hj;simpa [e] using hj
   rw[zK (λe'=>e (hd.dst j i y x t hy hx ht e'))];exact h.got t j y hy ht this
 .rw[ha.env];by_cases e:x.d=some t
  .have:=ho i x hx e;rw[hS] at this;simp at this
  .rw[zK e];refine h.old t λj y hy ht=>?_;have:=ho j y hy ht;rw[hS] at this;simp only[uT] at this;exact this.1
theorem Part.congr {aos:List AO} {vs:Nat->AV} {st0 st:St} {S S':Nat->Bool} (h:Part aos vs st0 S st) (hS:∀j,j<aos.length->S' j=S j):Part aos vs st0 S' st:=
 ⟨h.heap,h.N,λt j x hx ht hj=>h.got t j x hx ht (by rw[<-hS j (zX.1 hx).1];exact hj),λt ho=>h.old t λj x hx ht=>by rw[<-hS j (zX.1 hx).1];exact ho j x hx ht⟩
section
variable {P:Program} {G:Nat->Option AV}
def c32 (P:Program) (G:Nat->Option AV) (aos:List AO) (vs:Nat->AV):Nat->Nat->St->St->Prop
 | 0,_,st,st'=>st=st'
 | m+1,k,st,st'=>∃x,aos[k]?=some x∧q10 x.op=true∧yld P G x st (vs k)∧dOK x st.N∧∃st1,A_ x (vs k) st st1∧c32 P G aos vs m (k+1) st1 st'
theorem cc_ {aos:List AO} {vs vs':Nat->AV}:∀{m k:Nat} {st st':St},c32 P G aos vs m k st st'->(∀j,k<=j->vs' j=vs j)->c32 P G aos vs' m k st st'
 | 0,_,_,_,h,_ =>h
 | m+1,k,st,st',⟨x,h1,h2,h3,h4,st1,h5,h6⟩,hv=>⟨x,h1,h2,by rw[hv k (zN _)];exact h3,h4,st1,by rw[hv k (zN _)];exact h5,cc_ h6 λj hj=>hv j (by omega)⟩
theorem soo_ {aos:List AO} {K:St->Prop}:∀(r k:Nat) (st:St),r+k=aos.length->opsP P G true (aos.drop k) st K->
  ∃m vs stn,k+m<=aos.length∧c32 P G aos vs m k st stn∧((k+m=aos.length∧K stn)∨∃x,aos[k+m]?=some x∧q10 x.op=false∧opP P G true x stn λst'=>opsP P G true (aos.drop (k+m+1)) st' K)
 | 0,k,st,hk,h=>by
  have:k=aos.length:=by omega
  subst this;rw[yO (zN _)] at h;exact⟨0,λ_ =>.top,st,zN _,rfl,.inl ⟨rfl,h⟩⟩
 | r+1,k,st,hk,h=>by
  have hlt:k<aos.length:=by omega
  have hx:aos[k]?=some aos[k]:=zU hlt;rw[xU hlt] at h;cases hq:q10 aos[k].op with
  | false=>exact⟨0,λ_ =>.top,st,by omega,rfl,.inr ⟨aos[k],by simp,hq,h⟩⟩
  | true=>
   obtain⟨v,st1,h1,h2,h3,h4⟩:=yoo_ hq h;obtain⟨m,vs,stn,e1,e2,e3⟩:=soo_ r (k+1) st1 (by omega) h4;refine⟨m+1,λj=>if j=k then v else vs j,stn,by omega,⟨aos[k],hx,hq,by simpa using h1,h3,st1,by simpa using h2,cc_ e2 λj hj=>zK (by omega)⟩,?_⟩;rw[show k+(m+1)=k+1+m from by omega];exact e3
theorem cp_ {ops:Array Oper} {aos:List AO} {vs:Nat->AV} {st0 stn:St} (hd:DOk ops aos) {lo:Nat}:∀(m k:Nat) (st:St),lo<=k->c32 P G aos vs m k st stn->Part aos vs st0 (λj=>decide (lo<=j)&&decide (j<k)) st->
  (∀i,k<=i->i<k+m->∃x st,aos[i]?=some x∧q10 x.op=true∧Part aos vs st0 (λj=>decide (lo<=j)&&decide (j<i)) st∧yld P G x st (vs i)∧dOK x st0.N)∧Part aos vs st0 (λj=>decide (lo<=j)&&decide (j<k+m)) stn
 | 0,k,st,hlo,hc,hp=>by have:st=stn:=hc;subst this;exact⟨λi h1 h2=>by omega,by simpa using hp⟩
 | m+1,k,st,hlo,hc,hp=>by
  obtain⟨x,hx,hq,hy,hdk,st1,ha,hc⟩:=hc;have hp1:=hp.step (S':=λj=>decide (lo<=j)&&decide (j<k+1)) hd hx ha (λj=>by rw[yY];simp;omega)
  obtain⟨h2,h3⟩:=cp_ hd m (k+1) st1 (by omega) hc hp1;refine⟨λi hi hi2=>?_,by rw[show k+(m+1)=k+1+m from by omega];exact h3⟩;by_cases e:i=k
  .subst e;exact⟨x,st,hx,hq,hp,hy,by rw[<-hp.N];exact hdk⟩
  .exact h2 i (by omega) (by omega)
theorem Rel.drew {C:Ctx} {st:St} {a:Act} {w:World} (h:Rel G C st a w):Rel G C st a {w with drawn:=w.drawn+1}:=by obtain⟨nm,F,hx⟩:=h;exact⟨nm,F,hx.world (w':={w with drawn:=w.drawn+1}) (F':=F) ⟨hx.keep.os,hx.keep.tape,hx.keep.output,hx.keep.size,hx.keep.block⟩ (λ_ h=>h) (λ_ h=>.inl h) (λb hb=>hx.good.1 b hb) (λ_ _ =>rfl)⟩
theorem cg_ {ops:Array Oper}:∀{l:List Oper} {aos:List AO},c16 P ops l aos=true->l.length=aos.length∧∀(i:Nat) o x,l[i]?=some o->aos[i]?=some x->c29 P ops o x=true
 | [],[],_ =>⟨rfl,λi o x h=>by simp at h⟩
 | o::l,x::aos,h=>by
  simp only[c16,zJ] at h;obtain⟨h1,h2⟩:=cg_ h.2;refine⟨by simp [h1],λi o' x' ho hx=>?_⟩
  match i with
  | 0=>simp at ho hx;subst ho;subst hx;exact h.1
  | i+1=>exact h2 i o' x' (by simpa using ho) (by simpa using hx)
 | [],_ ::_,h=>by simp [c16] at h
 | _ ::_,[],h=>by simp [c16] at h
theorem hs_ {ops:Array Oper} {i j:Nat} (h:h_ ops i j=true):∃o,ops[i]?=some o∧∃e∈o.after,Region.binds .any e=true∧e.on=j:=by
 unfold h_ at h;split at h
 .rename_i o ho;obtain⟨e,he,hb⟩:=Array.any_eq_true'.1 h;simp only[zJ,zB] at hb;exact⟨o,ho,e,he,hb⟩
 .cases h
theorem Rel.env {C:Ctx} {st st':St} {a:Act} {w:World} (h:Rel G C st a w) (hN:st'.N=st.N) (hh:st'.heap=st.heap) (he:∀t,eget st'.env t=eget st.env t):Rel G C st' a w:=by obtain⟨nm,F,hx⟩:=h;refine⟨nm,F,by rw[hN];exact hx.N,hx.df,λt=>?_,by rw[hh];exact hx.box,by rw[hh];exact hx.inj,by rw[hh];exact hx.fr,by rw[hh];exact hx.own,hx.good,hx.f0,hx.fb,hx.keep,by rw[hh,hN];exact hx.vn⟩;simp only[St.get,he];exact hx.env t
theorem ba10 {ops:Array Oper} {c n:Nat} (h:b16 ops c n=true) {listed:Nat->Bool} (hcl:∀(i:Nat) (o:Oper),ops[i]?=some o->listed i=true->∀e∈o.after,Region.binds .any e=true->listed e.on=true)
  (hc:∀o,ops[c]?=some o->∀e∈o.after,Region.binds .any e=true->listed e.on=true):∀m i,i+m=c->i<c->listed i=true:=by
 simp only[b16,zJ,xQ,xF,yE,zW] at h;intro m
 induction m using Nat.strongRecOn with
 | _ m ih=>
  intro i hi hlt;obtain⟨s,hs,hs1,hs2⟩:=h.1 i hlt;obtain⟨o,ho,e,he,hb,hon⟩:=hs_ hs2;by_cases e1:s=c
  .subst e1;rw[<-hon];exact hc o ho e he hb
  .have:=ih (c - s) (by omega) s (by omega) (by omega);rw[<-hon];exact hcl s o ho this e he hb
theorem bb_ {ops:Array Oper} {c n:Nat} (h:b16 ops c n=true) {listed:Nat->Bool} (hcl:∀(i:Nat) (o:Oper),ops[i]?=some o->listed i=true->∀e∈o.after,Region.binds .any e=true->listed e.on=true):
  ∀j,c<j->j<n->(∀o,ops[j]?=some o->∀e∈o.after,Region.binds .any e=true->listed e.on=true)->listed c=true:=by
 simp only[b16,zJ,xQ,xF,yE,zW,wH] at h;intro j
 induction j using Nat.strongRecOn with
 | _ j ih=>
  intro hj hn hp;rcases h.2 j hn with h1 | ⟨p,hp1,hp2,hp3⟩
  .omega
  .obtain⟨o,ho,e,he,hb,hon⟩:=hs_ hp3;have hlp:=hp o ho e he hb;rw[hon] at hlp;by_cases e1:p=c
   .subst e1;exact hlp
   .exact ih p hp1 (by omega) (by omega) λo ho e he hb=>hcl p o ho hlp e he hb
theorem as44 {C:Ctx} {ops:Array Oper} {aos:List AO} {K:St->Prop} {Q:Exit->Act->World->Prop} (hd:DOk ops aos) (hlen:ops.toList.length=aos.length) (ex:Nat->Prop) (hget:∀(i:Nat) o x,ops.toList[i]?=some o->aos[i]?=some x->¬ex i->c29 P ops o x=true) (hQ:∀st a w,K st->Rel G C st a w->Q .normal a w):
  ∀(fuel:Nat) (listed:Array Bool) (lo m:Nat) (vs:Nat->AV) (st0 stn st:St) (a:Act) (w:World),listed.size=ops.size->listed.toList.count false=fuel->
   (∀(i:Nat) (o:Oper),ops[i]?=some o->listed.getD i false=true->∀e∈o.after,Region.binds .any e=true->listed.getD e.on false=true)->(∀i,ex i->listed.getD i false=true)->
   (∀j,j<lo->listed.getD j false=true)->lo+m<=aos.length->
   (∀i,lo<=i->i<lo+m->∃x st,aos[i]?=some x∧q10 x.op=true∧Part aos vs st0 (λj=>decide (lo<=j)&&decide (j<i)) st∧yld P G x st (vs i)∧dOK x st0.N)->
   Part aos vs st0 (λj=>decide (lo<=j)&&decide (j<lo+m)) stn->
   ((lo+m=aos.length∧K stn)∨∃x,aos[lo+m]?=some x∧q10 x.op=false∧listed.getD (lo+m) false=false∧∃stw,(∀a w,Rel G C stn a w->Rel G C stw a w)∧opP P G true x stw λst'=>opsP P G true (aos.drop (lo+m+1)) st' K)->
   Part aos vs st0 (λj=>decide (lo<=j)&&decide (j<lo+m)&&listed.getD j false) st->Rel G C st a w->wpAny P .any ops Q fuel listed a w:=by
 have hlen':ops.size=aos.length:=by simpa using hlen
 -- the segment is through
 have through:∀(listed:Array Bool) (lo m:Nat) (vs:Nat->AV) (st0 stn st:St) (a:Act) (w:World),(∀j,j<lo+m->listed.getD j false=true)->
   Part aos vs st0 (λj=>decide (lo<=j)&&decide (j<lo+m)) stn->Part aos vs st0 (λj=>decide (lo<=j)&&decide (j<lo+m)&&listed.getD j false) st->Rel G C st a w->Rel G C stn a w:=by
  intro listed lo m vs st0 stn st a w hall hpn hp hr;refine hr.env (hpn.N.trans hp.N.symm) (hpn.heap.trans hp.heap.symm) λt=>?_;by_cases hj:∃(j:Nat) (x:AO),aos[j]?=some x∧x.d=some t∧lo<=j∧j<lo+m
  .obtain⟨j,x,hxj,htj,h1,h2⟩:=hj;rw[hpn.got t j x hxj htj (by simp [h1,h2]),hp.got t j x hxj htj (by simp [h1,h2];simpa using hall j h2)]
  .have no:∀(j:Nat) (x:AO),aos[j]?=some x->x.d=some t->(decide (lo<=j)&&decide (j<lo+m))=false:=λj x h1 h2=>by
    cases e:(decide (lo<=j)&&decide (j<lo+m)) with
    | false=>rfl
    | true=>simp at e;exact absurd ⟨j,x,h1,h2,e.1,e.2⟩ hj
   rw[hpn.old t no,hp.old t λj x h1 h2=>by simp only[no j x h1 h2,yM]]
 have full:∀(listed:Array Bool) (lo m:Nat) (vs:Nat->AV) (st0 stn st:St) (a:Act) (w:World),(∀i,i<ops.size->listed.getD i false=true)->lo+m<=aos.length->
   Part aos vs st0 (λj=>decide (lo<=j)&&decide (j<lo+m)) stn->
   ((lo+m=aos.length∧K stn)∨∃x,aos[lo+m]?=some x∧q10 x.op=false∧listed.getD (lo+m) false=false∧∃stw,(∀a w,Rel G C stn a w->Rel G C stw a w)∧opP P G true x stw λst'=>opsP P G true (aos.drop (lo+m+1)) st' K)->
   Part aos vs st0 (λj=>decide (lo<=j)&&decide (j<lo+m)&&listed.getD j false) st->Rel G C st a w->Q .normal a w:=by
  intro listed lo m vs st0 stn st a w hall hle hpn hK hp hr;rcases hK with ⟨_,hK⟩ | ⟨x,hx,_,hu,_⟩
  .exact hQ stn a w hK (through listed lo m vs st0 stn st a w (λj hj=>hall j (by omega)) hpn hp hr)
  .rw[hall _ (by rw[hlen'];exact (zX.1 hx).1)] at hu;cases hu
 intro fuel
 induction fuel with
 | zero=>
  intro listed lo m vs st0 stn st a w hs hcnt hcl hex hlow hle hseg hpn hK hp hr;have hall:∀i,i<ops.size->listed.getD i false=true:=λi hi=>by
   have hi':i<listed.size:=by omega
   have:false∉listed.toList:=List.count_eq_zero.1 hcnt;rw[zC,yG hi',xK];cases e:listed[i] with
   | true=>rfl
   | false=>exact absurd (by rw[<-e];exact Array.getElem_mem_toList hi') this
  refine⟨?_,full listed lo m vs st0 stn st a w hall hle hpn hK hp hr⟩;rw[vF];intro i hi;obtain⟨h1,o,ho,_⟩:=mem_ready.1 hi;have hi':=(yC.1 ho).1;have h2:=hall i hi';rw[zC,yG (by omega)] at h1 h2;simp only[xK] at h1 h2;rw[h1] at h2;cases h2
 | succ fuel ih=>
  intro listed lo m vs st0 stn st a w hs hcnt hcl hex hlow hle hseg hpn hK hp hr;have same:∀i,i<ops.size->listed.getD i true=listed.getD i false:=λi hi=>by rw[zC,zC,yG (by omega)];rfl
  refine⟨λh0=>full listed lo m vs st0 stn st a w (λi=>?_) hle hpn hK hp hr,λi hi=>?_⟩
  .induction i using Nat.strongRecOn with
   | _ i ihi=>
    intro hi;cases e:listed.getD i false with
    | true=>rfl
    | false=>
     have ho:ops[i]?=some ops[i]:=yG hi;have:i∈Region.ready .any ops listed:=mem_ready.2 ⟨by rw[same i hi];exact e,ops[i],ho,λe he hb=>by have:=hd.low i _ (by omega) ho e he hb;exact ihi e.on this (by omega)⟩
     rw[h0] at this;cases this
  .obtain⟨hun,o,ho,hed⟩:=mem_ready.1 hi;have hi':i<ops.size:=(yC.1 ho).1;rw[same i hi'] at hun;have hilo:lo<=i:=by
    cases vD i lo with
    | inl h=>rw[hlow i h] at hun;cases hun
    | inr h=>exact h
   have hlst:∀j,(listed.setIfInBounds i true).getD j false=(listed.getD j false||j==i):=λj=>by
    by_cases e:j=i
    .subst e;have:j<listed.size:=by omega
     simp [this]
    .rw[getD_set_ne false (λe'=>e e'.symm)];simp [e]
   have hcnt':(listed.setIfInBounds i true).toList.count false=fuel:=by
    have hi2:i<listed.toList.length:=by simp;omega
    have hf:listed.toList[i]=false:=by rw[zC,yG (show i<listed.size by omega)] at hun;simpa using hun
    rw[Array.toList_setIfInBounds,List.count_set hi2,hf,hcnt];simp
   have hcl':∀(j:Nat) (o:Oper),ops[j]?=some o->(listed.setIfInBounds i true).getD j false=true->∀e∈o.after,Region.binds .any e=true->(listed.setIfInBounds i true).getD e.on false=true:=by
    intro j o' ho' hj e he hb;rw[hlst] at hj ⊢;by_cases e':j=i
    .subst e';rw[ho] at ho';cases ho';rw[hed e he hb];rfl
    .have:listed.getD j false=true:=by simpa [e'] using hj
     rw[hcl j o' ho' this e he hb];rfl
   have hex':∀j,ex j->(listed.setIfInBounds i true).getD j false=true:=λj hj=>by rw[hlst,hex j hj];rfl
   have fin:∀{x:AO} {K1:St->Prop} {stx:St},aos[i]?=some x->Rel G C stx a w->opP P G true x stx K1->(∀st1 a1 w1,K1 st1->Rel G C st1 a1 w1->wpAny P .any ops Q fuel (listed.setIfInBounds i true) a1 w1)->wpOp P ops Q i (wpAny P .any ops Q fuel (listed.setIfInBounds i true)) a w:=by
    intro x K1 stx hx hrx hop key;have hs:=os_ hrx (K':=wpAny P .any ops Q fuel (listed.setIfInBounds i true)) (Q:=Q) (hget i o _ (by rw[<-ho];simp) hx (λe=>by rw[hex i e] at hun;cases hun)) hop key;unfold wpOp;rw[ho];simp only;split
    .rename_i hw;rw[zY hw] at hs;exact .inl hs
    .rename_i hw;rw[zK hw] at hs;exact hs
   by_cases hin:i<lo+m
   · -- within the segment
    obtain⟨x,sti,hx,hq,hpi,hyi,hdi⟩:=hseg i hilo hin;have hy:yld P G x st (vs i):=by
     refine yc_ (hp.heap.trans hpi.heap.symm) (λt ht=>?_) hyi;by_cases hj:∃(j:Nat) (x:AO),aos[j]?=some x∧x.d=some t∧lo<=j∧j<lo+m
     .obtain⟨j,y,hxj,htj,h1,h2⟩:=hj;have uniq:∀(j':Nat) (x':AO),aos[j']?=some x'->x'.d=some t->j'=j:=λj' x' h1 h2=>hd.dst j' j x' y t h1 hxj h2 htj;by_cases hlt:j<i
      .have:=hd.look i j _ y t hx hxj (by omega) htj ht;rw[zY hlt] at this;obtain⟨o',ho',e,he,hb,hon⟩:=hs_ this;rw[ho] at ho';cases ho';have hj1:=hed e he hb;rw[hon] at hj1;rw[hp.got t j y hxj htj (by simp [h1,h2];simpa using hj1),hpi.got t j y hxj htj (by simp [h1,hlt])]
      .have hS:listed.getD j false=false:=by
        by_cases e:j=i
        .subst e;exact hun
        .have:=hd.look i j _ y t hx hxj (λe'=>e e'.symm) htj ht;rw[zK hlt] at this;obtain⟨o',ho',e',he,hb,hon⟩:=hs_ this;cases hlj:listed.getD j false with
         | false=>rfl
         | true=>
          have:=hcl j o' ho' hlj e' he hb;rw[hon,hun] at this;cases this
       rw[hp.old t λj' x' h1 h2=>by rw[uniq j' x' h1 h2,hS];simp,hpi.old t λj' x' h1 h2=>by rw[uniq j' x' h1 h2];simp;intro _;omega]
     .have no:∀(j:Nat) (x:AO),aos[j]?=some x->x.d=some t->(decide (lo<=j)&&decide (j<lo+m))=false:=λj x h1 h2=>by
       cases e:(decide (lo<=j)&&decide (j<lo+m)) with
       | false=>rfl
       | true=>simp at e;exact absurd ⟨j,x,h1,h2,e.1,e.2⟩ hj
      rw[hp.old t λj x h1 h2=>by simp only[no j x h1 h2,yM],hpi.old t λj x h1 h2=>by have:=no j x h1 h2;simp only[wK,zW,yQ] at this ⊢;intro h3;have:=this h3;omega]
    have hop:=ooy_ hq (by rw[hp.N];exact hdi) hy;refine fin hx hr hop λst1 a1 w1 ha hr1=>?_;refine ih _ lo m vs st0 stn st1 a1 w1 (by simp [hs]) hcnt' hcl' hex' (λj hj=>by rw[hlst,hlow j hj];rfl) hle hseg hpn ?_ (hp.step hd hx ha λj=>?_) hr1
    .rcases hK with hK | ⟨x',h1,h2,h3,h4⟩
     .exact .inl hK
     .exact .inr ⟨x',h1,h2,by rw[hlst,h3];simp;omega,h4⟩
    .rw[hlst];by_cases e:j=i
     .subst e;simp [hilo,hin]
     .have e0:(j==i)=false:=by simpa using e
      rw[e0,tV,tV]
   · -- at its end
    rcases hK with ⟨he,_⟩ | ⟨x,hx,hq,hu,stw,hstw,hop⟩
    .omega
    have hbar:b16 ops (lo+m) aos.length=true:=by
     rcases hd.quiet _ x hx with h | h
     .rw[hq] at h;cases h
     .exact h
    by_cases hie:i=lo+m
    .subst hie;have hall:∀j,j<lo+m->listed.getD j false=true:=λj hj=>
      ba10 hbar (listed:=λj=>listed.getD j false) hcl (λo' ho' e he hb=>by rw[ho] at ho';cases ho';exact hed e he hb) (lo+m - j) j (by omega) hj
     refine fin hx (hstw _ _ (through listed lo m vs st0 stn st a w hall hpn hp hr)) hop λst1 a1 w1 h1 hr1=>?_;obtain⟨m',vs',stn',e1,e2,e3⟩:=soo_ (aos.length - (lo+m+1)) (lo+m+1) st1 (by omega) h1;have p0:Part aos vs' st1 (λj=>decide (lo+m+1<=j)&&decide (j<lo+m+1)) st1:=⟨rfl,rfl,λt j x _ _ hj=>by simp at hj;omega,λt _ =>rfl⟩;obtain⟨h2,h3⟩:=cp_ hd m' (lo+m+1) st1 (zN _) e2 p0;have notYet:∀j,lo+m<j->j<aos.length->listed.getD j false=false:=λj h4 h5=>by
      cases hlj:listed.getD j false with
      | false=>rfl
      | true=>
       have:=bb_ hbar (listed:=λj=>listed.getD j false) hcl j h4 h5 (λo' ho' e he hb=>hcl j o' ho' hlj e he hb);rw[hu] at this;cases this
     refine ih _ (lo+m+1) m' vs' st1 stn' st1 a1 w1 (by simp [hs]) hcnt' hcl' hex' (λj hj=>?_) e1 h2 h3 ?_ ?_ hr1
     .rw[hlst];by_cases e:j=lo+m
      .subst e;simp
      .rw[hall j (by omega)];rfl
     .rcases e3 with e3 | ⟨x',g1,g2,g3⟩
      .exact .inl e3
      .refine .inr ⟨x',g1,g2,?_,stn',λ_ _ h=>h,g3⟩;rw[hlst,notYet _ (by omega) (zX.1 g1).1];simp;omega
     .refine p0.congr λj hj=>?_;by_cases e:lo+m+1<=j
      .rw[hlst,notYet j (by omega) hj];have:(j==lo+m)=false:=by simp;omega
       simp only[this,tV,tN];simp
       try omega
      .simp [e]
    .exfalso;have:=bb_ hbar (listed:=λj=>listed.getD j false) hcl i (by omega) (by omega) (λo' ho' e he hb=>by rw[ho] at ho';cases ho';exact hed e he hb);rw[hu] at this;cases this
theorem ds10 {C:Ctx} {id:Nat} {ops:Array Oper} {aos:List AO} {kt:List Nat} {st:St} {a:Act} {w:World} {K:St->Prop} {Q:Exit->Act->World->Prop} (hm:P.follows .mixedOrders=true) (hc:c16 P ops ops.toList aos=true) (hdc:dchk ops aos=true)
  (hk:opsP P G true aos st λst'=>K {st' with env:=st'.trimE kt}) (h:Rel G C st a w) (hQ:∀st' a' w',K st'->Rel G C st' a' w'->Q .normal a' w'):(Code.region id ops true).wp P Q a w:=by
 have hd:=do12 hdc;obtain⟨m,vs,stn,e1,e2,e3⟩:=soo_ (aos:=aos) aos.length 0 st (by omega) (by simpa using hk);simp only[yS] at e1 e3;have p0:Part aos vs st (λj=>decide (0<=j)&&decide (j<0)) st:=⟨rfl,rfl,λt j x _ _ hj=>by simp at hj,λt _ =>rfl⟩;obtain⟨h1,h2⟩:=cp_ hd m 0 st (zN _) e2 p0;have none0:∀j,(Array.replicate ops.size false).getD j false=false:=λj=>by rw[zC];simp only[Array.getElem?_replicate];split <;> rfl
 refine wp_region_any hm ?_;obtain⟨hlen,hget⟩:=cg_ hc;refine as44 hd hlen (λ_ =>False) (λi o x h1 h2 _ =>hget i o x h1 h2) (K:=λst'=>K {st' with env:=st'.trimE kt}) (λst' a' w' hK hr=>?_) ops.size _ 0 m vs st stn st a _ (by simp) (by simp) (λi o ho hi=>by rw[none0] at hi;cases hi) (λi hi=>hi.elim) (λj hj=>by omega) (by omega) h1 h2 ?_ ?_ h.drew
 .obtain⟨nm,F,hx⟩:=hr;exact hQ _ _ _ hK ⟨nm,F,hx.trimEnv kt⟩
 .rcases e3 with ⟨e4,e5⟩ | ⟨x,g1,g2,g3⟩
  .exact .inl ⟨by omega,e5⟩
  .exact .inr ⟨x,by simpa using g1,g2,none0 _,stn,λ_ _ h=>h,by simpa using g3⟩
 .exact p0.congr λj _ =>by rw[none0];simp
def dumO:AO:=⟨none,.mov (.k .undef),none⟩
def d16:List AO->List Nat
 | []=>[]
 | x::r=>match x.d with | some t=>t::d16 r | none=>d16 r
theorem dm10:∀{l:List AO} {j:Nat} {x:AO} {t:Nat},l[j]?=some x->x.d=some t->t∈d16 l
 | [],j,x,t,h,_ =>by simp at h
 | y::r,0,x,t,h,ht=>by simp at h;subst h;simp [d16,ht]
 | y::r,j+1,x,t,h,ht=>by
  have:=dm10 (l:=r) (j:=j) (by simpa using h) ht;unfold d16;split
  .exact zR _ this
  .exact this
def a26 (d:Nat) (stn stn1:St):List Nat->Prop
 | []=>True
 | t::ts=>(eget stn1.env t=eget stn.env t∧purge d (eget stn.env t)=eget stn.env t)∧a26 d stn stn1 ts
theorem eti_ (st:St):∀(ts:List Nat) (t:Nat),t∈ts->eget (st.trimE ts) t=eget st.env t
 | [],t,h=>by cases h
 | x::ts,t,h=>by
  simp only[St.trimE,eget];split
  .rename_i e;subst e;rfl
  .rename_i e;rcases yV.1 h with rfl | h
   .exact absurd rfl e
   .exact eti_ st ts t h
theorem ae10 {st st':St} {p v:AV} {n:Nat} {stS:St} (hh:st'.heap=st.heap) (h:a23 st p v n=some stS):a23 st' p v n=some {st' with heap:=stS.heap}:=by
 unfold a23 at h ⊢;rw[hh];split at h <;> try (cases h;done)
 split at h <;> try (cases h;done)
 split at h <;> try (cases h;done)
 rename_i hc;rw[zK hc];split at h <;> try (cases h;done)
 split at h <;> try (cases h;done)
 rename_i hf;rw[zY hf];split at h
 .cases h;rfl
 .cases h
end
