/- Lemmas. -/
import Derived.Test.YtkgcnoghjibiaaaGreatDoorYAbEval2
import Derived.WideKeyEntry
import Derived.WalkSpells
set_option linter.unusedSimpArgs false
namespace Go.Proofs.YtkgcnoghjibiaaaGreatDoor.Ab
open Go Go.RowKit
section
variable {P:Program} {G:Nat->Option AV} {C:Ctx} {nm:N_} {F:Nat->Prop} {st st':St} {a:Act} {w:World} {o:Oper}
theorem ks11 {x:AV} {u:Value} {t:Nat} (h:Rd w F nm x u) (ht:i_ P t=i13 x):∃us:List Value,u=a22 P t us∧x.cells.length=us.length∧∀(j:Nat) c v,x.cells[j]?=some c->us[j]?=some v->Rd w F nm c v:=by
 by_cases hx:∃cs,x= .agg cs
 .obtain⟨cs,rfl⟩:=hx;cases h with
  | agg _ _ us hl h=>
   refine⟨us,?_,hl,h⟩;unfold a22;rw[zY (show i_ P t=true from ht)]
 .have hc:x.cells=[x]:=by cases x <;> first | rfl | exact absurd ⟨_,rfl⟩ hx
  have hf:i_ P t=false:=by rw[ht];cases x <;> first | rfl | exact absurd ⟨_,rfl⟩ hx
  refine⟨[u],?_,by rw[hc];rfl,λj c v hj hv=>?_⟩
  .unfold a22;rw[zK (by simp [hf])];rfl
  .rw[hc] at hj
   match j,hj,hv with
   | 0,hj,hv=>cases hj;cases hv;exact h
theorem ks_ {ag:Bool} {ks:List Nat} {x y:AV} {β:Bool} (h:k14 ag ks x y=some β):i13 x=ag∧i13 y=ag∧aeqs ks x.cells y.cells=some β:=by
 unfold k14 at h;split at h
 .rename_i hc;exact⟨hc.1,hc.2,h⟩
 .cases h
theorem ke10 {ag:Bool} {ks:List Nat} {x:AV} (h:k15 ag ks x=true):k14 ag ks x x=some true:=by
 unfold k15 at h;split at h
 .assumption
 .cases h
theorem ks13 {ag:Bool} {ks:List Nat} {x y:AV} {u v:Value} {β:Bool} {t:Nat} (hx:Rd w F nm x u) (hy:Rd w F nm y v) (h:k14 ag ks x y=some β) (ht:k10 P 20 t=some ks) (hag:i_ P t=ag):(Op.equal t u v).run P w= .ok β w:=by obtain⟨h1,h2,h3⟩:=ks_ h;obtain⟨us,rfl,l1,r1⟩:=ks11 (P:=P) (t:=t) hx (by rw[hag,h1]);obtain⟨vs,rfl,l2,r2⟩:=ks11 (P:=P) (t:=t) hy (by rw[hag,h2]);exact (ks12 (P:=P) w 20 t ks ht _ _ us vs β l1 l2 r1 r2 h3).2.2 10000 (by omega)
theorem ls10 {nm':N_} {k:Nat} {c d:AV} {u v:Value} (hc:Rd w F nm c u) (hd:Rd w F nm' d v) (h:l10 k c d=some true):u=v∧∀n,Instr.sameBits n u u=true:=by
 unfold l10 at h;split at h
 .split at h
  .rename_i e;subst e;simp only[zZ,zB] at h;subst h;cases hc;cases hd;exact⟨rfl,λn=>by cases n <;> simp [Instr.sameBits]⟩
  .cases h
 .simp only[zZ,zB] at h;subst h;cases hc;cases hd;refine⟨rfl,λn=>?_⟩;cases n <;> first | exact (MapKept.bytes_beq _ _).2 rfl | simp [Instr.sameBits,(MapKept.bytes_beq _ _).2 rfl]
 .simp only[zZ,zB] at h;subst h;cases hc;cases hd;refine⟨rfl,λn=>?_⟩;cases n <;> first | exact (MapKept.bytes_beq _ _).2 rfl | simp [Instr.sameBits,(MapKept.bytes_beq _ _).2 rfl]
 .cases h
theorem as25 {nm':N_}:∀{ks:List Nat} {cs ds:List AV} {us vs:List Value},aeqs ks cs ds=some true->cs.length=us.length->ds.length=vs.length->
  (∀(j:Nat) c u,cs[j]?=some c->us[j]?=some u->Rd w F nm c u)->(∀(j:Nat) c u,ds[j]?=some c->vs[j]?=some u->Rd w F nm' c u)->us=vs∧∀u∈us,∀n,Instr.sameBits n u u=true
 | [],[],[],us,vs,_,h1,h2,_,_ =>by obtain rfl:us=[]:=yT h1.symm;obtain rfl:vs=[]:=yT h2.symm;exact⟨rfl,λu h=>by cases h⟩
 | [],_ ::_,_,_,_,h,_,_,_,_ =>by simp [aeqs] at h
 | [],[],_ ::_,_,_,h,_,_,_,_ =>by simp [aeqs] at h
 | _ ::_,[],_,_,_,h,_,_,_,_ =>by simp [aeqs] at h
 | _ ::_,_ ::_,[],_,_,h,_,_,_,_ =>by simp [aeqs] at h
 | k::ks,c::cs,d::ds,[],_,_,h1,_,_,_ =>by simp at h1
 | k::ks,c::cs,d::ds,_ ::_,[],_,_,h2,_,_ =>by simp at h2
 | k::ks,c::cs,d::ds,u::us,v::vs,h,h1,h2,r1,r2=>by
  simp only[aeqs] at h;obtain⟨x,y,e1,e2,e3⟩:=as12 h;have hxy:x=true∧y=true:=by rw[eq_comm,zJ] at e3;exact e3
  obtain⟨rfl,rfl⟩:=hxy;obtain⟨g1,g2⟩:=ls10 (r1 0 c u rfl rfl) (r2 0 d v rfl rfl) e1;obtain⟨g3,g4⟩:=as25 e2 (by simpa using h1) (by simpa using h2) (λj c u hc hu=>r1 (j+1) c u (by simpa using hc) (by simpa using hu)) λj c u hc hu=>r2 (j+1) c u (by simpa using hc) (by simpa using hu);exact⟨by rw[g1,g3],λz hz=>(yV.1 hz).elim (λe=>by rw[e];exact g2) (g4 z)⟩
theorem sa14 (us:List Value) (h:∀u∈us,∀n,Instr.sameBits n u u=true) (n:Nat):Instr.sameBits (n+1) (.agg us.toArray) (.agg us.toArray)=true:=by
 simp only[Instr.sameBits,uD,yR,xQ];rintro⟨x,y⟩ hm;have:x=y∧x∈us:=by obtain⟨j,hj⟩:=zM hm;rw[tX] at hj;obtain⟨j1,j2⟩:=hj;rw[j1] at j2;exact⟨by simpa using j2,zG j1⟩
 obtain⟨rfl,hx⟩:=this;exact h x hx n
theorem ks14 {nm':N_} {ag:Bool} {ks:List Nat} {x y:AV} {u v:Value} {t:Nat} (hx:Rd w F nm x u) (hy:Rd w F nm' y v) (h:k14 ag ks x y=some true) (hag:i_ P t=ag):u=v∧(Instr.keyThatStays u v).run P w= .ok v w:=by
 obtain⟨h1,h2,h3⟩:=ks_ h;obtain⟨us,e1,l1,r1⟩:=ks11 (P:=P) (t:=t) hx (by rw[hag,h1]);obtain⟨vs,e2,l2,r2⟩:=ks11 (P:=P) (t:=t) hy (by rw[hag,h2]);obtain⟨rfl,hs⟩:=as25 h3 l1 l2 r1 r2;have e:u=v:=by rw[e1,e2]
 subst e;have hb:Instr.sameBits 10000 u u=true:=by
  rw[e1];unfold a22;split
  .exact sa14 us hs 9999
  .rename_i hf;have hxf:i13 x=false:=by rw[h1,<-hag];simpa using hf
   have hc:x.cells=[x]:=by cases x <;> first | rfl | simp [i13] at hxf
   rw[hc] at l1
   match us,l1 with
   | [z],_ =>exact hs z (by simp) 10000
 exact⟨rfl,by simp [Instr.keyThatStays,hb]⟩
theorem ck10 (em:Bool) (w:World):∀(d t:Nat) (ks:List Nat),k10 P d t=some ks->∀us:List Value,us.length=ks.length->
  (i_ P t=true∨i10 P t=true)∧(i10 P t=true->ks.length=1)∧∀n,d<=n->(Instr.checkKey em n t (a22 P t us)).run P w= .ok () w
 | 0,t,ks,h,_,_ =>by simp [k10] at h
 | d+1,t,ks,h,us,hu=>by
  simp only[k10] at h;split at h
  .rename_i k hk;simp only[zZ] at h;subst h;refine⟨.inr (by simp [i10,hk]),λ_ =>rfl,λn hn=>?_⟩;obtain⟨n,rfl⟩:∃n',n=n'+1:=⟨n - 1,by omega⟩;generalize a22 P t us=v;cases v <;> simp [Instr.checkKey,run_underlying hk]
  .rename_i hk;simp only[zZ] at h;subst h;refine⟨.inr (by simp [i10,hk]),λ_ =>rfl,λn hn=>?_⟩;obtain⟨n,rfl⟩:∃n',n=n'+1:=⟨n - 1,by omega⟩;generalize a22 P t us=v;cases v <;> simp [Instr.checkKey,run_underlying hk]
  .rename_i hk;simp only[zZ] at h;subst h;refine⟨.inr (by simp [i10,hk]),λ_ =>rfl,λn hn=>?_⟩;obtain⟨n,rfl⟩:∃n',n=n'+1:=⟨n - 1,by omega⟩;generalize a22 P t us=v;cases v <;> simp [Instr.checkKey,run_underlying hk]
  .rename_i fs hfs;have hag:i_ P t=true:=by simp [i_,hfs]
   have hnl:i10 P t=false:=by simp [i10,hfs]
   split at h
   .cases h
   .refine⟨.inl hag,(λe=>by rw[hnl] at e;cases e),λn hn=>?_⟩;obtain⟨n,rfl⟩:∃n',n=n'+1:=⟨n - 1,by omega⟩;simp only[a22,hag,xW];rw[Instr.checkKey];simp only[Sem.run_bind,run_underlying hfs,Result.andThen_ok];rw[<-Array.forIn_toList]
    have go:∀(l:List Field) (off:Nat) (k:List Nat),k12 P (k10 P d) l off=some k->off+k.length=us.length->
      Sem.run P (forIn l PUnit.unit λf r=>do
       if f.name≠ "_" then
        Instr.checkKey em n f.type (<-part f.type us.toArray f.offset)
        pure PUnit.unit
        pure (ForInStep.yield PUnit.unit)
       else do
        pure PUnit.unit
        pure (ForInStep.yield PUnit.unit)) w= .ok PUnit.unit w:=by
     intro l
     induction l with
     | nil=>intro off k hk _;simp
     | cons f l ih=>
      intro off k hk hlen;simp only[k12] at hk;split at hk
      .rename_i hf;obtain⟨hf1,rfl⟩:=hf;split at hk
       .rename_i k1 hk1;split at hk
        .rename_i hsz;obtain⟨k2,hk2,rfl⟩:=zH.1 hk;rw[zL] at hlen;obtain⟨hty,hone,hrun⟩:=ck10 em w d f.type k1 hk1 ((us.drop f.offset).take k1.length) (by simp;omega);have r1:=pa10 (P:=P) w (us:=us) (off:=f.offset) hty hsz (by omega) hone;simp only[List.forIn_cons,Sem.run_bind,zY hf1,Result.andThen_ok,r1,hrun n (by omega),Sem.run_pure];exact ih _ k2 hk2 (by omega)
        .cases hk
       .cases hk
      .cases hk
    have:=go fs.toList 0 ks h (by omega);simp at this ⊢;rw[this];rfl
  .cases h
theorem cs_ {ag em:Bool} {ks:List Nat} {x:AV} {u:Value} {t:Nat} (hx:Rd w F nm x u) (h:k15 ag ks x=true) (ht:k10 P 20 t=some ks) (hag:i_ P t=ag):(Instr.checkKey em 10000 t u).run P w= .ok () w:=by obtain⟨h1,_,h3⟩:=ks_ (ke10 h);obtain⟨us,rfl,l1,_⟩:=ks11 (P:=P) (t:=t) hx (by rw[hag,h1]);exact (ck10 (P:=P) em w 20 t ks ht us (by rw[<-l1];exact (al12 _ _ _ _ h3).1)).2.2 10000 (by omega)
def mvOf (R:Option (Nat×Value)) (z:Value):Value:=match R with
 | some (_,v)=>v
 | none=>z
def M_ (w:World) (F:Nat->Prop):Option (Nat×AV)->Option (Nat×Value)->Prop
 | none,none=>True
 | some (i,c),some (j,v)=>i=j∧Rd w F n10 c v
 | _,_ =>False
def E_ (w:World) (F:Nat->Prop) (es:List AV) (ents:List MapEntry):Prop:=
 es.length=ents.length∧∀(j:Nat) e,ents[j]?=some e->∃k v,es[j]?=some (.tup [k,v])∧Rd w F n10 k e.key∧Rd w F n10 v e.val
theorem E_.tail {x:AV} {es:List AV} {e:MapEntry} {ents:List MapEntry} (h:E_ w F (x::es) (e::ents)):E_ w F es ents:=
 ⟨by simpa using h.1,λj e he=>by simpa using h.2 (j+1) e (by simpa using he)⟩
theorem fs12 {ag:Bool} {ks:List Nat} {x:AV} {u:Value} {t:Nat} (hx:Rd w F n10 x u) (ht:k10 P 20 t=some ks) (hag:i_ P t=ag):∀(es:List AV) (ents:List MapEntry) (i:Nat) (R:Option (Nat×AV)),E_ w F es ents->m13 ag ks x es i=some R->
  ∃R',(Instr.findAsking t u ents i).run P w= .ok R' w∧M_ w F R R'∧∀j v,R'=some (j,v)->∃k b,i<=j∧es[j - i]?=some (.tup [k,b])∧k14 ag ks x k=some true
 | [],[],i,R,_,hf=>by simp only[m13,zZ] at hf;subst hf;exact⟨none,by simp [Instr.findAsking],trivial,λj v h=>by cases h⟩
 | [],e::ents,i,R,h,_ =>by have:=h.1;simp at this
 | y::es,[],i,R,h,_ =>by have:=h.1;simp at this
 | y::es,e::ents,i,R,h,hf=>by
  obtain⟨k,v,hkv,rk,rv⟩:=h.2 0 e rfl;simp only[yK,zZ] at hkv;subst hkv;simp only[m13] at hf;split at hf
  .rename_i hq;simp only[zZ] at hf;subst hf;have he:=ks13 hx rk hq ht hag;exact⟨some (i,e.val),by simp [Instr.findAsking,he],⟨rfl,rv⟩,λj z hz=>by cases hz;exact⟨k,v,zN _,by simp,hq⟩⟩
  .rename_i hq;have he:=ks13 hx rk hq ht hag;obtain⟨R',h1,h2,h3⟩:=fs12 hx ht hag es ents (i+1) R h.tail hf;refine⟨R',by simp [Instr.findAsking,he,h1],h2,λj z hz=>?_⟩;obtain⟨k',b,g1,g2,g3⟩:=h3 j z hz;refine⟨k',b,by omega,?_,g3⟩;rw[show j - i=(j - (i+1))+1 by omega,yW];exact g2
  .cases hf
theorem ln10 {k t:Nat} {c d:AV} {u v:Value} {nm':N_} {β:Bool} {desc:TypeDesc} (hc:Rd w F nm c u) (hd:Rd w F nm' d v) (h:l10 k c d=some β) (hu:P.underlying t=some desc)
  (ht:(k=0∧∃i,desc= .int i)∨(k=1∧desc= .string)∨(k=2∧desc= .bool)):Instr.sameNow desc u v=some β:=by
 rcases ht with ⟨rfl,i,rfl⟩ | ⟨rfl,rfl⟩ | ⟨rfl,rfl⟩
 .cases c <;> cases d <;> simp only[l10,reduceCtorEq,vL,zZ] at h;obtain⟨rfl,rfl⟩:=h;cases hc;cases hd;simp [Instr.sameNow]
 .cases c <;> cases d <;> simp only[l10,reduceCtorEq,zZ] at h;subst h;cases hc;cases hd;simp only[Instr.sameNow,zZ];rw[yY,MapKept.bytes_beq];simp
 .cases c <;> cases d <;> simp only[l10,reduceCtorEq,zZ] at h;subst h;cases hc;cases hd;simp [Instr.sameNow]
theorem kl10 {k t:Nat} {x y:AV} {u v:Value} {nm':N_} {β:Bool} {desc:TypeDesc} (hx:Rd w F nm x u) (ry:Rd w F nm' y v) (hb:k14 false [k] x y=some β) (hu:P.underlying t=some desc)
  (hkd:(k=0∧∃i,desc= .int i)∨(k=1∧desc= .string)∨(k=2∧desc= .bool)):Instr.sameNow desc u v=some β:=by
 obtain⟨g1,g2,g3⟩:=ks_ hb;have c1:x.cells=[x]:=by cases x <;> first | rfl | simp [i13] at g1
 have c2:y.cells=[y]:=by cases y <;> first | rfl | simp [i13] at g2
 rw[c1,c2] at g3;simp only[aeqs] at g3;obtain⟨b1,b2,e1,e2,e3⟩:=as12 g3;simp only[zZ] at e2;subst e2;rw[wX] at e3;subst e3;exact ln10 (P:=P) hx ry e1 hu hkd
theorem fs13 {k t:Nat} {x:AV} {u:Value} {desc:TypeDesc} (hx:Rd w F nm x u) (hu:P.underlying t=some desc) (hkd:(k=0∧∃i,desc= .int i)∨(k=1∧desc= .string)∨(k=2∧desc= .bool)):
  ∀(es:List AV) (ents:List MapEntry) (i:Nat) (R:Option (Nat×AV)),E_ w F es ents->m13 false [k] x es i=some R->
  ∃R',Instr.findNow desc u ents i=some R'∧M_ w F R R'∧∀j v,R'=some (j,v)->∃k' b,i<=j∧es[j - i]?=some (.tup [k',b])∧k14 false [k] x k'=some true
 | [],[],i,R,_,hf=>by simp only[m13,zZ] at hf;subst hf;exact⟨none,by simp [Instr.findNow],trivial,λj v h=>by cases h⟩
 | [],e::ents,i,R,h,_ =>by have:=h.1;simp at this
 | y::es,[],i,R,h,_ =>by have:=h.1;simp at this
 | y::es,e::ents,i,R,h,hf=>by
  obtain⟨k',v,hkv,rk,rv⟩:=h.2 0 e rfl;simp only[yK,zZ] at hkv;subst hkv;simp only[m13] at hf;split at hf
  .rename_i hq;simp only[zZ] at hf;subst hf;have he:=kl10 (P:=P) hx rk hq hu hkd;exact⟨some (i,e.val),by simp [Instr.findNow,he],⟨rfl,rv⟩,λj z hz=>by cases hz;exact⟨k',v,zN _,by simp,hq⟩⟩
  .rename_i hq;have he:=kl10 (P:=P) hx rk hq hu hkd;obtain⟨R',h1,h2,h3⟩:=fs13 hx hu hkd es ents (i+1) R h.tail hf;refine⟨R',by simp [Instr.findNow,he,h1],h2,λj z hz=>?_⟩;obtain⟨k2,b,g1,g2,g3⟩:=h3 j z hz;refine⟨k2,b,by omega,?_,g3⟩;rw[show j - i=(j - (i+1))+1 by omega,yW];exact g2
  .cases hf
theorem fs_ {ag:Bool} {ks:List Nat} {x:AV} {u:Value} {t:Nat} (hx:Rd w F n10 x u) (ht:k10 P 20 t=some ks) (hag:i_ P t=ag) {es:List AV} {ents:List MapEntry} {R:Option (Nat×AV)} (h:E_ w F es ents) (hf:m13 ag ks x es 0=some R):
  ∃R',(Instr.findKey t u ents).run P w= .ok R' w∧M_ w F R R'∧∀j v,R'=some (j,v)->∃k b,es[j]?=some (.tup [k,b])∧k14 ag ks x k=some true:=by
 cases ag with
 | true=>
  obtain⟨R',h1,h2,h3⟩:=fs12 (P:=P) hx ht hag es ents 0 R h hf;refine⟨R',?_,h2,λj v hj=>by obtain⟨k,b,_,g2,g3⟩:=h3 j v hj;exact⟨k,b,by simpa using g2,g3⟩⟩;rw[run_findKey_eq w ?_ u ents]
  .exact h1
  .unfold i_ at hag;split at hag
   .rename_i hq;rw[hq]
   .rename_i hq;rw[hq]
   .cases hag
 | false=>
  have hleaf:∃(k:Nat) (desc:TypeDesc),ks=[k]∧P.underlying t=some desc∧((k=0∧∃i,desc= .int i)∨(k=1∧desc= .string)∨(k=2∧desc= .bool)):=by
   simp only[k10] at ht;split at ht
   .rename_i k hk;simp only[zZ] at ht;exact⟨0,_,ht.symm,hk,.inl ⟨rfl,k,rfl⟩⟩
   .rename_i hk;simp only[zZ] at ht;exact⟨1,_,ht.symm,hk,.inr (.inl ⟨rfl,rfl⟩)⟩
   .rename_i hk;simp only[zZ] at ht;exact⟨2,_,ht.symm,hk,.inr (.inr ⟨rfl,rfl⟩)⟩
   .rename_i fs hfs;rw[i_,hfs] at hag;cases hag
   .cases ht
  obtain⟨k,desc,rfl,hu,hkd⟩:=hleaf;obtain⟨R',h1,h2,h3⟩:=fs13 (P:=P) hx hu hkd es ents 0 R h hf;exact⟨R',MapKept.run_findKey hu h1,h2,λj v hj=>by obtain⟨k,b,_,g2,g3⟩:=h3 j v hj;exact⟨k,b,by simpa using g2,g3⟩⟩
def S10 (ty:Nat) (ents:Array MapEntry) (clock:Nat):Prop:=3<=ty->clock=ty - 3+ents.size∧∀(j:Nat) e,ents[j]?=some e->e.born=ty - 3+j
theorem ml11 {i:Nat} {b:Box} {u:Value} (h:RelX G C nm F st a w) (hx:Rd w F nm (.mapv i) u) (hb:hget st.heap i=some b) (h0:b.sz=0) (h1:b.ty=1∨3<=b.ty):
  ∃(m:Nm) (ents:Array MapEntry) (clock:Nat),u= .map (some m.g)∧nm i=some m∧w.heap[m.g]?=some (.map ents clock)∧E_ w F b.es ents.toList∧b.row=true∧m.sz=0∧(∀e∈ents.toList,e.born<clock)∧(ents.toList.map (·.born)).Nodup∧S10 b.ty ents clock:=by
 cases hx with
 | mapv _ _ m hi=>
  rcases h.box i b hb with ⟨hn,_⟩ | ⟨m',hm',hl⟩
  .rw[hi] at hn;cases hn
  rw[hi] at hm';cases hm';rcases hl with hl | ⟨_,hrow,hmsz,⟨ht,_⟩ | ⟨_,ents,clock,e1,e2,e3,e4,e5,e6⟩ | ⟨ht,_⟩⟩
  .have:=hl.2.2.1;omega
  .omega
  .exact⟨m,ents,clock,rfl,hi,e1,⟨by simpa using e2.symm,λj e he=>e5 j e (by simpa using he)⟩,hrow,hmsz,e3,e4,e6⟩
  .omega
theorem mp_ (h:RelX G C nm F st a w) {i:Nat} {b:Box} {m:Nm} (hb:hget st.heap i=some b) (hnm:nm i=some m) (h0:b.sz=0) (hrow:b.row=true) (hmsz:m.sz=0) {ents0:Array MapEntry} {clock0:Nat} (hheap:w.heap[m.g]?=some (.map ents0 clock0))
  {ty':Nat} {es':List AV} {ents':Array MapEntry} {clock':Nat} (h1:ty'=1∨3<=ty') (hE':E_ w F es' ents'.toList) (hb':∀e∈ents'.toList,e.born<clock') (hn':(ents'.toList.map (·.born)).Nodup) (hs':S10 ty' ents' clock'):
  RelX G C nm F {st with heap:=hset st.heap i {b with ty:=ty',es:=es'}} a {w with heap:=w.heap.setIfInBounds m.g (.map ents' clock')}∧∀{c:AV} {u:Value},Rd w F n10 c u->Rd {w with heap:=w.heap.setIfInBounds m.g (.map ents' clock')} F n10 c u:=by
 have hlt:m.g<w.heap.size:=(yC.1 hheap).1;have hother:∀(o':Obj) k,k≠m.g->(w.heap.setIfInBounds m.g o')[k]? =w.heap[k]? :=λo' k hk=>by simp [uF,Ne.symm hk]
 have hFw:∀(o':Obj) bl,F bl->(w.heap.setIfInBounds m.g o')[bl]? =w.heap[bl]? :=λo' bl hbl=>hother o' bl λe=>h.fr i b m hb hnm (e ▸ hbl);refine⟨?_,λhr=>hr.mono (hFw _) λ_ h=>h⟩;refine h.setBox hb hnm rfl rfl rfl (by simp) rfl (λk hk=>hother _ k hk) ?_;refine .inr ⟨h0,hrow,hmsz,.inr (.inl ⟨h1,ents',clock',by simp [hlt],by simpa using hE'.1.symm,hb',hn',λj e he=>?_,hs'⟩)⟩;obtain⟨k,v,g1,g2,g3⟩:=hE'.2 j e (by simpa using he);exact⟨k,v,g1,g2.mono (hFw _) λ_ h=>h,g3.mono (hFw _) λ_ h=>h⟩
theorem em11 {es:List AV} {ents:Array MapEntry} {clock ty j:Nat} {f:MapEntry->MapEntry} {k v:AV} (hE:E_ w F es ents.toList) (hborn:∀e∈ents.toList,e.born<clock) (hnd:(ents.toList.map (·.born)).Nodup) (hs:S10 ty ents clock) (hj:j<ents.size) (hf:∀e,(f e).born=e.born)
  (hk:Rd w F n10 k (f ents[j]).key) (hv:Rd w F n10 v (f ents[j]).val):
  E_ w F (es.set j (.tup [k,v])) (ents.modify j f).toList∧(∀e∈(ents.modify j f).toList,e.born<clock)∧((ents.modify j f).toList.map (·.born)).Nodup∧S10 ty (ents.modify j f) clock:=by
 have hmod:∀(q:Nat),(ents.modify j f)[q]? =if j=q then (ents[q]?).map f else ents[q]? :=λq=>by rw[Array.getElem?_modify]
 have hbl:(ents.modify j f).toList.map (·.born)=ents.toList.map (·.born):=by
  apply vM;intro q;rw[zS,zS,vR,vR,hmod];split
  .cases ents[q]? <;> simp [hf]
  .rfl
 refine⟨⟨by rw[tI];simpa using hE.1,λq e he=>?_⟩,λe he=>?_,by rw[hbl];exact hnd,λh3=>⟨by simpa using (hs h3).1,λq e he=>?_⟩⟩
 .rw[vR,hmod] at he;rw[xP];split at he
  .rename_i e1;subst e1;rw[zY rfl,zY (by rw[hE.1];simpa using hj)];rw[yG hj] at he;cases he;exact⟨k,v,rfl,hk,hv⟩
  .rename_i e1;rw[zK e1];exact hE.2 q e (by rw[vR];exact he)
 .have:e.born∈(ents.modify j f).toList.map (·.born):=zI.2 ⟨e,he,rfl⟩;rw[hbl] at this;obtain⟨e',he',hee⟩:=zI.1 this;rw[<-hee];exact hborn e' he'
 .rw[hmod] at he;split at he
  .obtain⟨e0,he0,rfl⟩:=zH.1 he;rw[hf];exact (hs h3).2 q e0 he0
  .exact (hs h3).2 q e he
theorem ep13 {es:List AV} {ents:Array MapEntry} {clock ty:Nat} {k v:AV} {ku vu:Value} (hE:E_ w F es ents.toList) (hborn:∀e∈ents.toList,e.born<clock) (hnd:(ents.toList.map (·.born)).Nodup) (hs:S10 ty ents clock)
  (hk:Rd w F n10 k ku) (hv:Rd w F n10 v vu):
  E_ w F (es++[.tup [k,v]]) (ents.push {key:=ku,val:=vu,born:=clock}).toList∧(∀e∈(ents.push {key:=ku,val:=vu,born:=clock}).toList,e.born<clock+1)∧((ents.push {key:=ku,val:=vu,born:=clock}).toList.map (·.born)).Nodup∧
   S10 ty (ents.push {key:=ku,val:=vu,born:=clock}) (clock+1):=by
 refine⟨⟨by simp [hE.1],λq e he=>?_⟩,λe he=>?_,?_,λh3=>⟨by have:=(hs h3).1;simp;omega,λq e he=>?_⟩⟩
 .rw[Array.toList_push] at he;by_cases hq:q<ents.toList.length
  .rw[xJ hq] at he;rw[xJ (by rw[hE.1];exact hq)];exact hE.2 q e he
  .have hq2:q=ents.toList.length:=by
    have:=(zX.1 he).1;simp only[zL,yH,xY] at this;omega
   subst hq2;rw[xV (zN _),Nat.sub_self] at he;cases he;rw[xV (by rw[hE.1];exact zN _),hE.1,Nat.sub_self];exact⟨k,v,rfl,hk,hv⟩
 .rw[Array.toList_push] at he;rcases yB.1 he with he | he
  .have:=hborn e he;omega
  .obtain rfl:=yZ.1 he;exact Nat.lt_succ_self _
 .rw[Array.toList_push,zE,xD];refine⟨hnd,by simp,λx hx y hy=>?_⟩;obtain⟨e,he,rfl⟩:=zI.1 hx;simp only[yJ,yU,yZ] at hy;have:=hborn e he;omega
 .rw[Array.getElem?_push] at he;split at he
  .rename_i e1;cases he;rw[e1];exact (hs h3).1
  .exact (hs h3).2 q e he
theorem kc_ {ag:Bool} {ks:List Nat} {x:AV} (h:k15 ag ks x=true):clean x=true:=by
 obtain⟨_,_,h3⟩:=ks_ (ke10 h);have leaf:∀(k:Nat) (c:AV) β,l10 k c c=some β->clean c=true:=λk c β h=>by unfold l10 at h;split at h <;> first | rfl | cases h
 have go:∀(ks:List Nat) (cs:List AV),aeqs ks cs cs=some true->clean.go cs=true:=by
  intro ks
  induction ks with
  | nil=>intro cs h;cases cs with | nil=>rfl | cons c cs=>simp [aeqs] at h
  | cons k ks ih=>
   intro cs h;cases cs with
   | nil=>simp [aeqs] at h
   | cons c cs=>
    simp only[aeqs] at h;obtain⟨b1,b2,e1,e2,e3⟩:=as12 h;have:b1=true∧b2=true:=by rw[eq_comm,zJ] at e3;exact e3
    obtain⟨rfl,rfl⟩:=this;simp only[clean.go,leaf k c true e1,ih cs e2,Bool.and_self]
 by_cases hx:∃cs,x= .agg cs
 .obtain⟨cs,rfl⟩:=hx;exact go ks cs h3
 .have hc:x.cells=[x]:=by cases x <;> first | rfl | exact absurd ⟨_,rfl⟩ hx
  rw[hc] at h3;have:=go ks [x] h3;simpa [clean.go] using this
theorem ms13 (h:RelX G C nm F st a w) {t:Nat} {x k:Operand} {ok ok' ag:Bool} {ks:List Nat} {z:AV} {y j:Opd} (ho:o.op= .lookup t x k ok) (hc:c10 P (.lookup t x k ok) (.mget ok' ag ks z y j)=true)
  {c:AV} (he:a36 st.heap ok' ag ks z (st.ev G y) (st.ev G j)=some c) (hp:st.put o.dst c=some st'):S_ P G C o a w st':=by
 simp only[c10,zJ,zB] at hc;obtain⟨⟨⟨rfl,hx⟩,hk⟩,hc⟩:=hc;split at hc
 .rename_i kt et ht;simp only[zJ,zB,zW] at hc;obtain⟨⟨hag,hks⟩,hz⟩:=hc;obtain⟨zv,hzrun,hzrep,_⟩:=zs_ hz;have hxr:=h.opd hx;have hkr:=h.opd hk;generalize st.ev G y=xv at*;generalize st.ev G j=kv at*;generalize hxe:a.eval x=xu at*;generalize hke:a.eval k=ku at*
  have fin:∀(R:Option (Nat×AV)) (R':Option (Nat×Value)) (es:Array MapEntry),M_ w F R R'->c=mres ok z R->k15 ag ks kv=true->
    ((xu= .map none∧es=#[])∨∃r clock,xu= .map (some r)∧w.heap[r]?=some (.map es clock))->
    (Instr.findKey kt ku es.toList).run P w= .ok R' w->S_ P G C o a w st':=by
   intro R R' es hm hcR hko hes hfk;have hck:=cs_ (P:=P) (em:=es.isEmpty) hkr hko hks hag;have hrun:(Instr.lookup t xu ku ok).run P w= .ok (if ok then .tuple #[mvOf R' zv,.bool R'.isSome] else mvOf R' zv) w:=by
    rcases hes with ⟨rfl,rfl⟩ | ⟨r,clock,rfl,hr⟩
    .simp only[Instr.lookup,Sem.run_bind,run_underlying ht,Result.andThen_ok,Sem.run_pure,hck,hfk];cases R' with
     | none=>cases ok <;> simp [hzrun,Result.andThen,mvOf]
     | some p=>obtain⟨q,v⟩:=p;cases ok <;> simp [mvOf]
    .simp only[Instr.lookup,Sem.run_bind,run_underlying ht,Result.andThen_ok,Sem.run_pure,MapKept.run_getObj_map hr,hck,hfk];cases R' with
     | none=>cases ok <;> simp [hzrun,Result.andThen,mvOf]
     | some p=>obtain⟨q,v⟩:=p;cases ok <;> simp [mvOf]
   refine vs_ h (by simp only[execOp,ho,hxe,hke,Sem.run_bind,hrun,Result.andThen_ok,Sem.run_pure];exact rfl) ?_ hp;rw[hcR];cases R with
   | none=>
    cases R' with
    | some _ =>exact hm.elim
    | none=>
     unfold mres;cases ok
     .exact (rr_ hzrep)
     .simp only[xW,vV];refine .tup _ [z,.bool false] [zv,.bool false] rfl λj c u hc hu=>?_
      match j,hc,hu with
      | 0,hc,hu=>cases hc;cases hu;exact rr_ hzrep
      | 1,hc,hu=>cases hc;cases hu;exact .bool _ _
   | some p=>
    cases R' with
    | none=>exact hm.elim
    | some q=>
     obtain⟨i,v⟩:=p;obtain⟨i',v'⟩:=q;obtain⟨_,hv⟩:=hm;unfold mres;cases ok
     .exact hv.any nm
     .simp only[xW,Option.isSome_some];refine .tup _ [v,.bool true] [v',.bool true] rfl λj c u hc hu=>?_
      match j,hc,hu with
      | 0,hc,hu=>cases hc;cases hu;exact hv.any nm
      | 1,hc,hu=>cases hc;cases hu;exact .bool _ _
  unfold a36 at he;split at he
  .split at he
   .rename_i hko;simp only[zZ] at he;cases hxr;refine fin none none #[] trivial he.symm hko (.inl ⟨rfl,rfl⟩) ?_;cases ag with
    | true=>
     rw[run_findKey_eq w ?_ ku #[].toList]
     .simp [Instr.findAsking]
     .unfold i_ at hag;split at hag
      .rename_i hq;rw[hq]
      .rename_i hq;rw[hq]
      .cases hag
    | false=>
     cases hu:P.underlying kt with
     | none=>simp [k10,hu] at hks
     | some d=>exact MapKept.run_findKey hu rfl
   .cases he
  .rename_i i;split at he
   .rename_i b hb;split at he
    .rename_i hcond;obtain⟨h0,h1,hko⟩:=hcond;obtain⟨R,hR,hRc⟩:=zH.1 he;obtain⟨m,ents,clock,rfl,hnm,hheap,hE,_,_,_,_,_⟩:=ml11 h hxr hb h0 h1;obtain⟨R',h2,h3,_⟩:=fs_ (P:=P) (hkr.clean (nm':=n10) (kc_ hko)) hks hag hE hR;exact fin R R' ents h3 hRc.symm hko (.inr ⟨m.g,clock,rfl,hheap⟩) h2
    .cases he
   .cases he
  .rename_i es;split at he
   .rename_i hko;obtain⟨R,hR,hRc⟩:=zH.1 he;cases hxr with
    | mapc _ _ g ents clock hFg hh hbn hl ht hkk hvv=>
     have hE:E_ w F es ents.toList:=⟨by simpa using hl,λj e he=>by
      have he':ents[j]?=some e:=by simpa using he
      have hj:j<es.length:=by rw[hl];exact (yC.1 he').1
      obtain⟨k1,v1,e1⟩:=ht j es[j] (zU hj);have e2:es[j]?=some (.tup [k1,v1]):=by rw[zU hj,e1]
      exact⟨k1,v1,e2,hkk j e k1 v1 he' e2,hvv j e k1 v1 he' e2⟩⟩
     obtain⟨R',h2,h3,_⟩:=fs_ (P:=P) (hkr.clean (nm':=n10) (kc_ hko)) hks hag hE hR;exact fin R R' ents h3 hRc.symm hko (.inr ⟨g,clock,rfl,hh⟩) h2
   .cases he
  .cases he
 .cases hc
theorem ms11 (h:RelX G C nm F st a w) {t:Nat} (ho:o.op= .makeMap t none) (he:(match o.dst with | some d=>st.new (some d) ⟨true,1,0,[]⟩ (.mapv d) | none=>none)=some st'):S_ P G C o a w st':=by
 split at he
 .rename_i d hd;refine .inl ⟨.map (some w.heap.size),w.alloc (.map #[] 0),?_,upd nm d (some ⟨w.heap.size,0,0,1⟩),F,?_⟩
  .simp only[execOp,ho,Instr.makeMap,tW,Sem.run_bind,Sem.run_pure,Result.andThen_ok,run_newObj_alloc]
  .rw[hd];refine h.new (m:=some ⟨w.heap.size,0,0,1⟩) he (h.keep.alloc _) (λk hk=>Below.heap_alloc w _ k hk) (by simp) (λm' hm=>by cases hm;exact zN _) ?_ ?_
   .exact Rd.mapv (w:=w.alloc (.map #[] 0)) (F:=F) (upd nm d (some ⟨w.heap.size,0,0,1⟩)) d ⟨w.heap.size,0,0,1⟩ (zY rfl)
   .exact .inr ⟨⟨w.heap.size,0,0,1⟩,zY rfl,.inr ⟨rfl,rfl,rfl,.inr (.inl ⟨.inl rfl,#[],0,heap_alloc_new w _,rfl,(λe he=>by simp at he),by simp,(λj e he=>by simp at he),λh=>absurd h (by decide:¬3<=1)⟩)⟩⟩
 .cases he
theorem ma_ {ag:Bool} {ks:List Nat} {x:AV}:∀(es:List AV) (i j:Nat) (old:AV),m13 ag ks x es i=some (some (j,old))->i<=j∧∃k,es[j - i]?=some (.tup [k,old])
 | [],i,j,old,h=>by simp [m13] at h
 | y::es,i,j,old,h=>by
  by_cases hy:∃a b,y= .tup [a,b]
  .obtain⟨a,b,rfl⟩:=hy;rw[m13] at h;split at h
   .simp only[zZ,vG] at h;obtain⟨rfl,rfl⟩:=h;exact⟨zN _,a,by simp⟩
   .obtain⟨h1,k,h2⟩:=ma_ _ _ _ _ h;refine⟨by omega,k,?_⟩;rw[show j - i=(j - (i+1))+1 by omega,yW];exact h2
   .cases h
  .exfalso;unfold m13 at h;split at h
   .rename_i e;cases e
   .rename_i e;cases e;exact hy ⟨_,_,rfl⟩
   .cases h
theorem mh_ {ag:Bool} {ks:List Nat} {x old:AV} {u:Value} {t j:Nat} (hx:Rd w F n10 x u) (ht:k10 P 20 t=some ks) (hag:i_ P t=ag) {es:List AV} {ents:Array MapEntry} (hE:E_ w F es ents.toList) (hf:m13 ag ks x es 0=some (some (j,old))):
  ∃hjl:j<ents.size,(Instr.keyThatStays ents[j].key u).run P w= .ok u w∧(∃v',(Instr.findKey t u ents.toList).run P w= .ok (some (j,v')) w∧Rd w F n10 old v')∧Rd w F n10 old ents[j].val:=by
 obtain⟨R',r1,r2,r3⟩:=fs_ (P:=P) hx ht hag hE hf;cases R' with
 | none=>exact r2.elim
 | some p=>
  obtain⟨j',v'⟩:=p;obtain⟨rfl,hv'⟩:=r2;obtain⟨k2,b2,g1,g2⟩:=r3 j v' rfl;have hjl:j<ents.size:=by have:=(zX.1 g1).1;rw[hE.1] at this;simpa using this
  obtain⟨k3,v3,g3,g4,g5⟩:=hE.2 j ents[j] (by simp [hjl]);obtain⟨_,k4,g6⟩:=ma_ es 0 j old hf;rw[uE,g3] at g6;cases g6;rw[g1] at g3;cases g3;obtain⟨hkk,hst⟩:=ks14 (P:=P) (w:=w) (t:=t) hx g4 g2 hag;exact⟨hjl,by rw[<-hkk];exact (by rw[<-hkk] at hst;exact hst),⟨v',r1,hv'⟩,g5⟩
theorem mm12 {ag:Bool} {ks:List Nat} {x:AV} {u:Value} {t:Nat} (hx:Rd w F n10 x u) (ht:k10 P 20 t=some ks) (hag:i_ P t=ag) {es:List AV} {ents:Array MapEntry} (hE:E_ w F es ents.toList) (hf:m13 ag ks x es 0=some none):
  (Instr.findKey t u ents.toList).run P w= .ok none w:=by
 obtain⟨R',r1,r2,_⟩:=fs_ (P:=P) hx ht hag hE hf;cases R' with
 | some _ =>exact r2.elim
 | none=>exact r1
theorem mr11 (h:RelX G C nm F st a w) {t kt et:Nat} {xv kv vv:AV} {xu ku vu:Value} {ag:Bool} {ks:List Nat} (hxr:Rd w F nm xv xu) (hkr:Rd w F nm kv ku) (hvr:Rd w F nm vv vu) (ht:P.underlying t=some (.map kt et)) (hag:i_ P kt=ag) (hks:k10 P 20 kt=some ks)
  (he:a40 st ag ks xv kv vv=some st'):∃w',(Instr.mapUpdate t xu ku vu).run P w= .ok () w'∧RelX G C nm F st' a w':=by
 unfold a40 at he;split at he
 .rename_i i;split at he
  .rename_i b hb;split at he
   .rename_i hcond;obtain⟨h0,h1,hko,hcv⟩:=hcond;obtain⟨m,ents,clock,rfl,hnm,hheap,hE,hrow,hmsz,hborn,hnd,hst⟩:=ml11 h hxr hb h0 h1;have hck:=cs_ (P:=P) (em:=false) hkr hko hks hag;have hk0:=hkr.clean (nm':=n10) (kc_ hko);have hv0:=hvr.clean (nm':=n10) hcv;split at he
    .rename_i j old hf;simp only[zZ] at he;subst he;obtain⟨hjl,hst',r1,_⟩:=mh_ (P:=P) hk0 hks hag hE hf;obtain⟨g1,g2,g3,g4⟩:=em11 (f:=λe=>{e with key:=ku,val:=vu}) (k:=kv) (v:=vv) hE hborn hnd hst hjl (λ_ =>rfl) hk0 hv0;refine⟨{w with heap:=w.heap.setIfInBounds m.g (.map (ents.modify j λe=>{e with key:=ku,val:=vu}) clock)},?_,(mp_ h hb hnm h0 hrow hmsz hheap h1 g1 g2 g3 g4).1⟩;obtain⟨v',r1,_⟩:=r1;simp only[Instr.mapUpdate,Sem.run_bind,run_underlying ht,Result.andThen_ok,MapKept.run_getObj_map hheap,hck,r1];simp only[yG hjl,yF,xK,hst',Result.andThen_ok,Sem.run_bind];exact MapKept.run_setObj_map _ hheap
    .rename_i hf;simp only[zZ] at he;subst he;have r1:=mm12 (P:=P) hk0 hks hag hE hf;obtain⟨g1,g2,g3,g4⟩:=ep13 (ku:=ku) (vu:=vu) hE hborn hnd hst hk0 hv0;refine⟨{w with heap:=w.heap.setIfInBounds m.g (.map (ents.push {key:=ku,val:=vu,born:=clock}) (clock+1))},?_,(mp_ h hb hnm h0 hrow hmsz hheap h1 g1 g2 g3 g4).1⟩;simp only[Instr.mapUpdate,Sem.run_bind,run_underlying ht,Result.andThen_ok,MapKept.run_getObj_map hheap,hck,r1];exact MapKept.run_setObj_map _ hheap
    .cases he
   .cases he
  .cases he
 .cases he
end
section
variable {P:Program} {G:Nat->Option AV} {C:Ctx} {nm:N_} {F:Nat->Prop} {st st':St} {a:Act} {w:World} {o:Oper}
end
section
variable {P:Program} {G:Nat->Option AV} {C:Ctx} {nm:N_} {F:Nat->Prop} {st st':St} {a:Act} {w:World} {o:Oper}
end
