/- Lemmas. -/
import Derived.Test.YtkgcnoghjibiaaaGreatDoorYAbStepT
set_option linter.unusedSimpArgs false
namespace Go.Proofs.YtkgcnoghjibiaaaGreatDoor.Ab
open Go Go.RowKit
section
variable {P:Program} {G:Nat->Option AV} {C:Ctx} {nm:N_} {F:Nat->Prop} {st st':St} {a:Act} {w:World} {o:Oper}
theorem as29 {k:IntKind} {x c:AV} {u:Value} (hx:Rd w F nm x u) (h:a37 k x=some c) {src dst:Nat} (hs:(P.underlying src).isSome=true) (hd:P.underlying dst=some (.int k)):
  ∃r,(convert src dst u).run P w= .ok r w∧Rd w F nm c r:=by
 obtain⟨d,hd'⟩:=Option.isSome_iff_exists.1 hs;cases x <;> simp only[a37,reduceCtorEq,zZ] at h;subst h;cases hx;refine⟨_,?_,.int _ _ _⟩;simp only[convert,Sem.run_bind,run_underlying hd',run_underlying hd,Result.andThen_ok];cases d <;> rfl
theorem as34 {off:Nat} {x c:AV} {u:Value} (hx:Rd w F nm x u) (h:afld x off=some c) {t i:Nat} {fs:Array Field} {f:Field} (ht:P.underlying t=some (.struct fs)) (hf:fs[i]?=some f) (ho:f.offset=off) (hl:i10 P f.type=true):
  ∃r,(Instr.field t u i).run P w= .ok r w∧Rd w F nm c r:=by
 cases x <;> simp only[afld,reduceCtorEq] at h;cases hx with
 | agg _ _ us hlen hr=>
  obtain⟨r,h1,h2⟩:=pl16 (P:=P) hlen hr h hl;subst ho;refine⟨r,?_,h2⟩;simp only[Instr.field,Sem.run_bind,run_underlying ht,Result.andThen_ok,hf,asAgg,Sem.run_pure,h1]
theorem as22 {off:Nat} {x c:AV} {u:Value} (hx:Rd w F nm x u) (h:a28 x off=some c) {t i:Nat} {fs:Array Field} {f:Field} {inf:TypeInfo} (ht:P.underlying t=some (.struct fs)) (hf:fs[i]?=some f) (ho:f.offset=off)
  (hi:P.info? f.type=some inf) (h0:0<inf.size):∃r,(Instr.fieldAt t u i).run P w= .ok r w∧Rd w F nm c r:=by
 have hsz:(sizeOf f.type).run P w= .ok inf.size w:=by simp [sizeOf,typeInfo,hi]
 subst ho;cases x <;> simp only[a28,reduceCtorEq,zZ] at h
 case ref j k o=>
  subst h;cases hx with
  | ref _ _ _ _ m hm=>
   refine⟨.pointer (some ⟨m.g,k*m.sz+o+f.offset,none⟩),?_,?_⟩
   .simp only[Instr.fieldAt,Sem.run_bind,run_underlying ht,Result.andThen_ok,hf,Instr.sureAddr,Sem.run_pure,fieldPlace,hsz];rw[zK (by omega)];simp only[Sem.run_pure,Result.andThen_ok,aa13]
   .rw[vK];exact .ref _ _ _ _ _ hm
 case eptr e o=>
  subst h;cases hx with
  | eptr _ _ _ g ad us hF hw h1 hr=>
   refine⟨.pointer (some ⟨g,ad+o+f.offset,none⟩),?_,?_⟩
   .simp only[Instr.fieldAt,Sem.run_bind,run_underlying ht,Result.andThen_ok,hf,Instr.sureAddr,Sem.run_pure,fieldPlace,hsz];rw[zK (by omega)];simp only[Sem.run_pure,Result.andThen_ok,aa13]
   .rw[vK];exact .eptr _ _ _ _ _ us hF hw h1 hr
theorem as32 {b:Bool} {x c:AV} {u:Value} (hx:Rd w F nm x u) (h:alen b x=some c) {t ty:Nat} (ht:match P.underlying t with | some .string=>b=true | some (.slice _)=>b=false | _ =>False):
  ∃r,(Builtin.len_ #[t] ty #[u]).run P w= .ok r w∧Rd w F nm c r:=by
 cases hu:P.underlying t with
 | none=>rw[hu] at ht;exact ht.elim
 | some d=>
  rw[hu] at ht;cases d <;> simp only at ht
  case string=>
   subst ht;cases x <;> simp only[alen,xW,reduceCtorEq,zZ] at h;subst h;cases hx;refine⟨_,?_,.int _ _ _⟩;rw[run_len_string _ _ _ _ hu];simp [goInt,ByteArray.size]
  case slice e=>
   subst ht;have key:∀(A:Option Addr) (n cap:Nat),(Builtin.len_ #[t] ty #[.slice A n cap]).run P w= .ok (goInt n) w:=λA n cap=>by simp [Builtin.len_,run_underlying hu]
   cases x <;> simp only[alen,zF,yI,reduceCtorEq,zZ] at h
   case seq sz es=>
    subst h;cases hx with
    | seq0=>exact⟨_,key _ _ _,.int _ _ _⟩
    | seq=>exact⟨_,key _ _ _,.int _ _ _⟩
   case full sz es=>
    subst h;cases hx with
    | full=>exact⟨_,key _ _ _,.int _ _ _⟩
   case nils=>subst h;cases hx;exact⟨_,key _ _ _,.int _ _ _⟩
   case arr i k n=>subst h;cases hx <;> exact⟨_,key _ _ _,.int _ _ _⟩
theorem as35 {i:Nat} {x c:AV} {u:Value} (hx:Rd w F nm x u) (h:aext x i=some c):∃r,(Instr.extract u i).run P w= .ok r w∧Rd w F nm c r:=by
 cases x <;> simp only[aext,reduceCtorEq] at h;cases hx with
 | tup _ _ us hlen hr=>
  have hlt:i<us.length:=by rw[<-hlen];exact (zX.1 h).1
  refine⟨us[i],?_,hr i c _ h (zU hlt)⟩;simp [Instr.extract,hlt]
theorem cs14 (h:RelX G C nm F st a w) {x:Option Operand} {y:Option Opd} (hc:c21 x y=true):
  match y.map (st.ev G),x.map a.eval with | some c,some u=>Rd w F nm c u | none,none=>True | _,_ =>False:=by
 cases x <;> cases y <;> simp only[c21,zF] at hc
 .trivial
 .exact h.opd hc
theorem as26 (h:RelX G C nm F st a w) {z:Nat} {x c:AV} {lo hi:Option AV} {u:Value} {lo' hi':Option Value} (hx:Rd w F nm x u) (hlo:match lo,lo' with | some c,some u=>Rd w F nm c u | none,none=>True | _,_ =>False)
  (hhi:match hi,hi' with | some c,some u=>Rd w F nm c u | none,none=>True | _,_ =>False) (he:a31 st.heap z x lo hi=some c) {t:Nat} (ht:(z=0∧P.underlying t=some .string)∨∃e,P.underlying t=some (.slice e)∧szIs P e z=true∧0<z):
  ∃r,(Instr.sliceAt t u lo' hi' none).run P w= .ok r w∧Rd w F nm c r:=by
 by_cases harr:∃i k n,x= .arr i k n
 .obtain⟨i,k,n,rfl⟩:=harr;simp only[a31] at he;split at he
  .rename_i b hb;split at he
   .rename_i hz;split at he
    .rename_i k1 l k2 hh e1 e2;split at he
     .rename_i hc;obtain⟨h0,h1,h2⟩:=hc;simp only[zZ] at he;subst he;have b1:=bo_ hlo e1;have b2:=bo_ hhi e2;obtain⟨l,rfl⟩:=zA h0;obtain⟨m,rfl⟩:=zA (show 0<=hh by omega);simp only[zP];rcases ht with ⟨hz0,_⟩ | ⟨e,ht,hs,_⟩
      .omega
      cases hx with
      | arr _ _ _ _ nmi hi hn hp=>
       have hb3:=br_ (P:=P) (w:=w) (lo:=lo') (hi:=hi') (l:=l) (h:=m) (len:=n) (cap:=nmi.cap - k) (b1.imp (λx=>⟨x.1,by omega⟩) id) (b2.imp (λx=>⟨x.1,by omega⟩) id) (by omega) (by omega) (by omega) true;have hsz:nmi.sz=z:=by
        rcases h.box i b hb with ⟨hnn,_⟩ | ⟨m',hm',hl⟩
        .rw[hi] at hnn;cases hnn
        .rw[hi] at hm';cases hm';exact (hl.c (by omega)).1.trans hz.1
       refine⟨.slice (if nmi.cap - k=l then some ⟨nmi.g,k*nmi.sz,none⟩ else some ⟨nmi.g,k*nmi.sz+l*z,none⟩) (m - l) (nmi.cap - k - l),?_,?_⟩
       .simp only[Instr.sliceAt,Sem.run_bind,run_underlying ht,Result.andThen_ok,Instr.slice,hb3,sr_ hs,Sem.run_pure,yF,aa13]
       .by_cases hpos:k+l=0
        .obtain⟨rfl,rfl⟩:k=0∧l=0:=by omega
         have key:=Rd.arr (w:=w) (F:=F) nm i 0 (m - 0) nmi hi (by omega) (.inr rfl);simp only[Nat.zero_mul,yS,uE,ite_self] at key ⊢;exact key
        .by_cases hml:m - l=0
         .rw[hml];exact .arrE _ _ _ _ _ (by omega)
         .have key:=Rd.arr (w:=w) (F:=F) nm i (k+l) (m - l) nmi hi (by omega) (.inl (by omega));rw[zK (by omega)];rw[xM,hsz,<-Nat.sub_sub] at key;rw[hsz];exact key
      | arrE _ _ _ A cap hk=>
       have hl0:l=0:=by simp at h2;omega
       have hm0:m=0:=by simp at h2;omega
       subst hl0;subst hm0;have hb3:=br_ (P:=P) (w:=w) (lo:=lo') (hi:=hi') (l:=0) (h:=0) (len:=0) (cap:=cap) (b1.imp (λx=>⟨x.1,rfl⟩) id) (b2.imp (λx=>⟨x.1,rfl⟩) id) (by omega) (by omega) (wC _) true;refine⟨.slice (if cap=0 then A else A.map (·.add (0*z))) 0 (cap - 0),?_,.arrE _ _ _ _ _ (by omega)⟩;simp only[Instr.sliceAt,Sem.run_bind,run_underlying ht,Result.andThen_ok,Instr.slice,hb3,sr_ hs,Sem.run_pure]
      | arrN=>
       have hl0:l=0:=by simp at h2;omega
       have hm0:m=0:=by simp at h2;omega
       subst hl0;subst hm0;have hb3:=br_ (P:=P) (w:=w) (lo:=lo') (hi:=hi') (l:=0) (h:=0) (len:=0) (cap:=0) (b1.imp (λx=>⟨x.1,rfl⟩) id) (b2.imp (λx=>⟨x.1,rfl⟩) id) (by omega) (by omega) (wC _) true;refine⟨.slice none 0 0,?_,.arrN _ _⟩;simp only[Instr.sliceAt,Sem.run_bind,run_underlying ht,Result.andThen_ok,Instr.slice,hb3,sr_ hs,Sem.run_pure,xW]
     .cases he
    .cases he
   .cases he
  .cases he
 .have he':aslc z x lo hi=some c:=by
   cases x <;> first | exact he | exact absurd ⟨_,_,_,rfl⟩ harr
  exact as30 hx hlo hhi he' ht
set_option maxHeartbeats 1600000 in
theorem es10 (h:RelX G C nm F st a w) {c:AOp} (hc:c10 P o.op c=true) (he:e12 G o.dst c st=some st') (hst:∀p x n,c= .store p x n->o.dst=none):S_ P G C o a w st':=by
 generalize hop:o.op=op at hc;cases c
 case mov y=>
  cases op <;> simp only[c10,zF] at hc
  all_goals exact vs_ h (by simp only[execOp,hop];rfl) (h.opd hc) he
 case nilrow ty sz=>
  unfold c10 at hc;split at hc <;> first | (rename_i e;cases e;done) | skip
  all_goals first
   | (rename_i e1 e2;cases e2;simp only[zW] at hc;exact ns32 h hc (by simp only[execOp,hop];rfl) he)
   | cases hc
   | (rename_i e1 e2;cases e2)
 case pick c' x y=>
  cases op <;> simp only[c10,zF,zJ] at hc;obtain⟨⟨h1,h2⟩,h3⟩:=hc;obtain⟨r,hb,hp⟩:=bp_ he;obtain⟨q,hq,hr⟩:=as28 (P:=P) (h.opd h1) (h.opd h2) (h.opd h3) hb;exact vs_ h (by simp only[execOp,hop];exact hq) hr hp
 case alloc ty sz z=>
  cases op <;> try (simp only[c10,zF] at hc;done)
  exact as31 h hop hc he
 case box ty sz y=>
  cases op <;> try (simp only[c10,zF] at hc;done)
  exact bs15 h hop hc he
 case build zs qs=>
  cases op <;> simp only[c10,zF] at hc;exact bs13 h hop hc he
 case mkrow ty sz n z qs=>
  cases op <;> try (simp only[c10,zF] at hc;done)
  exact ms10 h hop hc he
 case load q=>
  cases op <;> simp only[c10,zF,zJ] at hc;obtain⟨r,hb,hp⟩:=bp_ he;obtain⟨q,hq,hr⟩:=as18 (P:=P) h (h.opd hc.1) hb hc.2;exact vs_ h (by simp only[execOp,hop,Sem.run_bind,hq,Result.andThen_ok,Sem.run_pure]) hr hp
 case loadN q n=>
  cases op <;> simp only[c10,zF,zJ] at hc;obtain⟨r,hb,hp⟩:=bp_ he;obtain⟨q,hq,hr⟩:=as16 (P:=P) h (h.opd hc.1.1) hb hc.1.2 hc.2;exact vs_ h (by simp only[execOp,hop,Sem.run_bind,hq,Result.andThen_ok,Sem.run_pure]) hr hp
 case store q y n=>
  cases op <;> simp only[c10,zF,zJ] at hc;exact ss15 h hop hc.1.1 hc.1.2 hc.2 (hst _ _ _ rfl) he
 case bin op' x' y'=>
  cases op <;> simp only[c10,zF,zJ,zW] at hc;obtain⟨⟨rfl,h2⟩,h3⟩:=hc;obtain⟨r,hb,hp⟩:=bp_ he;obtain⟨q,hq,hr⟩:=as39 (P:=P) (h.opd h2) (h.opd h3) hb _ _ _;exact vs_ h (by simp only[execOp,hop,Sem.run_bind,Sem.run_pure] at hq ⊢;rw[hq];rfl) hr hp
 case eqA neg ks x' y'=>
  cases op <;> simp only[c10,zF,zJ,zW,yX] at hc;obtain⟨⟨⟨⟨⟨rfl,h2⟩,h3⟩,h4⟩,h5⟩,h6⟩:=hc;obtain⟨r,hb,hp⟩:=bp_ he;obtain⟨q,hq,hr⟩:=as38 (P:=P) (h.opd h2) (h.opd h3) hb h5 h4 h6 _ _;exact vs_ h (by simp only[execOp,hop,Sem.run_bind,Sem.run_pure] at hq ⊢;rw[hq];rfl) hr hp
 case eqB neg x' y'=>
  cases op <;> simp only[c10,zF,zJ,zW] at hc;obtain⟨⟨⟨rfl,h2⟩,h3⟩,h4⟩:=hc;obtain⟨r,hb,hp⟩:=bp_ he;split at h4
  .rename_i ht;obtain⟨q,hq,hr⟩:=as37 (P:=P) (h.opd h2) (h.opd h3) hb ht _ _;exact vs_ h (by simp only[execOp,hop,Sem.run_bind,Sem.run_pure] at hq ⊢;rw[hq];rfl) hr hp
  .cases h4
 case eqI neg x' y'=>
  cases op <;> simp only[c10,zF,zJ,zW] at hc;obtain⟨⟨⟨⟨rfl,h2⟩,h3⟩,h5⟩,h4⟩:=hc;obtain⟨r,hb,hp⟩:=bp_ he;split at h5
  .obtain⟨q,hq,hr⟩:=as36 (P:=P) (h.opd h2) (h.opd h3) hb h4 _ _;exact vs_ h (by simp only[execOp,hop,Sem.run_bind,Sem.run_pure] at hq ⊢;rw[hq];rfl) hr hp
  .cases h5
 case mki t' y=>
  cases op <;> simp only[c10,zF,zJ,zB] at hc;obtain⟨⟨rfl,h2⟩,h3⟩:=hc;refine vs_ h (v:=.iface _ (a.eval _)) ?_ (Rd.iface _ _ _ _ (h.opd h2)) he;simp only[execOp,hop,Sem.run_bind,Sem.run_pure];unfold Instr.makeInterface;simp only[Sem.run_bind];split at h3
  .cases h3
  .rename_i d hn hu;rw[run_underlying hu];simp only[Result.andThen_ok];cases d <;> first | rfl | exact absurd hu (hn _)
  .cases h3
 case un op' y=>
  cases op <;> simp only[c10,zF,zJ,zW] at hc;obtain⟨rfl,h2⟩:=hc;obtain⟨r,hb,hp⟩:=bp_ he;obtain⟨q,hq,hr⟩:=as40 (P:=P) (h.opd h2) hb;exact vs_ h (by simp only[execOp,hop,Sem.run_bind,hq,Result.andThen_ok,Sem.run_pure]) hr hp
 case conv k y=>
  cases op <;> simp only[c10,zF,zJ] at hc;obtain⟨⟨hs,h1⟩,h2⟩:=hc;obtain⟨r,hb,hp⟩:=bp_ he;split at h1
  .rename_i k' hk;simp only[zW] at h1;subst h1;obtain⟨q,hq,hr⟩:=as29 (P:=P) (h.opd h2) hb hs hk;exact vs_ h (by simp only[execOp,hop,Sem.run_bind,hq,Result.andThen_ok,Sem.run_pure]) hr hp
  .cases h1
 case fld y off=>
  cases op <;> simp only[c10,zF,zJ] at hc;obtain⟨h1,h2⟩:=hc;obtain⟨r,hb,hp⟩:=bp_ he;split at h1
  .rename_i fs hfs;split at h1
   .rename_i f hf;simp only[zJ,zB] at h1;obtain⟨q,hq,hr⟩:=as34 (P:=P) (h.opd h2) hb hfs hf h1.1 h1.2;exact vs_ h (by simp only[execOp,hop,Sem.run_bind,hq,Result.andThen_ok,Sem.run_pure]) hr hp
   .cases h1
  .cases h1
 case faddr y off=>
  cases op <;> simp only[c10,zF,zJ] at hc;obtain⟨h1,h2⟩:=hc;obtain⟨r,hb,hp⟩:=bp_ he;split at h1
  .rename_i fs hfs;split at h1
   .rename_i f hf;simp only[zJ,zB] at h1;obtain⟨h3,h4⟩:=h1;split at h4
    .rename_i inf hi;simp only[zW] at h4;obtain⟨q,hq,hr⟩:=as22 (P:=P) (h.opd h2) hb hfs hf h3 hi h4;exact vs_ h (by simp only[execOp,hop,Sem.run_bind,hq,Result.andThen_ok,Sem.run_pure]) hr hp
    .cases h4
   .cases h1
  .cases h1
 case iaddr sz y j=>
  cases op <;> simp only[c10,zF,zJ] at hc;obtain⟨⟨h1,h2⟩,h3⟩:=hc;obtain⟨r,hb,hp⟩:=bp_ he;split at h1
  .rename_i e hu;simp only[zJ,zW] at h1;obtain⟨q,hq,hr⟩:=as21 (P:=P) h h1.2 (h.opd h2) (h.opd h3) hb hu h1.1;exact vs_ h (by simp only[execOp,hop,Sem.run_bind,hq,Result.andThen_ok,Sem.run_pure]) hr hp
  .cases h1
 case idx y j=>
  cases op <;> simp only[c10,zF,zJ] at hc;obtain⟨⟨h1,h2⟩,h3⟩:=hc;obtain⟨r,hb,hp⟩:=bp_ he;split at h1
  .rename_i hu;obtain⟨q,hq,hr⟩:=as33 (P:=P) (h.opd h2) (h.opd h3) hb hu;exact vs_ h (by simp only[execOp,hop,Sem.run_bind,hq,Result.andThen_ok,Sem.run_pure]) hr hp
  .cases h1
 case slc z y lo hi=>
  cases op <;> try (simp only[c10,zF] at hc;done)
  rename_i t x lo' hi' mx;cases mx with
  | some m=>simp only[c10,zF] at hc
  | none=>
   simp only[c10,zJ] at hc;obtain⟨⟨⟨h1,h2⟩,h3⟩,h4⟩:=hc;obtain⟨r,hb,hp⟩:=bp_ he;have ht:(z=0∧P.underlying t=some .string)∨∃e,P.underlying t=some (.slice e)∧szIs P e z=true∧0<z:=by
    split at h1
    .rename_i hu;simp only[zB] at h1;exact .inl ⟨h1,hu⟩
    .rename_i e hu;simp only[zJ,zW] at h1;exact .inr ⟨e,hu,h1.1,h1.2⟩
    .cases h1
   obtain⟨q,hq,hr⟩:=as26 (P:=P) h (h.opd h2) (cs14 h h3) (cs14 h h4) hb ht;exact vs_ h (by simp only[execOp,hop,Sem.run_bind,tW,hq,Result.andThen_ok,Sem.run_pure]) hr hp
 case len b y=>
  cases op <;> try (simp only[c10,zF] at hc;done)
  rename_i cl;obtain⟨callee,args,tys⟩:=cl;cases callee <;> try (simp only[c10,zF] at hc;done)
  rename_i bi;cases bi <;> try (simp only[c10,zF] at hc;done)
  simp only[c10] at hc;split at hc
  .rename_i x t hargs htys;simp only[zJ] at hc;obtain⟨h1,h2⟩:=hc;obtain⟨r,hb,hp⟩:=bp_ he;have hargs':args=#[x]:=by rw[<-vI (xs:=args),hargs]
   have htys':tys=#[t]:=by rw[<-vI (xs:=tys),htys]
   have ht:match P.underlying t with | some .string=>b=true | some (.slice _)=>b=false | _ =>False:=by
    split at h2
    .rename_i hu;rw[hu];exact h2
    .rename_i e hu;rw[hu];simpa using h2
    .cases h2
   obtain⟨q,hq,hr⟩:=as32 (P:=P) (ty:=o.type) (h.opd h1) hb ht;exact vs_ h (by simp only[execOp,hop,hargs',htys',resolve,invoke,builtin,Sem.run_bind,Sem.run_pure,Result.andThen_ok,tD,yJ,yU,hq]) hr hp
  .cases hc
 case app ty sz bytes y z=>
  cases op <;> try (simp only[c10,zF] at hc;done)
  rename_i cl;obtain⟨callee,args,tys⟩:=cl;cases callee <;> try (simp only[c10,zF] at hc;done)
  rename_i bi;cases bi <;> try (simp only[c10,zF] at hc;done)
  exact as52 h hop hc he
 case mkmap=>
  cases op <;> try (simp only[c10,zF] at hc;done)
  rename_i t r;cases r <;> try (simp only[c10,zF] at hc;done)
  exact ms11 h hop he
 case mget ok ag ks z y j=>
  cases op <;> try (simp only[c10,zF] at hc;done)
  obtain⟨r,hb,hp⟩:=bp_ he;exact ms13 h hop hc hb hp
 case mput ag ks y j u=>
  have key:∀(t:Nat) (m k v:Operand),(c_ m y&&c_ k j&&c_ v u&&(match P.underlying t with | some (.map kt _)=>i_ P kt==ag&&decide (k10 P 20 kt=some ks) | _ =>false))=true->
    (∀w',(Instr.mapUpdate t (a.eval m) (a.eval k) (a.eval v)).run P w= .ok () w'->(execOp a.eval o).run P w= .ok .skip w')->S_ P G C o a w st':=λt m k v hq hrun=>by
   simp only[zJ] at hq;obtain⟨⟨⟨h1,h2⟩,h3⟩,h4⟩:=hq;split at h4
   .rename_i kt et ht;simp only[zJ,zB,zW] at h4;have hd:o.dst=none:=by
     simp only[e12] at he;split at he
     .assumption
     .cases he
    rw[hd] at he;obtain⟨w',g1,g2⟩:=mr11 (P:=P) h (h.opd h1) (h.opd h2) (h.opd h3) ht h4.1 h4.2 he;refine .inr ⟨w',hrun w' g1,nm,F,?_⟩;rw[hd];exact g2
   .cases h4
  cases op <;> try (simp only[c10,zF] at hc;done)
  all_goals exact key _ _ _ _ hc λw' hr=>by simp only[execOp,hop,Sem.run_bind,hr,Result.andThen_ok,Sem.run_pure]
 case ext y i=>
  cases op <;> simp only[c10,zF,zJ,zB] at hc;obtain⟨h1,rfl⟩:=hc;obtain⟨r,hb,hp⟩:=bp_ he;obtain⟨q,hq,hr⟩:=as35 (P:=P) (h.opd h1) hb;exact vs_ h (by simp only[execOp,hop,Sem.run_bind,hq,Result.andThen_ok,Sem.run_pure]) hr hp
 case nchk y=>
  cases op <;> simp only[c10,zF] at hc;obtain⟨r,hb,hp⟩:=bp_ he;have hx:=h.opd hc;rename_i x;generalize hxv:a.eval x=xv at hx;generalize st.ev G y=yv at hx hb;have:r=yv∧(execOp a.eval o).run P w= .ok (.value xv) w:=by cases yv <;> simp only[a39,reduceCtorEq,zZ] at hb <;> cases hx <;> exact⟨hb.symm,by simp only[execOp,hop,hxv];rfl⟩
  exact vs_ h this.2 (this.1 ▸ hx) hp
 case mkfn f ys=>
  cases op <;> try (simp only[c10,zF] at hc;done)
  rename_i fn first caps
  cases fn <;> try (simp only[c10,zF] at hc;done)
  simp only[c10,zJ,zB,zW] at hc;obtain⟨⟨e1,e2⟩,h3⟩:=hc;obtain⟨h1,h2⟩:=h.opds h3;rename_i f';have hr:=Rd.fn (w:=w) (F:=F) nm f (evs G st ys) _ h1 h2;have e:f30 f ((first.toList++caps.toList).map a.eval)= .func (.func f') (first.map a.eval) (caps.map a.eval):=by
   have hm:fnN f=f':=by rw[e1];unfold fnN;rw[Nat.add_mul_mod_self_left,tC e2]
   have hd:f / fnB=first.size:=by rw[e1,Nat.add_mul_div_left _ _ (by decide),Nat.div_eq_of_lt e2,yS]
   have hl:(first.toList.map a.eval).length=first.size:=by simp
   unfold f30;rw[hm,hd,zE,<-hl,List.take_left',List.drop_left']
   .congr 1
    .apply Array.ext';simp
    .apply Array.ext';simp
   .rfl
   .rfl
  rw[e] at hr;refine vs_ h ?_ hr he;simp only[execOp,hop,Instr.makeFunc,Sem.run_bind,Sem.run_pure,Result.andThen_ok]
 case bad=>simp only[e12,reduceCtorEq] at he
 case mks ty sz bytes z p q=>
  cases op <;> simp only[c10,zF,zJ,zW] at hc;obtain⟨⟨⟨⟨⟨⟨⟨⟨h1,h2⟩,h3⟩,h4⟩,h5⟩,h6⟩,h7⟩,h8⟩,h9⟩:=hc;exact ms14 h hop h1 h2 h3 h4 h5 h6 h7 h8 h9 he
 case slcG n y=>
  cases op <;> try (simp only[c10,zF] at hc;done)
  rename_i t x lo hi mx;cases lo <;> cases hi <;> cases mx <;> simp only[c10,zF,zJ] at hc;obtain⟨h1,h2⟩:=hc;obtain⟨r,hb,hp⟩:=bp_ he;split at h1
  .rename_i m e hu;simp only[zJ,zB,zW] at h1;obtain⟨⟨rfl,h3⟩,h4⟩:=h1;obtain⟨q,hq,hr⟩:=as27 (P:=P) (h.opd h2) hb hu h3 h4;exact vs_ h (by simp only[execOp,hop,Sem.run_bind,tW,hq,Result.andThen_ok,Sem.run_pure]) hr hp
  .cases h1
 case mx mn y z=>
  cases op <;> try (simp only[c10,zF] at hc;done)
  rename_i cl;obtain⟨callee,args,tys⟩:=cl;cases callee <;> try (simp only[c10,zF] at hc;done)
  rename_i bi;have key:∀(u v:Operand),args=#[u,v]->c_ u y=true->c_ v z=true->(bi=if mn then .min else .max)->S_ P G C o a w st':=by
   intro u v hargs h1 h2 hbi;obtain⟨r,hb,hp⟩:=bp_ he;obtain⟨q,hq,hr⟩:=as45 (P:=P) (h.opd h1) (h.opd h2) hb tys o.type;refine vs_ h ?_ hr hp;cases mn
   .simp only[zF,yI] at hbi hq;subst hbi;simp only[execOp,hop,hargs,resolve,invoke,builtin,Sem.run_bind,Sem.run_pure,Result.andThen_ok,tD,yJ,yU,hq]
   .simp only[xW] at hbi hq;subst hbi;simp only[execOp,hop,hargs,resolve,invoke,builtin,Sem.run_bind,Sem.run_pure,Result.andThen_ok,tD,yJ,yU,hq]
  cases bi <;> try (simp only[c10,zF] at hc;done)
  all_goals
   simp only[c10] at hc;split at hc
   .rename_i u v hargs;simp only[zJ,yX] at hc;obtain⟨⟨h0,h1⟩,h2⟩:=hc;subst h0;exact key u v (by rw[<-vI (xs:=args),hargs]) h1 h2 rfl
   .cases hc
 case rng y=>
  cases op <;> simp only[c10,zF,zJ] at hc;obtain⟨h1,h2⟩:=hc;split at h1
  .rename_i hu;exact rs22 h hop hu h2 he
  .cases h1
 case nxt y=>
  cases op <;> simp only[c10,zF,zJ] at hc;obtain⟨rfl,h2⟩:=hc;exact ns35 h hop h2 he
 case call=>simp only[e12,reduceCtorEq] at he
 case callv=>simp only[e12,reduceCtorEq] at he
 case callB=>simp only[e12,reduceCtorEq] at he
 case callvB=>simp only[e12,reduceCtorEq] at he
end
def q13 (args:List AV) (r:AV):Bool:=flat r||(r11 args).isEmpty
def c33 (P:Program) (G:Nat->Option AV) (q:Bool) (f:Nat) (args:List AV) (d:Option Nat) (st:St) (K:St->Prop):Prop:=
 ∃vargs args' r st',v10 r st.heap args=some vargs∧FitL vargs args'∧P_ P G f args' r∧(b_ st args r).put d r=some st'∧(q=true->q13 args r=true)∧K st'
def Weak (st st':St):Prop:=∀(G:Nat->Option AV) (C:Ctx) (a:Act) (w:World),Rel G C st a w->Rel G C st' a w
theorem Weak.refl (st:St):Weak st st:=λ_ _ _ _ h=>h
theorem Weak.trans {a b c:St} (h:Weak a b) (h':Weak b c):Weak a c:=λ_ _ _ _ x=>h' _ _ _ _ (h _ _ _ _ x)
def c30 (P:Program) (G:Nat->Option AV) (f:Nat) (args:List AV) (d:Option Nat) (st:St) (K:St->Prop):Prop:=
 ∃I args1 args' H H' H2 r r2 st',FitL args args1∧renO.go I args'=some args1∧G_ I st.heap H∧n15 (ours I)=true∧n15 (t29 I)=true∧n22 st.N H I=true∧
  H_ P G f args' H r H'∧renO I r=some r2∧t42 I H'=some H2∧(a17 st I H H2).put d r2=some st'∧K st'
def c37 (P:Program) (G:Nat->Option AV) (f:Nat) (args:List AV) (d:Option Nat) (st:St) (K:St->Prop):Prop:=
 ∃vargs args' r st',viewBs st.heap args=some vargs∧FitL vargs args'∧P10 P G f args' r∧st.put d r=some st'∧K st'
def c25 (P:Program) (G:Nat->Option AV) (q:Bool) (f:Nat) (args:List AV) (d:Option Nat) (st:St) (K:St->Prop):Prop:=
 c33 P G q f args d st K∨c37 P G f args d st K
def c20 (P:Program) (G:Nat->Option AV) (q:Bool) (f:Nat) (args:List AV) (d:Option Nat) (st:St) (K:St->Prop):Prop:=
 c25 P G q f args d st K∨(q=false∧c30 P G f args d st K)
def c24 (P:Program) (G:Nat->Option AV) (q:Bool) (f:Nat) (args:List AV) (src:Option Opd×List Opd) (d:Option Nat) (st:St) (K:St->Prop):Prop:=
 c20 P G q f args d st K∨(q=false∧∃st1,Weak st st1∧match src.1 with
  | none=>c20 P G false f (evs G st1 src.2) d st1 K
  | some x=>match st1.ev G x with
   | .fn f' caps=>b11 P f'=true∧c20 P G false f' (evs G st1 src.2++caps) d st1 K
   | _ =>False)
def s29 (P:Program) (G:Nat->Option AV) (q:Bool) (d:Option Nat) (op:AOp) (st:St) (K:St->Prop):Prop:=
 match op with
 | .call f xs=>c24 P G q f (evs G st xs) (none,xs) d st K
 | .callv x xs=>match st.ev G x with
  | .fn f caps=>b11 P f=true∧c24 P G q f (evs G st xs++caps) (some x,xs) d st K
  | _ =>False
 | .callB f xs=>c24 P G false f (evs G st xs) (none,xs) d st K
 | .callvB x xs=>match st.ev G x with
  | .fn f caps=>b11 P (fnN f)=true∧c24 P G false (fnN f) (fnA f caps (evs G st xs)) (some x,xs) d st K
  | _ =>False
 | op=>match e12 G d op st with
  | some st'=>K st'
  | none=>False
def St.know (st:St) (t:Nat) (b:Bool):St:={st with env:=(t,.bool b)::st.env}
def s33 (d:Option Nat) (st:St) (K:St->Prop):Prop:=match st.put d .undef with | some st'=>K st' | none=>False
def opP (P:Program) (G:Nat->Option AV) (q:Bool) (o:AO) (st:St) (K:St->Prop):Prop:=
 match o.g with
 | none=>s29 P G q o.d o.op st K
 | some (t,want)=>match st.get t with
  | .bool b=>(b=want->s29 P G q o.d o.op (st.know t want) K)∧(b=(!want)->s33 o.d (st.know t (!want)) K)
  | .undef=>s33 o.d st K
  | _ =>False
def opsP (P:Program) (G:Nat->Option AV) (q:Bool):List AO->St->(St->Prop)->Prop
 | [],st,K=>K st
 | o::os,st,K=>opP P G q o st λst'=>opsP P G q os st' K
def c23 (ops:Array Oper) (g:Option (Nat×Bool)) (g':Option (Nat×Bool)):Bool:=
 match g,g' with
 | none,none=>true
 | some (j,b),some (t,b')=>((ops[j]?).bind (·.dst))==some t&&b==b'
 | _,_ =>false
def i12:AOp->Bool
 | .store .. =>true
 | _ =>false
def c29 (P:Program) (ops:Array Oper) (o:Oper) (ao:AO):Bool:=
 o.dst==ao.d&&c23 ops o.guard ao.g&&c10 P o.op ao.op&&(!i12 ao.op||o.dst.isNone)
def c16 (P:Program) (ops:Array Oper):List Oper->List AO->Bool
 | [],[]=>true
 | o::os,ao::aos=>c29 P ops o ao&&c16 P ops os aos
 | _,_ =>false
section
variable {P:Program} {q:Bool} {G:Nat->Option AV} {C:Ctx} {st st':St} {a:Act} {w:World} {o:Oper}
theorem cm12 {f:Nat} {args:List AV} {d:Option Nat} {K K':St->Prop} (h:c30 P G f args d st K) (hk:∀st,K st->K' st):c30 P G f args d st K':=by obtain⟨a1,a2,a3,a4,a5,a6,a7,a8,a9,h1,h2,h3,h4,h5,h6,h7,h8,h9,h10,h11⟩:=h;exact⟨a1,a2,a3,a4,a5,a6,a7,a8,a9,h1,h2,h3,h4,h5,h6,h7,h8,h9,h10,hk _ h11⟩
theorem cm13 {f:Nat} {args:List AV} {d:Option Nat} {K K':St->Prop} (h:c33 P G q f args d st K) (hk:∀st,K st->K' st):c33 P G q f args d st K':=by obtain⟨a,b,c,d,h1,h2,h3,h4,hq,h5⟩:=h;exact⟨a,b,c,d,h1,h2,h3,h4,hq,hk _ h5⟩
theorem cm_ {f:Nat} {args:List AV} {d:Option Nat} {K K':St->Prop} (h:c20 P G q f args d st K) (hk:∀st,K st->K' st):c20 P G q f args d st K':=by
 rcases h with (h | ⟨a,b,c,e,h1,h2,h3,h4,h5⟩) | ⟨h0,h⟩
 .exact .inl (.inl (cm13 h hk))
 .exact .inl (.inr ⟨a,b,c,e,h1,h2,h3,h4,hk _ h5⟩)
 .exact .inr ⟨h0,cm12 h hk⟩
theorem cm11 {f:Nat} {args:List AV} {src:Option Opd×List Opd} {d:Option Nat} {K K':St->Prop} (h:c24 P G q f args src d st K) (hk:∀st,K st->K' st):c24 P G q f args src d st K':=by
 rcases h with h | ⟨h0,st1,h1,h⟩
 .exact .inl (cm_ h hk)
 .refine .inr ⟨h0,st1,h1,?_⟩;obtain⟨src1,src2⟩:=src;cases src1 with
  | none=>exact cm_ h hk
  | some x=>
   simp only at h ⊢;split at h
   .exact⟨h.1,cm_ h.2 hk⟩
   .exact h.elim
theorem bl11 {f:Nat} (hf:b11 P f=true):f<fnB:=by unfold b11 at hf;rw[zJ,zW] at hf;exact hf.1
theorem cr11 {f:Nat} {args:Array Value} (hf:b11 P f=true) (w:World):(callFunc f args).run P w= .ok (.enter f args) w:=by
 unfold b11 at hf;rw[zJ] at hf;obtain⟨-,hf⟩:=hf;split at hf
 .rename_i fn hfn;simp only[zJ,yX] at hf;obtain⟨h1,h2⟩:=hf;simp only[callFunc,Sem.run_bind,run_program,Result.andThen_ok,hfn,h2,zF,yI];rw[zK (by simpa [Option.isNone_iff_eq_none,Option.isSome_iff_ne_none] using h1)];rfl
 .cases hf
theorem ma10 (args:Array Operand) (f:Operand->Value):(args.toList.map f).toArray=args.map f:=by apply Array.ext';simp
def i15:AOp->Bool
 | .callB .. | .callvB .. =>true
 | _ =>false
theorem es11 {st:St} {nm:N_} {F:Nat->Prop} {f:Nat} {args:List AV} {us:List Value} {d:Option Nat} {K:St->Prop} {K':Act->World->Prop} {Q:Exit->Act->World->Prop} (hd:o.dst=d) (hK:∀st' a' w',K st'->Rel G C st' a' w'->K' a' w')
  (hx:RelX G C nm F st a w) (hr:(execOp a.eval o).run P w= .ok (.enter f us.toArray) w) (hl:args.length=us.length)
  (hrd:∀(j:Nat) c u,args[j]?=some c->us[j]?=some u->Rd w F nm c u) (hcp:c20 P G q f args d st K):o.wp P a w K' Q:=by
 unfold Oper.wp;rw[hr,Oper.upon_enter];rcases hcp with (⟨vargs,args',r,st',h1,h2,h3,h4,-,h5⟩ | ⟨vargs,args',r,st',h1,h2,h3,h4,h5⟩) | ⟨-,I,args1,args',H,H',H2,r,r2,st',h1,h2,h3,h4,h5,h6,h7,h8,h9,h10,h11⟩
 .rw[<-hd] at h4;refine (cs20 hx hl hrd h1 h2 h3 h4).mono ?_;rintro e w' ⟨v,rfl,hrel⟩;exact hK _ _ _ h5 hrel
 .rw[<-hd] at h4;refine (cs16 hx hl hrd h1 h2 h3 h4).mono ?_;rintro e w' ⟨v,rfl,hrel⟩;exact hK _ _ _ h5 hrel
 .rw[<-hd] at h10;refine (cs17 hx hl hrd h1 h2 h3 h4 h5 h6 h7 h8 h9 h10).mono ?_;rintro e w' ⟨v,rfl,hrel⟩;exact hK _ _ _ h11 hrel
theorem cs11 {x:Opd} {xs:List Opd} {y:Operand} {cl:Call} {nm:N_} {F:Nat->Prop} {f:Nat} {caps:List AV} {d:Option Nat} {K:St->Prop} {K':Act->World->Prop} {Q:Exit->Act->World->Prop} (hd:o.dst=d) (hK:∀st' a' w',K st'->Rel G C st' a' w'->K' a' w')
  (hop:o.op= .call cl) (hcl:cl.callee= .value y) (h1:c_ y x=true) (h2:c13 cl.args.toList xs=true)
  (hx:RelX G C nm F st a w) (hev:st.ev G x= .fn f caps) (hbo:b11 P (fnN f)=true) (hk:c20 P G q (fnN f) (fnA f caps (evs G st xs)) d st K):o.wp P a w K' Q:=by
 have hy:=hx.opd h1;rw[hev] at hy;generalize hey:a.eval y=yv at hy;cases hy with
 | fn _ _ _ us hl hr=>
  obtain⟨h4,h5⟩:=hx.opds h2;have hfn:∀vs,(callFunc (fnN f) vs).run P w= .ok (.enter (fnN f) vs) w:=λvs=>cr11 hbo w;obtain⟨callee,args,tys⟩:=cl;simp only at hcl h2 h4 h5;subst hcl;have hlt:(caps.take (f / fnB)).length=(us.take (f / fnB)).length:=by simp only[xG];omega
  refine es11 (us:=us.take (f / fnB)++args.toList.map a.eval++us.drop (f / fnB)) hd hK hx ?_ (by unfold fnA;simp only[zL,wN];omega) (λj c u hc hu=>?_) hk
  .simp only[execOp,hop,resolve,Sem.run_bind,hey,f30,Deferred.ofValue,Sem.run_pure,Result.andThen_ok,invoke];have:=hfn ((us.take (f / fnB)).toArray++(args.toList.map a.eval).toArray++(us.drop (f / fnB)).toArray);rw[<-List.append_toArray,<-List.append_toArray,ma10] at*;simpa using this
  .unfold fnA at hc;rw[wE] at hc hu;simp only[zL] at hc hu;split at hc
   .rename_i hj;rw[zY (by omega)] at hu;rw[wE] at hc hu;split at hc
    .rename_i hj';rw[zY (by omega)] at hu;simp only[xG] at hj';rw[vH (by omega)] at hc hu;exact hr j c u hc hu
    .rename_i hj';rw[zK (by omega),<-hlt] at hu;exact h5 _ c u hc hu
   .rename_i hj;rw[zK (by omega),<-hlt,<-h4] at hu;rw[xX] at hc hu;exact hr _ c u hc hu
theorem ss11 (h:Rel G C st a w) {ao:AO} (hB:i15 ao.op=false) (hd:o.dst=ao.d) (hc:c10 P o.op ao.op=true) (hs:i12 ao.op=true->o.dst=none) {K:St->Prop} (hk:s29 P G q ao.d ao.op st K)
  {K':Act->World->Prop} {Q:Exit->Act->World->Prop} (hK:∀st' a' w',K st'->Rel G C st' a' w'->K' a' w'):o.wp P a w K' Q:=by
 have enter:∀{q:Bool} {st:St} {nm:N_} {F:Nat->Prop} {f:Nat} {args:List AV} {us:List Value},RelX G C nm F st a w->(execOp a.eval o).run P w= .ok (.enter f us.toArray) w->args.length=us.length->
   (∀(j:Nat) c u,args[j]?=some c->us[j]?=some u->Rd w F nm c u)->c20 P G q f args ao.d st K->o.wp P a w K' Q:=by
  intro q st nm F f args us hx hr hl hrd hcp;unfold Oper.wp;rw[hr,Oper.upon_enter];rcases hcp with (⟨vargs,args',r,st',h1,h2,h3,h4,-,h5⟩ | ⟨vargs,args',r,st',h1,h2,h3,h4,h5⟩) | ⟨-,I,args1,args',H,H',H2,r,r2,st',h1,h2,h3,h4,h5,h6,h7,h8,h9,h10,h11⟩
  .rw[<-hd] at h4;refine (cs20 hx hl hrd h1 h2 h3 h4).mono ?_;rintro e w' ⟨v,rfl,hrel⟩;exact hK _ _ _ h5 hrel
  .rw[<-hd] at h4;refine (cs16 hx hl hrd h1 h2 h3 h4).mono ?_;rintro e w' ⟨v,rfl,hrel⟩;exact hK _ _ _ h5 hrel
  .rw[<-hd] at h10;refine (cs17 hx hl hrd h1 h2 h3 h4 h5 h6 h7 h8 h9 h10).mono ?_;rintro e w' ⟨v,rfl,hrel⟩;exact hK _ _ _ h11 hrel
 have h0:=h;obtain⟨nm,F,hx⟩:=h;have pure_:∀{op:AOp},ao.op=op->(∃st',e12 G ao.d op st=some st'∧K st')->o.wp P a w K' Q:=by
  rintro op rfl ⟨st',he,hk⟩;rw[<-hd] at he;unfold Oper.wp;rcases es10 hx hc he (λp x n e=>hs (by rw[e];rfl)) with ⟨v,w',hr,hrel⟩ | ⟨w',hr,hrel⟩
  .rw[hr,Oper.upon_value];exact hK _ _ _ hk hrel
  .rw[hr,Oper.upon_skip];exact hK _ _ _ hk hrel
 have plain:(match e12 G ao.d ao.op st with | some st'=>K st' | none=>False)->∃st',e12 G ao.d ao.op st=some st'∧K st':=by
  intro h;split at h
  .rename_i st' he;exact⟨st',he,h⟩
  .exact h.elim
 generalize hao:ao.op=aop at hk;cases aop
 case call f xs=>
  rw[hao] at hc;generalize hop:o.op=op at hc;cases op <;> try (simp only[c10,zF] at hc;done)
  rename_i cl;obtain⟨callee,args,tys⟩:=cl;cases callee <;> try (simp only[c10,zF] at hc;done)
  rename_i x;simp only[c10,zJ] at hc;obtain⟨⟨h1,h2⟩,h3⟩:=hc;cases x <;> simp only[zB,zF] at h1;subst h1;rename_i f;have hrun:(execOp a.eval o).run P w= .ok (.enter f (args.toList.map a.eval).toArray) w:=by have:=cr11 (args:=(args.toList.map a.eval).toArray) h3 w;simp only[execOp,hop,resolve,Sem.run_bind,Act.eval,Deferred.ofValue,Sem.run_pure,Result.andThen_ok,invoke];rw[ma10] at this ⊢;simpa using this
  rcases hk with hk | ⟨-,st1,hw,hk⟩
  .obtain⟨h4,h5⟩:=hx.opds h2;exact enter hx hrun h4 h5 hk
  .obtain⟨nm1,F1,hx1⟩:=hw _ _ _ _ h0;obtain⟨h4,h5⟩:=hx1.opds h2;exact enter hx1 hrun h4 h5 hk
 case callv x xs=>
  rw[hao] at hc;generalize hop:o.op=op at hc;cases op <;> try (simp only[c10,zF] at hc;done)
  rename_i cl;obtain⟨callee,args,tys⟩:=cl;cases callee <;> try (simp only[c10,zF] at hc;done)
  rename_i y;simp only[c10,zJ] at hc;obtain⟨h1,h2⟩:=hc;have go:∀{q:Bool} {st:St} {nm:N_} {F:Nat->Prop} {f:Nat} {caps:List AV},RelX G C nm F st a w->st.ev G x= .fn f caps->b11 P f=true->c20 P G q f (evs G st xs++caps) ao.d st K->o.wp P a w K' Q:=by intro q st nm F f caps hx hev hbo hk;have hlt:=bl11 hbo;exact cs11 hd hK hop rfl h1 h2 hx hev (by rw[fp_ hlt];exact hbo) (by rw[fp_ hlt,fp10 hlt];exact hk)
  simp only[s29] at hk;split at hk
  .rename_i f caps hev;obtain⟨hbo,hk⟩:=hk;rcases hk with hk | ⟨-,st1,hw,hk⟩
   .exact go hx hev hbo hk
   .obtain⟨nm1,F1,hx1⟩:=hw _ _ _ _ h0;simp only at hk;split at hk
    .rename_i f' caps' hev';exact go hx1 hev' hk.1 hk.2
    .exact hk.elim
  .exact hk.elim
 case callB=>rw[hao] at hB;cases hB
 case callvB=>rw[hao] at hB;cases hB
 all_goals exact pure_ rfl (plain (by rw[hao];exact hk))
theorem ss12 (h:Rel G C st a w) {ao:AO} (hd:o.dst=ao.d) (hc:c10 P o.op ao.op=true) (hs:i12 ao.op=true->o.dst=none) {K:St->Prop} (hk:s29 P G q ao.d ao.op st K)
  {K':Act->World->Prop} {Q:Exit->Act->World->Prop} (hK:∀st' a' w',K st'->Rel G C st' a' w'->K' a' w'):o.wp P a w K' Q:=by
 obtain⟨d,op,g⟩:=ao;simp only at hd hc hs hk;by_cases hB:i15 op=false
 .exact ss11 (ao:=⟨d,op,g⟩) h hB hd hc hs hk hK
 cases op
 case callB f xs=>
  have hc':c10 P o.op (.call f xs)=true:=by
   generalize hop:o.op=op at hc;cases op <;> try (simp only[c10,zF] at hc;done)
   rename_i cl;obtain⟨callee,args,tys⟩:=cl;cases callee <;> try (simp only[c10,zF] at hc;done)
   exact hc
  exact ss11 (q:=false) (ao:=⟨d,.call f xs,g⟩) h rfl hd hc' (λe=>by cases e) hk hK
 case callvB x xs=>
  generalize hop:o.op=op at hc;cases op <;> try (simp only[c10,zF] at hc;done)
  rename_i cl;obtain⟨callee,args,tys⟩:=cl;cases callee <;> try (simp only[c10,zF] at hc;done)
  rename_i y;simp only[c10,zJ] at hc;obtain⟨h1,h2⟩:=hc;simp only[s29] at hk;split at hk
  .rename_i f caps hev;obtain⟨hbo,hk⟩:=hk;rcases hk with hk | ⟨-,st1,hw,hk⟩
   .obtain⟨nm,F,hx⟩:=h;exact cs11 hd hK hop rfl h1 h2 hx hev hbo hk
   .obtain⟨nm1,F1,hx1⟩:=hw _ _ _ _ h;simp only at hk;split at hk
    .rename_i f' caps' hev';have hlt:=bl11 hk.1;exact cs11 hd hK hop rfl h1 h2 hx1 hev' (by rw[fp_ hlt];exact hk.1) (by rw[fp_ hlt,fp10 hlt];exact hk.2)
    .exact hk.elim
  .exact hk.elim
 all_goals exact absurd rfl hB
theorem RelX.know {nm:N_} {F:Nat->Prop} (h:RelX G C nm F st a w) {t:Nat} {b:Bool} (ht:a.tmps.getD t undef= .bool b):RelX G C nm F (st.know t b) a w:=by
 refine⟨h.N,h.df,λt'=>?_,h.box,h.inj,h.fr,h.own,h.good,h.f0,h.fb,h.keep,h.vn⟩;simp only[St.get,St.know,eget];split
 .rename_i e;subst e;rw[ht];exact .bool _ _
 .exact h.env t'
theorem yb_ {ops:Array Oper} {tmps:Array Value} {j t:Nat} {b:Bool} (hj:(ops[j]?).bind (·.dst)=some t) (ht:tmps.getD t undef= .bool b):yielded ops tmps j=some b:=by
 have:tmps[t]?=some (.bool b):=by
  rw[zC] at ht;cases h:tmps[t]? with
  | none=>rw[h] at ht;simp [undef] at ht
  | some v=>rw[h] at ht;simp at ht;rw[ht]
 simp only[yielded,hj,vN,this]
theorem yu_ {ops:Array Oper} {tmps:Array Value} {j t:Nat} (hj:(ops[j]?).bind (·.dst)=some t) (ht:tmps.getD t undef=undef):yielded ops tmps j=none:=by
 simp only[yielded,hj,vN];rw[zC] at ht;cases h:tmps[t]? with
 | none=>rfl
 | some v=>rw[h] at ht;simp [undef] at ht;subst ht;rfl
theorem ss13 (h:Rel G C st a w) {d:Option Nat} {K:St->Prop} (hk:s33 d st K):∃st',K st'∧Rel G C st' (a.put d undef) w:=by
 obtain⟨nm,F,hx⟩:=h;unfold s33 at hk;split at hk
 .rename_i st' hp;exact⟨st',hk,nm,F,hx.put (.undef _) hp⟩
 .exact hk.elim
theorem os_ (h:Rel G C st a w) {ops:Array Oper} {ao:AO} (hc:c29 P ops o ao=true) {K:St->Prop} (hk:opP P G q ao st K)
  {K':Act->World->Prop} {Q:Exit->Act->World->Prop} (hK:∀st' a' w',K st'->Rel G C st' a' w'->K' a' w'):
  if Region.wanted o (yielded ops a.tmps) then o.wp P a w K' Q else K' (a.put o.dst undef) w:=by
 simp only[c29,zJ,zB] at hc;obtain⟨⟨⟨hd,hg⟩,hop⟩,hs⟩:=hc;have hs':i12 ao.op=true->o.dst=none:=λe=>by rw[e] at hs;simpa using hs
 unfold c23 at hg;unfold opP at hk;split at hg
 .rename_i e1 e2;rw[e2] at hk;simp only[Region.wanted,e1,xW];exact ss12 h hd hop hs' hk hK
 .rename_i j b t b' e1 e2;simp only[zJ,zB] at hg;obtain⟨hj,rfl⟩:=hg;rw[e2] at hk;simp only at hk;obtain⟨nm,F,hx⟩:=h;have ht:=hx.env t;split at hk
  .rename_i β hβ;rw[hβ] at ht;generalize hev:a.tmps.getD t undef=v at ht;cases ht;have hy:=yb_ hj hev;simp only[Region.wanted,e1,hy];by_cases hb:β=b
   .subst hb;simp only[uD,xW];exact ss12 ⟨nm,F,hx.know hev⟩ hd hop hs' (hk.1 rfl) hK
   .have hb':β=(!b):=by clear hk hβ;revert hb;cases β <;> cases b <;> decide
    subst hb';have hne:(some (!b)==some b)=false:=by cases b <;> rfl
    simp only[hne,zF,yI];obtain⟨st',h1,h2⟩:=ss13 (d:=ao.d) ⟨nm,F,hx.know hev⟩ (hk.2 rfl);rw[hd];exact hK _ _ _ h1 h2
  .rename_i hβ;rw[hβ] at ht;generalize hev:a.tmps.getD t undef=v at ht;cases ht;have hy:=yu_ hj hev;simp only[Region.wanted,e1,hy];obtain⟨st',h1,h2⟩:=ss13 ⟨nm,F,hx⟩ hk;rw[hd];exact hK _ _ _ h1 h2
  .exact hk.elim
 .cases hg
theorem os11 {ops:Array Oper} {Q:Exit->Act->World->Prop}:∀(l:List Oper) (aos:List AO) (st:St) (a:Act) (w:World) (K:St->Prop),c16 P ops l aos=true->opsP P G q aos st K->Rel G C st a w->
  (∀st' a' w',K st'->Rel G C st' a' w'->Q .normal a' w')->wpList P ops Q l a w
 | [],[],st,a,w,K,_,hk,h,hK=>hK st a w hk h
 | o::l,ao::aos,st,a,w,K,hc,hk,h,hK=>by simp only[c16,zJ] at hc;refine wpList_step λK' hK'=>?_;exact os_ h hc.1 hk λst' a' w' h1 h2=>hK' _ _ (os11 l aos st' a' w' K hc.2 h1 h2 hK)
 | [],_ ::_,_,_,_,_,hc,_,_,_ =>by simp [c16] at hc
 | _ ::_,[],_,_,_,_,hc,_,_,_ =>by simp [c16] at hc
end
