/-
  Each operation but a call, all in one. No claim is proved here.
-/
import Derived.Test.YtkejmcgngblfnaaGreatDoorYAbStepM
import Derived.Test.YtkejmcgngblfnaaGreatDoorYAbStepT
namespace Go.Proofs.YtkejmcgngblfnaaGreatDoor.Ab
open Go Go.RowKit
section
variable {P:Program} {G:Nat→Option AV} {C:Ctx} {nm:N_} {F:Nat→Prop} {st st':St} {a:Act} {w:World} {o:Oper}
theorem as28 {k:IntKind} {x c:AV} {u:Value} (hx:Rd w F nm x u) (h:a36 k x=some c) {src dst:Nat} (hs:(P.underlying src).isSome=true) (hd:P.underlying dst=some (.int k)):
  ∃r,(convert src dst u).run P w= .ok r w∧Rd w F nm c r:=by
 obtain⟨d,hd'⟩:=Option.isSome_iff_exists.1 hs
 cases x <;> simp only[a36,reduceCtorEq,Option.some.injEq] at h
 subst h
 cases hx
 refine⟨_,?_,.int _ _ _⟩
 simp only[convert,Sem.run_bind,run_underlying hd',run_underlying hd,Result.andThen_ok]
 cases d <;> rfl
theorem as35 {off:Nat} {x c:AV} {u:Value} (hx:Rd w F nm x u) (h:afld x off=some c) {t i:Nat} {fs:Array Field} {f:Field} (ht:P.underlying t=some (.struct fs)) (hf:fs[i]? =some f) (ho:f.offset=off) (hl:i10 P f.type=true):
  ∃r,(Instr.field t u i).run P w= .ok r w∧Rd w F nm c r:=by
 cases x <;> simp only[afld,reduceCtorEq] at h
 cases hx with
 | agg _ _ us hlen hr=>
  obtain⟨r,h1,h2⟩:=pl_ (P:=P) hlen hr h hl
  subst ho
  refine⟨r,?_,h2⟩
  simp only[Instr.field,Sem.run_bind,run_underlying ht,Result.andThen_ok,hf,asAgg,Sem.run_pure,h1]
theorem as27 {off n:Nat} {x c:AV} {u:Value} (hx:Rd w F nm x u) (h:a35 x off n=some c) {t i:Nat} {fs:Array Field} {f:Field} (ht:P.underlying t=some (.struct fs)) (hf:fs[i]? =some f) (ho:f.offset=off) (hl:i_ P f.type=true) (hs:szIs P f.type n=true):
  ∃r,(Instr.field t u i).run P w= .ok r w∧Rd w F nm c r:=by
 cases x <;> simp only[a35,reduceCtorEq] at h
 split at h
 ·rename_i hle
  simp only[Option.some.injEq] at h
  subst h
  cases hx with
  | agg _ _ us hlen hr=>
   obtain⟨r,h1,h2⟩:=pa11 (P:=P) hlen hr hle hl hs
   subst ho
   refine⟨r,?_,h2⟩
   simp only[Instr.field,Sem.run_bind,run_underlying ht,Result.andThen_ok,hf,asAgg,Sem.run_pure,h1]
 ·cases h
theorem as19 {off:Nat} {x c:AV} {u:Value} (hx:Rd w F nm x u) (h:a25 x off=some c) {t i:Nat} {fs:Array Field} {f:Field} {inf:TypeInfo} (ht:P.underlying t=some (.struct fs)) (hf:fs[i]? =some f) (ho:f.offset=off)
  (hi:P.info? f.type=some inf) (h0:0<inf.size):∃r,(Instr.fieldAt t u i).run P w= .ok r w∧Rd w F nm c r:=by
 have hsz:(sizeOf f.type).run P w= .ok inf.size w:=by simp [sizeOf,typeInfo,hi]
 subst ho
 cases x <;> simp only[a25,reduceCtorEq,Option.some.injEq] at h
 case ref j k o=>
  subst h
  cases hx with
  | ref _ _ _ _ m hm=>
   refine⟨.pointer (some ⟨m.g,k*m.sz+o+f.offset,none⟩),?_,?_⟩
   ·simp only[Instr.fieldAt,Sem.run_bind,run_underlying ht,Result.andThen_ok,hf,Instr.sureAddr,Sem.run_pure,fieldPlace,hsz]
    rw[if_neg (by omega)]
    simp only[Sem.run_pure,Result.andThen_ok,aa10]
   ·rw[Nat.add_assoc];exact .ref _ _ _ _ _ hm
 case eptr e o=>
  subst h
  cases hx with
  | eptr _ _ _ g ad us hF hw h1 hr=>
   refine⟨.pointer (some ⟨g,ad+o+f.offset,none⟩),?_,?_⟩
   ·simp only[Instr.fieldAt,Sem.run_bind,run_underlying ht,Result.andThen_ok,hf,Instr.sureAddr,Sem.run_pure,fieldPlace,hsz]
    rw[if_neg (by omega)]
    simp only[Sem.run_pure,Result.andThen_ok,aa10]
   ·rw[Nat.add_assoc];exact .eptr _ _ _ _ _ us hF hw h1 hr
theorem as33 {b:Bool} {x c:AV} {u:Value} (hx:Rd w F nm x u) (h:alen b x=some c) {t ty:Nat} (ht:match P.underlying t with | some .string=>b=true | some (.slice _)=>b=false | _ =>False):
  ∃r,(Builtin.len_ #[t] ty #[u]).run P w= .ok r w∧Rd w F nm c r:=by
 cases hu:P.underlying t with
 | none=>rw[hu] at ht;exact ht.elim
 | some d=>
  rw[hu] at ht
  cases d <;> simp only at ht
  case string=>
   subst ht
   cases x <;> simp only[alen,if_true,reduceCtorEq,Option.some.injEq] at h
   subst h
   cases hx
   refine⟨_,?_,.int _ _ _⟩
   rw[run_len_string _ _ _ _ hu]
   simp [goInt,ByteArray.size]
  case slice e=>
   subst ht
   have key:∀(A:Option Addr) (n cap:Nat),(Builtin.len_ #[t] ty #[.slice A n cap]).run P w= .ok (goInt n) w:=fun A n cap=>by
    simp [Builtin.len_,run_underlying hu]
   cases x <;> simp only[alen,Bool.false_eq_true,if_false,reduceCtorEq,Option.some.injEq] at h
   case seq sz es=>
    subst h
    cases hx with
    | seq0=>exact⟨_,key _ _ _,.int _ _ _⟩
    | seq=>exact⟨_,key _ _ _,.int _ _ _⟩
   case full sz es=>
    subst h
    cases hx with
    | full=>exact⟨_,key _ _ _,.int _ _ _⟩
   case nils=>subst h;cases hx;exact⟨_,key _ _ _,.int _ _ _⟩
   case arr i k n=>subst h;cases hx <;> exact⟨_,key _ _ _,.int _ _ _⟩
theorem as36 {i:Nat} {x c:AV} {u:Value} (hx:Rd w F nm x u) (h:aext x i=some c):∃r,(Instr.extract u i).run P w= .ok r w∧Rd w F nm c r:=by
 cases x <;> simp only[aext,reduceCtorEq] at h
 cases hx with
 | tup _ _ us hlen hr=>
  have hlt:i<us.length:=by rw[←hlen];exact (List.getElem?_eq_some_iff.1 h).1
  refine⟨us[i],?_,hr i c _ h (List.getElem?_eq_getElem hlt)⟩
  simp [Instr.extract,hlt]
theorem cs17 (h:RelX G C nm F st a w) {x:Option Operand} {y:Option Opd} (hc:c18 x y=true):
  match y.map (st.ev G),x.map a.eval with | some c,some u=>Rd w F nm c u | none,none=>True | _,_ =>False:=by
 cases x <;> cases y <;> simp only[c18,Bool.false_eq_true] at hc
 ·trivial
 ·exact h.opd hc
theorem as23 (h:RelX G C nm F st a w) {z:Nat} {x c:AV} {lo hi:Option AV} {u:Value} {lo' hi':Option Value} (hx:Rd w F nm x u) (hlo:match lo,lo' with | some c,some u=>Rd w F nm c u | none,none=>True | _,_ =>False)
  (hhi:match hi,hi' with | some c,some u=>Rd w F nm c u | none,none=>True | _,_ =>False) (he:a26 st.heap z x lo hi=some c) {t:Nat} (ht:(z=0∧P.underlying t=some .string)∨∃e,P.underlying t=some (.slice e)∧szIs P e z=true∧0<z):
  ∃r,(Instr.sliceAt t u lo' hi' none).run P w= .ok r w∧Rd w F nm c r:=by
 by_cases harr:∃i k n,x= .arr i k n
 ·obtain⟨i,k,n,rfl⟩:=harr
  simp only[a26] at he
  split at he
  ·rename_i b hb
   split at he
   ·rename_i hz
    split at he
    ·rename_i k1 l k2 hh e1 e2
     split at he
     ·rename_i hc
      obtain⟨h0,h1,h2⟩:=hc
      simp only[Option.some.injEq] at he
      subst he
      have b1:=bo_ hlo e1
      have b2:=bo_ hhi e2
      obtain⟨l,rfl⟩:=Int.eq_ofNat_of_zero_le h0
      obtain⟨m,rfl⟩:=Int.eq_ofNat_of_zero_le (show 0≤hh by omega)
      simp only[Int.toNat_natCast]
      rcases ht with ⟨hz0,_⟩ | ⟨e,ht,hs,_⟩
      ·omega
      cases hx with
      | arr _ _ _ _ nmi hi hn hp=>
       have hb3:=br_ (P:=P) (w:=w) (lo:=lo') (hi:=hi') (l:=l) (h:=m) (len:=n) (cap:=nmi.cap - k) (b1.imp (fun x=>⟨x.1,by omega⟩) id) (b2.imp (fun x=>⟨x.1,by omega⟩) id) (by omega) (by omega) (by omega) true
       have hsz:nmi.sz=z:=by
        rcases h.box i b hb with ⟨hnn,_⟩ | ⟨m',hm',hl⟩
        ·rw[hi] at hnn;cases hnn
        ·rw[hi] at hm';cases hm'
         exact (hl.c (by omega)).1.trans hz.1
       refine⟨.slice (if nmi.cap - k=l then some ⟨nmi.g,k*nmi.sz,none⟩ else some ⟨nmi.g,k*nmi.sz+l*z,none⟩) (m - l) (nmi.cap - k - l),?_,?_⟩
       ·simp only[Instr.sliceAt,Sem.run_bind,run_underlying ht,Result.andThen_ok,Instr.slice,hb3,sr_ hs,Sem.run_pure,Option.map_some,aa10]
       ·by_cases hpos:k+l=0
        ·obtain⟨rfl,rfl⟩:k=0∧l=0:=by omega
         have key:=Rd.arr (w:=w) (F:=F) nm i 0 (m - 0) nmi hi (by omega) (.inr rfl)
         simp only[Nat.zero_mul,Nat.zero_add,Nat.sub_zero,ite_self] at key ⊢
         exact key
        ·by_cases hml:m - l=0
         ·rw[hml]
          exact .arrE _ _ _ _ _ (by omega)
         ·have key:=Rd.arr (w:=w) (F:=F) nm i (k+l) (m - l) nmi hi (by omega) (.inl (by omega))
          rw[if_neg (by omega)]
          rw[Nat.add_mul,hsz,←Nat.sub_sub] at key
          rw[hsz]
          exact key
      | arrE _ _ _ A cap hk=>
       have hl0:l=0:=by simp at h2;omega
       have hm0:m=0:=by simp at h2;omega
       subst hl0;subst hm0
       have hb3:=br_ (P:=P) (w:=w) (lo:=lo') (hi:=hi') (l:=0) (h:=0) (len:=0) (cap:=cap) (b1.imp (fun x=>⟨x.1,rfl⟩) id) (b2.imp (fun x=>⟨x.1,rfl⟩) id) (by omega) (by omega) (Nat.zero_le _) true
       refine⟨.slice (if cap=0 then A else A.map (·.add (0*z))) 0 (cap - 0),?_,.arrE _ _ _ _ _ (by omega)⟩
       simp only[Instr.sliceAt,Sem.run_bind,run_underlying ht,Result.andThen_ok,Instr.slice,hb3,sr_ hs,Sem.run_pure]
      | arrN=>
       have hl0:l=0:=by simp at h2;omega
       have hm0:m=0:=by simp at h2;omega
       subst hl0;subst hm0
       have hb3:=br_ (P:=P) (w:=w) (lo:=lo') (hi:=hi') (l:=0) (h:=0) (len:=0) (cap:=0) (b1.imp (fun x=>⟨x.1,rfl⟩) id) (b2.imp (fun x=>⟨x.1,rfl⟩) id) (by omega) (by omega) (Nat.zero_le _) true
       refine⟨.slice none 0 0,?_,.arrN _ _⟩
       simp only[Instr.sliceAt,Sem.run_bind,run_underlying ht,Result.andThen_ok,Instr.slice,hb3,sr_ hs,Sem.run_pure,if_true]
     ·cases he
    ·cases he
   ·cases he
  ·cases he
 ·have he':aslc z x lo hi=some c:=by
   cases x <;> first | exact he | exact absurd ⟨_,_,_,rfl⟩ harr
  exact as29 hx hlo hhi he' ht
set_option maxHeartbeats 1600000 in
theorem es_ (h:RelX G C nm F st a w) {c:AOp} (hc:c10 P o.op c=true) (he:e_ G o.dst c st=some st') (hst:∀p x n,c= .store p x n→o.dst=none):S_ P G C o a w st':=by
 generalize hop:o.op=op at hc
 cases c
 case mov y=>
  cases op <;> simp only[c10,Bool.false_eq_true] at hc
  all_goals exact vs_ h (by simp only[execOp,hop];rfl) (h.opd hc) he
 case nilrow ty sz=>
  unfold c10 at hc
  split at hc <;> first | (rename_i e;cases e;done) | skip
  all_goals first
   | (rename_i e1 e2;cases e2;simp only[decide_eq_true_eq] at hc;exact ns20 h hc (by simp only[execOp,hop];rfl) he)
   | cases hc
   | (rename_i e1 e2;cases e2)
 case pick c' x y=>
  cases op <;> simp only[c10,Bool.false_eq_true,Bool.and_eq_true] at hc
  obtain⟨⟨h1,h2⟩,h3⟩:=hc
  obtain⟨r,hb,hp⟩:=bp_ he
  obtain⟨q,hq,hr⟩:=as25 (P:=P) (h.opd h1) (h.opd h2) (h.opd h3) hb
  exact vs_ h (by simp only[execOp,hop];exact hq) hr hp
 case alloc ty sz z=>
  cases op <;> try (simp only[c10,Bool.false_eq_true] at hc;done)
  exact as32 h hop hc he
 case box ty sz y=>
  cases op <;> try (simp only[c10,Bool.false_eq_true] at hc;done)
  exact bs12 h hop hc he
 case build zs qs=>
  cases op <;> simp only[c10,Bool.false_eq_true] at hc
  exact bs10 h hop hc he
 case mkrow ty sz n z qs=>
  cases op <;> try (simp only[c10,Bool.false_eq_true] at hc;done)
  exact ms11 h hop hc he
 case load q=>
  cases op <;> simp only[c10,Bool.false_eq_true,Bool.and_eq_true] at hc
  obtain⟨r,hb,hp⟩:=bp_ he
  obtain⟨q,hq,hr⟩:=as15 (P:=P) h (h.opd hc.1) hb hc.2
  exact vs_ h (by simp only[execOp,hop,Sem.run_bind,hq,Result.andThen_ok,Sem.run_pure]) hr hp
 case loadN q n=>
  cases op <;> simp only[c10,Bool.false_eq_true,Bool.and_eq_true] at hc
  obtain⟨r,hb,hp⟩:=bp_ he
  obtain⟨q,hq,hr⟩:=as14 (P:=P) h (h.opd hc.1.1) hb hc.1.2 hc.2
  exact vs_ h (by simp only[execOp,hop,Sem.run_bind,hq,Result.andThen_ok,Sem.run_pure]) hr hp
 case store q y n=>
  cases op <;> simp only[c10,Bool.false_eq_true,Bool.and_eq_true] at hc
  exact ss14 h hop hc.1.1 hc.1.2 hc.2 (hst _ _ _ rfl) he
 case bin op' x' y'=>
  cases op <;> simp only[c10,Bool.false_eq_true,Bool.and_eq_true,decide_eq_true_eq] at hc
  obtain⟨⟨rfl,h2⟩,h3⟩:=hc
  obtain⟨r,hb,hp⟩:=bp_ he
  obtain⟨q,hq,hr⟩:=as42 (P:=P) (h.opd h2) (h.opd h3) hb _ _ _
  exact vs_ h (by simp only[execOp,hop,Sem.run_bind,Sem.run_pure] at hq ⊢;rw[hq];rfl) hr hp
 case eqA neg ks x' y'=>
  cases op <;> simp only[c10,Bool.false_eq_true,Bool.and_eq_true,decide_eq_true_eq,Bool.not_eq_true'] at hc
  obtain⟨⟨⟨⟨⟨rfl,h2⟩,h3⟩,h4⟩,h5⟩,h6⟩:=hc
  obtain⟨r,hb,hp⟩:=bp_ he
  obtain⟨q,hq,hr⟩:=as41 (P:=P) (h.opd h2) (h.opd h3) hb h5 h4 h6 _ _
  exact vs_ h (by simp only[execOp,hop,Sem.run_bind,Sem.run_pure] at hq ⊢;rw[hq];rfl) hr hp
 case eqB neg x' y'=>
  cases op <;> simp only[c10,Bool.false_eq_true,Bool.and_eq_true,decide_eq_true_eq] at hc
  obtain⟨⟨⟨rfl,h2⟩,h3⟩,h4⟩:=hc
  obtain⟨r,hb,hp⟩:=bp_ he
  split at h4
  ·rename_i ht
   obtain⟨q,hq,hr⟩:=as40 (P:=P) (h.opd h2) (h.opd h3) hb ht _ _
   exact vs_ h (by simp only[execOp,hop,Sem.run_bind,Sem.run_pure] at hq ⊢;rw[hq];rfl) hr hp
  ·cases h4
 case eqP neg x' y'=>
  cases op <;> simp only[c10,Bool.false_eq_true,Bool.and_eq_true,decide_eq_true_eq] at hc
  obtain⟨⟨⟨rfl,h2⟩,h3⟩,h4⟩:=hc
  obtain⟨r,hb,hp⟩:=bp_ he
  split at h4
  ·rename_i ht
   obtain⟨q,hq,hr⟩:=as37 (P:=P) (h.opd h2) (h.opd h3) hb ht _ _
   exact vs_ h (by simp only[execOp,hop,Sem.run_bind,Sem.run_pure] at hq ⊢;rw[hq];rfl) hr hp
  ·cases h4
 case eqI neg x' y'=>
  cases op <;> simp only[c10,Bool.false_eq_true,Bool.and_eq_true,decide_eq_true_eq] at hc
  obtain⟨⟨⟨⟨rfl,h2⟩,h3⟩,h5⟩,h4⟩:=hc
  obtain⟨r,hb,hp⟩:=bp_ he
  split at h5
  ·obtain⟨q,hq,hr⟩:=as39 (P:=P) (h.opd h2) (h.opd h3) hb h4 _ _
   exact vs_ h (by simp only[execOp,hop,Sem.run_bind,Sem.run_pure] at hq ⊢;rw[hq];rfl) hr hp
  ·cases h5
 case mki t' y=>
  cases op <;> simp only[c10,Bool.false_eq_true,Bool.and_eq_true,beq_iff_eq] at hc
  obtain⟨⟨rfl,h2⟩,h3⟩:=hc
  refine vs_ h (v:=.iface _ (a.eval _)) ?_ (Rd.iface _ _ _ _ (h.opd h2)) he
  simp only[execOp,hop,Sem.run_bind,Sem.run_pure]
  unfold Instr.makeInterface
  simp only[Sem.run_bind]
  split at h3
  ·cases h3
  ·rename_i d hn hu
   rw[run_underlying hu]
   simp only[Result.andThen_ok]
   cases d <;> first | rfl | exact absurd hu (hn _)
  ·cases h3
 case un op' y=>
  cases op <;> simp only[c10,Bool.false_eq_true,Bool.and_eq_true,decide_eq_true_eq] at hc
  obtain⟨rfl,h2⟩:=hc
  obtain⟨r,hb,hp⟩:=bp_ he
  obtain⟨q,hq,hr⟩:=as44 (P:=P) (h.opd h2) hb
  exact vs_ h (by simp only[execOp,hop,Sem.run_bind,hq,Result.andThen_ok,Sem.run_pure]) hr hp
 case conv k y=>
  cases op <;> simp only[c10,Bool.false_eq_true,Bool.and_eq_true] at hc
  obtain⟨⟨hs,h1⟩,h2⟩:=hc
  obtain⟨r,hb,hp⟩:=bp_ he
  split at h1
  ·rename_i k' hk
   simp only[decide_eq_true_eq] at h1
   subst h1
   obtain⟨q,hq,hr⟩:=as28 (P:=P) (h.opd h2) hb hs hk
   exact vs_ h (by simp only[execOp,hop,Sem.run_bind,hq,Result.andThen_ok,Sem.run_pure]) hr hp
  ·cases h1
 case fld y off=>
  cases op <;> simp only[c10,Bool.false_eq_true,Bool.and_eq_true] at hc
  obtain⟨h1,h2⟩:=hc
  obtain⟨r,hb,hp⟩:=bp_ he
  split at h1
  ·rename_i fs hfs
   split at h1
   ·rename_i f hf
    simp only[Bool.and_eq_true,beq_iff_eq] at h1
    obtain⟨q,hq,hr⟩:=as35 (P:=P) (h.opd h2) hb hfs hf h1.1 h1.2
    exact vs_ h (by simp only[execOp,hop,Sem.run_bind,hq,Result.andThen_ok,Sem.run_pure]) hr hp
   ·cases h1
  ·cases h1
 case fldN y off n=>
  cases op <;> simp only[c10,Bool.false_eq_true,Bool.and_eq_true] at hc
  obtain⟨h1,h2⟩:=hc
  obtain⟨r,hb,hp⟩:=bp_ he
  split at h1
  ·rename_i fs hfs
   split at h1
   ·rename_i f hf
    simp only[Bool.and_eq_true,beq_iff_eq] at h1
    obtain⟨q,hq,hr⟩:=as27 (P:=P) (h.opd h2) hb hfs hf h1.1.1 h1.1.2 h1.2
    exact vs_ h (by simp only[execOp,hop,Sem.run_bind,hq,Result.andThen_ok,Sem.run_pure]) hr hp
   ·cases h1
  ·cases h1
 case faddr y off=>
  cases op <;> simp only[c10,Bool.false_eq_true,Bool.and_eq_true] at hc
  obtain⟨h1,h2⟩:=hc
  obtain⟨r,hb,hp⟩:=bp_ he
  split at h1
  ·rename_i fs hfs
   split at h1
   ·rename_i f hf
    simp only[Bool.and_eq_true,beq_iff_eq] at h1
    obtain⟨h3,h4⟩:=h1
    split at h4
    ·rename_i inf hi
     simp only[decide_eq_true_eq] at h4
     obtain⟨q,hq,hr⟩:=as19 (P:=P) (h.opd h2) hb hfs hf h3 hi h4
     exact vs_ h (by simp only[execOp,hop,Sem.run_bind,hq,Result.andThen_ok,Sem.run_pure]) hr hp
    ·cases h4
   ·cases h1
  ·cases h1
 case iaddr sz y j=>
  cases op <;> simp only[c10,Bool.false_eq_true,Bool.and_eq_true] at hc
  obtain⟨⟨h1,h2⟩,h3⟩:=hc
  obtain⟨r,hb,hp⟩:=bp_ he
  split at h1
  ·rename_i e hu
   simp only[Bool.and_eq_true,decide_eq_true_eq] at h1
   obtain⟨q,hq,hr⟩:=as18 (P:=P) h h1.2 (h.opd h2) (h.opd h3) hb hu h1.1
   exact vs_ h (by simp only[execOp,hop,Sem.run_bind,hq,Result.andThen_ok,Sem.run_pure]) hr hp
  ·cases h1
 case idx y j=>
  cases op <;> simp only[c10,Bool.false_eq_true,Bool.and_eq_true] at hc
  obtain⟨⟨h1,h2⟩,h3⟩:=hc
  obtain⟨r,hb,hp⟩:=bp_ he
  split at h1
  ·rename_i hu
   obtain⟨q,hq,hr⟩:=as34 (P:=P) (h.opd h2) (h.opd h3) hb hu
   exact vs_ h (by simp only[execOp,hop,Sem.run_bind,hq,Result.andThen_ok,Sem.run_pure]) hr hp
  ·cases h1
 case slc z y lo hi=>
  cases op <;> try (simp only[c10,Bool.false_eq_true] at hc;done)
  rename_i t x lo' hi' mx
  cases mx with
  | some m=>simp only[c10,Bool.false_eq_true] at hc
  | none=>
   simp only[c10,Bool.and_eq_true] at hc
   obtain⟨⟨⟨h1,h2⟩,h3⟩,h4⟩:=hc
   obtain⟨r,hb,hp⟩:=bp_ he
   have ht:(z=0∧P.underlying t=some .string)∨∃e,P.underlying t=some (.slice e)∧szIs P e z=true∧0<z:=by
    split at h1
    ·rename_i hu;simp only[beq_iff_eq] at h1;exact .inl ⟨h1,hu⟩
    ·rename_i e hu;simp only[Bool.and_eq_true,decide_eq_true_eq] at h1;exact .inr ⟨e,hu,h1.1,h1.2⟩
    ·cases h1
   obtain⟨q,hq,hr⟩:=as23 (P:=P) h (h.opd h2) (cs17 h h3) (cs17 h h4) hb ht
   exact vs_ h (by simp only[execOp,hop,Sem.run_bind,Option.map_none,hq,Result.andThen_ok,Sem.run_pure]) hr hp
 case len b y=>
  cases op <;> try (simp only[c10,Bool.false_eq_true] at hc;done)
  rename_i cl
  obtain⟨callee,args,tys⟩:=cl
  cases callee <;> try (simp only[c10,Bool.false_eq_true] at hc;done)
  rename_i bi
  cases bi <;> try (simp only[c10,Bool.false_eq_true] at hc;done)
  simp only[c10] at hc
  split at hc
  ·rename_i x t hargs htys
   simp only[Bool.and_eq_true] at hc
   obtain⟨h1,h2⟩:=hc
   obtain⟨r,hb,hp⟩:=bp_ he
   have hargs':args=#[x]:=by rw[←Array.toArray_toList (xs:=args),hargs]
   have htys':tys=#[t]:=by rw[←Array.toArray_toList (xs:=tys),htys]
   have ht:match P.underlying t with | some .string=>b=true | some (.slice _)=>b=false | _ =>False:=by
    split at h2
    ·rename_i hu;rw[hu];exact h2
    ·rename_i e hu;rw[hu];simpa using h2
    ·cases h2
   obtain⟨q,hq,hr⟩:=as33 (P:=P) (ty:=o.type) (h.opd h1) hb ht
   exact vs_ h (by simp only[execOp,hop,hargs',htys',resolve,invoke,builtin,Sem.run_bind,Sem.run_pure,Result.andThen_ok,List.map_toArray,List.map_cons,List.map_nil,hq]) hr hp
  ·cases hc
 case app ty sz bytes y z=>
  cases op <;> try (simp only[c10,Bool.false_eq_true] at hc;done)
  rename_i cl
  obtain⟨callee,args,tys⟩:=cl
  cases callee <;> try (simp only[c10,Bool.false_eq_true] at hc;done)
  rename_i bi
  cases bi <;> try (simp only[c10,Bool.false_eq_true] at hc;done)
  exact as54 h hop hc he
 case clr sz z y=>
  cases op <;> try (simp only[c10,Bool.false_eq_true] at hc;done)
  rename_i cl
  obtain⟨callee,args,tys⟩:=cl
  cases callee <;> try (simp only[c10,Bool.false_eq_true] at hc;done)
  rename_i bi
  cases bi <;> try (simp only[c10,Bool.false_eq_true] at hc;done)
  exact cs25 h hop hc he
 case mkmap=>
  cases op <;> try (simp only[c10,Bool.false_eq_true] at hc;done)
  rename_i t r
  cases r <;> try (simp only[c10,Bool.false_eq_true] at hc;done)
  exact ms12 h hop he
 case mlen y=>
  cases op <;> try (simp only[c10,Bool.false_eq_true] at hc;done)
  rename_i cl
  obtain⟨callee,args,tys⟩:=cl
  cases callee <;> try (simp only[c10,Bool.false_eq_true] at hc;done)
  rename_i bi
  cases bi <;> try (simp only[c10,Bool.false_eq_true] at hc;done)
  obtain⟨r,hb,hp⟩:=bp_ he
  exact ms15 h hop hc hb hp
 case mget ok ag ks z y j=>
  cases op <;> try (simp only[c10,Bool.false_eq_true] at hc;done)
  obtain⟨r,hb,hp⟩:=bp_ he
  exact ms16 h hop hc hb hp
 case mput ag ks y j u=>
  have key:∀(t:Nat) (m k v:Operand),(c_ m y&&c_ k j&&c_ v u&&(match P.underlying t with | some (.map kt _)=>i_ P kt==ag&&decide (k10 P 20 kt=some ks) | _ =>false))=true→
    (∀w',(Instr.mapUpdate t (a.eval m) (a.eval k) (a.eval v)).run P w= .ok () w'→(execOp a.eval o).run P w= .ok .skip w')→S_ P G C o a w st':=fun t m k v hq hrun=>by
   simp only[Bool.and_eq_true] at hq
   obtain⟨⟨⟨h1,h2⟩,h3⟩,h4⟩:=hq
   split at h4
   ·rename_i kt et ht
    simp only[Bool.and_eq_true,beq_iff_eq,decide_eq_true_eq] at h4
    have hd:o.dst=none:=by
     simp only[e_] at he
     split at he
     ·assumption
     ·cases he
    rw[hd] at he
    obtain⟨w',g1,g2⟩:=mr_ (P:=P) h (h.opd h1) (h.opd h2) (h.opd h3) ht h4.1 h4.2 he
    refine .inr ⟨w',hrun w' g1,nm,F,?_⟩
    rw[hd]
    exact g2
   ·cases h4
  cases op <;> try (simp only[c10,Bool.false_eq_true] at hc;done)
  all_goals exact key _ _ _ _ hc fun w' hr=>by simp only[execOp,hop,Sem.run_bind,hr,Result.andThen_ok,Sem.run_pure]
 case ext y i=>
  cases op <;> simp only[c10,Bool.false_eq_true,Bool.and_eq_true,beq_iff_eq] at hc
  obtain⟨h1,rfl⟩:=hc
  obtain⟨r,hb,hp⟩:=bp_ he
  obtain⟨q,hq,hr⟩:=as36 (P:=P) (h.opd h1) hb
  exact vs_ h (by simp only[execOp,hop,Sem.run_bind,hq,Result.andThen_ok,Sem.run_pure]) hr hp
 case nchk y=>
  cases op <;> simp only[c10,Bool.false_eq_true] at hc
  obtain⟨r,hb,hp⟩:=bp_ he
  have hx:=h.opd hc
  rename_i x
  generalize hxv:a.eval x=xv at hx
  generalize st.ev G y=yv at hx hb
  have:r=yv∧(execOp a.eval o).run P w= .ok (.value xv) w:=by
   cases yv <;> simp only[a37,reduceCtorEq,Option.some.injEq] at hb <;> cases hx <;> exact⟨hb.symm,by simp only[execOp,hop,hxv];rfl⟩
  exact vs_ h this.2 (this.1 ▸ hx) hp
 case mkfn f ys=>
  cases op <;> try (simp only[c10,Bool.false_eq_true] at hc;done)
  rename_i fn first caps
  cases fn <;> try (simp only[c10,Bool.false_eq_true] at hc;done)
  simp only[c10,Bool.and_eq_true,beq_iff_eq,decide_eq_true_eq] at hc
  obtain⟨⟨e1,e2⟩,h3⟩:=hc
  obtain⟨h1,h2⟩:=h.opds h3
  rename_i f'
  have hr:=Rd.fn (w:=w) (F:=F) nm f (evs G st ys) _ h1 h2
  have e:f20 f ((first.toList++caps.toList).map a.eval)= .func (.func f') (first.map a.eval) (caps.map a.eval):=by
   have hm:fnN f=f':=by
    rw[e1];unfold fnN
    rw[Nat.add_mul_mod_self_left,Nat.mod_eq_of_lt e2]
   have hd:f / fnB=first.size:=by
    rw[e1,Nat.add_mul_div_left _ _ (by decide),Nat.div_eq_of_lt e2,Nat.zero_add]
   have hl:(first.toList.map a.eval).length=first.size:=by simp
   unfold f20
   rw[hm,hd,List.map_append,←hl,List.take_left',List.drop_left']
   ·congr 1
    ·apply Array.ext';simp
    ·apply Array.ext';simp
   ·rfl
   ·rfl
  rw[e] at hr
  refine vs_ h ?_ hr he
  simp only[execOp,hop,Instr.makeFunc,Sem.run_bind,Sem.run_pure,Result.andThen_ok]
 case bad=>simp only[e_,reduceCtorEq] at he
 case mks ty sz bytes z p q=>
  cases op <;> simp only[c10,Bool.false_eq_true,Bool.and_eq_true,decide_eq_true_eq] at hc
  obtain⟨⟨⟨⟨⟨⟨⟨⟨h1,h2⟩,h3⟩,h4⟩,h5⟩,h6⟩,h7⟩,h8⟩,h9⟩:=hc
  exact ms19 h hop h1 h2 h3 h4 h5 h6 h7 h8 h9 he
 case slcG n y=>
  cases op <;> try (simp only[c10,Bool.false_eq_true] at hc;done)
  rename_i t x lo hi mx
  cases lo <;> cases hi <;> cases mx <;> simp only[c10,Bool.false_eq_true,Bool.and_eq_true] at hc
  obtain⟨h1,h2⟩:=hc
  obtain⟨r,hb,hp⟩:=bp_ he
  split at h1
  ·rename_i m e hu
   simp only[Bool.and_eq_true,beq_iff_eq,decide_eq_true_eq] at h1
   obtain⟨⟨rfl,h3⟩,h4⟩:=h1
   obtain⟨q,hq,hr⟩:=as24 (P:=P) (h.opd h2) hb hu h3 h4
   exact vs_ h (by simp only[execOp,hop,Sem.run_bind,Option.map_none,hq,Result.andThen_ok,Sem.run_pure]) hr hp
  ·cases h1
 case mx mn y z=>
  cases op <;> try (simp only[c10,Bool.false_eq_true] at hc;done)
  rename_i cl
  obtain⟨callee,args,tys⟩:=cl
  cases callee <;> try (simp only[c10,Bool.false_eq_true] at hc;done)
  rename_i bi
  have key:∀(u v:Operand),args=#[u,v]→c_ u y=true→c_ v z=true→(bi=if mn then .min else .max)→S_ P G C o a w st':=by
   intro u v hargs h1 h2 hbi
   obtain⟨r,hb,hp⟩:=bp_ he
   obtain⟨q,hq,hr⟩:=as47 (P:=P) (h.opd h1) (h.opd h2) hb tys o.type
   refine vs_ h ?_ hr hp
   cases mn
   ·simp only[Bool.false_eq_true,if_false] at hbi hq
    subst hbi
    simp only[execOp,hop,hargs,resolve,invoke,builtin,Sem.run_bind,Sem.run_pure,Result.andThen_ok,List.map_toArray,List.map_cons,List.map_nil,hq]
   ·simp only[if_true] at hbi hq
    subst hbi
    simp only[execOp,hop,hargs,resolve,invoke,builtin,Sem.run_bind,Sem.run_pure,Result.andThen_ok,List.map_toArray,List.map_cons,List.map_nil,hq]
  cases bi <;> try (simp only[c10,Bool.false_eq_true] at hc;done)
  all_goals
   simp only[c10] at hc
   split at hc
   ·rename_i u v hargs
    simp only[Bool.and_eq_true,Bool.not_eq_true'] at hc
    obtain⟨⟨h0,h1⟩,h2⟩:=hc
    subst h0
    exact key u v (by rw[←Array.toArray_toList (xs:=args),hargs]) h1 h2 rfl
   ·cases hc
 case rng y=>
  cases op <;> simp only[c10,Bool.false_eq_true,Bool.and_eq_true] at hc
  obtain⟨h1,h2⟩:=hc
  split at h1
  ·rename_i hu;exact rs15 h hop hu h2 he
  ·cases h1
 case nxt y=>
  cases op <;> simp only[c10,Bool.false_eq_true,Bool.and_eq_true] at hc
  obtain⟨rfl,h2⟩:=hc
  exact ns22 h hop h2 he
 case mrng y=>
  cases op <;> simp only[c10,Bool.false_eq_true,Bool.and_eq_true] at hc
  obtain⟨h1,h2⟩:=hc
  split at h1
  ·rename_i hu;exact ms13 h hop hu h2 he
  ·cases h1
 case mnxt y=>
  cases op <;> simp only[c10,Bool.false_eq_true,Bool.and_eq_true,Bool.not_eq_true'] at hc
  obtain⟨rfl,h2⟩:=hc
  exact ms14 h hop h2 he
 case ment y=>
  cases op <;> simp only[c10,Bool.false_eq_true] at hc
  obtain⟨r,hb,hp⟩:=bp_ he
  exact ms17 h hop hc hb hp
 case mkmapS=>
  cases op <;> try (simp only[c10,Bool.false_eq_true] at hc;done)
  rename_i t r
  cases r <;> try (simp only[c10,Bool.false_eq_true] at hc;done)
  exact ms_ h hop he
 case mentry ag ks z y j=>
  cases op <;> try (simp only[c10,Bool.false_eq_true] at hc;done)
  exact ms10 h hop hc he
 case estore y j u=>
  cases op <;> simp only[c10,Bool.false_eq_true,Bool.and_eq_true] at hc
  obtain⟨⟨h1,h2⟩,h3⟩:=hc
  have hd:o.dst=none:=by
   simp only[e_] at he
   split at he
   ·assumption
   ·cases he
  rw[hd] at he
  rename_i mt _ _ _
  obtain⟨w',g1,g2⟩:=er_ (P:=P) (t:=mt) h (h.opd h1) (h.opd h2) (h.opd h3) he
  refine .inr ⟨w',by simp only[execOp,hop,Sem.run_bind,g1,Result.andThen_ok,Sem.run_pure],nm,F,?_⟩
  rw[hd]
  exact g2
 case mdel ag ks y j=>
  cases op <;> try (simp only[c10,Bool.false_eq_true] at hc;done)
  rename_i cl
  obtain⟨callee,args,tys⟩:=cl
  cases callee <;> try (simp only[c10,Bool.false_eq_true] at hc;done)
  rename_i bi
  cases bi <;> try (simp only[c10,Bool.false_eq_true] at hc;done)
  exact ms18 h hop hc he
 case eqN neg y=>
  cases op <;> simp only[c10,Bool.false_eq_true,Bool.and_eq_true,decide_eq_true_eq] at hc
  obtain⟨⟨⟨rfl,h2⟩,h3⟩,h4⟩:=hc
  obtain⟨r,hb,hp⟩:=bp_ he
  split at h3
  ·split at h4
   ·rename_i ht
    obtain⟨q,hq,hr⟩:=as38 (P:=P) (h.opd h2) hb ht
    refine vs_ h ?_ hr hp
    have hz:a.eval (.const (.slice none 0 0))= .slice none 0 0:=rfl
    simp only[execOp,hop,Sem.run_bind,hz,en10,Result.andThen_ok,hq,Sem.run_pure]
   ·cases h4
  ·cases h3
 case b2s y=>
  cases op <;> simp only[c10,Bool.false_eq_true,Bool.and_eq_true] at hc
  rename_i src dst x
  obtain⟨⟨h1,h3⟩,h2⟩:=hc
  obtain⟨r,hb,hp⟩:=bp_ he
  split at h1
  ·rename_i e hu
   split at h1
   ·rename_i hu8
    split at h3
    ·rename_i hs
     obtain⟨q,hq,hr⟩:=as43 (P:=P) h (h.opd h2) hb
     have hxr:=h.opd h2
     have key:(convert src dst (a.eval x)).run P w= .ok q w:=by
      have hsl:∃A n c,a.eval x= .slice A n c:=by
       generalize a.eval x=xv at hxr
       generalize st.ev G y=yv at hxr hb
       unfold ab2s at hb
       split at hb
       ·cases hxr;exact⟨_,_,_,rfl⟩
       ·cases hxr <;> exact⟨_,_,_,rfl⟩
       ·cases hxr <;> exact⟨_,_,_,rfl⟩
       ·cases hb
      obtain⟨A,n,c,hv⟩:=hsl
      rw[hv] at hq ⊢
      simp only[convert,Sem.run_bind,run_underlying hu,run_underlying hs,run_underlying hu8,Result.andThen_ok,hq]
     exact vs_ h (by simp only[execOp,hop,Sem.run_bind,key,Result.andThen_ok,Sem.run_pure]) hr hp
    ·cases h3
   ·cases h1
  ·cases h1
 case iaddrA sz n y j=>
  cases op <;> simp only[c10,Bool.false_eq_true,Bool.and_eq_true] at hc
  obtain⟨⟨h1,h2⟩,h3⟩:=hc
  obtain⟨r,hb,hp⟩:=bp_ he
  split at h1
  ·rename_i m e hu
   simp only[Bool.and_eq_true,beq_iff_eq,decide_eq_true_eq] at h1
   obtain⟨⟨rfl,h4⟩,h5⟩:=h1
   obtain⟨q,hq,hr⟩:=as17 (P:=P) (h.opd h2) (h.opd h3) hb hu h4
   exact vs_ h (by simp only[execOp,hop,Sem.run_bind,hq,Result.andThen_ok,Sem.run_pure]) hr hp
  ·cases h1
 case idxA sz n y j=>
  cases op <;> simp only[c10,Bool.false_eq_true,Bool.and_eq_true] at hc
  obtain⟨⟨h1,h2⟩,h3⟩:=hc
  obtain⟨r,hb,hp⟩:=bp_ he
  split at h1
  ·rename_i m e hu
   simp only[Bool.and_eq_true,beq_iff_eq] at h1
   obtain⟨⟨rfl,h4⟩,h5⟩:=h1
   obtain⟨q,hq,hr⟩:=as26 (P:=P) (h.opd h2) (h.opd h3) hb hu h4 h5
   exact vs_ h (by simp only[execOp,hop,Sem.run_bind,hq,Result.andThen_ok,Sem.run_pure]) hr hp
  ·cases h1
 case call=>simp only[e_,reduceCtorEq] at he
 case callv=>simp only[e_,reduceCtorEq] at he
 case callB=>simp only[e_,reduceCtorEq] at he
 case callvB=>simp only[e_,reduceCtorEq] at he
end
end Go.Proofs.YtkejmcgngblfnaaGreatDoor.Ab
