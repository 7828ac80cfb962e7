/-
  Each operation but a call: what the model's run gives is what the abstract operation says. Each operation but a call: what the model's run gives is what the abstract operation says. No claim is proved here.
-/
import Derived.Test.YtkejmcgngblfnaaGreatDoorYAbStep8
namespace Go.Proofs.YtkejmcgngblfnaaGreatDoor.Ab
open Go Go.RowKit
section
variable {P:Program} {G:Nat→Option AV} {C:Ctx} {nm:N_} {F:Nat→Prop} {st st':St} {a:Act} {w:World} {o:Oper}
theorem as11 {a b:Option Bool} {c:Bool} (h:andO a b=some c):∃x y,a=some x∧b=some y∧c=(x&&y):=by
 cases a with
 | none=>simp [andO] at h
 | some x=>
  cases b with
  | none=>simp [andO] at h
  | some y=>simp only[andO,Option.some.injEq] at h;exact⟨x,y,rfl,rfl,h.symm⟩
theorem aa11:∀(ks ks':List Nat) (cs ds:List AV) (β:Bool),aeqs (ks++ks') cs ds=some β→
  ∃β1 β2,aeqs ks (cs.take ks.length) (ds.take ks.length)=some β1∧aeqs ks' (cs.drop ks.length) (ds.drop ks.length)=some β2∧β=(β1&&β2)
 | [],ks',cs,ds,β,h=>⟨true,β,by simp [aeqs],by simpa using h,by simp⟩
 | k::ks,ks',[],_,β,h=>by simp [aeqs] at h
 | k::ks,ks',_ ::_,[],β,h=>by simp [aeqs] at h
 | k::ks,ks',c::cs,d::ds,β,h=>by
  simp only[List.cons_append,aeqs] at h
  obtain⟨x,y,h1,h2,rfl⟩:=as11 h
  obtain⟨β1,β2,e1,e2,rfl⟩:=aa11 ks ks' cs ds y h2
  exact⟨x&&β1,β2,by simp only[List.length_cons,List.take_succ_cons,aeqs,h1,e1,andO],by simpa using e2,by simp [Bool.and_assoc]⟩
theorem al11:∀(ks:List Nat) (cs ds:List AV) (β:Bool),aeqs ks cs ds=some β→cs.length=ks.length∧ds.length=ks.length
 | [],[],[],_,_ =>⟨rfl,rfl⟩
 | [],_ ::_,_,_,h=>by simp [aeqs] at h
 | [],[],_ ::_,_,h=>by simp [aeqs] at h
 | _ ::_,[],_,_,h=>by simp [aeqs] at h
 | _ ::_,_ ::_,[],_,h=>by simp [aeqs] at h
 | k::ks,c::cs,d::ds,β,h=>by
  simp only[aeqs] at h
  obtain⟨x,y,_,h2,_⟩:=as11 h
  have:=al11 ks cs ds y h2
  simp [this]
def a19 (P:Program) (t:Nat) (us:List Value):Value:=if i_ P t then .agg us.toArray else us.headD undef
theorem pa10 (w:World) {t n off:Nat} {us:List Value} (ht:i_ P t=true∨i10 P t=true) (hs:szIs P t n=true) (hl:off+n≤us.length) (h1:i10 P t=true→n=1):
  (part t us.toArray off).run P w= .ok (a19 P t ((us.drop off).take n)) w:=by
 rcases ht with ht | ht
 ·simp only[part,Sem.run_bind,ir10 ht,Result.andThen_ok,if_true,sr_ hs,Sem.run_pure,a19,ht]
  congr 2
  simp [List.extract_toArray,List.extract_eq_take_drop]
 ·have hn:=h1 ht
  subst hn
  have hlt:off<us.length:=by omega
  have hag:i_ P t=false:=by
   unfold i10 at ht
   unfold i_
   split at ht <;> simp_all
  simp only[part,Sem.run_bind,ir_ ht,Result.andThen_ok,Bool.false_eq_true,if_false,a19,hag]
  simp [List.head?_drop,hlt,List.headD_eq_head?_getD,List.head?_take]
theorem ls12 (w:World) {D t k:Nat} {c d:AV} {u v:Value} {β:Bool} (hc:Rd w F nm c u) (hd:Rd w F nm d v) (h:l12 k c d=some β)
  (ht:(k=0∧∃i,P.underlying t=some (.int i))∨(k=1∧P.underlying t=some .string)∨(k=2∧P.underlying t=some .bool)):(Op.equalIn (D+1) t u v).run P w= .ok β w:=by
 rcases ht with ⟨rfl,i,ht⟩ | ⟨rfl,ht⟩ | ⟨rfl,ht⟩
 ·cases c <;> cases d <;> simp only[l12,reduceCtorEq,Option.ite_none_right_eq_some,Option.some.injEq] at h
  obtain⟨rfl,rfl⟩:=h
  cases hc;cases hd
  exact run_equalIn_int w D t _ i _ _ ht
 ·cases c <;> cases d <;> simp only[l12,reduceCtorEq,Option.some.injEq] at h
  subst h
  cases hc;cases hd
  rw[run_equalIn_string w D t _ _ ht]
  simp
 ·cases c <;> cases d <;> simp only[l12,reduceCtorEq,Option.some.injEq] at h
  subst h
  cases hc;cases hd
  exact run_equalIn_bool' w D t _ _ ht
theorem ks14 (w:World):∀(d t:Nat) (ks:List Nat),k10 P d t=some ks→∀(cs ds:List AV) (us vs:List Value) (β:Bool),cs.length=us.length→ds.length=vs.length→
  (∀(j:Nat) c u,cs[j]? =some c→us[j]? =some u→Rd w F nm c u)→(∀(j:Nat) c u,ds[j]? =some c→vs[j]? =some u→Rd w F nm c u)→aeqs ks cs ds=some β→
  (i_ P t=true∨i10 P t=true)∧(i10 P t=true→ks.length=1)∧∀D,d≤D→(Op.equalIn D t (a19 P t us) (a19 P t vs)).run P w= .ok β w
 | 0,t,ks,h,_,_,_,_,_,_,_,_,_,_ =>by simp [k10] at h
 | d+1,t,ks,h,cs,ds,us,vs,β,hu,hv,hru,hrv,hq=>by
  have leaf:∀k,ks=[k]→i10 P t=true→i_ P t=false→((k=0∧∃i,P.underlying t=some (.int i))∨(k=1∧P.underlying t=some .string)∨(k=2∧P.underlying t=some .bool))→
    (i_ P t=true∨i10 P t=true)∧(i10 P t=true→ks.length=1)∧∀D,d+1≤D→(Op.equalIn D t (a19 P t us) (a19 P t vs)).run P w= .ok β w:=by
   intro k hk h1 h2 h3
   subst hk
   refine⟨.inr h1,fun _ =>rfl,fun D hD=>?_⟩
   obtain⟨D,rfl⟩:∃D',D=D'+1:=⟨D - 1,by omega⟩
   simp only[a19,h2,Bool.false_eq_true,if_false]
   have hl:=al11 _ _ _ _ hq
   match cs,ds,us,vs,hl,hu,hv with
   | [x],[y],[u],[v],_,_,_ =>
    simp only[aeqs] at hq
    obtain⟨b1,b2,e1,e2,rfl⟩:=as11 hq
    simp only[Option.some.injEq] at e2
    subst e2
    rw[Bool.and_true]
    exact ls12 w (hru 0 x u rfl rfl) (hrv 0 y v rfl rfl) e1 h3
  simp only[k10] at h
  split at h
  ·rename_i k hk
   simp only[Option.some.injEq] at h
   exact leaf 0 h.symm (by simp [i10,hk]) (by simp [i_,hk]) (.inl ⟨rfl,k,hk⟩)
  ·rename_i hk
   simp only[Option.some.injEq] at h
   exact leaf 1 h.symm (by simp [i10,hk]) (by simp [i_,hk]) (.inr (.inl ⟨rfl,hk⟩))
  ·rename_i hk
   simp only[Option.some.injEq] at h
   exact leaf 2 h.symm (by simp [i10,hk]) (by simp [i_,hk]) (.inr (.inr ⟨rfl,hk⟩))
  ·rename_i fs hfs
   have hag:i_ P t=true:=by simp [i_,hfs]
   have hnl:i10 P t=false:=by simp [i10,hfs]
   split at h
   ·cases h
   ·rename_i hst
    refine⟨.inl hag,(fun e=>by rw[hnl] at e;cases e),fun D hD=>?_⟩
    obtain⟨D,rfl⟩:∃D',D=D'+1:=⟨D - 1,by omega⟩
    simp only[a19,hag,if_true]
    have hfo:P.fieldsOf t=fs:=by simp [Program.fieldsOf,hfs]
    rw[run_equalIn_struct w D t _ _ (by rw[hfo];exact hfs) (by simpa using hst),hfo]
    have hl:=al11 _ _ _ _ hq
    have go:∀(l:List Field) (off:Nat) (k:List Nat) (b:Bool),k13 P (k10 P d) l off=some k→off+k.length=cs.length→aeqs k (cs.drop off) (ds.drop off)=some b→
      (Op.eqFields D us.toArray vs.toArray l).run P w= .ok b w:=by
     intro l
     induction l with
     | nil=>
      intro off k b hk _ hb
      simp only[k13,Option.some.injEq] at hk
      subst hk
      have hlb:=al11 _ _ _ _ hb
      have e1:cs.drop off=[]:=List.eq_nil_of_length_eq_zero hlb.1
      have e2:ds.drop off=[]:=List.eq_nil_of_length_eq_zero hlb.2
      rw[e1,e2] at hb
      simp only[aeqs,Option.some.injEq] at hb
      subst hb
      rfl
     | cons f l ih=>
      intro off k b hk hlen hb
      simp only[k13] at hk
      split at hk
      ·rename_i hf
       obtain⟨hf1,rfl⟩:=hf
       split at hk
       ·rename_i k1 hk1
        split at hk
        ·rename_i hsz
         obtain⟨k2,hk2,rfl⟩:=Option.map_eq_some_iff.1 hk
         obtain⟨β1,β2,e1,e2,rfl⟩:=aa11 k1 k2 _ _ _ hb
         rw[List.drop_drop] at e2
         rw[List.drop_drop] at e2
         rw[List.length_append] at hlen
         have htk:∀(l:List AV) (m:List Value),l.length=m.length→(∀(j:Nat) c u,l[j]? =some c→m[j]? =some u→Rd w F nm c u)→
           ((l.drop f.offset).take k1.length).length=((m.drop f.offset).take k1.length).length∧
           ∀(j:Nat) c u,((l.drop f.offset).take k1.length)[j]? =some c→((m.drop f.offset).take k1.length)[j]? =some u→Rd w F nm c u:=by
          intro l m h1 h2
          refine⟨by simp [h1],fun j c u hc hu=>?_⟩
          rw[List.getElem?_take] at hc hu
          split at hc
          ·rename_i hj
           rw[if_pos hj,List.getElem?_drop] at hu
           rw[List.getElem?_drop] at hc
           exact h2 _ c u hc hu
          ·cases hc
         obtain⟨a1,a2⟩:=htk cs us hu hru
         obtain⟨b1,b2⟩:=htk ds vs hv hrv
         obtain⟨hty,hone,hrun⟩:=ks14 w d f.type k1 hk1 _ _ _ _ β1 a1 b1 a2 b2 e1
         have r1:=pa10 (P:=P) w (us:=us) (off:=f.offset) hty hsz (by omega) hone
         have r2:=pa10 (P:=P) w (us:=vs) (off:=f.offset) hty hsz (by omega) hone
         simp only[Op.eqFields,if_pos hf1,Sem.run_bind,r1,r2,Result.andThen_ok,hrun D (by omega)]
         cases β1
         ·simp
         ·simp only[Bool.not_true,Bool.false_eq_true,if_false,Bool.true_and]
          exact ih _ k2 β2 hk2 (by omega) e2
        ·cases hk
       ·cases hk
      ·cases hk
    exact go fs.toList 0 ks β h (by omega) (by simpa using hq)
  ·cases h
theorem ga_ (w:World) (t:Nat) (us vs:Array Value) (h:P.eqGuardType P.depth t=false) (neg:Bool) (ex ey:Operand):(eqGuard (if neg then .neq else .eql) t ex ey (.agg us) (.agg vs)).run P w= .ok () w:=by
 cases neg <;> simp [eqGuard,h]
theorem as41 {neg:Bool} {ks:List Nat} {x y c:AV} {u v:Value} (hx:Rd w F nm x u) (hy:Rd w F nm y v) (h:aeqA neg ks x y=some c) {t:TypeId} (ht:k10 P 20 t=some ks) (hag:i_ P t=true) (hg:P.eqGuardType P.depth t=false) (ex ey:Operand):
  ∃r,((do eqGuard (if neg then .neq else .eql) t ex ey u v;binOp (if neg then .neq else .eql) t u v:Sem Value)).run P w= .ok r w∧Rd w F nm c r:=by
 cases x <;> cases y <;> simp only[aeqA,reduceCtorEq] at h
 rename_i cs ds
 split at h
 ·rename_i b hb
  simp only[Option.some.injEq] at h
  subst h
  cases hx with
  | agg _ _ us hl hr=>
   cases hy with
   | agg _ _ vs hl' hr'=>
    obtain⟨_,_,hrun⟩:=ks14 (P:=P) w 20 t ks ht cs ds us vs b hl hl' hr hr' hb
    have he:=hrun 10000 (by omega)
    simp only[a19,hag,if_true] at he
    have he':(Op.equal t (.agg us.toArray) (.agg vs.toArray)).run P w= .ok b w:=he
    refine⟨_,?_,.bool _ _⟩
    simp only[Sem.run_bind,ga_ w t _ _ hg,Result.andThen_ok]
    cases neg
    ·have e:binOp .eql t (.agg us.toArray) (.agg vs.toArray)=(do pure (.bool (←Op.equal t (.agg us.toArray) (.agg vs.toArray)))):=rfl
     simp only[Bool.false_eq_true,if_false,e,Sem.run_bind,he',Result.andThen_ok,Sem.run_pure]
    ·have e:binOp .neq t (.agg us.toArray) (.agg vs.toArray)=(do pure (.bool (!(←Op.equal t (.agg us.toArray) (.agg vs.toArray))))):=rfl
     simp only[if_true,e,Sem.run_bind,he',Result.andThen_ok,Sem.run_pure]
 ·cases h
end
end Go.Proofs.YtkejmcgngblfnaaGreatDoor.Ab
namespace Go.Proofs.YtkejmcgngblfnaaGreatDoor.Ab
open Go Go.RowKit
section
variable {P:Program} {G:Nat→Option AV} {C:Ctx} {nm:N_} {F:Nat→Prop} {st st':St} {a:Act} {w:World} {o:Oper}
theorem as25 {x y z c:AV} {u v r:Value} (hx:Rd w F nm x u) (hy:Rd w F nm y v) (hz:Rd w F nm z r) (h:a29 x y z=some c):
  ∃q,((do pure (.value (if ←asBool u then v else r)):Sem Next)).run P w= .ok (.value q) w∧Rd w F nm c q:=by
 unfold a29 at h
 split at h
 ·rename_i b _ _
  split at h
  ·simp only[Option.some.injEq] at h;subst h;cases hx;exact⟨v,rfl,hy⟩
  ·simp only[Option.some.injEq] at h;subst h;cases hx;exact⟨r,rfl,hz⟩
 ·cases h
theorem as18 (h:RelX G C nm F st a w) {sz:Nat} (hsz0:0<sz) {x i c:AV} {u v:Value} (hx:Rd w F nm x u) (hi:Rd w F nm i v) (hq:a10 st.heap sz x i=some c) {t e:Nat} (ht:P.underlying t=some (.slice e)) (hs:szIs P e sz=true):∃r,(Instr.indexAt t u v).run P w= .ok r w∧Rd w F nm c r:=by
 cases x <;> cases i <;> simp only[a10,reduceCtorEq] at hq
 case seq.int z es k n=>
  split at hq
  ·rename_i hz
   obtain⟨rfl,hn⟩:=hz
   obtain⟨e1,he1,rfl⟩:=Option.map_eq_some_iff.1 hq
   have hlt:n.toNat<es.length:=(List.getElem?_eq_some_iff.1 he1).1
   cases hi
   cases hx with
   | seq0=>simp at he1
   | seq _ _ _ g o cap us h0 hF hc hm hsz hw h1 hr=>
    refine⟨.pointer (some ⟨g,o+n.toNat*z,none⟩),?_,?_⟩
    ·simp only[Instr.indexAt,asIntOf,Sem.run_bind,Sem.run_pure,Result.andThen_ok,run_underlying ht]
     rw[if_pos ⟨hn,by omega⟩]
     simp only[Sem.run_bind,sr_ hs,Result.andThen_ok,Sem.run_pure,aa10]
    ·have hec:=hsz e1 (List.mem_of_getElem? he1)
     have hroom:n.toNat*z+z≤es.length*z:=by
      have:(n.toNat+1)*z≤es.length*z:=Nat.mul_le_mul_right _ hlt
      rw[Nat.add_mul] at this
      omega
     have:=Rd.eptr (w:=w) (F:=F) nm e1 0 g (o+n.toNat*z) (fun p=>us (n.toNat*z+p)) hF (fun p hp=>by rw[Nat.add_assoc];exact hw _ (by omega)) (fun p hp=>h1 _ (by omega)) (fun j c hc=>hr _ e1 j c he1 hc)
     simpa using this
  ·cases hq
 case full.int z es k n=>
  split at hq
  ·rename_i hz
   obtain⟨rfl,hn⟩:=hz
   obtain⟨e1,he1,rfl⟩:=Option.map_eq_some_iff.1 hq
   have hlt:n.toNat<es.length:=(List.getElem?_eq_some_iff.1 he1).1
   cases hi
   cases hx with
   | full _ _ _ g o us h0 hF hm hsz hw h1 hr=>
    refine⟨.pointer (some ⟨g,o+n.toNat*z,none⟩),?_,?_⟩
    ·simp only[Instr.indexAt,asIntOf,Sem.run_bind,Sem.run_pure,Result.andThen_ok,run_underlying ht]
     rw[if_pos ⟨hn,by omega⟩]
     simp only[Sem.run_bind,sr_ hs,Result.andThen_ok,Sem.run_pure,aa10]
    ·have hec:=hsz e1 (List.mem_of_getElem? he1)
     have hroom:n.toNat*z+z≤es.length*z:=by
      have:(n.toNat+1)*z≤es.length*z:=Nat.mul_le_mul_right _ hlt
      rw[Nat.add_mul] at this
      omega
     have:=Rd.eptr (w:=w) (F:=F) nm e1 0 g (o+n.toNat*z) (fun p=>us (n.toNat*z+p)) hF (fun p hp=>by rw[Nat.add_assoc];exact hw _ (by omega)) (fun p hp=>h1 _ (by omega)) (fun j c hc=>hr _ e1 j c he1 hc)
     simpa using this
  ·cases hq
 case arr.int i k m kk n=>
  split at hq
  ·rename_i b hb
   split at hq
   ·rename_i hn
    obtain⟨hbs,hn⟩:=hn
    simp only[Option.some.injEq] at hq
    subst hq
    cases hi
    cases hx with
    | arr _ _ _ _ m' hm' hle hp=>
     have hms:m'.sz=sz:=by
      rcases h.box i b hb with ⟨hno,_⟩ | ⟨m1,hm1,hl1⟩
      ·rw[hm'] at hno;cases hno
      ·rw[hm'] at hm1;cases hm1;rw[(hl1.c (by omega)).1,hbs]
     refine⟨.pointer (some ⟨m'.g,k*m'.sz+n.toNat*sz,none⟩),?_,?_⟩
     ·simp only[Instr.indexAt,asIntOf,Sem.run_bind,Sem.run_pure,Result.andThen_ok,run_underlying ht]
      rw[if_pos hn]
      simp only[Sem.run_bind,sr_ hs,Result.andThen_ok,Sem.run_pure,aa10]
     ·have:=Rd.ref (w:=w) (F:=F) nm i (k+n.toNat) 0 m' hm'
      rw[Nat.add_zero,Nat.add_mul,hms] at this
      rw[hms]
      exact this
    | arrE=>omega
    | arrN=>omega
   ·cases hq
  ·cases hq
theorem as34 {x i c:AV} {u v:Value} (hx:Rd w F nm x u) (hi:Rd w F nm i v) (h:aidx x i=some c) {t:Nat} (ht:P.underlying t=some .string):∃r,(Instr.index t u v).run P w= .ok r w∧Rd w F nm c r:=by
 cases x <;> cases i <;> simp only[aidx,reduceCtorEq] at h
 rename_i s k n
 split at h
 ·rename_i hn
  obtain⟨b,hb,rfl⟩:=Option.map_eq_some_iff.1 h
  have hlt:n.toNat<s.length:=(List.getElem?_eq_some_iff.1 hb).1
  cases hx;cases hi
  refine⟨_,?_,.int _ _ _⟩
  have hb':(⟨s.toArray⟩:ByteArray)[n.toNat]? =some b:=by
   rw[ByteArray.getElem?_lt' _ _ (by simpa [ByteArray.size] using hlt)]
   rw[List.getElem?_eq_getElem hlt] at hb
   simpa [ByteArray.getElem_eq_getElem_data] using hb
  simp only[Instr.index,asIntOf,Sem.run_bind,Sem.run_pure,Result.andThen_ok,run_underlying ht]
  rw[if_pos hn,hb']
  rfl
 ·cases h
theorem br10 {v:Value} {k:IntKind} {n:Int} {y:Nat} (hv:v= .int k n) (h0:0≤n) (hy:n≤y) (code:BoundsCode):(Instr.sliceBound v y code).run P w= .ok n.toNat w:=by
 subst hv
 simp only[Instr.sliceBound,asIntOf,Sem.run_bind,Sem.run_pure,Result.andThen_ok]
 rw[if_pos ⟨h0,hy⟩]
 rfl
theorem bo_ {x:Option AV} {v:Option Value} (hx:match x,v with | some c,some u=>Rd w F nm c u | none,none=>True | _,_ =>False) {d:Int} {k:IntKind} {n:Int} (h:x.getD (.int .i64 d)= .int k n):
  (v=none∧n=d)∨∃k',v=some (.int k' n):=by
 cases x with
 | none=>
  cases v with
  | none=>simp only[Option.getD_none,AV.int.injEq] at h;exact .inl ⟨rfl,h.2.symm⟩
  | some u=>exact hx.elim
 | some c=>
  cases v with
  | none=>exact hx.elim
  | some u=>
   simp only[Option.getD_some] at h
   subst h
   cases hx
   exact .inr ⟨k,rfl⟩
theorem br_ {lo hi:Option Value} {l h len cap:Nat} (hlo:(lo=none∧l=0)∨∃k,lo=some (.int k l)) (hhi:(hi=none∧h=len)∨∃k,hi=some (.int k h)) (h1:l≤h) (h2:h≤len) (h3:len≤cap) (b:Bool):
  (Instr.sliceBounds b len cap lo hi none).run P w= .ok (l,h,cap) w:=by
 rcases hlo with ⟨rfl,rfl⟩ | ⟨k,rfl⟩ <;> rcases hhi with ⟨rfl,rfl⟩ | ⟨k',rfl⟩
 ·simp only[Instr.sliceBounds,Sem.run_bind,Sem.run_pure,Result.andThen_ok]
 ·have e:=br10 (P:=P) (w:=w) (v:=.int k' h) rfl (by omega) (show (h:Int)≤(cap:Nat) by omega) (if b=true then .sliceAcap else .sliceAlen)
  simp only[Instr.sliceBounds,Sem.run_bind,Sem.run_pure,Result.andThen_ok,e,Int.toNat_natCast]
 ·have e:=br10 (P:=P) (w:=w) (v:=.int k l) rfl (by omega) (show (l:Int)≤(h:Nat) by omega) .sliceB
  simp only[Instr.sliceBounds,Sem.run_bind,Sem.run_pure,Result.andThen_ok,Option.isSome_none,Bool.false_eq_true,if_false,e,Int.toNat_natCast]
 ·have e:=br10 (P:=P) (w:=w) (v:=.int k' h) rfl (by omega) (show (h:Int)≤(cap:Nat) by omega) (if b=true then .sliceAcap else .sliceAlen)
  have e2:=br10 (P:=P) (w:=w) (v:=.int k l) rfl (by omega) (show (l:Int)≤(h:Nat) by omega) .sliceB
  simp only[Instr.sliceBounds,Sem.run_bind,Sem.run_pure,Result.andThen_ok,Option.isSome_none,Bool.false_eq_true,if_false,e,e2,Int.toNat_natCast]
theorem as29 {z:Nat} {x c:AV} {lo hi:Option AV} {u:Value} {lo' hi':Option Value} (hx:Rd w F nm x u) (hlo:match lo,lo' with | some c,some u=>Rd w F nm c u | none,none=>True | _,_ =>False)
  (hhi:match hi,hi' with | some c,some u=>Rd w F nm c u | none,none=>True | _,_ =>False) (h:aslc z x lo hi=some c) {t:Nat} (ht:(z=0∧P.underlying t=some .string)∨∃e,P.underlying t=some (.slice e)∧szIs P e z=true∧0<z):
  ∃r,(Instr.sliceAt t u lo' hi' none).run P w= .ok r w∧Rd w F nm c r:=by
 cases x <;> simp only[aslc,reduceCtorEq] at h
 case str s=>
  split at h
  rotate_left
  ·cases h
  rename_i hz
  have ht:P.underlying t=some .string:=by
   rcases ht with ⟨_,ht⟩ | ⟨e,_,_,h0⟩
   ·exact ht
   ·omega
  split at h
  ·rename_i k l k' hh e1 e2
   split at h
   ·rename_i hc
    obtain⟨h0,h1,h2⟩:=hc
    simp only[Option.some.injEq] at h
    subst h
    cases hx
    have b1:=bo_ hlo e1
    have b2:=bo_ hhi e2
    obtain⟨l,rfl⟩:=Int.eq_ofNat_of_zero_le h0
    obtain⟨m,rfl⟩:=Int.eq_ofNat_of_zero_le (show 0≤hh by omega)
    have hb:=br_ (P:=P) (w:=w) (lo:=lo') (hi:=hi') (l:=l) (h:=m) (len:=s.length) (cap:=s.length) (b1.imp (fun x=>⟨x.1,by omega⟩) id) (b2.imp (fun x=>⟨x.1,by omega⟩) id) (by omega) (by omega) (Nat.le_refl _) false
    refine⟨.string ((⟨s.toArray⟩:ByteArray).extract l m),?_,?_⟩
    ·have hsz:(⟨s.toArray⟩:ByteArray).size=s.length:=by simp [ByteArray.size]
     simp only[Instr.sliceAt,Sem.run_bind,run_underlying ht,Result.andThen_ok,Instr.slice,Option.isSome_none,Bool.false_eq_true,if_false,hsz,hb,Sem.run_pure]
    ·have e:((⟨s.toArray⟩:ByteArray).extract l m)=⟨((s.drop l).take (m - l)).toArray⟩:=by
      apply ByteArray.ext
      simp [ByteArray.data_extract,List.extract_toArray,List.extract_eq_take_drop]
     rw[e]
     simpa using Rd.str (w:=w) (F:=F) nm ((s.drop l).take (m - l))
   ·cases h
  ·cases h
 case seq sz es=>
  split at h
  rotate_left
  ·cases h
  rename_i hz
  obtain⟨rfl,hz0'⟩:=hz
  split at h
  ·rename_i k l k' hh e1 e2
   split at h
   ·rename_i hc
    obtain⟨h0,h1,h2⟩:=hc
    simp only[Option.some.injEq] at h
    subst h
    have b1:=bo_ hlo e1
    have b2:=bo_ hhi e2
    obtain⟨l,rfl⟩:=Int.eq_ofNat_of_zero_le h0
    obtain⟨m,rfl⟩:=Int.eq_ofNat_of_zero_le (show 0≤hh by omega)
    simp only[Int.toNat_natCast]
    cases hx with
    | seq0 _ _ A cap=>
     have hl0:l=0:=by simp at h2;omega
     have hm0:m=0:=by simp at h2;omega
     subst hl0;subst hm0
     have hb:=br_ (P:=P) (w:=w) (lo:=lo') (hi:=hi') (l:=0) (h:=0) (len:=0) (cap:=cap) (b1.imp (fun x=>⟨x.1,rfl⟩) id) (b2.imp (fun x=>⟨x.1,rfl⟩) id) (by omega) (by omega) (Nat.zero_le _) true
     rcases ht with ⟨hz0,ht⟩ | ⟨e,ht,hs,_⟩
     ·omega
     refine⟨.slice (if cap=0 then A else A.map (·.add (0*z))) 0 (cap - 0),?_,.seq0 _ _ _ _⟩
     simp only[Instr.sliceAt,Sem.run_bind,run_underlying ht,Result.andThen_ok,Instr.slice,hb,sr_ hs,Sem.run_pure]
    | seq _ _ _ g o cap us hz hF hcap hm hsz hw h1' hr=>
     have hb:=br_ (P:=P) (w:=w) (lo:=lo') (hi:=hi') (l:=l) (h:=m) (len:=es.length) (cap:=cap) (b1.imp (fun x=>⟨x.1,by omega⟩) id) (b2.imp (fun x=>⟨x.1,by omega⟩) id) (by omega) (by omega) hcap true
     have hlen:((es.drop l).take (m - l)).length=m - l:=by simp;omega
     rcases ht with ⟨hz0,ht⟩ | ⟨e,ht,hs,_⟩
     ·omega
     refine⟨.slice (if cap=l then some ⟨g,o,none⟩ else some ⟨g,o+l*z,none⟩) (m - l) (cap - l),?_,?_⟩
     ·simp only[Instr.sliceAt,Sem.run_bind,run_underlying ht,Result.andThen_ok,Instr.slice,hb,sr_ hs,Sem.run_pure,Option.map_some,aa10]
     ·by_cases hml:m - l=0
      ·rw[hml]
       simp only[List.take_zero]
       exact .seq0 _ _ _ _
      ·rw[if_neg (by omega)]
       have:=Rd.seq (w:=w) (F:=F) nm z ((es.drop l).take (m - l)) g (o+l*z) (cap - l) (fun p=>us (l*z+p)) hz hF (by rw[hlen];omega) (by omega) (fun e he=>hsz e (List.mem_of_mem_drop (List.mem_of_mem_take he)))
        (fun p hp=>by
         rw[hlen] at hp
         rw[Nat.add_assoc]
         refine hw _ ?_
         have:(l+(m - l))*z≤es.length*z:=Nat.mul_le_mul_right _ (by omega)
         rw[Nat.add_mul] at this
         omega)
        (fun p hp=>by
         rw[hlen] at hp
         refine h1' _ ?_
         have:(l+(m - l))*z≤es.length*z:=Nat.mul_le_mul_right _ (by omega)
         rw[Nat.add_mul] at this
         omega)
        (fun k e j c he hc=>by
         rw[List.getElem?_take] at he
         split at he
         ·rw[List.getElem?_drop] at he
          have:=hr (l+k) e j c he hc
          rw[Nat.add_mul,Nat.add_assoc] at this
          exact this
         ·cases he)
       rw[hlen] at this
       exact this
   ·cases h
  ·cases h
end
end Go.Proofs.YtkejmcgngblfnaaGreatDoor.Ab
