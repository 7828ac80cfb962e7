/- Lemmas. -/
import Derived.Test.YtkgcnoghjibiaaaGreatDoorYAbStep6
import Derived.Laws.BytesString
import Derived.RangeFuncRecord
set_option linter.unusedSimpArgs false
namespace Go.Proofs.YtkgcnoghjibiaaaGreatDoor.Ab
open Go Go.RowKit
section
variable {P:Program} {G:Nat->Option AV} {C:Ctx} {nm:N_} {F:Nat->Prop} {st st':St} {a:Act} {w:World} {o:Oper}
theorem ms14 (h:RelX G C nm F st a w) {t e sz bytes:Nat} {z:AV} {x y:Operand} {p q:Opd} (ho:o.op= .makeSlice t x y)
  (hsl:s30 P t e=true) (hs:szIs P e sz=true) (h0:0<sz) (hby:b14 P e bytes=true) (hb0:0<bytes) (hz:z_ P e z=true) (hf:fits z sz=true) (hx:c_ x p=true) (hy:c_ y q=true)
  (he:amks st o.dst e sz bytes z (st.ev G p) (st.ev G q)=some st'):S_ P G C o a w st':=by
 obtain⟨v,hrun,hrep,i,hi,hzv⟩:=zs_ hz;have hxr:=h.opd hx;have hyr:=h.opd hy;generalize st.ev G p=pv at*;generalize st.ev G q=qv at*;unfold amks at he;split at he
 .rename_i d k a1 k' b1 hd;split at he
  .rename_i hc;obtain⟨c0,c1,c2⟩:=hc;generalize hex:a.eval x=xv at hxr;generalize hey:a.eval y=yv at hyr;cases hxr;cases hyr;have hisz:=ss14 hs hi;have hiby:=bs_ hby hi;have hb1:b1<=b1*bytes:=by
    have:b1*1<=b1*(bytes:Int):=Int.mul_le_mul_of_nonneg_left (by omega) (by omega);omega
   have hr:=run_make (P:=P) w t e i v (ss_ hsl) hi hzv k k' a1 b1 c0 c1 (by rw[hiby,Int.mul_comm];omega) (by omega);rw[hisz] at hr;obtain⟨hzs,hzc⟩:=ck_ (w:=w) (F:=F) (nm:=n10) (rr_ hrep) hf;obtain⟨_,hzl,_⟩:=fs11 hf;refine ns31 (cs:=madeCells v.cells (b1.toNat*sz)) (v:=.slice (some ⟨w.heap.size,0,none⟩) a1.toNat b1.toNat) (cap:=b1.toNat) h hd h0 (by simp [madeCells]) (by have e:maxLen=9223372036854775807:=rfl;rw[e];omega) (by simp only[uN];omega) (λx hx=>by rw[vO hx];exact hzl) (λk x j c hk hj=>?_) ?_ ?_ he
   .have hkn:k<a1.toNat:=by have:=(zX.1 hk).1;simpa using this
    have hez:x=z:=vO (zG hk);subst hez;have hjs:j<sz:=by rw[<-hzl];exact (zX.1 hj).1
    obtain⟨u,hu,hu1,hrd⟩:=hzc j c hj;have hlt:k*sz+j<b1.toNat*sz:=by have:(k+1)*sz<=b1.toNat*sz:=xZ _ (by omega);rw[xM] at this;omega
    refine⟨u,?_,hu1,λm=>by simpa using hrd⟩;have hmod:(k*sz+j) % sz=j:=by rw[Nat.add_comm,Nat.add_mul_mod_self_right,tC hjs]
    simp only[madeCells,Array.getElem?_map,Array.getElem?_range,hlt,xW,yF,hzs,hmod];rw[getElem!_pos v.cells j (by rw[hzs];exact hjs)];rw[yG (by rw[hzs];exact hjs)] at hu;exact hu
   .have:=Rd.arr (w:=w.alloc (.cells (madeCells v.cells (b1.toNat*sz)) e)) (F:=F) (upd nm d (some ⟨w.heap.size,sz,b1.toNat,e⟩)) d 0 a1.toNat ⟨w.heap.size,sz,b1.toNat,e⟩ (zY rfl) (by simp only;omega) (.inr rfl);simpa using this
   .simp only[execOp,ho,hex,hey,Sem.run_bind,hr,Result.andThen_ok,Sem.run_pure]
  .cases he
 .cases he
theorem as45 {mn:Bool} {x y c:AV} {u v:Value} (hx:Rd w F nm x u) (hy:Rd w F nm y v) (h:amx mn x y=some c) (tys:Array TypeId) (ty:TypeId):
  ∃r,((if mn then Builtin.min_ tys ty #[u,v] else Builtin.max_ tys ty #[u,v]):Sem Value).run P w= .ok r w∧Rd w F nm c r:=by
 unfold amx at h;split at h
 .rename_i k a1 k' b1;split at h
  .rename_i hk;subst hk;simp only[zZ] at h;subst h;cases hx;cases hy;cases mn
   .exact⟨_,by simp only[zF,yI,Builtin.max_,List.foldlM_cons,List.foldlM_nil,Builtin.max2,Sem.run_bind,Sem.run_pure,Result.andThen_ok],.int _ _ _⟩
   .exact⟨_,by simp only[xW,Builtin.min_,List.foldlM_cons,List.foldlM_nil,Builtin.min2,Sem.run_bind,Sem.run_pure,Result.andThen_ok],.int _ _ _⟩
  .cases h
 .cases h
theorem as27 {n:Nat} {x c:AV} {u:Value} (hx:Rd w F nm x u) (h:a34 n x=some c) {t e:Nat} (ht:P.underlying t=some (.array n e)) (hs:szIs P e 1=true) (hn:n<=1048576):
  ∃r,(Instr.sliceAt t u none none none).run P w= .ok r w∧Rd w F nm c r:=by
 unfold a34 at h;split at h
 .rename_i cs;split at h
  .rename_i hc;obtain⟨rfl,hc1⟩:=hc;simp only[zZ] at h;subst h;cases hx with
   | eptr _ _ _ g o us hF hw h1 hr=>
    simp only[AV.cells] at hw h1 hr;refine⟨.slice (some ⟨g,o,none⟩) cs.length cs.length,?_,?_⟩
    .simp only[Instr.sliceAt,Sem.run_bind,run_underlying ht,Result.andThen_ok,Instr.sureAddr,Sem.run_pure,Instr.sliceBounds,sr_ hs,vZ];by_cases hz:cs.length=0
     .simp [hz]
     .rw[zK (by omega)];simp [Addr.add]
    .have hone:∀x∈cs,x.cells=[x]:=λx hx=>by
      have:=xQ.1 hc1 x hx;cases x <;> first | rfl | (simp [c22] at this)
     have key:=Rd.seq (w:=w) (F:=F) nm 1 cs g o cs.length us (by decide) hF (zN _) (by have e:maxLen=9223372036854775807:=rfl;rw[e];omega) (λx hx=>by rw[hone x hx];rfl) (λp hp=>hw p (by omega)) (λp hp=>h1 p (by omega))
      (λk x j c hk hj=>by
       rw[hone x (zG hk)] at hj
       match j,hj with
       | 0,hj=>
        simp at hj;subst hj;have:=hr k x hk;simpa using this
       | j+1,hj=>simp at hj)
     exact key
  .cases h
 .cases h
theorem rs22 (h:RelX G C nm F st a w) {t:Nat} {x:Operand} {p:Opd} (ho:o.op= .range t x) (ht:P.underlying t=some .string) (hx:c_ x p=true) (he:arng st o.dst (st.ev G p)=some st'):S_ P G C o a w st':=by
 have hxr:=h.opd hx;generalize st.ev G p=pv at*;unfold arng at he;split at he
 .rename_i d s hd;generalize hex:a.eval x=xv at hxr;cases hxr;refine .inl ⟨.pointer (some ⟨w.heap.size,0,none⟩),w.alloc (.stringIter ⟨s.toArray⟩ 0),?_,upd nm d (some ⟨w.heap.size,0,0,0⟩),F,?_⟩
  .simp only[execOp,ho,hex,Instr.range,Sem.run_bind,run_underlying ht,Result.andThen_ok,Sem.run_pure,run_newObj_alloc]
  .rw[hd];refine h.new (m:=some ⟨w.heap.size,0,0,0⟩) he (h.keep.alloc _) (λk hk=>Below.heap_alloc w _ k hk) (by simp) (λm' hm=>by cases hm;exact zN _) ?_ ?_
   .have:=Rd.ref (w:=w.alloc (.stringIter ⟨s.toArray⟩ 0)) (F:=F) (upd nm d (some ⟨w.heap.size,0,0,0⟩)) d 0 0 ⟨w.heap.size,0,0,0⟩ (zY rfl);simpa using this
   .exact .inr ⟨⟨w.heap.size,0,0,0⟩,zY rfl,.inr ⟨rfl,rfl,rfl,.inl ⟨rfl,s,0,rfl,heap_alloc_new w _⟩⟩⟩
 .cases he
theorem rgi_ {r:Nat} {s:ByteArray} {p:Nat} (h:w.heap[r]?=some (.stringIter s p)):(getObj r).run P w= .ok (.stringIter s p) w:=by simp [getObj,Sem.run,h]
theorem rsi_ {r:Nat} {s:ByteArray} {p:Nat} (o':Obj) (h:w.heap[r]?=some (.stringIter s p)):(setObj r o').run P w= .ok () (w.putObj r o'):=by simp [setObj,Sem.run,h,World.putObj]
theorem ns35 (h:RelX G C nm F st a w) {x:Operand} {p:Opd} (ho:o.op= .next x true) (hx:c_ x p=true) (he:anxt st o.dst (st.ev G p)=some st'):S_ P G C o a w st':=by
 have hxr:=h.opd hx;generalize st.ev G p=pv at*;unfold anxt at he;split at he
 .rename_i d i hd;split at he
  .rename_i b hb;split at he
   .rename_i s pos hes;split at he
    .rename_i hc;obtain⟨c1,c2,c3,c4,c5⟩:=hc;generalize hex:a.eval x=xv at hxr;cases hxr with
     | ref _ _ _ _ m hm=>
      rcases h.box i b hb with ⟨hn,_⟩ | ⟨m',hm',hl⟩
      .rw[hm] at hn;cases hn
      rw[hm] at hm';cases hm';rcases hl with hl | ⟨_,_,k3,⟨_,s',p',k4,k5⟩ | ⟨k4,_⟩ | ⟨k4,_⟩⟩
      .have:=hl.2.2.1;omega
      .rw[hes] at k4;simp only[sQ,AV.str.injEq,AV.int.injEq,true_and,and_true] at k4;obtain⟨rfl,rfl⟩:=k4;have e0:0*m.sz+0=0:=by omega
       split at he
       .rename_i hlt;simp only[zZ] at he;subst he;have hlt':p'<s.length:=by simpa using hlt
        refine .inl ⟨.tuple #[.bool true,.int .i64 p',.int .i32 ((adec s p').1:Nat)],w.putObj m.g (.stringIter ⟨s.toArray⟩ (p'+(adec s p').2)),?_,nm,F,?_⟩
        .have hsz:p'<(⟨s.toArray⟩:ByteArray).size:=by simpa [ByteArray.size] using hlt'
         simp only[execOp,ho,hex,e0,Instr.next,Sem.run_bind,rgi_ k5,Result.andThen_ok,hsz,xW,rsi_ _ k5,Sem.run_pure,adec,goInt]
        .rw[hd];have h1:RelX G C nm F {st with heap:=hset st.heap i {b with es:=[.str s,.int .i64 ((p'+(adec s p').2:Nat):Int)]}} a (w.putObj m.g (.stringIter ⟨s.toArray⟩ (p'+(adec s p').2))):=by
          refine h.setBox hb hm rfl rfl rfl (by simp [World.putObj]) rfl (λk hk=>World.putObj_heap_other hk) (.inr ⟨c2,c1,k3,.inl ⟨c3,s,_,rfl,World.putObj_heap_same ?_⟩⟩);exact (yC.1 k5).1
         have h2:=h1.put (d:=some d) (c:=.tup [.bool true,.int .i64 p',.int .i32 ((adec s p').1:Nat)]) (v:=.tuple #[.bool true,.int .i64 p',.int .i32 ((adec s p').1:Nat)]) (Rd.tup nm _ [.bool true,.int .i64 p',.int .i32 ((adec s p').1:Nat)] rfl (λj c u hc hu=>by
          match j,hc,hu with
          | 0,hc,hu=>simp at hc hu;subst hc;subst hu;exact .bool _ _
          | 1,hc,hu=>simp at hc hu;subst hc;subst hu;exact .int _ _ _
          | 2,hc,hu=>simp at hc hu;subst hc;subst hu;exact .int _ _ _
          | j+3,hc,hu=>simp at hc)) (st':={st with env:=(d,.tup [.bool true,.int .i64 p',.int .i32 ((adec s p').1:Nat)])::st.env,heap:=hset st.heap i {b with es:=[.str s,.int .i64 ((p'+(adec s p').2:Nat):Int)]}}) (by simp only[St.put];rw[zY c5])
         simpa using h2
       .rename_i hge;simp only[zZ] at he;subst he;have hge':¬p'<s.length:=by simpa using hge
        refine .inl ⟨.tuple #[.bool false],w,?_,nm,F,?_⟩
        .have hsz:¬p'<(⟨s.toArray⟩:ByteArray).size:=by simpa [ByteArray.size] using hge'
         simp only[execOp,ho,hex,e0,Instr.next,Sem.run_bind,rgi_ k5,Result.andThen_ok,hsz,yI,Sem.run_pure]
        .rw[hd];exact h.put (d:=some d) (c:=.tup [.bool false]) (Rd.tup nm _ [.bool false] rfl (λj c u hc hu=>by
          match j,hc,hu with
          | 0,hc,hu=>simp at hc hu;subst hc;subst hu;exact .bool _ _
          | j+1,hc,hu=>simp at hc)) (by simp only[St.put];rw[zY c5])
      .omega
      .omega
    .cases he
   .cases he
  .cases he
 .cases he
end
section
variable {P:Program} {G:Nat->Option AV} {C:Ctx} {nm:N_} {F:Nat->Prop} {st st':St} {a:Act} {w:World} {o:Oper}
end
section
variable {P:Program} {G:Nat->Option AV} {C:Ctx} {nm:N_} {F:Nat->Prop} {st st':St} {a:Act} {w:World} {o:Oper}
theorem as12 {a b:Option Bool} {c:Bool} (h:andO a b=some c):∃x y,a=some x∧b=some y∧c=(x&&y):=by
 cases a with
 | none=>simp [andO] at h
 | some x=>
  cases b with
  | none=>simp [andO] at h
  | some y=>simp only[andO,zZ] at h;exact⟨x,y,rfl,rfl,h.symm⟩
theorem aa15:∀(ks ks':List Nat) (cs ds:List AV) (β:Bool),aeqs (ks++ks') cs ds=some β->
  ∃β1 β2,aeqs ks (cs.take ks.length) (ds.take ks.length)=some β1∧aeqs ks' (cs.drop ks.length) (ds.drop ks.length)=some β2∧β=(β1&&β2)
 | [],ks',cs,ds,β,h=>⟨true,β,by simp [aeqs],by simpa using h,by simp⟩
 | k::ks,ks',[],_,β,h=>by simp [aeqs] at h
 | k::ks,ks',_ ::_,[],β,h=>by simp [aeqs] at h
 | k::ks,ks',c::cs,d::ds,β,h=>by simp only[List.cons_append,aeqs] at h;obtain⟨x,y,h1,h2,rfl⟩:=as12 h;obtain⟨β1,β2,e1,e2,rfl⟩:=aa15 ks ks' cs ds y h2;exact⟨x&&β1,β2,by simp only[yH,uQ,aeqs,h1,e1,andO],by simpa using e2,by simp [Bool.and_assoc]⟩
theorem al12:∀(ks:List Nat) (cs ds:List AV) (β:Bool),aeqs ks cs ds=some β->cs.length=ks.length∧ds.length=ks.length
 | [],[],[],_,_ =>⟨rfl,rfl⟩
 | [],_ ::_,_,_,h=>by simp [aeqs] at h
 | [],[],_ ::_,_,h=>by simp [aeqs] at h
 | _ ::_,[],_,_,h=>by simp [aeqs] at h
 | _ ::_,_ ::_,[],_,h=>by simp [aeqs] at h
 | k::ks,c::cs,d::ds,β,h=>by simp only[aeqs] at h;obtain⟨x,y,_,h2,_⟩:=as12 h;have:=al12 ks cs ds y h2;simp [this]
def a22 (P:Program) (t:Nat) (us:List Value):Value:=if i_ P t then .agg us.toArray else us.headD undef
theorem pa10 (w:World) {t n off:Nat} {us:List Value} (ht:i_ P t=true∨i10 P t=true) (hs:szIs P t n=true) (hl:off+n<=us.length) (h1:i10 P t=true->n=1):
  (part t us.toArray off).run P w= .ok (a22 P t ((us.drop off).take n)) w:=by
 rcases ht with ht | ht
 .simp only[part,Sem.run_bind,ir10 ht,Result.andThen_ok,xW,sr_ hs,Sem.run_pure,a22,ht];congr 2;simp [List.extract_toArray,List.extract_eq_take_drop]
 .have hn:=h1 ht;subst hn;have hlt:off<us.length:=by omega
  have hag:i_ P t=false:=by unfold i10 at ht;unfold i_;split at ht <;> simp_all
  simp only[part,Sem.run_bind,ir_ ht,Result.andThen_ok,zF,yI,a22,hag];simp [List.head?_drop,hlt,List.headD_eq_head?_getD,List.head?_take]
theorem ls12 (w:World) {D t k:Nat} {c d:AV} {u v:Value} {β:Bool} (hc:Rd w F nm c u) (hd:Rd w F nm d v) (h:l10 k c d=some β)
  (ht:(k=0∧∃i,P.underlying t=some (.int i))∨(k=1∧P.underlying t=some .string)∨(k=2∧P.underlying t=some .bool)):(Op.equalIn (D+1) t u v).run P w= .ok β w:=by
 rcases ht with ⟨rfl,i,ht⟩ | ⟨rfl,ht⟩ | ⟨rfl,ht⟩
 .cases c <;> cases d <;> simp only[l10,reduceCtorEq,vL,zZ] at h;obtain⟨rfl,rfl⟩:=h;cases hc;cases hd;exact run_equalIn_int w D t _ i _ _ ht
 .cases c <;> cases d <;> simp only[l10,reduceCtorEq,zZ] at h;subst h;cases hc;cases hd;rw[run_equalIn_string w D t _ _ ht];simp
 .cases c <;> cases d <;> simp only[l10,reduceCtorEq,zZ] at h;subst h;cases hc;cases hd;exact run_equalIn_bool' w D t _ _ ht
theorem ks12 (w:World):∀(d t:Nat) (ks:List Nat),k10 P d t=some ks->∀(cs ds:List AV) (us vs:List Value) (β:Bool),cs.length=us.length->ds.length=vs.length->
  (∀(j:Nat) c u,cs[j]?=some c->us[j]?=some u->Rd w F nm c u)->(∀(j:Nat) c u,ds[j]?=some c->vs[j]?=some u->Rd w F nm c u)->aeqs ks cs ds=some β->
  (i_ P t=true∨i10 P t=true)∧(i10 P t=true->ks.length=1)∧∀D,d<=D->(Op.equalIn D t (a22 P t us) (a22 P t vs)).run P w= .ok β w
 | 0,t,ks,h,_,_,_,_,_,_,_,_,_,_ =>by simp [k10] at h
 | d+1,t,ks,h,cs,ds,us,vs,β,hu,hv,hru,hrv,hq=>by
  have leaf:∀k,ks=[k]->i10 P t=true->i_ P t=false->((k=0∧∃i,P.underlying t=some (.int i))∨(k=1∧P.underlying t=some .string)∨(k=2∧P.underlying t=some .bool))->
    (i_ P t=true∨i10 P t=true)∧(i10 P t=true->ks.length=1)∧∀D,d+1<=D->(Op.equalIn D t (a22 P t us) (a22 P t vs)).run P w= .ok β w:=by
   intro k hk h1 h2 h3;subst hk;refine⟨.inr h1,λ_ =>rfl,λD hD=>?_⟩;obtain⟨D,rfl⟩:∃D',D=D'+1:=⟨D - 1,by omega⟩;simp only[a22,h2,zF,yI];have hl:=al12 _ _ _ _ hq
   match cs,ds,us,vs,hl,hu,hv with
   | [x],[y],[u],[v],_,_,_ =>
    simp only[aeqs] at hq;obtain⟨b1,b2,e1,e2,rfl⟩:=as12 hq;simp only[zZ] at e2;subst e2;rw[wX];exact ls12 w (hru 0 x u rfl rfl) (hrv 0 y v rfl rfl) e1 h3
  simp only[k10] at h;split at h
  .rename_i k hk;simp only[zZ] at h;exact leaf 0 h.symm (by simp [i10,hk]) (by simp [i_,hk]) (.inl ⟨rfl,k,hk⟩)
  .rename_i hk;simp only[zZ] at h;exact leaf 1 h.symm (by simp [i10,hk]) (by simp [i_,hk]) (.inr (.inl ⟨rfl,hk⟩))
  .rename_i hk;simp only[zZ] at h;exact leaf 2 h.symm (by simp [i10,hk]) (by simp [i_,hk]) (.inr (.inr ⟨rfl,hk⟩))
  .rename_i fs hfs;have hag:i_ P t=true:=by simp [i_,hfs]
   have hnl:i10 P t=false:=by simp [i10,hfs]
   split at h
   .cases h
   .rename_i hst;refine⟨.inl hag,(λe=>by rw[hnl] at e;cases e),λD hD=>?_⟩;obtain⟨D,rfl⟩:∃D',D=D'+1:=⟨D - 1,by omega⟩;simp only[a22,hag,xW];have hfo:P.fieldsOf t=fs:=by simp [Program.fieldsOf,hfs]
    rw[run_equalIn_struct w D t _ _ (by rw[hfo];exact hfs) (by simpa using hst),hfo];have hl:=al12 _ _ _ _ hq
    have go:∀(l:List Field) (off:Nat) (k:List Nat) (b:Bool),k12 P (k10 P d) l off=some k->off+k.length=cs.length->aeqs k (cs.drop off) (ds.drop off)=some b->
      (Op.eqFields D us.toArray vs.toArray l).run P w= .ok b w:=by
     intro l
     induction l with
     | nil=>
      intro off k b hk _ hb;simp only[k12,zZ] at hk;subst hk;have hlb:=al12 _ _ _ _ hb;have e1:cs.drop off=[]:=yT hlb.1;have e2:ds.drop off=[]:=yT hlb.2;rw[e1,e2] at hb;simp only[aeqs,zZ] at hb;subst hb;rfl
     | cons f l ih=>
      intro off k b hk hlen hb;simp only[k12] at hk;split at hk
      .rename_i hf;obtain⟨hf1,rfl⟩:=hf;split at hk
       .rename_i k1 hk1;split at hk
        .rename_i hsz;obtain⟨k2,hk2,rfl⟩:=zH.1 hk;obtain⟨β1,β2,e1,e2,rfl⟩:=aa15 k1 k2 _ _ _ hb;rw[List.drop_drop] at e2;rw[List.drop_drop] at e2;rw[zL] at hlen
         have htk:∀(l:List AV) (m:List Value),l.length=m.length->(∀(j:Nat) c u,l[j]?=some c->m[j]?=some u->Rd w F nm c u)->
           ((l.drop f.offset).take k1.length).length=((m.drop f.offset).take k1.length).length∧
           ∀(j:Nat) c u,((l.drop f.offset).take k1.length)[j]?=some c->((m.drop f.offset).take k1.length)[j]?=some u->Rd w F nm c u:=by
          intro l m h1 h2;refine⟨by simp [h1],λj c u hc hu=>?_⟩;rw[yN] at hc hu;split at hc
          .rename_i hj;rw[zY hj,xX] at hu;rw[xX] at hc;exact h2 _ c u hc hu
          .cases hc
         obtain⟨a1,a2⟩:=htk cs us hu hru;obtain⟨b1,b2⟩:=htk ds vs hv hrv;obtain⟨hty,hone,hrun⟩:=ks12 w d f.type k1 hk1 _ _ _ _ β1 a1 b1 a2 b2 e1;have r1:=pa10 (P:=P) w (us:=us) (off:=f.offset) hty hsz (by omega) hone;have r2:=pa10 (P:=P) w (us:=vs) (off:=f.offset) hty hsz (by omega) hone;simp only[Op.eqFields,zY hf1,Sem.run_bind,r1,r2,Result.andThen_ok,hrun D (by omega)];cases β1
         .simp
         .simp only[wM,zF,yI,yR];exact ih _ k2 β2 hk2 (by omega) e2
        .cases hk
       .cases hk
      .cases hk
    exact go fs.toList 0 ks β h (by omega) (by simpa using hq)
  .cases h
theorem ga10 (w:World) (t:Nat) (us vs:Array Value) (h:P.eqGuardType P.depth t=false) (neg:Bool) (ex ey:Operand):(eqGuard (if neg then .neq else .eql) t ex ey (.agg us) (.agg vs)).run P w= .ok () w:=by cases neg <;> simp [eqGuard,h]
theorem as38 {neg:Bool} {ks:List Nat} {x y c:AV} {u v:Value} (hx:Rd w F nm x u) (hy:Rd w F nm y v) (h:aeqA neg ks x y=some c) {t:TypeId} (ht:k10 P 20 t=some ks) (hag:i_ P t=true) (hg:P.eqGuardType P.depth t=false) (ex ey:Operand):
  ∃r,((do eqGuard (if neg then .neq else .eql) t ex ey u v;binOp (if neg then .neq else .eql) t u v:Sem Value)).run P w= .ok r w∧Rd w F nm c r:=by
 cases x <;> cases y <;> simp only[aeqA,reduceCtorEq] at h;rename_i cs ds;split at h
 .rename_i b hb;simp only[zZ] at h;subst h;cases hx with
  | agg _ _ us hl hr=>
   cases hy with
   | agg _ _ vs hl' hr'=>
    obtain⟨_,_,hrun⟩:=ks12 (P:=P) w 20 t ks ht cs ds us vs b hl hl' hr hr' hb;have he:=hrun 10000 (by omega);simp only[a22,hag,xW] at he;have he':(Op.equal t (.agg us.toArray) (.agg vs.toArray)).run P w= .ok b w:=he;refine⟨_,?_,.bool _ _⟩;simp only[Sem.run_bind,ga10 w t _ _ hg,Result.andThen_ok];cases neg
    .have e:binOp .eql t (.agg us.toArray) (.agg vs.toArray)=(do pure (.bool (<-Op.equal t (.agg us.toArray) (.agg vs.toArray)))):=rfl;simp only[zF,yI,e,Sem.run_bind,he',Result.andThen_ok,Sem.run_pure]
    .have e:binOp .neq t (.agg us.toArray) (.agg vs.toArray)=(do pure (.bool (!(<-Op.equal t (.agg us.toArray) (.agg vs.toArray))))):=rfl;simp only[xW,e,Sem.run_bind,he',Result.andThen_ok,Sem.run_pure]
 .cases h
end
section
variable {P:Program} {G:Nat->Option AV} {C:Ctx} {nm:N_} {F:Nat->Prop} {st st':St} {a:Act} {w:World} {o:Oper}
theorem as28 {x y z c:AV} {u v r:Value} (hx:Rd w F nm x u) (hy:Rd w F nm y v) (hz:Rd w F nm z r) (h:a35 x y z=some c):
  ∃q,((do pure (.value (if <-asBool u then v else r)):Sem Next)).run P w= .ok (.value q) w∧Rd w F nm c q:=by
 unfold a35 at h;split at h
 .rename_i b _ _;split at h
  .simp only[zZ] at h;subst h;cases hx;exact⟨v,rfl,hy⟩
  .simp only[zZ] at h;subst h;cases hx;exact⟨r,rfl,hz⟩
 .cases h
theorem as21 (h:RelX G C nm F st a w) {sz:Nat} (hsz0:0<sz) {x i c:AV} {u v:Value} (hx:Rd w F nm x u) (hi:Rd w F nm i v) (hq:a16 st.heap sz x i=some c) {t e:Nat} (ht:P.underlying t=some (.slice e)) (hs:szIs P e sz=true):∃r,(Instr.indexAt t u v).run P w= .ok r w∧Rd w F nm c r:=by
 cases x <;> cases i <;> simp only[a16,reduceCtorEq] at hq
 case seq.int z es k n=>
  split at hq
  .rename_i hz;obtain⟨rfl,hn⟩:=hz;obtain⟨e1,he1,rfl⟩:=zH.1 hq;have hlt:n.toNat<es.length:=(zX.1 he1).1;cases hi;cases hx with
   | seq0=>simp at he1
   | seq _ _ _ g o cap us h0 hF hc hm hsz hw h1 hr=>
    refine⟨.pointer (some ⟨g,o+n.toNat*z,none⟩),?_,?_⟩
    .simp only[Instr.indexAt,asIntOf,Sem.run_bind,Sem.run_pure,Result.andThen_ok,run_underlying ht];rw[zY ⟨hn,by omega⟩];simp only[Sem.run_bind,sr_ hs,Result.andThen_ok,Sem.run_pure,aa13]
    .have hec:=hsz e1 (zG he1);have hroom:n.toNat*z+z<=es.length*z:=by
      have:(n.toNat+1)*z<=es.length*z:=xZ _ hlt;rw[xM] at this;omega
     have:=Rd.eptr (w:=w) (F:=F) nm e1 0 g (o+n.toNat*z) (λp=>us (n.toNat*z+p)) hF (λp hp=>by rw[vK];exact hw _ (by omega)) (λp hp=>h1 _ (by omega)) (λj c hc=>hr _ e1 j c he1 hc);simpa using this
  .cases hq
 case full.int z es k n=>
  split at hq
  .rename_i hz;obtain⟨rfl,hn⟩:=hz;obtain⟨e1,he1,rfl⟩:=zH.1 hq;have hlt:n.toNat<es.length:=(zX.1 he1).1;cases hi;cases hx with
   | full _ _ _ g o us h0 hF hm hsz hw h1 hr=>
    refine⟨.pointer (some ⟨g,o+n.toNat*z,none⟩),?_,?_⟩
    .simp only[Instr.indexAt,asIntOf,Sem.run_bind,Sem.run_pure,Result.andThen_ok,run_underlying ht];rw[zY ⟨hn,by omega⟩];simp only[Sem.run_bind,sr_ hs,Result.andThen_ok,Sem.run_pure,aa13]
    .have hec:=hsz e1 (zG he1);have hroom:n.toNat*z+z<=es.length*z:=by
      have:(n.toNat+1)*z<=es.length*z:=xZ _ hlt;rw[xM] at this;omega
     have:=Rd.eptr (w:=w) (F:=F) nm e1 0 g (o+n.toNat*z) (λp=>us (n.toNat*z+p)) hF (λp hp=>by rw[vK];exact hw _ (by omega)) (λp hp=>h1 _ (by omega)) (λj c hc=>hr _ e1 j c he1 hc);simpa using this
  .cases hq
 case arr.int i k m kk n=>
  split at hq
  .rename_i b hb;split at hq
   .rename_i hn;obtain⟨hbs,hn⟩:=hn;simp only[zZ] at hq;subst hq;cases hi;cases hx with
    | arr _ _ _ _ m' hm' hle hp=>
     have hms:m'.sz=sz:=by
      rcases h.box i b hb with ⟨hno,_⟩ | ⟨m1,hm1,hl1⟩
      .rw[hm'] at hno;cases hno
      .rw[hm'] at hm1;cases hm1;rw[(hl1.c (by omega)).1,hbs]
     refine⟨.pointer (some ⟨m'.g,k*m'.sz+n.toNat*sz,none⟩),?_,?_⟩
     .simp only[Instr.indexAt,asIntOf,Sem.run_bind,Sem.run_pure,Result.andThen_ok,run_underlying ht];rw[zY hn];simp only[Sem.run_bind,sr_ hs,Result.andThen_ok,Sem.run_pure,aa13]
     .have:=Rd.ref (w:=w) (F:=F) nm i (k+n.toNat) 0 m' hm';rw[vZ,xM,hms] at this;rw[hms];exact this
    | arrE=>omega
    | arrN=>omega
   .cases hq
  .cases hq
theorem as33 {x i c:AV} {u v:Value} (hx:Rd w F nm x u) (hi:Rd w F nm i v) (h:aidx x i=some c) {t:Nat} (ht:P.underlying t=some .string):∃r,(Instr.index t u v).run P w= .ok r w∧Rd w F nm c r:=by
 cases x <;> cases i <;> simp only[aidx,reduceCtorEq] at h;rename_i s k n;split at h
 .rename_i hn;obtain⟨b,hb,rfl⟩:=zH.1 h;have hlt:n.toNat<s.length:=(zX.1 hb).1;cases hx;cases hi;refine⟨_,?_,.int _ _ _⟩;have hb':(⟨s.toArray⟩:ByteArray)[n.toNat]?=some b:=by
   rw[ByteArray.getElem?_lt' _ _ (by simpa [ByteArray.size] using hlt)];rw[zU hlt] at hb;simpa [ByteArray.getElem_eq_getElem_data] using hb
  simp only[Instr.index,asIntOf,Sem.run_bind,Sem.run_pure,Result.andThen_ok,run_underlying ht];rw[zY hn,hb'];rfl
 .cases h
theorem br10 {v:Value} {k:IntKind} {n:Int} {y:Nat} (hv:v= .int k n) (h0:0<=n) (hy:n<=y) (code:BoundsCode):(Instr.sliceBound v y code).run P w= .ok n.toNat w:=by subst hv;simp only[Instr.sliceBound,asIntOf,Sem.run_bind,Sem.run_pure,Result.andThen_ok];rw[zY ⟨h0,hy⟩];rfl
theorem bo_ {x:Option AV} {v:Option Value} (hx:match x,v with | some c,some u=>Rd w F nm c u | none,none=>True | _,_ =>False) {d:Int} {k:IntKind} {n:Int} (h:x.getD (.int .i64 d)= .int k n):
  (v=none∧n=d)∨∃k',v=some (.int k' n):=by
 cases x with
 | none=>
  cases v with
  | none=>simp only[Option.getD_none,AV.int.injEq] at h;exact .inl ⟨rfl,h.2.symm⟩
  | some u=>exact hx.elim
 | some c=>
  cases v with
  | none=>exact hx.elim
  | some u=>
   simp only[xK] at h;subst h;cases hx;exact .inr ⟨k,rfl⟩
theorem br_ {lo hi:Option Value} {l h len cap:Nat} (hlo:(lo=none∧l=0)∨∃k,lo=some (.int k l)) (hhi:(hi=none∧h=len)∨∃k,hi=some (.int k h)) (h1:l<=h) (h2:h<=len) (h3:len<=cap) (b:Bool):
  (Instr.sliceBounds b len cap lo hi none).run P w= .ok (l,h,cap) w:=by
 rcases hlo with ⟨rfl,rfl⟩ | ⟨k,rfl⟩ <;> rcases hhi with ⟨rfl,rfl⟩ | ⟨k',rfl⟩
 .simp only[Instr.sliceBounds,Sem.run_bind,Sem.run_pure,Result.andThen_ok]
 .have e:=br10 (P:=P) (w:=w) (v:=.int k' h) rfl (by omega) (show (h:Int)<=(cap:Nat) by omega) (if b=true then .sliceAcap else .sliceAlen);simp only[Instr.sliceBounds,Sem.run_bind,Sem.run_pure,Result.andThen_ok,e,zP]
 .have e:=br10 (P:=P) (w:=w) (v:=.int k l) rfl (by omega) (show (l:Int)<=(h:Nat) by omega) .sliceB;simp only[Instr.sliceBounds,Sem.run_bind,Sem.run_pure,Result.andThen_ok,vV,zF,yI,e,zP]
 .have e:=br10 (P:=P) (w:=w) (v:=.int k' h) rfl (by omega) (show (h:Int)<=(cap:Nat) by omega) (if b=true then .sliceAcap else .sliceAlen);have e2:=br10 (P:=P) (w:=w) (v:=.int k l) rfl (by omega) (show (l:Int)<=(h:Nat) by omega) .sliceB;simp only[Instr.sliceBounds,Sem.run_bind,Sem.run_pure,Result.andThen_ok,vV,zF,yI,e,e2,zP]
theorem as30 {z:Nat} {x c:AV} {lo hi:Option AV} {u:Value} {lo' hi':Option Value} (hx:Rd w F nm x u) (hlo:match lo,lo' with | some c,some u=>Rd w F nm c u | none,none=>True | _,_ =>False)
  (hhi:match hi,hi' with | some c,some u=>Rd w F nm c u | none,none=>True | _,_ =>False) (h:aslc z x lo hi=some c) {t:Nat} (ht:(z=0∧P.underlying t=some .string)∨∃e,P.underlying t=some (.slice e)∧szIs P e z=true∧0<z):
  ∃r,(Instr.sliceAt t u lo' hi' none).run P w= .ok r w∧Rd w F nm c r:=by
 cases x <;> simp only[aslc,reduceCtorEq] at h
 case str s=>
  split at h
  rotate_left
  .cases h
  rename_i hz;have ht:P.underlying t=some .string:=by
   rcases ht with ⟨_,ht⟩ | ⟨e,_,_,h0⟩
   .exact ht
   .omega
  split at h
  .rename_i k l k' hh e1 e2;split at h
   .rename_i hc;obtain⟨h0,h1,h2⟩:=hc;simp only[zZ] at h;subst h;cases hx;have b1:=bo_ hlo e1;have b2:=bo_ hhi e2;obtain⟨l,rfl⟩:=zA h0;obtain⟨m,rfl⟩:=zA (show 0<=hh by omega);have hb:=br_ (P:=P) (w:=w) (lo:=lo') (hi:=hi') (l:=l) (h:=m) (len:=s.length) (cap:=s.length) (b1.imp (λx=>⟨x.1,by omega⟩) id) (b2.imp (λx=>⟨x.1,by omega⟩) id) (by omega) (by omega) (zN _) false;refine⟨.string ((⟨s.toArray⟩:ByteArray).extract l m),?_,?_⟩
    .have hsz:(⟨s.toArray⟩:ByteArray).size=s.length:=by simp [ByteArray.size]
     simp only[Instr.sliceAt,Sem.run_bind,run_underlying ht,Result.andThen_ok,Instr.slice,vV,zF,yI,hsz,hb,Sem.run_pure]
    .have e:((⟨s.toArray⟩:ByteArray).extract l m)=⟨((s.drop l).take (m - l)).toArray⟩:=by
      apply ByteArray.ext;simp [ByteArray.data_extract,List.extract_toArray,List.extract_eq_take_drop]
     rw[e];simpa using Rd.str (w:=w) (F:=F) nm ((s.drop l).take (m - l))
   .cases h
  .cases h
 case seq sz es=>
  split at h
  rotate_left
  .cases h
  rename_i hz;obtain⟨rfl,hz0'⟩:=hz;split at h
  .rename_i k l k' hh e1 e2;split at h
   .rename_i hc;obtain⟨h0,h1,h2⟩:=hc;simp only[zZ] at h;subst h;have b1:=bo_ hlo e1;have b2:=bo_ hhi e2;obtain⟨l,rfl⟩:=zA h0;obtain⟨m,rfl⟩:=zA (show 0<=hh by omega);simp only[zP];cases hx with
    | seq0 _ _ A cap=>
     have hl0:l=0:=by simp at h2;omega
     have hm0:m=0:=by simp at h2;omega
     subst hl0;subst hm0;have hb:=br_ (P:=P) (w:=w) (lo:=lo') (hi:=hi') (l:=0) (h:=0) (len:=0) (cap:=cap) (b1.imp (λx=>⟨x.1,rfl⟩) id) (b2.imp (λx=>⟨x.1,rfl⟩) id) (by omega) (by omega) (wC _) true;rcases ht with ⟨hz0,ht⟩ | ⟨e,ht,hs,_⟩
     .omega
     refine⟨.slice (if cap=0 then A else A.map (·.add (0*z))) 0 (cap - 0),?_,.seq0 _ _ _ _⟩;simp only[Instr.sliceAt,Sem.run_bind,run_underlying ht,Result.andThen_ok,Instr.slice,hb,sr_ hs,Sem.run_pure]
    | seq _ _ _ g o cap us hz hF hcap hm hsz hw h1' hr=>
     have hb:=br_ (P:=P) (w:=w) (lo:=lo') (hi:=hi') (l:=l) (h:=m) (len:=es.length) (cap:=cap) (b1.imp (λx=>⟨x.1,by omega⟩) id) (b2.imp (λx=>⟨x.1,by omega⟩) id) (by omega) (by omega) hcap true;have hlen:((es.drop l).take (m - l)).length=m - l:=by simp;omega
     rcases ht with ⟨hz0,ht⟩ | ⟨e,ht,hs,_⟩
     .omega
     refine⟨.slice (if cap=l then some ⟨g,o,none⟩ else some ⟨g,o+l*z,none⟩) (m - l) (cap - l),?_,?_⟩
     .simp only[Instr.sliceAt,Sem.run_bind,run_underlying ht,Result.andThen_ok,Instr.slice,hb,sr_ hs,Sem.run_pure,yF,aa13]
     .by_cases hml:m - l=0
      .rw[hml];simp only[wY];exact .seq0 _ _ _ _
      .rw[zK (by omega)]
       have:=Rd.seq (w:=w) (F:=F) nm z ((es.drop l).take (m - l)) g (o+l*z) (cap - l) (λp=>us (l*z+p)) hz hF (by rw[hlen];omega) (by omega) (λe he=>hsz e (vJ (wG he)))
        (λp hp=>by rw[hlen] at hp;rw[vK];refine hw _ ?_;have:(l+(m - l))*z<=es.length*z:=xZ _ (by omega);rw[xM] at this;omega)
        (λp hp=>by rw[hlen] at hp;refine h1' _ ?_;have:(l+(m - l))*z<=es.length*z:=xZ _ (by omega);rw[xM] at this;omega)
        (λk e j c he hc=>by
         rw[yN] at he;split at he
         .rw[xX] at he;have:=hr (l+k) e j c he hc;rw[xM,vK] at this;exact this
         .cases he)
       rw[hlen] at this;exact this
   .cases h
  .cases h
end
