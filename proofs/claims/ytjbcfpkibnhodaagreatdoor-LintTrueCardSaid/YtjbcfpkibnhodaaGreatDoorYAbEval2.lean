/-
  More operations: made rows, walks over texts, arrays, bytes as a text. clear: what the model's run gives is what the abstract operation says. Each operation but a call: what the model's run gives is what the abstract operation says. Each operation but a call: what the model's run gives is what the abstract operation says. No claim is proved here.
-/
import Derived.Test.YtjbcfpkibnhodaaGreatDoorYAbStep6
import Derived.Laws.BytesString
import Derived.RangeFuncRecord
namespace Go.Proofs.YtjbcfpkibnhodaaGreatDoor.Ab
open Go Go.RowKit
section
variable {P:Program} {G:Nat→Option AV} {C:Ctx} {nm:N_} {F:Nat→Prop} {st st':St} {a:Act} {w:World} {o:Oper}
theorem ms13 (h:RelX G C nm F st a w) {t e sz bytes:Nat} {z:AV} {x y:Operand} {p q:Opd} (ho:o.op= .makeSlice t x y)
  (hsl:s25 P t e=true) (hs:szIs P e sz=true) (h0:0<sz) (hby:b12 P e bytes=true) (hb0:0<bytes) (hz:z_ P e z=true) (hf:fits z sz=true) (hx:c_ x p=true) (hy:c_ y q=true)
  (he:amks st o.dst e sz bytes z (st.ev G p) (st.ev G q)=some st'):S_ P G C o a w st':=by
 obtain⟨v,hrun,hrep,i,hi,hzv⟩:=zs_ hz
 have hxr:=h.opd hx
 have hyr:=h.opd hy
 generalize st.ev G p=pv at*
 generalize st.ev G q=qv at*
 unfold amks at he
 split at he
 ·rename_i d k a1 k' b1 hd
  split at he
  ·rename_i hc
   obtain⟨c0,c1,c2⟩:=hc
   generalize hex:a.eval x=xv at hxr
   generalize hey:a.eval y=yv at hyr
   cases hxr
   cases hyr
   have hisz:=ss13 hs hi
   have hiby:=bs_ hby hi
   have hb1:b1≤b1*bytes:=by
    have:b1*1≤b1*(bytes:Int):=Int.mul_le_mul_of_nonneg_left (by omega) (by omega)
    omega
   have hr:=run_make (P:=P) w t e i v (ss_ hsl) hi hzv k k' a1 b1 c0 c1 (by rw[hiby,Int.mul_comm];omega) (by omega)
   rw[hisz] at hr
   obtain⟨hzs,hzc⟩:=ck_ (w:=w) (F:=F) (nm:=n10) (rr_ hrep) hf
   obtain⟨_,hzl,_⟩:=fs_ hf
   refine ns18 (cs:=madeCells v.cells (b1.toNat*sz)) (v:=.slice (some ⟨w.heap.size,0,none⟩) a1.toNat b1.toNat) (cap:=b1.toNat) h hd h0 (by simp [madeCells]) (by have e:maxLen=9223372036854775807:=rfl;rw[e];omega) (by simp only[List.length_replicate];omega) (fun x hx=>by rw[List.eq_of_mem_replicate hx];exact hzl) (fun k x j c hk hj=>?_) ?_ ?_ he
   ·have hkn:k<a1.toNat:=by have:=(List.getElem?_eq_some_iff.1 hk).1;simpa using this
    have hez:x=z:=List.eq_of_mem_replicate (List.mem_of_getElem? hk)
    subst hez
    have hjs:j<sz:=by rw[←hzl];exact (List.getElem?_eq_some_iff.1 hj).1
    obtain⟨u,hu,hu1,hrd⟩:=hzc j c hj
    have hlt:k*sz+j<b1.toNat*sz:=by
     have:(k+1)*sz≤b1.toNat*sz:=Nat.mul_le_mul_right _ (by omega)
     rw[Nat.add_mul] at this
     omega
    refine⟨u,?_,hu1,fun m=>by simpa using hrd⟩
    have hmod:(k*sz+j) % sz=j:=by rw[Nat.add_comm,Nat.add_mul_mod_self_right,Nat.mod_eq_of_lt hjs]
    simp only[madeCells,Array.getElem?_map,Array.getElem?_range,hlt,if_true,Option.map_some,hzs,hmod]
    rw[getElem!_pos v.cells j (by rw[hzs];exact hjs)]
    rw[Array.getElem?_eq_getElem (by rw[hzs];exact hjs)] at hu
    exact hu
   ·have:=Rd.arr (w:=w.alloc (.cells (madeCells v.cells (b1.toNat*sz)) e)) (F:=F) (upd nm d (some ⟨w.heap.size,sz,b1.toNat,e⟩)) d 0 a1.toNat ⟨w.heap.size,sz,b1.toNat,e⟩ (if_pos rfl) (by simp only;omega) (.inr rfl)
    simpa using this
   ·simp only[execOp,ho,hex,hey,Sem.run_bind,hr,Result.andThen_ok,Sem.run_pure]
  ·cases he
 ·cases he
theorem as51 {mn:Bool} {x y c:AV} {u v:Value} (hx:Rd w F nm x u) (hy:Rd w F nm y v) (h:amx mn x y=some c) (tys:Array TypeId) (ty:TypeId):
  ∃r,((if mn then Builtin.min_ tys ty #[u,v] else Builtin.max_ tys ty #[u,v]):Sem Value).run P w= .ok r w∧Rd w F nm c r:=by
 unfold amx at h
 split at h
 ·rename_i k a1 k' b1
  split at h
  ·rename_i hk
   subst hk
   simp only[Option.some.injEq] at h
   subst h
   cases hx;cases hy
   cases mn
   ·exact⟨_,by simp only[Bool.false_eq_true,if_false,Builtin.max_,List.foldlM_cons,List.foldlM_nil,Builtin.max2,Sem.run_bind,Sem.run_pure,Result.andThen_ok],.int _ _ _⟩
   ·exact⟨_,by simp only[if_true,Builtin.min_,List.foldlM_cons,List.foldlM_nil,Builtin.min2,Sem.run_bind,Sem.run_pure,Result.andThen_ok],.int _ _ _⟩
  ·cases h
 ·cases h
theorem as29 {n:Nat} {x c:AV} {u:Value} (hx:Rd w F nm x u) (h:a36 n x=some c) {t e:Nat} (ht:P.underlying t=some (.array n e)) (hs:szIs P e 1=true) (hn:n≤1048576):
  ∃r,(Instr.sliceAt t u none none none).run P w= .ok r w∧Rd w F nm c r:=by
 unfold a36 at h
 split at h
 ·rename_i cs
  split at h
  ·rename_i hc
   obtain⟨rfl,hc1⟩:=hc
   simp only[Option.some.injEq] at h
   subst h
   cases hx with
   | eptr _ _ _ g o us hF hw h1 hr=>
    simp only[AV.cells] at hw h1 hr
    refine⟨.slice (some ⟨g,o,none⟩) cs.length cs.length,?_,?_⟩
    ·simp only[Instr.sliceAt,Sem.run_bind,run_underlying ht,Result.andThen_ok,Instr.sureAddr,Sem.run_pure,Instr.sliceBounds,sr_ hs,Nat.add_zero]
     by_cases hz:cs.length=0
     ·simp [hz]
     ·rw[if_neg (by omega)]
      simp [Addr.add]
    ·have hone:∀x∈cs,x.cells=[x]:=fun x hx=>by
      have:=List.all_eq_true.1 hc1 x hx
      cases x <;> first | rfl | (simp [c24] at this)
     have key:=Rd.seq (w:=w) (F:=F) nm 1 cs g o cs.length us (by decide) hF (Nat.le_refl _) (by have e:maxLen=9223372036854775807:=rfl;rw[e];omega) (fun x hx=>by rw[hone x hx];rfl) (fun p hp=>hw p (by omega)) (fun p hp=>h1 p (by omega))
      (fun k x j c hk hj=>by
       rw[hone x (List.mem_of_getElem? hk)] at hj
       match j,hj with
       | 0,hj=>
        simp at hj
        subst hj
        have:=hr k x hk
        simpa using this
       | j+1,hj=>simp at hj)
     exact key
  ·cases h
 ·cases h
theorem as19 {sz n:Nat} {x i c:AV} {u v:Value} (hx:Rd w F nm x u) (hi:Rd w F nm i v) (h:a28 sz n x i=some c) {t e:Nat} (ht:P.underlying t=some (.array n e)) (hs:szIs P e sz=true):
  ∃r,(Instr.indexAt t u v).run P w= .ok r w∧Rd w F nm c r:=by
 unfold a28 at h
 split at h
 ·rename_i j k off kk jj
  split at h
  ·rename_i hj
   simp only[Option.some.injEq] at h
   subst h
   cases hi
   cases hx with
   | ref _ _ _ _ m hm=>
    refine⟨_,?_,Rd.ref (w:=w) (F:=F) nm j k (off+jj.toNat*sz) m hm⟩
    simp only[Instr.indexAt,asIntOf,Sem.run_bind,Sem.run_pure,Result.andThen_ok,run_underlying ht,Instr.sureAddr]
    rw[if_pos hj]
    simp only[Sem.run_bind,sr_ hs,Result.andThen_ok,Sem.run_pure,add_at,Nat.add_assoc]
  ·cases h
 ·rename_i e' off kk jj
  split at h
  ·rename_i hj
   simp only[Option.some.injEq] at h
   subst h
   cases hi
   cases hx with
   | eptr _ _ _ g o us hF hw h1 hr=>
    refine⟨_,?_,Rd.eptr (w:=w) (F:=F) nm e' (off+jj.toNat*sz) g o us hF hw h1 hr⟩
    simp only[Instr.indexAt,asIntOf,Sem.run_bind,Sem.run_pure,Result.andThen_ok,run_underlying ht,Instr.sureAddr]
    rw[if_pos hj]
    simp only[Sem.run_bind,sr_ hs,Result.andThen_ok,Sem.run_pure,add_at,Nat.add_assoc]
  ·cases h
 ·cases h
theorem as31 {sz n:Nat} {x i c:AV} {u v:Value} (hx:Rd w F nm x u) (hi:Rd w F nm i v) (h:a42 sz n x i=some c) {t e:Nat} (ht:P.underlying t=some (.array n e)) (hs:szIs P e sz=true) (hl:i10 P e=true):
  ∃r,(Instr.index t u v).run P w= .ok r w∧Rd w F nm c r:=by
 unfold a42 at h
 split at h
 ·rename_i cs kk j
  split at h
  ·rename_i hj
   obtain⟨h0,h1,rfl⟩:=hj
   cases hi
   cases hx with
   | agg _ _ us hlen hr=>
    obtain⟨r,hr1,hr2⟩:=pl13 (P:=P) (w:=w) (F:=F) (nm:=nm) hlen hr h hl
    refine⟨r,?_,hr2⟩
    simp only[Instr.index,asIntOf,Sem.run_bind,Sem.run_pure,Result.andThen_ok,run_underlying ht]
    rw[if_pos ⟨h0,h1⟩]
    simp only[Sem.run_bind,sr_ hs,Result.andThen_ok,Nat.mul_one]
    exact hr1
  ·cases h
 ·cases h
theorem rs18 (h:RelX G C nm F st a w) {t:Nat} {x:Operand} {p:Opd} (ho:o.op= .range t x) (ht:P.underlying t=some .string) (hx:c_ x p=true) (he:arng st o.dst (st.ev G p)=some st'):S_ P G C o a w st':=by
 have hxr:=h.opd hx
 generalize st.ev G p=pv at*
 unfold arng at he
 split at he
 ·rename_i d s hd
  generalize hex:a.eval x=xv at hxr
  cases hxr
  refine .inl ⟨.pointer (some ⟨w.heap.size,0,none⟩),w.alloc (.stringIter ⟨s.toArray⟩ 0),?_,upd nm d (some ⟨w.heap.size,0,0,0⟩),F,?_⟩
  ·simp only[execOp,ho,hex,Instr.range,Sem.run_bind,run_underlying ht,Result.andThen_ok,Sem.run_pure,run_newObj_alloc]
  ·rw[hd]
   refine h.new (m:=some ⟨w.heap.size,0,0,0⟩) he (h.keep.alloc _) (fun k hk=>Below.heap_alloc w _ k hk) (by simp) (fun m' hm=>by cases hm;exact Nat.le_refl _) ?_ ?_
   ·have:=Rd.ref (w:=w.alloc (.stringIter ⟨s.toArray⟩ 0)) (F:=F) (upd nm d (some ⟨w.heap.size,0,0,0⟩)) d 0 0 ⟨w.heap.size,0,0,0⟩ (if_pos rfl)
    simpa using this
   ·exact .inr ⟨⟨w.heap.size,0,0,0⟩,if_pos rfl,.inr ⟨rfl,rfl,rfl,.inl ⟨rfl,s,0,rfl,heap_alloc_new w _⟩⟩⟩
 ·cases he
theorem rgi_ {r:Nat} {s:ByteArray} {p:Nat} (h:w.heap[r]? =some (.stringIter s p)):(getObj r).run P w= .ok (.stringIter s p) w:=by
 simp [getObj,Sem.run,h]
theorem rsi_ {r:Nat} {s:ByteArray} {p:Nat} (o':Obj) (h:w.heap[r]? =some (.stringIter s p)):(setObj r o').run P w= .ok () (w.putObj r o'):=by
 simp [setObj,Sem.run,h,World.putObj]
theorem ns21 (h:RelX G C nm F st a w) {x:Operand} {p:Opd} (ho:o.op= .next x true) (hx:c_ x p=true) (he:anxt st o.dst (st.ev G p)=some st'):S_ P G C o a w st':=by
 have hxr:=h.opd hx
 generalize st.ev G p=pv at*
 unfold anxt at he
 split at he
 ·rename_i d i hd
  split at he
  ·rename_i b hb
   split at he
   ·rename_i s pos hes
    split at he
    ·rename_i hc
     obtain⟨c1,c2,c3,c4,c5⟩:=hc
     generalize hex:a.eval x=xv at hxr
     cases hxr with
     | ref _ _ _ _ m hm=>
      rcases h.box i b hb with ⟨hn,_⟩ | ⟨m',hm',hl⟩
      ·rw[hm] at hn;cases hn
      rw[hm] at hm';cases hm'
      rcases hl with hl | ⟨_,_,k3,⟨_,s',p',k4,k5⟩ | ⟨k4,_⟩⟩
      ·have:=hl.2.2.1;omega
      ·rw[hes] at k4
       simp only[List.cons.injEq,AV.str.injEq,AV.int.injEq,true_and,and_true] at k4
       obtain⟨rfl,rfl⟩:=k4
       have e0:0*m.sz+0=0:=by omega
       split at he
       ·rename_i hlt
        simp only[Option.some.injEq] at he
        subst he
        have hlt':p'<s.length:=by simpa using hlt
        refine .inl ⟨.tuple #[.bool true,.int .i64 p',.int .i32 ((adec s p').1:Nat)],w.putObj m.g (.stringIter ⟨s.toArray⟩ (p'+(adec s p').2)),?_,nm,F,?_⟩
        ·have hsz:p'<(⟨s.toArray⟩:ByteArray).size:=by simpa [ByteArray.size] using hlt'
         simp only[execOp,ho,hex,e0,Instr.next,Sem.run_bind,rgi_ k5,Result.andThen_ok,hsz,if_true,rsi_ _ k5,Sem.run_pure,adec,goInt]
        ·rw[hd]
         have h1:RelX G C nm F {st with heap:=hset st.heap i {b with es:=[.str s,.int .i64 ((p'+(adec s p').2:Nat):Int)]}} a (w.putObj m.g (.stringIter ⟨s.toArray⟩ (p'+(adec s p').2))):=by
          refine h.setBox hb hm rfl rfl rfl (by simp [World.putObj]) rfl (fun k hk=>World.putObj_heap_other hk) (.inr ⟨c2,c1,k3,.inl ⟨c3,s,_,rfl,World.putObj_heap_same ?_⟩⟩)
          exact (Array.getElem?_eq_some_iff.1 k5).1
         have h2:=h1.put (d:=some d) (c:=.tup [.bool true,.int .i64 p',.int .i32 ((adec s p').1:Nat)]) (v:=.tuple #[.bool true,.int .i64 p',.int .i32 ((adec s p').1:Nat)]) (Rd.tup nm _ [.bool true,.int .i64 p',.int .i32 ((adec s p').1:Nat)] rfl (fun j c u hc hu=>by
          match j,hc,hu with
          | 0,hc,hu=>simp at hc hu;subst hc;subst hu;exact .bool _ _
          | 1,hc,hu=>simp at hc hu;subst hc;subst hu;exact .int _ _ _
          | 2,hc,hu=>simp at hc hu;subst hc;subst hu;exact .int _ _ _
          | j+3,hc,hu=>simp at hc)) (st':={st with env:=(d,.tup [.bool true,.int .i64 p',.int .i32 ((adec s p').1:Nat)])::st.env,heap:=hset st.heap i {b with es:=[.str s,.int .i64 ((p'+(adec s p').2:Nat):Int)]}}) (by simp only[St.put];rw[if_pos c5])
         simpa using h2
       ·rename_i hge
        simp only[Option.some.injEq] at he
        subst he
        have hge':¬p'<s.length:=by simpa using hge
        refine .inl ⟨.tuple #[.bool false],w,?_,nm,F,?_⟩
        ·have hsz:¬p'<(⟨s.toArray⟩:ByteArray).size:=by simpa [ByteArray.size] using hge'
         simp only[execOp,ho,hex,e0,Instr.next,Sem.run_bind,rgi_ k5,Result.andThen_ok,hsz,if_false,Sem.run_pure]
        ·rw[hd]
         exact h.put (d:=some d) (c:=.tup [.bool false]) (Rd.tup nm _ [.bool false] rfl (fun j c u hc hu=>by
          match j,hc,hu with
          | 0,hc,hu=>simp at hc hu;subst hc;subst hu;exact .bool _ _
          | j+1,hc,hu=>simp at hc)) (by simp only[St.put];rw[if_pos c5])
      ·exact absurd c3 k4
    ·cases he
   ·cases he
  ·cases he
 ·cases he
theorem ar10:∀{es:List AV} {bs:List UInt8} {us:List Value},a11 es=some bs→es.length=us.length→(∀(j:Nat) c u,es[j]? =some c→us[j]? =some u→Rd w F nm c u)→∃ns:List Int,us=ns.map (Value.int .u8)∧ns.map (fun n=>UInt8.ofNat n.toNat)=bs
 | [],bs,us,h,hl,_ =>by
  simp only[a11,Option.some.injEq] at h
  subst h
  exact⟨[],List.eq_nil_of_length_eq_zero hl.symm,rfl⟩
 | e::es,bs,[],h,hl,_ =>by simp at hl
 | e::es,bs,u::us,h,hl,hr=>by
  unfold a11 at h
  split at h
  ·cases ‹e::es=[]›
  ·rename_i n r heq
   simp only[List.cons.injEq] at heq
   obtain⟨rfl,rfl⟩:=heq
   split at h
   ·rename_i bs' hbs
    simp only[Option.some.injEq] at h
    subst h
    have h0:=hr 0 _ u rfl rfl
    cases h0
    obtain⟨ns,e1,e2⟩:=ar10 hbs (us:=us) (by simpa using hl) (fun j c u hc hu=>hr (j+1) c u (by simpa using hc) (by simpa using hu))
    exact⟨n::ns,by simp [e1],by simp [e2]⟩
   ·cases h
  ·cases h
theorem fp_:∀(ns:List Int) (s:ByteArray),ns.foldl (fun r n=>r.push (UInt8.ofNat n.toNat)) s=⟨s.data++(ns.map fun n=>UInt8.ofNat n.toNat).toArray⟩
 | [],s=>by apply ByteArray.ext;simp
 | n::ns,s=>by
  simp only[List.foldl_cons]
  rw[fp_ ns]
  apply ByteArray.ext
  simp [ByteArray.push]
theorem br11 (A:Option Addr) (cap:Nat) {es:List AV} {bs:List UInt8} (hb:a11 es=some bs) {us:List Value} (hl:us.length=es.length) (hr:∀(j:Nat) c u,es[j]? =some c→us[j]? =some u→Rd w F nm c u)
  (hA:A=none→es=[]) (hc:∀a,A=some a→∀j u,us[j]? =some u→w.cell? (a.add j)=some u):(Conv.bytesToString (.slice A es.length cap)).run P w= .ok (.string ⟨bs.toArray⟩) w:=by
 obtain⟨ns,e1,e2⟩:=ar10 hb hl.symm hr
 cases A with
 | none=>
  have:=hA rfl
  subst this
  simp only[a11,Option.some.injEq] at hb
  subst hb
  rfl
 | some ad=>
  have hload:=run_loadCells (P:=P) w ad es.length (fun j=>us.getD j Go.undef) (fun j hj=>by
   have hj':j<us.length:=by omega
   have:=hc ad rfl j _ (List.getElem?_eq_getElem hj')
   rw[this]
   simp [List.getD_eq_getElem?_getD,hj'])
  have e3:((List.range es.length).map fun j=>us.getD j Go.undef)=ns.map (Value.int .u8):=by
   rw[←e1,←hl]
   apply List.ext_getElem?
   intro j
   by_cases hj:j<us.length
   ·simp [hj]
   ·simp [hj]
  rw[e3] at hload
  rw[run_bytesToString w ad es.length cap ns hload,fp_,e2]
  simp
theorem as47 (h:RelX G C nm F st a w) {x c:AV} {u:Value} (hx:Rd w F nm x u) (hb:ab2s st.heap x=some c):∃r,(Conv.bytesToString u).run P w= .ok r w∧Rd w F nm c r:=by
 unfold ab2s at hb
 split at hb
 ·simp only[Option.some.injEq] at hb
  subst hb
  cases hx
  exact⟨_,rfl,.str _ _⟩
 ·rename_i es
  obtain⟨bs,hbs,rfl⟩:=Option.map_eq_some_iff.1 hb
  cases hx with
  | seq0 _ _ A cap=>
   simp only[a11,Option.some.injEq] at hbs
   subst hbs
   cases A with
   | none=>exact⟨_,rfl,.str _ _⟩
   | some ad=>exact⟨_,rfl,.str _ _⟩
  | seq _ _ _ g o cap us h0 hF hc hm hs hw h1 hr=>
   refine⟨_,br11 (P:=P) (w:=w) (F:=F) (nm:=nm) (some ⟨g,o,none⟩) cap hbs (us:=(List.range es.length).map us) (by simp) (fun j c u hc hu=>?_) (by simp) (fun ad ha j u hu=>?_),.str _ _⟩
   ·have hj:j<es.length:=(List.getElem?_eq_some_iff.1 hc).1
    simp only[List.getElem?_map,List.getElem?_range hj,Option.map_some,Option.some.injEq] at hu
    subst hu
    have hcl:=hs c (List.mem_of_getElem? hc)
    have hcc:c.cells[0]? =some c:=by
     cases c <;> first | rfl | skip
     exfalso
     rename_i cs
     -- an aggregate is no byte
     obtain⟨ns,e1,e2⟩:∃n:Int,(AV.agg cs)= .int .u8 n:=by
      have:∀{es:List AV} {bs:List UInt8},a11 es=some bs→∀(j:Nat) c,es[j]? =some c→∃n:Int,c= .int .u8 n:=by
       intro es
       induction es with
       | nil=>intro bs _ j c hc;simp at hc
       | cons e es ih=>
        intro bs h j c hc
        unfold a11 at h
        split at h
        ·cases ‹e::es=[]›
        ·rename_i n r heq
         simp only[List.cons.injEq] at heq
         obtain⟨rfl,rfl⟩:=heq
         split at h
         ·rename_i bs' hbs
          cases j with
          | zero=>simp at hc;exact⟨n,hc.symm⟩
          | succ j=>simp at hc;exact ih hbs j c hc
         ·cases h
        ·cases h
      exact this hbs j _ hc
    have:=hr j c 0 c hc hcc
    simpa using this.any nm
   ·cases ha
    have hj:j<es.length:=by have:=(List.getElem?_eq_some_iff.1 hu).1;simpa using this
    simp only[List.getElem?_map,List.getElem?_range hj,Option.map_some,Option.some.injEq] at hu
    subst hu
    rw[add_at]
    exact hw j (by omega)
 ·rename_i i k n
  split at hb
  ·rename_i b hbb
   split at hb
   ·rename_i hcond
    obtain⟨hrow,hsz,hkn⟩:=hcond
    obtain⟨bs,hbs,rfl⟩:=Option.map_eq_some_iff.1 hb
    have hlen:((b.es.drop k).take n).length=n:=by simp;omega
    have empty:n=0→bs=[]:=fun e=>by
     subst e
     simp only[List.take_zero,a11,Option.some.injEq] at hbs
     exact hbs.symm
    cases hx with
    | arr _ _ _ _ m hm hle hp=>
     rcases h.box i b hbb with ⟨hno,_⟩ | ⟨m1,hm1,hl⟩
     ·rw[hm] at hno;cases hno
     rw[hm] at hm1;cases hm1
     have hlc:=hl.c (by omega)
     obtain⟨cs,h4,h5,hf⟩:=hlc.flat hrow hkn
     have hms:m.sz=1:=by rw[hlc.1,hsz]
     rw[hsz,hms] at hf
     simp only[Nat.mul_one] at hf
     have key:=br11 (P:=P) (w:=w) (F:=F) (nm:=n10) (some ⟨m.g,k*m.sz,none⟩) (m.cap - k) hbs (us:=(cs.toList.drop k).take n) (by have:=hf.1;rw[this];omega) (fun j c u hc hu=>by
       have hcl:=hf.2.1 c (List.mem_of_getElem? hc)
       cases hcc:c.cells with
       | nil=>rw[hcc] at hcl;simp at hcl
       | cons c0 cr=>
        obtain⟨u',hu',hr'⟩:=hf.2.2.2 j c 0 c0 hc (by rw[hcc];rfl)
        simp only[Nat.mul_one,Nat.add_zero] at hu'
        rw[hu] at hu'
        cases hu'
        have:c0=c:=by
         cases c <;> simp only[AV.cells,List.cons.injEq] at hcc <;> first | exact hcc.1.symm | skip
         exfalso
         -- an aggregate is no byte
         have:∀{es:List AV} {bs:List UInt8},a11 es=some bs→∀(j:Nat) c,es[j]? =some c→∃n:Int,c= .int .u8 n:=by
          intro es
          induction es with
          | nil=>intro bs _ j c hc;simp at hc
          | cons e es ih=>
           intro bs h j c hc
           unfold a11 at h
           split at h
           ·cases ‹e::es=[]›
           ·rename_i n r heq
            simp only[List.cons.injEq] at heq
            obtain⟨rfl,rfl⟩:=heq
            split at h
            ·rename_i bs' hbs
             cases j with
             | zero=>simp at hc;exact⟨n,hc.symm⟩
             | succ j=>simp at hc;exact ih hbs j c hc
            ·cases h
           ·cases h
         obtain⟨_,e⟩:=this hbs j _ hc
         cases e
        subst this
        exact hr') (by simp) (fun ad ha j u hu=>by
       cases ha
       have hj:j<n:=by have:=(List.getElem?_eq_some_iff.1 hu).1;simp at this;omega
       rw[List.getElem?_take,if_pos hj,List.getElem?_drop] at hu
       rw[add_at,hms]
       simp only[World.cell?,h4,Option.isSome_none,Bool.false_eq_true,if_false,Nat.mul_one]
       simpa using hu)
     rw[hlen] at key
     exact⟨_,key,.str _ _⟩
    | arrE _ _ _ A cap hk=>
     rw[empty rfl]
     cases A with
     | none=>exact⟨_,rfl,.str _ _⟩
     | some ad=>exact⟨_,rfl,.str _ _⟩
    | arrN=>
     rw[empty rfl]
     exact⟨_,rfl,.str _ _⟩
   ·cases hb
  ·cases hb
 ·cases hb
end
end Go.Proofs.YtjbcfpkibnhodaaGreatDoor.Ab
namespace Go.Proofs.YtjbcfpkibnhodaaGreatDoor.Ab
open Go Go.RowKit
section
variable {P:Program} {G:Nat→Option AV} {C:Ctx} {nm:N_} {F:Nat→Prop} {st st':St} {a:Act} {w:World} {o:Oper}
theorem zr10 {z:AV} {zv:Value} {n sz:Nat} (hzr:Rd w F n10 z zv) (hfz:fits z sz=true):RowR w F sz (List.replicate n z) (Builtin.zeroCells zv.cells n):=by
 obtain⟨hzs,hzc⟩:=ck_ hzr hfz
 obtain⟨_,hzl,_⟩:=fs_ hfz
 refine⟨by simp [Builtin.zeroCells,hzs],fun e he=>by rw[List.eq_of_mem_replicate he];exact hzl,fun k e j c hk hj=>?_⟩
 have hkn:k<n:=by have:=(List.getElem?_eq_some_iff.1 hk).1;simpa using this
 have hez:e=z:=List.eq_of_mem_replicate (List.mem_of_getElem? hk)
 subst hez
 have hjs:j<sz:=by rw[←hzl];exact (List.getElem?_eq_some_iff.1 hj).1
 obtain⟨u,hu,hu1,hr⟩:=hzc j c hj
 have hlt:k*sz+j<n*sz:=by
  have:(k+1)*sz≤n*sz:=Nat.mul_le_mul_right _ hkn
  rw[Nat.add_mul] at this
  omega
 refine⟨u,?_,hu1,hr⟩
 have hmod:(k*sz+j) % sz=j:=by rw[Nat.add_comm,Nat.add_mul_mod_self_right,Nat.mod_eq_of_lt hjs]
 simp only[Builtin.zeroCells,Array.getElem?_map,Array.getElem?_range,hzs,hlt,if_true,Option.map_some,hmod]
 rw[getElem!_pos zv.cells j (by rw[hzs];exact hjs)]
 rw[Array.getElem?_eq_getElem (by rw[hzs];exact hjs)] at hu
 exact hu
theorem cs24 (h:RelX G C nm F st a w) {args:Array Operand} {argTypes:Array Nat} {sz:Nat} {z:AV} {p:Opd} (ho:o.op= .call {callee:=.builtin .clear,args,argTypes})
  (hc:c10 P (.call {callee:=.builtin .clear,args,argTypes}) (.clr sz z p)=true) (he:aclr st o.dst sz z (st.ev G p)=some st'):S_ P G C o a w st':=by
 simp only[c10] at hc
 split at hc
 ·rename_i x t hargs htys
  simp only[Bool.and_eq_true] at hc
  obtain⟨hx,hc⟩:=hc
  split at hc
  ·rename_i e ht
   simp only[Bool.and_eq_true,decide_eq_true_eq] at hc
   obtain⟨⟨⟨hsz,h0⟩,hz⟩,hfz⟩:=hc
   obtain⟨zv,hzrun,hzrep,_⟩:=zs_ hz
   have hargs':args=#[x]:=by rw[←Array.toArray_toList (xs:=args),hargs]
   have htys':argTypes=#[t]:=by rw[←Array.toArray_toList (xs:=argTypes),htys]
   have hp:=h.opd hx
   have run:∀v' w',(Builtin.clear_ #[t] o.type #[a.eval x]).run P w= .ok v' w'→(execOp a.eval o).run P w= .ok (.value v') w':=fun v' w' hr=>by
    simp only[execOp,ho,hargs',htys',resolve,invoke,builtin,Sem.run_bind,Sem.run_pure,Result.andThen_ok,List.map_toArray,List.map_cons,List.map_nil,hr]
   generalize st.ev G p=pv at*
   generalize hev:a.eval x=xv at*
   cases pv <;> simp only[aclr,reduceCtorEq] at he
   case arr i k n=>
    split at he
    ·rename_i b hb
     split at he
     ·rename_i hcond
      obtain⟨hn,hrow,hb0,hbsz,hkn⟩:=hcond
      cases hp with
      | arr _ _ _ _ m hi hmn hpos=>
       rcases h.box i b hb with ⟨hnn,_⟩ | ⟨m',hm',hl⟩
       ·rw[hi] at hnn;cases hnn
       rw[hi] at hm';cases hm'
       obtain⟨h1,h2,h3,cs,h4,h5,h6,h7,h8,h9⟩:=hl.c hb0
       have hmsz:m.sz=sz:=h1.trans hbsz
       have hFw:∀(l:List Value) bl,F bl→(w.setRow m.g l.toArray).heap[bl]? =w.heap[bl]? :=
        fun l bl hbl=>setRow_other w m.g bl _ (fun e=>h.fr i b m hb hi (e ▸ hbl))
       have hZ:=zr10 (w:=w) (F:=F) (n:=n) (rr_ hzrep) hfz
       obtain⟨hzs,hzc⟩:=ck_ (w:=w) (F:=F) (nm:=n10) (rr_ hzrep) hfz
       have hlen:(Builtin.zeroCells zv.cells n).toList.length=n*sz:=by simpa using hZ.1
       have hroom:k*m.sz+n*sz≤cs.size:=by
        rw[h5,hmsz]
        have:(k+n)*sz≤m.cap*sz:=Nat.mul_le_mul_right _ (by omega)
        rw[Nat.add_mul] at this
        omega
       have hone:∀u∈(Builtin.zeroCells zv.cells n).toList,u.oneCell'=true:=fun u hu=>by
        obtain⟨q,hq⟩:=List.getElem?_of_mem hu
        have hqn:q<n*sz:=by rw[←hlen];exact (List.getElem?_eq_some_iff.1 hq).1
        obtain⟨_,hzl,_⟩:=fs_ hfz
        have hdiv:q / sz<n:=(Nat.div_lt_iff_lt_mul h0).2 hqn
        have hmod:q % sz<sz:=Nat.mod_lt _ h0
        obtain⟨u',hu',hu1,_⟩:=hZ.2.2 (q / sz) z (q % sz) _ (by rw[List.getElem?_replicate,if_pos hdiv]) (List.getElem?_eq_getElem (by rw[hzl];exact hmod))
        rw[Nat.div_add_mod' q sz] at hu'
        have:(Builtin.zeroCells zv.cells n).toList[q]? =some u':=by simpa using hu'
        rw[this] at hq;cases hq
        exact hu1
       have hst:=run_storeCells_at P m.g (k*m.sz) m.ty (Builtin.zeroCells zv.cells n).toList 0 cs w h4 (by simp only[Nat.add_zero,hlen];exact hroom) hone
       simp only[Nat.add_zero,hlen] at hst
       obtain⟨n',rfl⟩:∃n',n=n'+1:=⟨n - 1,by omega⟩
       have hrun:(Builtin.clear_ #[t] o.type #[.slice (some ⟨m.g,k*m.sz,none⟩) (n'+1) (m.cap - k)]).run P w= .ok (.tuple #[]) (w.setRow m.g (cs.toList.take (k*m.sz)++(Builtin.zeroCells zv.cells (n'+1)).toList++cs.toList.drop (k*m.sz+(n'+1)*sz)).toArray):=by
        simp [Builtin.clear_,run_underlying ht,hzrun,hst]
       refine .inl ⟨_,_,run _ _ hrun,nm,F,?_⟩
       refine RelX.put (st:={st with heap:=hset st.heap i {b with es:=b.es.take k++List.replicate (n'+1) z++b.es.drop (k+(n'+1))}}) ?_ (.tup _ [] [] rfl fun j c u hj=>by simp at hj) he
       refine h.setBox hb hi rfl rfl rfl (by simp [World.setRow]) rfl (fun j hj=>setRow_other w m.g j _ hj) ?_
       refine .inl ⟨h1,h2,h3,_,setRow_heap w m.g cs _ m.ty (0,0) h4,?_,?_,h7,fun x hx=>?_,fun k' x j c hx hc=>?_⟩
       ·simp only[List.size_toArray,List.length_append,List.length_take,List.length_drop,Array.length_toList,hlen]
        omega
       ·simp only[List.length_append,List.length_take,List.length_drop,List.length_replicate]
        omega
       ·simp only[List.mem_append] at hx
        rcases hx with (hx | hx) | hx
        ·exact h8 x (List.mem_of_mem_take hx)
        ·rw[List.eq_of_mem_replicate hx,hbsz]
         exact (fs_ hfz).2.1
        ·exact h8 x (List.mem_of_mem_drop hx)
       ·have hat:=sa12 cs (Builtin.zeroCells zv.cells (n'+1)).toList (k*m.sz) (k'*m.sz+j) (by rw[hlen];exact hroom)
        rw[hlen] at hat
        simp only[hat]
        have hjlt:j<m.sz:=by
         have hx':x.cells.length=b.sz:=by
          have hm:=List.mem_of_getElem? hx
          simp only[List.mem_append] at hm
          rcases hm with (hm | hm) | hm
          ·exact h8 x (List.mem_of_mem_take hm)
          ·rw[List.eq_of_mem_replicate hm,hbsz]
           exact (fs_ hfz).2.1
          ·exact h8 x (List.mem_of_mem_drop hm)
         rw[h1,←hx']
         exact (List.getElem?_eq_some_iff.1 hc).1
        have e1:(b.es.take k).length=k:=by rw[List.length_take];omega
        have e2:(List.replicate (n'+1) z).length=n'+1:=by simp
        rcases Nat.lt_or_ge k' k with hk | hk
        ·rw[List.append_assoc,List.getElem?_append_left (by omega),List.getElem?_take,if_pos hk] at hx
         have:(k'+1)*m.sz≤k*m.sz:=Nat.mul_le_mul_right _ hk
         rw[Nat.add_mul] at this
         rw[if_neg (by omega)]
         obtain⟨u,hu,hu1,hr⟩:=h9 k' x j c hx hc
         exact⟨u,hu,hu1,hr.mono (hFw _) fun _ h=>h⟩
        ·rcases Nat.lt_or_ge k' (k+(n'+1)) with hk2 | hk2
         ·rw[List.append_assoc,List.getElem?_append_right (by omega),List.getElem?_append_left (by omega),e1] at hx
          obtain⟨u,hu,hu1,hr⟩:=hZ.2.2 (k' - k) x j c hx hc
          have a1:(k' - k)*sz=k'*sz - k*sz:=Nat.sub_mul _ _ _
          have a2:k*sz≤k'*sz:=Nat.mul_le_mul_right _ hk
          have a3:(k'+1)*sz≤(k+(n'+1))*sz:=Nat.mul_le_mul_right _ hk2
          rw[Nat.add_mul,Nat.add_mul] at a3
          rw[hmsz] at hjlt ⊢
          rw[if_pos (by omega),show k'*sz+j - k*sz=(k' - k)*sz+j by omega]
          refine⟨u,by simpa using hu,hu1,?_⟩
          rw[if_pos hrow]
          exact hr.mono (hFw _) fun _ h=>h
         ·rw[List.getElem?_append_right (by simp only[List.length_append,e1,e2];omega),List.length_append,e1,e2,List.getElem?_drop,show k+(n'+1)+(k' - (k+(n'+1)))=k' by omega] at hx
          have:(k+(n'+1))*sz≤k'*sz:=Nat.mul_le_mul_right _ hk2
          rw[Nat.add_mul] at this
          rw[if_neg (by rw[hmsz];omega)]
          obtain⟨u,hu,hu1,hr⟩:=h9 k' x j c hx hc
          exact⟨u,hu,hu1,hr.mono (hFw _) fun _ h=>h⟩
      | arrE=>omega
      | arrN=>omega
     ·cases he
    ·cases he
  ·cases hc
 ·cases hc
end
end Go.Proofs.YtjbcfpkibnhodaaGreatDoor.Ab
namespace Go.Proofs.YtjbcfpkibnhodaaGreatDoor.Ab
open Go Go.RowKit
section
variable {P:Program} {G:Nat→Option AV} {C:Ctx} {nm:N_} {F:Nat→Prop} {st st':St} {a:Act} {w:World} {o:Oper}
theorem as12 {a b:Option Bool} {c:Bool} (h:andO a b=some c):∃x y,a=some x∧b=some y∧c=(x&&y):=by
 cases a with
 | none=>simp [andO] at h
 | some x=>
  cases b with
  | none=>simp [andO] at h
  | some y=>simp only[andO,Option.some.injEq] at h;exact⟨x,y,rfl,rfl,h.symm⟩
theorem aa14:∀(ks ks':List Nat) (cs ds:List AV) (β:Bool),aeqs (ks++ks') cs ds=some β→
  ∃β1 β2,aeqs ks (cs.take ks.length) (ds.take ks.length)=some β1∧aeqs ks' (cs.drop ks.length) (ds.drop ks.length)=some β2∧β=(β1&&β2)
 | [],ks',cs,ds,β,h=>⟨true,β,by simp [aeqs],by simpa using h,by simp⟩
 | k::ks,ks',[],_,β,h=>by simp [aeqs] at h
 | k::ks,ks',_ ::_,[],β,h=>by simp [aeqs] at h
 | k::ks,ks',c::cs,d::ds,β,h=>by
  simp only[List.cons_append,aeqs] at h
  obtain⟨x,y,h1,h2,rfl⟩:=as12 h
  obtain⟨β1,β2,e1,e2,rfl⟩:=aa14 ks ks' cs ds y h2
  exact⟨x&&β1,β2,by simp only[List.length_cons,List.take_succ_cons,aeqs,h1,e1,andO],by simpa using e2,by simp [Bool.and_assoc]⟩
theorem al11:∀(ks:List Nat) (cs ds:List AV) (β:Bool),aeqs ks cs ds=some β→cs.length=ks.length∧ds.length=ks.length
 | [],[],[],_,_ =>⟨rfl,rfl⟩
 | [],_ ::_,_,_,h=>by simp [aeqs] at h
 | [],[],_ ::_,_,h=>by simp [aeqs] at h
 | _ ::_,[],_,_,h=>by simp [aeqs] at h
 | _ ::_,_ ::_,[],_,h=>by simp [aeqs] at h
 | k::ks,c::cs,d::ds,β,h=>by
  simp only[aeqs] at h
  obtain⟨x,y,_,h2,_⟩:=as12 h
  have:=al11 ks cs ds y h2
  simp [this]
def a24 (P:Program) (t:Nat) (us:List Value):Value:=if i_ P t then .agg us.toArray else us.headD undef
theorem pa10 (w:World) {t n off:Nat} {us:List Value} (ht:i_ P t=true∨i10 P t=true) (hs:szIs P t n=true) (hl:off+n≤us.length) (h1:i10 P t=true→n=1):
  (part t us.toArray off).run P w= .ok (a24 P t ((us.drop off).take n)) w:=by
 rcases ht with ht | ht
 ·simp only[part,Sem.run_bind,ir10 ht,Result.andThen_ok,if_true,sr_ hs,Sem.run_pure,a24,ht]
  congr 2
  simp [List.extract_toArray,List.extract_eq_take_drop]
 ·have hn:=h1 ht
  subst hn
  have hlt:off<us.length:=by omega
  have hag:i_ P t=false:=by
   unfold i10 at ht
   unfold i_
   split at ht <;> simp_all
  simp only[part,Sem.run_bind,ir_ ht,Result.andThen_ok,Bool.false_eq_true,if_false,a24,hag]
  simp [List.head?_drop,hlt,List.headD_eq_head?_getD,List.head?_take]
theorem ls12 (w:World) {D t k:Nat} {c d:AV} {u v:Value} {β:Bool} (hc:Rd w F nm c u) (hd:Rd w F nm d v) (h:l10 k c d=some β)
  (ht:(k=0∧∃i,P.underlying t=some (.int i))∨(k=1∧P.underlying t=some .string)∨(k=2∧P.underlying t=some .bool)):(Op.equalIn (D+1) t u v).run P w= .ok β w:=by
 rcases ht with ⟨rfl,i,ht⟩ | ⟨rfl,ht⟩ | ⟨rfl,ht⟩
 ·cases c <;> cases d <;> simp only[l10,reduceCtorEq,Option.ite_none_right_eq_some,Option.some.injEq] at h
  obtain⟨rfl,rfl⟩:=h
  cases hc;cases hd
  exact run_equalIn_int w D t _ i _ _ ht
 ·cases c <;> cases d <;> simp only[l10,reduceCtorEq,Option.some.injEq] at h
  subst h
  cases hc;cases hd
  rw[run_equalIn_string w D t _ _ ht]
  simp
 ·cases c <;> cases d <;> simp only[l10,reduceCtorEq,Option.some.injEq] at h
  subst h
  cases hc;cases hd
  exact run_equalIn_bool' w D t _ _ ht
theorem ks11 (w:World):∀(d t:Nat) (ks:List Nat),k10 P d t=some ks→∀(cs ds:List AV) (us vs:List Value) (β:Bool),cs.length=us.length→ds.length=vs.length→
  (∀(j:Nat) c u,cs[j]? =some c→us[j]? =some u→Rd w F nm c u)→(∀(j:Nat) c u,ds[j]? =some c→vs[j]? =some u→Rd w F nm c u)→aeqs ks cs ds=some β→
  (i_ P t=true∨i10 P t=true)∧(i10 P t=true→ks.length=1)∧∀D,d≤D→(Op.equalIn D t (a24 P t us) (a24 P t vs)).run P w= .ok β w
 | 0,t,ks,h,_,_,_,_,_,_,_,_,_,_ =>by simp [k10] at h
 | d+1,t,ks,h,cs,ds,us,vs,β,hu,hv,hru,hrv,hq=>by
  have leaf:∀k,ks=[k]→i10 P t=true→i_ P t=false→((k=0∧∃i,P.underlying t=some (.int i))∨(k=1∧P.underlying t=some .string)∨(k=2∧P.underlying t=some .bool))→
    (i_ P t=true∨i10 P t=true)∧(i10 P t=true→ks.length=1)∧∀D,d+1≤D→(Op.equalIn D t (a24 P t us) (a24 P t vs)).run P w= .ok β w:=by
   intro k hk h1 h2 h3
   subst hk
   refine⟨.inr h1,fun _ =>rfl,fun D hD=>?_⟩
   obtain⟨D,rfl⟩:∃D',D=D'+1:=⟨D - 1,by omega⟩
   simp only[a24,h2,Bool.false_eq_true,if_false]
   have hl:=al11 _ _ _ _ hq
   match cs,ds,us,vs,hl,hu,hv with
   | [x],[y],[u],[v],_,_,_ =>
    simp only[aeqs] at hq
    obtain⟨b1,b2,e1,e2,rfl⟩:=as12 hq
    simp only[Option.some.injEq] at e2
    subst e2
    rw[Bool.and_true]
    exact ls12 w (hru 0 x u rfl rfl) (hrv 0 y v rfl rfl) e1 h3
  simp only[k10] at h
  split at h
  ·rename_i k hk
   simp only[Option.some.injEq] at h
   exact leaf 0 h.symm (by simp [i10,hk]) (by simp [i_,hk]) (.inl ⟨rfl,k,hk⟩)
  ·rename_i hk
   simp only[Option.some.injEq] at h
   exact leaf 1 h.symm (by simp [i10,hk]) (by simp [i_,hk]) (.inr (.inl ⟨rfl,hk⟩))
  ·rename_i hk
   simp only[Option.some.injEq] at h
   exact leaf 2 h.symm (by simp [i10,hk]) (by simp [i_,hk]) (.inr (.inr ⟨rfl,hk⟩))
  ·rename_i fs hfs
   have hag:i_ P t=true:=by simp [i_,hfs]
   have hnl:i10 P t=false:=by simp [i10,hfs]
   split at h
   ·cases h
   ·rename_i hst
    refine⟨.inl hag,(fun e=>by rw[hnl] at e;cases e),fun D hD=>?_⟩
    obtain⟨D,rfl⟩:∃D',D=D'+1:=⟨D - 1,by omega⟩
    simp only[a24,hag,if_true]
    have hfo:P.fieldsOf t=fs:=by simp [Program.fieldsOf,hfs]
    rw[run_equalIn_struct w D t _ _ (by rw[hfo];exact hfs) (by simpa using hst),hfo]
    have hl:=al11 _ _ _ _ hq
    have go:∀(l:List Field) (off:Nat) (k:List Nat) (b:Bool),k11 P (k10 P d) l off=some k→off+k.length=cs.length→aeqs k (cs.drop off) (ds.drop off)=some b→
      (Op.eqFields D us.toArray vs.toArray l).run P w= .ok b w:=by
     intro l
     induction l with
     | nil=>
      intro off k b hk _ hb
      simp only[k11,Option.some.injEq] at hk
      subst hk
      have hlb:=al11 _ _ _ _ hb
      have e1:cs.drop off=[]:=List.eq_nil_of_length_eq_zero hlb.1
      have e2:ds.drop off=[]:=List.eq_nil_of_length_eq_zero hlb.2
      rw[e1,e2] at hb
      simp only[aeqs,Option.some.injEq] at hb
      subst hb
      rfl
     | cons f l ih=>
      intro off k b hk hlen hb
      simp only[k11] at hk
      split at hk
      ·rename_i hf
       obtain⟨hf1,rfl⟩:=hf
       split at hk
       ·rename_i k1 hk1
        split at hk
        ·rename_i hsz
         obtain⟨k2,hk2,rfl⟩:=Option.map_eq_some_iff.1 hk
         obtain⟨β1,β2,e1,e2,rfl⟩:=aa14 k1 k2 _ _ _ hb
         rw[List.drop_drop] at e2
         rw[List.drop_drop] at e2
         rw[List.length_append] at hlen
         have htk:∀(l:List AV) (m:List Value),l.length=m.length→(∀(j:Nat) c u,l[j]? =some c→m[j]? =some u→Rd w F nm c u)→
           ((l.drop f.offset).take k1.length).length=((m.drop f.offset).take k1.length).length∧
           ∀(j:Nat) c u,((l.drop f.offset).take k1.length)[j]? =some c→((m.drop f.offset).take k1.length)[j]? =some u→Rd w F nm c u:=by
          intro l m h1 h2
          refine⟨by simp [h1],fun j c u hc hu=>?_⟩
          rw[List.getElem?_take] at hc hu
          split at hc
          ·rename_i hj
           rw[if_pos hj,List.getElem?_drop] at hu
           rw[List.getElem?_drop] at hc
           exact h2 _ c u hc hu
          ·cases hc
         obtain⟨a1,a2⟩:=htk cs us hu hru
         obtain⟨b1,b2⟩:=htk ds vs hv hrv
         obtain⟨hty,hone,hrun⟩:=ks11 w d f.type k1 hk1 _ _ _ _ β1 a1 b1 a2 b2 e1
         have r1:=pa10 (P:=P) w (us:=us) (off:=f.offset) hty hsz (by omega) hone
         have r2:=pa10 (P:=P) w (us:=vs) (off:=f.offset) hty hsz (by omega) hone
         simp only[Op.eqFields,if_pos hf1,Sem.run_bind,r1,r2,Result.andThen_ok,hrun D (by omega)]
         cases β1
         ·simp
         ·simp only[Bool.not_true,Bool.false_eq_true,if_false,Bool.true_and]
          exact ih _ k2 β2 hk2 (by omega) e2
        ·cases hk
       ·cases hk
      ·cases hk
    exact go fs.toList 0 ks β h (by omega) (by simpa using hq)
  ·cases h
theorem ga_ (w:World) (t:Nat) (us vs:Array Value) (h:P.eqGuardType P.depth t=false) (neg:Bool) (ex ey:Operand):(eqGuard (if neg then .neq else .eql) t ex ey (.agg us) (.agg vs)).run P w= .ok () w:=by
 cases neg <;> simp [eqGuard,h]
theorem as45 {neg:Bool} {ks:List Nat} {x y c:AV} {u v:Value} (hx:Rd w F nm x u) (hy:Rd w F nm y v) (h:aeqA neg ks x y=some c) {t:TypeId} (ht:k10 P 20 t=some ks) (hag:i_ P t=true) (hg:P.eqGuardType P.depth t=false) (ex ey:Operand):
  ∃r,((do eqGuard (if neg then .neq else .eql) t ex ey u v;binOp (if neg then .neq else .eql) t u v:Sem Value)).run P w= .ok r w∧Rd w F nm c r:=by
 cases x <;> cases y <;> simp only[aeqA,reduceCtorEq] at h
 rename_i cs ds
 split at h
 ·rename_i b hb
  simp only[Option.some.injEq] at h
  subst h
  cases hx with
  | agg _ _ us hl hr=>
   cases hy with
   | agg _ _ vs hl' hr'=>
    obtain⟨_,_,hrun⟩:=ks11 (P:=P) w 20 t ks ht cs ds us vs b hl hl' hr hr' hb
    have he:=hrun 10000 (by omega)
    simp only[a24,hag,if_true] at he
    have he':(Op.equal t (.agg us.toArray) (.agg vs.toArray)).run P w= .ok b w:=he
    refine⟨_,?_,.bool _ _⟩
    simp only[Sem.run_bind,ga_ w t _ _ hg,Result.andThen_ok]
    cases neg
    ·have e:binOp .eql t (.agg us.toArray) (.agg vs.toArray)=(do pure (.bool (←Op.equal t (.agg us.toArray) (.agg vs.toArray)))):=rfl
     simp only[Bool.false_eq_true,if_false,e,Sem.run_bind,he',Result.andThen_ok,Sem.run_pure]
    ·have e:binOp .neq t (.agg us.toArray) (.agg vs.toArray)=(do pure (.bool (!(←Op.equal t (.agg us.toArray) (.agg vs.toArray))))):=rfl
     simp only[if_true,e,Sem.run_bind,he',Result.andThen_ok,Sem.run_pure]
 ·cases h
end
end Go.Proofs.YtjbcfpkibnhodaaGreatDoor.Ab
namespace Go.Proofs.YtjbcfpkibnhodaaGreatDoor.Ab
open Go Go.RowKit
section
variable {P:Program} {G:Nat→Option AV} {C:Ctx} {nm:N_} {F:Nat→Prop} {st st':St} {a:Act} {w:World} {o:Oper}
theorem as30 {x y z c:AV} {u v r:Value} (hx:Rd w F nm x u) (hy:Rd w F nm y v) (hz:Rd w F nm z r) (h:a38 x y z=some c):
  ∃q,((do pure (.value (if ←asBool u then v else r)):Sem Next)).run P w= .ok (.value q) w∧Rd w F nm c q:=by
 unfold a38 at h
 split at h
 ·rename_i b _ _
  split at h
  ·simp only[Option.some.injEq] at h;subst h;cases hx;exact⟨v,rfl,hy⟩
  ·simp only[Option.some.injEq] at h;subst h;cases hx;exact⟨r,rfl,hz⟩
 ·cases h
theorem as22 (h:RelX G C nm F st a w) {sz:Nat} (hsz0:0<sz) {x i c:AV} {u v:Value} (hx:Rd w F nm x u) (hi:Rd w F nm i v) (hq:a14 st.heap sz x i=some c) {t e:Nat} (ht:P.underlying t=some (.slice e)) (hs:szIs P e sz=true):∃r,(Instr.indexAt t u v).run P w= .ok r w∧Rd w F nm c r:=by
 cases x <;> cases i <;> simp only[a14,reduceCtorEq] at hq
 case seq.int z es k n=>
  split at hq
  ·rename_i hz
   obtain⟨rfl,hn⟩:=hz
   obtain⟨e1,he1,rfl⟩:=Option.map_eq_some_iff.1 hq
   have hlt:n.toNat<es.length:=(List.getElem?_eq_some_iff.1 he1).1
   cases hi
   cases hx with
   | seq0=>simp at he1
   | seq _ _ _ g o cap us h0 hF hc hm hsz hw h1 hr=>
    refine⟨.pointer (some ⟨g,o+n.toNat*z,none⟩),?_,?_⟩
    ·simp only[Instr.indexAt,asIntOf,Sem.run_bind,Sem.run_pure,Result.andThen_ok,run_underlying ht]
     rw[if_pos ⟨hn,by omega⟩]
     simp only[Sem.run_bind,sr_ hs,Result.andThen_ok,Sem.run_pure,add_at]
    ·have hec:=hsz e1 (List.mem_of_getElem? he1)
     have hroom:n.toNat*z+z≤es.length*z:=by
      have:(n.toNat+1)*z≤es.length*z:=Nat.mul_le_mul_right _ hlt
      rw[Nat.add_mul] at this
      omega
     have:=Rd.eptr (w:=w) (F:=F) nm e1 0 g (o+n.toNat*z) (fun p=>us (n.toNat*z+p)) hF (fun p hp=>by rw[Nat.add_assoc];exact hw _ (by omega)) (fun p hp=>h1 _ (by omega)) (fun j c hc=>hr _ e1 j c he1 hc)
     simpa using this
  ·cases hq
 case arr.int i k m kk n=>
  split at hq
  ·rename_i b hb
   split at hq
   ·rename_i hn
    obtain⟨hbs,hn⟩:=hn
    simp only[Option.some.injEq] at hq
    subst hq
    cases hi
    cases hx with
    | arr _ _ _ _ m' hm' hle hp=>
     have hms:m'.sz=sz:=by
      rcases h.box i b hb with ⟨hno,_⟩ | ⟨m1,hm1,hl1⟩
      ·rw[hm'] at hno;cases hno
      ·rw[hm'] at hm1;cases hm1;rw[(hl1.c (by omega)).1,hbs]
     refine⟨.pointer (some ⟨m'.g,k*m'.sz+n.toNat*sz,none⟩),?_,?_⟩
     ·simp only[Instr.indexAt,asIntOf,Sem.run_bind,Sem.run_pure,Result.andThen_ok,run_underlying ht]
      rw[if_pos hn]
      simp only[Sem.run_bind,sr_ hs,Result.andThen_ok,Sem.run_pure,add_at]
     ·have:=Rd.ref (w:=w) (F:=F) nm i (k+n.toNat) 0 m' hm'
      rw[Nat.add_zero,Nat.add_mul,hms] at this
      rw[hms]
      exact this
    | arrE=>omega
    | arrN=>omega
   ·cases hq
  ·cases hq
theorem as39 {x i c:AV} {u v:Value} (hx:Rd w F nm x u) (hi:Rd w F nm i v) (h:aidx x i=some c) {t:Nat} (ht:P.underlying t=some .string):∃r,(Instr.index t u v).run P w= .ok r w∧Rd w F nm c r:=by
 cases x <;> cases i <;> simp only[aidx,reduceCtorEq] at h
 rename_i s k n
 split at h
 ·rename_i hn
  obtain⟨b,hb,rfl⟩:=Option.map_eq_some_iff.1 h
  have hlt:n.toNat<s.length:=(List.getElem?_eq_some_iff.1 hb).1
  cases hx;cases hi
  refine⟨_,?_,.int _ _ _⟩
  have hb':(⟨s.toArray⟩:ByteArray)[n.toNat]? =some b:=by
   rw[ByteArray.getElem?_lt' _ _ (by simpa [ByteArray.size] using hlt)]
   rw[List.getElem?_eq_getElem hlt] at hb
   simpa [ByteArray.getElem_eq_getElem_data] using hb
  simp only[Instr.index,asIntOf,Sem.run_bind,Sem.run_pure,Result.andThen_ok,run_underlying ht]
  rw[if_pos hn,hb']
  rfl
 ·cases h
theorem br10 {v:Value} {k:IntKind} {n:Int} {y:Nat} (hv:v= .int k n) (h0:0≤n) (hy:n≤y) (code:BoundsCode):(Instr.sliceBound v y code).run P w= .ok n.toNat w:=by
 subst hv
 simp only[Instr.sliceBound,asIntOf,Sem.run_bind,Sem.run_pure,Result.andThen_ok]
 rw[if_pos ⟨h0,hy⟩]
 rfl
theorem bo_ {x:Option AV} {v:Option Value} (hx:match x,v with | some c,some u=>Rd w F nm c u | none,none=>True | _,_ =>False) {d:Int} {k:IntKind} {n:Int} (h:x.getD (.int .i64 d)= .int k n):
  (v=none∧n=d)∨∃k',v=some (.int k' n):=by
 cases x with
 | none=>
  cases v with
  | none=>simp only[Option.getD_none,AV.int.injEq] at h;exact .inl ⟨rfl,h.2.symm⟩
  | some u=>exact hx.elim
 | some c=>
  cases v with
  | none=>exact hx.elim
  | some u=>
   simp only[Option.getD_some] at h
   subst h
   cases hx
   exact .inr ⟨k,rfl⟩
theorem br_ {lo hi:Option Value} {l h len cap:Nat} (hlo:(lo=none∧l=0)∨∃k,lo=some (.int k l)) (hhi:(hi=none∧h=len)∨∃k,hi=some (.int k h)) (h1:l≤h) (h2:h≤len) (h3:len≤cap) (b:Bool):
  (Instr.sliceBounds b len cap lo hi none).run P w= .ok (l,h,cap) w:=by
 rcases hlo with ⟨rfl,rfl⟩ | ⟨k,rfl⟩ <;> rcases hhi with ⟨rfl,rfl⟩ | ⟨k',rfl⟩
 ·simp only[Instr.sliceBounds,Sem.run_bind,Sem.run_pure,Result.andThen_ok]
 ·have e:=br10 (P:=P) (w:=w) (v:=.int k' h) rfl (by omega) (show (h:Int)≤(cap:Nat) by omega) (if b=true then .sliceAcap else .sliceAlen)
  simp only[Instr.sliceBounds,Sem.run_bind,Sem.run_pure,Result.andThen_ok,e,Int.toNat_natCast]
 ·have e:=br10 (P:=P) (w:=w) (v:=.int k l) rfl (by omega) (show (l:Int)≤(h:Nat) by omega) .sliceB
  simp only[Instr.sliceBounds,Sem.run_bind,Sem.run_pure,Result.andThen_ok,Option.isSome_none,Bool.false_eq_true,if_false,e,Int.toNat_natCast]
 ·have e:=br10 (P:=P) (w:=w) (v:=.int k' h) rfl (by omega) (show (h:Int)≤(cap:Nat) by omega) (if b=true then .sliceAcap else .sliceAlen)
  have e2:=br10 (P:=P) (w:=w) (v:=.int k l) rfl (by omega) (show (l:Int)≤(h:Nat) by omega) .sliceB
  simp only[Instr.sliceBounds,Sem.run_bind,Sem.run_pure,Result.andThen_ok,Option.isSome_none,Bool.false_eq_true,if_false,e,e2,Int.toNat_natCast]
theorem as34 {z:Nat} {x c:AV} {lo hi:Option AV} {u:Value} {lo' hi':Option Value} (hx:Rd w F nm x u) (hlo:match lo,lo' with | some c,some u=>Rd w F nm c u | none,none=>True | _,_ =>False)
  (hhi:match hi,hi' with | some c,some u=>Rd w F nm c u | none,none=>True | _,_ =>False) (h:aslc z x lo hi=some c) {t:Nat} (ht:(z=0∧P.underlying t=some .string)∨∃e,P.underlying t=some (.slice e)∧szIs P e z=true∧0<z):
  ∃r,(Instr.sliceAt t u lo' hi' none).run P w= .ok r w∧Rd w F nm c r:=by
 cases x <;> simp only[aslc,reduceCtorEq] at h
 case str s=>
  split at h
  rotate_left
  ·cases h
  rename_i hz
  have ht:P.underlying t=some .string:=by
   rcases ht with ⟨_,ht⟩ | ⟨e,_,_,h0⟩
   ·exact ht
   ·omega
  split at h
  ·rename_i k l k' hh e1 e2
   split at h
   ·rename_i hc
    obtain⟨h0,h1,h2⟩:=hc
    simp only[Option.some.injEq] at h
    subst h
    cases hx
    have b1:=bo_ hlo e1
    have b2:=bo_ hhi e2
    obtain⟨l,rfl⟩:=Int.eq_ofNat_of_zero_le h0
    obtain⟨m,rfl⟩:=Int.eq_ofNat_of_zero_le (show 0≤hh by omega)
    have hb:=br_ (P:=P) (w:=w) (lo:=lo') (hi:=hi') (l:=l) (h:=m) (len:=s.length) (cap:=s.length) (b1.imp (fun x=>⟨x.1,by omega⟩) id) (b2.imp (fun x=>⟨x.1,by omega⟩) id) (by omega) (by omega) (Nat.le_refl _) false
    refine⟨.string ((⟨s.toArray⟩:ByteArray).extract l m),?_,?_⟩
    ·have hsz:(⟨s.toArray⟩:ByteArray).size=s.length:=by simp [ByteArray.size]
     simp only[Instr.sliceAt,Sem.run_bind,run_underlying ht,Result.andThen_ok,Instr.slice,Option.isSome_none,Bool.false_eq_true,if_false,hsz,hb,Sem.run_pure]
    ·have e:((⟨s.toArray⟩:ByteArray).extract l m)=⟨((s.drop l).take (m - l)).toArray⟩:=by
      apply ByteArray.ext
      simp [ByteArray.data_extract,List.extract_toArray,List.extract_eq_take_drop]
     rw[e]
     simpa using Rd.str (w:=w) (F:=F) nm ((s.drop l).take (m - l))
   ·cases h
  ·cases h
 case seq sz es=>
  split at h
  rotate_left
  ·cases h
  rename_i hz
  obtain⟨rfl,hz0'⟩:=hz
  split at h
  ·rename_i k l k' hh e1 e2
   split at h
   ·rename_i hc
    obtain⟨h0,h1,h2⟩:=hc
    simp only[Option.some.injEq] at h
    subst h
    have b1:=bo_ hlo e1
    have b2:=bo_ hhi e2
    obtain⟨l,rfl⟩:=Int.eq_ofNat_of_zero_le h0
    obtain⟨m,rfl⟩:=Int.eq_ofNat_of_zero_le (show 0≤hh by omega)
    simp only[Int.toNat_natCast]
    cases hx with
    | seq0 _ _ A cap=>
     have hl0:l=0:=by simp at h2;omega
     have hm0:m=0:=by simp at h2;omega
     subst hl0;subst hm0
     have hb:=br_ (P:=P) (w:=w) (lo:=lo') (hi:=hi') (l:=0) (h:=0) (len:=0) (cap:=cap) (b1.imp (fun x=>⟨x.1,rfl⟩) id) (b2.imp (fun x=>⟨x.1,rfl⟩) id) (by omega) (by omega) (Nat.zero_le _) true
     rcases ht with ⟨hz0,ht⟩ | ⟨e,ht,hs,_⟩
     ·omega
     refine⟨.slice (if cap=0 then A else A.map (·.add (0*z))) 0 (cap - 0),?_,.seq0 _ _ _ _⟩
     simp only[Instr.sliceAt,Sem.run_bind,run_underlying ht,Result.andThen_ok,Instr.slice,hb,sr_ hs,Sem.run_pure]
    | seq _ _ _ g o cap us hz hF hcap hm hsz hw h1' hr=>
     have hb:=br_ (P:=P) (w:=w) (lo:=lo') (hi:=hi') (l:=l) (h:=m) (len:=es.length) (cap:=cap) (b1.imp (fun x=>⟨x.1,by omega⟩) id) (b2.imp (fun x=>⟨x.1,by omega⟩) id) (by omega) (by omega) hcap true
     have hlen:((es.drop l).take (m - l)).length=m - l:=by simp;omega
     rcases ht with ⟨hz0,ht⟩ | ⟨e,ht,hs,_⟩
     ·omega
     refine⟨.slice (if cap=l then some ⟨g,o,none⟩ else some ⟨g,o+l*z,none⟩) (m - l) (cap - l),?_,?_⟩
     ·simp only[Instr.sliceAt,Sem.run_bind,run_underlying ht,Result.andThen_ok,Instr.slice,hb,sr_ hs,Sem.run_pure,Option.map_some,add_at]
     ·by_cases hml:m - l=0
      ·rw[hml]
       simp only[List.take_zero]
       exact .seq0 _ _ _ _
      ·rw[if_neg (by omega)]
       have:=Rd.seq (w:=w) (F:=F) nm z ((es.drop l).take (m - l)) g (o+l*z) (cap - l) (fun p=>us (l*z+p)) hz hF (by rw[hlen];omega) (by omega) (fun e he=>hsz e (List.mem_of_mem_drop (List.mem_of_mem_take he)))
        (fun p hp=>by
         rw[hlen] at hp
         rw[Nat.add_assoc]
         refine hw _ ?_
         have:(l+(m - l))*z≤es.length*z:=Nat.mul_le_mul_right _ (by omega)
         rw[Nat.add_mul] at this
         omega)
        (fun p hp=>by
         rw[hlen] at hp
         refine h1' _ ?_
         have:(l+(m - l))*z≤es.length*z:=Nat.mul_le_mul_right _ (by omega)
         rw[Nat.add_mul] at this
         omega)
        (fun k e j c he hc=>by
         rw[List.getElem?_take] at he
         split at he
         ·rw[List.getElem?_drop] at he
          have:=hr (l+k) e j c he hc
          rw[Nat.add_mul,Nat.add_assoc] at this
          exact this
         ·cases he)
       rw[hlen] at this
       exact this
   ·cases h
  ·cases h
end
end Go.Proofs.YtjbcfpkibnhodaaGreatDoor.Ab
