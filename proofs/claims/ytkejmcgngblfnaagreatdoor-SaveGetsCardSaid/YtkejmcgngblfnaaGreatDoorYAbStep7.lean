/-
  More operations: made rows, walks over texts, arrays, bytes as a text. No claim is proved here.
-/
import Derived.Test.YtkejmcgngblfnaaGreatDoorYAbStep6
import Derived.Laws.BytesString
import Derived.RangeFuncRecord
namespace Go.Proofs.YtkejmcgngblfnaaGreatDoor.Ab
open Go Go.RowKit
section
variable {P:Program} {G:Nat→Option AV} {C:Ctx} {nm:N_} {F:Nat→Prop} {st st':St} {a:Act} {w:World} {o:Oper}
theorem ms19 (h:RelX G C nm F st a w) {t e sz bytes:Nat} {z:AV} {x y:Operand} {p q:Opd} (ho:o.op= .makeSlice t x y)
  (hsl:s14 P t e=true) (hs:szIs P e sz=true) (h0:0<sz) (hby:b12 P e bytes=true) (hb0:0<bytes) (hz:z_ P e z=true) (hf:fits z sz=true) (hx:c_ x p=true) (hy:c_ y q=true)
  (he:amks st o.dst e sz bytes z (st.ev G p) (st.ev G q)=some st'):S_ P G C o a w st':=by
 obtain⟨v,hrun,hrep,i,hi,hzv⟩:=zs_ hz
 have hxr:=h.opd hx
 have hyr:=h.opd hy
 generalize st.ev G p=pv at*
 generalize st.ev G q=qv at*
 unfold amks at he
 split at he
 ·rename_i d k a1 k' b1 hd
  split at he
  ·rename_i hc
   obtain⟨c0,c1,c2⟩:=hc
   generalize hex:a.eval x=xv at hxr
   generalize hey:a.eval y=yv at hyr
   cases hxr
   cases hyr
   have hisz:=ss13 hs hi
   have hiby:=bs_ hby hi
   have hb1:b1≤b1*bytes:=by
    have:b1*1≤b1*(bytes:Int):=Int.mul_le_mul_of_nonneg_left (by omega) (by omega)
    omega
   have hr:=run_make (P:=P) w t e i v (ss_ hsl) hi hzv k k' a1 b1 c0 c1 (by rw[hiby,Int.mul_comm];omega) (by omega)
   rw[hisz] at hr
   obtain⟨hzs,hzc⟩:=ck_ (w:=w) (F:=F) (nm:=n_) (rr_ hrep) hf
   obtain⟨_,hzl,_⟩:=fs_ hf
   refine ns19 (cs:=madeCells v.cells (b1.toNat*sz)) (v:=.slice (some ⟨w.heap.size,0,none⟩) a1.toNat b1.toNat) (cap:=b1.toNat) h hd h0 (by simp [madeCells]) (by have e:maxLen=9223372036854775807:=rfl;rw[e];omega) (by simp only[List.length_replicate];omega) (fun x hx=>by rw[List.eq_of_mem_replicate hx];exact hzl) (fun k x j c hk hj=>?_) ?_ ?_ he
   ·have hkn:k<a1.toNat:=by have:=(List.getElem?_eq_some_iff.1 hk).1;simpa using this
    have hez:x=z:=List.eq_of_mem_replicate (List.mem_of_getElem? hk)
    subst hez
    have hjs:j<sz:=by rw[←hzl];exact (List.getElem?_eq_some_iff.1 hj).1
    obtain⟨u,hu,hu1,hrd⟩:=hzc j c hj
    have hlt:k*sz+j<b1.toNat*sz:=by
     have:(k+1)*sz≤b1.toNat*sz:=Nat.mul_le_mul_right _ (by omega)
     rw[Nat.add_mul] at this
     omega
    refine⟨u,?_,hu1,fun m=>by simpa using hrd⟩
    have hmod:(k*sz+j) % sz=j:=by rw[Nat.add_comm,Nat.add_mul_mod_self_right,Nat.mod_eq_of_lt hjs]
    simp only[madeCells,Array.getElem?_map,Array.getElem?_range,hlt,if_true,Option.map_some,hzs,hmod]
    rw[getElem!_pos v.cells j (by rw[hzs];exact hjs)]
    rw[Array.getElem?_eq_getElem (by rw[hzs];exact hjs)] at hu
    exact hu
   ·have:=Rd.arr (w:=w.alloc (.cells (madeCells v.cells (b1.toNat*sz)) e)) (F:=F) (upd nm d (some ⟨w.heap.size,sz,b1.toNat,e⟩)) d 0 a1.toNat ⟨w.heap.size,sz,b1.toNat,e⟩ (if_pos rfl) (by simp only;omega) (.inr rfl)
    simpa using this
   ·simp only[execOp,ho,hex,hey,Sem.run_bind,hr,Result.andThen_ok,Sem.run_pure]
  ·cases he
 ·cases he
theorem as47 {mn:Bool} {x y c:AV} {u v:Value} (hx:Rd w F nm x u) (hy:Rd w F nm y v) (h:amx mn x y=some c) (tys:Array TypeId) (ty:TypeId):
  ∃r,((if mn then Builtin.min_ tys ty #[u,v] else Builtin.max_ tys ty #[u,v]):Sem Value).run P w= .ok r w∧Rd w F nm c r:=by
 unfold amx at h
 split at h
 ·rename_i k a1 k' b1
  split at h
  ·rename_i hk
   subst hk
   simp only[Option.some.injEq] at h
   subst h
   cases hx;cases hy
   cases mn
   ·exact⟨_,by simp only[Bool.false_eq_true,if_false,Builtin.max_,List.foldlM_cons,List.foldlM_nil,Builtin.max2,Sem.run_bind,Sem.run_pure,Result.andThen_ok],.int _ _ _⟩
   ·exact⟨_,by simp only[if_true,Builtin.min_,List.foldlM_cons,List.foldlM_nil,Builtin.min2,Sem.run_bind,Sem.run_pure,Result.andThen_ok],.int _ _ _⟩
  ·cases h
 ·cases h
theorem as24 {n:Nat} {x c:AV} {u:Value} (hx:Rd w F nm x u) (h:a28 n x=some c) {t e:Nat} (ht:P.underlying t=some (.array n e)) (hs:szIs P e 1=true) (hn:n≤1048576):
  ∃r,(Instr.sliceAt t u none none none).run P w= .ok r w∧Rd w F nm c r:=by
 unfold a28 at h
 split at h
 ·rename_i cs
  split at h
  ·rename_i hc
   obtain⟨rfl,hc1⟩:=hc
   simp only[Option.some.injEq] at h
   subst h
   cases hx with
   | eptr _ _ _ g o us hF hw h1 hr=>
    simp only[AV.cells] at hw h1 hr
    refine⟨.slice (some ⟨g,o,none⟩) cs.length cs.length,?_,?_⟩
    ·simp only[Instr.sliceAt,Sem.run_bind,run_underlying ht,Result.andThen_ok,Instr.sureAddr,Sem.run_pure,Instr.sliceBounds,sr_ hs,Nat.add_zero]
     by_cases hz:cs.length=0
     ·simp [hz]
     ·rw[if_neg (by omega)]
      simp [Addr.add]
    ·have hone:∀x∈cs,x.cells=[x]:=fun x hx=>by
      have:=List.all_eq_true.1 hc1 x hx
      cases x <;> first | rfl | (simp [c21] at this)
     have key:=Rd.seq (w:=w) (F:=F) nm 1 cs g o cs.length us (by decide) hF (Nat.le_refl _) (by have e:maxLen=9223372036854775807:=rfl;rw[e];omega) (fun x hx=>by rw[hone x hx];rfl) (fun p hp=>hw p (by omega)) (fun p hp=>h1 p (by omega))
      (fun k x j c hk hj=>by
       rw[hone x (List.mem_of_getElem? hk)] at hj
       match j,hj with
       | 0,hj=>
        simp at hj
        subst hj
        have:=hr k x hk
        simpa using this
       | j+1,hj=>simp at hj)
     exact key
  ·cases h
 ·cases h
theorem as17 {sz n:Nat} {x i c:AV} {u v:Value} (hx:Rd w F nm x u) (hi:Rd w F nm i v) (h:a20 sz n x i=some c) {t e:Nat} (ht:P.underlying t=some (.array n e)) (hs:szIs P e sz=true):
  ∃r,(Instr.indexAt t u v).run P w= .ok r w∧Rd w F nm c r:=by
 unfold a20 at h
 split at h
 ·rename_i j k off kk jj
  split at h
  ·rename_i hj
   simp only[Option.some.injEq] at h
   subst h
   cases hi
   cases hx with
   | ref _ _ _ _ m hm=>
    refine⟨_,?_,Rd.ref (w:=w) (F:=F) nm j k (off+jj.toNat*sz) m hm⟩
    simp only[Instr.indexAt,asIntOf,Sem.run_bind,Sem.run_pure,Result.andThen_ok,run_underlying ht,Instr.sureAddr]
    rw[if_pos hj]
    simp only[Sem.run_bind,sr_ hs,Result.andThen_ok,Sem.run_pure,aa10,Nat.add_assoc]
  ·cases h
 ·rename_i e' off kk jj
  split at h
  ·rename_i hj
   simp only[Option.some.injEq] at h
   subst h
   cases hi
   cases hx with
   | eptr _ _ _ g o us hF hw h1 hr=>
    refine⟨_,?_,Rd.eptr (w:=w) (F:=F) nm e' (off+jj.toNat*sz) g o us hF hw h1 hr⟩
    simp only[Instr.indexAt,asIntOf,Sem.run_bind,Sem.run_pure,Result.andThen_ok,run_underlying ht,Instr.sureAddr]
    rw[if_pos hj]
    simp only[Sem.run_bind,sr_ hs,Result.andThen_ok,Sem.run_pure,aa10,Nat.add_assoc]
  ·cases h
 ·cases h
theorem as26 {sz n:Nat} {x i c:AV} {u v:Value} (hx:Rd w F nm x u) (hi:Rd w F nm i v) (h:a33 sz n x i=some c) {t e:Nat} (ht:P.underlying t=some (.array n e)) (hs:szIs P e sz=true) (hl:i10 P e=true):
  ∃r,(Instr.index t u v).run P w= .ok r w∧Rd w F nm c r:=by
 unfold a33 at h
 split at h
 ·rename_i cs kk j
  split at h
  ·rename_i hj
   obtain⟨h0,h1,rfl⟩:=hj
   cases hi
   cases hx with
   | agg _ _ us hlen hr=>
    obtain⟨r,hr1,hr2⟩:=pl_ (P:=P) (w:=w) (F:=F) (nm:=nm) hlen hr h hl
    refine⟨r,?_,hr2⟩
    simp only[Instr.index,asIntOf,Sem.run_bind,Sem.run_pure,Result.andThen_ok,run_underlying ht]
    rw[if_pos ⟨h0,h1⟩]
    simp only[Sem.run_bind,sr_ hs,Result.andThen_ok,Nat.mul_one]
    exact hr1
  ·cases h
 ·cases h
theorem rs15 (h:RelX G C nm F st a w) {t:Nat} {x:Operand} {p:Opd} (ho:o.op= .range t x) (ht:P.underlying t=some .string) (hx:c_ x p=true) (he:arng st o.dst (st.ev G p)=some st'):S_ P G C o a w st':=by
 have hxr:=h.opd hx
 generalize st.ev G p=pv at*
 unfold arng at he
 split at he
 ·rename_i d s hd
  generalize hex:a.eval x=xv at hxr
  cases hxr
  refine .inl ⟨.pointer (some ⟨w.heap.size,0,none⟩),w.alloc (.stringIter ⟨s.toArray⟩ 0),?_,upd nm d (some ⟨w.heap.size,0,0,0⟩),F,?_⟩
  ·simp only[execOp,ho,hex,Instr.range,Sem.run_bind,run_underlying ht,Result.andThen_ok,Sem.run_pure,run_newObj_alloc]
  ·rw[hd]
   refine h.new (m:=some ⟨w.heap.size,0,0,0⟩) he (h.keep.alloc _) (fun k hk=>Below.heap_alloc w _ k hk) (by simp) (fun m' hm=>by cases hm;exact Nat.le_refl _) ?_ ?_
   ·have:=Rd.ref (w:=w.alloc (.stringIter ⟨s.toArray⟩ 0)) (F:=F) (upd nm d (some ⟨w.heap.size,0,0,0⟩)) d 0 0 ⟨w.heap.size,0,0,0⟩ (if_pos rfl)
    simpa using this
   ·exact .inr ⟨⟨w.heap.size,0,0,0⟩,if_pos rfl,.inr ⟨rfl,rfl,rfl,.inl ⟨rfl,s,0,rfl,heap_alloc_new w _⟩⟩⟩
 ·cases he
theorem rgi_ {r:Nat} {s:ByteArray} {p:Nat} (h:w.heap[r]? =some (.stringIter s p)):(getObj r).run P w= .ok (.stringIter s p) w:=by
 simp [getObj,Sem.run,h]
theorem rsi_ {r:Nat} {s:ByteArray} {p:Nat} (o':Obj) (h:w.heap[r]? =some (.stringIter s p)):(setObj r o').run P w= .ok () (w.putObj r o'):=by
 simp [setObj,Sem.run,h,World.putObj]
theorem ns22 (h:RelX G C nm F st a w) {x:Operand} {p:Opd} (ho:o.op= .next x true) (hx:c_ x p=true) (he:anxt st o.dst (st.ev G p)=some st'):S_ P G C o a w st':=by
 have hxr:=h.opd hx
 generalize st.ev G p=pv at*
 unfold anxt at he
 split at he
 ·rename_i d i hd
  split at he
  ·rename_i b hb
   split at he
   ·rename_i s pos hes
    split at he
    ·rename_i hc
     obtain⟨c1,c2,c3,c4,c5⟩:=hc
     generalize hex:a.eval x=xv at hxr
     cases hxr with
     | ref _ _ _ _ m hm=>
      rcases h.box i b hb with ⟨hn,_⟩ | ⟨m',hm',hl⟩
      ·rw[hm] at hn;cases hn
      rw[hm] at hm';cases hm'
      rcases hl with hl | ⟨_,_,k3,⟨_,s',p',k4,k5⟩ | ⟨k4,_⟩ | ⟨k4,_⟩⟩
      ·have:=hl.2.2.1;omega
      ·rw[hes] at k4
       simp only[List.cons.injEq,AV.str.injEq,AV.int.injEq,true_and,and_true] at k4
       obtain⟨rfl,rfl⟩:=k4
       have e0:0*m.sz+0=0:=by omega
       split at he
       ·rename_i hlt
        simp only[Option.some.injEq] at he
        subst he
        have hlt':p'<s.length:=by simpa using hlt
        refine .inl ⟨.tuple #[.bool true,.int .i64 p',.int .i32 ((adec s p').1:Nat)],w.putObj m.g (.stringIter ⟨s.toArray⟩ (p'+(adec s p').2)),?_,nm,F,?_⟩
        ·have hsz:p'<(⟨s.toArray⟩:ByteArray).size:=by simpa [ByteArray.size] using hlt'
         simp only[execOp,ho,hex,e0,Instr.next,Sem.run_bind,rgi_ k5,Result.andThen_ok,hsz,if_true,rsi_ _ k5,Sem.run_pure,adec,goInt]
        ·rw[hd]
         have h1:RelX G C nm F {st with heap:=hset st.heap i {b with es:=[.str s,.int .i64 ((p'+(adec s p').2:Nat):Int)]}} a (w.putObj m.g (.stringIter ⟨s.toArray⟩ (p'+(adec s p').2))):=by
          refine h.setBox hb hm rfl rfl rfl (by simp [World.putObj]) rfl (fun k hk=>World.putObj_heap_other hk) (.inr ⟨c2,c1,k3,.inl ⟨c3,s,_,rfl,World.putObj_heap_same ?_⟩⟩)
          exact (Array.getElem?_eq_some_iff.1 k5).1
         have h2:=h1.put (d:=some d) (c:=.tup [.bool true,.int .i64 p',.int .i32 ((adec s p').1:Nat)]) (v:=.tuple #[.bool true,.int .i64 p',.int .i32 ((adec s p').1:Nat)]) (Rd.tup nm _ [.bool true,.int .i64 p',.int .i32 ((adec s p').1:Nat)] rfl (fun j c u hc hu=>by
          match j,hc,hu with
          | 0,hc,hu=>simp at hc hu;subst hc;subst hu;exact .bool _ _
          | 1,hc,hu=>simp at hc hu;subst hc;subst hu;exact .int _ _ _
          | 2,hc,hu=>simp at hc hu;subst hc;subst hu;exact .int _ _ _
          | j+3,hc,hu=>simp at hc)) (st':={st with env:=(d,.tup [.bool true,.int .i64 p',.int .i32 ((adec s p').1:Nat)])::st.env,heap:=hset st.heap i {b with es:=[.str s,.int .i64 ((p'+(adec s p').2:Nat):Int)]}}) (by simp only[St.put];rw[if_pos c5])
         simpa using h2
       ·rename_i hge
        simp only[Option.some.injEq] at he
        subst he
        have hge':¬p'<s.length:=by simpa using hge
        refine .inl ⟨.tuple #[.bool false],w,?_,nm,F,?_⟩
        ·have hsz:¬p'<(⟨s.toArray⟩:ByteArray).size:=by simpa [ByteArray.size] using hge'
         simp only[execOp,ho,hex,e0,Instr.next,Sem.run_bind,rgi_ k5,Result.andThen_ok,hsz,if_false,Sem.run_pure]
        ·rw[hd]
         exact h.put (d:=some d) (c:=.tup [.bool false]) (Rd.tup nm _ [.bool false] rfl (fun j c u hc hu=>by
          match j,hc,hu with
          | 0,hc,hu=>simp at hc hu;subst hc;subst hu;exact .bool _ _
          | j+1,hc,hu=>simp at hc)) (by simp only[St.put];rw[if_pos c5])
      ·omega
      ·omega
    ·cases he
   ·cases he
  ·cases he
 ·cases he
theorem ar_:∀{es:List AV} {bs:List UInt8} {us:List Value},a_ es=some bs→es.length=us.length→(∀(j:Nat) c u,es[j]? =some c→us[j]? =some u→Rd w F nm c u)→∃ns:List Int,us=ns.map (Value.int .u8)∧ns.map (fun n=>UInt8.ofNat n.toNat)=bs
 | [],bs,us,h,hl,_ =>by
  simp only[a_,Option.some.injEq] at h
  subst h
  exact⟨[],List.eq_nil_of_length_eq_zero hl.symm,rfl⟩
 | e::es,bs,[],h,hl,_ =>by simp at hl
 | e::es,bs,u::us,h,hl,hr=>by
  unfold a_ at h
  split at h
  ·cases ‹e::es=[]›
  ·rename_i n r heq
   simp only[List.cons.injEq] at heq
   obtain⟨rfl,rfl⟩:=heq
   split at h
   ·rename_i bs' hbs
    simp only[Option.some.injEq] at h
    subst h
    have h0:=hr 0 _ u rfl rfl
    cases h0
    obtain⟨ns,e1,e2⟩:=ar_ hbs (us:=us) (by simpa using hl) (fun j c u hc hu=>hr (j+1) c u (by simpa using hc) (by simpa using hu))
    exact⟨n::ns,by simp [e1],by simp [e2]⟩
   ·cases h
  ·cases h
theorem fp10:∀(ns:List Int) (s:ByteArray),ns.foldl (fun r n=>r.push (UInt8.ofNat n.toNat)) s=⟨s.data++(ns.map fun n=>UInt8.ofNat n.toNat).toArray⟩
 | [],s=>by apply ByteArray.ext;simp
 | n::ns,s=>by
  simp only[List.foldl_cons]
  rw[fp10 ns]
  apply ByteArray.ext
  simp [ByteArray.push]
theorem br11 (A:Option Addr) (cap:Nat) {es:List AV} {bs:List UInt8} (hb:a_ es=some bs) {us:List Value} (hl:us.length=es.length) (hr:∀(j:Nat) c u,es[j]? =some c→us[j]? =some u→Rd w F nm c u)
  (hA:A=none→es=[]) (hc:∀a,A=some a→∀j u,us[j]? =some u→w.cell? (a.add j)=some u):(Conv.bytesToString (.slice A es.length cap)).run P w= .ok (.string ⟨bs.toArray⟩) w:=by
 obtain⟨ns,e1,e2⟩:=ar_ hb hl.symm hr
 cases A with
 | none=>
  have:=hA rfl
  subst this
  simp only[a_,Option.some.injEq] at hb
  subst hb
  rfl
 | some ad=>
  have hload:=run_loadCells (P:=P) w ad es.length (fun j=>us.getD j Go.undef) (fun j hj=>by
   have hj':j<us.length:=by omega
   have:=hc ad rfl j _ (List.getElem?_eq_getElem hj')
   rw[this]
   simp [List.getD_eq_getElem?_getD,hj'])
  have e3:((List.range es.length).map fun j=>us.getD j Go.undef)=ns.map (Value.int .u8):=by
   rw[←e1,←hl]
   apply List.ext_getElem?
   intro j
   by_cases hj:j<us.length
   ·simp [hj]
   ·simp [hj]
  rw[e3] at hload
  rw[run_bytesToString w ad es.length cap ns hload,fp10,e2]
  simp
theorem as43 (h:RelX G C nm F st a w) {x c:AV} {u:Value} (hx:Rd w F nm x u) (hb:ab2s st.heap x=some c):∃r,(Conv.bytesToString u).run P w= .ok r w∧Rd w F nm c r:=by
 unfold ab2s at hb
 split at hb
 ·simp only[Option.some.injEq] at hb
  subst hb
  cases hx
  exact⟨_,rfl,.str _ _⟩
 ·rename_i es
  obtain⟨bs,hbs,rfl⟩:=Option.map_eq_some_iff.1 hb
  cases hx with
  | seq0 _ _ A cap=>
   simp only[a_,Option.some.injEq] at hbs
   subst hbs
   cases A with
   | none=>exact⟨_,rfl,.str _ _⟩
   | some ad=>exact⟨_,rfl,.str _ _⟩
  | seq _ _ _ g o cap us h0 hF hc hm hs hw h1 hr=>
   refine⟨_,br11 (P:=P) (w:=w) (F:=F) (nm:=nm) (some ⟨g,o,none⟩) cap hbs (us:=(List.range es.length).map us) (by simp) (fun j c u hc hu=>?_) (by simp) (fun ad ha j u hu=>?_),.str _ _⟩
   ·have hj:j<es.length:=(List.getElem?_eq_some_iff.1 hc).1
    simp only[List.getElem?_map,List.getElem?_range hj,Option.map_some,Option.some.injEq] at hu
    subst hu
    have hcl:=hs c (List.mem_of_getElem? hc)
    have hcc:c.cells[0]? =some c:=by
     cases c <;> first | rfl | skip
     exfalso
     rename_i cs
     -- an aggregate is no byte
     obtain⟨ns,e1,e2⟩:∃n:Int,(AV.agg cs)= .int .u8 n:=by
      have:∀{es:List AV} {bs:List UInt8},a_ es=some bs→∀(j:Nat) c,es[j]? =some c→∃n:Int,c= .int .u8 n:=by
       intro es
       induction es with
       | nil=>intro bs _ j c hc;simp at hc
       | cons e es ih=>
        intro bs h j c hc
        unfold a_ at h
        split at h
        ·cases ‹e::es=[]›
        ·rename_i n r heq
         simp only[List.cons.injEq] at heq
         obtain⟨rfl,rfl⟩:=heq
         split at h
         ·rename_i bs' hbs
          cases j with
          | zero=>simp at hc;exact⟨n,hc.symm⟩
          | succ j=>simp at hc;exact ih hbs j c hc
         ·cases h
        ·cases h
      exact this hbs j _ hc
    have:=hr j c 0 c hc hcc
    simpa using this.any nm
   ·cases ha
    have hj:j<es.length:=by have:=(List.getElem?_eq_some_iff.1 hu).1;simpa using this
    simp only[List.getElem?_map,List.getElem?_range hj,Option.map_some,Option.some.injEq] at hu
    subst hu
    rw[aa10]
    exact hw j (by omega)
 ·rename_i i k n
  split at hb
  ·rename_i b hbb
   split at hb
   ·rename_i hcond
    obtain⟨hrow,hsz,hkn⟩:=hcond
    obtain⟨bs,hbs,rfl⟩:=Option.map_eq_some_iff.1 hb
    have hlen:((b.es.drop k).take n).length=n:=by simp;omega
    have empty:n=0→bs=[]:=fun e=>by
     subst e
     simp only[List.take_zero,a_,Option.some.injEq] at hbs
     exact hbs.symm
    cases hx with
    | arr _ _ _ _ m hm hle hp=>
     rcases h.box i b hbb with ⟨hno,_⟩ | ⟨m1,hm1,hl⟩
     ·rw[hm] at hno;cases hno
     rw[hm] at hm1;cases hm1
     have hlc:=hl.c (by omega)
     obtain⟨cs,h4,h5,hf⟩:=hlc.flat hrow hkn
     have hms:m.sz=1:=by rw[hlc.1,hsz]
     rw[hsz,hms] at hf
     simp only[Nat.mul_one] at hf
     have key:=br11 (P:=P) (w:=w) (F:=F) (nm:=n_) (some ⟨m.g,k*m.sz,none⟩) (m.cap - k) hbs (us:=(cs.toList.drop k).take n) (by have:=hf.1;rw[this];omega) (fun j c u hc hu=>by
       have hcl:=hf.2.1 c (List.mem_of_getElem? hc)
       cases hcc:c.cells with
       | nil=>rw[hcc] at hcl;simp at hcl
       | cons c0 cr=>
        obtain⟨u',hu',hr'⟩:=hf.2.2.2 j c 0 c0 hc (by rw[hcc];rfl)
        simp only[Nat.mul_one,Nat.add_zero] at hu'
        rw[hu] at hu'
        cases hu'
        have:c0=c:=by
         cases c <;> simp only[AV.cells,List.cons.injEq] at hcc <;> first | exact hcc.1.symm | skip
         exfalso
         -- an aggregate is no byte
         have:∀{es:List AV} {bs:List UInt8},a_ es=some bs→∀(j:Nat) c,es[j]? =some c→∃n:Int,c= .int .u8 n:=by
          intro es
          induction es with
          | nil=>intro bs _ j c hc;simp at hc
          | cons e es ih=>
           intro bs h j c hc
           unfold a_ at h
           split at h
           ·cases ‹e::es=[]›
           ·rename_i n r heq
            simp only[List.cons.injEq] at heq
            obtain⟨rfl,rfl⟩:=heq
            split at h
            ·rename_i bs' hbs
             cases j with
             | zero=>simp at hc;exact⟨n,hc.symm⟩
             | succ j=>simp at hc;exact ih hbs j c hc
            ·cases h
           ·cases h
         obtain⟨_,e⟩:=this hbs j _ hc
         cases e
        subst this
        exact hr') (by simp) (fun ad ha j u hu=>by
       cases ha
       have hj:j<n:=by have:=(List.getElem?_eq_some_iff.1 hu).1;simp at this;omega
       rw[List.getElem?_take,if_pos hj,List.getElem?_drop] at hu
       rw[aa10,hms]
       simp only[World.cell?,h4,Option.isSome_none,Bool.false_eq_true,if_false,Nat.mul_one]
       simpa using hu)
     rw[hlen] at key
     exact⟨_,key,.str _ _⟩
    | arrE _ _ _ A cap hk=>
     rw[empty rfl]
     cases A with
     | none=>exact⟨_,rfl,.str _ _⟩
     | some ad=>exact⟨_,rfl,.str _ _⟩
    | arrN=>
     rw[empty rfl]
     exact⟨_,rfl,.str _ _⟩
   ·cases hb
  ·cases hb
 ·cases hb
end
end Go.Proofs.YtkejmcgngblfnaaGreatDoor.Ab
