/-
  Walks over maps that nobody writes: what the model's run gives is what the abstract operation says. No claim is proved here.
-/
import Derived.Test.YtkejmcgngblfnaaGreatDoorYAbStep9
import Derived.Laws.IdiomRangeMap
namespace Go.Proofs.YtkejmcgngblfnaaGreatDoor.Ab
open Go Go.RowKit
set_option linter.unusedSimpArgs false
section
variable {P:Program} {G:Nat→Option AV} {C:Ctx} {nm:N_} {F:Nat→Prop} {st st':St} {a:Act} {w:World} {o:Oper}
theorem mc_ (h:RelX G C nm F st a w) {t kt et d:Nat} {es:List AV} {x:Operand} (ho:o.op= .range t x) (ht:P.underlying t=some (.map kt et)) (hd:o.dst=some d) (hxr:Rd w F nm (.mapc es) (a.eval x))
  (he:st.new (some d) ⟨true,2,0,.undef::es⟩ (.ref d 0 0)=some st'):S_ P G C o a w st':=by
 generalize hex:a.eval x=xv at hxr
 cases hxr with
 | mapc _ _ g ents clock hFg hh hbn hl htt hkk hvv=>
  have hlt:g<w.heap.size:=(Array.getElem?_eq_some_iff.1 hh).1
  have hb':(w.alloc (.mapIter (some g) clock #[] clock)).heap[g]? =some (.map ents clock):=by rw[Below.heap_alloc w _ g hlt];exact hh
  refine .inl ⟨.pointer (some ⟨w.heap.size,0,none⟩),w.alloc (.mapIter (some g) clock #[] clock),?_,upd nm d (some ⟨w.heap.size,0,0,2⟩),F,?_⟩
  ·simp only[execOp,ho,hex,run_range_map w t kt et g ents clock ht hh,Sem.run_bind,Result.andThen_ok,Sem.run_pure]
  ·rw[hd]
   refine h.new (m:=some ⟨w.heap.size,0,0,2⟩) he (h.keep.alloc _) (fun k hk=>Below.heap_alloc w _ k hk) (by simp) (fun m' hm=>by cases hm;exact Nat.le_refl _) ?_ ?_
   ·have:=Rd.ref (w:=w.alloc (.mapIter (some g) clock #[] clock)) (F:=F) (upd nm d (some ⟨w.heap.size,0,0,2⟩)) d 0 0 ⟨w.heap.size,0,0,2⟩ (if_pos rfl)
    simpa using this
   ·have hf:(ents.toList.filter fun e=>!(#[]:Array Nat).contains e.born)=ents.toList:=List.filter_eq_self.2 fun e _ =>by simp
    have hmono:∀{c:AV} {u:Value},Rd w F n_ c u→Rd (w.alloc (.mapIter (some g) clock #[] clock)) F n_ c u:=fun hr=>hr.mono (fun b hb=>Below.heap_alloc w _ b (h.good.1 b hb)) fun _ hb=>hb
    refine .inr ⟨⟨w.heap.size,0,0,2⟩,if_pos rfl,.inr ⟨rfl,rfl,rfl,.inr (.inr ⟨rfl,g,ents,clock,#[],.undef,es,hFg,hb',heap_alloc_new w _,hbn.1,hbn.2,rfl,?_,fun j e hje=>?_,.inl rfl⟩)⟩⟩
    ·rw[hf];simpa using hl
    ·rw[hf] at hje
     have he':ents[j]? =some e:=by simpa using hje
     have hj:j<es.length:=by rw[hl];exact (Array.getElem?_eq_some_iff.1 he').1
     obtain⟨k1,v1,e1⟩:=htt j es[j] (List.getElem?_eq_getElem hj)
     have e2:es[j]? =some (.tup [k1,v1]):=by rw[List.getElem?_eq_getElem hj,e1]
     exact⟨k1,v1,e2,hmono (hkk j e k1 v1 he' e2),hmono (hvv j e k1 v1 he' e2)⟩
theorem ms13 (h:RelX G C nm F st a w) {t kt et:Nat} {x:Operand} {p:Opd} (ho:o.op= .range t x) (ht:P.underlying t=some (.map kt et)) (hx:c_ x p=true) (he:a38 st o.dst (st.ev G p)=some st'):S_ P G C o a w st':=by
 have hxr:=h.opd hx
 generalize st.ev G p=pv at*
 unfold a38 at he
 split at he
 ·rename_i d es hd
  exact mc_ h ho ht hd hxr he
 ·rename_i d i hd
  split at he
  ·rename_i b hb
   split at he
   ·rename_i hc
    generalize hex:a.eval x=xv at hxr
    cases hxr with
    | mapv _ _ m hi=>
     rcases h.box i b hb with ⟨hn,_⟩ | ⟨m',hm',hl⟩
     ·rw[hi] at hn;cases hn
     rw[hi] at hm';cases hm'
     have hrow:b.row=true:=by
      rcases hl with hl | hl
      ·have:=hl.2.2.1;omega
      ·exact hl.2.1
     have hx2:Rd w (fun k=>F k∨∃m,nm i=some m∧m.g=k) nm (Ab.thaw i b (.mapv i)) (.map (some m.g)):=
      Rd.thaw (.mapv nm i m hi) (fun k hk=>.inl hk) hrow fun m2 hm2=>by rw[hi] at hm2;cases hm2;exact⟨hl,.inr ⟨m,hi,rfl⟩⟩
     have ex:Ab.thaw i b (.mapv i)= .mapc b.es:=by simp [Ab.thaw,hc]
     rw[ex] at hx2
     exact mc_ (h.thaw1 hb hrow) ho ht hd (by rw[hex];exact hx2) he
   ·cases he
  ·cases he
 ·cases he
theorem rnn_ (ty:TypeId) {r g clock:Nat} {seen:Array Nat} {es:Array MapEntry} (hr:w.heap[r]? =some (.mapIter (some g) clock seen clock)) (hb:w.heap[g]? =some (.map es clock)) (hold:∀x∈es.toList,x.born<clock)
  (hL:(es.filter fun e=>!seen.contains e.born)=#[]):(Instr.next (.pointer (some ⟨r,0,none⟩)) false ty).run P w= .ok (.tuple #[.bool false]) w:=by
 simp only[Instr.next,getObj,Sem.run_bind,Sem.run,hr,hb,Result.andThen,next_test_false seen es clock clock hold (Nat.le_refl _),Bool.false_eq_true,if_false,hL]
 simp [choose,Sem.run,Question.forced]
theorem rno_ (ty:TypeId) {r g clock:Nat} {seen:Array Nat} {es:Array MapEntry} {e:MapEntry} (hr:w.heap[r]? =some (.mapIter (some g) clock seen clock)) (hb:w.heap[g]? =some (.map es clock)) (hold:∀x∈es.toList,x.born<clock)
  (hL:(es.filter fun e=>!seen.contains e.born)=#[e]):(Instr.next (.pointer (some ⟨r,0,none⟩)) false ty).run P w= .ok (.tuple #[.bool true,e.key,e.val]) (w.putObj r (.mapIter (some g) clock (seen.push e.born) clock)):=by
 have hem:e∈(es.filter fun e=>!seen.contains e.born):=by rw[hL];simp
 have hlt:e.born<clock:=hold e (by simp at hem;simpa using hem.1)
 have e1:(#[e]:Array MapEntry).filter (fun x=>decide (x.born<clock))=#[e]:=Array.filter_eq_self.2 (fun x hx=>by simp at hx;subst hx;simpa using hlt)
 have e2:(#[e]:Array MapEntry).filter (fun x=>decide (x.born≥clock))=#[]:=by
  rw[Array.filter_eq_empty_iff]
  intro x hx
  simp at hx
  subst hx
  simp
  omega
 simp only[Instr.next,getObj,Sem.run_bind,Sem.run,hr,hb,Result.andThen,next_test_false seen es clock clock hold (Nat.le_refl _),Bool.false_eq_true,if_false,hL,e1,e2,Array.append_empty]
 simp [choose,Sem.run,Question.forced,setObj,hr,World.putObj]
theorem li_ {i:Nat} {b:Box} {u:Value} (h:RelX G C nm F st a w) (hx:Rd w F nm (.ref i 0 0) u) (hb:hget st.heap i=some b) (h0:b.sz=0) (h1:b.ty=2):∃m:Nm,u= .pointer (some ⟨m.g,0,none⟩)∧nm i=some m∧b.row=true∧m.sz=0∧I_ w F m b:=by
 cases hx with
 | ref _ _ _ _ m hm=>
  rcases h.box i b hb with ⟨hn,_⟩ | ⟨m',hm',hl⟩
  ·rw[hm] at hn;cases hn
  rw[hm] at hm';cases hm'
  rcases hl with hl | ⟨_,hrow,hmsz,⟨ht,_⟩ | ⟨ht,_⟩ | ⟨_,hi⟩⟩
  ·have:=hl.2.2.1;omega
  ·omega
  ·omega
  ·exact⟨m,by simp,hm,hrow,hmsz,hi⟩
theorem ms14 (h:RelX G C nm F st a w) {x:Operand} {p:Opd} (ho:o.op= .next x false) (hx:c_ x p=true) (he:a40 st o.dst (st.ev G p)=some st'):S_ P G C o a w st':=by
 have hxr:=h.opd hx
 generalize st.ev G p=pv at*
 unfold a40 at he
 split at he
 ·rename_i d i hd
  split at he
  ·rename_i b hb
   split at he
   ·rename_i hc
    obtain⟨c1,c2,c3⟩:=hc
    generalize hex:a.eval x=xv at hxr
    obtain⟨m,rfl,hm,hrow,hmsz,g,ents,clock,seen,cur,left,k0,k1,k2,k3,k4,k5,k6,k7,k8⟩:=li_ h hxr hb c1 c2
    have hfl:(ents.filter fun e=>!seen.contains e.born).toList=ents.toList.filter fun e=>!seen.contains e.born:=by simp
    split at he
    ·rename_i y hes
     rw[hes] at k5
     cases k5
     simp only[Option.some.injEq] at he
     subst he
     have hL:(ents.filter fun e=>!seen.contains e.born)=#[]:=by
      apply Array.toList_inj.1
      rw[hfl]
      exact List.eq_nil_of_length_eq_zero k6.symm
     refine .inl ⟨.tuple #[.bool false],w,?_,nm,F,?_⟩
     ·simp only[execOp,ho,hex,rnn_ _ k2 k1 k3 hL,Sem.run_bind,Result.andThen_ok,Sem.run_pure]
     ·rw[hd]
      exact h.put (d:=some d) (c:=.tup [.bool false]) (Rd.tup nm _ [.bool false] rfl (fun j c u hc hu=>by
       match j,hc,hu with
       | 0,hc,hu=>simp at hc hu;subst hc;subst hu;exact .bool _ _
       | j+1,hc,hu=>simp at hc)) (by simp only[St.put];rw[if_pos c3])
    ·rename_i y k v hes
     rw[hes] at k5
     cases k5
     simp only[Option.some.injEq] at he
     subst he
     obtain⟨e,hL'⟩:∃e,(ents.toList.filter fun e=>!seen.contains e.born)=[e]:=List.length_eq_one_iff.1 k6.symm
     have hL:(ents.filter fun e=>!seen.contains e.born)=#[e]:=by
      apply Array.toList_inj.1
      rw[hfl,hL']
     obtain⟨k',v',q1,q2,q3⟩:=k7 0 e (by rw[hL'];rfl)
     simp only[List.getElem?_cons_zero,Option.some.injEq,AV.tup.injEq,List.cons.injEq,and_true] at q1
     obtain⟨rfl,rfl⟩:=q1
     have hem:e∈ents.toList:=by
      have:e∈(ents.toList.filter fun e=>!seen.contains e.born):=by rw[hL'];exact List.mem_singleton.2 rfl
      exact (List.mem_filter.1 this).1
     have hmg:m.g≠g:=fun hh=>by rw[hh,k1] at k2;cases k2
     have hmlt:m.g<w.heap.size:=(Array.getElem?_eq_some_iff.1 k2).1
     have hFw:∀bl,F bl→(w.putObj m.g (.mapIter (some g) clock (seen.push e.born) clock)).heap[bl]? =w.heap[bl]? :=fun bl hbl=>World.putObj_heap_other fun hh=>h.fr i b m hb hm (hh ▸ hbl)
     have hmono:∀{c:AV} {u:Value},Rd w F n_ c u→Rd (w.putObj m.g (.mapIter (some g) clock (seen.push e.born) clock)) F n_ c u:=fun hr=>hr.mono hFw fun _ hb=>hb
     refine .inl ⟨.tuple #[.bool true,e.key,e.val],w.putObj m.g (.mapIter (some g) clock (seen.push e.born) clock),?_,nm,F,?_⟩
     ·simp only[execOp,ho,hex,rno_ _ k2 k1 k3 hL,Sem.run_bind,Result.andThen_ok,Sem.run_pure]
     ·rw[hd]
      have hnil:(ents.toList.filter fun x=>!(seen.push e.born).contains x.born)=[]:=by
       rw[List.filter_eq_nil_iff]
       intro x hx hxx
       simp only[Bool.not_eq_true',←Bool.not_eq_true] at hxx
       by_cases hs:seen.contains x.born=true
       ·exact hxx (by simp at hs ⊢;exact Or.inl hs)
       ·have:x∈(ents.toList.filter fun e=>!seen.contains e.born):=List.mem_filter.2 ⟨hx,by simpa using hs⟩
        rw[hL',List.mem_singleton] at this
        subst this
        exact hxx (by simp)
      have h1:RelX G C nm F {st with heap:=hset st.heap i {b with es:=[.tup [k,v]]}} a (w.putObj m.g (.mapIter (some g) clock (seen.push e.born) clock)):=by
       refine h.setBox hb hm rfl rfl rfl (by simp [World.putObj]) rfl (fun k hk=>World.putObj_heap_other hk) (.inr ⟨c1,hrow,hmsz,.inr (.inr ⟨c2,g,ents,clock,seen.push e.born,.tup [k,v],[],k0,by rw[World.putObj_heap_other (Ne.symm hmg)];exact k1,World.putObj_heap_same hmlt,k3,k4,rfl,by rw[hnil];rfl,fun j x hj=>by rw[hnil] at hj;simp at hj,.inr ⟨e,hem,by simp,k,v,rfl,hmono q2,hmono q3⟩⟩)⟩)
      have h2:=h1.put (d:=some d) (c:=.tup [.bool true,k,v]) (v:=.tuple #[.bool true,e.key,e.val]) (Rd.tup nm _ [.bool true,e.key,e.val] rfl (fun j c u hc hu=>by
       match j,hc,hu with
       | 0,hc,hu=>simp at hc hu;subst hc;subst hu;exact .bool _ _
       | 1,hc,hu=>simp at hc hu;subst hc;subst hu;exact (hmono q2).any nm
       | 2,hc,hu=>simp at hc hu;subst hc;subst hu;exact (hmono q3).any nm
       | j+3,hc,hu=>simp at hc)) (st':={st with env:=(d,.tup [.bool true,k,v])::st.env,heap:=hset st.heap i {b with es:=[.tup [k,v]]}}) (by simp only[St.put];rw[if_pos c3])
      simpa using h2
    ·cases he
   ·cases he
  ·cases he
 ·cases he
theorem ms17 (h:RelX G C nm F st a w) {x:Operand} {p:Opd} (ho:o.op= .entry x) (hx:c_ x p=true) {c:AV} (he:a32 st.heap (st.ev G p)=some c) (hp:st.put o.dst c=some st'):S_ P G C o a w st':=by
 have hxr:=h.opd hx
 generalize st.ev G p=pv at*
 unfold a32 at he
 split at he
 ·rename_i i
  split at he
  ·rename_i b hb
   split at he
   ·rename_i hc
    generalize hex:a.eval x=xv at hxr
    obtain⟨m,rfl,hm,hrow,hmsz,g,ents,clock,seen,cur,left,k0,k1,k2,k3,k4,k5,k6,k7,k8⟩:=li_ h hxr hb hc.1 hc.2
    split at he
    ·rename_i k v l hes
     rw[hes] at k5
     cases k5
     simp only[Option.some.injEq] at he
     subst he
     rcases k8 with k8 | ⟨e,a1,a2,k',v',a3,a4,a5⟩
     ·cases k8
     ·cases a3
      have hf:ents.find? (·.born==e.born)=some e:=by rw[←Array.find?_toList];exact find_born e ents.toList k4 a1
      refine vs_ h (v:=.tuple #[e.key,e.val]) ?_ (Rd.tup nm _ [e.key,e.val] rfl (fun j c u hc hu=>by
       match j,hc,hu with
       | 0,hc,hu=>simp at hc hu;subst hc;subst hu;exact a4.any nm
       | 1,hc,hu=>simp at hc hu;subst hc;subst hu;exact a5.any nm
       | j+2,hc,hu=>simp at hc)) hp
      have hrun:(Instr.entry (.pointer (some ⟨m.g,0,none⟩))).run P w= .ok (.tuple #[e.key,e.val]) w:=by
       simp only[Instr.entry,getObj,Sem.run_bind,Sem.run,k2,k1,Result.andThen,a2,bne_self_eq_false,Bool.false_eq_true,if_false,hf]
       rfl
      simp only[execOp,ho,hex,hrun,Sem.run_bind,Result.andThen_ok,Sem.run_pure]
    ·cases he
   ·cases he
  ·cases he
 ·cases he
end
end Go.Proofs.YtkejmcgngblfnaaGreatDoor.Ab
