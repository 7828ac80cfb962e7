/-
  Maps whose entries' numbers are known, entries that go, slices against nil: what the model's run gives is what the abstract operation says. No claim is proved here.
-/
import Derived.Test.YtkejmcgngblfnaaGreatDoorYAbStep9
import Derived.WideKeyEntry
import Derived.WalkSpells
namespace Go.Proofs.YtkejmcgngblfnaaGreatDoor.Ab
open Go Go.RowKit
set_option linter.unusedSimpArgs false
section
variable {P:Program} {G:Nat→Option AV} {C:Ctx} {nm:N_} {F:Nat→Prop} {st st':St} {a:Act} {w:World} {o:Oper}
theorem ms_ (h:RelX G C nm F st a w) {t:Nat} (ho:o.op= .makeMap t none) (he:(match o.dst with | some d=>st.new (some d) ⟨true,3,0,[]⟩ (.mapv d) | none=>none)=some st'):S_ P G C o a w st':=by
 split at he
 ·rename_i d hd
  refine .inl ⟨.map (some w.heap.size),w.alloc (.map #[] 0),?_,upd nm d (some ⟨w.heap.size,0,0,3⟩),F,?_⟩
  ·simp only[execOp,ho,Instr.makeMap,Option.map_none,Sem.run_bind,Sem.run_pure,Result.andThen_ok,run_newObj_alloc]
  ·rw[hd]
   refine h.new (m:=some ⟨w.heap.size,0,0,3⟩) he (h.keep.alloc _) (fun k hk=>Below.heap_alloc w _ k hk) (by simp) (fun m' hm=>by cases hm;exact Nat.le_refl _) ?_ ?_
   ·exact Rd.mapv (w:=w.alloc (.map #[] 0)) (F:=F) (upd nm d (some ⟨w.heap.size,0,0,3⟩)) d ⟨w.heap.size,0,0,3⟩ (if_pos rfl)
   ·exact .inr ⟨⟨w.heap.size,0,0,3⟩,if_pos rfl,.inr ⟨rfl,rfl,rfl,.inr (.inl ⟨.inr (Nat.le_refl _),#[],0,heap_alloc_new w _,rfl,(fun e he=>by simp at he),by simp,(fun j e he=>by simp at he),fun _ =>⟨rfl,fun j e he=>by simp at he⟩⟩)⟩⟩
 ·cases he
theorem rt_ {w:World} {x y:AV} {u v:Value} (h1:Rd w F nm x u) (h2:Rd w F nm y v):Rd w F nm (.tup [x,y]) (.tuple #[u,v]):=by
 refine Rd.tup nm [x,y] [u,v] rfl fun j c z hc hz=>?_
 match j,hc,hz with
 | 0,hc,hz=>cases hc;cases hz;exact h1
 | 1,hc,hz=>cases hc;cases hz;exact h2
theorem ms10 (h:RelX G C nm F st a w) {t:Nat} {x k:Operand} {ag:Bool} {ks:List Nat} {z:AV} {y j:Opd} (ho:o.op= .mapEntry t x k) (hc:c10 P (.mapEntry t x k) (.mentry ag ks z y j)=true)
  (he:a15 st o.dst ag ks z (st.ev G y) (st.ev G j)=some st'):S_ P G C o a w st':=by
 simp only[c10,Bool.and_eq_true] at hc
 obtain⟨⟨hx,hk⟩,hc⟩:=hc
 split at hc
 ·rename_i kt et ht
  simp only[Bool.and_eq_true,beq_iff_eq,decide_eq_true_eq] at hc
  obtain⟨⟨hag,hks⟩,hz⟩:=hc
  obtain⟨zv,hzrun,hzrep,_⟩:=zs_ hz
  have hxr:=h.opd hx
  have hkr:=h.opd hk
  generalize st.ev G y=xv at*
  generalize st.ev G j=kv at*
  generalize hxe:a.eval x=xu at*
  generalize hke:a.eval k=ku at*
  unfold a15 at he
  split at he
  ·rename_i i
   split at he
   ·rename_i b hb
    split at he
    ·rename_i hcond
     obtain⟨h0,h1,hko⟩:=hcond
     obtain⟨m,ents,clock,rfl,hnm,hheap,hE,hrow,hmsz,hborn,hnd,hst⟩:=ml_ h hxr hb h0 (.inr h1)
     have hck:=cs_ (P:=P) (em:=false) hkr hko hks hag
     have hk0:=hkr.clean (nm':=n_) (kc_ hko)
     split at he
     ·rename_i j old hf
      obtain⟨hjl,hst',⟨v',r1,hv'⟩,hold⟩:=mh_ (P:=P) hk0 hks hag hE hf
      obtain⟨g1,g2,g3,g4⟩:=em_ (f:=fun e=>{e with key:=ku}) (k:=kv) (v:=old) hE hborn hnd hst hjl (fun _ =>rfl) hk0 hold
      obtain⟨p1,p2⟩:=mp_ h hb hnm h0 hrow hmsz hheap (.inr h1) g1 g2 g3 g4
      have hb2:ents[j].born=b.ty - 3+j:=(hst h1).2 j _ (Array.getElem?_eq_getElem hjl)
      refine .inl ⟨.tuple #[v',goInt (ents[j].born:Nat)],{w with heap:=w.heap.setIfInBounds m.g (.map (ents.modify j fun e=>{e with key:=ku}) clock)},?_,nm,F,?_⟩
      ·simp only[execOp,ho,hxe,hke,Instr.mapEntry,Sem.run_bind,run_underlying ht,Result.andThen_ok,MapKept.run_getObj_map hheap,hck,r1]
       simp only[Array.getElem?_eq_getElem hjl,Option.map_some,Option.getD_some,hst',Result.andThen_ok,Sem.run_bind,MapKept.run_setObj_map _ hheap,Sem.run_pure]
      ·refine p1.put (rt_ ((p2 hv').any nm) ?_) he
       rw[hb2]
       exact .int _ _ _
     ·rename_i hf
      have r1:=mm_ (P:=P) hk0 hks hag hE hf
      obtain⟨g1,g2,g3,g4⟩:=ep11 (ku:=ku) (vu:=zv) hE hborn hnd hst hk0 (rr_ hzrep)
      obtain⟨p1,p2⟩:=mp_ h hb hnm h0 hrow hmsz hheap (.inr h1) g1 g2 g3 g4
      have hb2:clock=b.ty - 3+b.es.length:=by rw[(hst h1).1,hE.1];simp
      refine .inl ⟨.tuple #[zv,goInt (clock:Nat)],{w with heap:=w.heap.setIfInBounds m.g (.map (ents.push {key:=ku,val:=zv,born:=clock}) (clock+1))},?_,nm,F,?_⟩
      ·simp only[execOp,ho,hxe,hke,Instr.mapEntry,Sem.run_bind,run_underlying ht,Result.andThen_ok,MapKept.run_getObj_map hheap,hck,r1]
       simp only[hzrun,Result.andThen_ok,Sem.run_bind,MapKept.run_setObj_map _ hheap,Sem.run_pure]
      ·refine p1.put (rt_ (rr_ hzrep) ?_) he
       rw[hb2]
       exact .int _ _ _
     ·cases he
    ·cases he
   ·cases he
  ·cases he
 ·cases hc
theorem er_ (h:RelX G C nm F st a w) {t:Nat} {xv sv vv:AV} {xu su vu:Value} (hxr:Rd w F nm xv xu) (hsr:Rd w F nm sv su) (hvr:Rd w F nm vv vu) (he:a16 st xv sv vv=some st'):∃w',(Instr.entryStore t xu su vu).run P w= .ok () w'∧RelX G C nm F st' a w':=by
 unfold a16 at he
 split at he
 ·rename_i i kk n
  split at he
  ·rename_i b hb
   split at he
   ·rename_i hcond
    obtain⟨h0,h1,hcv,hn⟩:=hcond
    cases hsr
    obtain⟨m,ents,clock,rfl,hnm,hheap,hE,hrow,hmsz,hborn,hnd,hst⟩:=ml_ h hxr hb h0 (.inr h1)
    split at he
    ·rename_i k v0 hj
     cases he
     generalize hjd:(n - ((b.ty - 3:Nat):Int)).toNat=j at*
     have hjl:j<ents.size:=by
      have:=(List.getElem?_eq_some_iff.1 hj).1
      rw[hE.1] at this
      simpa using this
     obtain⟨k3,v3,q1,q2,q3⟩:=hE.2 j ents[j] (by simp [hjl])
     rw[hj] at q1
     cases q1
     obtain⟨g1,g2,g3,g4⟩:=em_ (f:=fun e=>{e with val:=vu}) (k:=k) (v:=vv) hE hborn hnd hst hjl (fun _ =>rfl) q2 (hvr.clean (nm':=n_) hcv)
     refine⟨{w with heap:=w.heap.setIfInBounds m.g (.map (ents.modify j fun e=>{e with val:=vu}) clock)},?_,(mp_ h hb hnm h0 hrow hmsz hheap (.inr h1) g1 g2 g3 g4).1⟩
     have hb2:ents[j].born=b.ty - 3+j:=(hst h1).2 j _ (Array.getElem?_eq_getElem hjl)
     have hnb:n=((ents[j].born:Nat):Int):=by rw[hb2];omega
     have hidx:ents.findIdx? (fun e=>((e.born:Nat):Int)==n)=some j:=by
      rw[hnb,WideElems.findIdx_arr]
      exact WideElems.findIdx_born hnd (by simp [hjl])
     simp only[Instr.entryStore,Sem.run_bind,MapKept.run_getObj_map hheap,Result.andThen_ok,asInt,asIntOf,Sem.run_pure,hidx]
     exact MapKept.run_setObj_map _ hheap
    ·cases he
   ·cases he
  ·cases he
 ·cases he
theorem ee_ {es:List AV} {ents:Array MapEntry} {clock ty j:Nat} (hE:E_ w F es ents.toList) (hborn:∀e∈ents.toList,e.born<clock) (hnd:(ents.toList.map (·.born)).Nodup) (hs:S10 ty ents clock) (hj:j<ents.size) {ty':Nat} (ht:(ty'=1∧ty=1)∨(j=0∧3≤ty∧ty'=ty+1)):
  E_ w F (es.eraseIdx j) (ents.eraseIdxIfInBounds j).toList∧(∀e∈(ents.eraseIdxIfInBounds j).toList,e.born<clock)∧((ents.eraseIdxIfInBounds j).toList.map (·.born)).Nodup∧S10 ty' (ents.eraseIdxIfInBounds j) clock:=by
 have hl:(ents.eraseIdxIfInBounds j).toList=ents.toList.eraseIdx j:=by
  rw[Array.eraseIdxIfInBounds,dif_pos hj,Array.toList_eraseIdx]
 have at_:∀(l:List MapEntry) (q:Nat),(l.eraseIdx j)[q]? =if q<j then l[q]? else l[q+1]? :=fun l q=>by rw[List.getElem?_eraseIdx]
 have hsub:(ents.toList.eraseIdx j).Sublist ents.toList:=List.eraseIdx_sublist _ _
 refine⟨⟨?_,fun q e he=>?_⟩,fun e he=>?_,?_,fun h3=>?_⟩
 ·rw[hl,List.length_eraseIdx,List.length_eraseIdx,hE.1]
 ·rw[hl,at_] at he
  rw[List.getElem?_eraseIdx]
  split at he
  ·rename_i hq;rw[if_pos hq];exact hE.2 q e he
  ·rename_i hq;rw[if_neg hq];exact hE.2 (q+1) e he
 ·rw[hl] at he
  exact hborn e (hsub.mem he)
 ·rw[hl]
  exact (hsub.map _).nodup hnd
 ·rcases ht with ⟨rfl,_⟩ | ⟨rfl,h4,rfl⟩
  ·omega
  ·obtain⟨s1,s2⟩:=hs h4
   have hsz:(ents.eraseIdxIfInBounds 0).size=ents.size - 1:=by
    rw[←Array.length_toList,hl,List.length_eraseIdx,if_pos (by simpa using hj),Array.length_toList]
   refine⟨by rw[hsz];omega,fun q e he=>?_⟩
   have he':(ents.toList.eraseIdx 0)[q]? =some e:=by rw[←hl,Array.getElem?_toList];exact he
   rw[at_,if_neg (by omega),Array.getElem?_toList] at he'
   rw[s2 (q+1) e he']
   omega
theorem ms18 (h:RelX G C nm F st a w) {args:Array Operand} {argTypes:Array Nat} {ag:Bool} {ks:List Nat} {y j:Opd} (ho:o.op= .call {callee:=.builtin .delete,args,argTypes})
  (hc:c10 P (.call {callee:=.builtin .delete,args,argTypes}) (.mdel ag ks y j)=true) (he:a41 st o.dst ag ks (st.ev G y) (st.ev G j)=some st'):S_ P G C o a w st':=by
 simp only[c10] at hc
 split at hc
 ·rename_i x k t ts hargs htys
  simp only[Bool.and_eq_true] at hc
  obtain⟨⟨hx,hk⟩,hc⟩:=hc
  split at hc
  ·rename_i kt et ht
   simp only[Bool.and_eq_true,beq_iff_eq,decide_eq_true_eq] at hc
   obtain⟨hag,hks⟩:=hc
   have hargs':args=#[x,k]:=by rw[←Array.toArray_toList (xs:=args),hargs]
   have htys':argTypes=(t::ts).toArray:=by rw[←Array.toArray_toList (xs:=argTypes),htys]
   have hxr:=h.opd hx
   have hkr:=h.opd hk
   have run:∀v' w',(Builtin.delete_ (t::ts).toArray o.type #[a.eval x,a.eval k]).run P w= .ok v' w'→(execOp a.eval o).run P w= .ok (.value v') w':=fun v' w' hr=>by
    simp only[execOp,ho,hargs',htys',resolve,invoke,builtin,Sem.run_bind,Sem.run_pure,Result.andThen_ok,List.map_toArray,List.map_cons,List.map_nil,hr]
   generalize st.ev G y=xv at*
   generalize st.ev G j=kv at*
   generalize hxe:a.eval x=xu at*
   generalize hke:a.eval k=ku at*
   unfold a41 at he
   split at he
   ·rename_i i
    split at he
    ·rename_i b hb
     split at he
     ·rename_i hcond
      obtain⟨h0,h1,hko⟩:=hcond
      obtain⟨m,ents,clock,rfl,hnm,hheap,hE,hrow,hmsz,hborn,hnd,hst⟩:=ml_ h hxr hb h0 h1
      have hck:=cs_ (P:=P) (em:=ents.isEmpty) hkr hko hks hag
      have hk0:=hkr.clean (nm':=n_) (kc_ hko)
      have ht0:(t::ts).toArray[0]? =some t:=rfl
      have gone:∀(q:Nat),q<ents.size→(∃v',(Instr.findKey kt ku ents.toList).run P w= .ok (some (q,v')) w)→
        (Builtin.delete_ (t::ts).toArray o.type #[.map (some m.g),ku]).run P w= .ok (.tuple #[]) {w with heap:=w.heap.setIfInBounds m.g (.map (ents.eraseIdxIfInBounds q) clock)}:=fun q hq ⟨v',r1⟩=>by
       simp [Builtin.delete_,run_underlying ht,MapKept.run_getObj_map hheap,hck,r1,MapKept.run_setObj_map _ hheap,Result.andThen]
      split at he
      ·rename_i q old hf
       obtain⟨hjl,_,⟨v',r1,_⟩,_⟩:=mh_ (P:=P) hk0 hks hag hE hf
       have hrun:=run _ _ (gone q hjl ⟨v',r1⟩)
       split at he
       ·rename_i h3
        obtain⟨g1,g2,g3,g4⟩:=ee_ (ty':=b.ty) hE hborn hnd hst hjl (.inl ⟨h3,h3⟩)
        exact .inl ⟨_,_,hrun,nm,F,(mp_ h hb hnm h0 hrow hmsz hheap h1 g1 g2 g3 g4).1.put (.tup _ [] [] rfl fun j c u hj=>by simp at hj) he⟩
       ·rename_i h3
        split at he
        ·rename_i h4
         subst h4
         have h5:3≤b.ty:=h1.resolve_left h3
         obtain⟨g1,g2,g3,g4⟩:=ee_ (ty':=b.ty+1) hE hborn hnd hst hjl (.inr ⟨rfl,h5,rfl⟩)
         exact .inl ⟨_,_,hrun,nm,F,(mp_ h hb hnm h0 hrow hmsz hheap (.inr (by omega)) g1 g2 g3 g4).1.put (.tup _ [] [] rfl fun j c u hj=>by simp at hj) he⟩
        ·cases he
      ·rename_i hf
       have r1:=mm_ (P:=P) hk0 hks hag hE hf
       have hself:w.heap.setIfInBounds m.g (.map ents clock)=w.heap:=by
        apply Array.ext_getElem?
        intro q
        rw[Array.getElem?_setIfInBounds]
        split
        ·rename_i e
         subst e
         split
         ·exact hheap.symm
         ·rename_i h6
          rw[Array.getElem?_eq_none (by omega)]
        ·rfl
       refine vs_ h (run _ _ ?_) (.tup _ [] [] rfl fun j c u hj=>by simp at hj) he
       simp [Builtin.delete_,run_underlying ht,MapKept.run_getObj_map hheap,hck,r1,MapKept.run_setObj_map _ hheap,Result.andThen,hself]
      ·cases he
     ·cases he
    ·cases he
   ·cases he
  ·cases hc
 ·cases hc
theorem en10 (op:BinOp) (t:TypeId) (x y:Operand) (u:Value) (w:World):(eqGuard op t x y u (.slice none 0 0)).run P w= .ok () w:=by
 cases op <;> cases u <;> simp [eqGuard]
theorem as38 {neg:Bool} {x c:AV} {u:Value} {t e:Nat} (hx:Rd w F nm x u) (h:aeqN neg x=some c) (ht:P.underlying t=some (.slice e)):
  ∃r,(binOp (if neg then .neq else .eql) t u (.slice none 0 0)).run P w= .ok r w∧Rd w F nm c r:=by
 have key:∀(a:Option Addr) (n cp:Nat),(binOp (if neg then .neq else .eql) t (.slice a n cp) (.slice none 0 0)).run P w= .ok (.bool (if neg then !a.isNone else a.isNone)) w:=fun a n cp=>by
  cases neg
  ·exact Lib.run_eql_slice_nil w t e a n cp 0 0 ht
  ·exact run_neq_slice_nil_any w t e a n cp 0 0 ht
 have yes:∀(a:Addr) (n cp:Nat),c= .bool neg→∃r,(binOp (if neg then .neq else .eql) t (.slice (some a) n cp) (.slice none 0 0)).run P w= .ok r w∧Rd w F nm c r:=fun a n cp hc=>by
  refine⟨_,key (some a) n cp,?_⟩
  rw[hc]
  cases neg <;> exact .bool _ _
 unfold aeqN at h
 split at h
 ·simp only[Option.some.injEq] at h
  cases hx
  refine⟨_,key none 0 0,?_⟩
  rw[←h]
  cases neg <;> exact .bool _ _
 ·simp only[Option.some.injEq] at h
  cases hx
  exact yes _ _ _ h.symm
 ·simp only[Option.some.injEq] at h
  cases hx
  exact yes _ _ _ h.symm
 ·simp only[Option.some.injEq] at h
  cases hx
  exact yes _ _ _ h.symm
 ·cases h
end
end Go.Proofs.YtkejmcgngblfnaaGreatDoor.Ab
