/-
  Writing into a variable, into a row, and handing a row over. No claim is proved here.
-/
import Derived.Test.YtkejmcgngblfnaaGreatDoorYAbRel
namespace Go.Proofs.YtkejmcgngblfnaaGreatDoor.Ab
open Go Go.RowKit
theorem Rd.oneCell {w:World} {F:Nat→Prop} {nm:N_} {c:AV} {v:Value} (h:Rd w F nm c v) (h1:c21 c=true):v.oneCell'=true:=by
 cases h <;> first | rfl | (simp [c21] at h1)
theorem fs_ {v:AV} {n:Nat} (h:fits v n=true):v≠ .top∧v.cells.length=n∧∀c∈v.cells,c21 c=true:=by
 cases v <;> simp [fits,c21] at h <;> simp [AV.cells,c21]
 all_goals first | omega | exact⟨h.1,fun c hc=>h.2 c hc⟩
theorem sl_ (cs:List AV) (o:Nat) (ds:List AV):(s_ cs o ds).length=cs.length:=by
 induction cs generalizing o ds with
 | nil=>cases o <;> cases ds <;> rfl
 | cons c cs ih=>cases o <;> cases ds <;> simp [s_,ih]
theorem sa10 (cs:List AV) (o:Nat) (ds:List AV) (j:Nat) (h:o+ds.length≤cs.length):
  (s_ cs o ds)[j]? =if o≤j∧j<o+ds.length then ds[j - o]? else cs[j]? :=by
 induction cs generalizing o ds j with
 | nil=>
  have:ds=[]:=by simp at h;exact h.2
  subst this
  have hn:¬(o≤j∧j<o+([]:List AV).length):=by rw[List.length_nil];omega
  rw[if_neg hn]
  cases o <;> rfl
 | cons c cs ih=>
  cases o with
  | zero=>
   cases ds with
   | nil=>simp [s_]
   | cons d ds=>
    cases j with
    | zero=>simp [s_]
    | succ j=>
     simp only[s_,List.getElem?_cons_succ]
     rw[ih 0 ds j (by simp at h ⊢;omega)]
     simp only[List.length_cons,Nat.zero_le,true_and,Nat.zero_add,Nat.sub_zero,List.getElem?_cons_succ]
     by_cases hj:j<ds.length
     ·rw[if_pos hj,if_pos (by omega)]
     ·rw[if_neg hj,if_neg (by omega)]
  | succ o=>
   cases j with
   | zero=>cases ds <;> simp [s_]
   | succ j=>
    have e:s_ (c::cs) (o+1) ds=c::s_ cs o ds:=by cases ds <;> rfl
    rw[e,List.getElem?_cons_succ,ih o ds j (by simp at h ⊢;omega)]
    by_cases hj:o≤j∧j<o+ds.length
    ·rw[if_pos hj,if_pos (by omega)];congr 1;omega
    ·rw[if_neg hj,if_neg (by omega)];rfl
theorem rc10 {e:AV} {cs:List AV} {e':AV} (h:r16 e cs=some e'):e'.cells=cs:=by
 unfold r16 at h
 split at h
 ·simp only[Option.some.injEq] at h;subst h;rfl
 ·split at h
  ·rename_i hx
   simp only[Option.some.injEq] at h
   subst h
   unfold c21 at hx
   unfold AV.cells
   split <;> simp_all
  ·cases h
 ·cases h
section
variable {G:Nat→Option AV} {C:Ctx} {nm:N_} {F:Nat→Prop} {st:St} {a:Act} {w:World}
theorem RelX.lt (h:RelX G C nm F st a w) {i:Nat} {b:Box} {m:Nm} (hi:hget st.heap i=some b) (hm:nm i=some m):m.g<w.heap.size:=by
 rcases h.box i b hi with ⟨hn,_⟩ | ⟨m',hm',hl⟩
 ·rw[hm] at hn;cases hn
 ·rw[hm] at hm';cases hm';exact hl.there
theorem RelX.setBox (h:RelX G C nm F st a w) {i:Nat} {b b':Box} {m:Nm} (hi:hget st.heap i=some b) (hm:nm i=some m) {w':World}
  (hos:w'.os=w.os) (htape:w'.tape=w.tape) (hout:w'.output=w.output) (hsize:w'.heap.size=w.heap.size) (hbr:b'.row=b.row)
  (hw:∀k,k≠m.g→w'.heap[k]? =w.heap[k]?) (hl:Lies w' F nm m b'):RelX G C nm F {st with heap:=hset st.heap i b'} a w':=by
 have hFw:∀b,F b→w'.heap[b]? =w.heap[b]? :=fun k hk=>hw k (fun e=>h.fr i b m hi hm (e ▸ hk))
 have get:∀j c,hget (hset st.heap i b') j=some c→(j=i∧c=b')∨(j≠i∧hget st.heap j=some c):=by
  intro j c hj
  rw[hh_] at hj
  split at hj
  ·rename_i e;subst e;simp only[Option.some.injEq] at hj;exact .inl ⟨rfl,hj.symm⟩
  ·rename_i e;exact .inr ⟨fun x=>e x.symm,hj⟩
 have old:∀j c,hget (hset st.heap i b') j=some c→∃c',hget st.heap j=some c':=fun j c hj=>by
  rcases get j c hj with ⟨rfl,_⟩ | ⟨_,hj⟩
  ·exact⟨b,hi⟩
  ·exact⟨c,hj⟩
 refine⟨h.N,h.df,fun t=>(h.env t).mono hFw fun _ h=>h,fun j c hj=>?_,fun j k c d m1 m2 hj hk=>?_,fun j c m1 hj h1=>?_,fun j c m1 hj h1=>?_,
  h.good.mono hFw (fun _ h=>h) (fun b hb=>by rw[hsize];exact h.good.1 b hb),h.f0,h.fb,⟨hos.trans h.keep.os,htape.trans h.keep.tape,hout.trans h.keep.output,by rw[hsize];exact h.keep.size,fun k hk hL=>?_⟩,fun j hj=>⟨(h.vn j hj).1,(h.vn j hj).2.1,fun c hc=>?_⟩⟩
 ·rcases get j c hj with ⟨rfl,rfl⟩ | ⟨hne,hj⟩
  ·exact .inr ⟨m,hm,hl⟩
  ·rcases h.box j c hj with hn | ⟨m1,h1,hl1⟩
   ·exact .inl hn
   ·exact .inr ⟨m1,h1,hl1.mono (hw _ fun e=>hne (h.inj j i c b m1 m hj hi h1 hm e)) hFw fun _ h=>h⟩
 ·obtain⟨c',hc'⟩:=old j c hj
  obtain⟨d',hd'⟩:=old k d hk
  exact h.inj j k c' d' m1 m2 hc' hd'
 ·obtain⟨c',hc'⟩:=old j c hj
  exact h.fr j c' m1 hc' h1
 ·obtain⟨c',hc'⟩:=old j c hj
  exact h.own j c' m1 hc' h1
 ·rw[hw k,h.keep.block k hk hL]
  intro e
  subst e
  rcases h.own i b m hi hm with h1 | h1
  ·omega
  ·exact hL h1
 ·rcases get j c hc with ⟨rfl,rfl⟩ | ⟨_,hc⟩
  ·rw[hbr];exact (h.vn _ hj).2.2 b hi
  ·exact (h.vn j hj).2.2 c hc
theorem L_.seq {F':Nat→Prop} {m:Nm} {b:Box} (h:L_ w F nm m b) (hrow:b.row=true) (hF:∀b,F b→F' b) (hg:F' m.g) {k n:Nat} (hk:k+n≤b.es.length) (hp:0<n) (nm':N_):
  Rd w F' nm' (.seq b.sz ((b.es.drop k).take n)) (.slice (some ⟨m.g,k*m.sz,none⟩) n (m.cap - k)):=by
 obtain⟨h1,h2,h3,cs,h4,h5,h6,h7,h8,h9⟩:=h
 have hl:((b.es.drop k).take n).length=n:=by simp;omega
 have hel:∀i e,((b.es.drop k).take n)[i]? =some e→i<n∧b.es[k+i]? =some e:=fun i e he=>by
  rw[List.getElem?_take] at he
  split at he
  ·rename_i hi;rw[List.getElem?_drop] at he;exact⟨hi,he⟩
  ·cases he
 have hcell:∀p,p<n*m.sz→∃u,cs[k*m.sz+p]? =some u∧u.oneCell'=true:=fun p hp'=>by
  have hsz:0<m.sz:=by rw[h1];exact h3
  have hi:p / m.sz<n:=Nat.div_lt_of_lt_mul (by rw[Nat.mul_comm];exact hp')
  have hj:p % m.sz<m.sz:=Nat.mod_lt _ hsz
  have he:b.es[k+p / m.sz]? =some (b.es[k+p / m.sz]'(by omega)):=List.getElem?_eq_getElem (by omega)
  have hcl:=h8 _ (List.mem_of_getElem? he)
  have hc:(b.es[k+p / m.sz]'(by omega)).cells[p % m.sz]? =some ((b.es[k+p / m.sz]'(by omega)).cells[p % m.sz]'(by rw[hcl,←h1];exact hj)):=List.getElem?_eq_getElem _
  obtain⟨u,hu,hu1,_⟩:=h9 _ _ _ _ he hc
  refine⟨u,?_,hu1⟩
  rw[←hu]
  congr 1
  rw[Nat.add_mul,Nat.add_assoc,Nat.mul_comm (p / m.sz),Nat.div_add_mod]
 have key:=Rd.seq (w:=w) (F:=F') nm' b.sz ((b.es.drop k).take n) m.g (k*m.sz) (m.cap - k) (fun p=>cs.getD (k*m.sz+p) undef) h3 hg (by rw[hl];omega) (by omega)
  (fun e he=>h8 e (List.mem_of_mem_drop (List.mem_of_mem_take he)))
  (fun p hp'=>by
   rw[hl,←h1] at hp'
   obtain⟨u,hu,_⟩:=hcell p hp'
   simp [World.cell?,h4,Array.getD_eq_getD_getElem?,hu])
  (fun p hp'=>by
   rw[hl,←h1] at hp'
   obtain⟨u,hu,hu1⟩:=hcell p hp'
   simp only[Array.getD_eq_getD_getElem?,hu,Option.getD_some]
   exact hu1)
  (fun i e j c he hc=>by
   obtain⟨hi,he'⟩:=hel i e he
   obtain⟨u,hu,_,hr⟩:=h9 _ e j c he' hc
   rw[if_pos hrow] at hr
   have e1:(k+i)*m.sz+j=k*m.sz+(i*b.sz+j):=by rw[Nat.add_mul,h1,Nat.add_assoc]
   rw[e1] at hu
   simp only[Array.getD_eq_getD_getElem?,hu,Option.getD_some]
   exact hr.mono (fun _ _ =>rfl) hF)
 rw[hl] at key
 exact key
theorem thaw.go_len (i:Nat) (b:Box) (cs:List AV):(thaw.go i b cs).length=cs.length:=by
 induction cs with
 | nil=>rfl
 | cons c cs ih=>simp [thaw.go,ih]
theorem thaw.go_at (i:Nat) (b:Box) (cs:List AV) (j:Nat):(thaw.go i b cs)[j]? =cs[j]?.map (thaw i b):=by
 induction cs generalizing j with
 | nil=>simp [thaw.go]
 | cons c cs ih=>cases j <;> simp [thaw.go,ih]
theorem thaw.go_cells (i:Nat) (b:Box) (e:AV):(thaw i b e).cells=thaw.go i b e.cells:=by
 cases e <;> first | rfl | (rename_i j k n;by_cases h:j=i <;> by_cases h2:0<b.sz∧k+n≤b.es.length <;> simp [thaw,AV.cells,thaw.go,h,h2]) | (rename_i j;by_cases h:j=i <;> by_cases h2:b.sz=0∧(b.ty=1∨3≤b.ty) <;> simp [thaw,AV.cells,thaw.go,h,h2])
theorem Rd.thaw {F':Nat→Prop} {c:AV} {v:Value} {i:Nat} {b:Box} (h:Rd w F nm c v) (hF:∀b,F b→F' b) (hrow:b.row=true)
  (hb:∀m,nm i=some m→Lies w F nm m b∧F' m.g):Rd w F' nm (Ab.thaw i b c) v:=by
 induction h with
 | top nm v=>exact .top _ _
 | undef nm=>exact .undef _
 | bool nm b=>exact .bool _ _
 | int nm k n=>exact .int _ _ _
 | str nm s=>exact .str _ _
 | agg nm cs us hl h ih=>
  refine .agg _ _ _ (by rw[thaw.go_len];exact hl) fun j c u hc hu=>?_
  rw[thaw.go_at] at hc
  obtain⟨c',hc',rfl⟩:=Option.map_eq_some_iff.1 hc
  exact ih j c' u hc' hu hb
 | tup nm cs us hl h ih=>
  refine .tup _ _ _ (by rw[thaw.go_len];exact hl) fun j c u hc hu=>?_
  rw[thaw.go_at] at hc
  obtain⟨c',hc',rfl⟩:=Option.map_eq_some_iff.1 hc
  exact ih j c' u hc' hu hb
 | seq0 nm sz a cap=>exact .seq0 _ _ _ _
 | seq nm sz es g o cap u h0 hFg hc hm hs hw' h1 h ih=>exact .seq _ _ _ _ _ _ u h0 (hF _ hFg) hc hm hs hw' h1 fun k e j c he hc=>(h k e j c he hc).mono (fun _ _ =>rfl) hF
 | full nm sz es g o u h0 hFg hm hs hw' h1 h ih=>exact .full _ _ _ _ _ u h0 (hF _ hFg) hm hs hw' h1 fun k e j c he hc=>(h k e j c he hc).mono (fun _ _ =>rfl) hF
 | nils nm=>exact .nils _
 | arr nm j k n m hi hk hp=>
  unfold Ab.thaw
  split
  ·rename_i e
   subst e
   split
   ·rename_i hle
    obtain⟨hl,hg⟩:=hb m hi
    by_cases h0:0<n
    ·exact (hl.c hle.1).seq hrow hF hg hle.2 h0 nm
    ·obtain rfl:n=0:=by omega
     simp only[List.take_zero]
     exact .seq0 _ _ _ _
   ·exact .top _ _
  ·exact .arr _ _ _ _ _ hi hk hp
 | arrE nm j k a cap hk=>
  unfold Ab.thaw
  split
  ·split
   ·simp only[List.take_zero];exact .seq0 _ _ _ _
   ·exact .top _ _
  ·exact .arrE _ _ _ _ _ hk
 | arrN nm j=>
  unfold Ab.thaw
  split
  ·split
   ·simp only[List.take_zero];exact .seq0 _ _ _ _
   ·exact .top _ _
  ·exact .arrN _ _
 | ref nm j k off m hi=>exact .ref _ _ _ _ _ hi
 | eptr nm e off g o u hFg hw' h1 h ih=>exact .eptr _ _ _ _ _ u (hF _ hFg) hw' h1 fun j c hc=>(h j c hc).mono (fun _ _ =>rfl) hF
 | nilp nm=>exact .nilp _
 | fn nm f cs us hl h ih=>
  refine .fn _ _ _ _ (by rw[thaw.go_len];exact hl) fun j c u hc hu=>?_
  rw[thaw.go_at] at hc
  obtain⟨c',hc',rfl⟩:=Option.map_eq_some_iff.1 hc
  exact ih j c' u hc' hu hb
 | nilfn nm=>exact .nilfn _
 | nili nm=>exact .nili _
 | iface nm t c u h ih=>exact .iface _ _ _ _ (ih hb)
 | mapv nm j m hi=>
  unfold Ab.thaw
  split
  ·rename_i e
   subst e
   split
   ·rename_i hc
    obtain⟨hl,hg⟩:=hb m hi
    rcases hl with hl | ⟨_,_,_,⟨ht,_⟩ | ⟨_,ents,clock,q1,q2,q3,q4,q5,_⟩ | ⟨ht,_⟩⟩
    ·have:=hl.2.2.1;omega
    ·omega
    ·refine .mapc _ _ _ ents clock hg q1 ⟨q3,q4⟩ q2.symm (fun j x hx=>?_) (fun j e k v h1 h2=>?_) (fun j e k v h1 h2=>?_)
     ·have hj:j<ents.size:=by rw[q2];exact (List.getElem?_eq_some_iff.1 hx).1
      obtain⟨k,v,e1,_⟩:=q5 j ents[j] (Array.getElem?_eq_getElem hj)
      rw[hx] at e1
      exact⟨k,v,Option.some.inj e1⟩
     ·obtain⟨k',v',e1,e2,_⟩:=q5 j e h1
      rw[h2] at e1
      simp only[Option.some.injEq,AV.tup.injEq,List.cons.injEq,and_true] at e1
      rw[e1.1]
      exact e2.mono (fun _ _ =>rfl) hF
     ·obtain⟨k',v',e1,_,e3⟩:=q5 j e h1
      rw[h2] at e1
      simp only[Option.some.injEq,AV.tup.injEq,List.cons.injEq,and_true] at e1
      rw[e1.2]
      exact e3.mono (fun _ _ =>rfl) hF
    ·omega
   ·exact .top _ _
  ·exact .mapv _ _ _ hi
 | nilm nm=>exact .nilm _
 | rawp nm b o=>exact .rawp _ _ _
 | mapc nm es g ents clock hFg hh hbn hl ht hk hv ihk ihv=>exact .mapc _ _ _ ents clock (hF _ hFg) hh hbn hl ht (fun j e k v h1 h2=>(hk j e k v h1 h2).mono (fun _ _ =>rfl) hF) (fun j e k v h1 h2=>(hv j e k v h1 h2).mono (fun _ _ =>rfl) hF)
theorem Lies.thaw {F':Nat→Prop} {m:Nm} {i:Nat} {b c:Box} (h:Lies w F nm m c) (hF:∀b,F b→F' b) (hrow:b.row=true) (hb:∀m,nm i=some m→Lies w F nm m b∧F' m.g):
  Lies w F' nm m (t14 i b c):=by
 rcases h with h | h
 case inr=>exact .inr (by simp only[t14,h.2.1,if_true];exact h.mono rfl (fun _ _ =>rfl) hF)
 obtain⟨h1,h2,h3,cs,h4,h5,h6,h7,h8,h9⟩:=h
 unfold t14
 split
 ·rename_i hr
  refine .inl ⟨h1,h2,h3,cs,h4,h5,h6,h7,h8,fun k e j c he hc=>?_⟩
  obtain⟨u,hu,hu1,hrd⟩:=h9 k e j c he hc
  rw[if_pos hr] at hrd ⊢
  exact⟨u,hu,hu1,hrd.mono (fun _ _ =>rfl) hF⟩
 ·rename_i hr
  refine .inl ⟨h1,h2,h3,cs,h4,h5,by simpa [thaw.go_len] using h6,h7,fun e he=>?_,fun k e j c he hc=>?_⟩
  ·obtain⟨k,hk⟩:=List.getElem?_of_mem he
   rw[thaw.go_at] at hk
   obtain⟨e',he',rfl⟩:=Option.map_eq_some_iff.1 hk
   rw[thaw.go_cells,thaw.go_len]
   exact h8 e' (List.mem_of_getElem? he')
  ·simp only at he
   rw[thaw.go_at] at he
   obtain⟨e',he',rfl⟩:=Option.map_eq_some_iff.1 he
   rw[thaw.go_cells,thaw.go_at] at hc
   obtain⟨c',hc',rfl⟩:=Option.map_eq_some_iff.1 hc
   obtain⟨u,hu,hu1,hrd⟩:=h9 k e' j c' he' hc'
   simp only[hr] at hrd ⊢
   exact⟨u,hu,hu1,hrd.thaw hF hrow hb⟩
theorem RelX.thaw1 (h:RelX G C nm F st a w) {i:Nat} {b:Box} (hi:hget st.heap i=some b) (hrow:b.row=true):
  RelX G C nm (fun k=>F k∨∃m,nm i=some m∧m.g=k) (st.thaw1 i) a w:=by
 have hF:∀k,F k→(fun k=>F k∨∃m,nm i=some m∧m.g=k) k:=fun k hk=>.inl hk
 have hb:∀m,nm i=some m→Lies w F nm m b∧(fun k=>F k∨∃m,nm i=some m∧m.g=k) m.g:=fun m hm=>by
  refine⟨?_,.inr ⟨m,hm,rfl⟩⟩
  rcases h.box i b hi with ⟨hn,_⟩ | ⟨m',hm',hl⟩
  ·rw[hm] at hn;cases hn
  ·rw[hm] at hm';cases hm';exact hl
 have get:∀j c,hget (st.thaw1 i).heap j=some c→j≠i∧∃c',hget st.heap j=some c'∧c=t14 i b c':=by
  intro j c hj
  simp only[St.thaw1,hi] at hj
  rw[ht10] at hj
  split at hj
  ·cases hj
  ·rename_i hne
   obtain⟨c',hc',rfl⟩:=Option.map_eq_some_iff.1 hj
   exact⟨hne,c',hc',rfl⟩
 refine⟨by simp [St.thaw1,hi,h.N],h.df,fun t=>?_,fun j c hj=>?_,fun j k c d m1 m2 hj hk=>?_,fun j c m1 hj h1 hf=>?_,fun j c m1 hj h1=>?_,
  h.good.mono (fun _ _ =>rfl) hF (fun k hk=>?_),fun k hk=>.inl (h.f0 k hk),fun k hk=>?_,h.keep,fun j hj=>⟨by simp [St.thaw1,hi];exact (h.vn j hj).1,(h.vn j hj).2.1,fun c hc=>?_⟩⟩
 ·simp only[St.get,St.thaw1,hi,et10]
  exact (h.env t).thaw hF hrow hb
 ·obtain⟨hne,c',hc',rfl⟩:=get j c hj
  rcases h.box j c' hc' with ⟨e1,e2,e3,e4⟩ | ⟨m1,e1,hl⟩
  ·left
   refine⟨e1,?_,?_,?_⟩ <;> simp [t14,e2,e3,e4]
  ·exact .inr ⟨m1,e1,hl.thaw hF hrow hb⟩
 ·obtain⟨_,c',hc',rfl⟩:=get j c hj
  obtain⟨_,d',hd',rfl⟩:=get k d hk
  exact h.inj j k c' d' m1 m2 hc' hd'
 ·obtain⟨hne,c',hc',rfl⟩:=get j c hj
  rcases hf with hf | ⟨m,hm,e⟩
  ·exact h.fr j c' m1 hc' h1 hf
  ·exact hne (h.inj j i c' b m1 m hc' hi h1 hm e.symm)
 ·obtain⟨hne,c',hc',rfl⟩:=get j c hj
  exact h.own j c' m1 hc' h1
 ·rcases hk with hk | ⟨m,hm,rfl⟩
  ·exact h.good.1 k hk
  ·exact h.lt hi hm
 ·rcases hk with hk | ⟨m,hm,rfl⟩
  ·exact h.fb k hk
  ·exact .inr (h.own i b m hi hm)
 ·obtain⟨_,c',hc',rfl⟩:=get j c hc
  have:=(h.vn j hj).2.2 c' hc'
  simp [t14,this]
end
end Go.Proofs.YtkejmcgngblfnaaGreatDoor.Ab
