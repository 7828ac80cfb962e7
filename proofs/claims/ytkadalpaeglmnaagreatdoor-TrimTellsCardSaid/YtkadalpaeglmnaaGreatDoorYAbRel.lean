/-
  Lemmas. No claim is proved here.
-/
import Derived.Test.YtkadalpaeglmnaaGreatDoorYAbOps
set_option linter.unusedSimpArgs false
namespace Go.Proofs.YtkadalpaeglmnaaGreatDoor.Ab
open Go Go.RowKit
theorem Rd.mono {w w':World} {F F':Nat→Prop} {nm:N_} {c:AV} {v:Value} (h:Rd w F nm c v)
  (hw:∀b,F b→w'.heap[b]? =w.heap[b]?) (hF:∀b,F b→F' b):Rd w' F' nm c v:=by
 induction h with
 | top nm v=>exact .top _ _
 | undef nm=>exact .undef _
 | bool nm b=>exact .bool _ _
 | int nm k n=>exact .int _ _ _
 | str nm s=>exact .str _ _
 | agg nm cs us hl h ih=>exact .agg _ _ _ hl ih
 | tup nm cs us hl h ih=>exact .tup _ _ _ hl ih
 | seq0 nm sz a cap=>exact .seq0 _ _ _ _
 | seq nm sz es g o cap u h0 hFg hc hm hs hw' h1 h ih=>
  exact .seq _ _ _ _ _ _ u h0 (hF _ hFg) hc hm hs (fun p hp=>by rw[World.cell?_of_block (w:=w) (hw g hFg)];exact hw' p hp) h1 ih
 | full nm sz es g o u h0 hFg hm hs hw' h1 h ih=>
  exact .full _ _ _ _ _ u h0 (hF _ hFg) hm hs (fun p hp=>by rw[World.cell?_of_block (w:=w) (hw g hFg)];exact hw' p hp) h1 ih
 | nils nm=>exact .nils _
 | arr nm i k n m hi hn hp=>exact .arr _ _ _ _ _ hi hn hp
 | arrE nm i k a cap hk=>exact .arrE _ _ _ _ _ hk
 | arrN nm i=>exact .arrN _ _
 | ref nm i k off m hi=>exact .ref _ _ _ _ _ hi
 | eptr nm e off g o u hFg hw' h1 h ih=>
  exact .eptr _ _ _ _ _ u (hF _ hFg) (fun p hp=>by rw[World.cell?_of_block (w:=w) (hw g hFg)];exact hw' p hp) h1 ih
 | nilp nm=>exact .nilp _
 | fn nm f cs us hl h ih=>exact .fn _ _ _ _ hl ih
 | nilfn nm=>exact .nilfn _
 | nili nm=>exact .nili _
 | iface nm t c u h ih=>exact .iface _ _ _ _ ih
 | mapv nm i m hi=>exact .mapv _ _ _ hi
 | nilm nm=>exact .nilm _
 | rawp nm b o=>exact .rawp _ _ _
 | mapc nm es g ents clock hFg hh hbn hl ht hk hv ihk ihv=>exact .mapc _ _ _ ents clock (hF _ hFg) (by rw[hw _ hFg];exact hh) hbn hl ht ihk ihv
theorem purge.go_len (i:Nat) (cs:List AV):(purge.go i cs).length=cs.length:=by
 induction cs with
 | nil=>rfl
 | cons c cs ih=>simp [purge.go,ih]
theorem purge.go_at (i:Nat) (cs:List AV) (j:Nat):(purge.go i cs)[j]? =cs[j]?.map (purge i):=by
 induction cs generalizing j with
 | nil=>simp [purge.go]
 | cons c cs ih=>cases j <;> simp [purge.go,ih]
theorem Rd.purge {w:World} {F:Nat→Prop} {nm nm':N_} {c:AV} {v:Value} {i:Nat} (h:Rd w F nm c v)
  (hn:∀j,j≠i→nm' j=nm j):Rd w F nm' (purge i c) v:=by
 induction h with
 | top nm v=>exact .top _ _
 | undef nm=>exact .undef _
 | bool nm b=>exact .bool _ _
 | int nm k n=>exact .int _ _ _
 | str nm s=>exact .str _ _
 | agg nm cs us hl h ih=>
  refine .agg _ _ _ (by rw[purge.go_len];exact hl) fun j c u hc hu=>?_;rw[purge.go_at] at hc;obtain⟨c',hc',rfl⟩:=zH.1 hc;exact ih j c' u hc' hu hn
 | tup nm cs us hl h ih=>
  refine .tup _ _ _ (by rw[purge.go_len];exact hl) fun j c u hc hu=>?_;rw[purge.go_at] at hc;obtain⟨c',hc',rfl⟩:=zH.1 hc;exact ih j c' u hc' hu hn
 | seq0 nm sz a cap=>exact .seq0 _ _ _ _
 | seq nm sz es g o cap u h0 hFg hc hm hs hw' h1 h ih=>exact .seq _ _ _ _ _ _ u h0 hFg hc hm hs hw' h1 h
 | full nm sz es g o u h0 hFg hm hs hw' h1 h ih=>exact .full _ _ _ _ _ u h0 hFg hm hs hw' h1 h
 | nils nm=>exact .nils _
 | arr nm j k n m hi hk hp=>
  unfold Ab.purge;split
  ·exact .top _ _
  ·rename_i hne;exact .arr _ _ _ _ _ (by rw[hn j hne];exact hi) hk hp
 | arrE nm j k a cap hk=>
  unfold Ab.purge;split
  ·exact .top _ _
  ·exact .arrE _ _ _ _ _ hk
 | arrN nm j=>
  unfold Ab.purge;split
  ·exact .top _ _
  ·exact .arrN _ _
 | ref nm j k off m hi=>
  unfold Ab.purge;split
  ·exact .top _ _
  ·rename_i hne;exact .ref _ _ _ _ _ (by rw[hn j hne];exact hi)
 | eptr nm e off g o u hFg hw' h1 h ih=>exact .eptr _ _ _ _ _ u hFg hw' h1 h
 | nilp nm=>exact .nilp _
 | fn nm f cs us hl h ih=>
  refine .fn _ _ _ _ (by rw[purge.go_len];exact hl) fun j c u hc hu=>?_;rw[purge.go_at] at hc;obtain⟨c',hc',rfl⟩:=zH.1 hc;exact ih j c' u hc' hu hn
 | nilfn nm=>exact .nilfn _
 | nili nm=>exact .nili _
 | iface nm t c u h ih=>exact .iface _ _ _ _ (ih hn)
 | mapv nm j m hi=>
  unfold Ab.purge;split
  ·exact .top _ _
  ·rename_i hne;exact .mapv _ _ _ (by rw[hn j hne];exact hi)
 | nilm nm=>exact .nilm _
 | rawp nm b o=>exact .rawp _ _ _
 | mapc nm es g ents clock hFg hh hbn hl ht hk hv ihk ihv=>exact .mapc _ _ _ ents clock hFg hh hbn hl ht hk hv
theorem Rd.named {w:World} {F:Nat→Prop} {nm:N_} {c:AV} {v:Value} (h:Rd w F nm c v) (hz:∀j,nm j=none) (nm':N_):Rd w F nm' c v:=by
 induction h with
 | top nm v=>exact .top _ _
 | undef nm=>exact .undef _
 | bool nm b=>exact .bool _ _
 | int nm k n=>exact .int _ _ _
 | str nm s=>exact .str _ _
 | agg nm cs us hl h ih=>exact .agg _ _ _ hl fun j c u hc hu=>ih j c u hc hu hz
 | tup nm cs us hl h ih=>exact .tup _ _ _ hl fun j c u hc hu=>ih j c u hc hu hz
 | seq0 nm sz a cap=>exact .seq0 _ _ _ _
 | seq nm sz es g o cap u h0 hFg hc hm hs hw' h1 h ih=>exact .seq _ _ _ _ _ _ u h0 hFg hc hm hs hw' h1 h
 | full nm sz es g o u h0 hFg hm hs hw' h1 h ih=>exact .full _ _ _ _ _ u h0 hFg hm hs hw' h1 h
 | nils nm=>exact .nils _
 | arr nm j k n m hi hk hp=>rw[hz] at hi;cases hi
 | arrE nm j k a cap hk=>exact .arrE _ _ _ _ _ hk
 | arrN nm j=>exact .arrN _ _
 | ref nm j k off m hi=>rw[hz] at hi;cases hi
 | eptr nm e off g o u hFg hw' h1 h ih=>exact .eptr _ _ _ _ _ u hFg hw' h1 h
 | nilp nm=>exact .nilp _
 | fn nm f cs us hl h ih=>exact .fn _ _ _ _ hl fun j c u hc hu=>ih j c u hc hu hz
 | nilfn nm=>exact .nilfn _
 | nili nm=>exact .nili _
 | iface nm t c u h ih=>exact .iface _ _ _ _ (ih hz)
 | mapv nm j m hi=>rw[hz] at hi;cases hi
 | nilm nm=>exact .nilm _
 | rawp nm b o=>exact .rawp _ _ _
 | mapc nm es g ents clock hFg hh hbn hl ht hk hv ihk ihv=>exact .mapc _ _ _ ents clock hFg hh hbn hl ht hk hv
theorem Rd.any {w:World} {F:Nat→Prop} {c:AV} {v:Value} (h:Rd w F n10 c v) (nm:N_):Rd w F nm c v:=h.named (fun _ =>rfl) nm
theorem Rd.cells_len {w:World} {F:Nat→Prop} {nm:N_} {c:AV} {v:Value} (h:Rd w F nm c v) (ht:c≠ .top):c.cells.length=v.cells.size:=by
 cases h <;> first | rfl | (exact absurd rfl ht) | skip
 case agg us hl h=>simp [AV.cells,Value.cells,hl]
theorem Rd.cell_at {w:World} {F:Nat→Prop} {nm:N_} {c:AV} {v:Value} (h:Rd w F nm c v) (ht:c≠ .top) {j:Nat} {x:AV} (hx:c.cells[j]? =some x):
  ∃u,v.cells[j]? =some u∧Rd w F nm x u:=by
 have one:∀{c:AV} {v:Value},Rd w F nm c v→c.cells=[c]→v.cells=#[v]→c.cells[j]? =some x→∃u,v.cells[j]? =some u∧Rd w F nm x u:=by
  intro c v h e1 e2 hx;rw[e1] at hx
  match j,hx with
  | 0,hx=>simp at hx;subst hx;exact⟨v,by rw[e2];rfl,h⟩
  | j+1,hx=>simp at hx
 cases hc:c with
 | agg cs=>
  subst hc;cases h with
  | agg _ _ us hl h=>
   simp only[AV.cells] at hx;have hj:j<cs.length:=(zZ.1 hx).1;rw[hl] at hj;exact⟨us[j],by simp [Value.cells,hj],h j x _ hx (zY hj)⟩
 | top=>exact absurd hc ht
 | _ =>
  subst hc;refine one h rfl ?_ hx;cases h <;> rfl
theorem hh_ (H:List (Nat×Box)) (i j:Nat) (b:Box):hget (hset H i b) j=if i=j then some b else hget H j:=by
 induction H with
 | nil=>simp [hset,hget]
 | cons x r ih=>
  obtain⟨k,c⟩:=x;simp only[hset];split
  ·rename_i h;subst h;simp only[hget];split <;> rfl
  ·rename_i h;simp only[hget,ih];split
   ·rename_i h2;subst h2;rw[zF (fun e=>h e.symm)]
   ·rfl
theorem hp_ (H:List (Nat×Box)) (i j:Nat):hget (p11 i H) j=if j=i then none else (hget H j).map (p10 i):=by
 induction H with
 | nil=>simp [p11,hget]
 | cons x r ih=>
  obtain⟨k,c⟩:=x;simp only[p11];split
  ·rename_i h;subst h;rw[ih];simp only[hget];split
   ·rfl
   ·rename_i h2;rw[zF (fun e=>h2 e.symm)]
  ·rename_i h;simp only[hget,ih];split
   ·rename_i h2;subst h2;rw[zF h];rfl
   ·rfl
theorem ht10 (H:List (Nat×Box)) (i j:Nat) (b:Box):hget (t38 i b H) j=if j=i then none else (hget H j).map (t37 i b):=by
 induction H with
 | nil=>simp [t38,hget]
 | cons x r ih=>
  obtain⟨k,c⟩:=x;simp only[t38];split
  ·rename_i h;subst h;rw[ih];simp only[hget];split
   ·rfl
   ·rename_i h2;rw[zF (fun e=>h2 e.symm)]
  ·rename_i h;simp only[hget,ih];split
   ·rename_i h2;subst h2;rw[zF h];rfl
   ·rfl
theorem ep_ (E:List (Nat×AV)) (i t:Nat):eget (p_ i E) t=purge i (eget E t):=by
 induction E with
 | nil=>simp [p_,eget,purge]
 | cons x r ih=>obtain⟨k,c⟩:=x;simp only[p_,eget,ih];split <;> rfl
theorem et10 (E:List (Nat×AV)) (i t:Nat) (b:Box):eget (t39 i b E) t=thaw i b (eget E t):=by
 induction E with
 | nil=>simp [t39,eget,thaw]
 | cons x r ih=>obtain⟨k,c⟩:=x;simp only[t39,eget,ih];split <;> rfl
theorem et_ (st:St) (ts:List Nat) (t:Nat):eget (st.trimE ts) t= .top∨eget (st.trimE ts) t=eget st.env t:=by
 induction ts with
 | nil=>exact .inl rfl
 | cons x ts ih=>
  simp only[St.trimE,eget];split
  ·rename_i h;subst h;exact .inr rfl
  ·exact ih
theorem ht11 (st:St) (is:List Nat) (i:Nat) (b:Box) (h:hget (st.trimH is) i=some b):hget st.heap i=some b:=by
 induction is with
 | nil=>simp [St.trimH,hget] at h
 | cons x is ih=>
  simp only[St.trimH] at h;split at h
  ·rename_i c hc;simp only[hget] at h;split at h
   ·rename_i e;subst e;rw[hc];exact h
   ·exact ih h
  ·exact ih h
theorem hf_ (N:Nat) (H:List (Nat×Box)) (i:Nat) (b:Box) (h:hget (f13 N H) i=some b):hget H i=some b:=by
 induction H with
 | nil=>simp [f13,hget] at h
 | cons x r ih=>
  obtain⟨j,c⟩:=x;simp only[f13] at h;split at h
  ·simp only[hget] at h ⊢;split
   ·rename_i e;rw[zG e] at h;exact h
   ·rename_i e;rw[zF e] at h;exact ih h
  ·rename_i hn;simp only[hget];split
   ·rename_i e;subst e;exfalso;have:∀(r:List (Nat×Box)),hget (f13 N r) j=none:=by
     intro r
     induction r with
     | nil=>rfl
     | cons y r ihr=>
      obtain⟨k,d⟩:=y;simp only[f13];split
      ·rename_i hk;simp only[hget];rw[zF (fun (e:k=j)=>hn (e ▸ hk))];exact ihr
      ·exact ihr
    rw[this] at h;cases h
   ·exact ih h
theorem hh10 (l r:List (Nat×Box)) (i:Nat):hget (happ l r) i=match hget l i with | some b=>some b | none=>hget r i:=by
 induction l with
 | nil=>rfl
 | cons x l ih=>
  obtain⟨j,c⟩:=x;simp only[happ,hget,ih];split <;> rfl
theorem ht_ (st:St) (kt kb:List Nat) (i:Nat) (b:Box) (h:hget (st.trim kt kb).heap i=some b):hget st.heap i=some b:=by
 simp only[St.trim,hh10] at h;split at h
 ·rename_i c hc;rw[h] at hc;exact ht11 _ _ _ _ hc
 ·exact hf_ _ _ _ _ h
def L_ (w:World) (F:Nat→Prop) (nm:N_) (m:Nm) (b:Box):Prop:=
 m.sz=b.sz∧m.ty=b.ty∧0<b.sz∧∃cs:Array Value,w.heap[m.g]? =some (.cells cs m.ty (0,0))∧cs.size=m.cap*m.sz∧b.es.length≤m.cap∧m.cap≤maxLen∧
  (∀e∈b.es,e.cells.length=b.sz)∧
  ∀(k:Nat) e (j:Nat) c,b.es[k]? =some e→e.cells[j]? =some c→∃u,cs[k*m.sz+j]? =some u∧u.oneCell'=true∧Rd w F (if b.row then n10 else nm) c u
def MapR (w:World) (F:Nat→Prop) (m:Nm) (b:Box):Prop:=
 ∃(ents:Array MapEntry) (clock:Nat),w.heap[m.g]? =some (.map ents clock)∧ents.size=b.es.length∧(∀e∈ents.toList,e.born<clock)∧(ents.toList.map (·.born)).Nodup∧
  (∀(j:Nat) e,ents[j]? =some e→∃k v,b.es[j]? =some (.tup [k,v])∧Rd w F n10 k e.key∧Rd w F n10 v e.val)∧
  (3≤b.ty→clock=b.ty - 3+ents.size∧∀(j:Nat) e,ents[j]? =some e→e.born=b.ty - 3+j)
def I_ (w:World) (F:Nat→Prop) (m:Nm) (b:Box):Prop:=
 ∃(g:Nat) (ents:Array MapEntry) (clock:Nat) (seen:Array Nat) (cur:AV) (left:List AV),F g∧w.heap[g]? =some (.map ents clock)∧w.heap[m.g]? =some (.mapIter (some g) clock seen clock)∧
  (∀e∈ents.toList,e.born<clock)∧(ents.toList.map (·.born)).Nodup∧b.es=cur::left∧left.length=(ents.toList.filter fun e=>!seen.contains e.born).length∧
  (∀(j:Nat) e,(ents.toList.filter fun e=>!seen.contains e.born)[j]? =some e→∃k v,left[j]? =some (.tup [k,v])∧Rd w F n10 k e.key∧Rd w F n10 v e.val)∧
  (cur= .undef∨∃e,e∈ents.toList∧seen.back? =some e.born∧∃k v,cur= .tup [k,v]∧Rd w F n10 k e.key∧Rd w F n10 v e.val)
def L10 (w:World) (F:Nat→Prop) (m:Nm) (b:Box):Prop:=
 b.sz=0∧b.row=true∧m.sz=0∧((b.ty=0∧∃(s:List UInt8) (p:Nat),b.es=[.str s,.int .i64 p]∧w.heap[m.g]? =some (.stringIter ⟨s.toArray⟩ p))∨((b.ty=1∨3≤b.ty)∧MapR w F m b)∨(b.ty=2∧I_ w F m b))
def Lies (w:World) (F:Nat→Prop) (nm:N_) (m:Nm) (b:Box):Prop:=L_ w F nm m b∨L10 w F m b
theorem Lies.c {w:World} {F:Nat→Prop} {nm:N_} {m:Nm} {b:Box} (h:Lies w F nm m b) (h0:0<b.sz):L_ w F nm m b:=by
 rcases h with h | h
 ·exact h
 ·exact absurd h.1 (by omega)
theorem Lies.v {w:World} {F:Nat→Prop} {nm:N_} {m:Nm} {b:Box} (h:Lies w F nm m b) (h0:b.row≠true):L_ w F nm m b:=by
 rcases h with h | h
 ·exact h
 ·exact absurd h.2.1 h0
theorem Lies.there {w:World} {F:Nat→Prop} {nm:N_} {m:Nm} {b:Box} (h:Lies w F nm m b):m.g<w.heap.size:=by
 rcases h with ⟨_,_,_,cs,hcs,_⟩ | ⟨_,_,_,⟨_,s,p,_,hs⟩ | ⟨_,e,c,hm,_⟩ | ⟨_,_,_,_,_,_,_,_,_,hm,_⟩⟩
 ·exact (yK.1 hcs).1
 ·exact (yK.1 hs).1
 ·exact (yK.1 hm).1
 ·exact (yK.1 hm).1
theorem L10.mono {w w':World} {F F':Nat→Prop} {m:Nm} {b:Box} (h:L10 w F m b) (hb:w'.heap[m.g]? =w.heap[m.g]?)
  (hw:∀b,F b→w'.heap[b]? =w.heap[b]?) (hF:∀b,F b→F' b):L10 w' F' m b:=by
 obtain⟨h1,h2,h3,⟨h4,s,p,h5,h6⟩ | ⟨h4,e,c,h5,h6,h7,h8,h9,h10⟩ | ⟨h4,g,ents,clock,seen,cur,left,k0,k1,k2,k3,k4,k5,k6,k7,k8⟩⟩:=h
 ·exact⟨h1,h2,h3,.inl ⟨h4,s,p,h5,by rw[hb];exact h6⟩⟩
 ·exact⟨h1,h2,h3,.inr (.inl ⟨h4,e,c,by rw[hb];exact h5,h6,h7,h8,fun j x hx=>let ⟨k,v,a1,a2,a3⟩:=h9 j x hx;⟨k,v,a1,a2.mono hw hF,a3.mono hw hF⟩,h10⟩)⟩
 ·refine⟨h1,h2,h3,.inr (.inr ⟨h4,g,ents,clock,seen,cur,left,hF _ k0,by rw[hw _ k0];exact k1,by rw[hb];exact k2,k3,k4,k5,k6,fun j x hx=>let ⟨k,v,a1,a2,a3⟩:=k7 j x hx;⟨k,v,a1,a2.mono hw hF,a3.mono hw hF⟩,?_⟩)⟩;rcases k8 with k8 | ⟨e,a1,a2,k,v,a3,a4,a5⟩
  ·exact .inl k8
  ·exact .inr ⟨e,a1,a2,k,v,a3,a4.mono hw hF,a5.mono hw hF⟩
def BoxR (w:World) (F:Nat→Prop) (nm:N_) (i:Nat) (b:Box):Prop:=
 (nm i=none∧b.es=[]∧b.row=true∧0<b.sz)∨∃m,nm i=some m∧Lies w F nm m b
theorem Lies.mono {w w':World} {F F':Nat→Prop} {nm:N_} {m:Nm} {b:Box} (h:Lies w F nm m b) (hb:w'.heap[m.g]? =w.heap[m.g]?)
  (hw:∀b,F b→w'.heap[b]? =w.heap[b]?) (hF:∀b,F b→F' b):Lies w' F' nm m b:=by
 rcases h with h | h
 case inr=>exact .inr (h.mono hb hw hF)
 obtain⟨h1,h2,h3,cs,h4,h5,h6,h7,h8,h9⟩:=h;refine .inl ⟨h1,h2,h3,cs,by rw[hb];exact h4,h5,h6,h7,h8,fun k e j c he hc=>?_⟩;obtain⟨u,hu,hu1,hr⟩:=h9 k e j c he hc;exact⟨u,hu,hu1,hr.mono hw hF⟩
theorem purge.go_cells (i:Nat) (e:AV):(purge i e).cells=purge.go i e.cells:=by cases e <;> first | rfl | (rename_i j k n;by_cases h:j=i <;> simp [purge,AV.cells,purge.go,h];done) | (rename_i j;by_cases h:j=i <;> simp [purge,AV.cells,purge.go,h])
theorem purge.cells_len (i:Nat) (e:AV):(purge i e).cells.length=e.cells.length:=by rw[purge.go_cells,purge.go_len]
theorem Lies.purge {w:World} {F:Nat→Prop} {nm nm':N_} {m:Nm} {b:Box} {i:Nat} (h:Lies w F nm m b) (hn:∀j,j≠i→nm' j=nm j):Lies w F nm' m (p10 i b):=by
 rcases h with h | h
 case inr=>exact .inr (by simp only[p10,h.2.1,xZ];exact h)
 obtain⟨h1,h2,h3,cs,h4,h5,h6,h7,h8,h9⟩:=h;unfold p10;split
 ·rename_i hr;refine .inl ⟨h1,h2,h3,cs,h4,h5,h6,h7,h8,fun k e j c he hc=>?_⟩;obtain⟨u,hu,hu1,hrd⟩:=h9 k e j c he hc;rw[zG hr] at hrd ⊢;exact⟨u,hu,hu1,hrd⟩
 ·rename_i hr;refine .inl ⟨h1,h2,h3,cs,h4,h5,by simpa [purge.go_len] using h6,h7,fun e he=>?_,fun k e j c he hc=>?_⟩
  ·obtain⟨k,hk⟩:=zN he;rw[purge.go_at] at hk;obtain⟨e',he',rfl⟩:=zH.1 hk;rw[purge.cells_len];exact h8 e' (List.mem_of_getElem? he')
  ·simp only at he;rw[purge.go_at] at he;obtain⟨e',he',rfl⟩:=zH.1 he;rw[purge.go_cells,purge.go_at] at hc;obtain⟨c',hc',rfl⟩:=zH.1 hc;obtain⟨u,hu,hu1,hrd⟩:=h9 k e' j c' he' hc';simp only[hr] at hrd ⊢;exact⟨u,hu,hu1,hrd.purge hn⟩
structure Ctx where
 w0:World
 F:Nat→Prop
 L:Nat→Prop
 V:Nat→Prop
 n0:N_
structure Kept (C:Ctx) (w:World):Prop where
 os:w.os=C.w0.os
 tape:w.tape=C.w0.tape
 output:w.output=C.w0.output
 size:C.w0.heap.size≤w.heap.size
 block:∀b,b<C.w0.heap.size→¬C.L b→w.heap[b]? =C.w0.heap[b]?
def W10 (w:World) (g:Nat) (e:AV):Prop:=∃arr t fz,w.heap[g]? =some (.cells arr t fz)∧arr.size=e.cells.length
def Good (w:World) (F:Nat→Prop) (G:Nat→Option AV):Prop:=
 (∀b,F b→b<w.heap.size)∧∀g e,G g=some e→Rd w F n10 (.eptr e 0) (.pointer (some ⟨g,0,none⟩))∧W10 w g e
theorem Rd.eptr_F {w:World} {F:Nat→Prop} {nm:N_} {e:AV} {off g o:Nat} (h:Rd w F nm (.eptr e off) (.pointer (some ⟨g,o,none⟩))):F g:=by cases h;assumption
structure RelX (G:Nat→Option AV) (C:Ctx) (nm:N_) (F:Nat→Prop) (st:St) (a:Act) (w:World):Prop where
 N:a.tmps.size=st.N
 df:a.defers=[]
 env:∀t,Rd w F nm (st.get t) (a.tmps.getD t undef)
 box:∀i b,hget st.heap i=some b→BoxR w F nm i b
 inj:∀i j b c m m',hget st.heap i=some b→hget st.heap j=some c→nm i=some m→nm j=some m'→m.g=m'.g→i=j
 fr:∀i b m,hget st.heap i=some b→nm i=some m→¬F m.g
 own:∀i b m,hget st.heap i=some b→nm i=some m→C.w0.heap.size≤m.g∨C.L m.g
 good:Good w F G
 f0:∀b,C.F b→F b
 fb:∀b,F b→C.F b∨C.w0.heap.size≤b∨C.L b
 keep:Kept C w
 vn:∀i,C.V i→st.N≤i∧nm i=C.n0 i∧∀b,hget st.heap i=some b→b.row=false
def Rel (G:Nat→Option AV) (C:Ctx) (st:St) (a:Act) (w:World):Prop:=∃nm F,RelX G C nm F st a w
section
variable {G:Nat→Option AV} {C:Ctx} {nm:N_} {F:Nat→Prop} {st:St} {a:Act} {w:World}
abbrev upd (nm:N_) (d:Nat) (m:Option Nm):N_:=fun j=>if j=d then m else nm j
theorem Good.mono {w':World} {F':Nat→Prop} (h:Good w F G) (hw:∀b,F b→w'.heap[b]? =w.heap[b]?) (hF:∀b,F b→F' b) (hs:∀b,F' b→b<w'.heap.size):Good w' F' G:=
 ⟨hs,fun g e he=>⟨(h.2 g e he).1.mono hw hF,by obtain⟨arr,t,fz,h1,h2⟩:=(h.2 g e he).2;exact⟨arr,t,fz,by rw[hw g (h.2 g e he).1.eptr_F];exact h1,h2⟩⟩⟩
theorem gp_ (tmps:Array Value) (d t:Nat) (v:Value) (hd:d<tmps.size):(tmps.setIfInBounds d v).getD t undef=if d=t then v else tmps.getD t undef:=by
 simp only[zL,uR,hd,xZ];split
 ·rename_i h;subst h;first | rfl | (rw[zG hd];rfl)
 ·rfl
theorem RelX.ev (h:RelX G C nm F st a w) {x:Operand} {y:Opd} (hx:match x,y with | .tmp t,.t n=>t=n | .func f,.f n=>f=n∧n<fnB | .global g,.g n=>g=n | .const v,.k c=>∀w F nm,Rd w F nm c v | _,_ =>False):
  Rd w F nm (st.ev G y) (a.eval x):=by
 cases x <;> cases y <;> simp only at hx
 ·subst hx;exact h.env _
 ·exact hx _ _ _
 ·subst hx;simp only[St.ev,Act.eval];split
  ·rename_i e he;exact (h.good.2 _ e he).1.any nm
  ·exact .top _ _
 ·obtain⟨rfl,hx⟩:=hx;rename_i n;have:=Rd.fn (w:=w) (F:=F) nm n [] [] rfl (by simp);rw[fp11 hx] at this;exact this
theorem RelX.put (h:RelX G C nm F st a w) {d:Option Nat} {c:AV} {v:Value} (hv:Rd w F nm c v) {st':St} (hp:st.put d c=some st'):RelX G C nm F st' (a.put d v) w:=by
 cases d with
 | none=>simp only[St.put,zJ] at hp;subst hp;exact h
 | some d=>
  simp only[St.put] at hp;split at hp
  ·rename_i hd;simp only[zJ] at hp;subst hp;refine⟨by simp [Act.put,h.N],h.df,fun t=>?_,h.box,h.inj,h.fr,h.own,h.good,h.f0,h.fb,h.keep,h.vn⟩;simp only[Act.put,St.get,eget];rw[gp_ _ _ _ _ (by rw[h.N];exact hd)];split
   ·exact hv
   ·exact h.env t
  ·cases hp
theorem RelX.world (h:RelX G C nm F st a w) {w':World} {F':Nat→Prop} (hk:Kept C w') (hF:∀b,F b→F' b) (hF':∀b,F' b→F b∨w.heap.size≤b) (hs:∀b,F' b→b<w'.heap.size)
  (hw:∀b,b<w.heap.size→w'.heap[b]? =w.heap[b]?):RelX G C nm F' st a w':=by
 have hFw:∀b,F b→w'.heap[b]? =w.heap[b]? :=fun b hb=>hw b (h.good.1 b hb);have lt:∀i b m,hget st.heap i=some b→nm i=some m→m.g<w.heap.size:=fun i b m hi hm=>by
  rcases h.box i b hi with ⟨hn,_⟩ | ⟨m',hm',hl⟩
  ·rw[hm] at hn;cases hn
  ·rw[hm] at hm';cases hm';exact hl.there
 refine⟨h.N,h.df,fun t=>(h.env t).mono hFw hF,fun i b hi=>?_,h.inj,fun i b m hi hm hf=>?_,h.own,h.good.mono hFw hF hs,fun b hb=>hF b (h.f0 b hb),fun b hb=>?_,hk,h.vn⟩
 ·rcases h.box i b hi with hn | ⟨m,hm,hl⟩
  ·exact .inl hn
  ·exact .inr ⟨m,hm,hl.mono (hw _ (lt i b m hi hm)) hFw hF⟩
 ·rcases hF' _ hf with h1 | h1
  ·exact h.fr i b m hi hm h1
  ·have:=lt i b m hi hm;omega
 ·rcases hF' b hb with h1 | h1
  ·exact h.fb b h1
  ·right;left;have:=h.keep.size;omega
theorem RelX.trim (h:RelX G C nm F st a w) (kt kb:List Nat):RelX G C nm F (st.trim kt kb) a w:=by
 refine⟨h.N,h.df,fun t=>?_,fun i b hi=>h.box i b (ht_ _ _ _ _ _ hi),fun i j b c m m' hi hj=>h.inj i j b c m m' (ht_ _ _ _ _ _ hi) (ht_ _ _ _ _ _ hj),
  fun i b m hi=>h.fr i b m (ht_ _ _ _ _ _ hi),fun i b m hi=>h.own i b m (ht_ _ _ _ _ _ hi),h.good,h.f0,h.fb,h.keep,fun i hi=>⟨(h.vn i hi).1,(h.vn i hi).2.1,fun b hb=>(h.vn i hi).2.2 b (ht_ _ _ _ _ _ hb)⟩⟩
 rcases et_ st kt t with e | e
 ·simp only[St.get,St.trim,e];exact .top _ _
 ·simp only[St.get,St.trim,e];exact h.env t
theorem RelX.trimEnv (h:RelX G C nm F st a w) (kt:List Nat):RelX G C nm F {st with env:=st.trimE kt} a w:=by
 refine⟨h.N,h.df,fun t=>?_,h.box,h.inj,h.fr,h.own,h.good,h.f0,h.fb,h.keep,h.vn⟩;rcases et_ st kt t with e | e
 ·simp only[St.get,e];exact .top _ _
 ·simp only[St.get,e];exact h.env t
theorem RelX.new (h:RelX G C nm F st a w) {d:Nat} {b:Box} {c:AV} {st':St} (hp:st.new (some d) b c=some st') {w':World} {v:Value} {m:Option Nm}
  (hk:Kept C w') (hw:∀k,k<w.heap.size→w'.heap[k]? =w.heap[k]?) (hs:w.heap.size≤w'.heap.size)
  (hm:∀m',m=some m'→w.heap.size≤m'.g)
  (hv:Rd w' F (upd nm d m) c v)
  (hb:BoxR w' F (upd nm d m) d b):RelX G C (upd nm d m) F st' (a.put (some d) v) w':=by
 have h':RelX G C nm F st a w':=h.world hk (fun _ h=>h) (fun _ h=>.inl h) (fun b hb=>xO (h.good.1 b hb) hs) hw;have hn:∀j,j≠d→upd nm d m j=nm j:=fun j hj=>zF hj;simp only[St.new] at hp;split at hp
 ·rename_i hd;simp only[zJ] at hp;subst hp;have get:∀i c,hget ((d,b)::p11 d st.heap) i=some c→(i=d∧c=b)∨(i≠d∧∃c',hget st.heap i=some c'∧c=p10 d c'):=by
   intro i c hi;simp only[hget] at hi;split at hi
   ·rename_i e;subst e;left;simp only[zJ] at hi;exact⟨rfl,hi.symm⟩
   ·rename_i e;rw[hp_,zF (fun x=>e x.symm)] at hi;obtain⟨c',hc',rfl⟩:=zH.1 hi;exact .inr ⟨fun x=>e x.symm,c',hc',rfl⟩
  have lt:∀i b m,hget st.heap i=some b→nm i=some m→m.g<w.heap.size:=fun i b m hi hm=>by
   rcases h.box i b hi with ⟨hn,_⟩ | ⟨m',hm',hl⟩
   ·rw[hm] at hn;cases hn
   ·rw[hm] at hm';cases hm';exact hl.there
  refine⟨by simp [Act.put,h.N],h.df,fun t=>?_,fun i c hi=>?_,fun i j c e m1 m2 hi hj h1 h2 hg=>?_,fun i c m1 hi h1 hf=>?_,fun i c m1 hi h1=>?_,h'.good,h.f0,h.fb,hk,fun i hi=>?_⟩
  ·simp only[Act.put,St.get,eget];rw[gp_ _ _ _ _ (by rw[h.N];exact hd)];split
   ·exact hv
   ·rw[ep_];exact (h'.env t).purge hn
  ·rcases get i c hi with ⟨rfl,rfl⟩ | ⟨hne,c',hc',rfl⟩
   ·exact hb
   ·rcases h'.box i c' hc' with ⟨e1,e2,e3,e4⟩ | ⟨m1,e1,hl⟩
    ·left;refine⟨by simp [upd,hne,e1],?_,?_,?_⟩ <;> simp [p10,e2,e3,e4]
    ·exact .inr ⟨m1,by simp [upd,hne,e1],hl.purge hn⟩
  ·rcases get i c hi with ⟨rfl,rfl⟩ | ⟨hne,c',hc',rfl⟩ <;> rcases get j e hj with ⟨rfl,rfl⟩ | ⟨hne2,e',he',rfl⟩
   ·rfl
   ·simp only[upd,hne2,xZ,yA] at h1 h2;have:=hm m1 h1;have:=lt j e' m2 he' h2;omega
   ·simp only[upd,hne,xZ,yA] at h1 h2;have:=hm m2 h2;have:=lt i c' m1 hc' h1;omega
   ·simp only[upd,hne,hne2,yA] at h1 h2;exact h.inj i j c' e' m1 m2 hc' he' h1 h2 hg
  ·rcases get i c hi with ⟨rfl,rfl⟩ | ⟨hne,c',hc',rfl⟩
   ·simp only[upd,xZ] at h1;have:=hm m1 h1;have:=h.good.1 _ hf;omega
   ·simp only[upd,hne,yA] at h1;exact h.fr i c' m1 hc' h1 hf
  ·rcases get i c hi with ⟨rfl,rfl⟩ | ⟨hne,c',hc',rfl⟩
   ·simp only[upd,xZ] at h1;left;have:=hm m1 h1;have:=h.keep.size;omega
   ·simp only[upd,hne,yA] at h1;exact h.own i c' m1 hc' h1
  ·obtain⟨v1,v2,v3⟩:=h.vn i hi;have hne:i≠d:=fun e=>by omega
   refine⟨v1,by simp only[upd,hne,yA];exact v2,fun c hc=>?_⟩;rcases get i c hc with ⟨e,_⟩ | ⟨_,c',hc',rfl⟩
   ·exact absurd e hne
   ·have:=v3 c' hc';simp [p10,this]
 ·cases hp
end
