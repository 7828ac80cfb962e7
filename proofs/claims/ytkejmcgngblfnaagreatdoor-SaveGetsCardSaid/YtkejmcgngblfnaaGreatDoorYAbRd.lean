/-
  How a reading of values goes over to later worlds and other names. No claim is proved here.
-/
import Derived.Test.YtkejmcgngblfnaaGreatDoorYAbOps
namespace Go.Proofs.YtkejmcgngblfnaaGreatDoor.Ab
open Go Go.RowKit
theorem Rd.mono {w w':World} {F F':Nat→Prop} {nm:N_} {c:AV} {v:Value} (h:Rd w F nm c v)
  (hw:∀b,F b→w'.heap[b]? =w.heap[b]?) (hF:∀b,F b→F' b):Rd w' F' nm c v:=by
 induction h with
 | top nm v=>exact .top _ _
 | undef nm=>exact .undef _
 | bool nm b=>exact .bool _ _
 | int nm k n=>exact .int _ _ _
 | str nm s=>exact .str _ _
 | agg nm cs us hl h ih=>exact .agg _ _ _ hl ih
 | tup nm cs us hl h ih=>exact .tup _ _ _ hl ih
 | seq0 nm sz a cap=>exact .seq0 _ _ _ _
 | seq nm sz es g o cap u h0 hFg hc hm hs hw' h1 h ih=>
  exact .seq _ _ _ _ _ _ u h0 (hF _ hFg) hc hm hs (fun p hp=>by rw[World.cell?_of_block (w:=w) (hw g hFg)];exact hw' p hp) h1 ih
 | full nm sz es g o u h0 hFg hm hs hw' h1 h ih=>
  exact .full _ _ _ _ _ u h0 (hF _ hFg) hm hs (fun p hp=>by rw[World.cell?_of_block (w:=w) (hw g hFg)];exact hw' p hp) h1 ih
 | nils nm=>exact .nils _
 | arr nm i k n m hi hn hp=>exact .arr _ _ _ _ _ hi hn hp
 | arrE nm i k a cap hk=>exact .arrE _ _ _ _ _ hk
 | arrN nm i=>exact .arrN _ _
 | ref nm i k off m hi=>exact .ref _ _ _ _ _ hi
 | eptr nm e off g o u hFg hw' h1 h ih=>
  exact .eptr _ _ _ _ _ u (hF _ hFg) (fun p hp=>by rw[World.cell?_of_block (w:=w) (hw g hFg)];exact hw' p hp) h1 ih
 | nilp nm=>exact .nilp _
 | fn nm f cs us hl h ih=>exact .fn _ _ _ _ hl ih
 | nilfn nm=>exact .nilfn _
 | nili nm=>exact .nili _
 | iface nm t c u h ih=>exact .iface _ _ _ _ ih
 | mapv nm i m hi=>exact .mapv _ _ _ hi
 | nilm nm=>exact .nilm _
 | rawp nm b o=>exact .rawp _ _ _
 | mapc nm es g ents clock hFg hh hbn hl ht hk hv ihk ihv=>exact .mapc _ _ _ ents clock (hF _ hFg) (by rw[hw _ hFg];exact hh) hbn hl ht ihk ihv
theorem purge.go_len (i:Nat) (cs:List AV):(purge.go i cs).length=cs.length:=by
 induction cs with
 | nil=>rfl
 | cons c cs ih=>simp [purge.go,ih]
theorem purge.go_at (i:Nat) (cs:List AV) (j:Nat):(purge.go i cs)[j]? =cs[j]?.map (purge i):=by
 induction cs generalizing j with
 | nil=>simp [purge.go]
 | cons c cs ih=>cases j <;> simp [purge.go,ih]
theorem Rd.purge {w:World} {F:Nat→Prop} {nm nm':N_} {c:AV} {v:Value} {i:Nat} (h:Rd w F nm c v)
  (hn:∀j,j≠i→nm' j=nm j):Rd w F nm' (purge i c) v:=by
 induction h with
 | top nm v=>exact .top _ _
 | undef nm=>exact .undef _
 | bool nm b=>exact .bool _ _
 | int nm k n=>exact .int _ _ _
 | str nm s=>exact .str _ _
 | agg nm cs us hl h ih=>
  refine .agg _ _ _ (by rw[purge.go_len];exact hl) fun j c u hc hu=>?_
  rw[purge.go_at] at hc
  obtain⟨c',hc',rfl⟩:=Option.map_eq_some_iff.1 hc
  exact ih j c' u hc' hu hn
 | tup nm cs us hl h ih=>
  refine .tup _ _ _ (by rw[purge.go_len];exact hl) fun j c u hc hu=>?_
  rw[purge.go_at] at hc
  obtain⟨c',hc',rfl⟩:=Option.map_eq_some_iff.1 hc
  exact ih j c' u hc' hu hn
 | seq0 nm sz a cap=>exact .seq0 _ _ _ _
 | seq nm sz es g o cap u h0 hFg hc hm hs hw' h1 h ih=>exact .seq _ _ _ _ _ _ u h0 hFg hc hm hs hw' h1 h
 | full nm sz es g o u h0 hFg hm hs hw' h1 h ih=>exact .full _ _ _ _ _ u h0 hFg hm hs hw' h1 h
 | nils nm=>exact .nils _
 | arr nm j k n m hi hk hp=>
  unfold Ab.purge
  split
  ·exact .top _ _
  ·rename_i hne;exact .arr _ _ _ _ _ (by rw[hn j hne];exact hi) hk hp
 | arrE nm j k a cap hk=>
  unfold Ab.purge
  split
  ·exact .top _ _
  ·exact .arrE _ _ _ _ _ hk
 | arrN nm j=>
  unfold Ab.purge
  split
  ·exact .top _ _
  ·exact .arrN _ _
 | ref nm j k off m hi=>
  unfold Ab.purge
  split
  ·exact .top _ _
  ·rename_i hne;exact .ref _ _ _ _ _ (by rw[hn j hne];exact hi)
 | eptr nm e off g o u hFg hw' h1 h ih=>exact .eptr _ _ _ _ _ u hFg hw' h1 h
 | nilp nm=>exact .nilp _
 | fn nm f cs us hl h ih=>
  refine .fn _ _ _ _ (by rw[purge.go_len];exact hl) fun j c u hc hu=>?_
  rw[purge.go_at] at hc
  obtain⟨c',hc',rfl⟩:=Option.map_eq_some_iff.1 hc
  exact ih j c' u hc' hu hn
 | nilfn nm=>exact .nilfn _
 | nili nm=>exact .nili _
 | iface nm t c u h ih=>exact .iface _ _ _ _ (ih hn)
 | mapv nm j m hi=>
  unfold Ab.purge
  split
  ·exact .top _ _
  ·rename_i hne;exact .mapv _ _ _ (by rw[hn j hne];exact hi)
 | nilm nm=>exact .nilm _
 | rawp nm b o=>exact .rawp _ _ _
 | mapc nm es g ents clock hFg hh hbn hl ht hk hv ihk ihv=>exact .mapc _ _ _ ents clock hFg hh hbn hl ht hk hv
theorem Rd.named {w:World} {F:Nat→Prop} {nm:N_} {c:AV} {v:Value} (h:Rd w F nm c v) (hz:∀j,nm j=none) (nm':N_):Rd w F nm' c v:=by
 induction h with
 | top nm v=>exact .top _ _
 | undef nm=>exact .undef _
 | bool nm b=>exact .bool _ _
 | int nm k n=>exact .int _ _ _
 | str nm s=>exact .str _ _
 | agg nm cs us hl h ih=>exact .agg _ _ _ hl fun j c u hc hu=>ih j c u hc hu hz
 | tup nm cs us hl h ih=>exact .tup _ _ _ hl fun j c u hc hu=>ih j c u hc hu hz
 | seq0 nm sz a cap=>exact .seq0 _ _ _ _
 | seq nm sz es g o cap u h0 hFg hc hm hs hw' h1 h ih=>exact .seq _ _ _ _ _ _ u h0 hFg hc hm hs hw' h1 h
 | full nm sz es g o u h0 hFg hm hs hw' h1 h ih=>exact .full _ _ _ _ _ u h0 hFg hm hs hw' h1 h
 | nils nm=>exact .nils _
 | arr nm j k n m hi hk hp=>rw[hz] at hi;cases hi
 | arrE nm j k a cap hk=>exact .arrE _ _ _ _ _ hk
 | arrN nm j=>exact .arrN _ _
 | ref nm j k off m hi=>rw[hz] at hi;cases hi
 | eptr nm e off g o u hFg hw' h1 h ih=>exact .eptr _ _ _ _ _ u hFg hw' h1 h
 | nilp nm=>exact .nilp _
 | fn nm f cs us hl h ih=>exact .fn _ _ _ _ hl fun j c u hc hu=>ih j c u hc hu hz
 | nilfn nm=>exact .nilfn _
 | nili nm=>exact .nili _
 | iface nm t c u h ih=>exact .iface _ _ _ _ (ih hz)
 | mapv nm j m hi=>rw[hz] at hi;cases hi
 | nilm nm=>exact .nilm _
 | rawp nm b o=>exact .rawp _ _ _
 | mapc nm es g ents clock hFg hh hbn hl ht hk hv ihk ihv=>exact .mapc _ _ _ ents clock hFg hh hbn hl ht hk hv
theorem Rd.any {w:World} {F:Nat→Prop} {c:AV} {v:Value} (h:Rd w F n_ c v) (nm:N_):Rd w F nm c v:=h.named (fun _ =>rfl) nm
theorem Rd.cells_len {w:World} {F:Nat→Prop} {nm:N_} {c:AV} {v:Value} (h:Rd w F nm c v) (ht:c≠ .top):c.cells.length=v.cells.size:=by
 cases h <;> first | rfl | (exact absurd rfl ht) | skip
 case agg us hl h=>simp [AV.cells,Value.cells,hl]
theorem Rd.cell_at {w:World} {F:Nat→Prop} {nm:N_} {c:AV} {v:Value} (h:Rd w F nm c v) (ht:c≠ .top) {j:Nat} {x:AV} (hx:c.cells[j]? =some x):
  ∃u,v.cells[j]? =some u∧Rd w F nm x u:=by
 have one:∀{c:AV} {v:Value},Rd w F nm c v→c.cells=[c]→v.cells=#[v]→c.cells[j]? =some x→∃u,v.cells[j]? =some u∧Rd w F nm x u:=by
  intro c v h e1 e2 hx
  rw[e1] at hx
  match j,hx with
  | 0,hx=>simp at hx;subst hx;exact⟨v,by rw[e2];rfl,h⟩
  | j+1,hx=>simp at hx
 cases hc:c with
 | agg cs=>
  subst hc
  cases h with
  | agg _ _ us hl h=>
   simp only[AV.cells] at hx
   have hj:j<cs.length:=(List.getElem?_eq_some_iff.1 hx).1
   rw[hl] at hj
   exact⟨us[j],by simp [Value.cells,hj],h j x _ hx (List.getElem?_eq_getElem hj)⟩
 | top=>exact absurd hc ht
 | _ =>
  subst hc
  refine one h rfl ?_ hx
  cases h <;> rfl
end Go.Proofs.YtkejmcgngblfnaaGreatDoor.Ab
