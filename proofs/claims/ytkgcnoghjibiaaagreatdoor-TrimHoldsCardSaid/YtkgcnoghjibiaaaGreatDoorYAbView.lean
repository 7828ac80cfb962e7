/- Lemmas. -/
import Derived.Test.YtkgcnoghjibiaaaGreatDoorYAbRel
set_option linter.unusedSimpArgs false
namespace Go.Proofs.YtkgcnoghjibiaaaGreatDoor.Ab
open Go Go.RowKit
theorem Rd.oneCell {w:World} {F:Nat->Prop} {nm:N_} {c:AV} {v:Value} (h:Rd w F nm c v) (h1:c22 c=true):v.oneCell'=true:=by cases h <;> first | rfl | (simp [c22] at h1)
theorem fs11 {v:AV} {n:Nat} (h:fits v n=true):v≠ .top∧v.cells.length=n∧∀c∈v.cells,c22 c=true:=by
 cases v <;> simp [fits,c22] at h <;> simp [AV.cells,c22]
 all_goals first | omega | exact⟨h.1,λc hc=>h.2 c hc⟩
theorem sl10 (cs:List AV) (o:Nat) (ds:List AV):(s21 cs o ds).length=cs.length:=by
 induction cs generalizing o ds with
 | nil=>cases o <;> cases ds <;> rfl
 | cons c cs ih=>cases o <;> cases ds <;> simp [s21,ih]
theorem sa16 (cs:List AV) (o:Nat) (ds:List AV) (j:Nat) (h:o+ds.length<=cs.length):
  (s21 cs o ds)[j]? =if o<=j∧j<o+ds.length then ds[j - o]? else cs[j]? :=by
 induction cs generalizing o ds j with
 | nil=>
  have:ds=[]:=by simp at h;exact h.2
  subst this;have hn:¬(o<=j∧j<o+([]:List AV).length):=by rw[xY];omega
  rw[zK hn];cases o <;> rfl
 | cons c cs ih=>
  cases o with
  | zero=>
   cases ds with
   | nil=>simp [s21]
   | cons d ds=>
    cases j with
    | zero=>simp [s21]
    | succ j=>
     simp only[s21,yW];rw[ih 0 ds j (by simp at h ⊢;omega)];simp only[yH,wC,true_and,yS,uE,yW];by_cases hj:j<ds.length
     .rw[zY hj,zY (by omega)]
     .rw[zK hj,zK (by omega)]
  | succ o=>
   cases j with
   | zero=>cases ds <;> simp [s21]
   | succ j=>
    have e:s21 (c::cs) (o+1) ds=c::s21 cs o ds:=by cases ds <;> rfl
    rw[e,yW,ih o ds j (by simp at h ⊢;omega)];by_cases hj:o<=j∧j<o+ds.length
    .rw[zY hj,zY (by omega)];congr 1;omega
    .rw[zK hj,zK (by omega)];rfl
theorem rc12 {e:AV} {cs:List AV} {e':AV} (h:r22 e cs=some e'):e'.cells=cs:=by
 unfold r22 at h;split at h
 .simp only[zZ] at h;subst h;rfl
 .split at h
  .rename_i hx;simp only[zZ] at h;subst h;unfold c22 at hx;unfold AV.cells;split <;> simp_all
  .cases h
 .cases h
section
variable {G:Nat->Option AV} {C:Ctx} {nm:N_} {F:Nat->Prop} {st:St} {a:Act} {w:World}
theorem RelX.lt (h:RelX G C nm F st a w) {i:Nat} {b:Box} {m:Nm} (hi:hget st.heap i=some b) (hm:nm i=some m):m.g<w.heap.size:=by
 rcases h.box i b hi with ⟨hn,_⟩ | ⟨m',hm',hl⟩
 .rw[hm] at hn;cases hn
 .rw[hm] at hm';cases hm';exact hl.there
theorem RelX.setBox (h:RelX G C nm F st a w) {i:Nat} {b b':Box} {m:Nm} (hi:hget st.heap i=some b) (hm:nm i=some m) {w':World}
  (hos:w'.os=w.os) (htape:w'.tape=w.tape) (hout:w'.output=w.output) (hsize:w'.heap.size=w.heap.size) (hbr:b'.row=b.row)
  (hw:∀k,k≠m.g->w'.heap[k]? =w.heap[k]?) (hl:Lies w' F nm m b'):RelX G C nm F {st with heap:=hset st.heap i b'} a w':=by
 have hFw:∀b,F b->w'.heap[b]? =w.heap[b]? :=λk hk=>hw k (λe=>h.fr i b m hi hm (e ▸ hk));have get:∀j c,hget (hset st.heap i b') j=some c->(j=i∧c=b')∨(j≠i∧hget st.heap j=some c):=by
  intro j c hj;rw[hh_] at hj;split at hj
  .rename_i e;subst e;simp only[zZ] at hj;exact .inl ⟨rfl,hj.symm⟩
  .rename_i e;exact .inr ⟨λx=>e x.symm,hj⟩
 have old:∀j c,hget (hset st.heap i b') j=some c->∃c',hget st.heap j=some c':=λj c hj=>by
  rcases get j c hj with ⟨rfl,_⟩ | ⟨_,hj⟩
  .exact⟨b,hi⟩
  .exact⟨c,hj⟩
 refine⟨h.N,h.df,λt=>(h.env t).mono hFw λ_ h=>h,λj c hj=>?_,λj k c d m1 m2 hj hk=>?_,λj c m1 hj h1=>?_,λj c m1 hj h1=>?_,
  h.good.mono hFw (λ_ h=>h) (λb hb=>by rw[hsize];exact h.good.1 b hb),h.f0,h.fb,⟨hos.trans h.keep.os,htape.trans h.keep.tape,hout.trans h.keep.output,by rw[hsize];exact h.keep.size,λk hk hL=>?_⟩,λj hj=>⟨(h.vn j hj).1,(h.vn j hj).2.1,λc hc=>?_⟩⟩
 .rcases get j c hj with ⟨rfl,rfl⟩ | ⟨hne,hj⟩
  .exact .inr ⟨m,hm,hl⟩
  .rcases h.box j c hj with hn | ⟨m1,h1,hl1⟩
   .exact .inl hn
   .exact .inr ⟨m1,h1,hl1.mono (hw _ λe=>hne (h.inj j i c b m1 m hj hi h1 hm e)) hFw λ_ h=>h⟩
 .obtain⟨c',hc'⟩:=old j c hj;obtain⟨d',hd'⟩:=old k d hk;exact h.inj j k c' d' m1 m2 hc' hd'
 .obtain⟨c',hc'⟩:=old j c hj;exact h.fr j c' m1 hc' h1
 .obtain⟨c',hc'⟩:=old j c hj;exact h.own j c' m1 hc' h1
 .rw[hw k,h.keep.block k hk hL];intro e;subst e;rcases h.own i b m hi hm with h1 | h1
  .omega
  .exact hL h1
 .rcases get j c hc with ⟨rfl,rfl⟩ | ⟨_,hc⟩
  .rw[hbr];exact (h.vn _ hj).2.2 b hi
  .exact (h.vn j hj).2.2 c hc
theorem L_.seq {F':Nat->Prop} {m:Nm} {b:Box} (h:L_ w F nm m b) (hrow:b.row=true) (hF:∀b,F b->F' b) (hg:F' m.g) {k n:Nat} (hk:k+n<=b.es.length) (hp:0<n) (nm':N_):
  Rd w F' nm' (.seq b.sz ((b.es.drop k).take n)) (.slice (some ⟨m.g,k*m.sz,none⟩) n (m.cap - k)):=by
 obtain⟨h1,h2,h3,cs,h4,h5,h6,h7,h8,h9⟩:=h;have hl:((b.es.drop k).take n).length=n:=by simp;omega
 have hel:∀i e,((b.es.drop k).take n)[i]?=some e->i<n∧b.es[k+i]?=some e:=λi e he=>by
  rw[yN] at he;split at he
  .rename_i hi;rw[xX] at he;exact⟨hi,he⟩
  .cases he
 have hcell:∀p,p<n*m.sz->∃u,cs[k*m.sz+p]?=some u∧u.oneCell'=true:=λp hp'=>by
  have hsz:0<m.sz:=by rw[h1];exact h3
  have hi:p / m.sz<n:=Nat.div_lt_of_lt_mul (by rw[uV];exact hp');have hj:p % m.sz<m.sz:=Nat.mod_lt _ hsz;have he:b.es[k+p / m.sz]?=some (b.es[k+p / m.sz]'(by omega)):=zU (by omega);have hcl:=h8 _ (zG he);have hc:(b.es[k+p / m.sz]'(by omega)).cells[p % m.sz]?=some ((b.es[k+p / m.sz]'(by omega)).cells[p % m.sz]'(by rw[hcl,<-h1];exact hj)):=zU _;obtain⟨u,hu,hu1,_⟩:=h9 _ _ _ _ he hc;refine⟨u,?_,hu1⟩;rw[<-hu];congr 1;rw[xM,vK,uV (p / m.sz),tO]
 have key:=Rd.seq (w:=w) (F:=F') nm' b.sz ((b.es.drop k).take n) m.g (k*m.sz) (m.cap - k) (λp=>cs.getD (k*m.sz+p) undef) h3 hg (by rw[hl];omega) (by omega)
  (λe he=>h8 e (vJ (wG he)))
  (λp hp'=>by rw[hl,<-h1] at hp';obtain⟨u,hu,_⟩:=hcell p hp';simp [World.cell?,h4,zC,hu])
  (λp hp'=>by rw[hl,<-h1] at hp';obtain⟨u,hu,hu1⟩:=hcell p hp';simp only[zC,hu,xK];exact hu1)
  (λi e j c he hc=>by
   obtain⟨hi,he'⟩:=hel i e he;obtain⟨u,hu,_,hr⟩:=h9 _ e j c he' hc;rw[zY hrow] at hr;have e1:(k+i)*m.sz+j=k*m.sz+(i*b.sz+j):=by rw[xM,h1,vK]
   rw[e1] at hu;simp only[zC,hu,xK];exact hr.mono (λ_ _ =>rfl) hF)
 rw[hl] at key;exact key
theorem thaw.go_len (i:Nat) (b:Box) (cs:List AV):(thaw.go i b cs).length=cs.length:=by
 induction cs with
 | nil=>rfl
 | cons c cs ih=>simp [thaw.go,ih]
theorem thaw.go_at (i:Nat) (b:Box) (cs:List AV) (j:Nat):(thaw.go i b cs)[j]? =cs[j]?.map (thaw i b):=by
 induction cs generalizing j with
 | nil=>simp [thaw.go]
 | cons c cs ih=>cases j <;> simp [thaw.go,ih]
theorem thaw.go_cells (i:Nat) (b:Box) (e:AV):(thaw i b e).cells=thaw.go i b e.cells:=by cases e <;> first | rfl | (rename_i j k n;by_cases h:j=i <;> by_cases h2:0<b.sz∧k+n<=b.es.length <;> simp [thaw,AV.cells,thaw.go,h,h2]) | (rename_i j;by_cases h:j=i <;> by_cases h2:b.sz=0∧(b.ty=1∨3<=b.ty) <;> simp [thaw,AV.cells,thaw.go,h,h2])
theorem Rd.thaw {F':Nat->Prop} {c:AV} {v:Value} {i:Nat} {b:Box} (h:Rd w F nm c v) (hF:∀b,F b->F' b) (hrow:b.row=true)
  (hb:∀m,nm i=some m->Lies w F nm m b∧F' m.g):Rd w F' nm (Ab.thaw i b c) v:=by
 induction h with
 | top nm v=>exact .top _ _
 | undef nm=>exact .undef _
 | bool nm b=>exact .bool _ _
 | int nm k n=>exact .int _ _ _
 | str nm s=>exact .str _ _
 | agg nm cs us hl h ih=>
  refine .agg _ _ _ (by rw[thaw.go_len];exact hl) λj c u hc hu=>?_;rw[thaw.go_at] at hc;obtain⟨c',hc',rfl⟩:=zH.1 hc;exact ih j c' u hc' hu hb
 | tup nm cs us hl h ih=>
  refine .tup _ _ _ (by rw[thaw.go_len];exact hl) λj c u hc hu=>?_;rw[thaw.go_at] at hc;obtain⟨c',hc',rfl⟩:=zH.1 hc;exact ih j c' u hc' hu hb
 | seq0 nm sz a cap=>exact .seq0 _ _ _ _
 | seq nm sz es g o cap u h0 hFg hc hm hs hw' h1 h ih=>exact .seq _ _ _ _ _ _ u h0 (hF _ hFg) hc hm hs hw' h1 λk e j c he hc=>(h k e j c he hc).mono (λ_ _ =>rfl) hF
 | full nm sz es g o u h0 hFg hm hs hw' h1 h ih=>exact .full _ _ _ _ _ u h0 (hF _ hFg) hm hs hw' h1 λk e j c he hc=>(h k e j c he hc).mono (λ_ _ =>rfl) hF
 | nils nm=>exact .nils _
 | arr nm j k n m hi hk hp=>
  unfold Ab.thaw;split
  .rename_i e;subst e;split
   .rename_i hle;obtain⟨hl,hg⟩:=hb m hi;by_cases h0:0<n
    .exact (hl.c hle.1).seq hrow hF hg hle.2 h0 nm
    .obtain rfl:n=0:=by omega
     simp only[wY];exact .seq0 _ _ _ _
   .exact .top _ _
  .exact .arr _ _ _ _ _ hi hk hp
 | arrE nm j k a cap hk=>
  unfold Ab.thaw;split
  .split
   .simp only[wY];exact .seq0 _ _ _ _
   .exact .top _ _
  .exact .arrE _ _ _ _ _ hk
 | arrN nm j=>
  unfold Ab.thaw;split
  .split
   .simp only[wY];exact .seq0 _ _ _ _
   .exact .top _ _
  .exact .arrN _ _
 | ref nm j k off m hi=>exact .ref _ _ _ _ _ hi
 | eptr nm e off g o u hFg hw' h1 h ih=>exact .eptr _ _ _ _ _ u (hF _ hFg) hw' h1 λj c hc=>(h j c hc).mono (λ_ _ =>rfl) hF
 | nilp nm=>exact .nilp _
 | fn nm f cs us hl h ih=>
  refine .fn _ _ _ _ (by rw[thaw.go_len];exact hl) λj c u hc hu=>?_;rw[thaw.go_at] at hc;obtain⟨c',hc',rfl⟩:=zH.1 hc;exact ih j c' u hc' hu hb
 | nilfn nm=>exact .nilfn _
 | nili nm=>exact .nili _
 | iface nm t c u h ih=>exact .iface _ _ _ _ (ih hb)
 | mapv nm j m hi=>
  unfold Ab.thaw;split
  .rename_i e;subst e;split
   .rename_i hc;obtain⟨hl,hg⟩:=hb m hi;rcases hl with hl | ⟨_,_,_,⟨ht,_⟩ | ⟨_,ents,clock,q1,q2,q3,q4,q5,_⟩ | ⟨ht,_⟩⟩
    .have:=hl.2.2.1;omega
    .omega
    .refine .mapc _ _ _ ents clock hg q1 ⟨q3,q4⟩ q2.symm (λj x hx=>?_) (λj e k v h1 h2=>?_) (λj e k v h1 h2=>?_)
     .have hj:j<ents.size:=by rw[q2];exact (zX.1 hx).1
      obtain⟨k,v,e1,_⟩:=q5 j ents[j] (yG hj);rw[hx] at e1;exact⟨k,v,wL e1⟩
     .obtain⟨k',v',e1,e2,_⟩:=q5 j e h1;rw[h2] at e1;simp only[zZ,AV.tup.injEq,sQ,and_true] at e1;rw[e1.1];exact e2.mono (λ_ _ =>rfl) hF
     .obtain⟨k',v',e1,_,e3⟩:=q5 j e h1;rw[h2] at e1;simp only[zZ,AV.tup.injEq,sQ,and_true] at e1;rw[e1.2];exact e3.mono (λ_ _ =>rfl) hF
    .omega
   .exact .top _ _
  .exact .mapv _ _ _ hi
 | nilm nm=>exact .nilm _
 | rawp nm b o=>exact .rawp _ _ _
 | mapc nm es g ents clock hFg hh hbn hl ht hk hv ihk ihv=>exact .mapc _ _ _ ents clock (hF _ hFg) hh hbn hl ht (λj e k v h1 h2=>(hk j e k v h1 h2).mono (λ_ _ =>rfl) hF) (λj e k v h1 h2=>(hv j e k v h1 h2).mono (λ_ _ =>rfl) hF)
theorem Lies.thaw {F':Nat->Prop} {m:Nm} {i:Nat} {b c:Box} (h:Lies w F nm m c) (hF:∀b,F b->F' b) (hrow:b.row=true) (hb:∀m,nm i=some m->Lies w F nm m b∧F' m.g):
  Lies w F' nm m (t36 i b c):=by
 rcases h with h | h
 case inr=>exact .inr (by simp only[t36,h.2.1,xW];exact h.mono rfl (λ_ _ =>rfl) hF)
 obtain⟨h1,h2,h3,cs,h4,h5,h6,h7,h8,h9⟩:=h;unfold t36;split
 .rename_i hr;refine .inl ⟨h1,h2,h3,cs,h4,h5,h6,h7,h8,λk e j c he hc=>?_⟩;obtain⟨u,hu,hu1,hrd⟩:=h9 k e j c he hc;rw[zY hr] at hrd ⊢;exact⟨u,hu,hu1,hrd.mono (λ_ _ =>rfl) hF⟩
 .rename_i hr;refine .inl ⟨h1,h2,h3,cs,h4,h5,by simpa [thaw.go_len] using h6,h7,λe he=>?_,λk e j c he hc=>?_⟩
  .obtain⟨k,hk⟩:=zM he;rw[thaw.go_at] at hk;obtain⟨e',he',rfl⟩:=zH.1 hk;rw[thaw.go_cells,thaw.go_len];exact h8 e' (zG he')
  .simp only at he;rw[thaw.go_at] at he;obtain⟨e',he',rfl⟩:=zH.1 he;rw[thaw.go_cells,thaw.go_at] at hc;obtain⟨c',hc',rfl⟩:=zH.1 hc;obtain⟨u,hu,hu1,hrd⟩:=h9 k e' j c' he' hc';simp only[hr] at hrd ⊢;exact⟨u,hu,hu1,hrd.thaw hF hrow hb⟩
theorem RelX.thaw1 (h:RelX G C nm F st a w) {i:Nat} {b:Box} (hi:hget st.heap i=some b) (hrow:b.row=true):
  RelX G C nm (λk=>F k∨∃m,nm i=some m∧m.g=k) (st.thaw1 i) a w:=by
 have hF:∀k,F k->(λk=>F k∨∃m,nm i=some m∧m.g=k) k:=λk hk=>.inl hk;have hb:∀m,nm i=some m->Lies w F nm m b∧(λk=>F k∨∃m,nm i=some m∧m.g=k) m.g:=λm hm=>by
  refine⟨?_,.inr ⟨m,hm,rfl⟩⟩;rcases h.box i b hi with ⟨hn,_⟩ | ⟨m',hm',hl⟩
  .rw[hm] at hn;cases hn
  .rw[hm] at hm';cases hm';exact hl
 have get:∀j c,hget (st.thaw1 i).heap j=some c->j≠i∧∃c',hget st.heap j=some c'∧c=t36 i b c':=by
  intro j c hj;simp only[St.thaw1,hi] at hj;rw[ht10] at hj;split at hj
  .cases hj
  .rename_i hne;obtain⟨c',hc',rfl⟩:=zH.1 hj;exact⟨hne,c',hc',rfl⟩
 refine⟨by simp [St.thaw1,hi,h.N],h.df,λt=>?_,λj c hj=>?_,λj k c d m1 m2 hj hk=>?_,λj c m1 hj h1 hf=>?_,λj c m1 hj h1=>?_,
  h.good.mono (λ_ _ =>rfl) hF (λk hk=>?_),λk hk=>.inl (h.f0 k hk),λk hk=>?_,h.keep,λj hj=>⟨by simp [St.thaw1,hi];exact (h.vn j hj).1,(h.vn j hj).2.1,λc hc=>?_⟩⟩
 .simp only[St.get,St.thaw1,hi,et14];exact (h.env t).thaw hF hrow hb
 .obtain⟨hne,c',hc',rfl⟩:=get j c hj;rcases h.box j c' hc' with ⟨e1,e2,e3,e4⟩ | ⟨m1,e1,hl⟩
  .left;refine⟨e1,?_,?_,?_⟩ <;> simp [t36,e2,e3,e4]
  .exact .inr ⟨m1,e1,hl.thaw hF hrow hb⟩
 .obtain⟨_,c',hc',rfl⟩:=get j c hj;obtain⟨_,d',hd',rfl⟩:=get k d hk;exact h.inj j k c' d' m1 m2 hc' hd'
 .obtain⟨hne,c',hc',rfl⟩:=get j c hj;rcases hf with hf | ⟨m,hm,e⟩
  .exact h.fr j c' m1 hc' h1 hf
  .exact hne (h.inj j i c' b m1 m hc' hi h1 hm e.symm)
 .obtain⟨hne,c',hc',rfl⟩:=get j c hj;exact h.own j c' m1 hc' h1
 .rcases hk with hk | ⟨m,hm,rfl⟩
  .exact h.good.1 k hk
  .exact h.lt hi hm
 .rcases hk with hk | ⟨m,hm,rfl⟩
  .exact h.fb k hk
  .exact .inr (h.own i b m hi hm)
 .obtain⟨_,c',hc',rfl⟩:=get j c hc;have:=(h.vn j hj).2.2 c' hc';simp [t36,this]
end
def A10 (w:World) (F:Nat->Prop) (args:List AV) (vs:Array Value):Prop:=
 vs.size=args.length∧∀(j:Nat) c u,args[j]?=some c->vs[j]?=some u->Rd w F n10 c u
def P_ (P:Program) (G:Nat->Option AV) (f:Nat) (args:List AV) (r:AV):Prop:=
 ∀(w:World) (F:Nat->Prop) (vs:Array Value),Good w F G->A10 w F args vs->
  Calls P f vs w λe w'=>∃v F',e= .returned v∧(∀b,F b->F' b)∧(∀b,F' b->F b∨w.heap.size<=b)∧(∀b,F' b->b<w'.heap.size)∧Rd w' F' n10 r v∧Below w.heap.size w w'
def P10 (P:Program) (G:Nat->Option AV) (f:Nat) (args:List AV) (r:AV):Prop:=
 ∀(w:World) (F:Nat->Prop) (vs:Array Value),Good w F G->A10 w F args vs->
  Calls P f vs w λe w'=>∃v F',e= .returned v∧(∀b,F' b->w.heap.size<=b)∧(∀b,F' b->b<w'.heap.size)∧Rd w' F' n10 r v∧Below w.heap.size w w'
inductive Fit:AV->AV->Prop where
 | refl (c:AV):Fit c c
 | nil (sz:Nat):Fit .nils (.seq sz [])
 | top (c:AV):Fit c .top
 | agg (cs ds:List AV) (hl:cs.length=ds.length) (h:∀(j:Nat) c d,cs[j]?=some c->ds[j]?=some d->Fit c d):Fit (.agg cs) (.agg ds)
def FitL:List AV->List AV->Prop
 | [],[]=>True
 | a::as,b::bs=>Fit a b∧FitL as bs
 | _,_ =>False
theorem FitL.refl (l:List AV):FitL l l:=by
 induction l with
 | nil=>trivial
 | cons a l ih=>exact⟨.refl a,ih⟩
theorem FitL.at_ {l l':List AV} (h:FitL l l'):l.length=l'.length∧∀(j:Nat) c d,l[j]?=some c->l'[j]?=some d->Fit c d:=by
 induction l generalizing l' with
 | nil=>cases l' with
  | nil=>simp
  | cons b l'=>cases h
 | cons a l ih=>
  cases l' with
  | nil=>cases h
  | cons b l'=>
   obtain⟨h1,h2⟩:=ih h.2;refine⟨by simp [h1],λj c d hc hd=>?_⟩;cases j with
   | zero=>simp at hc hd;subst hc;subst hd;exact h.1
   | succ j=>simp at hc hd;exact h2 j c d hc hd
section
variable {P:Program} {G:Nat->Option AV} {C:Ctx} {nm:N_} {F:Nat->Prop} {st:St} {a:Act} {w:World}
theorem Rd.fit {c d:AV} (hf:Fit c d):∀{v:Value},Rd w F nm c v->Rd w F nm d v:=by
 induction hf with
 | refl c=>exact λh=>h
 | nil sz=>intro v h;cases h;exact .seq0 _ _ _ _
 | top c=>intro v _;exact .top _ _
 | agg cs ds hl h ih=>
  intro v hv;cases hv with
  | agg _ _ us hl' h'=>
   refine .agg _ _ _ (by rw[<-hl,hl']) λj d u hd hu=>?_;have hj:j<cs.length:=by rw[hl];exact (zX.1 hd).1
   exact ih j cs[j] d (zU hj) hd (h' j _ u (zU hj) hu)
theorem Rd.flat {w':World} {F':Nat->Prop} {nm':N_} {c:AV} {v:Value} (h:Rd w F nm c v) (hf:Ab.flat c=true):Rd w' F' nm' c v:=by
 induction h with
 | top nm v=>exact .top _ _
 | undef nm=>exact .undef _
 | bool nm b=>exact .bool _ _
 | int nm k n=>exact .int _ _ _
 | str nm s=>exact .str _ _
 | agg nm cs us hl h ih=>
  have go:∀(cs:List AV),Ab.flat.go cs=true->∀(j:Nat) c,cs[j]?=some c->Ab.flat c=true:=by
   intro cs
   induction cs with
   | nil=>intro _ j c hc;simp at hc
   | cons x xs ihx=>
    intro hx j c hc;simp only[Ab.flat.go,zJ] at hx;cases j with
    | zero=>simp at hc;subst hc;exact hx.1
    | succ j=>simp at hc;exact ihx hx.2 j c hc
  exact .agg _ _ _ hl λj c u hc hu=>ih j c u hc hu (go cs hf j c hc)
 | tup nm cs us hl h ih=>
  have go:∀(cs:List AV),Ab.flat.go cs=true->∀(j:Nat) c,cs[j]?=some c->Ab.flat c=true:=by
   intro cs
   induction cs with
   | nil=>intro _ j c hc;simp at hc
   | cons x xs ihx=>
    intro hx j c hc;simp only[Ab.flat.go,zJ] at hx;cases j with
    | zero=>simp at hc;subst hc;exact hx.1
    | succ j=>simp at hc;exact ihx hx.2 j c hc
  exact .tup _ _ _ hl λj c u hc hu=>ih j c u hc hu (go cs hf j c hc)
 | nils nm=>exact .nils _
 | nilp nm=>exact .nilp _
 | nilfn nm=>exact .nilfn _
 | nili nm=>exact .nili _
 | iface nm t c u h ih=>exact .iface _ _ _ _ (ih hf)
 | nilm nm=>exact .nilm _
 | rawp nm b o=>exact .rawp _ _ _
 | _ =>simp [Ab.flat] at hf
theorem Rd.view {F':Nat->Prop} (hbox:∀i b,hget st.heap i=some b->BoxR w F nm i b) (hF:∀b,F b->F' b) {c:AV} {v:Value} (h:Rd w F nm c v):
  ∀{c':AV},Ab.view st.heap c=some c'->(∀i,i∈r14 c->∀m,nm i=some m->F' m.g)->Rd w F' n10 c' v:=by
 have go:∀(cs:List AV) (us:List Value),(∀(j:Nat) c u,cs[j]?=some c->us[j]?=some u->∀{c':AV},Ab.view st.heap c=some c'->(∀i,i∈r14 c->∀m,nm i=some m->F' m.g)->Rd w F' n10 c' u)->
   ∀cs',Ab.view.go st.heap cs=some cs'->(∀i,i∈r14.go cs->∀m,nm i=some m->F' m.g)->cs.length=cs'.length∧∀(j:Nat) c' u,cs'[j]?=some c'->us[j]?=some u->Rd w F' n10 c' u:=by
  intro cs
  induction cs with
  | nil=>intro us _ cs' h _;simp only[Ab.view.go,zZ] at h;subst h;simp
  | cons x xs ih=>
   intro us hx cs' h hr;simp only[Ab.view.go] at h;split at h
   .rename_i y ys hy hys;simp only[zZ] at h;subst h;simp only[r14.go,yB] at hr;cases us with
    | nil=>
     obtain⟨h1,_⟩:=ih [] (by simp) ys hys (λi hi=>hr i (.inr hi));exact⟨by simp [h1],by simp⟩
    | cons u us=>
     obtain⟨h1,h2⟩:=ih us (λj c u hc hu=>hx (j+1) c u (by simpa using hc) (by simpa using hu)) ys hys (λi hi=>hr i (.inr hi));refine⟨by simp [h1],λj c' u' hc hu=>?_⟩;cases j with
     | zero=>
      simp at hc hu;subst hc;subst hu;exact hx 0 x u (by simp) (by simp) hy (λi hi=>hr i (.inl hi))
     | succ j=>simp at hc hu;exact h2 j c' u' hc hu
   .cases h
 induction h with
 | top nm v=>intro c' h _;simp only[Ab.view,zZ] at h;subst h;exact .top _ _
 | undef nm=>intro c' h _;simp [Ab.view] at h
 | bool nm b=>intro c' h _;simp only[Ab.view,zZ] at h;subst h;exact .bool _ _
 | int nm k n=>intro c' h _;simp only[Ab.view,zZ] at h;subst h;exact .int _ _ _
 | str nm s=>intro c' h _;simp only[Ab.view,zZ] at h;subst h;exact .str _ _
 | agg nm cs us hl h ih=>
  intro c' hv hr;simp only[Ab.view,zH] at hv;obtain⟨cs',hcs,rfl⟩:=hv;obtain⟨h1,h2⟩:=go cs us (λj c u hc hu c' hv hr'=>ih j c u hc hu hbox go hv hr') cs' hcs hr;exact .agg _ _ _ (by rw[<-h1,hl]) h2
 | tup nm cs us hl h ih=>
  intro c' hv hr;simp only[Ab.view,zH] at hv;obtain⟨cs',hcs,rfl⟩:=hv;obtain⟨h1,h2⟩:=go cs us (λj c u hc hu c' hv hr'=>ih j c u hc hu hbox go hv hr') cs' hcs hr;exact .tup _ _ _ (by rw[<-h1,hl]) h2
 | seq0 nm sz a cap=>intro c' h _;simp only[Ab.view,zZ] at h;subst h;exact .seq0 _ _ _ _
 | full nm sz es g o u h0 hFg hm hs hw' h1 h ih=>
  intro c' hv _;simp only[Ab.view,zZ] at hv;subst hv;exact .full _ _ _ _ _ u h0 (hF _ hFg) hm hs hw' h1 λk e j c he hc=>(h k e j c he hc).mono (λ_ _ =>rfl) hF
 | seq nm sz es g o cap u h0 hFg hc hm hs hw' h1 h ih=>
  intro c' hv _;simp only[Ab.view,zZ] at hv;subst hv;exact .seq _ _ _ _ _ _ u h0 (hF _ hFg) hc hm hs hw' h1 λk e j c he hc=>(h k e j c he hc).mono (λ_ _ =>rfl) hF
 | nils nm=>intro c' h _;simp only[Ab.view,zZ] at h;subst h;exact .nils _
 | arr nm j k n m hi hk hp=>
  intro c' hv hr;simp only[Ab.view] at hv;split at hv
  .rename_i b hb;split at hv
   .rename_i hrow;simp only[zZ] at hv;subst hv;by_cases h0:0<n
    .rcases hbox j b hb with ⟨hn,_⟩ | ⟨m',hm',hl⟩
     .rw[hi] at hn;cases hn
     .rw[hi] at hm';cases hm';exact (hl.c hrow.2.1).seq hrow.1 hF (hr j (by simp [r14]) m hi) hrow.2.2 h0 n10
    .obtain rfl:n=0:=by omega
     simp only[wY];exact .seq0 _ _ _ _
   .cases hv
  .cases hv
 | arrE nm j k a cap hk=>
  intro c' hv hr;simp only[Ab.view] at hv;split at hv
  .split at hv
   .simp only[zZ] at hv;subst hv;simp only[wY];exact .seq0 _ _ _ _
   .cases hv
  .cases hv
 | arrN nm j=>
  intro c' hv hr;simp only[Ab.view] at hv;split at hv
  .split at hv
   .simp only[zZ] at hv;subst hv;simp only[wY];exact .seq0 _ _ _ _
   .cases hv
  .cases hv
 | ref nm j k off m hi=>intro c' h _;simp [Ab.view] at h
 | eptr nm e off g o u hFg hw' h1 h ih=>
  intro c' hv _;simp only[Ab.view,zZ] at hv;subst hv;exact .eptr _ _ _ _ _ u (hF _ hFg) hw' h1 λj c hc=>(h j c hc).mono (λ_ _ =>rfl) hF
 | nilp nm=>intro c' h _;simp only[Ab.view,zZ] at h;subst h;exact .nilp _
 | fn nm f cs us hl h ih=>
  intro c' hv hr;simp only[Ab.view,zH] at hv;obtain⟨cs',hcs,rfl⟩:=hv;obtain⟨h1,h2⟩:=go cs us (λj c u hc hu c' hv hr'=>ih j c u hc hu hbox go hv hr') cs' hcs hr;exact .fn _ _ _ _ (by rw[<-h1,hl]) h2
 | nilfn nm=>intro c' h _;simp only[Ab.view,zZ] at h;subst h;exact .nilfn _
 | nili nm=>intro c' h _;simp only[Ab.view,zZ] at h;subst h;exact .nili _
 | nilm nm=>intro c' h _;simp only[Ab.view,zZ] at h;subst h;exact .nilm _
 | rawp nm b o=>intro c' h _;simp only[Ab.view,zZ] at h;subst h;exact .rawp _ _ _
 | mapc nm es g ents clock hFg hh hbn hl ht hk hv ihk ihv=>intro c' h _;simp only[Ab.view,zZ] at h;subst h;exact .mapc _ _ _ ents clock (hF _ hFg) hh hbn hl ht (λj e k v h1 h2=>(hk j e k v h1 h2).mono (λ_ _ =>rfl) hF) (λj e k v h1 h2=>(hv j e k v h1 h2).mono (λ_ _ =>rfl) hF)
 | mapv nm i m hi=>intro c' h _;simp [Ab.view] at h
 | iface nm t c u h ih=>
  intro c' hv hr;simp only[Ab.view,zH] at hv;obtain⟨x,hx,rfl⟩:=hv;exact .iface _ _ _ _ (ih hbox go hx hr)
end
def Own (nm:N_) (H:List (Nat×Box)) (k:Nat):Prop:=∃i b m,hget H i=some b∧nm i=some m∧m.g=k
theorem vc_ {rec:AV->Option AV} {H:List (Nat×Box)} {c c':AV} (h:viewK rec H c=some c'):(∀cs,c≠ .agg cs)->c'.cells=[c']:=by
 intro hn;cases c <;> simp only[viewK,zH,zZ,reduceCtorEq] at h
 case agg cs=>exact absurd rfl (hn cs)
 case arr=>
  split at h
  .split at h
   .simp only[zZ] at h;subst h;rfl
   .cases h
  .cases h
 case mapv=>
  split at h
  .split at h
   .simp only[zZ] at h;subst h;rfl
   .cases h
  .cases h
 case ref=>
  split at h
  .split at h
   .split at h
    .obtain⟨x,_,rfl⟩:=zH.1 h;rfl
    .cases h
   .cases h
  .cases h
 all_goals first | (subst h;rfl) | (obtain⟨x,_,rfl⟩:=h;rfl)
theorem va_ {rec:AV->Option AV} {H:List (Nat×Box)} {cs:List AV} {c':AV} (h:viewK rec H (.agg cs)=some c'):∃cs',c'= .agg cs'∧viewK.go rec H cs=some cs':=by simp only[viewK,zH] at h;obtain⟨x,h1,rfl⟩:=h;exact⟨x,rfl,h1⟩
section
variable {w:World} {F F':Nat->Prop} {nm:N_} {H:List (Nat×Box)}
theorem Rd.viewK (hbox:∀i b,hget H i=some b->BoxR w F nm i b) (hF:∀b,F b->F' b) (hO:∀k,Own nm H k->F' k) {rec:AV->Option AV}
  (hrec:∀{c:AV} {v:Value},Rd w F nm c v->∀{c':AV},rec c=some c'->Rd w F' n10 c' v) (hre:∀{c c':AV},rec c=some c'->(∀cs,c≠ .agg cs)->c'.cells=[c']) (hra:∀{cs:List AV} {c':AV},rec (.agg cs)=some c'->∃cs',c'= .agg cs')
  {c:AV} {v:Value} (h:Rd w F nm c v):∀{c':AV},Ab.viewK rec H c=some c'->Rd w F' n10 c' v:=by
 have go:∀(cs:List AV) (us:List Value),cs.length=us.length->(∀(j:Nat) c u,cs[j]?=some c->us[j]?=some u->∀{c':AV},Ab.viewK rec H c=some c'->Rd w F' n10 c' u)->
   ∀cs',Ab.viewK.go rec H cs=some cs'->cs'.length=us.length∧∀(j:Nat) c' u,cs'[j]?=some c'->us[j]?=some u->Rd w F' n10 c' u:=by
  intro cs
  induction cs with
  | nil=>intro us hl _ cs' h;simp only[Ab.viewK.go,zZ] at h;subst h;exact⟨hl,by simp⟩
  | cons x xs ih=>
   intro us hl hx cs' h;simp only[Ab.viewK.go] at h;split at h
   .rename_i y ys hy hys;simp only[zZ] at h;subst h;cases us with
    | nil=>simp at hl
    | cons u us=>
     obtain⟨h1,h2⟩:=ih us (by simpa using hl) (λj c u hc hu=>hx (j+1) c u (by simpa using hc) (by simpa using hu)) ys hys;refine⟨by simp [h1],λj c' u' hc hu=>?_⟩;cases j with
     | zero=>simp at hc hu;subst hc;subst hu;exact hx 0 x u (by simp) (by simp) hy
     | succ j=>simp at hc hu;exact h2 j c' u' hc hu
   .cases h
 induction h with
 | top nm v=>intro c' h;simp only[Ab.viewK,zZ] at h;subst h;exact .top _ _
 | undef nm=>intro c' h;simp [Ab.viewK] at h
 | bool nm b=>intro c' h;simp only[Ab.viewK,zZ] at h;subst h;exact .bool _ _
 | int nm k n=>intro c' h;simp only[Ab.viewK,zZ] at h;subst h;exact .int _ _ _
 | str nm s=>intro c' h;simp only[Ab.viewK,zZ] at h;subst h;exact .str _ _
 | agg nm cs us hl h ih=>
  intro c' hv;simp only[Ab.viewK,zH] at hv;obtain⟨cs',hcs,rfl⟩:=hv;obtain⟨h1,h2⟩:=go cs us hl (λj c u hc hu c' hv=>ih j c u hc hu hbox hO hrec hv) cs' hcs;exact .agg _ _ _ h1 h2
 | tup nm cs us hl h ih=>
  intro c' hv;simp only[Ab.viewK,zH] at hv;obtain⟨cs',hcs,rfl⟩:=hv;obtain⟨h1,h2⟩:=go cs us hl (λj c u hc hu c' hv=>ih j c u hc hu hbox hO hrec hv) cs' hcs;exact .tup _ _ _ h1 h2
 | seq0 nm sz a cap=>intro c' h;simp only[Ab.viewK,zZ] at h;subst h;exact .seq0 _ _ _ _
 | full nm sz es g o u h0 hFg hm hs hw' h1 h ih=>
  intro c' hv;simp only[Ab.viewK,zZ] at hv;subst hv;exact .full _ _ _ _ _ u h0 (hF _ hFg) hm hs hw' h1 λk e j c he hc=>(h k e j c he hc).mono (λ_ _ =>rfl) hF
 | seq nm sz es g o cap u h0 hFg hc hm hs hw' h1 h ih=>
  intro c' hv;simp only[Ab.viewK,zZ] at hv;subst hv;exact .seq _ _ _ _ _ _ u h0 (hF _ hFg) hc hm hs hw' h1 λk e j c he hc=>(h k e j c he hc).mono (λ_ _ =>rfl) hF
 | nils nm=>intro c' h;simp only[Ab.viewK,zZ] at h;subst h;exact .nils _
 | arr nm j k n m hi hk hp=>
  intro c' hv;simp only[Ab.viewK] at hv;split at hv
  .rename_i b hb;split at hv
   .rename_i hrow;simp only[zZ] at hv;subst hv;by_cases h0:0<n
    .rcases hbox j b hb with ⟨hn,_⟩ | ⟨m',hm',hl⟩
     .rw[hi] at hn;cases hn
     .rw[hi] at hm';cases hm';exact (hl.c hrow.2.1).seq hrow.1 hF (hO _ ⟨j,b,m,hb,hi,rfl⟩) hrow.2.2 h0 n10
    .obtain rfl:n=0:=by omega
     simp only[wY];exact .seq0 _ _ _ _
   .cases hv
  .cases hv
 | arrE nm j k a cap hk=>
  intro c' hv;simp only[Ab.viewK] at hv;split at hv
  .split at hv
   .simp only[zZ] at hv;subst hv;simp only[wY];exact .seq0 _ _ _ _
   .cases hv
  .cases hv
 | arrN nm j=>
  intro c' hv;simp only[Ab.viewK] at hv;split at hv
  .split at hv
   .simp only[zZ] at hv;subst hv;simp only[wY];exact .seq0 _ _ _ _
   .cases hv
  .cases hv
 | ref nm j k off m hi=>
  intro c' hv;simp only[Ab.viewK] at hv;split at hv
  .rename_i b hb;split at hv
   case isFalse=>cases hv
   rename_i h0;split at hv
   .rename_i e he;obtain⟨e',he',rfl⟩:=zH.1 hv;rcases hbox j b hb with ⟨hn,_⟩ | ⟨m',hm',hl⟩
    .rw[hi] at hn;cases hn
    rw[hi] at hm';cases hm';obtain⟨l1,l2,l3,vs,l4,l5,l6,l7,l8,l9⟩:=hl.c h0;have hesz:=l8 e (zG he)
    -- the cells as they lie
    have cell:∀p,p<e.cells.length->∃u,vs[k*m.sz+p]?=some u∧u.oneCell'=true∧∀c,e.cells[p]?=some c->Rd w F nm c u:=λp hp=>by
     obtain⟨u,hu,hu1,hr⟩:=l9 k e p _ he (zU hp);refine⟨u,hu,hu1,λc hc=>?_⟩;rw[zU hp] at hc;cases hc;split at hr
     .exact hr.any nm
     .exact hr
    have fin:∀(hlen:e'.cells.length=e.cells.length) (hr:∀(p:Nat) c u,e'.cells[p]?=some c->vs[k*m.sz+p]?=some u->Rd w F' n10 c u),Rd w F' n10 (.eptr e' off) (.pointer (some ⟨m.g,k*m.sz+off,none⟩)):=by
     intro hlen hr;refine .eptr _ _ _ m.g (k*m.sz) (λp=>vs.getD (k*m.sz+p) Go.undef) (hO _ ⟨j,b,m,hb,hi,rfl⟩) (λp hp=>?_) (λp hp=>?_) λp c hc=>?_
     .obtain⟨u,hu,_⟩:=cell p (by rw[<-hlen];exact hp);simp [World.cell?,l4,zC,hu]
     .obtain⟨u,hu,hu1,_⟩:=cell p (by rw[<-hlen];exact hp);simp only[zC,hu,xK];exact hu1
     .obtain⟨u,hu,_⟩:=cell p (by rw[<-hlen];exact (zX.1 hc).1);simp only[zC,hu,xK];exact hr p c u hc hu
    by_cases hagg:∃cs,e= .agg cs
    .obtain⟨cs,rfl⟩:=hagg;obtain⟨cs',rfl⟩:=hra he';simp only[AV.cells] at cell hesz fin;have hrd:Rd w F nm (.agg cs) (.agg ((List.range cs.length).map λp=>vs.getD (k*m.sz+p) Go.undef).toArray):=by
      refine .agg _ _ _ (by simp) λp c u hc hu=>?_;have hp:p<cs.length:=(zX.1 hc).1;obtain⟨u',hu',_,hr⟩:=cell p hp;simp only[zS,xR hp,yF,zZ,zC,hu',xK] at hu;subst hu;exact hr c hc
     have hrd':=hrec hrd he';generalize hA:((List.range cs.length).map λp=>vs.getD (k*m.sz+p) Go.undef).toArray=A at hrd';cases hrd' with
     | agg _ _ us hl' hr'=>
      have hA':us=(List.range cs.length).map λp=>vs.getD (k*m.sz+p) Go.undef:=by have:=tM Array.toList hA;simpa using this.symm
      refine fin (by rw[hl',hA'];simp) λp c u hc hu=>hr' p c u hc ?_;have hp:p<cs.length:=by have:=(zX.1 hc).1;rw[hl',hA'] at this;simpa using this
      rw[hA'];simp only[zS,xR hp,yF,zC,hu,xK]
    .have hne:∀cs,e≠ .agg cs:=λcs h=>hagg ⟨cs,h⟩;have e1:=hre he' hne;have e2:e.cells=[e]:=by cases e <;> first | rfl | exact absurd rfl (hne _)
     rw[e2] at cell;obtain⟨u,hu,_,hr⟩:=cell 0 (by simp);refine fin (by rw[e1,e2];rfl) λp c u' hc hu'=>?_;rw[e1] at hc
     match p,hc with
     | 0,hc=>
      simp only[yK,zZ] at hc;subst hc;rw[hu] at hu';cases hu';exact hrec (hr e (by simp)) he'
     | p+1,hc=>simp at hc
   .cases hv
  .cases hv
 | eptr nm e off g o u hFg hw' h1 h ih=>
  intro c' hv;simp only[Ab.viewK,zZ] at hv;subst hv;exact .eptr _ _ _ _ _ u (hF _ hFg) hw' h1 λj c hc=>(h j c hc).mono (λ_ _ =>rfl) hF
 | nilp nm=>intro c' h;simp only[Ab.viewK,zZ] at h;subst h;exact .nilp _
 | fn nm f cs us hl h ih=>
  intro c' hv;simp only[Ab.viewK,zH] at hv;obtain⟨cs',hcs,rfl⟩:=hv;obtain⟨h1,h2⟩:=go cs us hl (λj c u hc hu c' hv=>ih j c u hc hu hbox hO hrec hv) cs' hcs;exact .fn _ _ _ _ h1 h2
 | nilfn nm=>intro c' h;simp only[Ab.viewK,zZ] at h;subst h;exact .nilfn _
 | nili nm=>intro c' h;simp only[Ab.viewK,zZ] at h;subst h;exact .nili _
 | nilm nm=>intro c' h;simp only[Ab.viewK,zZ] at h;subst h;exact .nilm _
 | rawp nm b o=>intro c' h;simp only[Ab.viewK,zZ] at h;subst h;exact .rawp _ _ _
 | mapc nm es g ents clock hFg hh hbn hl ht hk hv ihk ihv=>intro c' h;simp only[Ab.viewK,zZ] at h;subst h;exact .mapc _ _ _ ents clock (hF _ hFg) hh hbn hl ht (λj e k v h1 h2=>(hk j e k v h1 h2).mono (λ_ _ =>rfl) hF) (λj e k v h1 h2=>(hv j e k v h1 h2).mono (λ_ _ =>rfl) hF)
 | mapv nm i m hi=>
  intro c' hv;simp only[Ab.viewK] at hv;split at hv
  .rename_i b hb;split at hv
   .rename_i h0;simp only[zZ] at hv;subst hv;rcases hbox i b hb with ⟨hn,_⟩ | ⟨m',hm',hl⟩
    .rw[hi] at hn;cases hn
    rw[hi] at hm';cases hm';rcases hl with hl | ⟨_,_,_,⟨ht,_⟩ | ⟨_,ents,clock,hh,hsz,hb1,hb2,hE,_⟩ | ⟨ht,_⟩⟩
    .exact absurd hl.2.2.1 (by omega)
    .omega
    case' inr.inr.inr=>omega
    .refine .mapc _ _ m.g ents clock (hO _ ⟨i,b,m,hb,hi,rfl⟩) hh ⟨hb1,hb2⟩ hsz.symm (λj x hx=>?_) (λj e k v he hx=>?_) (λj e k v he hx=>?_)
     .have hj:j<ents.size:=by rw[hsz];exact (zX.1 hx).1
      obtain⟨k,v,h1,_⟩:=hE j ents[j] (by simp [hj]);rw[hx] at h1;cases h1;exact⟨k,v,rfl⟩
     .obtain⟨k2,v2,h1,h2,h3⟩:=hE j e he;rw[hx] at h1;cases h1;exact h2.mono (λ_ _ =>rfl) hF
     .obtain⟨k2,v2,h1,h2,h3⟩:=hE j e he;rw[hx] at h1;cases h1;exact h3.mono (λ_ _ =>rfl) hF
   .cases hv
  .cases hv
 | iface nm t c u h ih=>
  intro c' hv;simp only[Ab.viewK,zH] at hv;obtain⟨x,hx,rfl⟩:=hv;exact .iface _ _ _ _ (ih hbox hO hrec hx)
theorem vc10:∀(n:Nat) {c c':AV},viewB n H c=some c'->(∀cs,c≠ .agg cs)->c'.cells=[c']
 | 0,_,_,h=>vc_ h
 | _ +1,_,_,h=>vc_ h
theorem va10:∀(n:Nat) {cs:List AV} {c':AV},viewB n H (.agg cs)=some c'->∃cs',c'= .agg cs'
 | 0,_,_,h=>let ⟨x,e,_⟩:=va_ h;⟨x,e⟩
 | _ +1,_,_,h=>let ⟨x,e,_⟩:=va_ h;⟨x,e⟩
theorem Rd.viewB (hbox:∀i b,hget H i=some b->BoxR w F nm i b) (hF:∀b,F b->F' b) (hO:∀k,Own nm H k->F' k):∀(n:Nat) {c:AV} {v:Value},Rd w F nm c v->∀{c':AV},Ab.viewB n H c=some c'->Rd w F' n10 c' v
 | 0,_,_,h,_,hv=>Rd.viewK hbox hF hO (λ_ _ h=>by cases h) (λh=>by cases h) (λh=>by cases h) h hv
 | n+1,_,_,h,_,hv=>Rd.viewK hbox hF hO (λh _ hv=>Rd.viewB hbox hF hO n h hv) (λh=>vc10 n h) (λh=>va10 n h) h hv
theorem vr13 (hbox:∀i b,hget H i=some b->BoxR w F nm i b) (hF:∀b,F b->F' b) (hO:∀k,Own nm H k->F' k) {cs cs':List AV} (h:viewBs H cs=some cs')
  {us:List Value} (hu:cs.length=us.length) (hrd:∀(j:Nat) c u,cs[j]?=some c->us[j]?=some u->Rd w F nm c u):
  cs'.length=us.length∧∀(j:Nat) c u,cs'[j]?=some c->us[j]?=some u->Rd w F' n10 c u:=by
 induction cs generalizing cs' us with
 | nil=>simp only[viewBs,zZ] at h;subst h;exact⟨hu,by simp⟩
 | cons x xs ih=>
  simp only[viewBs] at h;split at h
  .rename_i y ys hy hys;simp only[zZ] at h;subst h;cases us with
   | nil=>simp at hu
   | cons u us=>
    obtain⟨h1,h2⟩:=ih hys (us:=us) (by simpa using hu) (λj c u hc hu=>hrd (j+1) c u (by simpa using hc) (by simpa using hu));refine⟨by simp [h1],λj c' u' hc hu'=>?_⟩;cases j with
    | zero=>simp at hc hu';subst hc;subst hu';exact (hrd 0 x u (by simp) (by simp)).viewB hbox hF hO 6 hy
    | succ j=>simp at hc hu';exact h2 j c' u' hc hu'
  .cases h
end
