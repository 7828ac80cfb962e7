/- Lemmas. -/
import Derived.Test.YtkgcnoghjibiaaaGreatDoorYAbChk
import Derived.Laws.Concat
import Derived.Maps.AppendAt
set_option linter.unusedSimpArgs false
namespace Go.Proofs.YtkgcnoghjibiaaaGreatDoor.Ab
open Go Go.RowKit
def S_ (P:Program) (G:Nat->Option AV) (C:Ctx) (o:Oper) (a:Act) (w:World) (st':St):Prop:=
 (∃v w',(execOp a.eval o).run P w= .ok (.value v) w'∧Rel G C st' (a.put o.dst v) w')∨
 (∃w',(execOp a.eval o).run P w= .ok .skip w'∧Rel G C st' (a.put o.dst undef) w')
section
variable {P:Program} {G:Nat->Option AV} {C:Ctx} {nm:N_} {F:Nat->Prop} {st st':St} {a:Act} {w:World} {o:Oper}
theorem vs_ (h:RelX G C nm F st a w) {c:AV} {v:Value} (hr:(execOp a.eval o).run P w= .ok (.value v) w) (hv:Rd w F nm c v) (hp:st.put o.dst c=some st'):S_ P G C o a w st':=
 .inl ⟨v,w,hr,nm,F,h.put hv hp⟩
theorem bp_ {x:Option AV} {d:Option Nat} (h:x.bind (st.put d)=some st'):∃c,x=some c∧st.put d c=some st':=by
 cases x with
 | none=>cases h
 | some c=>exact⟨c,rfl,h⟩
theorem as39 {op:BinOp} {x y c:AV} {u v:Value} (hx:Rd w F nm x u) (hy:Rd w F nm y v) (h:abin op x y=some c) (t:TypeId) (ex ey:Operand):
  ∃r,((do eqGuard op t ex ey u v;binOp op t u v:Sem Value)).run P w= .ok r w∧Rd w F nm c r:=by
 cases x <;> cases y <;> simp only[abin,reduceCtorEq] at h
 case int.int k n k' m=>
  cases hx;cases hy;have hg:(eqGuard op t ex ey (.int k n) (.int k' m)).run P w= .ok () w:=by cases op <;> simp [eqGuard]
  simp only[Sem.run_bind,hg,Result.andThen_ok];cases op <;> simp only[vL,Option.ite_none_left_eq_some,zZ] at h
  case shl=>obtain⟨h0,rfl⟩:=h;exact⟨_,by simp [binOp,Op.shift,h0,bShl],.int _ _ _⟩
  case shr=>obtain⟨h0,rfl⟩:=h;exact⟨_,by simp [binOp,Op.shift,h0,bShr],.int _ _ _⟩
  case quo=>obtain⟨⟨rfl,h0⟩,rfl⟩:=h;exact⟨_,by simp [binOp,Op.intDiv,h0],.int _ _ _⟩
  case rem=>obtain⟨⟨rfl,h0⟩,rfl⟩:=h;exact⟨_,by simp [binOp,Op.intDiv,h0],.int _ _ _⟩
  case and=>obtain⟨rfl,rfl⟩:=h;exact⟨_,by simp only[binOp,sZ,wF,yI];rfl,.int _ _ _⟩
  case or=>obtain⟨rfl,rfl⟩:=h;exact⟨_,by simp only[binOp,sZ,wF,yI];rfl,.int _ _ _⟩
  case xor=>obtain⟨rfl,rfl⟩:=h;exact⟨_,by simp only[binOp,sZ,wF,yI];rfl,.int _ _ _⟩
  case andNot=>obtain⟨rfl,rfl⟩:=h;exact⟨_,by simp only[binOp,sZ,wF,yI];rfl,.int _ _ _⟩
  all_goals
   obtain⟨rfl,rfl⟩:=h
   first
    | exact⟨_,by simp [binOp,Op.intArith],.int _ _ _⟩
    | exact⟨_,by simp [binOp,Op.intCmp],.bool _ _⟩
 case str.str s s'=>
  cases hx;cases hy;have hg:(eqGuard op t ex ey (.string ⟨s.toArray⟩) (.string ⟨s'.toArray⟩)).run P w= .ok () w:=by cases op <;> simp [eqGuard]
  simp only[Sem.run_bind,hg,Result.andThen_ok];cases op <;> simp only[vL,zZ,reduceCtorEq] at h
  case add=>
   obtain⟨h0,rfl⟩:=h;refine⟨.string (⟨s.toArray⟩++⟨s'.toArray⟩),?_,?_⟩
   .rw[binOp_string_add];exact run_string_add_sum w _ _ (by simpa [ByteArray.size] using h0)
   .have e:(⟨s.toArray⟩++⟨s'.toArray⟩:ByteArray)=⟨(s++s').toArray⟩:=by
     apply ByteArray.ext;simp [ByteArray.data_append]
    rw[e];exact .str _ _
  all_goals
   subst h;exact⟨_,by simp [binOp,Op.stringOp],.bool _ _⟩
theorem as37 {neg:Bool} {x y c:AV} {u v:Value} (hx:Rd w F nm x u) (hy:Rd w F nm y v) (h:aeqB neg x y=some c) {t:TypeId} (ht:P.underlying t=some .bool) (ex ey:Operand):
  ∃r,((do eqGuard (if neg then .neq else .eql) t ex ey u v;binOp (if neg then .neq else .eql) t u v:Sem Value)).run P w= .ok r w∧Rd w F nm c r:=by
 cases x <;> cases y <;> simp only[aeqB,reduceCtorEq,zZ] at h;subst h;cases hx;cases hy;rename_i x y;have he:(Op.equal t (.bool x) (.bool y)).run P w= .ok (x==y) w:=run_equalIn_bool' w 9999 t x y ht;refine⟨_,?_,.bool _ _⟩;cases neg <;> simp [eqGuard,binOp,he]
theorem as36 {neg:Bool} {x y c:AV} {u v:Value} (hx:Rd w F nm x u) (hy:Rd w F nm y v) (h:aeqI neg x y=some c) {t:TypeId} (ht:P.isIface t=true) (ex:Operand) (z:Value):
  ∃r,((do eqGuard (if neg then .neq else .eql) t ex (.const z) u v;binOp (if neg then .neq else .eql) t u v:Sem Value)).run P w= .ok r w∧Rd w F nm c r:=by
 cases x <;> cases y <;> simp only[aeqI,reduceCtorEq,zZ] at h
 case nili.nili=>
  subst h;cases hx;cases hy;cases neg
  .refine⟨.bool true,?_,.bool _ _⟩;simp only[zF,yI,Sem.run_bind];have e1:(eqGuard .eql t ex (.const z) .nilIface .nilIface).run P w= .ok () w:=by cases ex <;> rfl
   rw[e1];exact run_eql_nil_nil_at w t ht
  .refine⟨.bool false,?_,.bool _ _⟩;simp only[xW,Sem.run_bind];have e1:(eqGuard .neq t ex (.const z) .nilIface .nilIface).run P w= .ok () w:=by cases ex <;> rfl
   rw[e1];exact run_neq_nil_nil_at w t ht
 case iface.nili=>
  subst h;cases hx;cases hy;cases neg
  .refine⟨.bool false,?_,.bool _ _⟩;simp only[zF,yI,Sem.run_bind];have e1:∀i,(eqGuard .eql t ex (.const z) i .nilIface).run P w= .ok () w∨i= .nilIface:=λi=>by cases i <;> first | exact .inl rfl | exact .inr rfl
   rename_i u _;rcases e1 (.iface _ u) with e | e
   .rw[e];exact run_eql_iface_nil w t ht _ _
   .cases e
  .refine⟨.bool true,?_,.bool _ _⟩;simp only[xW,Sem.run_bind];have e1:∀i,(eqGuard .neq t ex (.const z) i .nilIface).run P w= .ok () w∨i= .nilIface:=λi=>by cases i <;> first | exact .inl rfl | exact .inr rfl
   rename_i u _;rcases e1 (.iface _ u) with e | e
   .rw[e];exact run_neq_iface_nil w t ht _ _
   .cases e
theorem as40 {op:UnOp} {x c:AV} {u:Value} (hx:Rd w F nm x u) (h:aun op x=some c):∃r,(Op.unary op u).run P w= .ok r w∧Rd w F nm c r:=by
 cases x <;> simp only[aun,reduceCtorEq] at h
 case bool b=>
  cases hx;cases op <;> simp only[zZ,reduceCtorEq] at h;subst h;exact⟨_,by simp [Op.unary],.bool _ _⟩
 case int k n=>
  cases hx;cases op <;> simp only[zZ,reduceCtorEq] at h;subst h;exact⟨_,by simp [Op.unary,Op.intArith],.int _ _ _⟩
end
theorem aa13 (g o j:Nat):(⟨g,o,none⟩:Addr).add j=⟨g,o+j,none⟩:=by
 unfold Addr.add;split
 .rename_i h;subst h;rfl
 .rfl
theorem ir_ {P:Program} {t:Nat} (h:i10 P t=true) (w:World):(isAgg t).run P w= .ok false w:=by
 unfold i10 at h;unfold isAgg;cases hu:P.underlying t with
 | none=>rw[hu] at h;simp at h
 | some d=>
  rw[hu] at h;simp only[Sem.run_bind,run_underlying hu,Result.andThen_ok];cases d <;> first | rfl | (simp at h)
theorem ir10 {P:Program} {t:Nat} (h:i_ P t=true) (w:World):(isAgg t).run P w= .ok true w:=by
 unfold i_ at h;unfold isAgg;cases hu:P.underlying t with
 | none=>rw[hu] at h;simp at h
 | some d=>
  rw[hu] at h;simp only[Sem.run_bind,run_underlying hu,Result.andThen_ok];cases d <;> first | rfl | (simp at h)
theorem sr_ {P:Program} {t n:Nat} (h:szIs P t n=true) (w:World):(sizeOf t).run P w= .ok n w:=by
 unfold szIs at h;split at h
 .rename_i i hi;simp only[zB] at h;subst h;unfold sizeOf;simp [typeInfo,hi]
 .cases h
section
variable {P:Program} {G:Nat->Option AV} {C:Ctx} {nm:N_} {F:Nat->Prop} {st st':St} {a:Act} {w:World} {o:Oper}
theorem hs10 (h:RelX G C nm F st a w) {p:AV} {v:Value} (hp:Rd w F nm p v) {cs:List AV} {off:Nat} (hc:h16 st.heap p=some (cs,off)):
  ∃g ad,v= .pointer (some ⟨g,ad,none⟩)∧∀(j:Nat) c,cs[off+j]?=some c->∃u,w.cell? ⟨g,ad+j,none⟩=some u∧Rd w F nm c u:=by
 cases p <;> simp only[h16,reduceCtorEq] at hc
 case ref i k off'=>
  cases hp with
  | ref _ _ _ _ m hi=>
   split at hc
   .rename_i b hb;split at hc
    case isFalse=>cases hc
    rename_i h0;rw[zH] at hc;obtain⟨e,he,hcs⟩:=hc;simp only[vG] at hcs;obtain⟨rfl,rfl⟩:=hcs;refine⟨m.g,k*m.sz+off',rfl,λj c hc=>?_⟩;rcases h.box i b hb with ⟨hn,_⟩ | ⟨m',hm',hl⟩
    .rw[hi] at hn;cases hn
    .rw[hi] at hm';cases hm';obtain⟨_,_,_,vs,h4,_,_,_,_,h9⟩:=hl.c h0;obtain⟨u,hu,_,hr⟩:=h9 k e (off'+j) c he hc;refine⟨u,by simp only[World.cell?,h4,vV,zF,yI];rw[<-hu];congr 1;omega,?_⟩;split at hr
     .exact hr.any nm
     .exact hr
   .cases hc
 case eptr e off'=>
  cases hp with
  | eptr _ _ _ g o u hF hw h1 hr=>
   simp only[zZ,vG] at hc;obtain⟨rfl,rfl⟩:=hc;refine⟨g,o+off',rfl,λj c hc=>⟨u (off'+j),?_,(hr _ c hc).any nm⟩⟩;rw[show o+off'+j=o+(off'+j) from by omega];exact hw _ (zX.1 hc).1
theorem as18 (h:RelX G C nm F st a w) {p c:AV} {v:Value} (hp:Rd w F nm p v) (hl:a32 st.heap p=some c) {t:Nat} (ht:i10 P t=true):
  ∃r,(Instr.loadAt t v).run P w= .ok r w∧Rd w F nm c r:=by
 unfold a32 at hl;split at hl
 .rename_i cs off hc;obtain⟨g,ad,rfl,hm⟩:=hs10 h hp hc;obtain⟨u,hu,hr⟩:=hm 0 c (by simpa using hl);refine⟨u,?_,hr⟩;simp only[Instr.loadAt,Instr.sureAddr,loadVar,Sem.run_bind,Sem.run_pure,Result.andThen_ok,ir_ ht,zF,yI,run_load];rw[vZ] at hu;simp [hu]
 .cases hl
theorem as16 (h:RelX G C nm F st a w) {p c:AV} {v:Value} {n:Nat} (hp:Rd w F nm p v) (hl:a19 st.heap p n=some c) {t:Nat} (ht:i_ P t=true) (hs:szIs P t n=true):
  ∃r,(Instr.loadAt t v).run P w= .ok r w∧Rd w F nm c r:=by
 unfold a19 at hl;split at hl
 .rename_i cs off hc;split at hl
  .rename_i hle;simp only[zZ] at hl;subst hl;obtain⟨g,ad,rfl,hm⟩:=hs10 h hp hc;have hcell:∀j,j<n->∃u,w.cell? ⟨g,ad+j,none⟩=some u∧∀c,cs[off+j]?=some c->Rd w F nm c u:=λj hj=>by
    have hlt:off+j<cs.length:=by omega
    obtain⟨u,hu,hr⟩:=hm j _ (zU hlt);exact⟨u,hu,λc hc=>by rw[zU hlt] at hc;cases hc;exact hr⟩
   refine⟨.agg ((List.range n).map λj=>(w.cell? ⟨g,ad+j,none⟩).getD undef).toArray,?_,?_⟩
   .simp only[Instr.loadAt,Instr.sureAddr,loadVar,Sem.run_bind,Sem.run_pure,Result.andThen_ok,ir10 ht,xW,sr_ hs];rw[run_loadCells w _ n (λj=>(w.cell? ⟨g,ad+j,none⟩).getD undef) (λj hj=>by
     obtain⟨u,hu,_⟩:=hcell j hj;rw[aa13,hu];rfl)]
    rfl
   .refine .agg _ _ _ (by simp;omega) λj c u hc hu=>?_;have hj:j<n:=by have:=(zX.1 hu).1;simpa using this
    obtain⟨u',hu',hr⟩:=hcell j hj;simp only[zS,xR hj,yF,zZ,hu',xK] at hu;subst hu;refine hr c ?_;rw[yN,zY hj,xX] at hc;exact hc
  .cases hl
 .cases hl
theorem pl16 {c:AV} {cs:List AV} {us:List Value} {off:Nat} {t:Nat} (hl:cs.length=us.length) (h:∀(j:Nat) c u,cs[j]?=some c->us[j]?=some u->Rd w F nm c u) (hc:cs[off]?=some c) (ht:i10 P t=true):
  ∃r,(part t us.toArray off).run P w= .ok r w∧Rd w F nm c r:=by
 have hlt:off<us.length:=by rw[<-hl];exact (zX.1 hc).1
 refine⟨us[off],?_,h off c _ hc (zU hlt)⟩;simp [part,ir_ ht,hlt]
end
section
variable {P:Program} {G:Nat->Option AV} {C:Ctx} {nm:N_} {F:Nat->Prop} {st st':St} {a:Act} {w:World} {o:Oper}
theorem Kept.alloc (h:Kept C w) (ob:Obj):Kept C (w.alloc ob):=
 ⟨h.os,h.tape,h.output,by have:=h.size;simp;omega,λb hb hL=>(Below.heap_alloc w ob b (wJ hb h.size)).trans (h.block b hb hL)⟩
theorem zs_ {t:Nat} {z:AV} (h:z_ P t z=true):∃v,(∀w:World,(zeroValue t).run P w= .ok v w)∧repV z v=true∧∃i,P.info? t=some i∧i.zero=some v:=by
 unfold z_ at h;split at h
 .rename_i i hi;split at h
  .rename_i v hv;exact⟨v,λw=>by simp [zeroValue,typeInfo,hi,hv],h,i,hi,hv⟩
  .cases h
 .cases h
theorem ck_ {c:AV} {v:Value} {n:Nat} (h:Rd w F nm c v) (hf:fits c n=true):
  v.cells.size=n∧∀(j:Nat) x,c.cells[j]?=some x->∃u,v.cells[j]?=some u∧u.oneCell'=true∧Rd w F nm x u:=by
 obtain⟨h1,h2,h3⟩:=fs11 hf;refine⟨by rw[<-h.cells_len h1,h2],λj x hx=>?_⟩;obtain⟨u,hu,hr⟩:=h.cell_at h1 hx;exact⟨u,hu,hr.oneCell (h3 x (zG hx)),hr⟩
theorem ns31 (h:RelX G C nm F st a w) {d:Nat} (hd:o.dst=some d) {b:Box} {c:AV} {v:Value} {cs:Array Value} {cap:Nat} (hsz:0<b.sz) (hcs:cs.size=cap*b.sz) (hcap:cap<=maxLen) (hlen:b.es.length<=cap)
  (hfit:∀e∈b.es,e.cells.length=b.sz)
  (hes:∀(k:Nat) e (j:Nat) x,b.es[k]?=some e->e.cells[j]?=some x->∃u,cs[k*b.sz+j]?=some u∧u.oneCell'=true∧∀m,Rd w F (if b.row then n10 else upd nm d m) x u)
  (hv:Rd (w.alloc (.cells cs b.ty)) F (upd nm d (some ⟨w.heap.size,b.sz,cap,b.ty⟩)) c v)
  (hr:(execOp a.eval o).run P w= .ok (.value v) (w.alloc (.cells cs b.ty)))
  (hp:st.new (some d) b c=some st'):S_ P G C o a w st':=by
 have hup:∀k,k<w.heap.size->(w.alloc (.cells cs b.ty)).heap[k]? =w.heap[k]? :=λk hk=>Below.heap_alloc w _ k hk;have hb:∀k,F k->(w.alloc (.cells cs b.ty)).heap[k]? =w.heap[k]? :=λk hk=>hup k (h.good.1 k hk);refine .inl ⟨_,_,hr,upd nm d (some ⟨w.heap.size,b.sz,cap,b.ty⟩),F,?_⟩;rw[hd];refine h.new (m:=some ⟨w.heap.size,b.sz,cap,b.ty⟩) hp (h.keep.alloc _) hup (by simp) (λm' hm=>by cases hm;exact zN _) hv ?_;refine .inr ⟨⟨w.heap.size,b.sz,cap,b.ty⟩,zY rfl,.inl ⟨rfl,rfl,hsz,cs,heap_alloc_new w _,hcs,hlen,hcap,hfit,λk e j x he hx=>?_⟩⟩;obtain⟨u,hu,hu1,hrd⟩:=hes k e j x he hx;refine⟨u,hu,hu1,?_⟩;have:=hrd (some ⟨w.heap.size,b.sz,cap,b.ty⟩);exact this.mono hb λ_ h=>h
theorem vs10 (h:RelX G C nm F st a w) {d:Nat} (hd:o.dst=some d) {ty sz:Nat} {c:AV} {v:Value} (hsz:0<sz) (hv:∀m,Rd w F (upd nm d m) c v) (hf:fits c sz=true)
  (hr:(execOp a.eval o).run P w= .ok (.value (.pointer (some ⟨w.heap.size,0,none⟩))) (w.alloc (.cells v.cells ty)))
  (hp:st.new (some d) ⟨false,ty,sz,[c]⟩ (.ref d 0 0)=some st'):S_ P G C o a w st':=by
 obtain⟨hs,_⟩:=ck_ (hv none) hf;refine ns31 (cap:=1) h hd hsz (by simp [hs]) (by simp [maxLen]) (by simp) (λe he=>?_) (λk e j x he hx=>?_) ?_ hr hp
 .simp only[yZ] at he;subst he;exact (fs11 hf).2.1
 .match k,he with
  | 0,he=>
   simp only[yK,zZ] at he;subst he;obtain⟨u,hu,hu1,_⟩:=(ck_ (hv none) hf).2 j x hx;refine⟨u,by simpa using hu,hu1,λm=>?_⟩;obtain⟨u',hu',_,hr'⟩:=(ck_ (hv m) hf).2 j x hx;rw[hu] at hu';cases hu';simpa using hr'
  | k+1,he=>simp at he
 .have:=Rd.ref (w:=w.alloc (.cells v.cells ty)) (F:=F) (upd nm d (some ⟨w.heap.size,sz,1,ty⟩)) d 0 0 ⟨w.heap.size,sz,1,ty⟩ (zY rfl);simpa using this
theorem as31 (h:RelX G C nm F st a w) {e ty sz:Nat} {z:AV} (ho:o.op= .alloc e) (hc:c10 P (.alloc e) (.alloc ty sz z)=true) (he:e12 G o.dst (.alloc ty sz z) st=some st'):S_ P G C o a w st':=by
 simp only[c10,zJ,zB,zW] at hc;obtain⟨⟨⟨rfl,hz⟩,hf⟩,hsz⟩:=hc;obtain⟨v,hrun,hrep,_⟩:=zs_ hz;simp only[e12] at he;split at he
 .rename_i d hd;refine vs10 h hd hsz (λm=>rr_ hrep) hf ?_ he;simp only[execOp,ho,Instr.alloc,Sem.run_bind,hrun,Result.andThen_ok,newVar,newRow,run_newObj,Sem.run_pure];rfl
 .cases he
theorem bs15 (h:RelX G C nm F st a w) {e ty sz:Nat} {x:Operand} {y:Opd} (ho:o.op= .box e x) (hc:c10 P (.box e x) (.box ty sz y)=true) (he:e12 G o.dst (.box ty sz y) st=some st'):S_ P G C o a w st':=by
 simp only[c10,zJ,zB,zW] at hc;obtain⟨⟨rfl,hx⟩,hsz⟩:=hc;have hrd:=h.opd hx;simp only[e12] at he;split at he
 .rename_i d hd;split at he
  .rename_i hf;refine vs10 h hd hsz (v:=a.eval x) (λm=>hrd.purge λj hj=>zK hj) hf ?_ he;simp only[execOp,ho,Instr.box,Sem.run_bind,Result.andThen_ok,newVar,newRow,run_newObj,Sem.run_pure];rfl
  .cases he
 .cases he
end
theorem fa11 (off:Nat):∀(l:List Value) (k:Nat) (cs:Array Value),off+k+l.length<=cs.size->∀p,
  ((l.zipIdx k).foldl (λ(cs:Array Value) (x:Value×Nat)=>cs.setIfInBounds (off+x.2) x.1) cs)[p]? =if off+k<=p∧p<off+k+l.length then l[p - (off+k)]? else cs[p]?
 | [],k,cs,_,p=>by simp only[List.zipIdx_nil,uZ,xY];rw[zK (by omega)]
 | v::l,k,cs,h,p=>by
  simp only[List.zipIdx_cons,zO];rw[fa11 off l (k+1) (cs.setIfInBounds (off+k) v) (by simp at h ⊢;omega) p];simp only[yH] at h ⊢;by_cases h1:off+(k+1)<=p∧p<off+(k+1)+l.length
  .rw[zY h1,zY (by omega),show p - (off+k)=(p - (off+(k+1)))+1 from by omega,yW]
  .rw[zK h1,uF];by_cases h2:off+k=p
   .subst h2;rw[zY rfl,zY (by omega),zY (by omega)];simp
   .rw[zK h2,zK (by omega)]
theorem fa10 (off:Nat) (v:Array Value) (cs:Array Value) (h:off+v.size<=cs.size) (p:Nat):
  (v.zipIdx.foldl (λ(cs:Array Value) (x:Value×Nat)=>cs.setIfInBounds (off+x.2) x.1) cs)[p]? =if off<=p∧p<off+v.size then v[p - off]? else cs[p]? :=by
 rw[<-Array.foldl_toList];have e:v.zipIdx.toList=v.toList.zipIdx 0:=by simp
 rw[e,fa11 off v.toList 0 cs (by simpa using h) p];simp
theorem fs16 (off:Nat) (v:Array Value) (cs:Array Value):(v.zipIdx.foldl (λ(cs:Array Value) (x:Value×Nat)=>cs.setIfInBounds (off+x.2) x.1) cs).size=cs.size:=by
 rw[<-Array.foldl_toList];generalize v.zipIdx.toList=l
 induction l generalizing cs with
 | nil=>rfl
 | cons x l ih=>simp [zO,ih]
section
variable {P:Program} {G:Nat->Option AV} {C:Ctx} {nm:N_} {F:Nat->Prop} {st st':St} {a:Act} {w:World} {o:Oper}
def C_ (w:World) (F:Nat->Prop) (nm:N_) (cs:List AV) (us:Array Value):Prop:=
 cs.length=us.size∧∀(j:Nat) c u,cs[j]?=some c->us[j]?=some u->Rd w F nm c u
theorem C_.of_agg {cs:List AV} {us:Array Value} (h:Rd w F nm (.agg cs) (.agg us)):C_ w F nm cs us:=by
 cases h with
 | agg _ _ us hl h=>exact⟨by simpa using hl,λj c u hc hu=>h j c u hc (by simpa using hu)⟩
theorem C_.agg {cs:List AV} {us:Array Value} (h:C_ w F nm cs us):Rd w F nm (.agg cs) (.agg us):=by have:=Rd.agg (w:=w) (F:=F) nm cs us.toList (by simpa using h.1) (λj c u hc hu=>h.2 j c u hc (by simpa using hu));simpa using this
theorem C_.set {cs:List AV} {us:Array Value} (h:C_ w F nm cs us) {x:AV} {v:Value} {off n:Nat} (hx:Rd w F nm x v) (hf:fits x n=true) (ho:off+n<=cs.length):
  C_ w F nm (s21 cs off x.cells) (v.cells.zipIdx.foldl (λ(cs:Array Value) (x:Value×Nat)=>cs.setIfInBounds (off+x.2) x.1) us):=by
 obtain⟨hs,hc⟩:=ck_ hx hf;obtain⟨_,hlen,_⟩:=fs11 hf;refine⟨by rw[sl10,fs16,h.1],λj c u hcj huj=>?_⟩;rw[sa16 _ _ _ _ (by rw[hlen];exact ho),hlen] at hcj;rw[fa10 _ _ _ (by rw[hs,<-h.1];exact ho),hs] at huj;split at hcj
 .rename_i hj;rw[zY hj] at huj;obtain⟨u',hu',_,hr⟩:=hc _ c hcj;rw[hu'] at huj;cases huj;exact hr
 .rename_i hj;rw[zK hj] at huj;exact h.2 j c u hcj huj
theorem as13 (h:RelX G C nm F st a w) (place:Nat->Option (Nat×Nat)):∀(ps:List (Nat×Operand)) (qs:List (Nat×Nat×Opd)) (zs:List AV) (us:Array Value) (c:AV),
  c15 place ps qs=true->C_ w F nm zs us->a21 G st zs qs=some c->
  ∃cells,Instr.fill place us (ps.map λx=>(x.1,a.eval x.2))=some cells∧Rd w F nm c (.agg cells)
 | [],[],zs,us,c,_,hz,hb=>by simp only[a21,zZ] at hb;subst hb;exact⟨us,rfl,hz.agg⟩
 | (i,x)::ps,(off,n,y)::qs,zs,us,c,hc,hz,hb=>by
  simp only[c15,zJ] at hc;obtain⟨⟨hp,hx⟩,hr⟩:=hc;split at hp
  .rename_i f m hpl;simp only[zJ,zB] at hp;obtain⟨rfl,rfl⟩:=hp;simp only[a21] at hb;split at hb
   .rename_i hf;have hrd:=h.opd hx;obtain⟨cells,h1,h2⟩:=as13 h place ps qs _ _ c hr (hz.set hrd hf.1 hf.2) hb;refine⟨cells,?_,h2⟩;simp only[yJ,Instr.fill,hpl];rw[(ck_ hrd hf.1).1,<-hz.1];rw[zK (by simp;omega)];exact h1
   .cases hb
  .cases hp
 | [],_ ::_,_,_,_,hc,_,_ =>by simp [c15] at hc
 | _ ::_,[],_,_,_,hc,_,_ =>by simp [c15] at hc
theorem bs13 (h:RelX G C nm F st a w) {t:Nat} {ps:Array (Nat×Operand)} {zs:List AV} {qs:List (Nat×Nat×Opd)} (ho:o.op= .build t ps) (hc:c19 P t zs ps.toList qs=true)
  (he:(a21 G st zs qs).bind (st.put o.dst)=some st'):S_ P G C o a w st':=by
 obtain⟨c,hb,hp⟩:=bp_ he;have key:∃cells,P.built t (ps.toList.map λx=>(x.1,a.eval x.2))=some cells∧Rd w F nm c (.agg cells):=by
  unfold c19 at hc;unfold Program.built;split at hc
  .rename_i it e hit hu;split at hc
   .rename_i z ie hz hie;simp only[zJ] at hc;simp only[hit,hu,hz,hie];have hzr:Rd w F nm (.agg zs) z:=rr_ hc.1;have hcr:C_ w F nm zs z.cells:=by
     cases hzr with
     | agg _ _ us hl hr=>exact C_.of_agg (.agg _ _ us hl hr)
    exact as13 h _ _ _ _ _ _ hc.2 hcr hb
   .cases hc
  .rename_i it fields hit hu;split at hc
   .rename_i z places hz hpl;simp only[zJ] at hc;simp only[hit,hu,hz,hpl];have hzr:Rd w F nm (.agg zs) z:=rr_ hc.1;have hcr:C_ w F nm zs z.cells:=by
     cases hzr with
     | agg _ _ us hl hr=>exact C_.of_agg (.agg _ _ us hl hr)
    exact as13 h _ _ _ _ _ _ hc.2 hcr hb
   .cases hc
  .cases hc
 obtain⟨cells,h1,h2⟩:=key;refine vs_ h ?_ h2 hp;have e:(ps.map λx=>(x.1,a.eval x.2)).toList=ps.toList.map λx=>(x.1,a.eval x.2):=by simp
 simp only[execOp,ho,Sem.run_bind];rw[run_build w t _ cells (by rw[e];exact h1)];rfl
end
section
variable {P:Program} {G:Nat->Option AV} {C:Ctx} {nm:N_} {F:Nat->Prop} {st st':St} {a:Act} {w:World} {o:Oper}
theorem ns32 (h:RelX G C nm F st a w) {ty sz:Nat} (hsz:0<sz) (hr:(execOp a.eval o).run P w= .ok (.value (.slice none 0 0)) w) (he:e12 G o.dst (.nilrow ty sz) st=some st'):S_ P G C o a w st':=by
 simp only[e12] at he;split at he
 .rename_i d hd;refine .inl ⟨_,_,hr,upd nm d none,F,?_⟩;rw[hd];refine h.new (m:=none) he h.keep (λ_ _ =>rfl) (zN _) (λ_ hm=>by cases hm) (.arrN _ _) (.inl ⟨zY rfl,rfl,rfl,hsz⟩)
 .cases he
theorem sa19 (cur:Array Value) (vs:List Value) (o p:Nat) (h:o+vs.length<=cur.size):
  (cur.toList.take o++vs++cur.toList.drop (o+vs.length)).toArray[p]? =if o<=p∧p<o+vs.length then vs[p - o]? else cur[p]? :=by
 have ho:(cur.toList.take o).length=o:=by simp;omega
 simp only[List.getElem?_toArray,wE,zL,ho];by_cases h1:p<o+vs.length
 .rw[zY h1];by_cases h2:p<o
  .rw[zY h2,zK (by omega),yN,zY h2];simp
  .rw[zK h2,zY (by omega)]
 .rw[zK h1,zK (by omega),xX,show o+vs.length+(p - (o+vs.length))=p from by omega];simp
theorem clean.go_at:∀{cs:List AV},Ab.clean.go cs=true->∀(j:Nat) c,cs[j]?=some c->Ab.clean c=true
 | [],_,j,c,hc=>by simp at hc
 | x::xs,h,j,c,hc=>by
  simp only[Ab.clean.go,zJ] at h;cases j with
  | zero=>simp at hc;subst hc;exact h.1
  | succ j=>simp at hc;exact clean.go_at h.2 j c hc
theorem Rd.clean {nm':N_} {c:AV} {v:Value} (h:Rd w F nm c v) (hf:Ab.clean c=true):Rd w F nm' c v:=by
 induction h with
 | top nm v=>exact .top _ _
 | undef nm=>exact .undef _
 | bool nm b=>exact .bool _ _
 | int nm k n=>exact .int _ _ _
 | str nm s=>exact .str _ _
 | agg nm cs us hl h ih=>exact .agg _ _ _ hl λj c u hc hu=>ih j c u hc hu (clean.go_at hf j c hc)
 | tup nm cs us hl h ih=>exact .tup _ _ _ hl λj c u hc hu=>ih j c u hc hu (clean.go_at hf j c hc)
 | seq0 nm sz a cap=>exact .seq0 _ _ _ _
 | seq nm sz es g o cap u h0 hFg hc hm hs hw' h1 h ih=>exact .seq _ _ _ _ _ _ u h0 hFg hc hm hs hw' h1 h
 | full nm sz es g o u h0 hFg hm hs hw' h1 h ih=>exact .full _ _ _ _ _ u h0 hFg hm hs hw' h1 h
 | nils nm=>exact .nils _
 | arr nm j k n m hi hk hp=>simp [Ab.clean] at hf
 | arrE nm j k a cap hk=>simp [Ab.clean] at hf
 | arrN nm j=>simp [Ab.clean] at hf
 | ref nm i k off m hi=>simp [Ab.clean] at hf
 | eptr nm e off g o u hFg hw' h1 h ih=>exact .eptr _ _ _ _ _ u hFg hw' h1 h
 | nilp nm=>exact .nilp _
 | fn nm f cs us hl h ih=>exact .fn _ _ _ _ hl λj c u hc hu=>ih j c u hc hu (clean.go_at hf j c hc)
 | nilfn nm=>exact .nilfn _
 | nili nm=>exact .nili _
 | iface nm t c u h ih=>exact .iface _ _ _ _ (ih hf)
 | mapv nm i m hi=>simp [Ab.clean] at hf
 | nilm nm=>exact .nilm _
 | rawp nm b o=>exact .rawp _ _ _
 | mapc nm es g ents clock hFg hh hbn hl ht hk hv ihk ihv=>exact .mapc _ _ _ ents clock hFg hh hbn hl ht hk hv
theorem cc24 {c:AV} (h:Ab.clean c=true):∀x∈c.cells,Ab.clean x=true:=by
 intro x hx;cases c <;> simp only[AV.cells,yZ] at hx <;> first | (subst hx;exact h) | skip
 case agg cs=>
  obtain⟨j,hj⟩:=zM hx;exact clean.go_at h j x hj
theorem ss15 (h:RelX G C nm F st a w) {t:Nat} {x y:Operand} {p q:Opd} {n:Nat} (ho:o.op= .store t x y) (hx:c_ x p=true) (hy:c_ y q=true) (hs:szIs P t n=true)
  (hd:o.dst=none) (he:a23 st (st.ev G p) (st.ev G q) n=some st'):S_ P G C o a w st':=by
 have hp:=h.opd hx;have hv:=h.opd hy;generalize st.ev G p=pv at*;generalize st.ev G q=qv at*;generalize hev:a.eval x=xv at*;generalize hew:a.eval y=yv at*;cases pv <;> simp only[a23,reduceCtorEq] at he
 case ref i k off=>
  cases hp with
  | ref _ _ _ _ m hi=>
   split at he
   .rename_i b hb;split at he
    .cases he
    .rename_i hrow;split at he
     .rename_i e hek;split at he
      .rename_i hf;split at he
       .rename_i e' hre;simp only[zZ] at he;subst he;obtain⟨hf,hle⟩:=hf;obtain⟨hvs,hvc⟩:=ck_ hv hf;obtain⟨_,hqn,_⟩:=fs11 hf;rcases h.box i b hb with ⟨hn,_⟩ | ⟨m',hm',hl⟩
        .rw[hi] at hn;cases hn
        rw[hi] at hm';cases hm';obtain⟨h1,h2,h3,cs,h4,h5,h6,h7,h8,h9⟩:=(if hr:b.row=true then hl.c (by have:¬b.sz=0:=λe=>hrow ⟨hr,.inr e⟩;omega) else hl.v hr:L_ w F nm m b);have hklt:k<b.es.length:=(zX.1 hek).1;have hesz:e.cells.length=m.sz:=by rw[h1];exact h8 e (zG hek)
        have hroom:k*m.sz+off+n<=cs.size:=by rw[h5];have:(k+1)*m.sz<=m.cap*m.sz:=xZ _ (by omega);rw[xM] at this;omega
        have hone:∀u∈yv.cells.toList,u.oneCell'=true:=λu hu=>by
         obtain⟨j,hj⟩:=zM hu;have hjn:j<qv.cells.length:=by rw[hqn,<-hvs];have:=(zX.1 hj).1;simpa using this
         obtain⟨u',hu',h1',_⟩:=hvc j _ (zU hjn);have:yv.cells.toList[j]?=some u':=by simpa using hu'
         rw[this] at hj;cases hj;exact h1'
        have hlen:yv.cells.toList.length=n:=by simpa using hvs
        have hst:=run_storeCells_at P m.g (k*m.sz+off) m.ty yv.cells.toList 0 cs w h4 (by simp only[vZ,hlen];exact hroom) hone;simp only[vZ,hlen] at hst;have hrun:(execOp a.eval o).run P w= .ok .skip (w.setRow m.g (cs.toList.take (k*m.sz+off)++yv.cells.toList++cs.toList.drop (k*m.sz+off+n)).toArray):=by simp only[execOp,ho,hev,hew,Instr.storeAt,Instr.sureAddr,storeVar,Sem.run_bind,Sem.run_pure,Result.andThen_ok,sr_ hs,hvs,sZ,wF,yI,hst]
        refine .inr ⟨_,hrun,nm,F,?_⟩;rw[hd];have e1:a.put none undef=a:=rfl;rw[e1]
        have hFw:∀bl,F bl->(w.setRow m.g (cs.toList.take (k*m.sz+off)++yv.cells.toList++cs.toList.drop (k*m.sz+off+n)).toArray).heap[bl]? =w.heap[bl]? :=
         λbl hbl=>setRow_other w m.g bl _ (λe=>h.fr i b m hb hi (e ▸ hbl))
        refine h.setBox hb hi rfl rfl rfl (by simp [World.setRow]) rfl (λj hj=>setRow_other w m.g j _ hj) ?_;have hec:e'.cells=s21 e.cells off qv.cells:=rc12 hre;refine .inl ⟨h1,h2,h3,_,setRow_heap w m.g cs _ m.ty (0,0) h4,?_,by simpa using h6,h7,λx hx=>?_,λk' x j c hx hc=>?_⟩
        .simp only[List.size_toArray,zL,xG,wN,Array.length_toList,hvs];omega
        .rcases tJ hx with hx | rfl
         .exact h8 x hx
         .rw[hec,sl10,hesz,h1]
        .have hat:=sa19 cs yv.cells.toList (k*m.sz+off) (k'*m.sz+j) (by rw[hlen];exact hroom);rw[hlen] at hat;simp only[hat];simp only[xP,hklt,xW] at hx;split at hx
         .rename_i hkk;subst hkk;simp only[zZ] at hx;subst hx;rw[hec,sa16 _ _ _ _ (by rw[hqn];exact hle),hqn] at hc;split at hc
          .rename_i hj;rw[zY (by omega),show k*m.sz+j - (k*m.sz+off)=j - off from by omega];obtain⟨u,hu,hu1,hr⟩:=hvc _ c hc;refine⟨u,by simpa using hu,hu1,?_⟩;by_cases hbr:b.row=true
           .have hcl:Ab.clean qv=true:=by cases hq:Ab.clean qv with | true=>rfl | false=>exact absurd ⟨hbr,.inl hq⟩ hrow
            rw[zY hbr];exact (hr.clean (cc24 hcl c (zG hc))).mono hFw λ_ h=>h
           .rw[zK hbr];exact hr.mono hFw λ_ h=>h
          .rename_i hj;rw[zK (by omega)];obtain⟨u,hu,hu1,hr⟩:=h9 k e j c hek hc;exact⟨u,hu,hu1,hr.mono hFw λ_ h=>h⟩
         .rename_i hkk;have hjlt:j<m.sz:=by
           rw[h1,<-h8 x (zG hx)];exact (zX.1 hc).1
          have hout:¬(k*m.sz+off<=k'*m.sz+j∧k'*m.sz+j<k*m.sz+off+n):=by
           rw[hesz] at hle;rcases Nat.lt_or_gt_of_ne hkk with hlt | hgt
           .have:(k+1)*m.sz<=k'*m.sz:=xZ _ hlt;rw[xM] at this;omega
           .have:(k'+1)*m.sz<=k*m.sz:=xZ _ hgt;rw[xM] at this;omega
          rw[zK hout];obtain⟨u,hu,hu1,hr⟩:=h9 k' x j c hx hc;exact⟨u,hu,hu1,hr.mono hFw λ_ h=>h⟩
       .cases he
      .cases he
     .cases he
   .cases he
def RowR (w:World) (F:Nat->Prop) (N:N_) (sz:Nat) (es:List AV) (us:Array Value):Prop:=
 us.size=es.length*sz∧(∀e∈es,e.cells.length=sz)∧
 ∀(k:Nat) e (j:Nat) c,es[k]?=some e->e.cells[j]?=some c->∃u,us[k*sz+j]?=some u∧u.oneCell'=true∧Rd w F N c u
theorem RowR.set {N:N_} {sz:Nat} {es:List AV} {us:Array Value} (h:RowR w F N sz es us) {x:AV} {v:Value} {i:Nat} (hx:Rd w F N x v) (hf:fits x sz=true) (hi:i<es.length):
  RowR w F N sz (es.set i x) (v.cells.zipIdx.foldl (λ(cs:Array Value) (x:Value×Nat)=>cs.setIfInBounds (i*sz+x.2) x.1) us):=by
 obtain⟨hs,hc⟩:=ck_ hx hf;obtain⟨_,hlen,_⟩:=fs11 hf;have hroom:i*sz+sz<=us.size:=by rw[h.1];have:(i+1)*sz<=es.length*sz:=xZ _ hi;rw[xM] at this;omega
 refine⟨by rw[fs16,h.1,tI],λe he=>?_,λk e j c he hcj=>?_⟩
 .rcases tJ he with he | rfl
  .exact h.2.1 e he
  .exact hlen
 .rw[fa10 _ _ _ (by rw[hs];exact hroom),hs];simp only[xP] at he;split at he
  .rename_i hk;subst hk;simp only[zZ] at he;subst he;have hj:j<sz:=by rw[<-hlen];exact (zX.1 hcj).1
   obtain⟨u,hu,hu1,hr⟩:=hc j c hcj;exact⟨u,by rw[zY (by omega),show i*sz+j - i*sz=j from by omega];exact hu,hu1,hr⟩
  .rename_i hk;have hj:j<sz:=by rw[<-h.2.1 e (zG he)];exact (zX.1 hcj).1
   have hout:¬(i*sz<=k*sz+j∧k*sz+j<i*sz+sz):=by
    rcases Nat.lt_or_gt_of_ne hk with hlt | hgt
    .have:(i+1)*sz<=k*sz:=xZ _ hlt;rw[xM] at this;omega
    .have:(k+1)*sz<=i*sz:=xZ _ hgt;rw[xM] at this;omega
   rw[zK hout];exact h.2.2 k e j c he hcj
theorem rs10 {N:N_} {sz:Nat}:∀(idx:List Nat) (vs:List AV) (us:List Value) (es es':List AV) (cur:Array Value),idx.length=us.length->vs.length=us.length->
  (∀(j:Nat) c u,vs[j]?=some c->us[j]?=some u->Rd w F N c u)->RowR w F N sz es cur->r12 sz es (idx.zip vs)=some es'->
  ∃cells,Instr.fill (λi=>some (i*sz,sz)) cur (idx.zip us)=some cells∧RowR w F N sz es' cells
 | [],_,_,es,es',cur,_,_,_,hr,h=>by simp only[List.zip_nil_left,r12,zZ] at h;subst h;exact⟨cur,rfl,hr⟩
 | i::idx,[],[],es,es',cur,hl,_,_,_,_ =>by simp at hl
 | i::idx,[],_ ::_,es,es',cur,_,hl,_,_,_ =>by simp at hl
 | i::idx,_ ::_,[],es,es',cur,_,hl,_,_,_ =>by simp at hl
 | i::idx,v::vs,u::us,es,es',cur,hl,hl',hrd,hr,h=>by
  simp only[List.zip_cons_cons,r12] at h;split at h
  .rename_i hf;have hv:=hrd 0 v u (by simp) (by simp);obtain⟨cells,h1,h2⟩:=rs10 idx vs us _ es' _ (by simpa using hl) (by simpa using hl') (λj c u hc hu=>hrd (j+1) c u (by simpa using hc) (by simpa using hu)) (hr.set hv hf.1 hf.2) h;refine⟨cells,?_,h2⟩;simp only[List.zip_cons_cons,Instr.fill];obtain⟨hs,_⟩:=ck_ hv hf.1;rw[hs,zK]
   .exact h1
   .have:(i+1)*sz<=es.length*sz:=xZ _ hf.2;rw[xM] at this;have:=hr.1;simp;omega
  .cases h
theorem cs12 {a:Act} {st:St} (h:RelX G C nm F st a w):∀{ps:List (Nat×Operand)} {qs:List (Nat×Opd)},c17 ps qs=true->
  ps.map (·.1)=qs.map (·.1)∧(evs G st (qs.map (·.2))).length=(ps.map λx=>a.eval x.2).length∧∀(j:Nat) c u,(evs G st (qs.map (·.2)))[j]?=some c->(ps.map λx=>a.eval x.2)[j]?=some u->Rd w F nm c u
 | [],[],_ =>⟨rfl,rfl,by simp [evs]⟩
 | (i,x)::ps,(k,y)::qs,hc=>by
  simp only[c17,zJ,zB] at hc;obtain⟨⟨rfl,hx⟩,hr⟩:=hc;obtain⟨h1,h2,h3⟩:=cs12 h hr;refine⟨by simp [h1],by simpa [evs] using h2,λj c u hcj huj=>?_⟩;cases j with
  | zero=>simp [evs] at hcj huj;subst hcj;subst huj;exact h.opd hx
  | succ j=>simp [evs] at hcj huj;exact h3 j c u hcj (by simpa using huj)
 | [],_ ::_,hc=>by simp [c17] at hc
 | _ ::_,[],hc=>by simp [c17] at hc
theorem ss_ {t e:Nat} (h:s30 P t e=true):P.underlying t=some (.slice e):=by
 unfold s30 at h;split at h
 .rename_i x hx;simp only[zB] at h;subst h;exact hx
 .cases h
theorem zr_ {F1:Nat->Prop} {N:N_} {z:AV} {zv:Value} {n sz:Nat} (hzr:Rd w F1 n10 z zv) (hfz:fits z sz=true):
  RowR w F1 N sz (List.replicate n z) ((Array.range (n*sz)).map (λi=>(zv.cells)[i % zv.cells.size]!)):=by
 obtain⟨hzs,hzc⟩:=ck_ hzr hfz;obtain⟨_,hzl,_⟩:=fs11 hfz;refine⟨by simp,λe he=>by rw[vO he];exact hzl,λk e j c hk hj=>?_⟩;have hkn:k<n:=by have:=(zX.1 hk).1;simpa using this
 have hez:e=z:=vO (zG hk);subst hez;have hjs:j<sz:=by rw[<-hzl];exact (zX.1 hj).1
 obtain⟨u,hu,hu1,hr⟩:=hzc j c hj;have hlt:k*sz+j<n*sz:=by have:(k+1)*sz<=n*sz:=xZ _ hkn;rw[xM] at this;omega
 refine⟨u,?_,hu1,hr.any N⟩;have hmod:(k*sz+j) % sz=j:=by rw[Nat.add_comm,Nat.add_mul_mod_self_right,tC hjs]
 simp only[Array.getElem?_map,Array.getElem?_range,hlt,xW,yF,hzs,hmod];rw[getElem!_pos zv.cells j (by rw[hzs];exact hjs)];rw[yG (by rw[hzs];exact hjs)] at hu;exact hu
theorem rl_ {sz:Nat}:∀(l:List (Nat×AV)) (es es':List AV),r12 sz es l=some es'->es'.length=es.length:=by
 intro l
 induction l with
 | nil=>intro es es' h;simp only[r12,zZ] at h;subst h;rfl
 | cons x l ih=>
  intro es es' h;obtain⟨i,v⟩:=x;simp only[r12] at h;split at h
  .rw[ih _ _ h,tI]
  .cases h
theorem ms10 (h:RelX G C nm F st a w) {t n:Nat} {ps:Array (Nat×Operand)} {ty sz n':Nat} {z:AV} {qs:List (Nat×Opd)} (ho:o.op= .buildSlice t n ps)
  (hc:c10 P (.buildSlice t n ps) (.mkrow ty sz n' z qs)=true) (he:e12 G o.dst (.mkrow ty sz n' z qs) st=some st'):S_ P G C o a w st':=by
 simp only[c10,zJ,zB,zW] at hc;obtain⟨⟨⟨⟨⟨⟨⟨hsl,hsz⟩,h0⟩,rfl⟩,hbig⟩,hz⟩,hfz⟩,hel⟩:=hc;have ht:=ss_ hsl;obtain⟨zv,hzrun,hzrep,_⟩:=zs_ hz;obtain⟨hidx,hlen,hrd⟩:=cs12 h hel
 have mkrun:∀{cells:Array Value},Instr.fill (λi=>some (i*sz,sz)) ((Array.range (n*sz)).map (λi=>(zv.cells)[i % zv.cells.size]!)) ((qs.map (·.1)).zip (ps.toList.map λx=>a.eval x.2))=some cells->
   (execOp a.eval o).run P w= .ok (.value (.slice (some ⟨w.heap.size,0,none⟩) n n)) (w.alloc (.cells cells ty)):=by
  intro cells hfill;have hzip:(ps.map λx=>(x.1,a.eval x.2)).toList=(qs.map (·.1)).zip (ps.toList.map λx=>a.eval x.2):=by rw[<-hidx];simp [List.zip_map']
  have harr:n*sz=0->(Array.range (n*sz)).map (λi=>(#[]:Array Value)[i % (#[]:Array Value).size]!)=(Array.range (n*sz)).map (λi=>(zv.cells)[i % zv.cells.size]!):=by intro e;rw[e];apply Array.ext <;> simp
  simp only[execOp,ho,Instr.buildSlice,Sem.run_bind,run_underlying ht,Result.andThen_ok,sr_ hsz];rw[zK (by omega)];by_cases e:n*sz=0
  .rw[zY e];simp only[Sem.run_bind,Sem.run_pure,Result.andThen_ok,harr e,hzip,hfill,newRow,run_newObj];rfl
  .rw[zK e];simp only[hzrun,Result.andThen_ok,hzip,hfill,Sem.run_bind,newRow,run_newObj,Sem.run_pure];rfl
 have hcapn:n<=maxLen:=by simp only[maxLen];have:n*1<=n*sz:=tY _ h0;omega
 simp only[e12] at he;split at he
 .rename_i d hd;split at he
  .rename_i z0;simp only[zV] at hzrep hfz;split at he
   .rename_i es hes;have hpl:((evs G st (qs.map (·.2))).map (purge d)).length=(ps.toList.map λx=>a.eval x.2).length:=by rw[zQ];exact hlen
    have key:∀m,∃cells,Instr.fill (λi=>some (i*sz,sz)) ((Array.range (n*sz)).map (λi=>(zv.cells)[i % zv.cells.size]!)) ((qs.map (·.1)).zip (ps.toList.map λx=>a.eval x.2))=some cells∧RowR w F (upd nm d m) sz es cells:=λm=>
     rs10 (N:=upd nm d m) (qs.map (·.1)) _ (ps.toList.map λx=>a.eval x.2) (List.replicate n z0) es _ (by rw[<-hidx];simp) hpl (λj c u hc hu=>by rw[zS] at hc;obtain⟨c',hc',rfl⟩:=zH.1 hc;exact (hrd j c' u hc' hu).purge λj hj=>zK hj) (zr_ (rr_ hzrep) hfz) hes
    obtain⟨cells,hfill,hrow⟩:=key none;have hall:∀m,RowR w F (upd nm d m) sz es cells:=λm=>by obtain⟨c2,h2,h3⟩:=key m;rw[hfill] at h2;cases h2;exact h3
    have hesl:es.length=n:=by rw[rl_ _ _ _ hes,uN]
    refine ns31 (v:=.slice (some ⟨w.heap.size,0,none⟩) n n) (cap:=n) h hd h0 (by rw[hrow.1,hesl]) hcapn (by rw[hesl];exact zN _) hrow.2.1 (λk e j x hk hx=>?_) ?_ (mkrun hfill) he
    .obtain⟨u,hu,hu1,_⟩:=hrow.2.2 k e j x hk hx;refine⟨u,hu,hu1,λm=>?_⟩;obtain⟨u2,hu2,_,hr2⟩:=(hall m).2.2 k e j x hk hx;rw[hu] at hu2;cases hu2;exact hr2
    .have:=Rd.arr (w:=w.alloc (.cells cells ty)) (F:=F) (upd nm d (some ⟨w.heap.size,sz,n,ty⟩)) d 0 n ⟨w.heap.size,sz,n,ty⟩ (zY rfl) (by simp) (.inr rfl);simpa using this
   .cases he
  .rename_i z0 z1;simp only[zV] at hzrep hfz;split at he
   .rename_i vs hvs;split at he
    .rename_i es hes;split at he
     .rename_i hemp;have hemp':r11 (evs G st (qs.map (·.2)))=[]:=by simpa using hemp
      obtain⟨hvl,hvr⟩:=vr10 (F':=F) h.box (λ_ h=>h) hvs (λi hi m hm=>by rw[hemp'] at hi;cases hi) hlen hrd;obtain⟨cells,hfill,hrow⟩:=rs10 (N:=n10) (qs.map (·.1)) vs (ps.toList.map λx=>a.eval x.2) (List.replicate n z0) es _ (by rw[<-hidx];simp) hvl hvr (zr_ (rr_ hzrep) hfz) hes;have hesl:es.length=n:=by rw[rl_ _ _ _ hes,uN]
      have hsize:cells.size=n*sz:=by rw[hrow.1,hesl]
      refine .inl ⟨_,_,mkrun hfill,nm,λk=>F k∨k=w.heap.size,?_⟩;rw[hd];have hup:∀k,k<w.heap.size->(w.alloc (.cells cells ty)).heap[k]? =w.heap[k]? :=λk hk=>Below.heap_alloc w _ k hk;have hFup:∀k,F k->(w.alloc (.cells cells ty)).heap[k]? =w.heap[k]? :=λk hk=>hup k (h.good.1 k hk)
      have h2:RelX G C nm (λk=>F k∨k=w.heap.size) st a (w.alloc (.cells cells ty)):=h.world (h.keep.alloc _) (λ_ h=>.inl h) (λk hk=>hk.elim .inl λe=>.inr (by omega))
       (λk hk=>hk.elim (λhk=>wJ (h.good.1 k hk) (by simp)) (λhk=>by subst hk;simp)) hup
      refine h2.put ?_ he;have hcellE:∀(k:Nat) e (j:Nat) c,es[k]?=some e->e.cells[j]?=some c->k*sz+j<n*sz:=λk e j c hk hj=>by obtain⟨u,hu,_⟩:=hrow.2.2 k e j c hk hj;rw[<-hsize];exact (yC.1 hu).1
      have full:=Rd.full (w:=w.alloc (.cells cells ty)) (F:=λk=>F k∨k=w.heap.size) nm sz es w.heap.size 0 (λp=>cells.getD p undef) h0 (.inr rfl) (by rw[hesl];exact hcapn) hrow.2.1 (λp hp=>by
        rw[hesl,<-hsize] at hp;simp only[World.cell?,heap_alloc_new,yS,zC,yG hp,xK];rfl) (λp hp=>by
        rw[hesl] at hp;have hk:p / sz<es.length:=by rw[hesl];exact (Nat.div_lt_iff_lt_mul h0).2 hp
        have hj:p % sz<(es[p / sz]).cells.length:=by rw[hrow.2.1 _ (tQ hk)];exact Nat.mod_lt _ h0
        obtain⟨u,hu,hu1,_⟩:=hrow.2.2 _ _ _ _ (zU hk) (zU hj);have e:p / sz*sz+p % sz=p:=by rw[uV];exact tO p sz
        rw[e] at hu;simp only[zC,hu,xK];exact hu1) (λk e j c hk hj=>by
        obtain⟨u,hu,_,hr⟩:=hrow.2.2 k e j c hk hj;simp only[zC,hu,xK];exact hr.mono hFup λ_ h=>.inl h)
      rw[hesl] at full;exact full
     .cases he
    .cases he
   .cases he
  .rename_i z0 hzne hzne2;have hzz:zV z=z:=by
    unfold zV;split
    .exact (hzne _ rfl).elim
    .exact (hzne2 _ _ rfl).elim
    .rfl
   rw[hzz] at hzrep hfz;split at he
   .rename_i vs hvs;split at he
    .rename_i es hes;obtain⟨F1,hF1,hrows,h1⟩:=RelX.thaws (G:=G) (C:=C) (nm:=nm) (a:=a) (w:=w) (r11 (evs G st (qs.map (·.2)))) h (λi hi b hb=>by
      obtain⟨b',hb',hrow⟩:=vr_ hvs i hi;rw[hb] at hb';cases hb';exact hrow)
     obtain⟨hvl,hvr⟩:=vr10 h.box hF1 hvs (λi hi m hm=>by obtain⟨b,hb,_⟩:=vr_ hvs i hi;exact hrows i hi b m hb hm) hlen hrd
     obtain⟨cells,hfill,hrow⟩:=rs10 (N:=n10) (qs.map (·.1)) vs (ps.toList.map λx=>a.eval x.2) (List.replicate n z) es _ (by rw[<-hidx];simp) hvl hvr (zr_ (rr_ hzrep) hfz) hes;have hesl:es.length=n:=by rw[rl_ _ _ _ hes,uN]
     refine ns31 (v:=.slice (some ⟨w.heap.size,0,none⟩) n n) (cap:=n) h1 hd h0 (by rw[hrow.1,hesl]) hcapn (by rw[hesl];exact zN _) hrow.2.1 (λk e j x hk hx=>?_) ?_ (mkrun hfill) he
     .obtain⟨u,hu,hu1,hr⟩:=hrow.2.2 k e j x hk hx;exact⟨u,hu,hu1,λ_ =>by simpa using hr⟩
     .have:=Rd.arr (w:=w.alloc (.cells cells ty)) (F:=F1) (upd nm d (some ⟨w.heap.size,sz,n,ty⟩)) d 0 n ⟨w.heap.size,sz,n,ty⟩ (zY rfl) (by simp) (.inr rfl);simpa using this
    .cases he
   .cases he
 .cases he
end
