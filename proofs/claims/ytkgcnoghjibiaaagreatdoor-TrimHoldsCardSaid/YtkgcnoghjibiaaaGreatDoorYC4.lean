/- Lemmas. -/
import Derived.Test.YtkgcnoghjibiaaaGreatDoorYD25
import Derived.Shelf.Strings.Builder2
import Derived.Shelf.Strconv.Itoa3
import Derived.Lib.AppendIntMem
import Derived.Laws.CopyOwn
set_option linter.unusedSimpArgs false
set_option maxHeartbeats 4000000
set_option maxRecDepth 100000
namespace Go.Proofs.YtkgcnoghjibiaaaGreatDoor.Ab
open Go
variable {G:Nat->Option AV}
theorem cRp_ (hG:wg_ G) (q:QeaT) (hq:q.Few):PQ G 37 [qeaV q] (.bool (r20 q)):=by
 have h1:=cfp_ (G:=G) q;have h2:=chp_ hG q hq;have h3:=ctp_ (G:=G) q hq;have h4:=cs15 (G:=G) q hq;refine pcR_ λΦ h=>?_;unfold ccR_;unfold r20 at h;generalize fewS q=b1 at*;generalize h24 q=b2 at*;generalize t44 q (e11 q) s13=b3 at*;generalize s23 q=b4 at*;simp only[qeaV,d_,q_,f_,s_,s10,n_,t_] at h1 h2 h3 h4
 repeat' (first|simp -implicitDefEqProofs only[go_sem,qeaV,d_,q_,f_,s_,s10,n_,t_]|apply ai__<;>intro hb|refine ac_ h1 rfl rfl ?_|refine ac_ h2 rfl rfl ?_|refine ac_ h3 rfl rfl ?_|refine ac_ h4 rfl rfl ?_|fail)
 all_goals (refine h _ ⟨_,_,rfl,rfl,fe_ ?_⟩;clear h;first | rfl | simp_all)
theorem rR10 (q:QeaT) (hq:q.Few):PQ G 7 [qeaV q] (.bool (r10 q)):=by
 have hck:=rCp_ (G:=G) q.decls (by have:=hq.decls;omega) (λd hd=>by have:=hq.types d hd;omega);have hnm:=rn10 (G:=G) q hq;have htl:=hq.trans;refine ppR_ λΦ h=>?_;unfold cpR_;have fin:∀b heap,r10 q=b->Φ ⟨101,[(2,.bool b)],heap⟩:=λb heap e=>h _ ⟨_,_,rfl,rfl,fitB e.symm⟩;clear h;simp only[qeaV,d_,q_,f_,s_,s10,n_,t_] at hck hnm;cases hT:topR q with
 | false=>
  have hR:r10 q=false:=by rw[r10,hT,yM]
  unfold topR fewS at hT;generalize d10 q.decls=dc at*;generalize h20 q=hd at*;simp only[wK,zW,yQ,zJ,zB] at hT
  repeat' (first|simp -implicitDefEqProofs only[go_sem,qeaV,d_,q_,f_,s_,s10,n_,t_,zQ]|apply ai__<;>intro hb|refine ac_ hck rfl rfl ?_|refine ac_ hnm rfl rfl ?_|fail)
  all_goals first | exact fin _ _ hR | (exfalso;clear fin hck hnm;simp_all;omega) | (exfalso;clear fin hck hnm;simp_all;done)
 | true=>
  have hR:r10 q=(t26 q&&s16 q):=by rw[r10,hT,yR]
  have hk:q.Kinds:=by unfold topR at hT;simp only[zJ] at hT;exact tk10 hT.2.2.2.2
  unfold topR fewS at hT;generalize d10 q.decls=dc at*;generalize h20 q=hd at*;simp only[zW,zJ,zB] at hT;obtain⟨t1,⟨t2,t3,t4,t5,t6,t7⟩,t8,t9,t10⟩:=hT;subst t10
  repeat' (first|simp -implicitDefEqProofs only[go_sem,qeaV,d_,q_,f_,s_,s10,n_,t_,zQ,t1]|apply ai__<;>intro hb|refine ac_ hck rfl rfl ?_|refine ac_ hnm rfl rfl ?_|fail)
  all_goals first | (exfalso;clear fin hck hnm;simp at*;omega) | (exfalso;clear fin hck hnm;simp at*;done) | skip
  refine al_ (λn st=>∃(i:Nat) (a:Int),i+n=q.trans.length∧st=⟨101,[(1,.ref 1 0 0),(5,iv a),(6,iv i)],[(1,⟨false,30,9,[qeaV q]⟩)]⟩∧0<=a∧a<=q.nodes.length∧(∀j t,j<i->q.trans[j]?=some t->inR t.symbol q.symbols.length=true)∧allS (s26 q) q.trans 0 0=allS (s26 q) (q.trans.drop i) i a) q.trans.length ⟨0,0,by simp,rfl,by omega,by omega,λj x hj=>by omega,rfl⟩ ?_;rintro I hI n st ⟨i,a,hi,rfl,h0,hl,hin,hno⟩;simp -implicitDefEqProofs only[go_sem,qeaV,d_,q_,f_,s_,s10,n_,t_,zQ];refine⟨λhlt=>?_,λhge=>?_⟩
  .have hlt':i<q.trans.length:=by omega
   obtain⟨t,ht,hm⟩:=as10 hlt';have hw:=ws_ hlt';have hc:=rt11 (G:=G) q hq hk t (by have:=hq.sets t hm;omega) a h0 hl;have hle:=tl13 (t:=t) h0 hl;rw[as15 ht] at hno;unfold s26 at hno;have hno':(if (t15 q t a).2=true then allS (s26 q) (q.trans.drop (i+1)) (i+1) (t15 q t a).1 else (false,(t15 q t a).1))=allS (s26 q) q.trans 0 0:=hno.symm;clear hno;generalize t15 q t a=r at*;obtain⟨A,b⟩:=r;dsimp only at hle hno';simp only[t11,s18,qeaV,d_,q_,f_,s_,s10,n_,t_,tupR] at hc;cases b with
   | false=>
    have hbad:r10 q=false:=by rw[hR,t26,<-hno'];rfl
    repeat' (first|simp -implicitDefEqProofs only[go_sem,am_ ht,t11,s18,qeaV,d_,q_,f_,s_,s10,n_,t_,zQ,hw]|apply ai__<;>intro hb|refine ac_ hc rfl rfl ?_|fail)
    exact fin _ _ hbad
   | true=>
    obtain⟨l1,l2,l3⟩:=hle rfl;have hnext:a13 I n ⟨101,[(1,.ref 1 0 0),(5,iv A),(6,iv (i+1:Nat))],[(1,⟨false,30,9,[qeaV q]⟩)]⟩:=aa_ (n - 1) (by omega) (hI _ _ ⟨i+1,A,by omega,rfl,l1,l2,as11 (p:=λ_ (t:TransT)=>inR t.symbol q.symbols.length) ht l3 hin,by rw[<-hno',zY rfl]⟩)
    repeat' (first|simp -implicitDefEqProofs only[go_sem,am_ ht,t11,s18,qeaV,d_,q_,f_,s_,s10,n_,t_,zQ,hw]|apply ai__<;>intro hb|refine ac_ hc rfl rfl ?_|fail)
    exact hnext
  .have hs:∀t∈q.trans,inR t.symbol q.symbols.length=true:=λt ht=>by
    obtain⟨j,hj⟩:=zM ht;exact hin j t (by have:=(zX.1 hj).1;omega) hj
   have hsy:=rsp_ (G:=G) q hq hs;rw[ae_ (by omega)] at hno;have hA:t26 q=(a==(q.nodes.length:Int)):=by rw[t26,hno];rfl
   rw[hA] at hR;simp only[qeaV,d_,q_,f_,s_,s10,n_,t_] at hsy;generalize s16 q=sy at*;clear hI hin hno hA
   repeat' (first|simp -implicitDefEqProofs only[go_sem,qeaV,d_,q_,f_,s_,s10,n_,t_,zQ]|apply ai__<;>intro hb|refine ac_ hsy rfl rfl ?_|fail)
   all_goals
    refine fin _ _ ?_;rw[hR];clear hR fin hsy hck hnm;simp_all
theorem fo10 (q:QeaT) (h:fewQ q=true):q.Few:=by
 unfold fewQ f18 at h;simp only[zJ,zW] at h;obtain⟨⟨h1,h2,h3,h4,h5,h6,h7,h8⟩,h9,h10,h11,h12,h13⟩:=h;refine⟨by omega,λd hd=>?_,by omega,by omega,by omega,by omega,λs hs=>?_,by omega,by omega,λt ht=>?_⟩
 .obtain⟨i,hi⟩:=zM hd;have:=at10.1 h9 i d hi;unfold f16 at this;simp only[zJ,zW] at this;omega
 .obtain⟨i,hi⟩:=zM hs;have:=at10.1 h10 i s hi;unfold f23 at this;simp only[zJ,zW] at this;omega
 .obtain⟨i,hi⟩:=zM ht;have:=at10.1 h13 i t hi;simp only[zW] at this;omega
def K_ (q:QeaT) (i:Nat):Prop:=∃e,(e11 q)[i]?=some e∧¬e.kind=0
theorem eg_ {q:QeaT} {i:Nat} {x:NodeT} (hx:q.nodes[i]?=some x):∀n,i<n->n<=q.nodes.length->(exL q n)[i]?=some (e14 q (exL q i) i x)
 | 0,h,_ =>absurd h (by omega)
 | n+1,h,hn=>by
  obtain⟨y,hy,_⟩:=as10 (l:=q.nodes) (i:=n) (by omega);have hl:=el_ q n (by omega);rw[es_ hy];by_cases e:i=n
  .subst e;rw[hx] at hy;cases hy;rw[xV (by omega),hl];simp
  .rw[xJ (by omega)];exact eg_ hx n (by omega) (by omega)
theorem ep12 {q:QeaT} {i j:Nat} {e:ExT} (hi:i<=q.nodes.length) (h:(exL q i)[j]?=some e):(e11 q)[j]?=some e:=by have hl:=el_ q i hi;have hj:=(zX.1 h).1;obtain⟨x,hx,_⟩:=as10 (l:=q.nodes) (i:=j) (by omega);rw[eg_ hx i (by omega) hi] at h;unfold e11;rw[eg_ hx _ (by omega) (zN _)];exact h
theorem so19 (q:QeaT) (h64:∀x∈q.nodes,i64 x.value.int):Safe q (K_ q):=by
 have key:∀i,K_ q i->∃x,q.nodes[i]?=some x∧NodeW q i x∧(4<=x.op->K_ q x.a.toNat∧(6<=x.op->K_ q x.b.toNat)):=by
  rintro i ⟨e,he,hk⟩;have hlen:=el_ q q.nodes.length (zN _);have hi:i<q.nodes.length:=by have:=(zX.1 he).1;unfold e11 at this;omega
  obtain⟨x,hx,hm⟩:=as10 hi;have hel:=el_ q i (by omega);unfold e11 at he;rw[eg_ hx _ hi (zN _)] at he;simp only[zZ] at he;subst he;refine⟨x,hx,?_⟩;unfold e14 at hk;cases hleaf:l_ q i x with
  | some e=>
   unfold l_ at hleaf;by_cases h1:x.op=1
   .rw[zY h1] at hleaf;split at hleaf
    .rename_i hc;exact⟨.con h1 ⟨hc.2.2,h64 x hm⟩,λh=>by omega⟩
    .cases hleaf
   rw[zK h1] at hleaf;by_cases h2:x.op=2
   .rw[zY h2] at hleaf;split at hleaf
    .obtain⟨y,hy,_⟩:=zH.1 hleaf;obtain⟨j,hj,hy⟩:=at?_some hy;exact⟨.quant h2 j hj y hy,λh=>by omega⟩
    .cases hleaf
   rw[zK h2] at hleaf;by_cases h3:x.op=3
   .rw[zY h3] at hleaf;split at hleaf
    .obtain⟨y,hy,_⟩:=zH.1 hleaf;obtain⟨j,hj,hy⟩:=at?_some hy;exact⟨.free h3 j hj y hy,λh=>by omega⟩
    .cases hleaf
   rw[zK h3] at hleaf;cases hleaf
  | none=>
   rw[hleaf] at hk;dsimp only at hk;split at hk
   .exact absurd rfl hk
   rename_i hop;have hop4:4<=x.op∧x.op<=16:=by
    constructor
    .by_cases h:4<=x.op
     .exact h
     .exact absurd (.inl (by omega)) hop
    .by_cases h:x.op<=16
     .exact h
     .exact absurd (.inr (.inl (by omega))) hop
   cases hb:at? (exL q i) ((i:Int) - 1) with
   | none=>rw[hb] at hk;exact absurd rfl hk
   | some b=>
    rw[hb] at hk;dsimp only at hk;obtain⟨j,hj,hbj⟩:=at?_some hb;have hjl:=(zX.1 hbj).1;split at hk
    .exact absurd rfl hk
    rename_i hbk;have hKj:K_ q j:=⟨b,ep12 (by omega) hbj,hbk⟩;split at hk
    .rename_i h5;split at hk
     .rename_i hc;have hxa:x.a=j:=by omega
      refine⟨.una (by omega) j hxa (by omega),λ_ =>⟨by rw[hxa,zP];exact hKj,λh=>by omega⟩⟩
     .exact absurd rfl hk
    .rename_i h5;split at hk
     .rename_i hc;cases ha:at? (exL q i) x.a with
      | none=>rw[ha] at hk;exact absurd rfl hk
      | some a=>
       rw[ha] at hk;dsimp only at hk;split at hk
       .exact absurd rfl hk
       rename_i hak;obtain⟨k,hxk,hak'⟩:=at?_some ha;have hkl:=(zX.1 hak').1;have hxb:x.b=j:=by omega
       refine⟨.bin (by omega) k j hxk hxb (by omega) (by omega),λ_ =>⟨?_,λ_ =>?_⟩⟩
       .rw[hxk,zP];exact⟨a,ep12 (by omega) hak',hak⟩
       .rw[hxb,zP];exact hKj
     .exact absurd rfl hk
 refine⟨λi hi=>?_,λi x hi hx h4=>?_⟩
 .obtain⟨x,hx,hw,_⟩:=key i hi;exact⟨x,hx,hw⟩
 .obtain⟨y,hy,_,h⟩:=key i hi;rw[hx] at hy;cases hy;exact h h4
theorem wk_ {q:QeaT} {a r k:Int} (h:w_ (e11 q) a r k=true):∃i:Nat,r=i∧K_ q i:=by
 unfold w_ at h;split at h
 .cases h
 .rename_i e he;obtain⟨i,hi,hei⟩:=at?_some he;simp only[zJ,zB,yX,xC,sZ,zW] at h;exact⟨i,hi,e,hei,by rw[h.2.1];exact h.2.2.1⟩
theorem aa14 {α σ:Type} {f:σ->Nat->α->Bool×σ}:∀{l:List α} {i:Nat} {s:σ},(allS f l i s).1=true->∀x∈l,∃s' j,(f s' j x).1=true
 | [],_,_,_,x,hx=>by cases hx
 | y::l,i,s,h,x,hx=>by
  rw[allS] at h;split at h
  .rename_i hy;rcases yV.1 hx with rfl | hx
   .exact⟨s,i,hy⟩
   .exact aa14 h x hx
  .cases h
theorem to20 {q:QeaT} (h:r10 q=true) {t:TransT} (ht:t∈q.trans):(0<=t.guard->K_ q t.guard.toNat)∧S11 (K_ q) q.frees.length t.sets:=by
 unfold r10 t26 at h;simp only[zJ] at h;obtain⟨a,j,hs⟩:=aa14 h.2.1.1 t ht;have hs:(t15 q t a).2=true:=hs;have rest:∀a1,(r16 q t a a1).2=true->S11 (K_ q) q.frees.length t.sets:=λa1 hr s hsm=>by
  unfold r16 at hr;dsimp only at hr;split at hr
  .rename_i hall;obtain⟨a2,k,hss⟩:=aa14 hall s hsm;unfold s12 at hss;split at hss
   .cases hss
   .rename_i f hf;obtain⟨m,hm,hfm⟩:=at?_some hf;split at hss
    .cases hss
    .split at hss
     .rename_i hw;obtain⟨e,he,hk⟩:=wk_ hw;exact⟨e,m,he,hm,hk,(zX.1 hfm).1⟩
     .cases hss
  .cases hr
 unfold t15 at hs;split at hs
 .cases hs
 .split at hs
  .rename_i hg;exact⟨λh0=>by omega,rest _ hs⟩
  .split at hs
   .rename_i hw;obtain⟨e,he,hk⟩:=wk_ hw;exact⟨λ_ =>by rw[he,zP];exact hk,rest _ hs⟩
   .cases hs
open Go.RowKit
inductive Fit2:AV->AV->Prop where
 | refl (c:AV):Fit2 c c
 | nil (sz:Nat):Fit2 .nils (.seq sz [])
 | agg (cs ds:List AV) (hl:cs.length=ds.length) (h:∀(j:Nat) c d,cs[j]?=some c->ds[j]?=some d->Fit2 c d):Fit2 (.agg cs) (.agg ds)
 | seq (sz:Nat) (es fs:List AV) (hl:es.length=fs.length) (hs:∀f∈fs,f.cells.length=sz) (h:∀(k:Nat) e f,es[k]?=some e->fs[k]?=some f->Fit2 e f):Fit2 (.seq sz es) (.seq sz fs)
theorem Rd.fit2 {w:World} {F:Nat->Prop} {c d:AV} (h:Fit2 c d):∀{nm:N_} {v:Value},Rd w F nm c v->Rd w F nm d v:=by
 induction h with
 | refl c=>exact λh=>h
 | nil sz=>intro nm v h;cases h;exact .seq0 _ _ _ _
 | agg cs ds hl h ih=>
  intro nm v hr;obtain⟨us,rfl,hu,hr⟩:=ra14 hr;refine .agg _ _ _ (by omega) λj c u hc hu'=>?_;have hj:j<cs.length:=by have:=(zX.1 hc).1;omega
  exact ih j _ c (zU hj) hc (hr j _ u (zU hj) hu')
 | seq sz es fs hl hs h ih=>
  intro nm v hr;generalize hz:AV.seq sz es=z at hr;cases hr with
  | seq0 _ sz' a cap=>
   simp only[AV.seq.injEq] at hz;obtain⟨rfl,rfl⟩:=hz;have:fs=[]:=yT (by simpa using hl.symm);subst this;exact .seq0 _ _ _ _
  | seq _ sz' es' g o cap u h0 hF hc hm hss hw h1 hh=>
   simp only[AV.seq.injEq] at hz;obtain⟨rfl,rfl⟩:=hz;rw[hl];refine Rd.seq nm _ fs g o cap u h0 hF (by omega) hm hs (λp hp=>hw p (by rw[hl];exact hp)) (λp hp=>h1 p (by rw[hl];exact hp)) λk f j c hf hc'=>?_;have hk:k<es.length:=by have:=(zX.1 hf).1;omega
   obtain⟨e,he⟩:∃e,es[k]?=some e:=⟨_,zU hk⟩;have ih:=@ih k e f he hf;have hfit:=h k e f he hf;cases hfit with
   | refl=>exact hh k _ j c he hc'
   | nil sz2=>
    match j,hc' with
    | 0,hc'=>cases hc';exact ih (hh k _ 0 _ he rfl)
   | seq sz2 a1 a2 _ _ _ =>
    match j,hc' with
    | 0,hc'=>cases hc';exact ih (hh k _ 0 _ he rfl)
   | agg cs ds hl2 hcd=>
    have hc2:ds[j]?=some c:=hc';have hj:j<cs.length:=by have:=(zX.1 hc2).1;omega
    have hrd:Rd w F n10 (.agg cs) (.agg ((List.range cs.length).map λi=>u (k*sz+i)).toArray):=.agg _ _ _ (by simp) λi c1 x hc1 hx=>by have hi:i<cs.length:=(zX.1 hc1).1;rw[zS,xR hi] at hx;cases hx;exact hh k _ i c1 he hc1
    obtain⟨us,e1,e2,e3⟩:=ra14 (ih hrd);have e4:((List.range cs.length).map λi=>u (k*sz+i))=us:=by simpa using e1
    exact e3 j c _ hc2 (by rw[<-e4,zS,xR hj];rfl)
  | _ =>cases hz
theorem af10 {w:World} {F:Nat->Prop}:∀{args args':List AV} {vs:Array Value},args.length=args'.length->(∀(j:Nat) c d,args[j]?=some c->args'[j]?=some d->Fit2 c d)->A10 w F args vs->A10 w F args' vs:=λhl h ha=>
 ⟨by rw[ha.1,hl],λj d u hd hu=>by have hj:j<_ :=(zX.1 hd).1;rw[<-hl] at hj;exact (ha.2 j _ u (zU hj) hu).fit2 (h j _ d (zU hj) hd)⟩
theorem P_.fit2 {P:Program} {f:Nat} {args args':List AV} {r:AV} (hl:args.length=args'.length) (h:∀(j:Nat) c d,args[j]?=some c->args'[j]?=some d->Fit2 c d) (hc:P_ P G f args' r):P_ P G f args r:=λw F vs hg ha=>hc w F vs hg (af10 hl h ha)
variable {G:Nat->Option AV} {P:Program}
theorem rp_ {q:QeaT} (h:r10 q=true):h20 q=true∧(allS (s26 q) q.trans 0 0).1=true∧allI (symR q) q.symbols=true:=by unfold r10 topR t26 s16 at h;simp only[zJ] at h;exact⟨h.1.2.2.2.2,h.2.1.1,h.2.2.2.1⟩
open Go.ChangeShapes Go.WideShapes
theorem iw_ {n:Int} (h:(Lit.int .i64 n).wf=true):i64 n:=by simp [Lit.wf,IntKind.min,IntKind.max,IntKind.signed,IntKind.bits] at h;exact⟨h.1,by omega⟩
theorem rl13 {α:Type} {f:α->AV} {Q:α->Prop} {t e sz:Nat} (ht:Tryz.prog.underlying t=some (.slice e)) (hs:Tryz.prog.cellsOf t=1) (h:RdT Tryz.prog e sz λcs=>∃a:α,.agg cs=f a∧Q a) (h0:0<sz):
  RdT Tryz.prog t 1 λcs=>∃l:List α,cs=[.seq sz (l.map f)]∧l.length<=maxLen∧∀a∈l,Q a:=
 (rs17 true ht hs h h0 (by intro h;cases h)).mono (by rintro _ ⟨es,rfl,hl,h⟩;obtain⟨l,rfl,hq⟩:=lo12 (f:=f) (Q:=Q) (λx hx=>by obtain⟨_,⟨o,e,q⟩,rfl⟩:=h x hx;exact⟨o,e,q⟩);exact⟨l,rfl,by simpa using hl,hq⟩)
theorem r24:RdT Tryz.prog 48 4 λcs=>∃v:Val,cs=[iv v.kind,iv v.int,.str v.str,.bool v.bool]∧i64 v.int:=
 (rs_ (t:=48) (fs:=(Tryz.prog.fieldsOf 48)) (by kernel_rfl) (by kernel_rfl) (rc_ (f:=(Tryz.prog.fieldsOf 48)[0]!) (rInt (by kernel_rfl) (by kernel_rfl)) (by kernel_rfl) rfl (rc_ (f:=(Tryz.prog.fieldsOf 48)[1]!) (ri_ (by kernel_rfl) (by kernel_rfl)) (by kernel_rfl) rfl (rc_ (f:=(Tryz.prog.fieldsOf 48)[2]!) (rStr (by kernel_rfl) (by kernel_rfl)) (by kernel_rfl) rfl (rc_ (f:=(Tryz.prog.fieldsOf 48)[3]!) (rb_ (by kernel_rfl) (by kernel_rfl)) (by kernel_rfl) rfl (rn_ _)))))).mono (by rintro _ ⟨_,_,rfl,⟨a,rfl⟩,_,_,rfl,⟨b,rfl,hb⟩,_,_,rfl,⟨c,rfl⟩,_,_,rfl,⟨d,rfl⟩,rfl⟩;exact⟨⟨a,b,c,d⟩,rfl,iw_ hb⟩)
theorem r34:RdT Tryz.prog 48 4 λcs=>∃v:Val,.agg cs=valV v∧i64 v.int:=r24.mono (by rintro _ ⟨v,rfl,hv⟩;exact⟨v,rfl,hv⟩)
theorem r25:RdT Tryz.prog 112 7 λcs=>∃a:NodeT,.agg cs=n11 a∧i64 a.value.int:=
 (rs_ (t:=112) (fs:=(Tryz.prog.fieldsOf 112)) (by kernel_rfl) (by kernel_rfl) (rc_ (f:=(Tryz.prog.fieldsOf 112)[0]!) (rInt (by kernel_rfl) (by kernel_rfl)) (by kernel_rfl) rfl (rc_ (f:=(Tryz.prog.fieldsOf 112)[1]!) (rInt (by kernel_rfl) (by kernel_rfl)) (by kernel_rfl) rfl (rc_ (f:=(Tryz.prog.fieldsOf 112)[2]!) (rInt (by kernel_rfl) (by kernel_rfl)) (by kernel_rfl) rfl (rc_ (f:=(Tryz.prog.fieldsOf 112)[3]!) r24 (by kernel_rfl) rfl (rn_ _)))))).mono (by rintro _ ⟨_,_,rfl,⟨a,rfl⟩,_,_,rfl,⟨b,rfl⟩,_,_,rfl,⟨c,rfl⟩,_,_,rfl,⟨v,rfl,hv⟩,rfl⟩;exact⟨⟨a,b,c,v⟩,rfl,hv⟩)
theorem r33:RdT Tryz.prog 43 1 λcs=>∃l:{l:List Val // ∀v∈l,i64 v.int},cs=[v_ l.1]:=
 (rl13 (by kernel_rfl) (by kernel_rfl) r34 (by decide)).mono (by rintro _ ⟨l,rfl,_,h⟩;exact⟨⟨l,h⟩,rfl⟩)
structure CfgT where
 state:Int
 vals:List Val
deriving DecidableEq
def cfgV (c:CfgT):AV:=.agg [iv c.state,.seq 4 (c.vals.map valV)]
def c11 (l:List CfgT):AV:=.seq 2 (l.map cfgV)
theorem v14 (a b:Val):(a==b)=(a.kind==b.kind&&(a.int==b.int&&(a.str==b.str&&(a.bool==b.bool&&true)))):=by obtain⟨a1,a2,a3,a4⟩:=a;obtain⟨b1,b2,b3,b4⟩:=b;rw[yY];simp
theorem val4 {k n:Int} {s:Str} {t:Bool} {k' n':Int} {s':Str} {t':Bool} {β:Bool} (h:decide ((⟨k,n,s,t⟩:Val)=⟨k',n',s',t'⟩)=β):(k==k'&&(n==n'&&(s==s'&&t==t')))=β:=by rw[<-h,yY];simp
def l14:List Val->List Val->Bool
 | [],[]=>false
 | [],_ ::_ =>true
 | _ ::_,[]=>false
 | x::l,y::k=>if ¬x=y then l11 x y else l14 l k
def c12 (a b:CfgT):Bool:=if ¬a.state=b.state then decide (a.state<b.state) else l14 a.vals b.vals
def CfgT.St (c:CfgT):Prop:=0<=c.state∧c.state<1000∧c.vals.length<=1000
theorem ls_ {l k:List Val} {i:Nat} {x y:Val} (hx:l[i]?=some x) (hy:k[i]?=some y):l14 (l.drop i) (k.drop i)=if ¬x=y then l11 x y else l14 (l.drop (i+1)) (k.drop (i+1)):=by rw[da10 hx,da10 hy,l14]
theorem le_ {l k:List Val} {i:Nat} (h1:i<=l.length) (h2:i<=k.length) (h:l.length<=i∨k.length<=i):l14 (l.drop i) (k.drop i)=decide ((l.length:Int)<k.length):=by
 by_cases hl:l.length<=i
 .rw[yO hl];by_cases hk:k.length<=i
  .rw[yO hk,l14,eq_comm,yQ];omega
  .obtain⟨y,hy,_⟩:=as10 (l:=k) (i:=i) (by omega);rw[da10 hy,l14,eq_comm,zW];omega
 .obtain⟨x,hx,_⟩:=as10 (l:=l) (i:=i) (by omega);rw[da10 hx,yO (l:=k) (by omega),l14,eq_comm,yQ];omega
theorem rL10 (a b:CfgT) (ha:∀v∈a.vals,v.str.length<9223372036854775807) (hl:a.vals.length<=1000) (hk:b.vals.length<=1000):PQ G 263 [cfgV a,cfgV b] (.bool (c12 a b)):=by
 obtain⟨s,l⟩:=a;obtain⟨t,k⟩:=b;dsimp only at ha hl hk;refine pp30 λΦ h=>?_;unfold cp32;unfold c12 at h;dsimp only at h;by_cases hst:s=t
 .subst hst;rw[zK (by simp)] at h
  repeat' (first|simp -implicitDefEqProofs only[go_sem,cfgV,uP]|apply ai__<;>intro hb)
  refine al_ (λn st=>∃i:Nat,i+n=l.length∧st=⟨59,[(2,.ref 2 0 0),(3,.ref 3 0 0),(5,iv i)],[(2,⟨false,178,2,[.agg [iv s,.seq 4 (l.map valV)]]⟩),(3,⟨false,178,2,[.agg [iv s,.seq 4 (k.map valV)]]⟩)]⟩∧i<=k.length∧l14 (l.drop i) (k.drop i)=l14 l k) l.length ⟨0,by simp,rfl,by omega,rfl⟩ ?_;rintro I hI n st ⟨i,hi,rfl,hik,hno⟩;rw[<-hno] at h;by_cases hlt:i<l.length
  .have e1:((i:Int)<l.length)=True:=by simp;omega
   by_cases hkt:i<k.length
   .have e2:((i:Int)<k.length)=True:=by simp;omega
    obtain⟨x,hx,hxm⟩:=as10 hlt;obtain⟨y,hy,_⟩:=as10 hkt;have hw:=ws_ hlt;have hc:=rLp_ (G:=G) x y (ha x hxm);rw[ls_ hx hy] at h hno;by_cases hxy:x=y
    .rw[zK (by simpa using hxy)] at hno;obtain⟨x1,x2,x3,x4⟩:=x;obtain⟨y1,y2,y3,y4⟩:=y;have he:=val4 (wQ hxy)
     repeat' (first|simp -implicitDefEqProofs only[go_sem,zQ,am_ hx,am_ hy,valV,hw,e1,e2,yD,he]|apply ai__<;>intro hb)
     exact aa_ (n - 1) (by omega) (hI _ _ ⟨i+1,by omega,rfl,by omega,hno⟩)
    .rw[zY hxy] at h;generalize l11 x y=z at*;obtain⟨x1,x2,x3,x4⟩:=x;obtain⟨y1,y2,y3,y4⟩:=y;have he:=val4 (wA hxy);simp only[valV] at hc
     repeat' (first|simp -implicitDefEqProofs only[go_sem,zQ,am_ hx,am_ hy,valV,hw,e1,e2,yD,he]|apply ai__<;>intro hb|refine ac_ hc rfl rfl ?_|fail)
     exact hq_ h
   .have e2:((i:Int)<k.length)=False:=by simp;omega
    rw[le_ (by omega) hik (by omega)] at h
    repeat' (first|simp -implicitDefEqProofs only[go_sem,zQ,e1,e2,yD,yA]|apply ai__<;>intro hb)
    exact hq_ h
  .have e1:((i:Int)<l.length)=False:=by simp;omega
   rw[le_ (by omega) hik (by omega)] at h
   repeat' (first|simp -implicitDefEqProofs only[go_sem,zQ,e1,yA]|apply ai__<;>intro hb)
   exact hq_ h
 .rw[zY hst] at h;have e1:(s != t)=true:=by simpa using hst
  repeat' (first|simp -implicitDefEqProofs only[go_sem,cfgV,e1]|apply ai__<;>intro hb)
  exact hq_ h
def c18 (a b:CfgT):Bool:=!c12 a b&& !c12 b a
theorem rO11 (a b:CfgT) (ha:∀v∈a.vals,v.str.length<9223372036854775807) (hb:∀v∈b.vals,v.str.length<9223372036854775807) (hl:a.vals.length<=1000) (hk:b.vals.length<=1000):PQ G 264 [cfgV a,cfgV b] (.bool (c18 a b)):=by
 have h1:=rL10 (G:=G) a b ha hl hk;have h2:=rL10 (G:=G) b a hb hk hl;refine pp39 λΦ h=>?_;unfold cp41;unfold c18 at h;generalize c12 a b=y at*;generalize c12 b a=z at*;obtain⟨s,l⟩:=a;obtain⟨t,k⟩:=b;simp only[cfgV] at h1 h2;cases y
 .rw[vX,yR] at h
  repeat' (first|simp -implicitDefEqProofs only[go_sem,cfgV]|apply ai__<;>intro hb|refine ac_ h1 rfl rfl ?_|refine ac_ h2 rfl rfl ?_|fail)
  exact hq_ h
 .rw[wM,yM] at h
  repeat' (first|simp -implicitDefEqProofs only[go_sem,cfgV]|apply ai__<;>intro hb|refine ac_ h1 rfl rfl ?_|refine ac_ h2 rfl rfl ?_|fail)
  exact hq_ h
theorem vm_ {α:Type} {e:α->AV} {sz:Nat} {H:List (Nat×Box)} {i n:Nat} {ty:Nat} {l:List α} (h0:0<sz) (hH:hget H i=some ⟨true,ty,sz,l.map e⟩) (hn:l.length=n):view H (.arr i 0 n)=some (.seq sz (l.map e)):=by simp only[view,hH,xO,zQ,hn];simp [h0,<-hn];exact zT (by simp)
def CfgT.Sm (c:CfgT):Prop:=c.vals.length<=1000∧∀v∈c.vals,v.str.length<9223372036854775807
def p17 (l:List CfgT) (c:CfgT):Nat->Nat
 | 0=>0
 | n+1=>match l[n]? with
  | some x=>if c12 c x=true then p17 l c n else n+1
  | none=>n+1
theorem pl12 (l:List CfgT) (c:CfgT):∀n,p17 l c n<=n
 | 0=>zN _
 | n+1=>by
  rw[p17];split
  .split
   .have:=pl12 l c n;omega
   .exact zN _
  .exact zN _
def isAt (l:List CfgT) (c:CfgT):Nat->Bool
 | 0=>false
 | n+1=>match l[n]? with
  | some x=>c18 x c
  | none=>false
def putR (l:List CfgT) (c:CfgT):List CfgT:=if isAt l c (p17 l c l.length)=true then l else l.take (p17 l c l.length)++c::l.drop (p17 l c l.length)
theorem pm10 {l:List CfgT} {c x:CfgT} (h:x∈putR l c):x∈l∨x=c:=by
 unfold putR at h;split at h
 .exact .inl h
 .simp only[yB,yV] at h;rcases h with h | h | h
  .exact .inl (wG h)
  .exact .inr h
  .exact .inl (vJ h)
theorem pl11 (l:List CfgT) (c:CfgT):(putR l c).length<=l.length+1:=by
 unfold putR;split
 .omega
 .have:=pl12 l c l.length;simp only[zL,yH,xG,wN];omega
theorem ad_ {α:Type} {e:α->AV} {sz:Nat} {l:List α} {i:Nat} (hs:0<sz) (h:i<=l.length):aslc sz (.seq sz (l.map e)) (some (.int .i64 (i:Int))) none=some (.seq sz ((l.drop i).map e)):=by simp [aslc,hs,h,List.map_drop];rw[zT (by simp)]
theorem rPp_ (l:List CfgT) (c:CfgT) (hl:l.length<=1000000) (hls:∀x∈l,x.Sm) (hc:c.Sm):PQ G 220 [c11 l,cfgV c] (c11 (putR l c)):=by
 refine pp38 λΦ h=>?_;unfold cp40;dsimp only;rw[ra_,ra_];refine ac18 (λst=>st=⟨48,[(0,c11 l),(3,.ref 3 0 0),(5,iv (p17 l c l.length:Nat)),(19,.bool false)],[(3,⟨false,178,2,[cfgV c]⟩),(4,⟨true,178,2,[]⟩)]⟩) ?_ ?_
 .simp -implicitDefEqProofs only[go_sem,c11,cfgV,zQ];refine al_ (λn st=>st=⟨48,[(0,c11 l),(3,.ref 3 0 0),(5,iv n)],[(3,⟨false,178,2,[cfgV c]⟩),(4,⟨true,178,2,[]⟩)]⟩∧n<=l.length∧p17 l c n=p17 l c l.length) l.length ⟨rfl,zN _,rfl⟩ ?_;rintro I hI n st ⟨rfl,hn,hp⟩;rw[<-hp];cases n with
  | zero=>
   have e1:((0:Int)<((0:Nat):Int))=False:=by simp
   repeat' (first|simp -implicitDefEqProofs only[go_sem,e1,yA,cfgV,c11]|apply ai__<;>intro hb)
   try rfl
  | succ n=>
   obtain⟨x,hx,hxm⟩:=as10 (l:=l) (i:=n) (by omega);have e1:((0:Int)<((n+1:Nat):Int))=True:=by rw[eq_iff_iff];exact⟨λ_ =>trivial,λ_ =>by omega⟩
   have hw:IntKind.wrap .i64 (((n+1:Nat):Int) - 1)=(n:Int):=by rw[wi_ (by omega) (by omega)];omega
   have hls:=rL10 (G:=G) c x hc.2 hc.1 (hls x hxm).1;have hps:p17 l c (n+1)=if c12 c x=true then p17 l c n else n+1:=by rw[p17,hx]
   generalize c12 c x=z at*;obtain⟨xs,xl⟩:=x;simp only[cfgV] at hls;cases z
   .rw[zK (by decide)] at hps;rw[hps]
    repeat' (first|simp -implicitDefEqProofs only[go_sem,e1,hw,am_ hx,yD,cfgV,c11]|apply ai__<;>intro hb|refine ac_ hls rfl rfl ?_|fail)
    try rfl
   .rw[zY rfl] at hps;rw[hps] at hp
    repeat' (first|simp -implicitDefEqProofs only[go_sem,e1,hw,am_ hx,yD,cfgV,c11]|apply ai__<;>intro hb|refine ac_ hls rfl rfl ?_|fail)
    exact aa_ n (by omega) (hI _ _ ⟨rfl,by omega,hp⟩)
 .rintro st hst;subst hst;have hple:=pl12 l c l.length;unfold putR at h;generalize p17 l c l.length=n at*;refine ac18 (λst=>st=⟨48,[(0,c11 l),(3,.ref 3 0 0),(5,iv n),(32,.bool false)],[(3,⟨false,178,2,[cfgV c]⟩),(4,⟨true,178,2,[]⟩)]⟩∧isAt l c n=false) ?_ ?_
  .cases n with
   | zero=>
    have e1:((0:Int)<((0:Nat):Int))=False:=by simp
    repeat' (first|simp -implicitDefEqProofs only[go_sem,e1,yA,cfgV,c11,zQ]|apply ai__<;>intro hb)
    first | rfl | exact⟨rfl,rfl⟩
   | succ n=>
    obtain⟨x,hx,hxm⟩:=as10 (l:=l) (i:=n) (by omega);have e1:((0:Int)<((n+1:Nat):Int))=True:=by rw[eq_iff_iff];exact⟨λ_ =>trivial,λ_ =>by omega⟩
    have hw:IntKind.wrap .i64 (((n+1:Nat):Int) - 1)=(n:Int):=by rw[wi_ (by omega) (by omega)];omega
    have ho:=rO11 (G:=G) x c (hls x hxm).2 hc.2 (hls x hxm).1 hc.1;have his:isAt l c (n+1)=c18 x c:=by rw[isAt,hx]
    generalize c18 x c=z at*;obtain⟨xs,xl⟩:=x;simp only[cfgV] at ho;cases z
    .repeat' (first|simp -implicitDefEqProofs only[go_sem,e1,hw,am_ hx,yD,cfgV,c11]|apply ai__<;>intro hb|refine ac_ ho rfl rfl ?_|fail)
     first | exact his | exact⟨rfl,his⟩
    .rw[his,zY rfl] at h
     repeat' (first|simp -implicitDefEqProofs only[go_sem,e1,hw,am_ hx,yD,cfgV,c11]|apply ai__<;>intro hb|refine ac_ ho rfl rfl ?_|fail)
     exact hq_ h
  .rintro st ⟨rfl,hat⟩;rw[hat,zK (by decide)] at h;have hs1:=at11 (e:=cfgV) (sz:=2) (l:=l) (i:=n) (by decide) hple;have hs2:=ad_ (e:=cfgV) (sz:=2) (l:=l) (i:=n) (by decide) hple;have ht:(l.take n).length=n:=by simp;omega
   have hb1:n*32<=140737488355328:=by omega
   have hb2:(n+1)*32<=140737488355328:=by omega
   have hb3:(n+1+(l.length - n))*32<=140737488355328:=by omega
   repeat' (first|simp -implicitDefEqProofs only[go_sem,hs1,hs2,cfgV,c11,zQ,zL,wN,ht,hb1,hb2,hb3]|apply ai__<;>intro hb)
   exact h _ ⟨_,_,rfl,vm_ (e:=cfgV) (l:=l.take n++c::l.drop n) (by decide) (by simp [hget,cfgV];rfl) (by simp;omega),.refl _⟩
def ofR (l:List CfgT):List CfgT:=l.foldl putR []
def cfgR (q:QeaT) (c:CfgT):Bool:=decide (0<=c.state)&&(decide (c.state<q.states.length)&&f21 c.vals q.frees)
def accR (q:QeaT) (c:CfgT):Bool:=match at? q.states c.state with | some s=>s.accept | none=>false
theorem ta40 {α:Type} {l:List α} {i:Nat} {x:α} (h:l[i]?=some x):l.take (i+1)=l.take i++[x]:=by rw[vC,h];rfl
theorem ok_kind {v:Val} (h:v.ok=true):v.kind=1∨v.kind=2∨v.kind=3:=by
 unfold Val.ok at h;split at h
 .exact .inl ‹_›
 .split at h
  .exact .inr (.inl ‹_›)
  .simp only[zJ,zW] at h;exact .inr (.inr h.1)
