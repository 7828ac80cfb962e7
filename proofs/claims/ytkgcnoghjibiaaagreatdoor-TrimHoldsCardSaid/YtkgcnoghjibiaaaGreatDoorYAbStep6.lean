/- Lemmas. -/
import Derived.Test.YtkgcnoghjibiaaaGreatDoorYAbStep5
set_option linter.unusedSimpArgs false
namespace Go.Proofs.YtkgcnoghjibiaaaGreatDoor.Ab
open Go Go.RowKit
section
variable {P:Program} {G:Nat->Option AV} {C:Ctx} {nm:N_} {F:Nat->Prop} {st st':St} {a:Act} {w:World} {o:Oper}
theorem RelX.renew (h:RelX G C nm F st a w) {i d:Nat} {b:Box} {c:AV} {v:Value} {H:List (Nat×Box)} (hd:d<st.N) (hV:¬C.V i) (hH:∀j,hget H j=if j=i then some b else (hget st.heap j).map (p10 i))
  {w':World} {m:Option Nm} (hk:Kept C w') (hw:∀k,k<w.heap.size->(∀b m,hget st.heap i=some b->nm i=some m->k≠m.g)->w'.heap[k]? =w.heap[k]?) (hs:w.heap.size<=w'.heap.size)
  (hm:∀m',m=some m'->w.heap.size<=m'.g∨∃b m,hget st.heap i=some b∧nm i=some m∧m'.g=m.g)
  (hv:Rd w' F (upd nm i m) c v) (hb:BoxR w' F (upd nm i m) i b):
  RelX G C (upd nm i m) F {st with env:=(d,c)::p13 i st.env,heap:=H} (a.put (some d) v) w':=by
 have hn:∀j,j≠i->upd nm i m j=nm j:=λj hj=>zK hj;have hFw:∀k,F k->w'.heap[k]? =w.heap[k]? :=λk hk=>hw k (h.good.1 k hk) λb m hi hmi e=>h.fr i b m hi hmi (e ▸ hk);have get:∀j e,hget H j=some e->(j=i∧e=b)∨(j≠i∧∃c',hget st.heap j=some c'∧e=p10 i c'):=by
  intro j e hj;rw[hH] at hj;split at hj
  .rename_i e;subst e;simp only[zZ] at hj;exact .inl ⟨rfl,hj.symm⟩
  .rename_i e;obtain⟨c',hc',rfl⟩:=zH.1 hj;exact .inr ⟨e,c',hc',rfl⟩
 have far:∀j c' m1,j≠i->hget st.heap j=some c'->nm j=some m1->∀m',m=some m'->m'.g≠m1.g:=by
  intro j c' m1 hne hc' h1 m' hm' e;rcases hm m' hm' with hge | ⟨b0,m0,hb0,hm0,e0⟩
  .have:=h.lt hc' h1;omega
  .exact hne (h.inj j i c' b0 m1 m0 hc' hb0 h1 hm0 (e.symm.trans e0))
 refine⟨by simp [Act.put,h.N],h.df,λt=>?_,λj e hj=>?_,λj k e f m1 m2 hj hk' h1 h2 hg=>?_,λj e m1 hj h1 hf=>?_,λj e m1 hj h1=>?_,
  h.good.mono hFw (λ_ h=>h) (λk hk=>wJ (h.good.1 k hk) hs),h.f0,h.fb,hk,λj hj=>?_⟩
 .simp only[Act.put,St.get,eget];rw[gp_ _ _ _ _ (by rw[h.N];exact hd)];split
  .exact hv
  .rw[ep_];exact ((h.env t).mono hFw λ_ h=>h).purge hn
 .rcases get j e hj with ⟨rfl,rfl⟩ | ⟨hne,c',hc',rfl⟩
  .exact hb
  .rcases h.box j c' hc' with ⟨e1,e2,e3,e4⟩ | ⟨m1,e1,hl⟩
   .left;refine⟨by simp [upd,hne,e1],?_,?_,?_⟩ <;> simp [p10,e2,e3,e4]
   .exact .inr ⟨m1,by simp [upd,hne,e1],(hl.mono (hw _ (h.lt hc' e1) λb m hi hmi e=>hne (h.inj j i c' b m1 m hc' hi e1 hmi e)) hFw λ_ h=>h).purge hn⟩
 .rcases get j e hj with ⟨rfl,rfl⟩ | ⟨hne,c',hc',rfl⟩ <;> rcases get k f hk' with ⟨rfl,rfl⟩ | ⟨hne2,e',he',rfl⟩
  .rfl
  .simp only[upd,hne2,xW,yI] at h1 h2;exact absurd hg (far k e' m2 hne2 he' h2 m1 h1)
  .simp only[upd,hne,xW,yI] at h1 h2;exact absurd hg.symm (far j c' m1 hne hc' h1 m2 h2)
  .simp only[upd,hne,hne2,yI] at h1 h2;exact h.inj j k c' e' m1 m2 hc' he' h1 h2 hg
 .rcases get j e hj with ⟨rfl,rfl⟩ | ⟨hne,c',hc',rfl⟩
  .simp only[upd,xW] at h1;rcases hm m1 h1 with hge | ⟨b0,m0,hb0,hm0,e0⟩
   .have:=h.good.1 _ hf;omega
   .exact h.fr _ b0 m0 hb0 hm0 (e0 ▸ hf)
  .simp only[upd,hne,yI] at h1;exact h.fr j c' m1 hc' h1 hf
 .rcases get j e hj with ⟨rfl,rfl⟩ | ⟨hne,c',hc',rfl⟩
  .simp only[upd,xW] at h1;rcases hm m1 h1 with hge | ⟨b0,m0,hb0,hm0,e0⟩
   .left;have:=h.keep.size;omega
   .rw[e0];exact h.own _ b0 m0 hb0 hm0
  .simp only[upd,hne,yI] at h1;exact h.own j c' m1 hc' h1
 .obtain⟨v1,v2,v3⟩:=h.vn j hj;have hne:j≠i:=λe=>hV (e ▸ hj);refine⟨v1,by simp only[upd,hne,yI];exact v2,λe he=>?_⟩;rcases get j e he with ⟨e1,_⟩ | ⟨_,c',hc',rfl⟩
  .exact absurd e1 hne
  .have:=v3 c' hc';simp [p10,this]
def f20 (w:World) (F:Nat->Prop) (sz:Nat) (es:List AV) (us:List Value):Prop:=
 us.length=es.length*sz∧(∀e∈es,e.cells.length=sz)∧(∀u∈us,u.oneCell'=true)∧
 ∀(k:Nat) e (j:Nat) c,es[k]?=some e->e.cells[j]?=some c->∃u,us[k*sz+j]?=some u∧Rd w F n10 c u
theorem f20.append {sz:Nat} {es fs:List AV} {us vs:List Value} (h:f20 w F sz es us) (k:f20 w F sz fs vs):f20 w F sz (es++fs) (us++vs):=by
 refine⟨by rw[zL,zL,h.1,k.1,xM],λe he=>?_,λu hu=>?_,λi e j c he hc=>?_⟩
 .rcases yB.1 he with he | he
  .exact h.2.1 e he
  .exact k.2.1 e he
 .rcases yB.1 hu with hu | hu
  .exact h.2.2.1 u hu
  .exact k.2.2.1 u hu
 .rw[wE] at he;split at he
  .rename_i hi;obtain⟨u,hu,hr⟩:=h.2.2.2 i e j c he hc;exact⟨u,by rw[xJ (zX.1 hu).1];exact hu,hr⟩
  .rename_i hi;obtain⟨u,hu,hr⟩:=k.2.2.2 (i - es.length) e j c he hc;refine⟨u,?_,hr⟩;have e1:i*sz+j=us.length+((i - es.length)*sz+j):=by
    rw[h.1,Nat.sub_mul];have:es.length*sz<=i*sz:=xZ _ (by omega);omega
   rw[e1,xV (by omega),uK];exact hu
theorem f20.mono2 {w':World} {F':Nat->Prop} {sz:Nat} {es:List AV} {us:List Value} (h:f20 w F sz es us) (hw:∀k,F k->w'.heap[k]? =w.heap[k]?) (hF:∀k,F k->F' k):f20 w' F' sz es us:=
 ⟨h.1,h.2.1,h.2.2.1,λk e j c he hc=>let ⟨u,hu,hr⟩:=h.2.2.2 k e j c he hc;⟨u,hu,hr.mono hw hF⟩⟩
theorem f20.mono {w':World} {sz:Nat} {es:List AV} {us:List Value} (h:f20 w F sz es us) (hw:∀k,F k->w'.heap[k]? =w.heap[k]?):f20 w' F sz es us:=
 ⟨h.1,h.2.1,h.2.2.1,λk e j c he hc=>let ⟨u,hu,hr⟩:=h.2.2.2 k e j c he hc;⟨u,hu,hr.mono hw λ_ h=>h⟩⟩
theorem L_.flat {m:Nm} {b:Box} (h:L_ w F nm m b) (hrow:b.row=true) {k n:Nat} (hk:k+n<=b.es.length):
  ∃cs:Array Value,w.heap[m.g]?=some (.cells cs m.ty (0,0))∧cs.size=m.cap*m.sz∧f20 w F b.sz ((b.es.drop k).take n) ((cs.toList.drop (k*m.sz)).take (n*m.sz)):=by
 obtain⟨h1,h2,h3,cs,h4,h5,h6,h7,h8,h9⟩:=h;have hl:((b.es.drop k).take n).length=n:=by simp;omega
 have hroom:k*m.sz+n*m.sz<=cs.size:=by rw[h5,<-xM];exact xZ _ (by omega)
 have hsz:0<m.sz:=by rw[h1];exact h3
 have hat:∀p,p<n*m.sz->((cs.toList.drop (k*m.sz)).take (n*m.sz))[p]? =cs[k*m.sz+p]? :=λp hp=>by rw[yN,zY hp,xX];simp
 have hcell:∀p,p<n*m.sz->∃u,cs[k*m.sz+p]?=some u∧u.oneCell'=true:=λp hp'=>by have hi:p / m.sz<n:=Nat.div_lt_of_lt_mul (by rw[uV];exact hp');have hj:p % m.sz<m.sz:=Nat.mod_lt _ hsz;have he:b.es[k+p / m.sz]?=some (b.es[k+p / m.sz]'(by omega)):=zU (by omega);have hcl:=h8 _ (zG he);have hc:(b.es[k+p / m.sz]'(by omega)).cells[p % m.sz]?=some ((b.es[k+p / m.sz]'(by omega)).cells[p % m.sz]'(by rw[hcl,<-h1];exact hj)):=zU _;obtain⟨u,hu,hu1,_⟩:=h9 _ _ _ _ he hc;refine⟨u,?_,hu1⟩;rw[<-hu];congr 1;rw[xM,vK,uV (p / m.sz),tO]
 refine⟨cs,h4,h5,?_,λe he=>h8 e (vJ (wG he)),λu hu=>?_,λi e j c he hc=>?_⟩
 .rw[hl,xG,wN,Array.length_toList,<-h1];omega
 .obtain⟨p,hp⟩:=zM hu;have hlt:p<n*m.sz:=by have:=(zX.1 hp).1;simp at this;omega
  rw[hat p hlt] at hp;obtain⟨u',hu',h1'⟩:=hcell p hlt;rw[hp] at hu';cases hu';exact h1'
 .rw[yN] at he;split at he
  .rename_i hi;rw[xX] at he;have hjs:j<m.sz:=by rw[h1,<-h8 e (zG he)];exact (zX.1 hc).1
   obtain⟨u,hu,_,hr⟩:=h9 _ e j c he hc;rw[zY hrow] at hr;refine⟨u,?_,hr⟩;have hlt:i*b.sz+j<n*m.sz:=by rw[h1] at hjs ⊢;have:(i+1)*b.sz<=n*b.sz:=xZ _ hi;rw[xM] at this;omega
   rw[hat _ hlt,<-hu];congr 1;rw[xM,h1,vK]
  .cases he
theorem ra13 (w:World) {t e sz bytes:Nat} (ht:P.underlying t=some (.slice e)) {i:TypeInfo} (hi:P.info? e=some i) {z:Value} (hz:i.zero=some z) (hsize:i.size=sz) (hby:i.bytes=bytes) (hzs:z.cells.size=sz) (hsz:0<sz) (ty:Nat)
  {v:Value} {n:Nat} {xs:List Value} (hown:w.ownsRow 0 e sz v n xs) {A:Option Addr} {m c:Nat} {news:List Value} (hA:A=none->m=0) (hl:news.length=m*sz) (hnews:∀a,A=some a->∀j u,news[j]?=some u->w.cell? (a.add j)=some u)
  (h1:∀u∈news,u.oneCell'=true) (h63:n+m<=maxLen) (hbytes:(n+m)*bytes<=140737488355328):
  ∃v' w',(Builtin.append_ #[t,t] ty #[v,.slice A m c]).run P w= .ok v' w'∧w'.ownsRow 0 e sz v' (n+m) (xs++news)∧w.grownBy w' v.ownBlock∧(v'.ownBlock=v.ownBlock∨v'.ownBlock=some w.heap.size):=by
 cases A with
 | some ad=>
  obtain⟨v',w',h2,h3,h4,_,h5⟩:=run_append_own_at (P:=P) w 0 t ty e i z sz bytes ht hi hz hsize hby hzs hsz v n xs hown ad m c news hl (hnews ad rfl) h1 h63 hbytes (wC _);exact⟨v',w',h2,h3,h4,h5⟩
 | none=>
  obtain rfl:=hA rfl;have hn:news=[]:=yT (by simpa using hl);subst hn;refine⟨v,w,?_,by simpa using hown,⟨rfl,rfl,rfl,zN _,λ_ _ _ =>rfl⟩,.inl rfl⟩;rcases hown.2 with ⟨rfl,rfl⟩ | ⟨g,cap,cur,rfl,_,_,hnc,_⟩
  .simp [Builtin.append_,run_underlying ht,sizeOf,typeInfo,hi,Builtin.lenOf,Builtin.firstCells]
  .simp [Builtin.append_,run_underlying ht,sizeOf,typeInfo,hi,Builtin.lenOf,Builtin.firstCells,hnc,storeCells]
theorem ns30 (h:RelX G C nm F st a w) {sz i:Nat} {y:AV} {v:Value} {es:List AV} (hy:Rd w F nm y v) (hn:news st.heap sz i y=some es) (hsz:0<sz):
  ∃A c us,v= .slice A es.length c∧(A=none->es.length=0)∧f20 w F sz es us∧∀a,A=some a->∀j u,us[j]?=some u->w.cell? (a.add j)=some u:=by
 have empty:f20 w F sz [] []:=⟨by simp,by simp,by simp,by simp⟩;cases y <;> simp only[news,reduceCtorEq] at hn
 case nils=>simp only[zZ] at hn;subst hn;cases hy;exact⟨none,0,[],rfl,λ_ =>rfl,empty,by simp⟩
 case seq z fs=>
  split at hn
  .rename_i hz;subst hz;simp only[zZ] at hn;subst hn;cases hy with
   | seq0 _ _ A cap=>exact⟨A,cap,[],rfl,λ_ =>rfl,empty,by simp⟩
   | seq _ _ _ g o cap u h0 hF hc hm hs hw h1 hr=>
    refine⟨some ⟨g,o,none⟩,cap,(List.range (fs.length*z)).map u,rfl,by simp,⟨by simp,hs,λx hx=>?_,λk e j c he hc=>?_⟩,λad ha j x hx=>?_⟩
    .simp only[zI,xF] at hx;obtain⟨p,hp,rfl⟩:=hx;exact h1 p hp
    .have hj:j<z:=by rw[<-hs e (zG he)];exact (zX.1 hc).1
     have hk:k<fs.length:=(zX.1 he).1;have hlt:k*z+j<fs.length*z:=by have:(k+1)*z<=fs.length*z:=xZ _ hk;rw[xM] at this;omega
     exact⟨u (k*z+j),by simp [hlt],hr k e j c he hc⟩
    .cases ha;have hlt:j<fs.length*z:=by have:=(zX.1 hx).1;simpa using this
     simp only[zS,xR hlt,yF,zZ] at hx;subst hx;rw[aa13];exact hw j hlt
  .cases hn
 case arr j k m=>
  split at hn
  .cases hn
  .split at hn
   .rename_i b hb;split at hn
    .rename_i hc;obtain⟨hrow,hbs,hkm⟩:=hc;simp only[zZ] at hn;subst hn;have hlen:((b.es.drop k).take m).length=m:=by simp;omega
     by_cases h0:m=0
     .subst h0;simp only[wY];cases hy with
      | arr _ _ _ _ m' hi hn' hp=>exact⟨_,_,[],rfl,λ_ =>rfl,empty,by simp⟩
      | arrE _ _ _ A cap hk=>exact⟨A,cap,[],rfl,λ_ =>rfl,empty,by simp⟩
      | arrN=>exact⟨none,0,[],rfl,λ_ =>rfl,empty,by simp⟩
     .cases hy with
      | arr _ _ _ _ m' hi hn' hp=>
       rcases h.box j b hb with ⟨hno,_⟩ | ⟨m1,hm1,hl⟩
       .rw[hi] at hno;cases hno
       rw[hi] at hm1;cases hm1;obtain⟨cs,h4,h5,hf⟩:=(hl.c (by omega)).flat hrow hkm;rw[hbs] at hf;refine⟨some ⟨m'.g,k*m'.sz,none⟩,m'.cap - k,_,by rw[hlen],by simp,hf,λad ha p u hu=>?_⟩;cases ha;rw[aa13];have hlt:p<m*m'.sz:=by have:=(zX.1 hu).1;simp at this;omega
       rw[yN,zY hlt,xX] at hu;simp only[World.cell?,h4,vV,zF,yI];simpa using hu
      | arrE=>exact absurd rfl h0
      | arrN=>exact absurd rfl h0
    .cases hn
   .cases hn
theorem Kept.grown (h:RelX G C nm F st a w) {w':World} {row:Option Nat} (hg:w.grownBy w' row) (hr:∀k,row=some k->C.w0.heap.size<=k∨C.L k):Kept C w':=
 ⟨hg.os.trans h.keep.os,hg.tape.trans h.keep.tape,hg.output.trans h.keep.output,vY h.keep.size hg.size,λb hb hL=>
  (hg.block b (wJ hb h.keep.size) (λe=>(hr b e.symm).elim (λh1=>by omega) hL)).trans (h.keep.block b hb hL)⟩
theorem gr_ {e sz:Nat} {v':Value} {n:Nat} {us:List Value} {w':World} (hown:w'.ownsRow 0 e sz v' n us) (hsz:0<sz) {es:List AV} (hf:f20 w' F sz es us) (hl:es.length=n) (nm:N_) (i:Nat):
  ∃m,(∀m',m=some m'->v'.ownBlock=some m'.g)∧Rd w' F (upd nm i m) (.arr i 0 n) v'∧BoxR w' F (upd nm i m) i ⟨true,e,sz,es⟩:=by
 rcases hown.2 with ⟨rfl,rfl⟩ | ⟨g,cap,cur,rfl,_,hh,hn,hm,hs,ht⟩
 .exact⟨none,(λ_ h=>by cases h),.arrN _ _,.inl ⟨zY rfl,yT hl,rfl,hsz⟩⟩
 .refine⟨some ⟨g,sz,cap,e⟩,(λm' h=>by cases h;rfl),?_,.inr ⟨⟨g,sz,cap,e⟩,zY rfl,.inl ⟨rfl,rfl,hsz,cur,hh,hs,by simp only[hl];exact hn,hm,hf.2.1,λk x j c hx hc=>?_⟩⟩⟩
  .have:=Rd.arr (w:=w') (F:=F) (upd nm i (some ⟨g,sz,cap,e⟩)) i 0 n ⟨g,sz,cap,e⟩ (zY rfl) (by simpa using hn) (.inr rfl);simpa using this
  .obtain⟨u,hu,hr⟩:=hf.2.2.2 k x j c hx hc;refine⟨u,?_,hf.2.2.1 u (zG hu),by simpa using hr⟩;rw[<-ht,yN] at hu;split at hu
   .simpa using hu
   .cases hu
theorem bs_ {t n:Nat} (h:b14 P t n=true) {i:TypeInfo} (hi:P.info? t=some i):i.bytes=n:=by unfold b14 at h;rw[hi] at h;simpa using h
theorem ss14 {t n:Nat} (h:szIs P t n=true) {i:TypeInfo} (hi:P.info? t=some i):i.size=n:=by unfold szIs at h;rw[hi] at h;simpa using h
theorem as52 (h:RelX G C nm F st a w) {args:Array Operand} {argTypes:Array Nat} {e sz bytes:Nat} {p q:Opd} (ho:o.op= .call {callee:=.builtin .append,args,argTypes})
  (hc:c10 P (.call {callee:=.builtin .append,args,argTypes}) (.app e sz bytes p q)=true) (he:aapp st o.dst e sz bytes (st.ev G p) (st.ev G q)=some st'):S_ P G C o a w st':=by
 simp only[c10] at hc;split at hc
 .rename_i x u t t' hargs htys;simp only[zJ,zB,zW] at hc;obtain⟨⟨⟨⟨⟨⟨⟨⟨rfl,hx⟩,hu⟩,hsl⟩,hsz⟩,h0⟩,hby⟩,hb0⟩,hzero⟩:=hc;have ht:=ss_ hsl;split at hzero
  .rename_i i hi;split at hzero
   .rename_i z' hz;simp only[zB] at hzero;have hisz:=ss14 hsz hi;have hiby:=bs_ hby hi;have hargs':args=#[x,u]:=by rw[<-vI (xs:=args),hargs]
    have htys':argTypes=#[t,t]:=by rw[<-vI (xs:=argTypes),htys]
    have hxr:=h.opd hx;have hur:=h.opd hu;have run:∀v' w',(Builtin.append_ #[t,t] o.type #[a.eval x,a.eval u]).run P w= .ok v' w'->(execOp a.eval o).run P w= .ok (.value v') w':=λv' w' hr=>by simp only[execOp,ho,hargs',htys',resolve,invoke,builtin,Sem.run_bind,Sem.run_pure,Result.andThen_ok,tD,yJ,yU,hr]
    generalize st.ev G p=pv at*;generalize st.ev G q=qv at*;cases pv <;> simp only[aapp,reduceCtorEq] at he
    case nils=>
     cases hd:o.dst with
     | none=>rw[hd] at he;cases he
     | some d=>
      rw[hd] at he;simp only at he;split at he
      .rename_i es hes;split at he
       .rename_i hbytes;obtain⟨A,c,us,hv,hA,hf,hcell⟩:=ns30 h hur hes h0;cases hxr':a.eval x <;> rw[hxr'] at hxr <;> cases hxr;have hml:es.length<=maxLen:=by simp only[maxLen];have:es.length*1<=es.length*bytes:=tY _ hb0;omega
        obtain⟨v',w',hr,hown,hgr,hob⟩:=ra13 w ht hi hz hisz hiby hzero h0 o.type (World.ownsRow_nil w 0 e sz) (c:=c) hA hf.1 hcell hf.2.2.1 (by simpa using hml) (by simpa using hbytes);have hw:∀k,k<w.heap.size->w'.heap[k]? =w.heap[k]? :=λk hk=>hgr.block k hk (by simp [Value.ownBlock]);have hFw:∀k,F k->w'.heap[k]? =w.heap[k]? :=λk hk=>hw k (h.good.1 k hk);simp only[yS,tU] at hown;obtain⟨m,hm,hrd,hbx⟩:=gr_ (F:=F) hown h0 (hf.mono hFw) rfl nm d;refine .inl ⟨v',w',run v' w' (by rw[hxr',hv];exact hr),upd nm d m,F,?_⟩;rw[hd];refine h.new he (Kept.grown h hgr (by simp [Value.ownBlock])) hw hgr.size (λm' hm'=>?_) hrd hbx;have e1:=hm m' hm';rcases hob with e2 | e2
        .rw[e1] at e2;simp [Value.ownBlock] at e2
        .rw[e1] at e2;simp only[zZ] at e2;omega
       .cases he
      .cases he
    case full z es0=>
     split at he
     .rename_i es hes;split at he
      .rename_i hcond;obtain⟨rfl,hne,hbytes⟩:=hcond;obtain⟨A,c,us,hv,hA,hf,hcell⟩:=ns30 h hur hes h0;generalize hax:a.eval x=xv at hxr;cases hxr with
       | full _ _ _ g off u hz0 hFg hm hs hw' h1 hr=>
        have hml:es0.length+es.length<=maxLen:=by simp only[maxLen];have:(es0.length+es.length)*1<=(es0.length+es.length)*bytes:=tY _ hb0;omega
        have hpos:0<es.length:=by cases es with | nil=>simp at hne | cons=>simp
        cases A with
        | none=>exact absurd (hA rfl) (by omega)
        | some ad=>
         have holds:∀(j:Nat) v,((List.range (es0.length*z)).map u)[j]?=some v->w.cell? ((⟨g,off,none⟩:Addr).add j)=some v:=λj v hj=>by
          have hjl:j<es0.length*z:=by have:=(zX.1 hj).1;simpa using this
          simp only[zS,xR hjl,yF,zZ] at hj;subst hj;rw[show (⟨g,off,none⟩:Addr).add j=⟨g,off+j,none⟩ from aa13 g off j];exact hw' j hjl
         have hrun:=run_append_grow (P:=P) w t o.type e i z' ht hi hz ⟨g,off,none⟩ es0.length es0.length ((List.range (es0.length*z)).map u) (by rw[hisz];simp) holds ad es.length c us (by rw[hisz];exact hf.1) (hcell ad rfl) (by omega) (by simp only[maxLen] at hml;omega) (growslice_fits (by omega) (by rw[hiby];exact hbytes));generalize hW:(w.drew.alloc (.cells (((List.range (es0.length*z)).map u).toArray++us.toArray++Builtin.zeroCells z'.cells (grownCap w (es0.length+es.length) es0.length e - (es0.length+es.length))) e))=w' at hrun;have hup:∀k,k<w.heap.size->w'.heap[k]? =w.heap[k]? :=λk hk=>by rw[<-hW];exact heap_alloc_old w.drew _ k hk
         have hFup:∀k,F k->w'.heap[k]? =w.heap[k]? :=λk hk=>hup k (h.good.1 k hk);have hgr:w.grownBy w' none:=by rw[<-hW];exact⟨rfl,rfl,rfl,by simp,λk hk _ =>heap_alloc_old w.drew _ k hk⟩
         have hnew:w'.heap[w.heap.size]?=some (.cells (((List.range (es0.length*z)).map u).toArray++us.toArray++Builtin.zeroCells z'.cells (grownCap w (es0.length+es.length) es0.length e - (es0.length+es.length))) e (0,0)):=by rw[<-hW];exact heap_alloc_new w.drew _
         refine .inl ⟨_,_,run _ _ (by rw[hax,hv];exact hrun),nm,λk=>F k∨k=w.heap.size,?_⟩
         have h2:RelX G C nm (λk=>F k∨k=w.heap.size) st a w':=h.world (Kept.grown h hgr (by simp)) (λ_ h=>.inl h) (λk hk=>hk.elim .inl λe=>.inr (by omega))
          (λk hk=>hk.elim (λhk=>wJ (h.good.1 k hk) hgr.size) (λhk=>by subst hk;rw[<-hW];simp)) hup
         refine h2.put ?_ he;have hfl:f20 w' (λk=>F k∨k=w.heap.size) z (es0++es) ((List.range (es0.length*z)).map u++us):=by
          refine ((?_ :f20 w F z es0 ((List.range (es0.length*z)).map u)).append hf).mono2 hFup λ_ h=>.inl h;refine⟨by simp,hs,λx hx=>?_,λk e j c he hc=>?_⟩
          .simp only[zI,xF] at hx;obtain⟨p,hp,rfl⟩:=hx;exact h1 p hp
          .have hj:j<z:=by rw[<-hs e (zG he)];exact (zX.1 hc).1
           have hk:k<es0.length:=(zX.1 he).1;have hlt:k*z+j<es0.length*z:=by have:(k+1)*z<=es0.length*z:=xZ _ hk;rw[xM] at this;omega
           exact⟨u (k*z+j),by simp [hlt],hr k e j c he hc⟩
         have hlen:((List.range (es0.length*z)).map u++us).length=(es0++es).length*z:=hfl.1;have hat:∀p,p<(es0++es).length*z->w'.cell? ⟨w.heap.size,0+p,none⟩=some (((List.range (es0.length*z)).map u++us).getD p undef):=λp hp=>by
          rw[<-hlen] at hp;have hp':p<(((List.range (es0.length*z)).map u).toArray++us.toArray).size:=by simpa using hp
          simp only[World.cell?,hnew,yS];rw[Array.getElem?_append_left hp'];rw[List.append_toArray,List.getElem?_toArray,uC,zU hp];rfl
         have:=Rd.seq (w:=w') (F:=λk=>F k∨k=w.heap.size) nm z (es0++es) w.heap.size 0 (grownCap w (es0.length+es.length) es0.length e) (λp=>((List.range (es0.length*z)).map u++us).getD p undef) hz0 (.inr rfl)
          (by rw[zL];exact grownCap_ge w _ _ e) (grownCap_le_maxLen w _ _ e hml) hfl.2.1 hat (λp hp=>by
           rw[<-hlen] at hp;rw[uC,zU hp];exact hfl.2.2.1 _ (tQ hp)) (λk e j c he hc=>by
           obtain⟨x,hx,hrx⟩:=hfl.2.2.2 k e j c he hc;rw[uC,hx];exact hrx)
         rw[zL] at this;exact this
      .cases he
     .cases he
    case arr i' k n=>
     cases k with
     | succ k=>simp at he
     | zero=>
      simp only at he;split at he
      .rename_i d b es hd hb hes;split at he
       .rename_i hcond;obtain⟨hrow,hty,hbs,hbl,hbytes,hdN⟩:=hcond;simp only[zZ] at he;subst he;obtain⟨A,c,us,hv,hA,hf,hcell⟩:=ns30 h hur hes h0
        -- the row as it is
        have hold:∃xs,w.ownsRow 0 e sz (a.eval x) n xs∧f20 w F sz b.es xs∧(∀g,(a.eval x).ownBlock=some g->∃m,nm i'=some m∧m.g=g):=by
         have empty:f20 w F sz [] []:=⟨by simp,by simp,by simp,by simp⟩;generalize a.eval x=xv at hxr;cases hxr with
         | arr _ _ _ _ m hmi hn hp=>
          rcases h.box i' b hb with ⟨hno,_⟩ | ⟨m1,hm1,hl⟩
          .rw[hmi] at hno;cases hno
          rw[hmi] at hm1;cases hm1;obtain⟨cs,h4,h5,hfl⟩:=(hl.c (by omega)).flat hrow (k:=0) (n:=n) (by omega);obtain⟨h1,h2,h3,_,_,_,_,h7,_,_⟩:=hl.c (by omega);have e1:(b.es.drop 0).take n=b.es:=by rw[xO,<-hbl,wV]
          rw[e1,hbs] at hfl;refine⟨_,⟨?_,.inr ⟨m.g,m.cap,cs,by simp,wC _,by rw[<-hty,<-h2];exact h4,by simpa using hn,h7,by rw[h5,h1,hbs],rfl⟩⟩,?_,λg hg=>⟨m,hmi,by simpa [Value.ownBlock] using hg⟩⟩
          .have:=hfl.1;rw[hbl,h1,hbs] at this;simpa using this
          .simp only[Nat.zero_mul,xO,h1,hbs] at hfl;exact hfl
         | arrE _ _ _ _ _ hk=>omega
         | arrN _ _ =>
          have e1:b.es=[]:=yT hbl;refine⟨[],World.ownsRow_nil w 0 e sz,by rw[e1];exact empty,λg hg=>by simp [Value.ownBlock] at hg⟩
        obtain⟨xs,hown0,hfl,hblk⟩:=hold;have hml:n+es.length<=maxLen:=by simp only[maxLen];have:(n+es.length)*1<=(n+es.length)*bytes:=tY _ hb0;omega
        obtain⟨v',w',hr,hown,hgr,hob⟩:=ra13 w ht hi hz hisz hiby hzero h0 o.type hown0 (c:=c) hA hf.1 hcell hf.2.2.1 hml hbytes;have hw:∀k,k<w.heap.size->(∀b m,hget st.heap i'=some b->nm i'=some m->k≠m.g)->w'.heap[k]? =w.heap[k]? :=λk hk hne=>hgr.block k hk (λe=>by obtain⟨m,hm,rfl⟩:=hblk k e.symm;exact hne b m hb hm rfl)
        have hFw:∀k,F k->w'.heap[k]? =w.heap[k]? :=λk hk=>hw k (h.good.1 k hk) (λb m hb hm e=>h.fr i' b m hb hm (e ▸ hk));obtain⟨m,hm,hrd,hbx⟩:=gr_ (F:=F) hown h0 ((hfl.append hf).mono hFw) (by rw[zL,hbl]) nm i';refine .inl ⟨v',w',run v' w' (by rw[hv];exact hr),upd nm i' m,F,?_⟩;rw[hd];refine h.renew (b:=⟨true,e,sz,b.es++es⟩) hdN (λhv=>by have:=(h.vn _ hv).2.2 b hb;rw[hrow] at this;cases this) (λj=>?_) (Kept.grown h hgr (λk hk=>?_)) hw hgr.size (λm' hm'=>?_) hrd hbx
        .rw[hh_];by_cases hj:i'=j
         .subst hj;rw[zY rfl,zY rfl];cases b;simp only at hrow hty hbs;subst hrow;subst hty;subst hbs;rfl
         .rw[zK hj,zK (λe=>hj e.symm),hp10,zK (λe=>hj e.symm)]
        .obtain⟨m1,hm1,rfl⟩:=hblk k hk;exact h.own i' b m1 hb hm1
        .have e1:=hm m' hm';rcases hob with e2 | e2
         .rw[e1] at e2;obtain⟨m1,hm1,e3⟩:=hblk _ e2.symm;exact .inr ⟨b,m1,hb,hm1,e3.symm⟩
         .rw[e1] at e2;simp only[zZ] at e2;exact .inl (by omega)
       .cases he
      .cases he
   .cases hzero
  .cases hzero
 .cases hc
end
