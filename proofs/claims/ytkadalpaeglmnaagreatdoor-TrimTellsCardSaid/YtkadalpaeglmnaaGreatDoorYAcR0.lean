/-
  Lemmas. No claim is proved here.
-/
import Derived.Test.YtkadalpaeglmnaaGreatDoorYAbRun
import Derived.ProofKit
import Derived.OpenShut
import Derived.Test.YtkadalpaeglmnaaGreatDoorProg
set_option linter.unusedSimpArgs false
namespace Go.Proofs.YtkadalpaeglmnaaGreatDoor.Ab
open Go Go.RowKit Go.ChangeShapes
variable {H:Type} {enc:TypeId×Value→H} {P:Program}
theorem post_of_below {f:Func} {s:ChangeSpec} {apart fresh handsOn a11:Bool} {W W':World} {args:Array Value} {v:Value} {ds gs:List (DataW H)} {before pa pv:List MemPlace}
  (hW:DataW.Whole enc P f.params.toList s.vars apart W args.toList ds gs before)
  (hres:∀(b:Nat) (sp:Nat→Bool) (hd:Bool),DataW.TrodAll enc P W' b sp hd f.resultTypes.toList (v.resultList f.resultTypes.size) (s.fn H (ds++gs)).results [])
  (hargs:∀sp:Nat→Bool,(∀p∈before,sp p.block=true)→DataW.TrodAll enc P W' 0 sp true f.params.toList args.toList (s.fn H (ds++gs)).args pa)
  (hvars:∀sp:Nat→Bool,(∀p∈before,sp p.block=true)→DataW.TrodVars enc P W' sp s.vars (s.fn H (ds++gs)).vars pv)
  (hps:before=pa++pv) (hb:Below W.heap.size W W')
  (hok:∀(j:Nat) (t:TypeId) (r:Value),f.resultTypes[j]? =some t→(v.resultList f.resultTypes.size)[j]? =some r→Value.okWide P W' .any 0 t r):
  s.post enc P f apart fresh handsOn a11 W args v W':=by
 have hlt:=fun p hp=>hW.lt p hp;have hold:∀p∈before,(fun b=>decide (b<W.heap.size)) p.block=true:=fun p hp=>by simpa using hlt p hp
 have hw:=hW;obtain⟨_,_,_,_,_,hz,hn⟩:=hw;subst hps;refine⟨ds,gs,pa++pv,[],pa,pv,hW,hres _ _ _,hargs _ hold,hvars _ hold,hb.frame _,fun _ =>⟨hok,_,_,([]++pa)++pv,⟨[]++pa,pv,trodAll_append (hargs _ fun _ _ =>rfl) (hres _ _ _),hvars _ fun _ _ =>rfl,rfl,fun b off hp=>?_,fun ha=>by simpa using hn ha⟩,fun p hp _ =>by simpa using hp⟩⟩;have hp':MemPlace.cell b off∈pa++pv:=by simpa using hp
 have:=hlt _ hp';have hf:=hb.frozen (p:=⟨b,off,none⟩) this;exact hf.trans (hz b off hp')
theorem an11 {w:World} {F:Nat→Prop}:A10 w F [] #[]:=⟨rfl,fun j c u h=>by simp at h⟩
theorem ac17 {w:World} {F:Nat→Prop} {c:AV} {u:Value} {cs:List AV} {us:List Value} (h:Rd w F n10 c u) (hs:A10 w F cs us.toArray):A10 w F (c::cs) (u::us).toArray:=by
 refine⟨by have:=hs.1;simp at this;simp [this],fun j d x hd hx=>?_⟩
 match j with
 | 0=>simp at hd hx;subst hd;subst hx;exact h
 | j+1=>exact hs.2 j d x (by simpa using hd) (by simpa using hx)
open Go.WideShapes
abbrev oldF (w:World):Nat→Prop:=fun b=>b<w.heap.size
def RdT (P:Program) (t sz:Nat) (Q:List AV→Prop):Prop:=
 P.cellsOf t=sz∧∀(H:Type) (enc:TypeId×Value→H) (w:World) (sp:Nat→Bool) (fuel:Nat) (cs:List Value) (x:DataW H×List MemPlace),DataW.trod enc P w 0 sp true fuel t cs=some x→
  ∃asx,Q asx∧asx.length=sz∧cs.length=sz∧∀(j:Nat) a,asx[j]? =some a→∃c,cs[j]? =some c∧c.oneCell'=true∧Rd w (oldF w) n10 a c
def RdFs (P:Program) (l:List Field) (off fin:Nat) (Q:List AV→Prop):Prop:=
 ∀(H:Type) (enc:TypeId×Value→H) (w:World) (sp:Nat→Bool) (n:Nat) (cs:List Value) (xs:List (DataW H×List MemPlace)),
  (∀(i:Nat) (f:Field),l[i]? =some f→DataW.trod enc P w 0 sp true n f.type ((cs.drop f.offset).take (P.cellsOf f.type))=xs[i]?)→xs.length=l.length→
  ∃asx,Q asx∧off+asx.length=fin∧∀(j:Nat) a,asx[j]? =some a→∃c,cs[off+j]? =some c∧c.oneCell'=true∧Rd w (oldF w) n10 a c
section
variable {P:Program}
theorem RdT.mono {t sz:Nat} {Q Q':List AV→Prop} (h:RdT P t sz Q) (hq:∀asx,Q asx→Q' asx):RdT P t sz Q':=
 ⟨h.1,fun H enc w sp fuel cs x hx=>let ⟨asx,h1,h2⟩:=h.2 H enc w sp fuel cs x hx;⟨asx,hq _ h1,h2⟩⟩
theorem ro11 {a:AV} {c:Value} {w:World} (h1:c.oneCell'=true) (h:Rd w (oldF w) n10 a c):∀(j:Nat) b,[a][j]? =some b→∃d,[c][j]? =some d∧d.oneCell'=true∧Rd w (oldF w) n10 b d:=by
 intro j b hb
 match j,hb with
 | 0,hb=>simp at hb;subst hb;exact⟨c,rfl,h1,h⟩
 | j+1,hb=>simp at hb
theorem ri10 {t:Nat} {k:IntKind} (ht:P.underlying t=some (.int k)) (hs:P.cellsOf t=1):RdT P t 1 fun asx=>∃n,asx=[.int k n]∧(Lit.int k n).wf=true:=
 ⟨hs,fun H enc w sp fuel cs x hx=>by obtain⟨n,rfl,_,hw⟩:=DataW.trod_int ht hx;exact⟨_,⟨n,rfl,hw⟩,rfl,rfl,ro11 rfl (.int _ _ _)⟩⟩
theorem rb_ {t:Nat} (ht:P.underlying t=some .bool) (hs:P.cellsOf t=1):RdT P t 1 fun asx=>∃b,asx=[.bool b]:=
 ⟨hs,fun H enc w sp fuel cs x hx=>by obtain⟨b,rfl,_⟩:=DataW.trod_bool ht hx;exact⟨_,⟨b,rfl⟩,rfl,rfl,ro11 rfl (.bool _ _)⟩⟩
theorem rs27 {t:Nat} (ht:P.underlying t=some .string) (hs:P.cellsOf t=1):RdT P t 1 fun asx=>∃s:List UInt8,asx=[.str s]∧s.length≤maxLen:=
 ⟨hs,fun H enc w sp fuel cs x hx=>by
  obtain⟨s,rfl,_,hl⟩:=DataW.trod_string ht hx;have e:s=⟨s.data.toList.toArray⟩:=by apply ByteArray.ext;simp
  have e2:s.data.toList.length=s.size:=Array.length_toList;refine⟨[.str s.data.toList],⟨s.data.toList,rfl,by rw[e2];exact hl⟩,rfl,rfl,ro11 rfl ?_⟩;have:=Rd.str (w:=w) (F:=oldF w) n10 s.data.toList;rw[←e] at this;exact this⟩
theorem rn_ (off:Nat):RdFs P [] off off fun asx=>asx=[]:=fun _ _ _ _ _ _ _ _ _ =>⟨[],rfl,rfl,fun j a h=>by simp at h⟩
theorem rc_ {f:Field} {l:List Field} {off sz mid fin:Nat} {Q1 Q2:List AV→Prop} (h1:RdT P f.type sz Q1) (ho:f.offset=off) (hm:off+sz=mid) (h2:RdFs P l mid fin Q2):RdFs P (f::l) off fin fun asx=>∃a b,asx=a++b∧Q1 a∧Q2 b:=by
 intro H enc w sp n cs xs hx hl
 match xs,hl with
 | x::xs,hl=>
  subst ho hm;have hf:=hx 0 f rfl;simp only[yZ,h1.1] at hf;obtain⟨a,q1,l1,l2,r1⟩:=h1.2 H enc w sp n _ x hf;obtain⟨b,q2,e2,r2⟩:=h2 H enc w sp n cs xs (fun i g hg=>by simpa using hx (i+1) g (by simpa using hg)) (by simpa using hl);refine⟨a++b,⟨a,b,rfl,q1,q2⟩,by simp;omega,fun j v hv=>?_⟩;rw[wM] at hv;split at hv
  ·rename_i hj;obtain⟨c,hc,h3,h4⟩:=r1 j v hv;refine⟨c,?_,h3,h4⟩;rw[yU,zG (by omega),yE] at hc;exact hc
  ·rename_i hj;obtain⟨c,hc,h3,h4⟩:=r2 _ v hv;refine⟨c,?_,h3,h4⟩;rw[←hc];congr 1;omega
theorem rs_ {t sz:Nat} {fs:Array Field} {Q:List AV→Prop} (ht:P.underlying t=some (.struct fs)) (hs:P.cellsOf t=sz) (h:RdFs P fs.toList 0 sz Q):RdT P t sz Q:=
 ⟨hs,fun H enc w sp fuel cs x hx=>by obtain⟨xs,n,_,_,hl,hxl,hxs⟩:=DataW.trod_struct ht hx;obtain⟨asx,q,e,r⟩:=h H enc w sp n cs xs (fun i f hf=>hxs i f (by simpa using hf)) (by simpa using hxl);refine⟨asx,q,by omega,by rw[hl,hs],fun j a ha=>?_⟩;obtain⟨c,hc,h3⟩:=r j a ha;exact⟨c,by simpa using hc,h3⟩⟩
def mkE (agg:Bool) (bs:List AV):AV:=if agg then .agg bs else bs.headD .top
theorem rs24 {t e sz:Nat} {Q:List AV→Prop} (agg:Bool) (ht:P.underlying t=some (.slice e)) (hs:P.cellsOf t=1) (h:RdT P e sz Q) (h0:0<sz) (hone:agg=false→∀bs,Q bs→∃b,bs=[b]∧b.cells=[b]):
  RdT P t 1 fun asx=>∃es:List AV,asx=[.seq sz es]∧es.length≤maxLen∧∀x∈es,∃bs,Q bs∧x=mkE agg bs:=by
 refine⟨hs,fun H enc w sp fuel cs x hx=>?_⟩;rcases DataW.trod_slice ht hx with ⟨rfl,_⟩ | ⟨a,len,cap,elems,rest,n,_,rfl,_,_,hlc,hcm,hel,hat,_⟩
 ·exact⟨_,⟨[],rfl,by simp,by simp⟩,rfl,rfl,ro11 rfl (.seq0 _ _ _ _)⟩
 ·by_cases hl0:len=0
  ·subst hl0;exact⟨_,⟨[],rfl,by simp,by simp⟩,rfl,rfl,ro11 rfl (.seq0 _ _ _ _)⟩
  rw[h.1] at hat;have each:∀i,i<len→∃cs asx,w.cells? 0 (a.add (i*sz)) sz=some cs∧Q asx∧asx.length=sz∧cs.length=sz∧∀(j:Nat) b,asx[j]? =some b→∃c,cs[j]? =some c∧c.oneCell'=true∧Rd w (oldF w) n10 b c:=fun i hi=>by have h1:=hat i hi;rw[zY (by omega)] at h1;obtain⟨cs,h2,h3⟩:=Option.bind_eq_some_iff.1 h1;obtain⟨asx,h4,h5,h6,h7⟩:=h.2 H enc w sp n cs _ h3;exact⟨cs,asx,h2,h4,h5,h6,h7⟩
  -- the address
  obtain⟨cs0,as0,hc0,_,hl0',hl0'',_⟩:=each 0 (by omega);have hcell0:=(World.cells?_some hc0).2.2 0 h0;have hspot:a.spot=none∧a.block<w.heap.size:=by
   rw[zY (by omega)] at hcell0;simp only[Nat.zero_mul,Addr.add,xZ] at hcell0;unfold World.cell? at hcell0;split at hcell0
   ·rename_i c _ _ hb;split at hcell0
    ·cases hcell0
    ·rename_i hsp;exact⟨by simpa using hsp,(yK.1 hb).1⟩
   ·cases hcell0
  obtain⟨g,o,s⟩:=a;simp only at hspot;obtain⟨rfl,hg⟩:=hspot;let asx:Nat→List AV:=fun i=>if hi:i<len then (each i hi).choose_spec.choose else [];let es:List AV:=(List.range len).map fun i=>mkE agg (asx i);have has:∀i (hi:i<len),∃cs,w.cells? 0 ((⟨g,o,none⟩:Addr).add (i*sz)) sz=some cs∧Q (asx i)∧(asx i).length=sz∧cs.length=sz∧∀(j:Nat) b,(asx i)[j]? =some b→∃c,cs[j]? =some c∧c.oneCell'=true∧Rd w (oldF w) n10 b c:=fun i hi=>by have:=(each i hi).choose_spec.choose_spec;simp only[asx,hi,dif_pos];exact⟨_,this⟩
  have hec:∀i,i<len→(mkE agg (asx i)).cells=asx i:=fun i hi=>by
   obtain⟨cs,_,hq,_⟩:=has i hi;cases hagg:agg with
   | true=>rfl
   | false=>
    obtain⟨b,e1,e2⟩:=hone hagg _ hq;simp only[mkE,zW,yA,e1,List.headD_cons];exact e2
  have hel':∀i x,es[i]? =some x→i<len∧x=mkE agg (asx i):=fun i x hx=>by
   have hi:i<len:=by have:=(zZ.1 hx).1;simpa [es] using this
   simp only[es,zT,xA hi,yW,zJ] at hx;exact⟨hi,hx.symm⟩
  have cellAt:∀i (hi:i<len) j,j<sz→∃c,w.cell? ⟨g,o+(i*sz+j),none⟩=some c∧c.oneCell'=true∧∀b,(asx i)[j]? =some b→Rd w (oldF w) n10 b c:=fun i hi j hj=>by
   obtain⟨cs,h1,_,h3,h4,h5⟩:=has i hi;obtain⟨c,hc,hc1,hr⟩:=h5 j _ (zY (by rw[h3];exact hj));refine⟨c,?_,hc1,fun b hb=>?_⟩
   ·have:=(World.cells?_some h1).2.2 j hj;rw[hc,aa13,aa13] at this;rw[←this];congr 2;omega
   ·rw[zY (by rw[h3];exact hj)] at hb;cases hb;exact hr
  have hp:∀p,p<len*sz→p / sz<len∧p % sz<sz∧p / sz*sz+p % sz=p:=fun p hp=>⟨Nat.div_lt_of_lt_mul (by rw[uA];exact hp),Nat.mod_lt _ h0,by rw[uA];exact sQ _ _⟩;have hlen:es.length=len:=by simp [es]
  have key:=Rd.seq (w:=w) (F:=oldF w) n10 sz es g o cap (fun p=>(w.cell? ⟨g,o+p,none⟩).getD Go.undef) h0 hg (by rw[hlen];exact hlc) hcm
   (fun x hx=>by obtain⟨i,hi⟩:=zN hx;obtain⟨hi',rfl⟩:=hel' i x hi;rw[hec i hi'];obtain⟨_,_,_,h3,_⟩:=has i hi';exact h3)
   (fun p hp'=>by rw[hlen] at hp';obtain⟨h1,h2,h3⟩:=hp p hp';obtain⟨c,hc,_⟩:=cellAt _ h1 _ h2;rw[h3] at hc;rw[hc];rfl)
   (fun p hp'=>by rw[hlen] at hp';obtain⟨h1,h2,h3⟩:=hp p hp';obtain⟨c,hc,hc1,_⟩:=cellAt _ h1 _ h2;rw[h3] at hc;simp only[hc,yR];exact hc1)
   (fun i x j b hx hb=>by
    obtain⟨hi',rfl⟩:=hel' i x hx;rw[hec i hi'] at hb;have hj:j<sz:=by obtain⟨_,_,_,h3,_⟩:=has i hi';rw[←h3];exact (zZ.1 hb).1
    obtain⟨c,hc,_,hr⟩:=cellAt i hi' j hj;simp only[hc,yR];exact hr b hb)
  rw[hlen] at key;refine⟨[.seq sz es],⟨es,rfl,by rw[hlen];omega,fun x hx=>?_⟩,rfl,rfl,ro11 rfl key⟩;obtain⟨i,hi⟩:=zN hx;obtain⟨hi',rfl⟩:=hel' i x hi;obtain⟨_,_,hq,_⟩:=has i hi';exact⟨_,hq,rfl⟩
theorem lo11 {α:Type} {f:α→AV}:∀{es:List AV},(∀x∈es,∃a,x=f a)→∃l:List α,es=l.map f
 | [],_ =>⟨[],rfl⟩
 | x::es,h=>by obtain⟨a,rfl⟩:=h x (by simp);obtain⟨l,rfl⟩:=lo11 (fun y hy=>h y (zD _ hy));exact⟨a::l,rfl⟩
theorem oa10 {H:Type} {enc:TypeId×Value→H} {t sz:Nat} {Q:List AV→Prop} {W:World} {sp:Nat→Bool} {v:Value} {d:DataW H} {ps:List MemPlace} {us:Array Value} (h:RdT P t sz Q) (hv:v= .agg us) (hd:DataW.Trod enc P W 0 sp true t v d ps):∃asx,Q asx∧Rd W (oldF W) n10 (.agg asx) v:=by
 subst hv;obtain⟨fuel,hf⟩:=hd;obtain⟨asx,q,l1,l2,r⟩:=h.2 _ _ _ _ _ _ _ hf;refine⟨asx,q,?_⟩;have key:=Rd.agg (w:=W) (F:=oldF W) n10 asx us.toList (by rw[l1,←l2];rfl) fun j a c ha hc=>by obtain⟨c',hc',_,hr⟩:=r j a ha;have e:(Value.agg us).cells.toList=us.toList:=rfl;rw[e,hc] at hc';cases hc';exact hr
 simpa using key
theorem as21 {H:Type} {enc:TypeId×Value→H} (hl:laidOutB P=true) {W W':World} (hb:Below W.heap.size W W'):∀{ts:List TypeId} {vs:List Value} {ds:List (DataW H)} {ps:List MemPlace},
  ts.all (fun t=>P.readableRec t&&decide (t<P.types.size))=true→DataW.TrodAll enc P W 0 (fun _ =>true) true ts vs ds ps→(∀p∈ps,p.block<W.heap.size)→
  ∀sp:Nat→Bool,(∀p∈ps,sp p.block=true)→DataW.TrodAll enc P W' 0 sp true ts vs ds ps
 | [],[],[],_,_,h,_,_,_ =>h
 | [],[],_ ::_,_,_,h,_,_,_ =>h.elim
 | [],_ ::_,_,_,_,h,_,_,_ =>h.elim
 | _ ::_,[],_,_,_,h,_,_,_ =>h.elim
 | _ ::_,_ ::_,[],_,_,h,_,_,_ =>h.elim
 | t::ts,v::vs,d::ds,ps,ht,h,hlt,sp,hs=>by obtain⟨p,q,h1,h2,rfl⟩:=h;simp only[List.all_cons,zK,zU] at ht;refine⟨p,q,WideElems.Trod_stays hl ht.1.1 ht.1.2 h1 (fun x hx=>hb.same (hlt x (by simp [hx]))) (fun x hx=>hs x (by simp [hx])),?_,rfl⟩;exact as21 hl hb ht.2 h2 (fun x hx=>hlt x (by simp [hx])) sp fun x hx=>hs x (by simp [hx])
end
abbrev iv (n:Int):AV:=.int .i64 n
abbrev Str:=List UInt8
theorem fe_ {a b:AV} (h:a=b):Fit a b:=h ▸ .refl _
theorem fitB {a b:Bool} (h:a=b):Fit (.bool a) (.bool b):=h ▸ .refl _
theorem fitI {a b:Int} (h:a=b):Fit (iv a) (iv b):=h ▸ .refl _
structure OkC (caps:List AV):Prop where
 purge:∀i,purge.go i caps=caps
 viewK:∀rec H,viewK.go rec H caps=some caps
 view:∀H,view.go H caps=some caps
 thaw:∀i b,thaw.go i b caps=caps
 viewBs:∀H,viewBs H caps=some caps
 viewAll:∀H,viewAll H caps=some caps
theorem on_:OkC []:=⟨fun _ =>rfl,fun _ _ =>rfl,fun _ =>rfl,fun _ _ =>rfl,fun _ =>rfl,fun _ =>rfl⟩
theorem am_ {α:Type} {e:α→AV} {H:List (Nat×Box)} {sz:Nat} {l:List α} {i:Nat} {x:α} (h:l[i]? =some x):a16 H sz (.seq sz (l.map e)) (.int .i64 (i:Int))=some (.eptr (e x) 0):=
 as17 _ (by omega) (by simp [h])
theorem ws_ {i n:Nat} (h:i<n) (hn:n<9223372036854775808):IntKind.i64.wrap ((i:Int)+1)=((i+1:Nat):Int):=by rw[wi_ (by omega) (by omega)];omega
theorem as10 {α:Type} {l:List α} {i:Nat} (h:i<l.length):∃x,l[i]? =some x∧x∈l:=⟨l[i],zY h,uO h⟩
def idxF {α:Type} (p:α→Bool) (l:List α):Int:=match l.findIdx? p with | some i=>(i:Int) | none=>-1
theorem ia10 {α:Type} {p:α→Bool} {l:List α} {i:Nat} {x:α} (hx:l[i]? =some x) (hp:p x=true) (hno:∀j y,j<i→l[j]? =some y→p y=false):idxF p l=i:=by
 have:l.findIdx? p=some i:=by rw[wO];obtain⟨hlt,rfl⟩:=zZ.1 hx;exact⟨hlt,hp,fun j hj=>by simp [hno j _ hj (zY (by omega))]⟩
 simp [idxF,this]
theorem in10 {α:Type} {p:α→Bool} {l:List α} (hno:∀j y,j<l.length→l[j]? =some y→p y=false):idxF p l= -1:=by
 have:l.findIdx? p=none:=by rw[tJ];intro x hx;obtain⟨j,hj⟩:=zN hx;exact hno j x (zZ.1 hj).1 hj
 simp [idxF,this]
theorem ia_ {α:Type} (p:α→Bool) (l:List α):decide (0≤idxF p l)=l.any p:=by
 unfold idxF;cases h:l.findIdx? p with
 | none=>
  rw[tJ] at h;rw[show l.any p=false by rw[xR];intro x hx;simp [h x hx]];rfl
 | some i=>
  rw[wO] at h;obtain⟨hlt,hp,_⟩:=h;rw[show l.any p=true by rw[yL];exact⟨l[i],uO hlt,hp⟩];simp
def allI {α:Type} (p:Nat→α→Bool) (l:List α):Bool:=l.zipIdx.all fun x=>p x.2 x.1
theorem at10 {α:Type} {p:Nat→α→Bool} {l:List α}:allI p l=true↔∀i x,l[i]? =some x→p i x=true:=by
 simp only[allI,yH,Prod.forall];constructor
 ·intro h i x hx;exact h x i (by rw[wC];exact hx)
 ·intro h x i hx;rw[wC] at hx;exact h i x hx
theorem af_ {α:Type} {p:Nat→α→Bool} {l:List α} {i:Nat} {x:α} (hx:l[i]? =some x) (hp:p i x=false):allI p l=false:=by
 cases h:allI p l with
 | false=>rfl
 | true=>rw[at10.1 h i x hx] at hp;cases hp
theorem ac18 {α:Type} (p:α→Bool) (l:List α):allI (fun _ =>p) l=l.all p:=by rw[yY,at10,yH];exact⟨fun h x hx=>let ⟨i,hi⟩:=zN hx;h i x hi,fun h i x hx=>h x (List.mem_of_getElem? hx)⟩
theorem as11 {α:Type} {p:Nat→α→Bool} {l:List α} {i:Nat} {x:α} (hx:l[i]? =some x) (hp:p i x=true) (h:∀j y,j<i→l[j]? =some y→p j y=true):∀j y,j<i+1→l[j]? =some y→p j y=true:=fun j y hj hy=>by
 by_cases e:j=i
 ·subst e;rw[hx] at hy;cases hy;exact hp
 ·exact h j y (by omega) hy
theorem aa12 {α:Type} {p:Nat→α→Bool} {l:List α} {i:Nat} (hi:l.length≤i) (h:∀j y,j<i→l[j]? =some y→p j y=true):allI p l=true:=at10.2 fun j y hj=>h j y (by have:=(zZ.1 hj).1;omega) hj
theorem al14 {P:Program} {W:World} {t e g:Nat} {zs:List AV} {cs:Array Value} (_h0:0<zs.length) (_hone:∀a∈zs,a.cells=[a]) (_ht:P.underlying t=some (.array zs.length e)) (hc:P.cellsOf t=zs.length)
  (hcell:∀i,W.cell? ⟨g,i,none⟩=cs[i]?) (hw:∃t fz,W.heap[g]? =some (.cells cs t fz)) (hsz:cs.toList.length=P.cellsOf t)
  (each:∀(i:Nat) a,zs[i]? =some a→∃v,cs[i]? =some v∧v.oneCell'=true∧Rd W (oldF W) n10 a v):Rd W (oldF W) n10 (.eptr (.agg zs) 0) (.pointer (some ⟨g,0,none⟩))∧W10 W g (.agg zs):=by
 have hg:g<W.heap.size:=by obtain⟨_,_,h⟩:=hw;exact (yK.1 h).1
 refine⟨?_,?_⟩
 ·have key:=Rd.eptr (w:=W) (F:=oldF W) n10 (.agg zs) 0 g 0 (fun p=>(cs[p]?).getD Go.undef) hg
   (fun p hp=>by
    have hp':p<zs.length:=by simpa [AV.cells] using hp
    obtain⟨v,hv,_⟩:=each p zs[p] (zY hp');rw[yT,hcell,hv];rfl)
   (fun p hp=>by
    have hp':p<zs.length:=by simpa [AV.cells] using hp
    obtain⟨v,hv,h1,_⟩:=each p zs[p] (zY hp');rw[hv];exact h1)
   (fun j c hj=>by obtain⟨v,hv,_,h2⟩:=each j c (by simpa [AV.cells] using hj);rw[hv];exact h2)
  simpa using key
 ·obtain⟨t',fz,h⟩:=hw;exact⟨cs,t',fz,h,by simpa [AV.cells,hc] using hsz⟩
theorem sl14 {H:Type} {enc:TypeId×Value→H} {P:Program} {W:World} {t e g:Nat} {sp:Nat→Bool} {held:Bool} {l:List (List UInt8)} {cs:Array Value} {fuel:Nat} {p:List MemPlace} (hl:0<l.length)
  (ht:P.underlying t=some (.array l.length e)) (he:P.underlying e=some .string) (hc:P.cellsOf e=1) (hct:P.cellsOf t=l.length) (hcell:∀i,W.cell? ⟨g,i,none⟩=cs[i]?) (hw:∃t fz,W.heap[g]? =some (.cells cs t fz))
  (hd:DataW.trod enc P W 0 sp held fuel t cs.toList=some (.agg (l.map fun s=>.lit (.string s)),p)):Rd W (oldF W) n10 (.eptr (.agg (l.map AV.str)) 0) (.pointer (some ⟨g,0,none⟩))∧W10 W g (.agg (l.map AV.str)):=by
 obtain⟨xs,m,_,hx,hsz,hn,hel⟩:=DataW.trod_array ht hd;simp only[vH,DataW.agg.injEq] at hx;have each:∀(i:Nat) (s:List UInt8),l[i]? =some s→cs[i]? =some (Value.string ⟨s.toArray⟩):=fun i s hs=>by
  have hi:=(zZ.1 hs).1;have h1:=hel i hi;rw[hc,Nat.mul_one,zY (by omega)] at h1;obtain⟨b,e1,e2,_⟩:=DataW.trod_string he h1;have h2:(l.map fun s=>(DataW.lit (Lit.string s):DataW H))[i]? =(xs.map (·.1))[i]? :=by rw[hx.1]
  rw[zT,zT,hs,zY (by omega),e2] at h2;simp only[yW,zJ,DataW.lit.injEq,Lit.string.injEq] at h2;have h3:(cs.toList.drop i)[0]? =some (.string b):=by have:=congrArg (·[0]?) e1;simpa [yU] using this
  rw[yE,vZ,vI] at h3;rw[h3,h2]
 refine al14 (by simpa using hl) (fun a ha=>?_) (by simpa using ht) (by simpa using hct) hcell hw hsz fun i a ha=>?_
 ·obtain⟨s,_,rfl⟩:=zI.1 ha;rfl
 ·rw[zT] at ha;obtain⟨s,hs,rfl⟩:=zH.1 ha;exact⟨_,each i s hs,rfl,Rd.str _ _⟩
theorem vh_ {P:Program} {w:World} {n:String} {g:Nat} {cs:Array Value} (hg:P.globalNamed n=some g) (h:w.var? P n=some cs):∃t fz,w.heap[g]? =some (.cells cs t fz):=by
 simp only[World.var?,hg,vU] at h;split at h
 ·rename_i c t fz hh;cases h;exact⟨t,fz,hh⟩
 ·cases h
theorem la_ {P:Program} {W:World}:∀{l:List (String×DataW Unit)} {ps:List MemPlace} (i:Nat) {n:String} {d:DataW Unit},DataW.LaidVars P W l ps→l[i]? =some (n,d)→
  ∃(g t:Nat) (cs:Array Value) (fuel:Nat) (p:List MemPlace),P.globalNamed n=some g∧(P.globals[g]?).map (·.type)=some t∧(∀i,W.cell? ⟨g,i,none⟩=cs[i]?)∧(∃t fz,W.heap[g]? =some (.cells cs t fz))∧DataW.trod (fun _ =>()) P W 0 (fun _ =>true) false fuel t cs.toList=some (d,p)
 | [],_,i,_,_,_,h=>by simp at h
 | (m,e)::r,ps,0,n,d,h,hi=>by simp only[yZ,zJ,vH] at hi;obtain⟨rfl,rfl⟩:=hi;obtain⟨g,t,cs,fuel,p,q,hg,ht,hv,hd,_⟩:=h;exact⟨g,t,cs,fuel,p,hg,ht,fun i=>World.var?_cell hg hv i,vh_ hg hv,hd⟩
 | (m,e)::r,ps,i+1,n,d,h,hi=>by obtain⟨_,_,_,_,_,q,_,_,_,_,h,_⟩:=h;exact la_ i h (by simpa using hi)
theorem la14 {P:Program} {W:World} {l:List (String×DataW Unit)} (i:Nat) {n:String} {d:DataW Unit} (h:laidMet P l W) (hi:l[i]? =some (n,d)):
  ∃(g t:Nat) (cs:Array Value) (fuel:Nat) (p:List MemPlace),P.globalNamed n=some g∧(P.globals[g]?).map (·.type)=some t∧(∀i,W.cell? ⟨g,i,none⟩=cs[i]?)∧(∃t fz,W.heap[g]? =some (.cells cs t fz))∧DataW.trod (fun _ =>()) P W 0 (fun _ =>true) false fuel t cs.toList=some (d,p):=by
 obtain⟨ps,h,_⟩:=h;exact la_ i h hi
theorem P_.calls_trueG {P:Program} {G:Nat→Option AV} {f:Nat} {args:List AV} (h:P_ P G f args (.bool true)) {w:World} {F:Nat→Prop} {vs:Array Value} (hg:Good w F G) (ha:A10 w F args vs):
  Calls P f vs w fun e w'=>e= .returned (.bool true)∧Below w.heap.size w w':=by
 refine (h w F vs hg ha).mono ?_;rintro e w' ⟨v,F',rfl,_,_,_,hr,hb⟩;cases hr;exact⟨rfl,hb⟩
abbrev ti_:Nat:=3
abbrev tb_:Nat:=4
abbrev ts_:Nat:=9
abbrev taQ_:Nat:=30
abbrev tS10:Nat:=35
abbrev taD_:Nat:=43
abbrev taS_:Nat:=46
abbrev taV_:Nat:=48
abbrev taA_:Nat:=50
abbrev taF_:Nat:=52
abbrev taN_:Nat:=54
abbrev taT_:Nat:=57
abbrev ta15:Nat:=59
abbrev taI_:Nat:=61
abbrev ta14:Nat:=69
abbrev tS_:Nat:=72
abbrev tfaIb_:Nat:=75
abbrev ta12:Nat:=78
abbrev tf12:Nat:=79
abbrev ta11:Nat:=83
abbrev ta10:Nat:=87
abbrev tf11:Nat:=88
abbrev ta34:Nat:=92
abbrev ttr_:Nat:=96
abbrev ta19:Nat:=104
abbrev ta17:Nat:=111
abbrev ta21:Nat:=116
abbrev ta13:Nat:=118
abbrev ta16:Nat:=122
abbrev tfaTb_:Nat:=129
abbrev ta18:Nat:=132
abbrev tPc_:Nat:=138
abbrev tcc_:Nat:=142
abbrev tP10:Nat:=143
abbrev tPm_:Nat:=148
abbrev tfib_:Nat:=152
abbrev taE_:Nat:=166
abbrev ta20:Nat:=171
abbrev tf15:Nat:=181
abbrev tf13:Nat:=183
abbrev tf14:Nat:=185
abbrev tfe_:Nat:=201
abbrev tSe_:Nat:=226
abbrev tce_:Nat:=229
abbrev tfiib_:Nat:=230
abbrev tf16:Nat:=257
abbrev tf10:Nat:=261
abbrev tcb_:Nat:=283
abbrev npT_:Nat:=3
abbrev npF_:Nat:=4
abbrev npa_:Nat:=5
abbrev nt17:Nat:=6
abbrev ntS_:Nat:=7
abbrev npR_:Nat:=8
abbrev npS_:Nat:=9
abbrev ntT_:Nat:=10
abbrev np13:Nat:=11
abbrev np17:Nat:=12
abbrev nbT_:Nat:=13
abbrev nt26:Nat:=14
abbrev ntT1_:Nat:=15
abbrev nsCss_:Nat:=16
abbrev nt25:Nat:=17
abbrev ntT2_:Nat:=18
abbrev ntkaT_:Nat:=19
abbrev ntT3_:Nat:=20
abbrev ntT4_:Nat:=21
abbrev nt28:Nat:=22
abbrev ncL_:Nat:=23
abbrev ncR_:Nat:=24
abbrev ntf_:Nat:=25
abbrev npC_:Nat:=26
abbrev np24:Nat:=27
abbrev np23:Nat:=28
abbrev np20:Nat:=29
abbrev nps_:Nat:=30
abbrev np10:Nat:=31
abbrev np21:Nat:=32
abbrev np27:Nat:=33
abbrev npe_:Nat:=34
abbrev npm_:Nat:=35
abbrev npo_:Nat:=36
abbrev nbi_:Nat:=37
abbrev nbeaDaT_:Nat:=38
abbrev nbT1_:Nat:=39
abbrev ns28:Nat:=40
abbrev nbeaQaT_:Nat:=41
abbrev nbT2_:Nat:=42
abbrev nbeaFaT_:Nat:=43
abbrev nbT3_:Nat:=44
abbrev nbeaSaT_:Nat:=45
abbrev nbT4_:Nat:=46
abbrev nbt_:Nat:=47
abbrev nbs_:Nat:=48
abbrev nsIss_:Nat:=49
abbrev nta1_:Nat:=50
abbrev nta11_:Nat:=51
abbrev nsEaTaT_:Nat:=52
abbrev ns27:Nat:=53
abbrev ns10:Nat:=54
abbrev nta2_:Nat:=55
abbrev nsCaTaT_:Nat:=56
abbrev ntR_:Nat:=57
abbrev neA_:Nat:=58
abbrev nccr_:Nat:=59
abbrev ncf_:Nat:=61
abbrev nch_:Nat:=62
abbrev nct_:Nat:=63
abbrev nc23:Nat:=64
abbrev ntrh_:Nat:=65
abbrev nsSii_:Nat:=66
abbrev npN_:Nat:=67
abbrev np28:Nat:=68
abbrev np12:Nat:=69
abbrev np14:Nat:=70
abbrev npK_:Nat:=71
abbrev np25:Nat:=72
abbrev np22:Nat:=73
abbrev np15:Nat:=74
abbrev np19:Nat:=75
abbrev nbeaTaT_:Nat:=76
abbrev nbt1_:Nat:=77
abbrev nbe_:Nat:=78
abbrev nbeaNaE_:Nat:=79
abbrev nbt11_:Nat:=80
abbrev nbn_:Nat:=81
abbrev nb10:Nat:=82
abbrev nbt12_:Nat:=83
abbrev nbeaAaT_:Nat:=84
abbrev nbs1_:Nat:=85
abbrev nba_:Nat:=86
abbrev ns15:Nat:=87
abbrev nsIaTaT_:Nat:=88
abbrev ntn_:Nat:=89
abbrev nt22:Nat:=90
abbrev ntR1_:Nat:=91
abbrev ntai_:Nat:=92
abbrev ntk_:Nat:=93
abbrev nt20:Nat:=94
abbrev ntR2_:Nat:=95
abbrev nt21:Nat:=96
abbrev ntR3_:Nat:=97
abbrev nvR_:Nat:=98
abbrev nt19:Nat:=99
abbrev ntR4_:Nat:=100
abbrev ntaaT_:Nat:=101
abbrev nts_:Nat:=102
abbrev nt18:Nat:=103
abbrev ntt_:Nat:=104
abbrev nccr1_:Nat:=109
abbrev nc18:Nat:=110
abbrev nccd_:Nat:=111
abbrev nccr2_:Nat:=112
abbrev nc16:Nat:=113
abbrev nccq_:Nat:=114
abbrev nccr3_:Nat:=115
abbrev nc17:Nat:=116
abbrev nccf_:Nat:=117
abbrev nccr4_:Nat:=118
abbrev nc15:Nat:=119
abbrev nccs_:Nat:=120
abbrev nccr5_:Nat:=121
abbrev nc11:Nat:=122
abbrev nccr6_:Nat:=123
abbrev nceaT_:Nat:=124
abbrev nccr61_:Nat:=125
abbrev nc12:Nat:=126
abbrev nccr7_:Nat:=127
abbrev nc14:Nat:=128
abbrev ncct_:Nat:=129
abbrev nccr8_:Nat:=130
abbrev nc19:Nat:=131
abbrev ncco_:Nat:=132
abbrev nsC_:Nat:=134
abbrev nsN_:Nat:=135
abbrev ncn_:Nat:=136
abbrev ncaaQ_:Nat:=137
abbrev nch1_:Nat:=138
abbrev nvN_:Nat:=139
abbrev ncaaF_:Nat:=140
abbrev nch2_:Nat:=141
abbrev nce_:Nat:=142
abbrev nct1_:Nat:=143
abbrev nct2_:Nat:=144
abbrev nct21_:Nat:=145
abbrev ns18:Nat:=146
abbrev nct211_:Nat:=147
abbrev nc22:Nat:=148
abbrev ncaaN_:Nat:=149
abbrev nct22_:Nat:=150
abbrev ncS_:Nat:=151
abbrev ncaaT_:Nat:=152
abbrev nsCii_:Nat:=153
abbrev nc21:Nat:=154
abbrev nc24:Nat:=155
abbrev nsIaSaS_:Nat:=156
abbrev ncs11_:Nat:=157
abbrev ncs_:Nat:=158
abbrev ncai_:Nat:=159
abbrev ncs2_:Nat:=160
abbrev ncaaS_:Nat:=161
abbrev ncs3_:Nat:=162
abbrev nsCaSaS_:Nat:=163
abbrev ncs31_:Nat:=164
abbrev nspi_:Nat:=165
abbrev nm10:Nat:=166
abbrev npW_:Nat:=167
abbrev np26:Nat:=168
abbrev npb_:Nat:=169
abbrev np29:Nat:=170
abbrev ns14:Nat:=171
abbrev nt15:Nat:=172
abbrev ns25:Nat:=173
abbrev ntai1_:Nat:=174
abbrev ns12:Nat:=175
abbrev nt13:Nat:=176
abbrev ns13:Nat:=177
abbrev nt14:Nat:=178
abbrev nvI_:Nat:=179
abbrev nvS_:Nat:=180
abbrev nvB_:Nat:=181
abbrev ns11:Nat:=182
abbrev nt12:Nat:=183
abbrev nt10:Nat:=184
abbrev nt24:Nat:=185
abbrev nta_:Nat:=186
abbrev nt11:Nat:=187
abbrev nt27:Nat:=188
abbrev ntt1_:Nat:=189
abbrev nt23:Nat:=190
abbrev ntt2_:Nat:=191
abbrev ncfi_:Nat:=196
abbrev ncfaN_:Nat:=197
abbrev ncca_:Nat:=198
abbrev nc10:Nat:=199
abbrev nsEaAaA_:Nat:=200
abbrev ncce_:Nat:=201
abbrev nc20:Nat:=202
abbrev nccs1_:Nat:=203
abbrev nsIii_:Nat:=204
abbrev nso_:Nat:=206
abbrev nsS_:Nat:=207
abbrev nsW_:Nat:=208
abbrev ncas_:Nat:=209
abbrev ncn1_:Nat:=210
abbrev ncl_:Nat:=211
abbrev nvT_:Nat:=212
abbrev ns26:Nat:=213
abbrev nsCaAaA_:Nat:=214
abbrev nsEaAiaAi_:Nat:=215
abbrev ncs1_:Nat:=216
abbrev nca_:Nat:=217
abbrev nsii_:Nat:=218
abbrev ncLi_:Nat:=224
abbrev nm11:Nat:=227
abbrev nmbL_:Nat:=228
abbrev np18:Nat:=229
abbrev ns22:Nat:=230
abbrev ns29:Nat:=231
abbrev ns17:Nat:=232
abbrev ns21:Nat:=233
abbrev ns16:Nat:=234
abbrev ns20:Nat:=235
abbrev nt16:Nat:=236
abbrev ntl_:Nat:=237
abbrev ns19:Nat:=238
abbrev ntaaT1_:Nat:=239
abbrev ncck_:Nat:=240
abbrev nccn_:Nat:=241
abbrev nc13:Nat:=242
abbrev nsF_:Nat:=243
abbrev nso1_:Nat:=244
abbrev nsS1_:Nat:=245
abbrev nsI_:Nat:=246
abbrev nvw_:Nat:=247
abbrev nsIaAaA_:Nat:=248
abbrev ncii_:Nat:=254
abbrev npO_:Nat:=255
abbrev ns24:Nat:=256
abbrev ns23:Nat:=257
abbrev nsIaDaD_:Nat:=258
abbrev nsF1_:Nat:=259
abbrev nsi_:Nat:=260
abbrev npt_:Nat:=262
abbrev np16:Nat:=263
abbrev npL_:Nat:=264
abbrev npA_:Nat:=265
abbrev npn_:Nat:=266
abbrev np11:Nat:=267
abbrev npM_:Nat:=268
abbrev npD_:Nat:=269
abbrev npB_:Nat:=270
theorem pcR (f:Nat) (A:AFun) {fn:Func} (hf:Tryz.prog.funcs[f]? =some fn) (hc:chkF Tryz.prog fn A=true:=by kernel_rfl):∀⦃G:Nat→Option AV⦄ ⦃args:List AV⦄ ⦃r:AV⦄,(∀Φ:St→Prop,(∀st,H12 A r st→Φ st)→run Tryz.prog G Φ A.body [] ⟨A.N,a13 0 args,[]⟩)→(hk:args.length=A.k:=by rfl)→P_ Tryz.prog G f args r:=fun _ _ _ h hk=>P_.of_runs hf hc hk (Runs.of h)
theorem hcR (f:Nat) (A:AFun) {fn:Func} (hf:Tryz.prog.funcs[f]? =some fn) (hc:chkF Tryz.prog fn A=true:=by kernel_rfl):∀⦃G:Nat→Option AV⦄ ⦃args:List AV⦄ ⦃r:AV⦄ ⦃H H':List (Nat×Box)⦄,(∀Φ:St→Prop,(∀st,H10 A r H' st→Φ st)→run Tryz.prog G Φ A.body [] ⟨A.N,a13 0 args,H⟩)→(hk:args.length=A.k:=by rfl)→(hh:h19 A.N H=true:=by rfl)→H_ Tryz.prog G f args H r H':=fun _ _ _ _ _ h hk hh=>H_.of_runs hf hc hk hh (R_.of h)
abbrev PQ (G:Nat→Option AV):=P_ Tryz.prog G
abbrev HQ (G:Nat→Option AV):=H_ Tryz.prog G
abbrev NQ (G:Nat→Option AV):=P10 Tryz.prog G
abbrev op (d:Nat) (x:AOp):AO:=⟨some d,x,none⟩
abbrev oG (d:Nat) (x:AOp) (t:Nat) (b:Bool):AO:=⟨some d,x,some (t,b)⟩
abbrev oM (d x:Nat):AO:=⟨some d,.mov (.t x),none⟩
abbrev oN (d p n:Nat):AO:=⟨some d,.loadN (.t p) n,none⟩
abbrev oL (d p:Nat):AO:=⟨some d,.load (.t p),none⟩
abbrev oF (d p n:Nat):AO:=⟨some d,.faddr (.t p) n,none⟩
abbrev oI (d z x i:Nat):AO:=⟨some d,.iaddr z (.t x) (.t i),none⟩
abbrev oB (d:Nat) (o:BinOp) (x y:Nat):AO:=⟨some d,.bin o (.t x) (.t y),none⟩
abbrev oK (d:Nat) (o:BinOp) (x:Nat) (k:Int):AO:=⟨some d,.bin o (.t x) (.k (.int .i64 k)),none⟩
abbrev oE (d x i:Nat):AO:=⟨some d,.ext (.t x) i,none⟩
abbrev oZ (d x:Nat):AO:=⟨some d,.len false (.t x),none⟩
abbrev oA (d x y:Nat):AO:=⟨some d,.pick (.t x) (.t y) (.k (.bool false)),none⟩
abbrev oO (d x y:Nat):AO:=⟨some d,.pick (.t x) (.k (.bool true)) (.t y),none⟩
abbrev oU (d x:Nat):AO:=⟨some d,.un .not (.t x),none⟩
abbrev oV (d:Nat) (b:Bool):AO:=⟨some d,.mov (.k (.bool b)),none⟩
abbrev oC (d:Nat) (k:Int):AO:=⟨some d,.mov (.k (.int .i64 k)),none⟩
abbrev qM (d x t:Nat) (b:Bool):AO:=⟨some d,.mov (.t x),some (t,b)⟩
abbrev qL (d p t:Nat) (b:Bool):AO:=⟨some d,.load (.t p),some (t,b)⟩
abbrev qN (d p n t:Nat) (b:Bool):AO:=⟨some d,.loadN (.t p) n,some (t,b)⟩
abbrev qF (d p n t:Nat) (b:Bool):AO:=⟨some d,.faddr (.t p) n,some (t,b)⟩
abbrev qI (d z x i t:Nat) (b:Bool):AO:=⟨some d,.iaddr z (.t x) (.t i),some (t,b)⟩
abbrev qB (d:Nat) (o:BinOp) (x y t:Nat) (b:Bool):AO:=⟨some d,.bin o (.t x) (.t y),some (t,b)⟩
abbrev qK (d:Nat) (o:BinOp) (x:Nat) (k:Int) (t:Nat) (b:Bool):AO:=⟨some d,.bin o (.t x) (.k (.int .i64 k)),some (t,b)⟩
abbrev qA (d x y t:Nat) (b:Bool):AO:=⟨some d,.pick (.t x) (.t y) (.k (.bool false)),some (t,b)⟩
abbrev qO (d x y t:Nat) (b:Bool):AO:=⟨some d,.pick (.t x) (.k (.bool true)) (.t y),some (t,b)⟩
