/- Lemmas. -/
import Derived.Test.YtkgcnoghjibiaaaGreatDoorYAbRun
import Derived.ProofKit
import Derived.OpenShut
import Derived.Test.YtkgcnoghjibiaaaGreatDoorProg
set_option linter.unusedSimpArgs false
namespace Go.Proofs.YtkgcnoghjibiaaaGreatDoor.Ab
open Go Go.RowKit Go.ChangeShapes
variable {H:Type} {enc:TypeId×Value->H} {P:Program}
theorem post_of_below {f:Func} {s:ChangeSpec} {apart fresh handsOn a13:Bool} {W W':World} {args:Array Value} {v:Value} {ds gs:List (DataW H)} {before pa pv:List MemPlace}
  (hW:DataW.Whole enc P f.params.toList s.vars apart W args.toList ds gs before)
  (hres:∀(b:Nat) (sp:Nat->Bool) (hd:Bool),DataW.TrodAll enc P W' b sp hd f.resultTypes.toList (v.resultList f.resultTypes.size) (s.fn H (ds++gs)).results [])
  (hargs:∀sp:Nat->Bool,(∀p∈before,sp p.block=true)->DataW.TrodAll enc P W' 0 sp true f.params.toList args.toList (s.fn H (ds++gs)).args pa)
  (hvars:∀sp:Nat->Bool,(∀p∈before,sp p.block=true)->DataW.TrodVars enc P W' sp s.vars (s.fn H (ds++gs)).vars pv)
  (hps:before=pa++pv) (hb:Below W.heap.size W W')
  (hok:∀(j:Nat) (t:TypeId) (r:Value),f.resultTypes[j]?=some t->(v.resultList f.resultTypes.size)[j]?=some r->Value.okWide P W' .any 0 t r):
  s.post enc P f apart fresh handsOn a13 W args v W':=by
 have hlt:=λp hp=>hW.lt p hp;have hold:∀p∈before,(λb=>decide (b<W.heap.size)) p.block=true:=λp hp=>by simpa using hlt p hp
 have hw:=hW;obtain⟨_,_,_,_,_,hz,hn⟩:=hw;subst hps;refine⟨ds,gs,pa++pv,[],pa,pv,hW,hres _ _ _,hargs _ hold,hvars _ hold,hb.frame _,λ_ =>⟨hok,_,_,([]++pa)++pv,⟨[]++pa,pv,trodAll_append (hargs _ λ_ _ =>rfl) (hres _ _ _),hvars _ λ_ _ =>rfl,rfl,λb off hp=>?_,λha=>by simpa using hn ha⟩,λp hp _ =>by simpa using hp⟩⟩;have hp':MemPlace.cell b off∈pa++pv:=by simpa using hp
 have:=hlt _ hp';have hf:=hb.frozen (p:=⟨b,off,none⟩) this;exact hf.trans (hz b off hp')
theorem an11 {w:World} {F:Nat->Prop}:A10 w F [] #[]:=⟨rfl,λj c u h=>by simp at h⟩
theorem ac14 {w:World} {F:Nat->Prop} {c:AV} {u:Value} {cs:List AV} {us:List Value} (h:Rd w F n10 c u) (hs:A10 w F cs us.toArray):A10 w F (c::cs) (u::us).toArray:=by
 refine⟨by have:=hs.1;simp at this;simp [this],λj d x hd hx=>?_⟩
 match j with
 | 0=>simp at hd hx;subst hd;subst hx;exact h
 | j+1=>exact hs.2 j d x (by simpa using hd) (by simpa using hx)
open Go.WideShapes
abbrev oldF (w:World):Nat->Prop:=λb=>b<w.heap.size
def RdT (P:Program) (t sz:Nat) (Q:List AV->Prop):Prop:=
 P.cellsOf t=sz∧∀(H:Type) (enc:TypeId×Value->H) (w:World) (sp:Nat->Bool) (fuel:Nat) (cs:List Value) (x:DataW H×List MemPlace),DataW.trod enc P w 0 sp true fuel t cs=some x->
  ∃asx,Q asx∧asx.length=sz∧cs.length=sz∧∀(j:Nat) a,asx[j]?=some a->∃c,cs[j]?=some c∧c.oneCell'=true∧Rd w (oldF w) n10 a c
def RdFs (P:Program) (l:List Field) (off fin:Nat) (Q:List AV->Prop):Prop:=
 ∀(H:Type) (enc:TypeId×Value->H) (w:World) (sp:Nat->Bool) (n:Nat) (cs:List Value) (xs:List (DataW H×List MemPlace)),
  (∀(i:Nat) (f:Field),l[i]?=some f->DataW.trod enc P w 0 sp true n f.type ((cs.drop f.offset).take (P.cellsOf f.type))=xs[i]?)->xs.length=l.length->
  ∃asx,Q asx∧off+asx.length=fin∧∀(j:Nat) a,asx[j]?=some a->∃c,cs[off+j]?=some c∧c.oneCell'=true∧Rd w (oldF w) n10 a c
section
variable {P:Program}
theorem RdT.mono {t sz:Nat} {Q Q':List AV->Prop} (h:RdT P t sz Q) (hq:∀asx,Q asx->Q' asx):RdT P t sz Q':=
 ⟨h.1,λH enc w sp fuel cs x hx=>let ⟨asx,h1,h2⟩:=h.2 H enc w sp fuel cs x hx;⟨asx,hq _ h1,h2⟩⟩
theorem ro10 {a:AV} {c:Value} {w:World} (h1:c.oneCell'=true) (h:Rd w (oldF w) n10 a c):∀(j:Nat) b,[a][j]?=some b->∃d,[c][j]?=some d∧d.oneCell'=true∧Rd w (oldF w) n10 b d:=by
 intro j b hb
 match j,hb with
 | 0,hb=>simp at hb;subst hb;exact⟨c,rfl,h1,h⟩
 | j+1,hb=>simp at hb
theorem ri_ {t:Nat} {k:IntKind} (ht:P.underlying t=some (.int k)) (hs:P.cellsOf t=1):RdT P t 1 λasx=>∃n,asx=[.int k n]∧(Lit.int k n).wf=true:=
 ⟨hs,λH enc w sp fuel cs x hx=>by obtain⟨n,rfl,_,hw⟩:=DataW.trod_int ht hx;exact⟨_,⟨n,rfl,hw⟩,rfl,rfl,ro10 rfl (.int _ _ _)⟩⟩
theorem rb_ {t:Nat} (ht:P.underlying t=some .bool) (hs:P.cellsOf t=1):RdT P t 1 λasx=>∃b,asx=[.bool b]:=
 ⟨hs,λH enc w sp fuel cs x hx=>by obtain⟨b,rfl,_⟩:=DataW.trod_bool ht hx;exact⟨_,⟨b,rfl⟩,rfl,rfl,ro10 rfl (.bool _ _)⟩⟩
theorem rs23 {t:Nat} (ht:P.underlying t=some .string) (hs:P.cellsOf t=1):RdT P t 1 λasx=>∃s:List UInt8,asx=[.str s]∧s.length<=maxLen:=
 ⟨hs,λH enc w sp fuel cs x hx=>by
  obtain⟨s,rfl,_,hl⟩:=DataW.trod_string ht hx;have e:s=⟨s.data.toList.toArray⟩:=by apply ByteArray.ext;simp
  have e2:s.data.toList.length=s.size:=Array.length_toList;refine⟨[.str s.data.toList],⟨s.data.toList,rfl,by rw[e2];exact hl⟩,rfl,rfl,ro10 rfl ?_⟩;have:=Rd.str (w:=w) (F:=oldF w) n10 s.data.toList;rw[<-e] at this;exact this⟩
theorem rn_ (off:Nat):RdFs P [] off off λasx=>asx=[]:=λ_ _ _ _ _ _ _ _ _ =>⟨[],rfl,rfl,λj a h=>by simp at h⟩
theorem rc_ {f:Field} {l:List Field} {off sz mid fin:Nat} {Q1 Q2:List AV->Prop} (h1:RdT P f.type sz Q1) (ho:f.offset=off) (hm:off+sz=mid) (h2:RdFs P l mid fin Q2):RdFs P (f::l) off fin λasx=>∃a b,asx=a++b∧Q1 a∧Q2 b:=by
 intro H enc w sp n cs xs hx hl
 match xs,hl with
 | x::xs,hl=>
  subst ho hm;have hf:=hx 0 f rfl;simp only[yK,h1.1] at hf;obtain⟨a,q1,l1,l2,r1⟩:=h1.2 H enc w sp n _ x hf;obtain⟨b,q2,e2,r2⟩:=h2 H enc w sp n cs xs (λi g hg=>by simpa using hx (i+1) g (by simpa using hg)) (by simpa using hl);refine⟨a++b,⟨a,b,rfl,q1,q2⟩,by simp;omega,λj v hv=>?_⟩;rw[wE] at hv;split at hv
  .rename_i hj;obtain⟨c,hc,h3,h4⟩:=r1 j v hv;refine⟨c,?_,h3,h4⟩;rw[yN,zY (by omega),xX] at hc;exact hc
  .rename_i hj;obtain⟨c,hc,h3,h4⟩:=r2 _ v hv;refine⟨c,?_,h3,h4⟩;rw[<-hc];congr 1;omega
theorem rs_ {t sz:Nat} {fs:Array Field} {Q:List AV->Prop} (ht:P.underlying t=some (.struct fs)) (hs:P.cellsOf t=sz) (h:RdFs P fs.toList 0 sz Q):RdT P t sz Q:=
 ⟨hs,λH enc w sp fuel cs x hx=>by obtain⟨xs,n,_,_,hl,hxl,hxs⟩:=DataW.trod_struct ht hx;obtain⟨asx,q,e,r⟩:=h H enc w sp n cs xs (λi f hf=>hxs i f (by simpa using hf)) (by simpa using hxl);refine⟨asx,q,by omega,by rw[hl,hs],λj a ha=>?_⟩;obtain⟨c,hc,h3⟩:=r j a ha;exact⟨c,by simpa using hc,h3⟩⟩
def mkE (agg:Bool) (bs:List AV):AV:=if agg then .agg bs else bs.headD .top
theorem rs17 {t e sz:Nat} {Q:List AV->Prop} (agg:Bool) (ht:P.underlying t=some (.slice e)) (hs:P.cellsOf t=1) (h:RdT P e sz Q) (h0:0<sz) (hone:agg=false->∀bs,Q bs->∃b,bs=[b]∧b.cells=[b]):
  RdT P t 1 λasx=>∃es:List AV,asx=[.seq sz es]∧es.length<=maxLen∧∀x∈es,∃bs,Q bs∧x=mkE agg bs:=by
 refine⟨hs,λH enc w sp fuel cs x hx=>?_⟩;rcases DataW.trod_slice ht hx with ⟨rfl,_⟩ | ⟨a,len,cap,elems,rest,n,_,rfl,_,_,hlc,hcm,hel,hat,_⟩
 .exact⟨_,⟨[],rfl,by simp,by simp⟩,rfl,rfl,ro10 rfl (.seq0 _ _ _ _)⟩
 .by_cases hl0:len=0
  .subst hl0;exact⟨_,⟨[],rfl,by simp,by simp⟩,rfl,rfl,ro10 rfl (.seq0 _ _ _ _)⟩
  rw[h.1] at hat;have each:∀i,i<len->∃cs asx,w.cells? 0 (a.add (i*sz)) sz=some cs∧Q asx∧asx.length=sz∧cs.length=sz∧∀(j:Nat) b,asx[j]?=some b->∃c,cs[j]?=some c∧c.oneCell'=true∧Rd w (oldF w) n10 b c:=λi hi=>by have h1:=hat i hi;rw[zU (by omega)] at h1;obtain⟨cs,h2,h3⟩:=Option.bind_eq_some_iff.1 h1;obtain⟨asx,h4,h5,h6,h7⟩:=h.2 H enc w sp n cs _ h3;exact⟨cs,asx,h2,h4,h5,h6,h7⟩
  -- the address
  obtain⟨cs0,as0,hc0,_,hl0',hl0'',_⟩:=each 0 (by omega);have hcell0:=(World.cells?_some hc0).2.2 0 h0;have hspot:a.spot=none∧a.block<w.heap.size:=by
   rw[zU (by omega)] at hcell0;simp only[Nat.zero_mul,Addr.add,xW] at hcell0;unfold World.cell? at hcell0;split at hcell0
   .rename_i c _ _ hb;split at hcell0
    .cases hcell0
    .rename_i hsp;exact⟨by simpa using hsp,(yC.1 hb).1⟩
   .cases hcell0
  obtain⟨g,o,s⟩:=a;simp only at hspot;obtain⟨rfl,hg⟩:=hspot;let asx:Nat->List AV:=λi=>if hi:i<len then (each i hi).choose_spec.choose else [];let es:List AV:=(List.range len).map λi=>mkE agg (asx i);have has:∀i (hi:i<len),∃cs,w.cells? 0 ((⟨g,o,none⟩:Addr).add (i*sz)) sz=some cs∧Q (asx i)∧(asx i).length=sz∧cs.length=sz∧∀(j:Nat) b,(asx i)[j]?=some b->∃c,cs[j]?=some c∧c.oneCell'=true∧Rd w (oldF w) n10 b c:=λi hi=>by have:=(each i hi).choose_spec.choose_spec;simp only[asx,hi,dif_pos];exact⟨_,this⟩
  have hec:∀i,i<len->(mkE agg (asx i)).cells=asx i:=λi hi=>by
   obtain⟨cs,_,hq,_⟩:=has i hi;cases hagg:agg with
   | true=>rfl
   | false=>
    obtain⟨b,e1,e2⟩:=hone hagg _ hq;simp only[mkE,zF,yI,e1,List.headD_cons];exact e2
  have hel':∀i x,es[i]?=some x->i<len∧x=mkE agg (asx i):=λi x hx=>by
   have hi:i<len:=by have:=(zX.1 hx).1;simpa [es] using this
   simp only[es,zS,xR hi,yF,zZ] at hx;exact⟨hi,hx.symm⟩
  have cellAt:∀i (hi:i<len) j,j<sz->∃c,w.cell? ⟨g,o+(i*sz+j),none⟩=some c∧c.oneCell'=true∧∀b,(asx i)[j]?=some b->Rd w (oldF w) n10 b c:=λi hi j hj=>by
   obtain⟨cs,h1,_,h3,h4,h5⟩:=has i hi;obtain⟨c,hc,hc1,hr⟩:=h5 j _ (zU (by rw[h3];exact hj));refine⟨c,?_,hc1,λb hb=>?_⟩
   .have:=(World.cells?_some h1).2.2 j hj;rw[hc,aa13,aa13] at this;rw[<-this];congr 2;omega
   .rw[zU (by rw[h3];exact hj)] at hb;cases hb;exact hr
  have hp:∀p,p<len*sz->p / sz<len∧p % sz<sz∧p / sz*sz+p % sz=p:=λp hp=>⟨Nat.div_lt_of_lt_mul (by rw[uV];exact hp),Nat.mod_lt _ h0,by rw[uV];exact tO _ _⟩;have hlen:es.length=len:=by simp [es]
  have key:=Rd.seq (w:=w) (F:=oldF w) n10 sz es g o cap (λp=>(w.cell? ⟨g,o+p,none⟩).getD Go.undef) h0 hg (by rw[hlen];exact hlc) hcm
   (λx hx=>by obtain⟨i,hi⟩:=zM hx;obtain⟨hi',rfl⟩:=hel' i x hi;rw[hec i hi'];obtain⟨_,_,_,h3,_⟩:=has i hi';exact h3)
   (λp hp'=>by rw[hlen] at hp';obtain⟨h1,h2,h3⟩:=hp p hp';obtain⟨c,hc,_⟩:=cellAt _ h1 _ h2;rw[h3] at hc;rw[hc];rfl)
   (λp hp'=>by rw[hlen] at hp';obtain⟨h1,h2,h3⟩:=hp p hp';obtain⟨c,hc,hc1,_⟩:=cellAt _ h1 _ h2;rw[h3] at hc;simp only[hc,xK];exact hc1)
   (λi x j b hx hb=>by
    obtain⟨hi',rfl⟩:=hel' i x hx;rw[hec i hi'] at hb;have hj:j<sz:=by obtain⟨_,_,_,h3,_⟩:=has i hi';rw[<-h3];exact (zX.1 hb).1
    obtain⟨c,hc,_,hr⟩:=cellAt i hi' j hj;simp only[hc,xK];exact hr b hb)
  rw[hlen] at key;refine⟨[.seq sz es],⟨es,rfl,by rw[hlen];omega,λx hx=>?_⟩,rfl,rfl,ro10 rfl key⟩;obtain⟨i,hi⟩:=zM hx;obtain⟨hi',rfl⟩:=hel' i x hi;obtain⟨_,_,hq,_⟩:=has i hi';exact⟨_,hq,rfl⟩
theorem lo13 {α:Type} {f:α->AV}:∀{es:List AV},(∀x∈es,∃a,x=f a)->∃l:List α,es=l.map f
 | [],_ =>⟨[],rfl⟩
 | x::es,h=>by obtain⟨a,rfl⟩:=h x (by simp);obtain⟨l,rfl⟩:=lo13 (λy hy=>h y (zR _ hy));exact⟨a::l,rfl⟩
theorem lo12 {α:Type} {f:α->AV} {Q:α->Prop}:∀{es:List AV},(∀x∈es,∃a,x=f a∧Q a)->∃l:List α,es=l.map f∧∀a∈l,Q a
 | [],_ =>⟨[],rfl,by simp⟩
 | x::es,h=>by obtain⟨a,rfl,hq⟩:=h x (by simp);obtain⟨l,rfl,hl⟩:=lo12 (λy hy=>h y (zR _ hy));exact⟨a::l,rfl,λb hb=>(yV.1 hb).elim (λe=>e ▸ hq) (hl b)⟩
theorem ol11 {H:Type} {enc:TypeId×Value->H} {t:Nat} {Q:List AV->Prop} {W:World} {sp:Nat->Bool} {v:Value} {d:DataW H} {ps:List MemPlace} (h:RdT P t 1 Q) (hv:v.cells=#[v]) (hd:DataW.Trod enc P W 0 sp true t v d ps):∃a,Q [a]∧Rd W (oldF W) n10 a v:=by
 obtain⟨fuel,hf⟩:=hd;rw[hv] at hf;obtain⟨asx,q,l1,l2,r⟩:=h.2 _ _ _ _ _ _ _ hf
 match asx,l1 with
 | [a],_ =>
  obtain⟨c,hc,_,hr⟩:=r 0 a rfl;simp at hc;subst hc;exact⟨a,q,hr⟩
theorem oa10 {H:Type} {enc:TypeId×Value->H} {t sz:Nat} {Q:List AV->Prop} {W:World} {sp:Nat->Bool} {v:Value} {d:DataW H} {ps:List MemPlace} {us:Array Value} (h:RdT P t sz Q) (hv:v= .agg us) (hd:DataW.Trod enc P W 0 sp true t v d ps):∃asx,Q asx∧Rd W (oldF W) n10 (.agg asx) v:=by
 subst hv;obtain⟨fuel,hf⟩:=hd;obtain⟨asx,q,l1,l2,r⟩:=h.2 _ _ _ _ _ _ _ hf;refine⟨asx,q,?_⟩;have key:=Rd.agg (w:=W) (F:=oldF W) n10 asx us.toList (by rw[l1,<-l2];rfl) λj a c ha hc=>by obtain⟨c',hc',_,hr⟩:=r j a ha;have e:(Value.agg us).cells.toList=us.toList:=rfl;rw[e,hc] at hc';cases hc';exact hr
 simpa using key
theorem as23 {H:Type} {enc:TypeId×Value->H} (hl:laidOutB P=true) {W W':World} (hb:Below W.heap.size W W'):∀{ts:List TypeId} {vs:List Value} {ds:List (DataW H)} {ps:List MemPlace},
  ts.all (λt=>P.readableRec t&&decide (t<P.types.size))=true->DataW.TrodAll enc P W 0 (λ_ =>true) true ts vs ds ps->(∀p∈ps,p.block<W.heap.size)->
  ∀sp:Nat->Bool,(∀p∈ps,sp p.block=true)->DataW.TrodAll enc P W' 0 sp true ts vs ds ps
 | [],[],[],_,_,h,_,_,_ =>h
 | [],[],_ ::_,_,_,h,_,_,_ =>h.elim
 | [],_ ::_,_,_,_,h,_,_,_ =>h.elim
 | _ ::_,[],_,_,_,h,_,_,_ =>h.elim
 | _ ::_,_ ::_,[],_,_,h,_,_,_ =>h.elim
 | t::ts,v::vs,d::ds,ps,ht,h,hlt,sp,hs=>by obtain⟨p,q,h1,h2,rfl⟩:=h;simp only[uL,zJ,zW] at ht;refine⟨p,q,WideElems.Trod_stays hl ht.1.1 ht.1.2 h1 (λx hx=>hb.same (hlt x (by simp [hx]))) (λx hx=>hs x (by simp [hx])),?_,rfl⟩;exact as23 hl hb ht.2 h2 (λx hx=>hlt x (by simp [hx])) sp λx hx=>hs x (by simp [hx])
end
abbrev iv (n:Int):AV:=.int .i64 n
abbrev Str:=List UInt8
theorem fe_ {a b:AV} (h:a=b):Fit a b:=h ▸ .refl _
theorem fitB {a b:Bool} (h:a=b):Fit (.bool a) (.bool b):=h ▸ .refl _
theorem fitI {a b:Int} (h:a=b):Fit (iv a) (iv b):=h ▸ .refl _
structure OkC (caps:List AV):Prop where
 purge:∀i,purge.go i caps=caps
 viewK:∀rec H,viewK.go rec H caps=some caps
 view:∀H,view.go H caps=some caps
 thaw:∀i b,thaw.go i b caps=caps
 viewBs:∀H,viewBs H caps=some caps
 viewAll:∀H,viewAll H caps=some caps
theorem on_:OkC []:=⟨λ_ =>rfl,λ_ _ =>rfl,λ_ =>rfl,λ_ _ =>rfl,λ_ =>rfl,λ_ =>rfl⟩
theorem am_ {α:Type} {e:α->AV} {H:List (Nat×Box)} {sz:Nat} {l:List α} {i:Nat} {x:α} (h:l[i]?=some x):a16 H sz (.seq sz (l.map e)) (.int .i64 (i:Int))=some (.eptr (e x) 0):=
 as19 _ (by omega) (by simp [h])
theorem ws_ {i n:Nat} (h:i<n) (hn:n<9223372036854775808:=by omega):IntKind.i64.wrap ((i:Int)+1)=((i+1:Nat):Int):=by rw[wi_ (by omega) (by omega)];omega
theorem as10 {α:Type} {l:List α} {i:Nat} (h:i<l.length):∃x,l[i]?=some x∧x∈l:=⟨l[i],zU h,tQ h⟩
def idxF {α:Type} (p:α->Bool) (l:List α):Int:=match l.findIdx? p with | some i=>(i:Int) | none=>-1
theorem ia_ {α:Type} {p:α->Bool} {l:List α} {i:Nat} {x:α} (hx:l[i]?=some x) (hp:p x=true) (hno:∀j y,j<i->l[j]?=some y->p y=false):idxF p l=i:=by
 have:l.findIdx? p=some i:=by rw[xA];obtain⟨hlt,rfl⟩:=zX.1 hx;exact⟨hlt,hp,λj hj=>by simp [hno j _ hj (zU (by omega))]⟩
 simp [idxF,this]
theorem in10 {α:Type} {p:α->Bool} {l:List α} (hno:∀j y,j<l.length->l[j]?=some y->p y=false):idxF p l= -1:=by
 have:l.findIdx? p=none:=by rw[tZ];intro x hx;obtain⟨j,hj⟩:=zM hx;exact hno j x (zX.1 hj).1 hj
 simp [idxF,this]
theorem ia10 {α:Type} (p:α->Bool) (l:List α):decide (0<=idxF p l)=l.any p:=by
 unfold idxF;cases h:l.findIdx? p with
 | none=>
  rw[tZ] at h;rw[show l.any p=false by rw[wU];intro x hx;simp [h x hx]];rfl
 | some i=>
  rw[xA] at h;obtain⟨hlt,hp,_⟩:=h;rw[show l.any p=true by rw[yE];exact⟨l[i],tQ hlt,hp⟩];simp
def allI {α:Type} (p:Nat->α->Bool) (l:List α):Bool:=l.zipIdx.all λx=>p x.2 x.1
theorem at10 {α:Type} {p:Nat->α->Bool} {l:List α}:allI p l=true↔∀i x,l[i]?=some x->p i x=true:=by
 simp only[allI,xQ,Prod.forall];constructor
 .intro h i x hx;exact h x i (by rw[uH];exact hx)
 .intro h x i hx;rw[uH] at hx;exact h i x hx
theorem af_ {α:Type} {p:Nat->α->Bool} {l:List α} {i:Nat} {x:α} (hx:l[i]?=some x) (hp:p i x=false):allI p l=false:=by
 cases h:allI p l with
 | false=>rfl
 | true=>rw[at10.1 h i x hx] at hp;cases hp
theorem ac20 {α:Type} (p:α->Bool) (l:List α):allI (λ_ =>p) l=l.all p:=by rw[yY,at10,xQ];exact⟨λh x hx=>let ⟨i,hi⟩:=zM hx;h i x hi,λh i x hx=>h x (zG hx)⟩
theorem as11 {α:Type} {p:Nat->α->Bool} {l:List α} {i:Nat} {x:α} (hx:l[i]?=some x) (hp:p i x=true) (h:∀j y,j<i->l[j]?=some y->p j y=true):∀j y,j<i+1->l[j]?=some y->p j y=true:=λj y hj hy=>by
 by_cases e:j=i
 .subst e;rw[hx] at hy;cases hy;exact hp
 .exact h j y (by omega) hy
theorem aa11 {α:Type} {p:Nat->α->Bool} {l:List α} {i:Nat} (hi:l.length<=i) (h:∀j y,j<i->l[j]?=some y->p j y=true):allI p l=true:=at10.2 λj y hj=>h j y (by have:=(zX.1 hj).1;omega) hj
theorem al16 {P:Program} {W:World} {t e g:Nat} {zs:List AV} {cs:Array Value} (_h0:0<zs.length) (_hone:∀a∈zs,a.cells=[a]) (_ht:P.underlying t=some (.array zs.length e)) (hc:P.cellsOf t=zs.length)
  (hcell:∀i,W.cell? ⟨g,i,none⟩=cs[i]?) (hw:∃t fz,W.heap[g]?=some (.cells cs t fz)) (hsz:cs.toList.length=P.cellsOf t)
  (each:∀(i:Nat) a,zs[i]?=some a->∃v,cs[i]?=some v∧v.oneCell'=true∧Rd W (oldF W) n10 a v):Rd W (oldF W) n10 (.eptr (.agg zs) 0) (.pointer (some ⟨g,0,none⟩))∧W10 W g (.agg zs):=by
 have hg:g<W.heap.size:=by obtain⟨_,_,h⟩:=hw;exact (yC.1 h).1
 refine⟨?_,?_⟩
 .have key:=Rd.eptr (w:=W) (F:=oldF W) n10 (.agg zs) 0 g 0 (λp=>(cs[p]?).getD Go.undef) hg
   (λp hp=>by
    have hp':p<zs.length:=by simpa [AV.cells] using hp
    obtain⟨v,hv,_⟩:=each p zs[p] (zU hp');rw[yS,hcell,hv];rfl)
   (λp hp=>by
    have hp':p<zs.length:=by simpa [AV.cells] using hp
    obtain⟨v,hv,h1,_⟩:=each p zs[p] (zU hp');rw[hv];exact h1)
   (λj c hj=>by obtain⟨v,hv,_,h2⟩:=each j c (by simpa [AV.cells] using hj);rw[hv];exact h2)
  simpa using key
 .obtain⟨t',fz,h⟩:=hw;exact⟨cs,t',fz,h,by simpa [AV.cells,hc] using hsz⟩
theorem sl14 {H:Type} {enc:TypeId×Value->H} {P:Program} {W:World} {t e g:Nat} {sp:Nat->Bool} {held:Bool} {l:List (List UInt8)} {cs:Array Value} {fuel:Nat} {p:List MemPlace} (hl:0<l.length)
  (ht:P.underlying t=some (.array l.length e)) (he:P.underlying e=some .string) (hc:P.cellsOf e=1) (hct:P.cellsOf t=l.length) (hcell:∀i,W.cell? ⟨g,i,none⟩=cs[i]?) (hw:∃t fz,W.heap[g]?=some (.cells cs t fz))
  (hd:DataW.trod enc P W 0 sp held fuel t cs.toList=some (.agg (l.map λs=>.lit (.string s)),p)):Rd W (oldF W) n10 (.eptr (.agg (l.map AV.str)) 0) (.pointer (some ⟨g,0,none⟩))∧W10 W g (.agg (l.map AV.str)):=by
 obtain⟨xs,m,_,hx,hsz,hn,hel⟩:=DataW.trod_array ht hd;simp only[vG,DataW.agg.injEq] at hx;have each:∀(i:Nat) (s:List UInt8),l[i]?=some s->cs[i]?=some (Value.string ⟨s.toArray⟩):=λi s hs=>by
  have hi:=(zX.1 hs).1;have h1:=hel i hi;rw[hc,Nat.mul_one,zU (by omega)] at h1;obtain⟨b,e1,e2,_⟩:=DataW.trod_string he h1;have h2:(l.map λs=>(DataW.lit (Lit.string s):DataW H))[i]? =(xs.map (·.1))[i]? :=by rw[hx.1]
  rw[zS,zS,hs,zU (by omega),e2] at h2;simp only[yF,zZ,DataW.lit.injEq,Lit.string.injEq] at h2;have h3:(cs.toList.drop i)[0]?=some (.string b):=by have:=tM (·[0]?) e1;simpa [yN] using this
  rw[xX,vZ,vR] at h3;rw[h3,h2]
 refine al16 (by simpa using hl) (λa ha=>?_) (by simpa using ht) (by simpa using hct) hcell hw hsz λi a ha=>?_
 .obtain⟨s,_,rfl⟩:=zI.1 ha;rfl
 .rw[zS] at ha;obtain⟨s,hs,rfl⟩:=zH.1 ha;exact⟨_,each i s hs,rfl,Rd.str _ _⟩
theorem vh_ {P:Program} {w:World} {n:String} {g:Nat} {cs:Array Value} (hg:P.globalNamed n=some g) (h:w.var? P n=some cs):∃t fz,w.heap[g]?=some (.cells cs t fz):=by
 simp only[World.var?,hg,vN] at h;split at h
 .rename_i c t fz hh;cases h;exact⟨t,fz,hh⟩
 .cases h
theorem la_ {P:Program} {W:World}:∀{l:List (String×DataW Unit)} {ps:List MemPlace} (i:Nat) {n:String} {d:DataW Unit},DataW.LaidVars P W l ps->l[i]?=some (n,d)->
  ∃(g t:Nat) (cs:Array Value) (fuel:Nat) (p:List MemPlace),P.globalNamed n=some g∧(P.globals[g]?).map (·.type)=some t∧(∀i,W.cell? ⟨g,i,none⟩=cs[i]?)∧(∃t fz,W.heap[g]?=some (.cells cs t fz))∧DataW.trod (λ_ =>()) P W 0 (λ_ =>true) false fuel t cs.toList=some (d,p)
 | [],_,i,_,_,_,h=>by simp at h
 | (m,e)::r,ps,0,n,d,h,hi=>by simp only[yK,zZ,vG] at hi;obtain⟨rfl,rfl⟩:=hi;obtain⟨g,t,cs,fuel,p,q,hg,ht,hv,hd,_⟩:=h;exact⟨g,t,cs,fuel,p,hg,ht,λi=>World.var?_cell hg hv i,vh_ hg hv,hd⟩
 | (m,e)::r,ps,i+1,n,d,h,hi=>by obtain⟨_,_,_,_,_,q,_,_,_,_,h,_⟩:=h;exact la_ i h (by simpa using hi)
theorem la14 {P:Program} {W:World} {l:List (String×DataW Unit)} (i:Nat) {n:String} {d:DataW Unit} (h:laidMet P l W) (hi:l[i]?=some (n,d)):
  ∃(g t:Nat) (cs:Array Value) (fuel:Nat) (p:List MemPlace),P.globalNamed n=some g∧(P.globals[g]?).map (·.type)=some t∧(∀i,W.cell? ⟨g,i,none⟩=cs[i]?)∧(∃t fz,W.heap[g]?=some (.cells cs t fz))∧DataW.trod (λ_ =>()) P W 0 (λ_ =>true) false fuel t cs.toList=some (d,p):=by
 obtain⟨ps,h,_⟩:=h;exact la_ i h hi
theorem P_.calls_trueG {P:Program} {G:Nat->Option AV} {f:Nat} {args:List AV} (h:P_ P G f args (.bool true)) {w:World} {F:Nat->Prop} {vs:Array Value} (hg:Good w F G) (ha:A10 w F args vs):
  Calls P f vs w λe w'=>e= .returned (.bool true)∧Below w.heap.size w w':=by
 refine (h w F vs hg ha).mono ?_;rintro e w' ⟨v,F',rfl,_,_,_,hr,hb⟩;cases hr;exact⟨rfl,hb⟩
theorem hq_ {A:AFun} {r:AV} {Φ:St->Prop} {st:St} (h:∀st,H12 A r st->Φ st) (k:H12 A r st:=by exact⟨_,_,rfl,rfl,.refl _⟩):Φ st:=h _ k
theorem pcR (f:Nat) (A:AFun) {fn:Func} (hf:Tryz.prog.funcs[f]?=some fn) (hc:chkF Tryz.prog fn A=true:=by kernel_rfl):∀⦃G:Nat->Option AV⦄ ⦃args:List AV⦄ ⦃r:AV⦄,(∀Φ:St->Prop,(∀st,H12 A r st->Φ st)->run Tryz.prog G Φ A.body [] ⟨A.N,a14 0 args,[]⟩)->(hk:args.length=A.k:=by rfl)->P_ Tryz.prog G f args r:=λ_ _ _ h hk=>P_.of_runs hf hc hk (Runs.of h)
theorem hcR (f:Nat) (A:AFun) {fn:Func} (hf:Tryz.prog.funcs[f]?=some fn) (hc:chkF Tryz.prog fn A=true:=by kernel_rfl):∀⦃G:Nat->Option AV⦄ ⦃args:List AV⦄ ⦃r:AV⦄ ⦃H H':List (Nat×Box)⦄,(∀Φ:St->Prop,(∀st,H10 A r H' st->Φ st)->run Tryz.prog G Φ A.body [] ⟨A.N,a14 0 args,H⟩)->(hk:args.length=A.k:=by rfl)->(hh:h25 A.N H=true:=by rfl)->H_ Tryz.prog G f args H r H':=λ_ _ _ _ _ h hk hh=>H_.of_runs hf hc hk hh (R10.of h)
abbrev PQ (G:Nat->Option AV):=P_ Tryz.prog G
abbrev HQ (G:Nat->Option AV):=H_ Tryz.prog G
abbrev NQ (G:Nat->Option AV):=P10 Tryz.prog G
abbrev sR (o:List AO) (k:List Nat) (r:AC):AC:=.seq (.reg o k) r
abbrev cT (t:Nat) (a b:AC):AC:=.cond (.t t) a b
abbrev x0z:AC:=.exit 0
abbrev x1z:AC:=.exit 1
abbrev x2z:AC:=.exit 2
abbrev oS (p x n:Nat):AO:=⟨none,.store (.t p) (.t x) n,none⟩
abbrev oc (d f:Nat) (l:List Opd):AO:=⟨some d,.call f l,none⟩
abbrev ob__ (d t n x:Nat):AO:=⟨some d,.box t n (.t x),none⟩
abbrev oa (d t n:Nat) (z:AV):AO:=⟨some d,.alloc t n z,none⟩
abbrev on__ (d x:Nat):AO:=⟨some d,.nchk (.t x),none⟩
abbrev oq (d:Nat):AO:=⟨some d,.mov (.k .nili),none⟩
abbrev oy (d x:Nat):AO:=⟨some d,.len true (.t x),none⟩
abbrev op (d:Nat) (x:AOp):AO:=⟨some d,x,none⟩
abbrev oG (d:Nat) (x:AOp) (t:Nat) (b:Bool):AO:=⟨some d,x,some (t,b)⟩
abbrev oM (d x:Nat):AO:=⟨some d,.mov (.t x),none⟩
abbrev oN (d p n:Nat):AO:=⟨some d,.loadN (.t p) n,none⟩
abbrev oL (d p:Nat):AO:=⟨some d,.load (.t p),none⟩
abbrev oF (d p n:Nat):AO:=⟨some d,.faddr (.t p) n,none⟩
abbrev oI (d z x i:Nat):AO:=⟨some d,.iaddr z (.t x) (.t i),none⟩
abbrev oB (d:Nat) (o:BinOp) (x y:Nat):AO:=⟨some d,.bin o (.t x) (.t y),none⟩
abbrev oK (d:Nat) (o:BinOp) (x:Nat) (k:Int):AO:=⟨some d,.bin o (.t x) (.k (.int .i64 k)),none⟩
abbrev oE (d x i:Nat):AO:=⟨some d,.ext (.t x) i,none⟩
abbrev oZ (d x:Nat):AO:=⟨some d,.len false (.t x),none⟩
abbrev oA (d x y:Nat):AO:=⟨some d,.pick (.t x) (.t y) (.k (.bool false)),none⟩
abbrev oO (d x y:Nat):AO:=⟨some d,.pick (.t x) (.k (.bool true)) (.t y),none⟩
abbrev oU (d x:Nat):AO:=⟨some d,.un .not (.t x),none⟩
abbrev oV (d:Nat) (b:Bool):AO:=⟨some d,.mov (.k (.bool b)),none⟩
abbrev oC (d:Nat) (k:Int):AO:=⟨some d,.mov (.k (.int .i64 k)),none⟩
abbrev qM (d x t:Nat) (b:Bool):AO:=⟨some d,.mov (.t x),some (t,b)⟩
abbrev qL (d p t:Nat) (b:Bool):AO:=⟨some d,.load (.t p),some (t,b)⟩
abbrev qN (d p n t:Nat) (b:Bool):AO:=⟨some d,.loadN (.t p) n,some (t,b)⟩
abbrev qF (d p n t:Nat) (b:Bool):AO:=⟨some d,.faddr (.t p) n,some (t,b)⟩
abbrev qI (d z x i t:Nat) (b:Bool):AO:=⟨some d,.iaddr z (.t x) (.t i),some (t,b)⟩
abbrev qB (d:Nat) (o:BinOp) (x y t:Nat) (b:Bool):AO:=⟨some d,.bin o (.t x) (.t y),some (t,b)⟩
abbrev qK (d:Nat) (o:BinOp) (x:Nat) (k:Int) (t:Nat) (b:Bool):AO:=⟨some d,.bin o (.t x) (.k (.int .i64 k)),some (t,b)⟩
abbrev qA (d x y t:Nat) (b:Bool):AO:=⟨some d,.pick (.t x) (.t y) (.k (.bool false)),some (t,b)⟩
abbrev qO (d x y t:Nat) (b:Bool):AO:=⟨some d,.pick (.t x) (.k (.bool true)) (.t y),some (t,b)⟩
