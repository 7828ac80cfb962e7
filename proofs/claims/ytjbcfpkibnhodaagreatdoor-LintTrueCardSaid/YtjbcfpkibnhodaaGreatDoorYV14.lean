/-
  From a row's reading to the contracts, and back. From what a row reads to values without their place. Variables that are laid, as the reading of known variables has them. How an automaton is read. How the law's arguments are read. No claim is proved here.
-/
import Derived.ProofKit
import Derived.OpenShut
import Derived.Test.YtjbcfpkibnhodaaGreatDoorYV12
import Derived.LaidMore
set_option linter.unusedSimpArgs false
set_option maxRecDepth 100000
namespace Go.Proofs.YtjbcfpkibnhodaaGreatDoor.Ab
open Go Go.RowKit Go.ChangeShapes
variable {H:Type} {enc:TypeId×Value→H} {P:Program}
theorem post_of_below {f:Func} {s:ChangeSpec} {apart fresh handsOn a12:Bool} {W W':World} {args:Array Value} {v:Value} {ds gs:List (DataW H)} {before pa pv:List MemPlace}
  (hW:DataW.Whole enc P f.params.toList s.vars apart W args.toList ds gs before)
  (hres:∀(b:Nat) (sp:Nat→Bool) (hd:Bool),DataW.TrodAll enc P W' b sp hd f.resultTypes.toList (v.resultList f.resultTypes.size) (s.fn H (ds++gs)).results [])
  (hargs:∀sp:Nat→Bool,(∀p∈before,sp p.block=true)→DataW.TrodAll enc P W' 0 sp true f.params.toList args.toList (s.fn H (ds++gs)).args pa)
  (hvars:∀sp:Nat→Bool,(∀p∈before,sp p.block=true)→DataW.TrodVars enc P W' sp s.vars (s.fn H (ds++gs)).vars pv)
  (hps:before=pa++pv) (hb:Below W.heap.size W W')
  (hok:∀(j:Nat) (t:TypeId) (r:Value),f.resultTypes[j]? =some t→(v.resultList f.resultTypes.size)[j]? =some r→Value.okWide P W' .any 0 t r):
  s.post enc P f apart fresh handsOn a12 W args v W':=by
 have hlt:=fun p hp=>hW.lt p hp
 have hold:∀p∈before,(fun b=>decide (b<W.heap.size)) p.block=true:=fun p hp=>by simpa using hlt p hp
 have hw:=hW
 obtain⟨_,_,_,_,_,hz,hn⟩:=hw
 subst hps
 refine⟨ds,gs,pa++pv,[],pa,pv,hW,hres _ _ _,hargs _ hold,hvars _ hold,hb.frame _,fun _ =>⟨hok,_,_,([]++pa)++pv,⟨[]++pa,pv,trodAll_append (hargs _ fun _ _ =>rfl) (hres _ _ _),hvars _ fun _ _ =>rfl,rfl,fun b off hp=>?_,fun ha=>by simpa using hn ha⟩,fun p hp _ =>by simpa using hp⟩⟩
 have hp':MemPlace.cell b off∈pa++pv:=by simpa using hp
 have:=hlt _ hp'
 have hf:=hb.frozen (p:=⟨b,off,none⟩) this
 exact hf.trans (hz b off hp')
theorem an_ {w:World} {F:Nat→Prop}:A_ w F [] #[]:=⟨rfl,fun j c u h=>by simp at h⟩
theorem ac12 {w:World} {F:Nat→Prop} {c:AV} {u:Value} {cs:List AV} {us:List Value} (h:Rd w F n10 c u) (hs:A_ w F cs us.toArray):A_ w F (c::cs) (u::us).toArray:=by
 refine⟨by have:=hs.1;simp at this;simp [this],fun j d x hd hx=>?_⟩
 match j with
 | 0=>simp at hd hx;subst hd;subst hx;exact h
 | j+1=>exact hs.2 j d x (by simpa using hd) (by simpa using hx)
end Go.Proofs.YtjbcfpkibnhodaaGreatDoor.Ab
namespace Go.Proofs.YtjbcfpkibnhodaaGreatDoor.Ab
open Go Go.RowKit Go.ChangeShapes Go.WideShapes
abbrev oldF (w:World):Nat→Prop:=fun b=>b<w.heap.size
def RdT (P:Program) (t sz:Nat) (Q:List AV→Prop):Prop:=
 P.cellsOf t=sz∧∀(H:Type) (enc:TypeId×Value→H) (w:World) (sp:Nat→Bool) (fuel:Nat) (cs:List Value) (x:DataW H×List MemPlace),DataW.trod enc P w 0 sp true fuel t cs=some x→
  ∃asx,Q asx∧asx.length=sz∧cs.length=sz∧∀(j:Nat) a,asx[j]? =some a→∃c,cs[j]? =some c∧c.oneCell'=true∧Rd w (oldF w) n10 a c
def RdFs (P:Program) (l:List Field) (off fin:Nat) (Q:List AV→Prop):Prop:=
 ∀(H:Type) (enc:TypeId×Value→H) (w:World) (sp:Nat→Bool) (n:Nat) (cs:List Value) (xs:List (DataW H×List MemPlace)),
  (∀(i:Nat) (f:Field),l[i]? =some f→DataW.trod enc P w 0 sp true n f.type ((cs.drop f.offset).take (P.cellsOf f.type))=xs[i]?)→xs.length=l.length→
  ∃asx,Q asx∧off+asx.length=fin∧∀(j:Nat) a,asx[j]? =some a→∃c,cs[off+j]? =some c∧c.oneCell'=true∧Rd w (oldF w) n10 a c
section
variable {P:Program}
theorem RdT.mono {t sz:Nat} {Q Q':List AV→Prop} (h:RdT P t sz Q) (hq:∀asx,Q asx→Q' asx):RdT P t sz Q':=
 ⟨h.1,fun H enc w sp fuel cs x hx=>let ⟨asx,h1,h2⟩:=h.2 H enc w sp fuel cs x hx;⟨asx,hq _ h1,h2⟩⟩
theorem ro10 {a:AV} {c:Value} {w:World} (h1:c.oneCell'=true) (h:Rd w (oldF w) n10 a c):∀(j:Nat) b,[a][j]? =some b→∃d,[c][j]? =some d∧d.oneCell'=true∧Rd w (oldF w) n10 b d:=by
 intro j b hb
 match j,hb with
 | 0,hb=>simp at hb;subst hb;exact⟨c,rfl,h1,h⟩
 | j+1,hb=>simp at hb
theorem ri10 {t:Nat} {k:IntKind} (ht:P.underlying t=some (.int k)) (hs:P.cellsOf t=1):RdT P t 1 fun asx=>∃n,asx=[.int k n]∧(Lit.int k n).wf=true:=
 ⟨hs,fun H enc w sp fuel cs x hx=>by
  obtain⟨n,rfl,_,hw⟩:=DataW.trod_int ht hx
  exact⟨_,⟨n,rfl,hw⟩,rfl,rfl,ro10 rfl (.int _ _ _)⟩⟩
theorem rb11 {t:Nat} (ht:P.underlying t=some .bool) (hs:P.cellsOf t=1):RdT P t 1 fun asx=>∃b,asx=[.bool b]:=
 ⟨hs,fun H enc w sp fuel cs x hx=>by
  obtain⟨b,rfl,_⟩:=DataW.trod_bool ht hx
  exact⟨_,⟨b,rfl⟩,rfl,rfl,ro10 rfl (.bool _ _)⟩⟩
theorem rs19 {t:Nat} (ht:P.underlying t=some .string) (hs:P.cellsOf t=1):RdT P t 1 fun asx=>∃s:List UInt8,asx=[.str s]∧s.length≤maxLen:=
 ⟨hs,fun H enc w sp fuel cs x hx=>by
  obtain⟨s,rfl,_,hl⟩:=DataW.trod_string ht hx
  have e:s=⟨s.data.toList.toArray⟩:=by apply ByteArray.ext;simp
  have e2:s.data.toList.length=s.size:=Array.length_toList
  refine⟨[.str s.data.toList],⟨s.data.toList,rfl,by rw[e2];exact hl⟩,rfl,rfl,ro10 rfl ?_⟩
  have:=Rd.str (w:=w) (F:=oldF w) n10 s.data.toList
  rw[←e] at this
  exact this⟩
theorem rn_ (off:Nat):RdFs P [] off off fun asx=>asx=[]:=fun _ _ _ _ _ _ _ _ _ =>⟨[],rfl,rfl,fun j a h=>by simp at h⟩
theorem rc_ {f:Field} {l:List Field} {off sz mid fin:Nat} {Q1 Q2:List AV→Prop} (h1:RdT P f.type sz Q1) (ho:f.offset=off) (hm:off+sz=mid) (h2:RdFs P l mid fin Q2):RdFs P (f::l) off fin fun asx=>∃a b,asx=a++b∧Q1 a∧Q2 b:=by
 intro H enc w sp n cs xs hx hl
 match xs,hl with
 | x::xs,hl=>
  subst ho hm
  have hf:=hx 0 f rfl
  simp only[List.getElem?_cons_zero,h1.1] at hf
  obtain⟨a,q1,l1,l2,r1⟩:=h1.2 H enc w sp n _ x hf
  obtain⟨b,q2,e2,r2⟩:=h2 H enc w sp n cs xs (fun i g hg=>by simpa using hx (i+1) g (by simpa using hg)) (by simpa using hl)
  refine⟨a++b,⟨a,b,rfl,q1,q2⟩,by simp;omega,fun j v hv=>?_⟩
  rw[List.getElem?_append] at hv
  split at hv
  ·rename_i hj
   obtain⟨c,hc,h3,h4⟩:=r1 j v hv
   refine⟨c,?_,h3,h4⟩
   rw[List.getElem?_take,if_pos (by omega),List.getElem?_drop] at hc
   exact hc
  ·rename_i hj
   obtain⟨c,hc,h3,h4⟩:=r2 _ v hv
   refine⟨c,?_,h3,h4⟩
   rw[←hc]
   congr 1
   omega
theorem rs_ {t sz:Nat} {fs:Array Field} {Q:List AV→Prop} (ht:P.underlying t=some (.struct fs)) (hs:P.cellsOf t=sz) (h:RdFs P fs.toList 0 sz Q):RdT P t sz Q:=
 ⟨hs,fun H enc w sp fuel cs x hx=>by
  obtain⟨xs,n,_,_,hl,hxl,hxs⟩:=DataW.trod_struct ht hx
  obtain⟨asx,q,e,r⟩:=h H enc w sp n cs xs (fun i f hf=>hxs i f (by simpa using hf)) (by simpa using hxl)
  refine⟨asx,q,by omega,by rw[hl,hs],fun j a ha=>?_⟩
  obtain⟨c,hc,h3⟩:=r j a ha
  exact⟨c,by simpa using hc,h3⟩⟩
def mkE (agg:Bool) (bs:List AV):AV:=if agg then .agg bs else bs.headD .top
theorem rs15 {t e sz:Nat} {Q:List AV→Prop} (agg:Bool) (ht:P.underlying t=some (.slice e)) (hs:P.cellsOf t=1) (h:RdT P e sz Q) (h0:0<sz) (hone:agg=false→∀bs,Q bs→∃b,bs=[b]∧b.cells=[b]):
  RdT P t 1 fun asx=>∃es:List AV,asx=[.seq sz es]∧es.length≤maxLen∧∀x∈es,∃bs,Q bs∧x=mkE agg bs:=by
 refine⟨hs,fun H enc w sp fuel cs x hx=>?_⟩
 rcases DataW.trod_slice ht hx with ⟨rfl,_⟩ | ⟨a,len,cap,elems,rest,n,_,rfl,_,_,hlc,hcm,hel,hat,_⟩
 ·exact⟨_,⟨[],rfl,by simp,by simp⟩,rfl,rfl,ro10 rfl (.seq0 _ _ _ _)⟩
 ·by_cases hl0:len=0
  ·subst hl0
   exact⟨_,⟨[],rfl,by simp,by simp⟩,rfl,rfl,ro10 rfl (.seq0 _ _ _ _)⟩
  rw[h.1] at hat
  have each:∀i,i<len→∃cs asx,w.cells? 0 (a.add (i*sz)) sz=some cs∧Q asx∧asx.length=sz∧cs.length=sz∧∀(j:Nat) b,asx[j]? =some b→∃c,cs[j]? =some c∧c.oneCell'=true∧Rd w (oldF w) n10 b c:=fun i hi=>by
   have h1:=hat i hi
   rw[List.getElem?_eq_getElem (by omega)] at h1
   obtain⟨cs,h2,h3⟩:=Option.bind_eq_some_iff.1 h1
   obtain⟨asx,h4,h5,h6,h7⟩:=h.2 H enc w sp n cs _ h3
   exact⟨cs,asx,h2,h4,h5,h6,h7⟩
  -- the address
  obtain⟨cs0,as0,hc0,_,hl0',hl0'',_⟩:=each 0 (by omega)
  have hcell0:=(World.cells?_some hc0).2.2 0 h0
  have hspot:a.spot=none∧a.block<w.heap.size:=by
   rw[List.getElem?_eq_getElem (by omega)] at hcell0
   simp only[Nat.zero_mul,Addr.add,if_true] at hcell0
   unfold World.cell? at hcell0
   split at hcell0
   ·rename_i c _ _ hb
    split at hcell0
    ·cases hcell0
    ·rename_i hsp
     exact⟨by simpa using hsp,(Array.getElem?_eq_some_iff.1 hb).1⟩
   ·cases hcell0
  obtain⟨g,o,s⟩:=a
  simp only at hspot
  obtain⟨rfl,hg⟩:=hspot
  let asx:Nat→List AV:=fun i=>if hi:i<len then (each i hi).choose_spec.choose else []
  let es:List AV:=(List.range len).map fun i=>mkE agg (asx i)
  have has:∀i (hi:i<len),∃cs,w.cells? 0 ((⟨g,o,none⟩:Addr).add (i*sz)) sz=some cs∧Q (asx i)∧(asx i).length=sz∧cs.length=sz∧∀(j:Nat) b,(asx i)[j]? =some b→∃c,cs[j]? =some c∧c.oneCell'=true∧Rd w (oldF w) n10 b c:=fun i hi=>by
   have:=(each i hi).choose_spec.choose_spec
   simp only[asx,hi,dif_pos]
   exact⟨_,this⟩
  have hec:∀i,i<len→(mkE agg (asx i)).cells=asx i:=fun i hi=>by
   obtain⟨cs,_,hq,_⟩:=has i hi
   cases hagg:agg with
   | true=>rfl
   | false=>
    obtain⟨b,e1,e2⟩:=hone hagg _ hq
    simp only[mkE,Bool.false_eq_true,if_false,e1,List.headD_cons]
    exact e2
  have hel':∀i x,es[i]? =some x→i<len∧x=mkE agg (asx i):=fun i x hx=>by
   have hi:i<len:=by have:=(List.getElem?_eq_some_iff.1 hx).1;simpa [es] using this
   simp only[es,List.getElem?_map,List.getElem?_range hi,Option.map_some,Option.some.injEq] at hx
   exact⟨hi,hx.symm⟩
  have cellAt:∀i (hi:i<len) j,j<sz→∃c,w.cell? ⟨g,o+(i*sz+j),none⟩=some c∧c.oneCell'=true∧∀b,(asx i)[j]? =some b→Rd w (oldF w) n10 b c:=fun i hi j hj=>by
   obtain⟨cs,h1,_,h3,h4,h5⟩:=has i hi
   obtain⟨c,hc,hc1,hr⟩:=h5 j _ (List.getElem?_eq_getElem (by rw[h3];exact hj))
   refine⟨c,?_,hc1,fun b hb=>?_⟩
   ·have:=(World.cells?_some h1).2.2 j hj
    rw[hc,add_at,add_at] at this
    rw[←this]
    congr 2
    omega
   ·rw[List.getElem?_eq_getElem (by rw[h3];exact hj)] at hb
    cases hb
    exact hr
  have hp:∀p,p<len*sz→p / sz<len∧p % sz<sz∧p / sz*sz+p % sz=p:=fun p hp=>⟨Nat.div_lt_of_lt_mul (by rw[Nat.mul_comm];exact hp),Nat.mod_lt _ h0,by rw[Nat.mul_comm];exact Nat.div_add_mod _ _⟩
  have hlen:es.length=len:=by simp [es]
  have key:=Rd.seq (w:=w) (F:=oldF w) n10 sz es g o cap (fun p=>(w.cell? ⟨g,o+p,none⟩).getD Go.undef) h0 hg (by rw[hlen];exact hlc) hcm
   (fun x hx=>by
    obtain⟨i,hi⟩:=List.getElem?_of_mem hx
    obtain⟨hi',rfl⟩:=hel' i x hi
    rw[hec i hi']
    obtain⟨_,_,_,h3,_⟩:=has i hi'
    exact h3)
   (fun p hp'=>by
    rw[hlen] at hp'
    obtain⟨h1,h2,h3⟩:=hp p hp'
    obtain⟨c,hc,_⟩:=cellAt _ h1 _ h2
    rw[h3] at hc
    rw[hc];rfl)
   (fun p hp'=>by
    rw[hlen] at hp'
    obtain⟨h1,h2,h3⟩:=hp p hp'
    obtain⟨c,hc,hc1,_⟩:=cellAt _ h1 _ h2
    rw[h3] at hc
    simp only[hc,Option.getD_some]
    exact hc1)
   (fun i x j b hx hb=>by
    obtain⟨hi',rfl⟩:=hel' i x hx
    rw[hec i hi'] at hb
    have hj:j<sz:=by
     obtain⟨_,_,_,h3,_⟩:=has i hi'
     rw[←h3]
     exact (List.getElem?_eq_some_iff.1 hb).1
    obtain⟨c,hc,_,hr⟩:=cellAt i hi' j hj
    simp only[hc,Option.getD_some]
    exact hr b hb)
  rw[hlen] at key
  refine⟨[.seq sz es],⟨es,rfl,by rw[hlen];omega,fun x hx=>?_⟩,rfl,rfl,ro10 rfl key⟩
  obtain⟨i,hi⟩:=List.getElem?_of_mem hx
  obtain⟨hi',rfl⟩:=hel' i x hi
  obtain⟨_,_,hq,_⟩:=has i hi'
  exact⟨_,hq,rfl⟩
theorem lo12 {α:Type} {f:α→AV}:∀{es:List AV},(∀x∈es,∃a,x=f a)→∃l:List α,es=l.map f
 | [],_ =>⟨[],rfl⟩
 | x::es,h=>by
  obtain⟨a,rfl⟩:=h x (by simp)
  obtain⟨l,rfl⟩:=lo12 (fun y hy=>h y (List.mem_cons_of_mem _ hy))
  exact⟨a::l,rfl⟩
theorem lo11 {α:Type} {f:α→AV} {Q:α→Prop}:∀{es:List AV},(∀x∈es,∃a,x=f a∧Q a)→∃l:List α,es=l.map f∧∀a∈l,Q a
 | [],_ =>⟨[],rfl,by simp⟩
 | x::es,h=>by
  obtain⟨a,rfl,hq⟩:=h x (by simp)
  obtain⟨l,rfl,hl⟩:=lo11 (fun y hy=>h y (List.mem_cons_of_mem _ hy))
  exact⟨a::l,rfl,fun b hb=>(List.mem_cons.1 hb).elim (fun e=>e ▸ hq) (hl b)⟩
theorem ol10 {H:Type} {enc:TypeId×Value→H} {t:Nat} {Q:List AV→Prop} {W:World} {sp:Nat→Bool} {v:Value} {d:DataW H} {ps:List MemPlace} (h:RdT P t 1 Q) (hv:v.cells=#[v]) (hd:DataW.Trod enc P W 0 sp true t v d ps):∃a,Q [a]∧Rd W (oldF W) n10 a v:=by
 obtain⟨fuel,hf⟩:=hd
 rw[hv] at hf
 obtain⟨asx,q,l1,l2,r⟩:=h.2 _ _ _ _ _ _ _ hf
 match asx,l1 with
 | [a],_ =>
  obtain⟨c,hc,_,hr⟩:=r 0 a rfl
  simp at hc
  subst hc
  exact⟨a,q,hr⟩
theorem oa_ {H:Type} {enc:TypeId×Value→H} {t sz:Nat} {Q:List AV→Prop} {W:World} {sp:Nat→Bool} {v:Value} {d:DataW H} {ps:List MemPlace} {us:Array Value} (h:RdT P t sz Q) (hv:v= .agg us) (hd:DataW.Trod enc P W 0 sp true t v d ps):∃asx,Q asx∧Rd W (oldF W) n10 (.agg asx) v:=by
 subst hv
 obtain⟨fuel,hf⟩:=hd
 obtain⟨asx,q,l1,l2,r⟩:=h.2 _ _ _ _ _ _ _ hf
 refine⟨asx,q,?_⟩
 have key:=Rd.agg (w:=W) (F:=oldF W) n10 asx us.toList (by rw[l1,←l2];rfl) fun j a c ha hc=>by
  obtain⟨c',hc',_,hr⟩:=r j a ha
  have e:(Value.agg us).cells.toList=us.toList:=rfl
  rw[e,hc] at hc'
  cases hc'
  exact hr
 simpa using key
theorem as24 {H:Type} {enc:TypeId×Value→H} (hl:laidOutB P=true) {W W':World} (hb:Below W.heap.size W W'):∀{ts:List TypeId} {vs:List Value} {ds:List (DataW H)} {ps:List MemPlace},
  ts.all (fun t=>P.readableRec t&&decide (t<P.types.size))=true→DataW.TrodAll enc P W 0 (fun _ =>true) true ts vs ds ps→(∀p∈ps,p.block<W.heap.size)→
  ∀sp:Nat→Bool,(∀p∈ps,sp p.block=true)→DataW.TrodAll enc P W' 0 sp true ts vs ds ps
 | [],[],[],_,_,h,_,_,_ =>h
 | [],[],_ ::_,_,_,h,_,_,_ =>h.elim
 | [],_ ::_,_,_,_,h,_,_,_ =>h.elim
 | _ ::_,[],_,_,_,h,_,_,_ =>h.elim
 | _ ::_,_ ::_,[],_,_,h,_,_,_ =>h.elim
 | t::ts,v::vs,d::ds,ps,ht,h,hlt,sp,hs=>by
  obtain⟨p,q,h1,h2,rfl⟩:=h
  simp only[List.all_cons,Bool.and_eq_true,decide_eq_true_eq] at ht
  refine⟨p,q,WideElems.Trod_stays hl ht.1.1 ht.1.2 h1 (fun x hx=>hb.same (hlt x (by simp [hx]))) (fun x hx=>hs x (by simp [hx])),?_,rfl⟩
  exact as24 hl hb ht.2 h2 (fun x hx=>hlt x (by simp [hx])) sp fun x hx=>hs x (by simp [hx])
end
end Go.Proofs.YtjbcfpkibnhodaaGreatDoor.Ab
namespace Go.Proofs.YtjbcfpkibnhodaaGreatDoor.Ab
open Go Go.RowKit Go.ChangeShapes Go.WideShapes
theorem al14 {P:Program} {W:World} {t e g:Nat} {zs:List AV} {cs:Array Value} (_h0:0<zs.length) (_hone:∀a∈zs,a.cells=[a]) (_ht:P.underlying t=some (.array zs.length e)) (hc:P.cellsOf t=zs.length)
  (hcell:∀i,W.cell? ⟨g,i,none⟩=cs[i]?) (hw:∃t fz,W.heap[g]? =some (.cells cs t fz)) (hsz:cs.toList.length=P.cellsOf t)
  (each:∀(i:Nat) a,zs[i]? =some a→∃v,cs[i]? =some v∧v.oneCell'=true∧Rd W (oldF W) n10 a v):Rd W (oldF W) n10 (.eptr (.agg zs) 0) (.pointer (some ⟨g,0,none⟩))∧W_ W g (.agg zs):=by
 have hg:g<W.heap.size:=by
  obtain⟨_,_,h⟩:=hw
  exact (Array.getElem?_eq_some_iff.1 h).1
 refine⟨?_,?_⟩
 ·have key:=Rd.eptr (w:=W) (F:=oldF W) n10 (.agg zs) 0 g 0 (fun p=>(cs[p]?).getD Go.undef) hg
   (fun p hp=>by
    have hp':p<zs.length:=by simpa [AV.cells] using hp
    obtain⟨v,hv,_⟩:=each p zs[p] (List.getElem?_eq_getElem hp')
    rw[Nat.zero_add,hcell,hv];rfl)
   (fun p hp=>by
    have hp':p<zs.length:=by simpa [AV.cells] using hp
    obtain⟨v,hv,h1,_⟩:=each p zs[p] (List.getElem?_eq_getElem hp')
    rw[hv];exact h1)
   (fun j c hj=>by
    obtain⟨v,hv,_,h2⟩:=each j c (by simpa [AV.cells] using hj)
    rw[hv];exact h2)
  simpa using key
 ·obtain⟨t',fz,h⟩:=hw
  exact⟨cs,t',fz,h,by simpa [AV.cells,hc] using hsz⟩
theorem sl11 {H:Type} {enc:TypeId×Value→H} {P:Program} {W:World} {t e g:Nat} {sp:Nat→Bool} {held:Bool} {l:List (List UInt8)} {cs:Array Value} {fuel:Nat} {p:List MemPlace} (hl:0<l.length)
  (ht:P.underlying t=some (.array l.length e)) (he:P.underlying e=some .string) (hc:P.cellsOf e=1) (hct:P.cellsOf t=l.length) (hcell:∀i,W.cell? ⟨g,i,none⟩=cs[i]?) (hw:∃t fz,W.heap[g]? =some (.cells cs t fz))
  (hd:DataW.trod enc P W 0 sp held fuel t cs.toList=some (.agg (l.map fun s=>.lit (.string s)),p)):Rd W (oldF W) n10 (.eptr (.agg (l.map AV.str)) 0) (.pointer (some ⟨g,0,none⟩))∧W_ W g (.agg (l.map AV.str)):=by
 obtain⟨xs,m,_,hx,hsz,hn,hel⟩:=DataW.trod_array ht hd
 simp only[Prod.mk.injEq,DataW.agg.injEq] at hx
 have each:∀(i:Nat) (s:List UInt8),l[i]? =some s→cs[i]? =some (Value.string ⟨s.toArray⟩):=fun i s hs=>by
  have hi:=(List.getElem?_eq_some_iff.1 hs).1
  have h1:=hel i hi
  rw[hc,Nat.mul_one,List.getElem?_eq_getElem (by omega)] at h1
  obtain⟨b,e1,e2,_⟩:=DataW.trod_string he h1
  have h2:(l.map fun s=>(DataW.lit (Lit.string s):DataW H))[i]? =(xs.map (·.1))[i]? :=by rw[hx.1]
  rw[List.getElem?_map,List.getElem?_map,hs,List.getElem?_eq_getElem (by omega),e2] at h2
  simp only[Option.map_some,Option.some.injEq,DataW.lit.injEq,Lit.string.injEq] at h2
  have h3:(cs.toList.drop i)[0]? =some (.string b):=by
   have:=congrArg (·[0]?) e1
   simpa [List.getElem?_take] using this
  rw[List.getElem?_drop,Nat.add_zero,Array.getElem?_toList] at h3
  rw[h3,h2]
 refine al14 (by simpa using hl) (fun a ha=>?_) (by simpa using ht) (by simpa using hct) hcell hw hsz fun i a ha=>?_
 ·obtain⟨s,_,rfl⟩:=List.mem_map.1 ha
  rfl
 ·rw[List.getElem?_map] at ha
  obtain⟨s,hs,rfl⟩:=Option.map_eq_some_iff.1 ha
  exact⟨_,each i s hs,rfl,Rd.str _ _⟩
theorem il_ {H:Type} {enc:TypeId×Value→H} {P:Program} {W:World} {t e g:Nat} {sp:Nat→Bool} {held:Bool} {k:IntKind} {l:List Int} {cs:Array Value} {fuel:Nat} {p:List MemPlace} (hl:0<l.length)
  (ht:P.underlying t=some (.array l.length e)) (he:P.underlying e=some (.int k)) (hc:P.cellsOf e=1) (hct:P.cellsOf t=l.length) (hcell:∀i,W.cell? ⟨g,i,none⟩=cs[i]?) (hw:∃t fz,W.heap[g]? =some (.cells cs t fz))
  (hd:DataW.trod enc P W 0 sp held fuel t cs.toList=some (.agg (l.map fun n=>.lit (.int k n)),p)):Rd W (oldF W) n10 (.eptr (.agg (l.map (AV.int k))) 0) (.pointer (some ⟨g,0,none⟩))∧W_ W g (.agg (l.map (AV.int k))):=by
 obtain⟨xs,m,_,hx,hsz,hn,hel⟩:=DataW.trod_array ht hd
 simp only[Prod.mk.injEq,DataW.agg.injEq] at hx
 have each:∀(i:Nat) (n:Int),l[i]? =some n→cs[i]? =some (Value.int k n):=fun i n hs=>by
  have hi:=(List.getElem?_eq_some_iff.1 hs).1
  have h1:=hel i hi
  rw[hc,Nat.mul_one,List.getElem?_eq_getElem (by omega)] at h1
  obtain⟨b,e1,e2,_⟩:=DataW.trod_int he h1
  have h2:(l.map fun n=>(DataW.lit (Lit.int k n):DataW H))[i]? =(xs.map (·.1))[i]? :=by rw[hx.1]
  rw[List.getElem?_map,List.getElem?_map,hs,List.getElem?_eq_getElem (by omega),e2] at h2
  simp only[Option.map_some,Option.some.injEq,DataW.lit.injEq,Lit.int.injEq,true_and] at h2
  have h3:(cs.toList.drop i)[0]? =some (.int k b):=by
   have:=congrArg (·[0]?) e1
   simpa [List.getElem?_take] using this
  rw[List.getElem?_drop,Nat.add_zero,Array.getElem?_toList] at h3
  rw[h3,h2]
 refine al14 (by simpa using hl) (fun a ha=>?_) (by simpa using ht) (by simpa using hct) hcell hw hsz fun i a ha=>?_
 ·obtain⟨s,_,rfl⟩:=List.mem_map.1 ha
  rfl
 ·rw[List.getElem?_map] at ha
  obtain⟨s,hs,rfl⟩:=Option.map_eq_some_iff.1 ha
  exact⟨_,each i s hs,rfl,Rd.int _ _ _⟩
theorem vh_ {P:Program} {w:World} {n:String} {g:Nat} {cs:Array Value} (hg:P.globalNamed n=some g) (h:w.var? P n=some cs):∃t fz,w.heap[g]? =some (.cells cs t fz):=by
 simp only[World.var?,hg,Option.bind_some] at h
 split at h
 ·rename_i c t fz hh
  cases h
  exact⟨t,fz,hh⟩
 ·cases h
theorem la_ {P:Program} {W:World}:∀{l:List (String×DataW Unit)} {ps:List MemPlace} (i:Nat) {n:String} {d:DataW Unit},DataW.LaidVars P W l ps→l[i]? =some (n,d)→
  ∃(g t:Nat) (cs:Array Value) (fuel:Nat) (p:List MemPlace),P.globalNamed n=some g∧(P.globals[g]?).map (·.type)=some t∧(∀i,W.cell? ⟨g,i,none⟩=cs[i]?)∧(∃t fz,W.heap[g]? =some (.cells cs t fz))∧DataW.trod (fun _ =>()) P W 0 (fun _ =>true) false fuel t cs.toList=some (d,p)
 | [],_,i,_,_,_,h=>by simp at h
 | (m,e)::r,ps,0,n,d,h,hi=>by
  simp only[List.getElem?_cons_zero,Option.some.injEq,Prod.mk.injEq] at hi
  obtain⟨rfl,rfl⟩:=hi
  obtain⟨g,t,cs,fuel,p,q,hg,ht,hv,hd,_⟩:=h
  exact⟨g,t,cs,fuel,p,hg,ht,fun i=>World.var?_cell hg hv i,vh_ hg hv,hd⟩
 | (m,e)::r,ps,i+1,n,d,h,hi=>by
  obtain⟨_,_,_,_,_,q,_,_,_,_,h,_⟩:=h
  exact la_ i h (by simpa using hi)
theorem la10 {P:Program} {W:World} {l:List (String×DataW Unit)} (i:Nat) {n:String} {d:DataW Unit} (h:laidMet P l W) (hi:l[i]? =some (n,d)):
  ∃(g t:Nat) (cs:Array Value) (fuel:Nat) (p:List MemPlace),P.globalNamed n=some g∧(P.globals[g]?).map (·.type)=some t∧(∀i,W.cell? ⟨g,i,none⟩=cs[i]?)∧(∃t fz,W.heap[g]? =some (.cells cs t fz))∧DataW.trod (fun _ =>()) P W 0 (fun _ =>true) false fuel t cs.toList=some (d,p):=by
 obtain⟨ps,h,_⟩:=h
 exact la_ i h hi
theorem P_.calls_trueG {P:Program} {G:Nat→Option AV} {f:Nat} {args:List AV} (h:P_ P G f args (.bool true)) {w:World} {F:Nat→Prop} {vs:Array Value} (hg:Good w F G) (ha:A_ w F args vs):
  Calls P f vs w fun e w'=>e= .returned (.bool true)∧Below w.heap.size w w':=by
 refine (h w F vs hg ha).mono ?_
 rintro e w' ⟨v,F',rfl,_,_,_,hr,hb⟩
 cases hr
 exact⟨rfl,hb⟩
end Go.Proofs.YtjbcfpkibnhodaaGreatDoor.Ab
namespace Go.Proofs.YtjbcfpkibnhodaaGreatDoor.Ab
open Go Go.ChangeShapes Go.WideShapes Go.RowKit
theorem rInt {t:Nat} (ht:Tryz.prog.underlying t=some (.int .i64)) (hs:Tryz.prog.cellsOf t=1):RdT Tryz.prog t 1 fun cs=>∃n:Int,cs=[iv n]:=
 (ri10 ht hs).mono (by rintro _ ⟨n,rfl,_⟩;exact⟨n,rfl⟩)
theorem rStr {t:Nat} (ht:Tryz.prog.underlying t=some .string) (hs:Tryz.prog.cellsOf t=1):RdT Tryz.prog t 1 fun cs=>∃s:Str,cs=[.str s]:=
 (rs19 ht hs).mono (by rintro _ ⟨n,rfl,_⟩;exact⟨n,rfl⟩)
theorem rl10 {α:Type} {f:α→AV} {t e sz:Nat} (ht:Tryz.prog.underlying t=some (.slice e)) (hs:Tryz.prog.cellsOf t=1) (h:RdT Tryz.prog e sz fun cs=>∃a:α,.agg cs=f a) (h0:0<sz):
  RdT Tryz.prog t 1 fun cs=>∃l:List α,cs=[.seq sz (l.map f)]∧l.length≤maxLen:=
 (rs15 true ht hs h h0 (by intro h;cases h)).mono (by
  rintro _ ⟨es,rfl,hl,h⟩
  obtain⟨l,rfl⟩:=lo12 (f:=f) (fun x hx=>by obtain⟨_,⟨o,e⟩,rfl⟩:=h x hx;exact⟨o,e⟩)
  exact⟨l,rfl,by simpa using hl⟩)
theorem r34 {t e:Nat} (ht:Tryz.prog.underlying t=some (.slice e)) (hs:Tryz.prog.cellsOf t=1) (he:Tryz.prog.underlying e=some (.int .i64)) (hse:Tryz.prog.cellsOf e=1):RdT Tryz.prog t 1 fun cs=>∃l:List Int,cs=[i11 l]∧l.length≤maxLen:=
 (rs15 (e:=e) false ht hs (rInt he hse) (by decide) (by rintro - _ ⟨n,rfl⟩;exact⟨_,rfl,rfl⟩)).mono (by
  rintro _ ⟨es,rfl,hl,h⟩
  obtain⟨l,rfl⟩:=lo12 (f:=iv) (fun x hx=>by obtain⟨_,⟨n,rfl⟩,rfl⟩:=h x hx;exact⟨n,rfl⟩)
  exact⟨l,rfl,by simpa using hl⟩)
theorem rVal:RdT Tryz.prog 95 4 fun cs=>∃v:Val,cs=[iv v.kind,iv v.int,.str v.str,.bool v.bool]:=
 (rs_ (t:=95) (fs:=(Tryz.prog.fieldsOf 95)) (by kernel_rfl) (by kernel_rfl) (rc_ (f:=(Tryz.prog.fieldsOf 95)[0]!) (rInt (by kernel_rfl) (by kernel_rfl)) (by kernel_rfl) rfl (rc_ (f:=(Tryz.prog.fieldsOf 95)[1]!) (rInt (by kernel_rfl) (by kernel_rfl)) (by kernel_rfl) rfl (rc_ (f:=(Tryz.prog.fieldsOf 95)[2]!) (rStr (by kernel_rfl) (by kernel_rfl)) (by kernel_rfl) rfl (rc_ (f:=(Tryz.prog.fieldsOf 95)[3]!) (rb11 (by kernel_rfl) (by kernel_rfl)) (by kernel_rfl) rfl (rn_ _)))))).mono (by
  rintro _ ⟨_,_,rfl,⟨a,rfl⟩,_,_,rfl,⟨b,rfl⟩,_,_,rfl,⟨c,rfl⟩,_,_,rfl,⟨d,rfl⟩,rfl⟩
  exact⟨⟨a,b,c,d⟩,rfl⟩)
theorem rArg:RdT Tryz.prog 127 6 fun cs=>∃a:ArgT,.agg cs=argV a:=
 (rs_ (t:=127) (fs:=(Tryz.prog.fieldsOf 127)) (by kernel_rfl) (by kernel_rfl) (rc_ (f:=(Tryz.prog.fieldsOf 127)[0]!) (rInt (by kernel_rfl) (by kernel_rfl)) (by kernel_rfl) rfl (rc_ (f:=(Tryz.prog.fieldsOf 127)[1]!) (rInt (by kernel_rfl) (by kernel_rfl)) (by kernel_rfl) rfl (rc_ (f:=(Tryz.prog.fieldsOf 127)[2]!) rVal (by kernel_rfl) rfl (rn_ _))))).mono (by
  rintro _ ⟨_,_,rfl,⟨a,rfl⟩,_,_,rfl,⟨b,rfl⟩,_,_,rfl,⟨v,rfl⟩,rfl⟩
  exact⟨⟨a,b,v⟩,rfl⟩)
theorem rSym:RdT Tryz.prog 125 2 fun cs=>∃a:SymT,.agg cs=symV a:=
 (rs_ (t:=125) (fs:=(Tryz.prog.fieldsOf 125)) (by kernel_rfl) (by kernel_rfl) (rc_ (f:=(Tryz.prog.fieldsOf 125)[0]!) (rInt (by kernel_rfl) (by kernel_rfl)) (by kernel_rfl) rfl (rc_ (f:=(Tryz.prog.fieldsOf 125)[1]!) (rl10 (t:=123) (by kernel_rfl) (by kernel_rfl) rArg (by decide)) (by kernel_rfl) rfl (rn_ _)))).mono (by
  rintro _ ⟨_,_,rfl,⟨a,rfl⟩,_,_,rfl,⟨l,rfl,_⟩,rfl⟩
  exact⟨⟨a,l⟩,rfl⟩)
theorem r29:RdT Tryz.prog 99 3 fun cs=>∃a:QuantT,.agg cs=q11 a:=
 (rs_ (t:=99) (fs:=(Tryz.prog.fieldsOf 99)) (by kernel_rfl) (by kernel_rfl) (rc_ (f:=(Tryz.prog.fieldsOf 99)[0]!) (rb11 (by kernel_rfl) (by kernel_rfl)) (by kernel_rfl) rfl (rc_ (f:=(Tryz.prog.fieldsOf 99)[1]!) (rStr (by kernel_rfl) (by kernel_rfl)) (by kernel_rfl) rfl (rc_ (f:=(Tryz.prog.fieldsOf 99)[2]!) (rInt (by kernel_rfl) (by kernel_rfl)) (by kernel_rfl) rfl (rn_ _))))).mono (by
  rintro _ ⟨_,_,rfl,⟨a,rfl⟩,_,_,rfl,⟨b,rfl⟩,_,_,rfl,⟨c,rfl⟩,rfl⟩
  exact⟨⟨a,b,c⟩,rfl⟩)
theorem r27:RdT Tryz.prog 106 3 fun cs=>∃a:StateT,.agg cs=s22 a:=
 (rs_ (t:=106) (fs:=(Tryz.prog.fieldsOf 106)) (by kernel_rfl) (by kernel_rfl) (rc_ (f:=(Tryz.prog.fieldsOf 106)[0]!) (rStr (by kernel_rfl) (by kernel_rfl)) (by kernel_rfl) rfl (rc_ (f:=(Tryz.prog.fieldsOf 106)[1]!) (rb11 (by kernel_rfl) (by kernel_rfl)) (by kernel_rfl) rfl (rc_ (f:=(Tryz.prog.fieldsOf 106)[2]!) (rb11 (by kernel_rfl) (by kernel_rfl)) (by kernel_rfl) rfl (rn_ _))))).mono (by
  rintro _ ⟨_,_,rfl,⟨a,rfl⟩,_,_,rfl,⟨b,rfl⟩,_,_,rfl,⟨c,rfl⟩,rfl⟩
  exact⟨⟨a,b,c⟩,rfl⟩)
theorem rSet:RdT Tryz.prog 195 2 fun cs=>∃a:SetT,.agg cs=setV a:=
 (rs_ (t:=195) (fs:=(Tryz.prog.fieldsOf 195)) (by kernel_rfl) (by kernel_rfl) (rc_ (f:=(Tryz.prog.fieldsOf 195)[0]!) (rInt (by kernel_rfl) (by kernel_rfl)) (by kernel_rfl) rfl (rc_ (f:=(Tryz.prog.fieldsOf 195)[1]!) (rInt (by kernel_rfl) (by kernel_rfl)) (by kernel_rfl) rfl (rn_ _)))).mono (by
  rintro _ ⟨_,_,rfl,⟨a,rfl⟩,_,_,rfl,⟨b,rfl⟩,rfl⟩
  exact⟨⟨a,b⟩,rfl⟩)
theorem r26:RdT Tryz.prog 132 5 fun cs=>∃a:TransT,.agg cs=t11 a:=
 (rs_ (t:=132) (fs:=(Tryz.prog.fieldsOf 132)) (by kernel_rfl) (by kernel_rfl) (rc_ (f:=(Tryz.prog.fieldsOf 132)[0]!) (rInt (by kernel_rfl) (by kernel_rfl)) (by kernel_rfl) rfl (rc_ (f:=(Tryz.prog.fieldsOf 132)[1]!) (rInt (by kernel_rfl) (by kernel_rfl)) (by kernel_rfl) rfl (rc_ (f:=(Tryz.prog.fieldsOf 132)[2]!) (rInt (by kernel_rfl) (by kernel_rfl)) (by kernel_rfl) rfl (rc_ (f:=(Tryz.prog.fieldsOf 132)[3]!) (rInt (by kernel_rfl) (by kernel_rfl)) (by kernel_rfl) rfl (rc_ (f:=(Tryz.prog.fieldsOf 132)[4]!) (rl10 (t:=130) (by kernel_rfl) (by kernel_rfl) rSet (by decide)) (by kernel_rfl) rfl (rn_ _))))))).mono (by
  rintro _ ⟨_,_,rfl,⟨a,rfl⟩,_,_,rfl,⟨b,rfl⟩,_,_,rfl,⟨c,rfl⟩,_,_,rfl,⟨d,rfl⟩,_,_,rfl,⟨l,rfl,_⟩,rfl⟩
  exact⟨⟨a,b,c,d,l⟩,rfl⟩)
theorem r35:RdT Tryz.prog 122 2 fun cs=>∃a:DeclT,.agg cs=d12 a:=
 (rs_ (t:=122) (fs:=(Tryz.prog.fieldsOf 122)) (by kernel_rfl) (by kernel_rfl) (rc_ (f:=(Tryz.prog.fieldsOf 122)[0]!) (rStr (by kernel_rfl) (by kernel_rfl)) (by kernel_rfl) rfl (rc_ (f:=(Tryz.prog.fieldsOf 122)[1]!) (r34 (t:=120) (e:=3) (by kernel_rfl) (by kernel_rfl) (by kernel_rfl) (by kernel_rfl)) (by kernel_rfl) rfl (rn_ _)))).mono (by
  rintro _ ⟨_,_,rfl,⟨a,rfl⟩,_,_,rfl,⟨l,rfl,_⟩,rfl⟩
  exact⟨⟨a,l⟩,rfl⟩)
end Go.Proofs.YtjbcfpkibnhodaaGreatDoor.Ab
namespace Go.Proofs.YtjbcfpkibnhodaaGreatDoor.Ab
open Go Go.ChangeShapes Go.WideShapes Go.RowKit
theorem iw_ {n:Int} (h:(Lit.int .i64 n).wf=true):i64 n:=by
 simp [Lit.wf,IntKind.min,IntKind.max,IntKind.signed,IntKind.bits] at h
 exact⟨h.1,by omega⟩
theorem rl_ {α:Type} {f:α→AV} {Q:α→Prop} {t e sz:Nat} (ht:Tryz.prog.underlying t=some (.slice e)) (hs:Tryz.prog.cellsOf t=1) (h:RdT Tryz.prog e sz fun cs=>∃a:α,.agg cs=f a∧Q a) (h0:0<sz):
  RdT Tryz.prog t 1 fun cs=>∃l:List α,cs=[.seq sz (l.map f)]∧l.length≤maxLen∧∀a∈l,Q a:=
 (rs15 true ht hs h h0 (by intro h;cases h)).mono (by
  rintro _ ⟨es,rfl,hl,h⟩
  obtain⟨l,rfl,hq⟩:=lo11 (f:=f) (Q:=Q) (fun x hx=>by obtain⟨_,⟨o,e,q⟩,rfl⟩:=h x hx;exact⟨o,e,q⟩)
  exact⟨l,rfl,by simpa using hl,hq⟩)
theorem r19:RdT Tryz.prog 95 4 fun cs=>∃v:Val,cs=[iv v.kind,iv v.int,.str v.str,.bool v.bool]∧i64 v.int:=
 (rs_ (t:=95) (fs:=(Tryz.prog.fieldsOf 95)) (by kernel_rfl) (by kernel_rfl) (rc_ (f:=(Tryz.prog.fieldsOf 95)[0]!) (rInt (by kernel_rfl) (by kernel_rfl)) (by kernel_rfl) rfl (rc_ (f:=(Tryz.prog.fieldsOf 95)[1]!) (ri10 (by kernel_rfl) (by kernel_rfl)) (by kernel_rfl) rfl (rc_ (f:=(Tryz.prog.fieldsOf 95)[2]!) (rStr (by kernel_rfl) (by kernel_rfl)) (by kernel_rfl) rfl (rc_ (f:=(Tryz.prog.fieldsOf 95)[3]!) (rb11 (by kernel_rfl) (by kernel_rfl)) (by kernel_rfl) rfl (rn_ _)))))).mono (by
  rintro _ ⟨_,_,rfl,⟨a,rfl⟩,_,_,rfl,⟨b,rfl,hb⟩,_,_,rfl,⟨c,rfl⟩,_,_,rfl,⟨d,rfl⟩,rfl⟩
  exact⟨⟨a,b,c,d⟩,rfl,iw_ hb⟩)
theorem r32:RdT Tryz.prog 95 4 fun cs=>∃v:Val,.agg cs=valV v∧i64 v.int:=r19.mono (by
 rintro _ ⟨v,rfl,hv⟩
 exact⟨v,rfl,hv⟩)
theorem r22:RdT Tryz.prog 129 7 fun cs=>∃a:NodeT,.agg cs=n11 a∧i64 a.value.int:=
 (rs_ (t:=129) (fs:=(Tryz.prog.fieldsOf 129)) (by kernel_rfl) (by kernel_rfl) (rc_ (f:=(Tryz.prog.fieldsOf 129)[0]!) (rInt (by kernel_rfl) (by kernel_rfl)) (by kernel_rfl) rfl (rc_ (f:=(Tryz.prog.fieldsOf 129)[1]!) (rInt (by kernel_rfl) (by kernel_rfl)) (by kernel_rfl) rfl (rc_ (f:=(Tryz.prog.fieldsOf 129)[2]!) (rInt (by kernel_rfl) (by kernel_rfl)) (by kernel_rfl) rfl (rc_ (f:=(Tryz.prog.fieldsOf 129)[3]!) r19 (by kernel_rfl) rfl (rn_ _)))))).mono (by
  rintro _ ⟨_,_,rfl,⟨a,rfl⟩,_,_,rfl,⟨b,rfl⟩,_,_,rfl,⟨c,rfl⟩,_,_,rfl,⟨v,rfl,hv⟩,rfl⟩
  exact⟨⟨a,b,c,v⟩,rfl,hv⟩)
theorem r21:RdT Tryz.prog 97 5 fun cs=>∃a:SlotT,.agg cs=s16 a∧i64 a.value.int:=
 (rs_ (t:=97) (fs:=(Tryz.prog.fieldsOf 97)) (by kernel_rfl) (by kernel_rfl) (rc_ (f:=(Tryz.prog.fieldsOf 97)[0]!) (rInt (by kernel_rfl) (by kernel_rfl)) (by kernel_rfl) rfl (rc_ (f:=(Tryz.prog.fieldsOf 97)[1]!) r19 (by kernel_rfl) rfl (rn_ _)))).mono (by
  rintro _ ⟨_,_,rfl,⟨a,rfl⟩,_,_,rfl,⟨v,rfl,hv⟩,rfl⟩
  exact⟨⟨a,v⟩,rfl,hv⟩)
theorem r28:RdT Tryz.prog 70 1 fun cs=>∃l:{l:List SlotT // ∀s∈l,i64 s.value.int},cs=[s11 l.1]:=
 (rl_ (by kernel_rfl) (by kernel_rfl) r21 (by decide)).mono (by
  rintro _ ⟨l,rfl,_,h⟩
  exact⟨⟨l,h⟩,rfl⟩)
theorem r31:RdT Tryz.prog 41 1 fun cs=>∃l:{l:List Val // ∀v∈l,i64 v.int},cs=[v_ l.1]:=
 (rl_ (by kernel_rfl) (by kernel_rfl) r32 (by decide)).mono (by
  rintro _ ⟨l,rfl,_,h⟩
  exact⟨⟨l,h⟩,rfl⟩)
end Go.Proofs.YtjbcfpkibnhodaaGreatDoor.Ab
