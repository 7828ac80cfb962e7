/-
  From a row's reading to the contracts, and back. From what a row reads to values without their place. No claim is proved here.
-/
import Derived.Test.YtkejmcgngblfnaaGreatDoorQAbRun
import Derived.ProofKit
import Derived.OpenShut
namespace Go.Proofs.YtkejmcgngblfnaaGreatDoor.Ab
open Go Go.RowKit Go.ChangeShapes
variable {H:Type} {enc:TypeId×Value→H} {P:Program}
theorem post_of_below {f:Func} {s:ChangeSpec} {apart fresh handsOn a34:Bool} {W W':World} {args:Array Value} {v:Value} {ds gs:List (DataW H)} {before pa pv:List MemPlace}
  (hW:DataW.Whole enc P f.params.toList s.vars apart W args.toList ds gs before)
  (hres:∀(b:Nat) (sp:Nat→Bool) (hd:Bool),DataW.TrodAll enc P W' b sp hd f.resultTypes.toList (v.resultList f.resultTypes.size) (s.fn H (ds++gs)).results [])
  (hargs:∀sp:Nat→Bool,(∀p∈before,sp p.block=true)→DataW.TrodAll enc P W' 0 sp true f.params.toList args.toList (s.fn H (ds++gs)).args pa)
  (hvars:∀sp:Nat→Bool,(∀p∈before,sp p.block=true)→DataW.TrodVars enc P W' sp s.vars (s.fn H (ds++gs)).vars pv)
  (hps:before=pa++pv) (hb:Below W.heap.size W W')
  (hok:∀(j:Nat) (t:TypeId) (r:Value),f.resultTypes[j]? =some t→(v.resultList f.resultTypes.size)[j]? =some r→Value.okWide P W' .any 0 t r):
  s.post enc P f apart fresh handsOn a34 W args v W':=by
 have hlt:=fun p hp=>hW.lt p hp
 have hold:∀p∈before,(fun b=>decide (b<W.heap.size)) p.block=true:=fun p hp=>by simpa using hlt p hp
 have hw:=hW
 obtain⟨_,_,_,_,_,hz,hn⟩:=hw
 subst hps
 refine⟨ds,gs,pa++pv,[],pa,pv,hW,hres _ _ _,hargs _ hold,hvars _ hold,hb.frame _,fun _ =>⟨hok,_,_,([]++pa)++pv,⟨[]++pa,pv,trodAll_append (hargs _ fun _ _ =>rfl) (hres _ _ _),hvars _ fun _ _ =>rfl,rfl,fun b off hp=>?_,fun ha=>by simpa using hn ha⟩,fun p hp _ =>by simpa using hp⟩⟩
 have hp':MemPlace.cell b off∈pa++pv:=by simpa using hp
 have:=hlt _ hp'
 have hf:=hb.frozen (p:=⟨b,off,none⟩) this
 exact hf.trans (hz b off hp')
theorem an10 {w:World} {F:Nat→Prop}:A10 w F [] #[]:=⟨rfl,fun j c u h=>by simp at h⟩
theorem ac13 {w:World} {F:Nat→Prop} {c:AV} {u:Value} {cs:List AV} {us:List Value} (h:Rd w F n_ c u) (hs:A10 w F cs us.toArray):A10 w F (c::cs) (u::us).toArray:=by
 refine⟨by have:=hs.1;simp at this;simp [this],fun j d x hd hx=>?_⟩
 match j with
 | 0=>simp at hd hx;subst hd;subst hx;exact h
 | j+1=>exact hs.2 j d x (by simpa using hd) (by simpa using hx)
end Go.Proofs.YtkejmcgngblfnaaGreatDoor.Ab
namespace Go.Proofs.YtkejmcgngblfnaaGreatDoor.Ab
open Go Go.RowKit Go.ChangeShapes Go.WideShapes
abbrev oldF (w:World):Nat→Prop:=fun b=>b<w.heap.size
def RdT (P:Program) (t sz:Nat) (Q:List AV→Prop):Prop:=
 P.cellsOf t=sz∧∀(H:Type) (enc:TypeId×Value→H) (w:World) (sp:Nat→Bool) (fuel:Nat) (cs:List Value) (x:DataW H×List MemPlace),DataW.trod enc P w 0 sp true fuel t cs=some x→
  ∃asx,Q asx∧asx.length=sz∧cs.length=sz∧∀(j:Nat) a,asx[j]? =some a→∃c,cs[j]? =some c∧c.oneCell'=true∧Rd w (oldF w) n_ a c
def RdFs (P:Program) (l:List Field) (off fin:Nat) (Q:List AV→Prop):Prop:=
 ∀(H:Type) (enc:TypeId×Value→H) (w:World) (sp:Nat→Bool) (n:Nat) (cs:List Value) (xs:List (DataW H×List MemPlace)),
  (∀(i:Nat) (f:Field),l[i]? =some f→DataW.trod enc P w 0 sp true n f.type ((cs.drop f.offset).take (P.cellsOf f.type))=xs[i]?)→xs.length=l.length→
  ∃asx,Q asx∧off+asx.length=fin∧∀(j:Nat) a,asx[j]? =some a→∃c,cs[off+j]? =some c∧c.oneCell'=true∧Rd w (oldF w) n_ a c
section
variable {P:Program}
theorem RdT.mono {t sz:Nat} {Q Q':List AV→Prop} (h:RdT P t sz Q) (hq:∀asx,Q asx→Q' asx):RdT P t sz Q':=
 ⟨h.1,fun H enc w sp fuel cs x hx=>let ⟨asx,h1,h2⟩:=h.2 H enc w sp fuel cs x hx;⟨asx,hq _ h1,h2⟩⟩
theorem ro10 {a:AV} {c:Value} {w:World} (h1:c.oneCell'=true) (h:Rd w (oldF w) n_ a c):∀(j:Nat) b,[a][j]? =some b→∃d,[c][j]? =some d∧d.oneCell'=true∧Rd w (oldF w) n_ b d:=by
 intro j b hb
 match j,hb with
 | 0,hb=>simp at hb;subst hb;exact⟨c,rfl,h1,h⟩
 | j+1,hb=>simp at hb
theorem ri_ {t:Nat} {k:IntKind} (ht:P.underlying t=some (.int k)) (hs:P.cellsOf t=1):RdT P t 1 fun asx=>∃n,asx=[.int k n]∧(Lit.int k n).wf=true:=
 ⟨hs,fun H enc w sp fuel cs x hx=>by
  obtain⟨n,rfl,_,hw⟩:=DataW.trod_int ht hx
  exact⟨_,⟨n,rfl,hw⟩,rfl,rfl,ro10 rfl (.int _ _ _)⟩⟩
theorem rb10 {t:Nat} (ht:P.underlying t=some .bool) (hs:P.cellsOf t=1):RdT P t 1 fun asx=>∃b,asx=[.bool b]:=
 ⟨hs,fun H enc w sp fuel cs x hx=>by
  obtain⟨b,rfl,_⟩:=DataW.trod_bool ht hx
  exact⟨_,⟨b,rfl⟩,rfl,rfl,ro10 rfl (.bool _ _)⟩⟩
theorem rs19 {t:Nat} (ht:P.underlying t=some .string) (hs:P.cellsOf t=1):RdT P t 1 fun asx=>∃s:List UInt8,asx=[.str s]∧s.length≤maxLen:=
 ⟨hs,fun H enc w sp fuel cs x hx=>by
  obtain⟨s,rfl,_,hl⟩:=DataW.trod_string ht hx
  have e:s=⟨s.data.toList.toArray⟩:=by apply ByteArray.ext;simp
  have e2:s.data.toList.length=s.size:=Array.length_toList
  refine⟨[.str s.data.toList],⟨s.data.toList,rfl,by rw[e2];exact hl⟩,rfl,rfl,ro10 rfl ?_⟩
  have:=Rd.str (w:=w) (F:=oldF w) n_ s.data.toList
  rw[←e] at this
  exact this⟩
theorem rn_ (off:Nat):RdFs P [] off off fun asx=>asx=[]:=fun _ _ _ _ _ _ _ _ _ =>⟨[],rfl,rfl,fun j a h=>by simp at h⟩
theorem rc_ {f:Field} {l:List Field} {off sz mid fin:Nat} {Q1 Q2:List AV→Prop} (h1:RdT P f.type sz Q1) (ho:f.offset=off) (hm:off+sz=mid) (h2:RdFs P l mid fin Q2):RdFs P (f::l) off fin fun asx=>∃a b,asx=a++b∧Q1 a∧Q2 b:=by
 intro H enc w sp n cs xs hx hl
 match xs,hl with
 | x::xs,hl=>
  subst ho hm
  have hf:=hx 0 f rfl
  simp only[List.getElem?_cons_zero,h1.1] at hf
  obtain⟨a,q1,l1,l2,r1⟩:=h1.2 H enc w sp n _ x hf
  obtain⟨b,q2,e2,r2⟩:=h2 H enc w sp n cs xs (fun i g hg=>by simpa using hx (i+1) g (by simpa using hg)) (by simpa using hl)
  refine⟨a++b,⟨a,b,rfl,q1,q2⟩,by simp;omega,fun j v hv=>?_⟩
  rw[List.getElem?_append] at hv
  split at hv
  ·rename_i hj
   obtain⟨c,hc,h3,h4⟩:=r1 j v hv
   refine⟨c,?_,h3,h4⟩
   rw[List.getElem?_take,if_pos (by omega),List.getElem?_drop] at hc
   exact hc
  ·rename_i hj
   obtain⟨c,hc,h3,h4⟩:=r2 _ v hv
   refine⟨c,?_,h3,h4⟩
   rw[←hc]
   congr 1
   omega
theorem rs12 {t sz:Nat} {fs:Array Field} {Q:List AV→Prop} (ht:P.underlying t=some (.struct fs)) (hs:P.cellsOf t=sz) (h:RdFs P fs.toList 0 sz Q):RdT P t sz Q:=
 ⟨hs,fun H enc w sp fuel cs x hx=>by
  obtain⟨xs,n,_,_,hl,hxl,hxs⟩:=DataW.trod_struct ht hx
  obtain⟨asx,q,e,r⟩:=h H enc w sp n cs xs (fun i f hf=>hxs i f (by simpa using hf)) (by simpa using hxl)
  refine⟨asx,q,by omega,by rw[hl,hs],fun j a ha=>?_⟩
  obtain⟨c,hc,h3⟩:=r j a ha
  exact⟨c,by simpa using hc,h3⟩⟩
def mkE (agg:Bool) (bs:List AV):AV:=if agg then .agg bs else bs.headD .top
theorem rs15 {t e sz:Nat} {Q:List AV→Prop} (agg:Bool) (ht:P.underlying t=some (.slice e)) (hs:P.cellsOf t=1) (h:RdT P e sz Q) (h0:0<sz) (hone:agg=false→∀bs,Q bs→∃b,bs=[b]∧b.cells=[b]):
  RdT P t 1 fun asx=>∃es:List AV,asx=[.seq sz es]∧es.length≤maxLen∧∀x∈es,∃bs,Q bs∧x=mkE agg bs:=by
 refine⟨hs,fun H enc w sp fuel cs x hx=>?_⟩
 rcases DataW.trod_slice ht hx with ⟨rfl,_⟩ | ⟨a,len,cap,elems,rest,n,_,rfl,_,_,hlc,hcm,hel,hat,_⟩
 ·exact⟨_,⟨[],rfl,by simp,by simp⟩,rfl,rfl,ro10 rfl (.seq0 _ _ _ _)⟩
 ·by_cases hl0:len=0
  ·subst hl0
   exact⟨_,⟨[],rfl,by simp,by simp⟩,rfl,rfl,ro10 rfl (.seq0 _ _ _ _)⟩
  rw[h.1] at hat
  have each:∀i,i<len→∃cs asx,w.cells? 0 (a.add (i*sz)) sz=some cs∧Q asx∧asx.length=sz∧cs.length=sz∧∀(j:Nat) b,asx[j]? =some b→∃c,cs[j]? =some c∧c.oneCell'=true∧Rd w (oldF w) n_ b c:=fun i hi=>by
   have h1:=hat i hi
   rw[List.getElem?_eq_getElem (by omega)] at h1
   obtain⟨cs,h2,h3⟩:=Option.bind_eq_some_iff.1 h1
   obtain⟨asx,h4,h5,h6,h7⟩:=h.2 H enc w sp n cs _ h3
   exact⟨cs,asx,h2,h4,h5,h6,h7⟩
  -- the address
  obtain⟨cs0,as0,hc0,_,hl0',hl0'',_⟩:=each 0 (by omega)
  have hcell0:=(World.cells?_some hc0).2.2 0 h0
  have hspot:a.spot=none∧a.block<w.heap.size:=by
   rw[List.getElem?_eq_getElem (by omega)] at hcell0
   simp only[Nat.zero_mul,Addr.add,if_true] at hcell0
   unfold World.cell? at hcell0
   split at hcell0
   ·rename_i c _ _ hb
    split at hcell0
    ·cases hcell0
    ·rename_i hsp
     exact⟨by simpa using hsp,(Array.getElem?_eq_some_iff.1 hb).1⟩
   ·cases hcell0
  obtain⟨g,o,s⟩:=a
  simp only at hspot
  obtain⟨rfl,hg⟩:=hspot
  let asx:Nat→List AV:=fun i=>if hi:i<len then (each i hi).choose_spec.choose else []
  let es:List AV:=(List.range len).map fun i=>mkE agg (asx i)
  have has:∀i (hi:i<len),∃cs,w.cells? 0 ((⟨g,o,none⟩:Addr).add (i*sz)) sz=some cs∧Q (asx i)∧(asx i).length=sz∧cs.length=sz∧∀(j:Nat) b,(asx i)[j]? =some b→∃c,cs[j]? =some c∧c.oneCell'=true∧Rd w (oldF w) n_ b c:=fun i hi=>by
   have:=(each i hi).choose_spec.choose_spec
   simp only[asx,hi,dif_pos]
   exact⟨_,this⟩
  have hec:∀i,i<len→(mkE agg (asx i)).cells=asx i:=fun i hi=>by
   obtain⟨cs,_,hq,_⟩:=has i hi
   cases hagg:agg with
   | true=>rfl
   | false=>
    obtain⟨b,e1,e2⟩:=hone hagg _ hq
    simp only[mkE,Bool.false_eq_true,if_false,e1,List.headD_cons]
    exact e2
  have hel':∀i x,es[i]? =some x→i<len∧x=mkE agg (asx i):=fun i x hx=>by
   have hi:i<len:=by have:=(List.getElem?_eq_some_iff.1 hx).1;simpa [es] using this
   simp only[es,List.getElem?_map,List.getElem?_range hi,Option.map_some,Option.some.injEq] at hx
   exact⟨hi,hx.symm⟩
  have cellAt:∀i (hi:i<len) j,j<sz→∃c,w.cell? ⟨g,o+(i*sz+j),none⟩=some c∧c.oneCell'=true∧∀b,(asx i)[j]? =some b→Rd w (oldF w) n_ b c:=fun i hi j hj=>by
   obtain⟨cs,h1,_,h3,h4,h5⟩:=has i hi
   obtain⟨c,hc,hc1,hr⟩:=h5 j _ (List.getElem?_eq_getElem (by rw[h3];exact hj))
   refine⟨c,?_,hc1,fun b hb=>?_⟩
   ·have:=(World.cells?_some h1).2.2 j hj
    rw[hc,aa10,aa10] at this
    rw[←this]
    congr 2
    omega
   ·rw[List.getElem?_eq_getElem (by rw[h3];exact hj)] at hb
    cases hb
    exact hr
  have hp:∀p,p<len*sz→p / sz<len∧p % sz<sz∧p / sz*sz+p % sz=p:=fun p hp=>⟨Nat.div_lt_of_lt_mul (by rw[Nat.mul_comm];exact hp),Nat.mod_lt _ h0,by rw[Nat.mul_comm];exact Nat.div_add_mod _ _⟩
  have hlen:es.length=len:=by simp [es]
  have key:=Rd.seq (w:=w) (F:=oldF w) n_ sz es g o cap (fun p=>(w.cell? ⟨g,o+p,none⟩).getD Go.undef) h0 hg (by rw[hlen];exact hlc) hcm
   (fun x hx=>by
    obtain⟨i,hi⟩:=List.getElem?_of_mem hx
    obtain⟨hi',rfl⟩:=hel' i x hi
    rw[hec i hi']
    obtain⟨_,_,_,h3,_⟩:=has i hi'
    exact h3)
   (fun p hp'=>by
    rw[hlen] at hp'
    obtain⟨h1,h2,h3⟩:=hp p hp'
    obtain⟨c,hc,_⟩:=cellAt _ h1 _ h2
    rw[h3] at hc
    rw[hc];rfl)
   (fun p hp'=>by
    rw[hlen] at hp'
    obtain⟨h1,h2,h3⟩:=hp p hp'
    obtain⟨c,hc,hc1,_⟩:=cellAt _ h1 _ h2
    rw[h3] at hc
    simp only[hc,Option.getD_some]
    exact hc1)
   (fun i x j b hx hb=>by
    obtain⟨hi',rfl⟩:=hel' i x hx
    rw[hec i hi'] at hb
    have hj:j<sz:=by
     obtain⟨_,_,_,h3,_⟩:=has i hi'
     rw[←h3]
     exact (List.getElem?_eq_some_iff.1 hb).1
    obtain⟨c,hc,_,hr⟩:=cellAt i hi' j hj
    simp only[hc,Option.getD_some]
    exact hr b hb)
  rw[hlen] at key
  refine⟨[.seq sz es],⟨es,rfl,by rw[hlen];omega,fun x hx=>?_⟩,rfl,rfl,ro10 rfl key⟩
  obtain⟨i,hi⟩:=List.getElem?_of_mem hx
  obtain⟨hi',rfl⟩:=hel' i x hi
  obtain⟨_,_,hq,_⟩:=has i hi'
  exact⟨_,hq,rfl⟩
theorem lo_ {α:Type} {f:α→AV} {Q:α→Prop}:∀{es:List AV},(∀x∈es,∃a,x=f a∧Q a)→∃l:List α,es=l.map f∧∀a∈l,Q a
 | [],_ =>⟨[],rfl,by simp⟩
 | x::es,h=>by
  obtain⟨a,rfl,hq⟩:=h x (by simp)
  obtain⟨l,rfl,hl⟩:=lo_ (fun y hy=>h y (List.mem_cons_of_mem _ hy))
  exact⟨a::l,rfl,fun b hb=>(List.mem_cons.1 hb).elim (fun e=>e ▸ hq) (hl b)⟩
theorem oa10 {H:Type} {enc:TypeId×Value→H} {t sz:Nat} {Q:List AV→Prop} {W:World} {sp:Nat→Bool} {v:Value} {d:DataW H} {ps:List MemPlace} {us:Array Value} (h:RdT P t sz Q) (hv:v= .agg us) (hd:DataW.Trod enc P W 0 sp true t v d ps):∃asx,Q asx∧Rd W (oldF W) n_ (.agg asx) v:=by
 subst hv
 obtain⟨fuel,hf⟩:=hd
 obtain⟨asx,q,l1,l2,r⟩:=h.2 _ _ _ _ _ _ _ hf
 refine⟨asx,q,?_⟩
 have key:=Rd.agg (w:=W) (F:=oldF W) n_ asx us.toList (by rw[l1,←l2];rfl) fun j a c ha hc=>by
  obtain⟨c',hc',_,hr⟩:=r j a ha
  have e:(Value.agg us).cells.toList=us.toList:=rfl
  rw[e,hc] at hc'
  cases hc'
  exact hr
 simpa using key
theorem as20 {H:Type} {enc:TypeId×Value→H} (hl:laidOutB P=true) {W W':World} (hb:Below W.heap.size W W'):∀{ts:List TypeId} {vs:List Value} {ds:List (DataW H)} {ps:List MemPlace},
  ts.all (fun t=>P.readableRec t&&decide (t<P.types.size))=true→DataW.TrodAll enc P W 0 (fun _ =>true) true ts vs ds ps→(∀p∈ps,p.block<W.heap.size)→
  ∀sp:Nat→Bool,(∀p∈ps,sp p.block=true)→DataW.TrodAll enc P W' 0 sp true ts vs ds ps
 | [],[],[],_,_,h,_,_,_ =>h
 | [],[],_ ::_,_,_,h,_,_,_ =>h.elim
 | [],_ ::_,_,_,_,h,_,_,_ =>h.elim
 | _ ::_,[],_,_,_,h,_,_,_ =>h.elim
 | _ ::_,_ ::_,[],_,_,h,_,_,_ =>h.elim
 | t::ts,v::vs,d::ds,ps,ht,h,hlt,sp,hs=>by
  obtain⟨p,q,h1,h2,rfl⟩:=h
  simp only[List.all_cons,Bool.and_eq_true,decide_eq_true_eq] at ht
  refine⟨p,q,WideElems.Trod_stays hl ht.1.1 ht.1.2 h1 (fun x hx=>hb.same (hlt x (by simp [hx]))) (fun x hx=>hs x (by simp [hx])),?_,rfl⟩
  exact as20 hl hb ht.2 h2 (fun x hx=>hlt x (by simp [hx])) sp fun x hx=>hs x (by simp [hx])
end
end Go.Proofs.YtkejmcgngblfnaaGreatDoor.Ab
