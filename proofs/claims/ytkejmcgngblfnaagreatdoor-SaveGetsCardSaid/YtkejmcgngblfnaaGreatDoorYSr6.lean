/-
  From a row's reading to the contracts, and back. From what a row reads to values without their place. Variables that are laid, as the reading of known variables has them. How the arguments of SavePuts and SaveGets are read, and the sentinel. No claim is proved here.
-/
import Derived.ProofKit
import Derived.OpenShut
import Derived.Test.YtkejmcgngblfnaaGreatDoorYSr5
import Derived.Stop.LaidErr
namespace Go.Proofs.YtkejmcgngblfnaaGreatDoor.Ab
open Go Go.RowKit Go.ChangeShapes
variable {H:Type} {enc:TypeId×Value→H} {P:Program}
theorem post_of_below {f:Func} {s:ChangeSpec} {apart fresh handsOn a34:Bool} {W W':World} {args:Array Value} {v:Value} {ds gs:List (DataW H)} {before pa pv:List MemPlace}
  (hW:DataW.Whole enc P f.params.toList s.vars apart W args.toList ds gs before)
  (hres:∀(b:Nat) (sp:Nat→Bool) (hd:Bool),DataW.TrodAll enc P W' b sp hd f.resultTypes.toList (v.resultList f.resultTypes.size) (s.fn H (ds++gs)).results [])
  (hargs:∀sp:Nat→Bool,(∀p∈before,sp p.block=true)→DataW.TrodAll enc P W' 0 sp true f.params.toList args.toList (s.fn H (ds++gs)).args pa)
  (hvars:∀sp:Nat→Bool,(∀p∈before,sp p.block=true)→DataW.TrodVars enc P W' sp s.vars (s.fn H (ds++gs)).vars pv)
  (hps:before=pa++pv) (hb:Below W.heap.size W W')
  (hok:∀(j:Nat) (t:TypeId) (r:Value),f.resultTypes[j]? =some t→(v.resultList f.resultTypes.size)[j]? =some r→Value.okWide P W' .any 0 t r):
  s.post enc P f apart fresh handsOn a34 W args v W':=by
 have hlt:=fun p hp=>hW.lt p hp
 have hold:∀p∈before,(fun b=>decide (b<W.heap.size)) p.block=true:=fun p hp=>by simpa using hlt p hp
 have hw:=hW
 obtain⟨_,_,_,_,_,hz,hn⟩:=hw
 subst hps
 refine⟨ds,gs,pa++pv,[],pa,pv,hW,hres _ _ _,hargs _ hold,hvars _ hold,hb.frame _,fun _ =>⟨hok,_,_,([]++pa)++pv,⟨[]++pa,pv,trodAll_append (hargs _ fun _ _ =>rfl) (hres _ _ _),hvars _ fun _ _ =>rfl,rfl,fun b off hp=>?_,fun ha=>by simpa using hn ha⟩,fun p hp _ =>by simpa using hp⟩⟩
 have hp':MemPlace.cell b off∈pa++pv:=by simpa using hp
 have:=hlt _ hp'
 have hf:=hb.frozen (p:=⟨b,off,none⟩) this
 exact hf.trans (hz b off hp')
theorem an11 {w:World} {F:Nat→Prop}:A10 w F [] #[]:=⟨rfl,fun j c u h=>by simp at h⟩
theorem ac13 {w:World} {F:Nat→Prop} {c:AV} {u:Value} {cs:List AV} {us:List Value} (h:Rd w F n_ c u) (hs:A10 w F cs us.toArray):A10 w F (c::cs) (u::us).toArray:=by
 refine⟨by have:=hs.1;simp at this;simp [this],fun j d x hd hx=>?_⟩
 match j with
 | 0=>simp at hd hx;subst hd;subst hx;exact h
 | j+1=>exact hs.2 j d x (by simpa using hd) (by simpa using hx)
end Go.Proofs.YtkejmcgngblfnaaGreatDoor.Ab
namespace Go.Proofs.YtkejmcgngblfnaaGreatDoor.Ab
open Go Go.RowKit Go.ChangeShapes Go.WideShapes
abbrev oldF (w:World):Nat→Prop:=fun b=>b<w.heap.size
def RdT (P:Program) (t sz:Nat) (Q:List AV→Prop):Prop:=
 P.cellsOf t=sz∧∀(H:Type) (enc:TypeId×Value→H) (w:World) (sp:Nat→Bool) (fuel:Nat) (cs:List Value) (x:DataW H×List MemPlace),DataW.trod enc P w 0 sp true fuel t cs=some x→
  ∃asx,Q asx∧asx.length=sz∧cs.length=sz∧∀(j:Nat) a,asx[j]? =some a→∃c,cs[j]? =some c∧c.oneCell'=true∧Rd w (oldF w) n_ a c
section
variable {P:Program}
theorem RdT.mono {t sz:Nat} {Q Q':List AV→Prop} (h:RdT P t sz Q) (hq:∀asx,Q asx→Q' asx):RdT P t sz Q':=
 ⟨h.1,fun H enc w sp fuel cs x hx=>let ⟨asx,h1,h2⟩:=h.2 H enc w sp fuel cs x hx;⟨asx,hq _ h1,h2⟩⟩
theorem ro10 {a:AV} {c:Value} {w:World} (h1:c.oneCell'=true) (h:Rd w (oldF w) n_ a c):∀(j:Nat) b,[a][j]? =some b→∃d,[c][j]? =some d∧d.oneCell'=true∧Rd w (oldF w) n_ b d:=by
 intro j b hb
 match j,hb with
 | 0,hb=>simp at hb;subst hb;exact⟨c,rfl,h1,h⟩
 | j+1,hb=>simp at hb
theorem ri_ {t:Nat} {k:IntKind} (ht:P.underlying t=some (.int k)) (hs:P.cellsOf t=1):RdT P t 1 fun asx=>∃n,asx=[.int k n]∧(Lit.int k n).wf=true:=
 ⟨hs,fun H enc w sp fuel cs x hx=>by
  obtain⟨n,rfl,_,hw⟩:=DataW.trod_int ht hx
  exact⟨_,⟨n,rfl,hw⟩,rfl,rfl,ro10 rfl (.int _ _ _)⟩⟩
def mkE (agg:Bool) (bs:List AV):AV:=if agg then .agg bs else bs.headD .top
theorem rs16 {t e sz:Nat} {Q:List AV→Prop} (agg:Bool) (ht:P.underlying t=some (.slice e)) (hs:P.cellsOf t=1) (h:RdT P e sz Q) (h0:0<sz) (hone:agg=false→∀bs,Q bs→∃b,bs=[b]∧b.cells=[b]):
  RdT P t 1 fun asx=>∃es:List AV,asx=[.seq sz es]∧es.length≤maxLen∧∀x∈es,∃bs,Q bs∧x=mkE agg bs:=by
 refine⟨hs,fun H enc w sp fuel cs x hx=>?_⟩
 rcases DataW.trod_slice ht hx with ⟨rfl,_⟩ | ⟨a,len,cap,elems,rest,n,_,rfl,_,_,hlc,hcm,hel,hat,_⟩
 ·exact⟨_,⟨[],rfl,by simp,by simp⟩,rfl,rfl,ro10 rfl (.seq0 _ _ _ _)⟩
 ·by_cases hl0:len=0
  ·subst hl0
   exact⟨_,⟨[],rfl,by simp,by simp⟩,rfl,rfl,ro10 rfl (.seq0 _ _ _ _)⟩
  rw[h.1] at hat
  have each:∀i,i<len→∃cs asx,w.cells? 0 (a.add (i*sz)) sz=some cs∧Q asx∧asx.length=sz∧cs.length=sz∧∀(j:Nat) b,asx[j]? =some b→∃c,cs[j]? =some c∧c.oneCell'=true∧Rd w (oldF w) n_ b c:=fun i hi=>by
   have h1:=hat i hi
   rw[List.getElem?_eq_getElem (by omega)] at h1
   obtain⟨cs,h2,h3⟩:=Option.bind_eq_some_iff.1 h1
   obtain⟨asx,h4,h5,h6,h7⟩:=h.2 H enc w sp n cs _ h3
   exact⟨cs,asx,h2,h4,h5,h6,h7⟩
  -- the address
  obtain⟨cs0,as0,hc0,_,hl0',hl0'',_⟩:=each 0 (by omega)
  have hcell0:=(World.cells?_some hc0).2.2 0 h0
  have hspot:a.spot=none∧a.block<w.heap.size:=by
   rw[List.getElem?_eq_getElem (by omega)] at hcell0
   simp only[Nat.zero_mul,Addr.add,if_true] at hcell0
   unfold World.cell? at hcell0
   split at hcell0
   ·rename_i c _ _ hb
    split at hcell0
    ·cases hcell0
    ·rename_i hsp
     exact⟨by simpa using hsp,(Array.getElem?_eq_some_iff.1 hb).1⟩
   ·cases hcell0
  obtain⟨g,o,s⟩:=a
  simp only at hspot
  obtain⟨rfl,hg⟩:=hspot
  let asx:Nat→List AV:=fun i=>if hi:i<len then (each i hi).choose_spec.choose else []
  let es:List AV:=(List.range len).map fun i=>mkE agg (asx i)
  have has:∀i (hi:i<len),∃cs,w.cells? 0 ((⟨g,o,none⟩:Addr).add (i*sz)) sz=some cs∧Q (asx i)∧(asx i).length=sz∧cs.length=sz∧∀(j:Nat) b,(asx i)[j]? =some b→∃c,cs[j]? =some c∧c.oneCell'=true∧Rd w (oldF w) n_ b c:=fun i hi=>by
   have:=(each i hi).choose_spec.choose_spec
   simp only[asx,hi,dif_pos]
   exact⟨_,this⟩
  have hec:∀i,i<len→(mkE agg (asx i)).cells=asx i:=fun i hi=>by
   obtain⟨cs,_,hq,_⟩:=has i hi
   cases hagg:agg with
   | true=>rfl
   | false=>
    obtain⟨b,e1,e2⟩:=hone hagg _ hq
    simp only[mkE,Bool.false_eq_true,if_false,e1,List.headD_cons]
    exact e2
  have hel':∀i x,es[i]? =some x→i<len∧x=mkE agg (asx i):=fun i x hx=>by
   have hi:i<len:=by have:=(List.getElem?_eq_some_iff.1 hx).1;simpa [es] using this
   simp only[es,List.getElem?_map,List.getElem?_range hi,Option.map_some,Option.some.injEq] at hx
   exact⟨hi,hx.symm⟩
  have cellAt:∀i (hi:i<len) j,j<sz→∃c,w.cell? ⟨g,o+(i*sz+j),none⟩=some c∧c.oneCell'=true∧∀b,(asx i)[j]? =some b→Rd w (oldF w) n_ b c:=fun i hi j hj=>by
   obtain⟨cs,h1,_,h3,h4,h5⟩:=has i hi
   obtain⟨c,hc,hc1,hr⟩:=h5 j _ (List.getElem?_eq_getElem (by rw[h3];exact hj))
   refine⟨c,?_,hc1,fun b hb=>?_⟩
   ·have:=(World.cells?_some h1).2.2 j hj
    rw[hc,aa10,aa10] at this
    rw[←this]
    congr 2
    omega
   ·rw[List.getElem?_eq_getElem (by rw[h3];exact hj)] at hb
    cases hb
    exact hr
  have hp:∀p,p<len*sz→p / sz<len∧p % sz<sz∧p / sz*sz+p % sz=p:=fun p hp=>⟨Nat.div_lt_of_lt_mul (by rw[Nat.mul_comm];exact hp),Nat.mod_lt _ h0,by rw[Nat.mul_comm];exact Nat.div_add_mod _ _⟩
  have hlen:es.length=len:=by simp [es]
  have key:=Rd.seq (w:=w) (F:=oldF w) n_ sz es g o cap (fun p=>(w.cell? ⟨g,o+p,none⟩).getD Go.undef) h0 hg (by rw[hlen];exact hlc) hcm
   (fun x hx=>by
    obtain⟨i,hi⟩:=List.getElem?_of_mem hx
    obtain⟨hi',rfl⟩:=hel' i x hi
    rw[hec i hi']
    obtain⟨_,_,_,h3,_⟩:=has i hi'
    exact h3)
   (fun p hp'=>by
    rw[hlen] at hp'
    obtain⟨h1,h2,h3⟩:=hp p hp'
    obtain⟨c,hc,_⟩:=cellAt _ h1 _ h2
    rw[h3] at hc
    rw[hc];rfl)
   (fun p hp'=>by
    rw[hlen] at hp'
    obtain⟨h1,h2,h3⟩:=hp p hp'
    obtain⟨c,hc,hc1,_⟩:=cellAt _ h1 _ h2
    rw[h3] at hc
    simp only[hc,Option.getD_some]
    exact hc1)
   (fun i x j b hx hb=>by
    obtain⟨hi',rfl⟩:=hel' i x hx
    rw[hec i hi'] at hb
    have hj:j<sz:=by
     obtain⟨_,_,_,h3,_⟩:=has i hi'
     rw[←h3]
     exact (List.getElem?_eq_some_iff.1 hb).1
    obtain⟨c,hc,_,hr⟩:=cellAt i hi' j hj
    simp only[hc,Option.getD_some]
    exact hr b hb)
  rw[hlen] at key
  refine⟨[.seq sz es],⟨es,rfl,by rw[hlen];omega,fun x hx=>?_⟩,rfl,rfl,ro10 rfl key⟩
  obtain⟨i,hi⟩:=List.getElem?_of_mem hx
  obtain⟨hi',rfl⟩:=hel' i x hi
  obtain⟨_,_,hq,_⟩:=has i hi'
  exact⟨_,hq,rfl⟩
theorem lo_ {α:Type} {f:α→AV}:∀{es:List AV},(∀x∈es,∃a,x=f a)→∃l:List α,es=l.map f
 | [],_ =>⟨[],rfl⟩
 | x::es,h=>by
  obtain⟨a,rfl⟩:=h x (by simp)
  obtain⟨l,rfl⟩:=lo_ (fun y hy=>h y (List.mem_cons_of_mem _ hy))
  exact⟨a::l,rfl⟩
theorem ol_ {H:Type} {enc:TypeId×Value→H} {t:Nat} {Q:List AV→Prop} {W:World} {sp:Nat→Bool} {v:Value} {d:DataW H} {ps:List MemPlace} (h:RdT P t 1 Q) (hv:v.cells=#[v]) (hd:DataW.Trod enc P W 0 sp true t v d ps):∃a,Q [a]∧Rd W (oldF W) n_ a v:=by
 obtain⟨fuel,hf⟩:=hd
 rw[hv] at hf
 obtain⟨asx,q,l1,l2,r⟩:=h.2 _ _ _ _ _ _ _ hf
 match asx,l1 with
 | [a],_ =>
  obtain⟨c,hc,_,hr⟩:=r 0 a rfl
  simp at hc
  subst hc
  exact⟨a,q,hr⟩
theorem as20 {H:Type} {enc:TypeId×Value→H} (hl:laidOutB P=true) {W W':World} (hb:Below W.heap.size W W'):∀{ts:List TypeId} {vs:List Value} {ds:List (DataW H)} {ps:List MemPlace},
  ts.all (fun t=>P.readableRec t&&decide (t<P.types.size))=true→DataW.TrodAll enc P W 0 (fun _ =>true) true ts vs ds ps→(∀p∈ps,p.block<W.heap.size)→
  ∀sp:Nat→Bool,(∀p∈ps,sp p.block=true)→DataW.TrodAll enc P W' 0 sp true ts vs ds ps
 | [],[],[],_,_,h,_,_,_ =>h
 | [],[],_ ::_,_,_,h,_,_,_ =>h.elim
 | [],_ ::_,_,_,_,h,_,_,_ =>h.elim
 | _ ::_,[],_,_,_,h,_,_,_ =>h.elim
 | _ ::_,_ ::_,[],_,_,h,_,_,_ =>h.elim
 | t::ts,v::vs,d::ds,ps,ht,h,hlt,sp,hs=>by
  obtain⟨p,q,h1,h2,rfl⟩:=h
  simp only[List.all_cons,Bool.and_eq_true,decide_eq_true_eq] at ht
  refine⟨p,q,WideElems.Trod_stays hl ht.1.1 ht.1.2 h1 (fun x hx=>hb.same (hlt x (by simp [hx]))) (fun x hx=>hs x (by simp [hx])),?_,rfl⟩
  exact as20 hl hb ht.2 h2 (fun x hx=>hlt x (by simp [hx])) sp fun x hx=>hs x (by simp [hx])
end
end Go.Proofs.YtkejmcgngblfnaaGreatDoor.Ab
namespace Go.Proofs.YtkejmcgngblfnaaGreatDoor.Ab
open Go Go.RowKit Go.ChangeShapes Go.WideShapes
theorem al12 {P:Program} {W:World} {t e g:Nat} {zs:List AV} {cs:Array Value} (_h0:0<zs.length) (_hone:∀a∈zs,a.cells=[a]) (_ht:P.underlying t=some (.array zs.length e)) (hc:P.cellsOf t=zs.length)
  (hcell:∀i,W.cell? ⟨g,i,none⟩=cs[i]?) (hw:∃t fz,W.heap[g]? =some (.cells cs t fz)) (hsz:cs.toList.length=P.cellsOf t)
  (each:∀(i:Nat) a,zs[i]? =some a→∃v,cs[i]? =some v∧v.oneCell'=true∧Rd W (oldF W) n_ a v):Rd W (oldF W) n_ (.eptr (.agg zs) 0) (.pointer (some ⟨g,0,none⟩))∧W_ W g (.agg zs):=by
 have hg:g<W.heap.size:=by
  obtain⟨_,_,h⟩:=hw
  exact (Array.getElem?_eq_some_iff.1 h).1
 refine⟨?_,?_⟩
 ·have key:=Rd.eptr (w:=W) (F:=oldF W) n_ (.agg zs) 0 g 0 (fun p=>(cs[p]?).getD Go.undef) hg
   (fun p hp=>by
    have hp':p<zs.length:=by simpa [AV.cells] using hp
    obtain⟨v,hv,_⟩:=each p zs[p] (List.getElem?_eq_getElem hp')
    rw[Nat.zero_add,hcell,hv];rfl)
   (fun p hp=>by
    have hp':p<zs.length:=by simpa [AV.cells] using hp
    obtain⟨v,hv,h1,_⟩:=each p zs[p] (List.getElem?_eq_getElem hp')
    rw[hv];exact h1)
   (fun j c hj=>by
    obtain⟨v,hv,_,h2⟩:=each j c (by simpa [AV.cells] using hj)
    rw[hv];exact h2)
  simpa using key
 ·obtain⟨t',fz,h⟩:=hw
  exact⟨cs,t',fz,h,by simpa [AV.cells,hc] using hsz⟩
theorem sl11 {H:Type} {enc:TypeId×Value→H} {P:Program} {W:World} {t e g:Nat} {sp:Nat→Bool} {held:Bool} {l:List (List UInt8)} {cs:Array Value} {fuel:Nat} {p:List MemPlace} (hl:0<l.length)
  (ht:P.underlying t=some (.array l.length e)) (he:P.underlying e=some .string) (hc:P.cellsOf e=1) (hct:P.cellsOf t=l.length) (hcell:∀i,W.cell? ⟨g,i,none⟩=cs[i]?) (hw:∃t fz,W.heap[g]? =some (.cells cs t fz))
  (hd:DataW.trod enc P W 0 sp held fuel t cs.toList=some (.agg (l.map fun s=>.lit (.string s)),p)):Rd W (oldF W) n_ (.eptr (.agg (l.map AV.str)) 0) (.pointer (some ⟨g,0,none⟩))∧W_ W g (.agg (l.map AV.str)):=by
 obtain⟨xs,m,_,hx,hsz,hn,hel⟩:=DataW.trod_array ht hd
 simp only[Prod.mk.injEq,DataW.agg.injEq] at hx
 have each:∀(i:Nat) (s:List UInt8),l[i]? =some s→cs[i]? =some (Value.string ⟨s.toArray⟩):=fun i s hs=>by
  have hi:=(List.getElem?_eq_some_iff.1 hs).1
  have h1:=hel i hi
  rw[hc,Nat.mul_one,List.getElem?_eq_getElem (by omega)] at h1
  obtain⟨b,e1,e2,_⟩:=DataW.trod_string he h1
  have h2:(l.map fun s=>(DataW.lit (Lit.string s):DataW H))[i]? =(xs.map (·.1))[i]? :=by rw[hx.1]
  rw[List.getElem?_map,List.getElem?_map,hs,List.getElem?_eq_getElem (by omega),e2] at h2
  simp only[Option.map_some,Option.some.injEq,DataW.lit.injEq,Lit.string.injEq] at h2
  have h3:(cs.toList.drop i)[0]? =some (.string b):=by
   have:=congrArg (·[0]?) e1
   simpa [List.getElem?_take] using this
  rw[List.getElem?_drop,Nat.add_zero,Array.getElem?_toList] at h3
  rw[h3,h2]
 refine al12 (by simpa using hl) (fun a ha=>?_) (by simpa using ht) (by simpa using hct) hcell hw hsz fun i a ha=>?_
 ·obtain⟨s,_,rfl⟩:=List.mem_map.1 ha
  rfl
 ·rw[List.getElem?_map] at ha
  obtain⟨s,hs,rfl⟩:=Option.map_eq_some_iff.1 ha
  exact⟨_,each i s hs,rfl,Rd.str _ _⟩
theorem vh_ {P:Program} {w:World} {n:String} {g:Nat} {cs:Array Value} (hg:P.globalNamed n=some g) (h:w.var? P n=some cs):∃t fz,w.heap[g]? =some (.cells cs t fz):=by
 simp only[World.var?,hg,Option.bind_some] at h
 split at h
 ·rename_i c t fz hh
  cases h
  exact⟨t,fz,hh⟩
 ·cases h
theorem la_ {P:Program} {W:World}:∀{l:List (String×DataW Unit)} {ps:List MemPlace} (i:Nat) {n:String} {d:DataW Unit},DataW.LaidVars P W l ps→l[i]? =some (n,d)→
  ∃(g t:Nat) (cs:Array Value) (fuel:Nat) (p:List MemPlace),P.globalNamed n=some g∧(P.globals[g]?).map (·.type)=some t∧(∀i,W.cell? ⟨g,i,none⟩=cs[i]?)∧(∃t fz,W.heap[g]? =some (.cells cs t fz))∧DataW.trod (fun _ =>()) P W 0 (fun _ =>true) false fuel t cs.toList=some (d,p)
 | [],_,i,_,_,_,h=>by simp at h
 | (m,e)::r,ps,0,n,d,h,hi=>by
  simp only[List.getElem?_cons_zero,Option.some.injEq,Prod.mk.injEq] at hi
  obtain⟨rfl,rfl⟩:=hi
  obtain⟨g,t,cs,fuel,p,q,hg,ht,hv,hd,_⟩:=h
  exact⟨g,t,cs,fuel,p,hg,ht,fun i=>World.var?_cell hg hv i,vh_ hg hv,hd⟩
 | (m,e)::r,ps,i+1,n,d,h,hi=>by
  obtain⟨_,_,_,_,_,q,_,_,_,_,h,_⟩:=h
  exact la_ i h (by simpa using hi)
theorem la12 {P:Program} {W:World} {l:List (String×DataW Unit)} (i:Nat) {n:String} {d:DataW Unit} (h:laidMet P l W) (hi:l[i]? =some (n,d)):
  ∃(g t:Nat) (cs:Array Value) (fuel:Nat) (p:List MemPlace),P.globalNamed n=some g∧(P.globals[g]?).map (·.type)=some t∧(∀i,W.cell? ⟨g,i,none⟩=cs[i]?)∧(∃t fz,W.heap[g]? =some (.cells cs t fz))∧DataW.trod (fun _ =>()) P W 0 (fun _ =>true) false fuel t cs.toList=some (d,p):=by
 obtain⟨ps,h,_⟩:=h
 exact la_ i h hi
theorem P_.calls_trueG {P:Program} {G:Nat→Option AV} {f:Nat} {args:List AV} (h:P_ P G f args (.bool true)) {w:World} {F:Nat→Prop} {vs:Array Value} (hg:Good w F G) (ha:A10 w F args vs):
  Calls P f vs w fun e w'=>e= .returned (.bool true)∧Below w.heap.size w w':=by
 refine (h w F vs hg ha).mono ?_
 rintro e w' ⟨v,F',rfl,_,_,_,hr,hb⟩
 cases hr
 exact⟨rfl,hb⟩
end Go.Proofs.YtkejmcgngblfnaaGreatDoor.Ab
namespace Go.Proofs.YtkejmcgngblfnaaGreatDoor.Ab
open Go Go.ChangeShapes Go.WideShapes Go.RowKit
set_option linter.unusedSimpArgs false
set_option maxRecDepth 100000
theorem uw_ {n:Int} (h:(Lit.int .u8 n).wf=true):∃c:UInt8,(AV.int .u8 n)=byV c:=by
 simp [Lit.wf,IntKind.min,IntKind.max,IntKind.signed,IntKind.bits] at h
 refine⟨UInt8.ofNat n.toNat,?_⟩
 unfold byV
 congr 1
 simp
 omega
theorem r20:RdT Tryz.prog 5 1 fun cs=>∃c:UInt8,cs=[byV c]:=
 (ri_ (t:=5) (k:=.u8) (by kernel_rfl) (by kernel_rfl)).mono (by
  rintro _ ⟨n,rfl,h⟩
  obtain⟨c,e⟩:=uw_ h
  exact⟨c,by rw[e]⟩)
theorem r18:RdT Tryz.prog 29 1 fun cs=>∃b:Str,cs=[b_ b]:=
 (rs16 false (t:=29) (by kernel_rfl) (by kernel_rfl) r20 (by decide) (by rintro _ _ ⟨l,rfl⟩;exact⟨_,rfl,rfl⟩)).mono (by
  rintro _ ⟨es,rfl,hl,h⟩
  obtain⟨l,rfl⟩:=lo_ (f:=byV) (fun x hx=>by obtain⟨_,⟨o,e⟩,rfl⟩:=h x hx;exact⟨o,by rw[e];rfl⟩)
  exact⟨l,rfl⟩)
theorem sn10 {W:World} {a:Addr} {v:Value} (h:W.cell? a=some v):a.spot=none:=by
 unfold World.cell? at h
 split at h
 ·split at h
  ·cases h
  ·rename_i hs
   simpa using hs
 ·cases h
theorem ea10 {W:World} {a:Addr} (h:W.var? Tryz.prog "proctor/save.errShort" =some #[.iface tP (.pointer (some a))]) (hs:a.spot=none):Rd W (oldF W) n_ (.eptr (errA (a.block,a.off)) 0) (.pointer (some ⟨0,0,none⟩))∧W_ W 0 (errA (a.block,a.off)):=by
 have hg:Tryz.prog.globalNamed "proctor/save.errShort" =some 0:=by kernel_rfl
 obtain⟨ab,ao,sp⟩:=a
 simp only at hs
 subst hs
 simp only[World.var?,hg,Option.bind_some] at h
 split at h
 ·rename_i cs t fz hb
  simp only[Option.some.injEq] at h
  subst h
  refine⟨?_,_,t,fz,hb,rfl⟩
  have key:=Rd.eptr (w:=W) (F:=oldF W) n_ (errA (ab,ao)) 0 0 0 (fun _ =>.iface tP (.pointer (some ⟨ab,ao,none⟩))) (Array.getElem?_eq_some_iff.1 hb).1
   (fun p hp=>by
    have:p=0:=by simp [AV.cells,errA] at hp;omega
    subst this
    simp [World.cell?,hb])
   (fun p hp=>rfl)
   (fun j c hj=>by
    match j,hj with
    | 0,hj=>cases hj;exact .iface _ _ _ _ (.rawp _ _ _))
  simpa using key
 ·cases h
theorem e13 (u:Nat) (h:Tryz.prog.typeName? 3 u=some "*errors.errorString"):u=tP:=
 typeName_ptr_named (nm:= "errors.errorString") (by rw[show "*" ++ "errors.errorString" = "*errors.errorString" by decide];kernel_rfl) (by kernel_rfl) (by decide) u (by rw[show "*" ++ "errors.errorString" = "*errors.errorString" by decide];exact h)
end Go.Proofs.YtkejmcgngblfnaaGreatDoor.Ab
