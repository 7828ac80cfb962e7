/- Lemmas. -/
import Derived.Test.YtkgcnoghjibiaaaGreatDoorYTh2
set_option linter.unusedSimpArgs false
set_option maxHeartbeats 4000000
set_option maxRecDepth 100000
namespace Go.Proofs.YtkgcnoghjibiaaaGreatDoor.Ab
open Go
theorem hr_ (q:QeaT) (e:EvT) (b:List SlotT):R_ (h15 q e b):=ur_ (ar_ q e _) b
def t18 (q:QeaT) (b:List SlotT):List EvT->Int->List CfgT->List CfgT×Int×Int
 | [],_,set=>(set,0,0)
 | e::l,i,set=>if (e16 q b set e).2=0 then t18 q b l (i+1) (e16 q b set e).1 else ([],(e16 q b set e).2,i+1)
section
variable {q:QeaT} (F:Fct q) {b:List SlotT}
include F
theorem eo12 {e:EvT} {set:List CfgT} (hs:∀c∈set,OnC q c):e16 (ordQ (cutQ q)) b (set.map (nuC q)) e=((e16 q b set e).1.map (nuC q),(e16 q b set e).2)∧∀c∈(e16 q b set e).1,OnC q c:=by
 have h0:=hn11 F e b;obtain⟨h1,h2⟩:=ao14 F (e:=e) (b:=b) hs;unfold e16;show (if h15 (ordQ (cutQ q)) e b=[] then _ else a25 _ _ (h15 (ordQ (cutQ q)) e b))=((if h15 q e b=[] then _ else a25 _ _ (h15 q e b)).1.map _,(if h15 q e b=[] then _ else a25 _ _ (h15 q e b)).2)∧∀c∈(if h15 q e b=[] then _ else a25 _ _ (h15 q e b)).1,_;rw[ae11 (hr_ _ e b),ae11 (hr_ _ e b)];by_cases hn:h15 q e b=[]
 .rw[zY hn,zY (h0.2 hn)];exact⟨rfl,hs⟩
 .rw[zK hn,zK λh=>hn (h0.1 h)];exact⟨h1,h2⟩
theorem to12:∀(l:List EvT) (i:Int) (set:List CfgT),(∀c∈set,OnC q c)->t18 (ordQ (cutQ q)) b l i (set.map (nuC q))=((t18 q b l i set).1.map (nuC q),(t18 q b l i set).2)∧∀c∈(t18 q b l i set).1,OnC q c
 | [],_,_,hs=>⟨rfl,hs⟩
 | e::l,i,set,hs=>by
  obtain⟨h1,h2⟩:=eo12 F (b:=b) (e:=e) hs;unfold t18;rw[h1];dsimp only;split
  .exact to12 l (i+1) _ h2
  .exact⟨rfl,λc hc=>by cases hc⟩
theorem so17:OnC q (s15 q):=⟨F.st.1,mk_s F⟩
theorem so14:s15 (ordQ (cutQ q))=nuC q (s15 q):=by
 have h:(ordQ (cutQ q)).start=(nu (m_ q) q.start.toNat:Nat):=by rw[pe_];show nwM (m_ q) q.start=_;unfold nwM nwQ;rw[zY (mk_s F)]
 unfold s15 nuC;rw[h];rfl
end
def a15 (q:QeaT) (b:List SlotT) (l:List EvT):Bool:=(t18 q b l 0 [s15 q]).1.any (accR q)
theorem ao_ {q:QeaT} (F:Fct q) (b:List SlotT) (l:List EvT):a15 (ordQ (cutQ q)) b l=a15 q b l:=by
 obtain⟨h1,h2⟩:=to12 F (b:=b) l 0 [s15 q] λc hc=>by rw[yZ.1 hc];exact so17 F
 unfold a15;rw[so14 F];rw[uY] at h1;rw[h1,List.any_map];exact ac13 λc hc=>ao18 (h2 c hc)
theorem to23 {q:QeaT} (F:Fct q) (b:List SlotT) (l:List EvT):(t18 (ordQ (cutQ q)) b l 0 [s15 (ordQ (cutQ q))]).2=(t18 q b l 0 [s15 q]).2:=by
 obtain⟨h1,_⟩:=to12 F (b:=b) l 0 [s15 q] λc hc=>by rw[yZ.1 hc];exact so17 F
 rw[uY] at h1;rw[so14 F,h1]
def eqAt (l:List Val) (v:Val):Nat->Bool
 | 0=>false
 | n+1=>match l[n]? with
  | some x=>decide (x=v)
  | none=>false
def putV (l:List Val) (v:Val):List Val:=if eqAt l v (goO l11 v l l.length)=true then l else l.take (goO l11 v l l.length)++v::l.drop (goO l11 v l l.length)
def okV (v:Val):Prop:=v.ok=true
theorem v13:TO l11 okV:=⟨li_,λh k=>lt10 h k,λha hb h=>lt_ ha hb h⟩
theorem ei10 {l:List Val} {v:Val} (hl:∀x∈l,okV x) (hv:okV v):∀n,eqAt l v n=isO l11 l v n
 | 0=>rfl
 | n+1=>by
  simp only[eqAt,isO];cases hx:l[n]? with
  | none=>rfl
  | some x=>
   simp only;by_cases e:x=v
   .subst e;rw[li_];simp
   .rcases lt_ (hl x (zG hx)) hv e with h | h <;> simp [e,h]
theorem pi11 {l:List Val} {v:Val} (hl:∀x∈l,okV x) (hv:okV v):putV l v=putO l11 l v:=by unfold putV putO;rw[ei10 hl hv]
theorem pi_:∀(m w:List Val),(∀x∈m,okV x)->(∀x∈w,okV x)->m.foldl putV w=m.foldl (putO l11) w
 | [],_,_,_ =>rfl
 | v::m,w,hm,hw=>by
  have hv:=hm v zD;rw[zO,zO,pi11 hw hv];refine pi_ m _ (λx hx=>hm x (zR _ hx)) λx hx=>?_;rcases pm13 hx with h | h
  .exact hw x h
  .rw[h];exact hv
structure DomOk (l:List Val):Prop where
 ok:∀x∈l,okV x
 st:l.Pairwise λa b=>l11 a b=true
theorem po11 {m w:List Val} (hm:∀x∈m,okV x) (hw:DomOk w):DomOk (m.foldl putV w)∧∀x,x∈m.foldl putV w↔x∈w∨x∈m:=by rw[pi_ m w hm hw.ok];obtain⟨h1,h2⟩:=v13.puts_strict m w hm hw.ok hw.st;exact⟨⟨λx hx=>((h2 x).1 hx).elim (hw.ok x) (hm x),h1⟩,h2⟩
theorem ps_ {m k w:List Val} (hm:∀x∈m,okV x) (hk:∀x∈k,okV x) (hw:DomOk w) (h:∀x,x∈m↔x∈k):m.foldl putV w=k.foldl putV w:=by obtain⟨a1,a2⟩:=po11 hm hw;obtain⟨b1,b2⟩:=po11 hk hw;exact v13.strict_ext a1.st b1.st λx=>by rw[a2,b2,h]
def v11 (hits:List HitT) (v:Nat):List Val:=hits.filterMap λh=>if (getR h.bind (v:Int)).2=true then some (getR h.bind (v:Int)).1 else none
def e17 (q:QeaT) (e:EvT):List HitT:=if evR q.decls e=true then a_ q e q.symbols.length else []
def addD (q:QeaT) (ds:List (List Val)) (e:EvT):List (List Val):=(List.range q.quants.length).map λv=>(v11 (e17 q e) v).foldl putV ((ds[v]?).getD [])
def d14 (q:QeaT) (l:List EvT):List (List Val):=l.foldl (addD q) (List.replicate q.quants.length [])
theorem gm10 {l:List SlotT} {v:Int} (h:(getR l v).2=true):∃s∈l,s.value=(getR l v).1:=by
 unfold getR at h ⊢;cases hf:l.find? (λs=>s.var==v) with
 | none=>rw[hf] at h;cases h
 | some s=>exact⟨s,vT hf,rfl⟩
theorem hv_ {q:QeaT} {e:EvT} {s:Nat} {h:HitT} (hh:hitR q e s=some h):∀x∈h.bind,x.value∈e.args:=λx hx=>by
 obtain⟨_,_,y,d,_,_,_,_,hgo⟩:=hp_ hh;obtain⟨_,_,g3,_⟩:=ha_ hgo (by simp);rcases g3 x hx with ⟨z,hz,_⟩ | ⟨i,a,v,_,hv,_,hval,_⟩
 .cases hz
 .rw[hval];exact zG hv
theorem vm10 {q:QeaT} {e:EvT} {v:Nat} {x:Val}:x∈v11 (a_ q e q.symbols.length) v↔∃k h,k<q.symbols.length∧hitR q e k=some h∧(getR h.bind (v:Int)).2=true∧(getR h.bind (v:Int)).1=x:=by
 unfold v11 a_;rw[uU];constructor
 .rintro⟨h,hm,hx⟩;obtain⟨k,hk,hr⟩:=uU.1 hm;split at hx
  .rename_i hg;exact⟨k,h,xF.1 hk,hr,hg,wL hx⟩
  .cases hx
 .rintro⟨k,h,hk,hr,hg,rfl⟩;exact⟨h,uU.2 ⟨k,xF.2 hk,hr⟩,by rw[zY hg]⟩
theorem vo_ {q:QeaT} {e:EvT} (he:evR q.decls e=true) {v:Nat}:∀x∈v11 (a_ q e q.symbols.length) v,okV x∧x∈e.args:=λx hx=>by obtain⟨k,h,_,hr,hg,rfl⟩:=vm10.1 hx;obtain⟨s,hs,e1⟩:=gm10 hg;have:=hv_ hr s hs;rw[e1] at this;exact⟨eo14 he _ this,this⟩
theorem dn10:DomOk []:=⟨λ_ h=>(by cases h),.nil⟩
theorem go_ {ds:List (List Val)} (h:∀d∈ds,DomOk d) (v:Nat):DomOk ((ds[v]?).getD []):=by
 cases hd:ds[v]? with
 | none=>exact dn10
 | some d=>exact h d (zG hd)
theorem ao17 {q:QeaT} {ds:List (List Val)} (h:∀d∈ds,DomOk d) (e:EvT):∀d∈addD q ds e,DomOk d:=λd hd=>by
 obtain⟨v,_,rfl⟩:=zI.1 hd;unfold e17;split
 .rename_i he;exact (po11 (λx hx=>(vo_ he x hx).1) (go_ h v)).1
 .exact go_ h v
theorem ao16 {q:QeaT} (F:Fct q) {ds:List (List Val)} (h:∀d∈ds,DomOk d) (e:EvT):addD (ordQ (cutQ q)) ds e=addD q ds e:=by
 have hd:(ordQ (cutQ q)).decls=q.decls:=rfl;have hq:(ordQ (cutQ q)).quants=q.quants:=rfl;unfold addD e17;rw[hd,hq];refine uX λv _ =>?_;by_cases he:evR q.decls e=true
 .rw[zY he,zY he];refine ps_ (λx hx=>(vo_ (q:=ordQ (cutQ q)) he x hx).1) (λx hx=>(vo_ he x hx).1) (go_ h v) λx=>?_;rw[vm10,vm10];constructor
  .rintro⟨s,y,hs,hr,hg,hx⟩;rw[sl12 F] at hs;obtain⟨k,hk,rfl⟩:=po_ F hs;rw[ho_ F e hk] at hr;obtain⟨z,hz,rfl⟩:=zH.1 hr;exact⟨k,z,hk,hz,hg,hx⟩
  .rintro⟨k,y,hk,hr,hg,hx⟩;exact⟨(p_ q).idxOf k,rlH q y,by rw[sl12 F];exact il_ F hk,by rw[ho_ F e hk,hr];rfl,hg,hx⟩
 .rw[zK he,zK he]
theorem dg_ {q:QeaT} (F:Fct q):∀(l:List EvT) (ds:List (List Val)),(∀d∈ds,DomOk d)->l.foldl (addD (ordQ (cutQ q))) ds=l.foldl (addD q) ds
 | [],_,_ =>rfl
 | e::l,ds,h=>by rw[zO,zO,ao16 F h e];exact dg_ F l _ (ao17 h e)
theorem do10 {q:QeaT} (F:Fct q) (l:List EvT):d14 (ordQ (cutQ q)) l=d14 q l:=dg_ F l _ λd hd=>by rw[(List.mem_replicate.1 hd).2];exact dn10
def b10 (some:Bool):List (List Val)->Nat->List SlotT->List (List SlotT)
 | [],_,b=>[b]
 | d::ds,v,b=>(if some=true then b10 some ds (v+1) b else [])++d.flatMap λx=>b10 some ds (v+1) (b++[⟨(v:Int),x⟩])
def w15 (q:QeaT) (l:List EvT) (s:Int×Int) (b:List SlotT):Int×Int:=
 if ¬(t18 q b l 0 [s15 q]).2.1=0∧(s.1=0∨(t18 q b l 0 [s15 q]).2.2<s.1∨((t18 q b l 0 [s15 q]).2.2=s.1∧(t18 q b l 0 [s15 q]).2.1<s.2)) then ((t18 q b l 0 [s15 q]).2.2,(t18 q b l 0 [s15 q]).2.1) else s
def w14 (q:QeaT) (l:List EvT):Int×Int:=(b10 true (d14 q l) 0 []).foldl (w15 q l) (0,0)
def a33 (q:QeaT) (v:Nat):Bool:=match q.quants[v]? with | some y=>y.all | none=>false
def h18 (q:QeaT) (l:List EvT):List (List Val)->Nat->List SlotT->Bool
 | [],_,b=>a15 q b l
 | d::ds,v,b=>if d.any (λx=>h18 q l ds (v+1) (b++[⟨(v:Int),x⟩]) != a33 q v)=true then !a33 q v else a33 q v
def h21 (q:QeaT) (l:List EvT):Bool:=h18 q l (d14 q l) 0 []
theorem wo10 {q:QeaT} (F:Fct q) (l:List EvT):w14 (ordQ (cutQ q)) l=w14 q l:=by unfold w14;rw[do10 F];congr 1;funext s b;unfold w15;rw[to23 F]
theorem hg_ {q:QeaT} (F:Fct q) (l:List EvT):∀(ds:List (List Val)) (v:Nat) (b:List SlotT),h18 (ordQ (cutQ q)) l ds v b=h18 q l ds v b
 | [],_,b=>ao_ F b l
 | d::ds,v,b=>by have ha:a33 (ordQ (cutQ q)) v=a33 q v:=rfl;unfold h18;rw[ha];simp only[hg_ F l ds]
theorem ho11 {q:QeaT} (F:Fct q) (l:List EvT):h21 (ordQ (cutQ q)) l=h21 q l:=by unfold h21;rw[do10 F];exact hg_ F l _ _ _
open Go.RowKit
def e_ (l:List EvT):AV:=.seq 2 (l.map e10)
def d11 (l:List (List Val)):AV:=.seq 1 (l.map v_)
def m11 (n:Int) (d:List Val):Int:=min (n*min ((d.length:Int)+1) 1000000) 1000000
def m16 (ds:List (List Val)):Int:=ds.foldl m11 1
def p16:List (List Val)->Nat
 | []=>1
 | d::ds=>(d.length+1)*p16 ds
theorem pp_:∀ds,1<=p16 ds
 | []=>zN _
 | d::ds=>by have:=pp_ ds;unfold p16;exact Nat.mul_pos (by omega) this
theorem lemR {a b:Int} (ha:0<=a) (hb:1<=b):a<=a*b:=by
 have:=Int.mul_le_mul_of_nonneg_left hb ha
 rwa [Int.mul_one] at this
theorem mg_:∀(ds:List (List Val)) (n:Int),1<=n->ds.foldl m11 n<=150->n*(p16 ds:Int)<=150
 | [],n,_,h=>by show n*((1:Nat):Int)<=150;have:([]:List (List Val)).foldl m11 n=n:=rfl;rw[this] at h;omega
 | d::ds,n,h1,h=>by
  rw[zO] at h;have hk:(1:Int)<=min ((d.length:Int)+1) 1000000:=by omega
  have hn1:1<=n*min ((d.length:Int)+1) 1000000:=Int.le_trans h1 (lemR (by omega) hk);have hm:1<=m11 n d:=by unfold m11;omega
  have ih:=mg_ ds (m11 n d) hm h;have hp:(1:Int)<=p16 ds:=by have:=pp_ ds;omega
  have hle:m11 n d<=150:=Int.le_trans (lemR (by omega) hp) ih;have e1:m11 n d=n*min ((d.length:Int)+1) 1000000:=by unfold m11 at hle ⊢;omega
  have hmin:min ((d.length:Int)+1) 1000000<=150:=by
   have:min ((d.length:Int)+1) 1000000<=n*min ((d.length:Int)+1) 1000000:=by rw[Int.mul_comm];exact lemR (by omega) h1
   omega
  have e2:min ((d.length:Int)+1) 1000000=(d.length:Int)+1:=by omega
  rw[e1,e2] at ih;unfold p16;rw[Int.natCast_mul,<-Int.mul_assoc];exact ih
theorem bl10:∀(ds:List (List Val)) (v:Nat) (b:List SlotT),(b10 true ds v b).length=p16 ds
 | [],_,_ =>rfl
 | d::ds,v,b=>by unfold b10 p16;rw[zY rfl,zL,bl10 ds,List.length_flatMap];have:(d.map λx=>(b10 true ds (v+1) (b++[⟨(v:Int),x⟩])).length)=d.map λ_ =>p16 ds:=uX λx _ =>bl10 ds _ _;rw[this,List.map_const',List.sum_replicate_nat,xM,Nat.one_mul,Nat.add_comm]
theorem ml14 {ds:List (List Val)} (h:m16 ds<=150) (v:Nat) (b:List SlotT):(b10 true ds v b).length<=150:=by have:=mg_ ds 1 (by omega) h;rw[bl10];omega
theorem bm_ {some:Bool}:∀(ds:List (List Val)) (v:Nat) (b:List SlotT),∀x∈b10 some ds v b,x.length<=b.length+ds.length
 | [],v,b,x,hx=>by rw[yZ.1 hx];exact zN _
 | d::ds,v,b,x,hx=>by
  unfold b10 at hx;rcases yB.1 hx with h | h
  .split at h
   .have:=bm_ ds (v+1) b x h;simp only[yH];omega
   .cases h
  .obtain⟨y,_,hy⟩:=List.mem_flatMap.1 h;have:=bm_ ds (v+1) _ x hy;simp only[zL,yH,xY] at this ⊢;omega
theorem pl15 (l:List Val) (v:Val):(putV l v).length<=l.length+1:=by
 unfold putV;split
 .omega
 .have:=gl_ l11 v l l.length;simp only[zL,yH,xG,wN];omega
theorem pl13:∀(m w:List Val),(m.foldl putV w).length<=w.length+m.length
 | [],w=>zN _
 | v::m,w=>by have h1:=pl13 m (putV w v);have h2:=pl15 w v;rw[zO,yH];omega
theorem vl10 (hits:List HitT) (v:Nat):(v11 hits v).length<=hits.length:=List.length_filterMap_le _ _
theorem el11 (q:QeaT) (e:EvT):(e17 q e).length<=q.symbols.length:=by
 unfold e17;split
 .exact al10 q e _
 .exact wC _
theorem al15 {q:QeaT} (ds:List (List Val)) (e:EvT):(addD q ds e).length=q.quants.length:=by unfold addD;rw[zQ,xE]
theorem aa17 {q:QeaT} {ds:List (List Val)} {e:EvT} {n:Nat} (h:∀d∈ds,d.length<=n):∀d∈addD q ds e,d.length<=n+q.symbols.length:=λd hd=>by
 obtain⟨v,_,rfl⟩:=zI.1 hd;have h1:=pl13 (v11 (e17 q e) v) ((ds[v]?).getD []);have h2:=vl10 (e17 q e) v;have h3:=el11 q e;have h4:((ds[v]?).getD []).length<=n:=by
  cases hv:ds[v]? with
  | none=>exact wC _
  | some y=>exact h y (zG hv)
 omega
def E10 (q:QeaT) (l:List EvT):Prop:=∀e∈l,evR q.decls e=true∧(∀v∈e.args,i64 v.int)∧e.args.length<=1000000
structure SetC (q:QeaT) (x:List CfgT):Prop where
 ok:∀c∈x,c.Ok q
 len:x.length<=256
theorem so15 {q:QeaT} (h:q.LintQ) (F:Fct q):SetC q [s15 q]:=by
 refine⟨λc hc=>?_,by simp⟩;rw[yZ.1 hc];refine⟨?_,λv hv=>?_⟩
 .unfold cfgR s15;have hfi:=if11 h;unfold i16 at hfi;simp only[hfi,wX,zJ,zW];exact⟨F.st.1,F.st.2⟩
 .unfold s15 at hv;obtain⟨f,hf,rfl⟩:=zI.1 hv;exact h.f64 f hf
theorem eo_ {q:QeaT} (h:q.LintQ) {b:List SlotT} {x:List CfgT} {e:EvT} (hx:SetC q x) (he:evR q.decls e=true) (he64:∀v∈e.args,i64 v.int):SetC q (e16 q b x e).1:=by
 obtain⟨h1,h2,h3⟩:=ho12 b h he he64;have hsz:=fs10 h.few;unfold e16;split
 .exact hx
 .have:=ao15 h.good h1 h2 hsz.2.2.2.2.1 hx.ok;exact⟨this.1,this.2⟩
theorem to14 {q:QeaT} (h:q.LintQ) {b:List SlotT}:∀(l:List EvT) (i:Int) (x:List CfgT),E10 q l->SetC q x->SetC q (t18 q b l i x).1
 | [],_,_,_,hx=>hx
 | e::l,i,x,hl,hx=>by
  have he:=hl e zD;unfold t18;split
  .exact to14 h l _ _ (λy hy=>hl y (zR _ hy)) (eo_ h hx he.1 he.2.1)
  .exact⟨λc hc=>(by cases hc),wC _⟩
open Go.ChangeShapes Go.WideShapes
structure QL64 (q:QeaT):Prop where
 nodes:∀x∈q.nodes,i64 x.value.int
 frees:∀x∈q.frees,i64 x.init.int
theorem r26:RdT Tryz.prog 110 5 λcs=>∃a:FreeT,.agg cs=f10 a∧i64 a.init.int:=
 (rs_ (t:=110) (fs:=(Tryz.prog.fieldsOf 110)) (by kernel_rfl) (by kernel_rfl) (rc_ (f:=(Tryz.prog.fieldsOf 110)[0]!) (rStr (by kernel_rfl) (by kernel_rfl)) (by kernel_rfl) rfl (rc_ (f:=(Tryz.prog.fieldsOf 110)[1]!) r24 (by kernel_rfl) rfl (rn_ _)))).mono (by rintro _ ⟨_,_,rfl,⟨a,rfl⟩,_,_,rfl,⟨v,rfl,hv⟩,rfl⟩;exact⟨⟨a,v⟩,rfl,hv⟩)
theorem r35:RdT Tryz.prog 30 9 λcs=>∃q:{q:QeaT // QL64 q},.agg cs=qeaV q.1:=
 (rs_ (t:=30) (fs:=(Tryz.prog.fieldsOf 30)) (by kernel_rfl) (by kernel_rfl) (rc_ (f:=(Tryz.prog.fieldsOf 30)[0]!) (rStr (by kernel_rfl) (by kernel_rfl)) (by kernel_rfl) rfl (rc_ (f:=(Tryz.prog.fieldsOf 30)[1]!) (rl10 (t:=22) (by kernel_rfl) (by kernel_rfl) r37 (by decide)) (by kernel_rfl) rfl (rc_ (f:=(Tryz.prog.fieldsOf 30)[2]!) (rl10 (t:=23) (by kernel_rfl) (by kernel_rfl) r31 (by decide)) (by kernel_rfl) rfl (rc_ (f:=(Tryz.prog.fieldsOf 30)[3]!) (rl13 (t:=24) (by kernel_rfl) (by kernel_rfl) r26 (by decide)) (by kernel_rfl) rfl (rc_ (f:=(Tryz.prog.fieldsOf 30)[4]!) (rl10 (t:=25) (by kernel_rfl) (by kernel_rfl) r30 (by decide)) (by kernel_rfl) rfl (rc_ (f:=(Tryz.prog.fieldsOf 30)[5]!) (rInt (by kernel_rfl) (by kernel_rfl)) (by kernel_rfl) rfl (rc_ (f:=(Tryz.prog.fieldsOf 30)[6]!) (rl10 (t:=26) (by kernel_rfl) (by kernel_rfl) rSym (by decide)) (by kernel_rfl) rfl (rc_ (f:=(Tryz.prog.fieldsOf 30)[7]!) (rl13 (t:=27) (by kernel_rfl) (by kernel_rfl) r25 (by decide)) (by kernel_rfl) rfl (rc_ (f:=(Tryz.prog.fieldsOf 30)[8]!) (rl10 (t:=28) (by kernel_rfl) (by kernel_rfl) r29 (by decide)) (by kernel_rfl) rfl (rn_ _))))))))))).mono (by rintro _ ⟨_,_,rfl,⟨a,rfl⟩,_,_,rfl,⟨l1,rfl,_⟩,_,_,rfl,⟨l2,rfl,_⟩,_,_,rfl,⟨l3,rfl,_,h3⟩,_,_,rfl,⟨l4,rfl,_⟩,_,_,rfl,⟨s,rfl⟩,_,_,rfl,⟨l5,rfl,_⟩,_,_,rfl,⟨l6,rfl,_,h6⟩,_,_,rfl,⟨l7,rfl,_⟩,rfl⟩;exact⟨⟨⟨a,l1,l2,l3,l4,s,l5,l6,l7⟩,⟨h6,h3⟩⟩,rfl⟩)
theorem r28:RdT Tryz.prog 45 2 λcs=>∃e:EvT,.agg cs=e10 e∧∀v∈e.args,i64 v.int:=r32.mono (by rintro _ ⟨e,h⟩;exact⟨e.1,h,e.2⟩)
theorem r27:RdT Tryz.prog 31 1 λcs=>∃l:{l:List EvT // ∀e∈l,∀v∈e.args,i64 v.int},cs=[e_ l.1]:=
 (rl13 (by kernel_rfl) (by kernel_rfl) r28 (by decide)).mono (by rintro _ ⟨l,rfl,_,h⟩;exact⟨⟨l,h⟩,rfl⟩)
variable {G:Nat->Option AV}
theorem rP10 (l:List Val) (v:Val) (hl:l.length<=1000000) (hv:v.str.length<9223372036854775807):PQ G 74 [v_ l,valV v] (v_ (putV l v)):=by
 refine ppP_ λΦ h=>?_;unfold cpP_;dsimp only;rw[ra_,ra_];refine ac18 (λst=>st=⟨48,[(0,v_ l),(3,.ref 3 0 0),(5,iv (goO l11 v l l.length:Nat)),(19,.bool false)],[(3,⟨false,48,4,[valV v]⟩),(4,⟨true,48,4,[]⟩)]⟩) ?_ ?_
 .clear h;simp -implicitDefEqProofs only[go_sem,v_,valV,zQ];refine al_ (λn st=>st=⟨48,[(0,v_ l),(3,.ref 3 0 0),(5,iv n)],[(3,⟨false,48,4,[valV v]⟩),(4,⟨true,48,4,[]⟩)]⟩∧n<=l.length∧goO l11 v l n=goO l11 v l l.length) l.length ⟨rfl,zN _,rfl⟩ ?_;rintro I hI n st ⟨rfl,hn,hp⟩;rw[<-hp];cases n with
  | zero=>
   have e1:((0:Int)<((0:Nat):Int))=False:=by simp
   repeat' (first|simp -implicitDefEqProofs only[go_sem,e1,yA,valV,v_]|apply ai__<;>intro hb)
   try rfl
  | succ n=>
   obtain⟨x,hx,hxm⟩:=as10 (l:=l) (i:=n) (by omega);have e1:((0:Int)<((n+1:Nat):Int))=True:=by rw[eq_iff_iff];exact⟨λ_ =>trivial,λ_ =>by omega⟩
   have hw:IntKind.wrap .i64 (((n+1:Nat):Int) - 1)=(n:Int):=by rw[wi_ (by omega) (by omega)];omega
   have hls:=rLp_ (G:=G) v x hv;have hps:goO l11 v l (n+1)=if l11 v x=true then goO l11 v l n else n+1:=by rw[goO,hx]
   generalize l11 v x=z at*;obtain⟨x1,x2,x3,x4⟩:=x;obtain⟨v1,v2,v3,v4⟩:=v;simp only[valV] at hls;cases z
   .rw[zK (by decide)] at hps;rw[hps]
    repeat' (first|simp -implicitDefEqProofs only[go_sem,e1,hw,am_ hx,yD,valV,v_]|apply ai__<;>intro hb|refine ac_ hls rfl rfl ?_|fail)
    try rfl
   .rw[zY rfl] at hps;rw[hps] at hp
    repeat' (first|simp -implicitDefEqProofs only[go_sem,e1,hw,am_ hx,yD,valV,v_]|apply ai__<;>intro hb|refine ac_ hls rfl rfl ?_|fail)
    exact aa_ n (by omega) (hI _ _ ⟨rfl,by omega,hp⟩)
 .rintro st hst;subst hst;have hple:=gl_ l11 v l l.length;unfold putV at h;generalize goO l11 v l l.length=n at*;refine ac18 (λst=>st=⟨48,[(0,v_ l),(3,.ref 3 0 0),(5,iv n),(32,.bool false)],[(3,⟨false,48,4,[valV v]⟩),(4,⟨true,48,4,[]⟩)]⟩∧eqAt l v n=false) ?_ ?_
  .cases n with
   | zero=>
    have e1:((0:Int)<((0:Nat):Int))=False:=by simp
    repeat' (first|simp -implicitDefEqProofs only[go_sem,e1,yA,valV,v_,zQ]|apply ai__<;>intro hb)
    first | rfl | exact⟨rfl,rfl⟩
   | succ n=>
    obtain⟨x,hx,hxm⟩:=as10 (l:=l) (i:=n) (by omega);have e1:((0:Int)<((n+1:Nat):Int))=True:=by rw[eq_iff_iff];exact⟨λ_ =>trivial,λ_ =>by omega⟩
    have hw:IntKind.wrap .i64 (((n+1:Nat):Int) - 1)=(n:Int):=by rw[wi_ (by omega) (by omega)];omega
    have his:eqAt l v (n+1)=(x==v):=by rw[eqAt,hx,yY];simp
    have hq:=v14 x v;rw[his] at h ⊢;generalize (x==v)=z at*;obtain⟨x1,x2,x3,x4⟩:=x;obtain⟨v1,v2,v3,v4⟩:=v;dsimp only at hq;have hq2:(x1==v1&&(x2==v2&&(x3==v3&&x4==v4)))=z:=by rw[hq,wX]
    replace hq:=hq.symm;clear his;cases z
    .repeat' (first|simp -implicitDefEqProofs only[go_sem,e1,hw,am_ hx,yD,valV,v_,hq,hq2]|apply ai__<;>intro hb)
     try (first | rfl | exact⟨rfl,rfl⟩)
    .rw[zY rfl] at h
     repeat' (first|simp -implicitDefEqProofs only[go_sem,e1,hw,am_ hx,yD,valV,v_,hq,hq2]|apply ai__<;>intro hb)
     exact hq_ h
  .rintro st ⟨rfl,hat⟩;rw[hat,zK (by decide)] at h;have hs1:=at11 (e:=valV) (sz:=4) (l:=l) (i:=n) (by decide) hple;have hs2:=ad_ (e:=valV) (sz:=4) (l:=l) (i:=n) (by decide) hple;have ht:(l.take n).length=n:=by simp;omega
   have hb1:n*40<=140737488355328:=by omega
   have hb2:(n+1)*40<=140737488355328:=by omega
   have hb3:(n+1+(l.length - n))*40<=140737488355328:=by omega
   obtain⟨v1,v2,v3,v4⟩:=v
   repeat' (first|simp -implicitDefEqProofs only[go_sem,hs1,hs2,valV,v_,zQ,zL,wN,ht,hb1,hb2,hb3]|apply ai__<;>intro hb)
   exact h _ ⟨_,_,rfl,vm_ (e:=valV) (l:=l.take n++⟨v1,v2,v3,v4⟩::l.drop n) (by decide) (by simp [hget,valV];rfl) (by simp;omega),.refl _⟩
theorem mb_:∀(ds:List (List Val)) (n:Int),1<=n->n<=1000000->1<=ds.foldl m11 n∧ds.foldl m11 n<=1000000
 | [],_,h,k=>⟨h,k⟩
 | d::ds,n,h,k=>by
  have hk:(1:Int)<=min ((d.length:Int)+1) 1000000:=by omega
  have h1:1<=n*min ((d.length:Int)+1) 1000000:=Int.le_trans h (lemR (by omega) hk);rw[zO];exact mb_ ds _ (by unfold m11;omega) (by unfold m11;omega)
theorem rMp_ (ds:List (List Val)) (hl:ds.length<=1000) (hd:∀d∈ds,d.length<=1000000):PQ G 12 [d11 ds,.bool true] (iv (m16 ds)):=by
 refine pp28 λΦ h=>?_;unfold cp30;simp -implicitDefEqProofs only[go_sem,d11,zQ];refine al_ (λn st=>∃(i:Nat) (k:Int),i+n=ds.length∧st=⟨28,[(0,d11 ds),(1,.bool true),(5,iv k),(6,iv i)],[]⟩∧(ds.drop i).foldl m11 k=m16 ds∧1<=k∧k<=1000000) ds.length ⟨0,1,by simp,rfl,rfl,by omega,by omega⟩ ?_;rintro I hI n st ⟨i,k,hi,rfl,hgo,h1,h2⟩;by_cases hlt':i<ds.length
 .obtain⟨d,hx,hxm⟩:=as10 hlt';have hw:=ws_ hlt';have hlt:((i:Int)<(ds.length:Int))=True:=by simp;exact hlt'
  have hdl:=hd d hxm;have hw2:IntKind.i64.wrap ((d.length:Int)+1)=(d.length:Int)+1:=wi_ (by omega) (by omega);have hmx:(if 1000000<(d.length:Int)+1 then 1000000 else (d.length:Int)+1)=min ((d.length:Int)+1) 1000000:=by split <;> omega
  rw[da_ hx,zO] at hgo;have hb:=mb_ [d] k h1 h2;have hb':1<=m11 k d∧m11 k d<=1000000:=hb;have hp:k*min ((d.length:Int)+1) 1000000<=1000000000000:=by have h3:min ((d.length:Int)+1) 1000000<=1000000:=Int.min_le_right _ _;have h4:0<=min ((d.length:Int)+1) 1000000:=Int.le_min.2 ⟨by omega,by decide⟩;generalize min ((d.length:Int)+1) 1000000=m at*;exact Int.le_trans (Int.mul_le_mul h2 h3 h4 (by decide)) (by decide)
  have hp0:0<=k*min ((d.length:Int)+1) 1000000:=Int.mul_nonneg (by omega) (Int.le_min.2 ⟨by omega,by decide⟩);have hw3:IntKind.i64.wrap (k*min ((d.length:Int)+1) 1000000)=k*min ((d.length:Int)+1) 1000000:=by generalize k*min ((d.length:Int)+1) 1000000=m at*;exact wi_ (by omega) (by omega)
  have hnx:=hI (n - 1) _ ⟨i+1,m11 k d,by omega,rfl,hgo,hb'⟩;have hk:(if 1000000<IntKind.i64.wrap (k*if 1000000<(d.length:Int)+1 then 1000000 else (d.length:Int)+1) then 1000000 else IntKind.i64.wrap (k*if 1000000<(d.length:Int)+1 then 1000000 else (d.length:Int)+1))=m11 k d:=by rw[hmx,hw3];unfold m11;split <;> omega
  rw[<-hk] at hnx;clear hI h hgo hk hmx
  repeat' (first|simp -implicitDefEqProofs only[go_sem,d11,v_,zQ,hlt,yD,am_ hx,hw,hw2]|apply ai__<;>intro hb)
  exact ae__ hnx
 .have hlt:((i:Int)<(ds.length:Int))=False:=by simp;omega
  rw[yL (by omega)] at hgo;have hk:k=m16 ds:=hgo;subst hk;clear hI
  repeat' (first|simp -implicitDefEqProofs only[go_sem,d11,zQ,hlt,yA]|apply ai__<;>intro hb)
  exact hq_ h
theorem rTp_ {q:QeaT} (hq:q.LintQ) (hsy:SymsOk q) (b:List SlotT) (hb:b.length<=1000000) (l:List EvT) (hl:l.length<=1000000) (he:E10 q l) (set:List CfgT) (hs:SetC q set):
  PQ G 31 [qeaV q,s11 b,c11 set,e_ l] (.tup [c11 (t18 q b l 0 set).1,iv (t18 q b l 0 set).2.1,iv (t18 q b l 0 set).2.2]):=by
 have hsz:=fs10 hq.few;have hset:∀t∈q.trans,t.sets.length<=1000000:=(fo10 q hq.few).sets;refine pp14 λΦ h=>?_;unfold cp16;simp -implicitDefEqProofs only[go_sem,qeaV,d_,q_,f_,s_,s10,n_,t_,e_,zQ];refine al_ (λn st=>∃(i:Nat) (s:List CfgT),i+n=l.length∧st=⟨38,[(1,s11 b),(2,c11 s),(3,e_ l),(4,.ref 4 0 0),(11,iv i)],[(4,⟨false,30,9,[qeaV q]⟩),(8,⟨true,178,2,[]⟩)]⟩∧t18 q b (l.drop i) i s=t18 q b l 0 set∧SetC q s) l.length ⟨0,set,by simp,rfl,rfl,hs⟩ ?_;rintro I hI n st ⟨i,s,hi,rfl,hgo,hsc⟩;rw[<-hgo] at h;by_cases hlt':i<l.length
 .obtain⟨e,hx,hxm⟩:=as10 hlt';have hw:=ws_ hlt';have hlt:((i:Int)<(l.length:Int))=True:=by simp;exact hlt'
  obtain⟨e1,e2,e3⟩:=he e hxm;obtain⟨h1,h2,h3⟩:=ho12 b hq e1 e2;have hc:=rEp_ (G:=G) (set:=s) hq.good hsy e3 hb h1 h2 h3 hsc.ok hsz.2.2.2.2.1 hset (by have:=hsc.len;omega);have hok:=eo_ hq (b:=b) hsc e1 e2;have hdr:t18 q b (l.drop i) i s=if (e16 q b s e).2=0 then t18 q b (l.drop (i+1)) ((i:Int)+1) (e16 q b s e).1 else ([],(e16 q b s e).2,(i:Int)+1):=by rw[da_ hx];rfl
  rw[hdr] at h hgo;have hnx:=λs' h0 h1=>hI (n - 1) _ ⟨i+1,s',by omega,rfl,h0,h1⟩;generalize e16 q b s e=R at*;obtain⟨R1,R2⟩:=R;obtain⟨en,ea⟩:=e;dsimp only at hc hok h hgo hnx;simp only[qeaV,d_,q_,f_,s_,s10,n_,t_,s11,c11,e10] at hc;by_cases h0:R2=0
  .subst h0;rw[zY rfl] at hgo;have hnx:=hnx R1 (by rw[<-hgo];rfl) hok;clear hI h hgo
   repeat' (first|simp -implicitDefEqProofs only[go_sem,qeaV,d_,q_,f_,s_,s10,n_,t_,s11,c11,e_,e10,zQ,hlt,yD,am_ hx,hw]|apply ai__<;>intro hb|refine ac_ hc rfl rfl ?_|fail)
   exact ae__ hnx
  .rw[zK h0] at h;have e0:(R2 != 0)=true:=by simpa using h0
   clear hI hgo hnx
   repeat' (first|simp -implicitDefEqProofs only[go_sem,qeaV,d_,q_,f_,s_,s10,n_,t_,s11,c11,e_,e10,zQ,hlt,yD,am_ hx,hw,e0]|apply ai__<;>intro hb|refine ac_ hc rfl rfl ?_|fail)
   exact hq_ h
 .have hlt:((i:Int)<(l.length:Int))=False:=by simp;omega
  rw[yL (by omega)] at h;clear hI
  repeat' (first|simp -implicitDefEqProofs only[go_sem,e_,zQ,hlt,yA]|apply ai__<;>intro hb)
  exact hq_ h
