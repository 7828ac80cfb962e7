/- Lemmas. -/
import Derived.Test.YtkgcnoghjibiaaaGreatDoorYTb8
import Derived.Test.YtkgcnoghjibiaaaGreatDoorYThA
set_option linter.unusedSimpArgs false
set_option maxHeartbeats 4000000
namespace Go.Proofs.YtkgcnoghjibiaaaGreatDoor.Ab
open Go Go.RowKit
theorem sa_ {q:QeaT} {k:Nat} (h:k<q.symbols.length):q.symbols[k]?=some (symD q k):=by unfold symD;rw[zU h]
theorem sm_ {q:QeaT} {k:Nat} (h:k<q.symbols.length):symD q k∈q.symbols:=zG (sa_ h)
theorem si10 {q:QeaT} (F:Fct q) {i j:Nat} (hi:i<q.symbols.length) (hj:j<q.symbols.length) (e:s31 q i=s31 q j):i=j:=by rw[sa12 (sa_ hi),sa12 (sa_ hj)] at e;have e2:=si12 F.vn F.dn (F.ys _ (sm_ hi)) (F.ys _ (sm_ hj)) e;refine na_ (f:=id) (by rw[tA];exact F.yn) (sa_ hi) (sa_ hj) e2
theorem to21 {q:QeaT} {x:TransT×Int} (h:0<=x.1.symbol):(trT q x).on=s31 q x.1.symbol.toNat:=by show s36 q x.1.symbol=s36 q (x.1.symbol.toNat:Int);rw[Int.toNat_of_nonneg h]
theorem as43 {q:QeaT} (F:Fct q) {k:Nat} (hk:k<q.symbols.length) {o:List Nat} (ho:∀x∈o,x<q.symbols.length):(o.map (s31 q)).any (λy=>decide (s31 q k=y))=decide (k∈o):=by
 rw[yY,yE,zW];constructor
 .rintro⟨y,hy,e⟩;obtain⟨i,hi,rfl⟩:=zI.1 hy;rw[si10 F hk (ho i hi) (by simpa using e)];exact hi
 .exact λh=>⟨_,zI.2 ⟨k,h,rfl⟩,by simp⟩
theorem ao20 {q:QeaT} (F:Fct q) {k:Nat} (hk:k<q.symbols.length) {K:List (TransT×Int)} (hK:∀x∈K,0<=x.1.symbol∧x.1.symbol<q.symbols.length):(K.map (trT q)).any (λx=>decide (s31 q k=x.on))=decide (k∈K.map λx=>x.1.symbol.toNat):=by
 rw[yY,yE,zW];constructor
 .rintro⟨y,hy,e⟩;obtain⟨x,hx,rfl⟩:=zI.1 hy;have h:=hK x hx;rw[to21 h.1] at e;have e2:s31 q k=s31 q x.1.symbol.toNat:=by simpa using e
  exact zI.2 ⟨x,hx,(si10 F hk (by omega) e2).symm⟩
 .intro h;obtain⟨x,hx,rfl⟩:=zI.1 h;exact⟨_,zI.2 ⟨x,hx,rfl⟩,by rw[to21 (hK x hx).1];simp⟩
theorem ag11 {q:QeaT} (F:Fct q) {K:List (TransT×Int)} (hK:∀x∈K,0<=x.1.symbol∧x.1.symbol<q.symbols.length):∀(g:List (TransT×Int)) (o:List Nat),(∀x∈g,0<=x.1.symbol∧x.1.symbol<q.symbols.length)->(∀x∈o,x<q.symbols.length)->
  a24 (o.map (s31 q)) (K.map (trT q)) (g.map (trT q))=((g.map λx=>x.1.symbol.toNat).foldl (g10 (K.map λx=>x.1.symbol.toNat)) o).map (s31 q)
 | [],_,_,_ =>rfl
 | x::g,o,hg,ho=>by
  have hx:=hg x zD;have hk:x.1.symbol.toNat<q.symbols.length:=by omega
  have e:a11 (K.map (trT q)) (o.map (s31 q)) (trT q x)=(g10 (K.map λx=>x.1.symbol.toNat) o x.1.symbol.toNat).map (s31 q):=by
   unfold a11 g10;rw[to21 hx.1,ao20 F hk hK,as43 F hk ho];by_cases h1:x.1.symbol.toNat∈K.map λx=>x.1.symbol.toNat
   .rw[zK (by simp [h1]),zY (.inl h1)]
   .by_cases h2:x.1.symbol.toNat∈o
    .rw[zK (by simp [h2]),zY (.inr h2)]
    .rw[zY ⟨by simpa using h1,by simpa using h2⟩,zK (λh=>h.elim h1 h2),zE];rfl
  show a24 (a11 (K.map (trT q)) (o.map (s31 q)) (trT q x)) (K.map (trT q)) (g.map (trT q))=((g.map λx=>x.1.symbol.toNat).foldl _ (g10 _ o x.1.symbol.toNat)).map (s31 q);rw[e];refine ag11 F hK g _ (λy hy=>hg y (zR _ hy)) λy hy=>?_;unfold g10 at hy;split at hy
  .exact ho y hy
  .rcases yB.1 hy with hy | hy
   .exact ho y hy
   .rw[yZ.1 hy];exact hk
theorem ss10:∀(l:List TransT) (a:Int),(segs l a).map (λx=>x.1.symbol.toNat)=symN l
 | [],_ =>rfl
 | t::l,a=>by show t.symbol.toNat::(segs l _).map _ =t.symbol.toNat::symN l;rw[ss10 l]
theorem rr10 {n:Nat} {l:List Nat} (h:dd [] l=List.range' (n - (dd [] l).length) (dd [] l).length) (hn:(dd [] l).length<=n):r13 n l=List.range (n - (dd [] l).length):=by have hp:r13 n l++dd [] l=List.range n:=pi10 h hn;have hl:=tM List.length hp;rw[zL,xE] at hl;have h2:=tM (List.take (r13 n l).length) hp;rw[List.take_left,List.take_range] at h2;rw[h2];congr 1;omega
theorem ai10 {q:QeaT} (F:Fct q):a24 (t19 q).also ((segK q).map (trT q)) (((segs q.trans 0).filter λx=>!onM (m_ q) x.1.from_).map (trT q))=(ownS q).map (symT q):=by have hs:∀x∈segs q.trans 0,0<=x.1.symbol∧x.1.symbol<(q.symbols.length:Int):=λx hx=>(F.tx x hx).2.1.hs;have h:=gp10 (f:=λx:TransT×Int=>x.1.symbol.toNat) (g:=λx=>!onM (m_ q) x.1.from_) (n:=q.symbols.length) (l:=segs q.trans 0) (by rw[ss10];exact F.od) (by rw[ss10];exact F.ol);simp only[Bool.not_not] at h;rw[ss10,<-rr10 F.od F.ol] at h;show a24 ((r13 q.symbols.length (symN q.trans)).map (s31 q)) _ _ =_;rw[ag11 F (K:=segK q) (λx hx=>hs x (yP.1 hx).1) _ _ (λx hx=>hs x (yP.1 hx).1) λx hx=>(rm_.1 hx).1];have h':List.foldl (g10 ((segK q).map λx=>x.1.symbol.toNat)) (r13 q.symbols.length (symN q.trans)) (((segs q.trans 0).filter λx=>!onM (m_ q) x.1.from_).map λx=>x.1.symbol.toNat)=r13 q.symbols.length (ksQ q):=h;rw[h'];unfold ownS;rw[sJ];exact uX λk hk=>sa12 (sa_ (rm_.1 hk).1)
theorem sa18 {q:QeaT} (W:Fw q) (n:Int):(symG q n).args.length<=12:=by
 unfold symG;cases hx:at? q.symbols n with
 | none=>exact wC _
 | some s=>
  obtain⟨i,_,hi⟩:=at?_some hx;exact W.ya s (zG hi)
theorem pm14 {a:List SymT} {s x:SymT} (h:x∈putY a s):x∈a∨x=s:=by
 unfold putY at h;split at h
 .exact .inl h
 .exact (yB.1 h).imp id yZ.1
theorem pl14 (a:List SymT) (s:SymT):(putY a s).length<=a.length+1:=by unfold putY;split <;> simp
theorem pb_:∀(l a:List SymT),(l.foldl putY a).length<=a.length+l.length∧∀x∈l.foldl putY a,x∈a∨x∈l
 | [],a=>⟨zN _,λx hx=>.inl hx⟩
 | s::l,a=>by
  obtain⟨h1,h2⟩:=pb_ l (putY a s);have h3:=pl14 a s;rw[zO];refine⟨by simp only[yH];omega,λx hx=>?_⟩;rcases h2 x hx with h | h
  .rcases pm14 h with h | rfl
   .exact .inl h
   .exact .inr zD
  .exact .inr (zR _ h)
theorem mb10 {q:QeaT} (W:Fw q) (ix:Int->Nat):∀(K:List (TransT×Int)) (S:Made),(∀x∈S.1,x.args.length<=12)->
  (K.foldl (s17 q ix) S).1.length<=S.1.length+K.length∧(∀x∈(K.foldl (s17 q ix) S).1,x.args.length<=12)∧(K.foldl (s17 q ix) S).2.1.length<=S.2.1.length+40*K.length∧(K.foldl (s17 q ix) S).2.2.length=S.2.2.length+K.length
 | [],S,h=>⟨zN _,h,zN _,rfl⟩
 | x::K,S,h=>by
  have h1:=pl14 S.1 (symG q x.1.symbol);have h2:∀y∈(s17 q ix S x).1,y.args.length<=12:=λy hy=>by
   rcases pm14 (show y∈putY S.1 (symG q x.1.symbol) from hy) with hy | rfl
   .exact h y hy
   .exact sa18 W _
  have h3:(s17 q ix S x).2.1.length<=S.2.1.length+40:=by have:=W.nl;show (nsK q x.2.toNat S.2.1 ((endT x.1 x.2).toNat - x.2.toNat)).length<=_;unfold nsK;rw[zL,zQ,xG,wN];omega
  have h4:(s17 q ix S x).2.2.length=S.2.2.length+1:=by show (S.2.2++[_]).length=_;rw[zL];rfl
  have h5:(s17 q ix S x).1.length<=S.1.length+1:=h1;obtain⟨g1,g2,g3,g4⟩:=mb10 W ix K (s17 q ix S x) h2;rw[zO,yH];exact⟨by omega,g2,by omega,by omega⟩
theorem ks_lt {q:QeaT} (F:Fct q):∀x∈ksQ q,x<q.symbols.length:=λx hx=>by obtain⟨y,hy,rfl⟩:=zI.1 hx;have:=(so_ F y hy).1;omega
theorem fi10 {q:QeaT} (F:Fct q):(segK q).foldl (s17 q (ixQ q)) ((ownS q).foldl putY [],[],[])=((perm q.symbols.length (ksQ q)).map (symD q),(cutQ q).nodes,(cutQ q).trans.map (reT (perm q.symbols.length (ksQ q)))):=by
 have hd:dd (r13 q.symbols.length (ksQ q)) (ksQ q)=perm q.symbols.length (ksQ q):=by have:=dd_ (ksQ q) (r13 q.symbols.length (ksQ q)) [] λx hx h=>(rm_.1 h).2 hx;rw[xT] at this;exact this
 have hn:∀s,(m_ q)[s]?=some true->nwQ (m_ q) s=(nu (m_ q) s:Int):=λs h=>by unfold nwQ;rw[zY h]
 have h:=sf10 F.yn (ix:=ixQ q) (on:=onM (m_ q)) (nw:=nwM (m_ q)) (segK q) (r13 q.symbols.length (ksQ q)) [] [] (λx hx=>(rm_.1 hx).1) (λx hx=>⟨(so_ F x hx).1,(so_ F x hx).2.1,(yP.1 hx).2,hn _ (so_ F x hx).2.2.1,hn _ (so_ F x hx).2.2.2⟩) hd;rw[yU] at h;rw[of10 F.yn];have h2:(segK q).foldl (s17 q (ixQ q)) (ownS q,[],[])=_ :=h;rw[h2];unfold cutQ;simp only[segK,<-tf_]
theorem ci_ (q:QeaT) (P:List Nat):symN ((cutQ q).trans.map (reT P))=(ksQ q).map λx=>P.idxOf x:=by rw[<-cs18];unfold symN;rw[sJ,sJ];refine uX λt _ =>?_;show ((P.idxOf t.symbol.toNat:Nat):Int).toNat=_;rw[zP];rfl
theorem pa12 {n:Nat} {ks:List Nat} (hl:∀x∈ks,x<n):perm (perm n ks).length (ks.map λx=>(perm n ks).idxOf x)=List.range (perm n ks).length:=by
 have h:=pd10 hl;have hlen:=tM List.length h;rw[List.length_range'] at hlen;refine pi10 ?_ ?_
 .rw[hlen];exact h
 .rw[hlen];unfold perm;rw[zL];omega
theorem pl18 {q:QeaT} (F:Fct q):(perm q.symbols.length (ksQ q)).length=q.symbols.length:=by have h:=((List.perm_ext_iff_of_nodup (pn_ q.symbols.length (ksQ q)) List.nodup_range).2 λx=>(pm11 (ks_lt F) x).trans List.mem_range.symm).length_eq;rw[h,xE]
theorem ro14 {q:QeaT} (F:Fct q) (W:Fw q):RunOk (cutT (s20 q) (t19 q)) q (k11 (m_ q) q.states) (ixQ q q.start) (ownS q) (ixQ q) (segK q):=by
 obtain⟨w1,w2,w3,w4,w5,w6,w7,w8,w9,w10⟩:=id W;have hfr:∀x∈segs q.trans 0,0<=x.1.from_∧x.1.from_<(q.states.length:Int):=λx hx=>(F.tx x hx).2.1.hf;have hto:∀x∈segs q.trans 0,0<=x.1.to_∧x.1.to_<(q.states.length:Int):=λx hx=>(F.tx x hx).2.1.ht;have hown:∀s∈ownS q,s∈q.symbols:=λs hs=>by obtain⟨k,hk,rfl⟩:=zI.1 hs;exact sm_ (rm_.1 hk).1
 have hol:(ownS q).length<=12:=by unfold ownS;rw[zQ];have:=rl14 q.symbols.length (ksQ q);omega
 have hKl:(segK q).length<=12:=by have:=xH (λx=>onM (m_ q) x.1.from_) (segs q.trans 0);rw[sl11] at this;unfold segK;omega
 have hstate:∀n:Int,0<=n∧n<(q.states.length:Int)->(m_ q)[n.toNat]?=some true->∃y,at? q.states n=some y∧(k11 (m_ q) q.states)[ixQ q n]?=some y:=λn hn hm=>by obtain⟨y,hy⟩:=at?_in hn.1 hn.2;obtain⟨i,hi,hyi⟩:=at?_some hy;refine⟨y,hy,?_⟩;unfold ixQ;rw[ka10 hm,hi,zP];exact hyi
 refine {n1:=rfl,n2:=rfl,n3:=rfl,n4:=rfl,n5:=sk10 F.sn (ml13 F),n6:=?_,n7:=?_,n8:=sk_ F.sn hfr,d1:=by omega,d2:=λx hx=>(F.dx x hx).2.1,d3:=F.dn,q1:=F.ql,f1:=F.fl,v1:=F.vn,s1:=?_,s2:=?_,a1:=λs hs=>⟨F.ys s (hown s hs),by have:=w9 s (hown s hs);omega⟩,a2:=by omega,a3:=λi hi=>?_,k0:=by omega,k1:=λx hx=>?_,k2:=by omega,k3:=λi hi=>?_,t1:=λv hv=>?_,o1:=λt ht=>?_,o2:=?_}
 .obtain⟨y,h1,h2⟩:=hstate q.start F.st (mk_s F);refine⟨y,h2,?_⟩;show s24 q q.start=y.name;unfold s24;rw[h1]
 .show a24 (t19 q).also ((t19 q).trans.filter _) ((t19 q).trans.filter _)=_;rw[show (t19 q).trans=(segs q.trans 0).map (trT q) from rfl,sk_ F.sn hfr,sg_ F.sn hfr];exact ai10 F
 .have:=(ks10 (m_ q) q.states).length_le;omega
 .rw[<-km_];exact (ks10 _ _).nodup F.sn
 .obtain⟨h1,h2⟩:=pb_ ((ownS q).take i) [];rw[xG,xY] at h1;refine⟨by omega,λx hx=>?_⟩;rcases h2 x hx with h | h
  .cases h
  .have:=w9 x (hown x (wG h));omega
 .have hm:=yP.1 hx;obtain⟨s1,s2,s3,s4⟩:=so_ F x hx;obtain⟨y,hy⟩:=at?_in s1.1 s1.2;obtain⟨i,_,hyi⟩:=at?_some hy;have hym:=zG hyi;exact⟨to13 F hm.1,s2,⟨y,hy,F.ys y hym,by have:=w9 y hym;omega⟩,by have:=w10 _ (sf_ _ _ _ hm.1);omega,hstate _ (hfr x hm.1) s3,hstate _ (hto x hm.1) s4⟩
 .obtain⟨p1,p2⟩:=pb_ (ownS q) [];have p3:∀x∈(ownS q).foldl putY [],x.args.length<=12:=λx hx=>by
   rcases p2 x hx with h | h
   .cases h
   .exact w9 x (hown x h)
  obtain⟨g1,g2,g3,g4⟩:=mb10 W (ixQ q) ((segK q).take i) ((ownS q).foldl putY [],[],[]) p3;rw[xG] at g1 g3 g4;simp only[xY] at p1 g1 g3 g4;exact⟨by omega,λx hx=>by have:=g2 x hx;omega,by omega,by omega⟩
 .rw[fi10 F];obtain⟨s,hs,hv2⟩:=yE.1 (F.qs v hv);refine yE.2 ⟨s,?_,by rw[se10 (F.ys s hs)];exact hv2⟩;obtain⟨k,hk⟩:=zM hs;have hkl:=(zX.1 hk).1;refine zI.2 ⟨k,(pm11 (ks_lt F) k).2 hkl,?_⟩;unfold symD;rw[hk]
 .rw[fi10 F] at ht ⊢;obtain⟨u,hu,rfl⟩:=zI.1 ht;dsimp only;rw[zQ];have hmem:u.symbol.toNat∈ksQ q:=by rw[<-cs18];exact zI.2 ⟨u,hu,rfl⟩
  have hlt:=wP.2 ((pm11 (ks_lt F) u.symbol.toNat).2 (ks_lt F _ hmem));refine⟨vU _,?_⟩;show ((List.idxOf u.symbol.toNat _ :Nat):Int)<_;omega
 .rw[fi10 F];dsimp only;rw[ci_,zQ];exact pa12 (ks_lt F)
theorem sc_ {q q':QeaT} (hf:q'.frees=q.frees) (l:List ExT) (sets:List SetT):s12 q' l sets=s12 q l sets:=by funext a i s;unfold s12;rw[hf]
theorem to15 {q q':QeaT} (hf:q'.frees=q.frees) (hn:q'.nodes=q.nodes) (hs:q'.states=q.states) (hx:e11 q'=e11 q) {t:TransT} {s:Int} (h1:at? q'.symbols s=at? q.symbols t.symbol) (h2:inR s q'.symbols.length=inR t.symbol q.symbols.length) (a:Int):t15 q' ⟨t.from_,s,t.to_,t.guard,t.sets⟩ a=t15 q t a:=by unfold t15 r16;simp only[sc_ hf,hn,hs,hx,h1,h2]
theorem am14 {α β σ:Type} {f:σ->Nat->β->Bool×σ} {g:σ->Nat->α->Bool×σ} {h:α->β}:∀(l:List α),(∀x∈l,∀s i,f s i (h x)=g s i x)->∀(i:Nat) (s:σ),allS f (l.map h) i s=allS g l i s
 | [],_,_,_ =>rfl
 | x::l,hh,i,s=>by
  rw[yJ];unfold allS;rw[hh x zD];split
  .exact am14 l (λy hy=>hh y (zR _ hy)) (i+1) _
  .rfl
theorem ao12 {q q':QeaT} {f:Int->Int} (hf:q'.frees=q.frees) (hn:q'.nodes=q.nodes) (hs:q'.states=q.states) (hx:e11 q'=e11 q) (ht:q'.trans=q.trans.map λt=>⟨t.from_,f t.symbol,t.to_,t.guard,t.sets⟩)
  (h:∀t∈q.trans,at? q'.symbols (f t.symbol)=at? q.symbols t.symbol∧inR (f t.symbol) q'.symbols.length=inR t.symbol q.symbols.length):allS (s26 q') q'.trans 0 0=allS (s26 q) q.trans 0 0:=by
 rw[ht];refine am14 _ (λt htm s i=>?_) 0 0;unfold s26;rw[to15 hf hn hs hx (h t htm).1 (h t htm).2]
def p_ (q:QeaT):List Nat:=perm q.symbols.length (ksQ q)
theorem pe_ (q:QeaT):ordQ (cutQ q)=⟨q.name,q.decls,q.quants,q.frees,k11 (m_ q) q.states,nwM (m_ q) q.start,(p_ q).map (symD q),(cutQ q).nodes,(cutQ q).trans.map (reT (p_ q))⟩:=by unfold ordQ p_;rw[cs18];rfl
theorem pl_ {q:QeaT} (F:Fct q):(p_ q).length=q.symbols.length:=pl18 F
theorem pm_ {q:QeaT} (F:Fct q) (x:Nat):x∈p_ q↔x<q.symbols.length:=pm11 (ks_lt F) x
theorem tl12 {q:QeaT} {on:Int->Bool} {nw:Int->Int}:∀(l:List TransT) {a:Int} (acc:List NodeT×List TransT),0<=a->a<=q.nodes.length->(acc.1.length:Int)<=a->(∀x∈segs l a,0<=x.2∧TIn q x.1 x.2 (endT x.1 x.2))->
  (((segs l a).foldl (t12 on nw q.nodes) acc).1.length:Int)<=endA l a
 | [],a,acc,_,_,h,_ =>h
 | t::r,a,acc,h0,h1,hle,h=>by
  obtain⟨_,hk⟩:=h (t,a) zD;have hk:TIn q t a (endT t a):=hk;have k1:=hk.hle;have k2:=hk.hub;refine tl12 r _ (by omega) k2 ?_ λx hx=>h x (zR _ hx);unfold t12;dsimp only;split
  .have:=ml10 (l:=q.nodes) h0 k1 k2;simp only[zL,zQ];omega
  .omega
theorem tl10 {on:Int->Bool} {nw:Int->Int} {ns:List NodeT}:∀(l:List (TransT×Int)) (acc:List NodeT×List TransT),(l.foldl (t12 on nw ns) acc).2.length<=acc.2.length+l.length
 | [],_ =>zN _
 | x::l,acc=>by
  have h:=tl10 (on:=on) (nw:=nw) (ns:=ns) l (t12 on nw ns acc x);have h2:(t12 on nw ns acc x).2.length<=acc.2.length+1:=by
   unfold t12;split
   .simp
   .omega
  rw[zO,yH];omega
theorem tm13 {on:Int->Bool} {nw:Int->Int} {ns:List NodeT}:∀(l:List (TransT×Int)) (acc:List NodeT×List TransT),∀t∈(l.foldl (t12 on nw ns) acc).2,t∈acc.2∨∃x∈l,on x.1.from_=true∧t.symbol=x.1.symbol∧t.sets.length=x.1.sets.length
 | [],_,_,h=>.inl h
 | x::l,acc,t,h=>by
  rcases tm13 l (t12 on nw ns acc x) t h with h | ⟨y,hy,e⟩
  .unfold t12 at h;split at h
   .rename_i ho;rcases yB.1 h with h | h
    .exact .inl h
    .rw[yZ.1 h];exact .inr ⟨x,zD,ho,rfl,by rw[zQ]⟩
   .exact .inl h
  .exact .inr ⟨y,zR _ hy,e⟩
theorem tn_ {on:Int->Bool} {nw:Int->Int} {ns:List NodeT}:∀(l:List (TransT×Int)) (acc:List NodeT×List TransT),∀z∈(l.foldl (t12 on nw ns) acc).1,z∈acc.1∨∃y∈ns,z.value=y.value
 | [],_,_,h=>.inl h
 | x::l,acc,z,h=>by
  rcases tn_ l (t12 on nw ns acc x) z h with h | h
  .unfold t12 at h;split at h
   .rcases yB.1 h with h | h
    .exact .inl h
    .obtain⟨y,hy,rfl⟩:=zI.1 h;exact .inr ⟨y,vJ (wG hy),rfl⟩
   .exact .inl h
  .exact .inr h
theorem cm14 {q:QeaT} {t:TransT} (h:t∈(cutQ q).trans):∃x∈segK q,t.symbol=x.1.symbol∧t.sets.length=x.1.sets.length:=by
 rcases tm13 _ _ t (show t∈((segs q.trans 0).foldl (t12 (onM (m_ q)) (nwM (m_ q)) q.nodes) ([],[])).2 from h) with h | ⟨x,hx,ho,e⟩
 .cases h
 .exact⟨x,yP.2 ⟨hx,ho⟩,e⟩
theorem cs21 {q:QeaT} (F:Fct q) {t:TransT} (h:t∈(cutQ q).trans):0<=t.symbol∧t.symbol<(q.symbols.length:Int):=by obtain⟨x,hx,e,_⟩:=cm14 h;rw[e];exact (so_ F x hx).1
theorem cnl_ {q:QeaT} (F:Fct q):(cutQ q).nodes.length<=q.nodes.length:=by have:=tl12 (q:=q) (on:=onM (m_ q)) (nw:=nwM (m_ q)) q.trans ([],[]) (xI 0) (by omega) (xI 0) λx hx=>⟨(F.tx x hx).1,(F.tx x hx).2.1⟩;rw[F.te] at this;have h2:((cutQ q).nodes.length:Int)<=q.nodes.length:=this;omega
theorem ct11 (q:QeaT):(cutQ q).trans.length<=q.trans.length:=by have:=tl10 (on:=onM (m_ q)) (nw:=nwM (m_ q)) (ns:=q.nodes) (segs q.trans 0) ([],[]);rw[sl11,xY] at this;have h2:(cutQ q).trans.length<=0+q.trans.length:=this;omega
theorem ec12 {q q':QeaT} (h1:q'.quants=q.quants) (h2:q'.frees=q.frees) (h3:q'.nodes=q.nodes):∀n,exL q' n=exL q n
 | 0=>rfl
 | n+1=>by
  have hs:∀out i x,e14 q' out i x=e14 q out i x:=λout i x=>by unfold e14 l_;rw[h1,h2]
  unfold exL;rw[h3,ec12 h1 h2 h3 n];cases q.nodes[n]? with
  | none=>rfl
  | some x=>simp only[hs]
theorem ec13 {q q':QeaT} (h1:q'.quants=q.quants) (h2:q'.frees=q.frees) (h3:q'.nodes=q.nodes):e11 q'=e11 q:=by unfold e11;rw[h3];exact ec12 h1 h2 h3 _
theorem ca_ {q:QeaT} (F:Fct q):allS (s26 (cutQ q)) (cutQ q).trans 0 0=(true,((cutQ q).nodes.length:Int)):=by
 have hm:(cutQ q).states.length=(m_ q).count true:=kl_ (ml13 F);have h:=to16 (q:=q) (q':=cutQ q) (on:=onM (m_ q)) (nw:=nwM (m_ q)) rfl rfl rfl (λs h0 h1 ho=>by
  have h3:(m_ q)[s.toNat]?=some true:=by simpa [onM] using ho
  have h4:=nu_lt h3;unfold nwM nwQ;rw[zY h3];omega) q.trans 0 (a:=0) ([],[]) (xI 0) (by omega) (xI 0) F.tx (λt ht ho=>by
  have h3:(m_ q)[t.from_.toNat]?=some true:=by simpa [onM] using ho
  have:=mk_to F ht h3;simpa [onM] using this) rfl
 exact h
theorem pa13 {q:QeaT} (F:Fct q) {k:Nat} (h:k<q.symbols.length):((p_ q).map (symD q))[(p_ q).idxOf k]? =q.symbols[k]? :=by have hlt:=wP.2 ((pm_ F k).2 h);rw[zS,zU hlt,uW hlt];exact (sa_ h).symm
theorem oa_ {q:QeaT} (F:Fct q):allS (s26 (ordQ (cutQ q))) (ordQ (cutQ q)).trans 0 0=(true,((cutQ q).nodes.length:Int)):=by
 rw[<-ca_ F,pe_];refine ao12 (q:=cutQ q) (f:=λn=>((p_ q).idxOf n.toNat:Nat)) rfl rfl rfl (ec13 rfl rfl rfl) rfl λt ht=>?_;have h:=cs21 F ht;obtain⟨k,hk⟩:=zA h.1;have hkl:k<q.symbols.length:=by omega
 have hlt:=wP.2 ((pm_ F k).2 hkl);rw[hk,zP];refine⟨?_,?_⟩
 .show at? ((p_ q).map (symD q)) (((p_ q).idxOf k:Nat):Int)=at? q.symbols (k:Int);rw[at?_nat (sa_ hkl)];exact at?_nat ((pa13 F hkl).trans (sa_ hkl))
 .show inR (((p_ q).idxOf k:Nat):Int) ((p_ q).map (symD q)).length=inR (k:Int) q.symbols.length;unfold inR;rw[zQ];have e1:decide (0<=(((p_ q).idxOf k:Nat):Int))=true:=by simp
  have e2:decide ((((p_ q).idxOf k:Nat):Int)<((p_ q).length:Nat))=true:=by simpa using hlt
  have e3:decide (0<=(k:Int))=true:=by simp
  have e4:decide ((k:Int)<(q.symbols.length:Nat))=true:=by simpa using hkl
  rw[e1,e2,e3,e4]
theorem oi10 {q:QeaT}:ordL [] (ordQ (cutQ q)).trans=(dd [] ((ksQ q).map λx=>(p_ q).idxOf x)).map λ(n:Nat)=>(n:Int):=by
 rw[pe_];have h:=od_ ((cutQ q).trans.map (reT (p_ q))) [] λt ht=>by obtain⟨u,_,rfl⟩:=zI.1 ht;exact vU _
 rw[yU] at h;rw[h];congr 2;exact ci_ q (p_ q)
theorem so23 (q:QeaT) (s:SymT):symS (ordQ (cutQ q)) s=symS q s:=rfl
theorem ro12 {q:QeaT} (h:r10 q=true):r10 (ordQ (cutQ q))=true:=by
 have F:=fo12 h;unfold r10 topR at h;simp only[zJ,zW,zB] at h;obtain⟨⟨h1,h2,h3,h4,h5⟩,h6,h7⟩:=h;unfold fewS at h2;simp only[zJ,zW] at h2;unfold h20 at h5;simp only[zJ] at h5;obtain⟨f1,f2,f3,f4,f5,f6⟩:=h2;obtain⟨e1,e2,e3,e4,e5⟩:=h5;have hm:(k11 (m_ q) q.states).length=(m_ q).count true:=kl_ (ml13 F);have hkl:=(ks10 (m_ q) q.states).length_le;have hnu:=nu_lt (mk_s F);have hst:nwM (m_ q) q.start=(nu (m_ q) q.start.toNat:Int):=by unfold nwM nwQ;rw[zY (mk_s F)]
 have hpl:=pl_ F;have hsyl:(ordQ (cutQ q)).symbols.length=q.symbols.length:=by rw[pe_];show ((p_ q).map (symD q)).length=_;rw[zQ,hpl]
 have hnl:=cnl_ F;have htl:=ct11 q;have htl2:(ordQ (cutQ q)).trans.length=(cutQ q).trans.length:=by rw[pe_];show ((cutQ q).trans.map _).length=_;rw[zQ]
 unfold r10 topR fewS h20 t26 s16;simp only[zJ,zW,zB];refine⟨⟨h1,⟨f1,f2,?_,by omega,?_,by omega⟩,?_,?_,e1,e2,e3,?_,e5⟩,⟨?_,?_⟩,?_,?_,?_⟩
 .show ((k11 (m_ q) q.states).length:Int)<=32;omega
 .show ((cutQ q).nodes.length:Int)<=2048;omega
 .show 0<=nwM (m_ q) q.start;rw[hst];omega
 .show nwM (m_ q) q.start<((k11 (m_ q) q.states).length:Int);rw[hst,hm];omega
 .show allI (n18 ((k11 (m_ q) q.states).map (·.name))) ((k11 (m_ q) q.states).map (·.name))=true;rw[<-km_];exact nk10 e4
 .rw[oa_ F]
 .rw[oa_ F];rfl
 .rw[oi10,hsyl];have hd:=pd10 (ks_lt F);rw[at10];intro i s hs;rw[zQ];have hd2:dd [] ((ksQ q).map λx=>(p_ q).idxOf x)=List.range' ((p_ q).length - (dd [] (ksQ q)).length) (dd [] (ksQ q)).length:=hd;rw[hd2] at hs ⊢;have hi:=(zX.1 hs).1;rw[zQ,List.length_range'] at hi;rw[zS,List.getElem?_range' hi] at hs;simp only[yF,zZ] at hs;rw[List.length_range'];have hle:(dd [] (ksQ q)).length<=(p_ q).length:=by
   unfold p_ perm;rw[zL];omega
  rw[zB];omega
 .have hnd:((p_ q).map (symD q)).Nodup:=by
   show List.Pairwise (·≠·) _;rw[List.pairwise_map];refine List.Pairwise.imp_of_mem (λ{a b} ha hb hab e=>hab ?_) (pn_ q.symbols.length (ksQ q));exact na_ (f:=id) (by rw[tA];exact F.yn) (sa_ ((pm_ F a).1 ha)) (sa_ ((pm_ F b).1 hb)) e
  have hsy:(ordQ (cutQ q)).symbols=(p_ q).map (symD q):=by rw[pe_]
  rw[hsy,at10];intro i s hs;unfold symR;rw[so23,hsy];obtain⟨k,hk,rfl⟩:=zI.1 (zG hs);rw[F.ys _ (sm_ ((pm_ F k).1 hk)),yR,yX,wU];intro x hx e;have e:symD q k=x:=by simpa using e
  subst e;obtain⟨j,hj⟩:=zM hx;rw[yN] at hj;split at hj
  .rename_i hji;have:=na_ (f:=id) (by rw[tA];exact hnd) hj hs rfl;omega
  .cases hj
 .rw[at10];intro v y hy;have hv:=(zX.1 (show q.quants[v]?=some y from hy)).1;have hsy:(ordQ (cutQ q)).symbols=(p_ q).map (symD q):=by rw[pe_]
  rw[hsy];obtain⟨s,hs,hv2⟩:=yE.1 (F.qs v hv);refine yE.2 ⟨s,?_,hv2⟩;obtain⟨k,hk⟩:=zM hs;have hkl:=(zX.1 hk).1;refine zI.2 ⟨k,(pm_ F k).2 hkl,?_⟩;unfold symD;rw[hk]
theorem eo13 {op:Int} (h:op<=5) (r s s':Val×Int):evOp op r s=evOp op r s':=by unfold evOp;rw[zY h,zY h]
theorem em10 {q p:QeaT} {b:List SlotT} {vals:List Val} {A B s:Nat} (hq:p.quants=q.quants) (hb:BlkOk q A B) (hs:s<=A) (hn:∀j,A+j<B->p.nodes[s+j]? =(q.nodes[A+j]?).map (m10 ((A:Int) - s))):∀j,A+j<B->ev p b vals (s+j)=ev q b vals (A+j):=by
 intro j
 induction j using Nat.strongRecOn with
 | _ j ih=>
 intro hj;obtain⟨e,e1,e2,e3⟩:=hb.at_ (A+j) (by omega) (by omega);obtain⟨x,hx,_⟩:=as10 (l:=q.nodes) (i:=A+j) (ex_lt e1);have hp:p.nodes[s+j]?=some (m10 ((A:Int) - s) x):=by rw[hn j hj,hx];rfl
 have mo:(m10 ((A:Int) - s) x).op=x.op:=rfl;have mv:(m10 ((A:Int) - s) x).value=x.value:=rfl;rw[ev_at hx,ev_at hp];cases nd_ok hx e1 e2 with
 | leaf h=>
  have hop:x.op=1∨x.op=2∨x.op=3:=by
   unfold l_ at h;by_cases h1:x.op=1
   .exact .inl h1
   .by_cases h2:x.op=2
    .exact .inr (.inl h2)
    .by_cases h3:x.op=3
     .exact .inr (.inr h3)
     .rw[zK h1,zK h2,zK h3] at h;cases h
  have ma:(m10 ((A:Int) - s) x).a=x.a:=zK (by omega);unfold evN;rw[mo,mv,ma,hq];rcases hop with h | h | h
  .rw[zY h,zY h]
  .rw[zK (by omega),zY h,zK (by omega),zY h]
  .rw[zK (by omega),zK (by omega),zY h,zK (by omega),zK (by omega),zY h]
 | one g1 hv ha hb' bb hj0 hbx hbk hee=>
  subst hee;have f:=ex_fr hbx hbk;simp only at e3;have ma:(m10 ((A:Int) - s) x).a=x.a - ((A:Int) - s):=zY (by omega);have t1:(x.a - ((A:Int) - s)).toNat=s+(j - 1):=by omega
  have t2:x.a.toNat=A+(j - 1):=by omega
  have ih1:=ih (j - 1) (by omega) (by omega);unfold evN;rw[mo,zK (by omega),zK (by omega),zK (by omega),zK (by omega),zK (by omega),zK (by omega),ma];dsimp only;rw[t1,t2,zY (show s+(j - 1)<s+j by omega),zY (show A+(j - 1)<A+j by omega),ih1];exact eo13 (by omega) _ _ _
 | two g1 hv hb' bb hj0 hbx hbk a k hak hkb hax hka hee=>
  subst hee;have f1:=ex_fr hbx hbk;have f2:=ex_fr hax hka;simp only at e3;have ma:(m10 ((A:Int) - s) x).a=x.a - ((A:Int) - s):=zY (by omega);have mb:(m10 ((A:Int) - s) x).b=x.b - ((A:Int) - s):=zY (by omega);have t1:(x.a - ((A:Int) - s)).toNat=s+(k - A):=by omega
  have t2:x.a.toNat=A+(k - A):=by omega
  have t3:(x.b - ((A:Int) - s)).toNat=s+(j - 1):=by omega
  have t4:x.b.toNat=A+(j - 1):=by omega
  have ih1:=ih (k - A) (by omega) (by omega);have ih2:=ih (j - 1) (by omega) (by omega);unfold evN;rw[mo,zK (by omega),zK (by omega),zK (by omega),zK (by omega),zK (by omega),zK (by omega),ma,mb];dsimp only;rw[t1,t2,t3,t4,zY (show s+(k - A)<s+j by omega),zY (show A+(k - A)<A+j by omega),zY (show s+(j - 1)<s+j by omega),zY (show A+(j - 1)<A+j by omega),ih1,ih2]
structure Mvd (q p:QeaT) (t t':TransT):Prop where
 mv:∃A B s:Nat,s<=A∧BlkOk q A B∧(∀j,A+j<B->p.nodes[s+j]? =(q.nodes[A+j]?).map (m10 ((A:Int) - s)))∧
  ((t.guard= -1∧t'.guard= -1)∨((A:Int)<=t.guard∧t.guard<B∧t'.guard=t.guard - ((A:Int) - s)))∧t'.sets=t.sets.map (movS ((A:Int) - s))∧∀x∈t.sets,(A:Int)<=x.expr∧x.expr<B
theorem ea13 {q p:QeaT} {b:List SlotT} {vals:List Val} {A B s:Nat} (hq:p.quants=q.quants) (hb:BlkOk q A B) (hs:s<=A) (hn:∀j,A+j<B->p.nodes[s+j]? =(q.nodes[A+j]?).map (m10 ((A:Int) - s))) {r:Int} (h1:(A:Int)<=r) (h2:r<B):ev p b vals (r - ((A:Int) - s)).toNat=ev q b vals r.toNat:=by have h:=em10 (b:=b) (vals:=vals) hq hb hs hn (r.toNat - A) (by omega);rw[show s+(r.toNat - A)=(r - ((A:Int) - s)).toNat by omega,show A+(r.toNat - A)=r.toNat by omega] at h;exact h
theorem gm_ {q p:QeaT} {b:List SlotT} {vals:List Val} {t t':TransT} (hq:p.quants=q.quants) (h:Mvd q p t t'):g_ p b vals t'=g_ q b vals t:=by
 obtain⟨A,B,s,hs,hb,hn,hg,_⟩:=h.mv;unfold g_;rcases hg with ⟨g1,g2⟩ | ⟨g1,g2,g3⟩
 .rw[zY (by omega),zY (by omega)]
 .rw[zK (by omega),zK (by omega),g3,ea13 hq hb hs hn g1 g2]
theorem sm11 {q p:QeaT} {b:List SlotT} {vals:List Val} {A B s:Nat} (hq:p.quants=q.quants) (hb:BlkOk q A B) (hs:s<=A) (hn:∀j,A+j<B->p.nodes[s+j]? =(q.nodes[A+j]?).map (m10 ((A:Int) - s))):∀(l:List SetT) (out:List Val),(∀x∈l,(A:Int)<=x.expr∧x.expr<B)->s25 p b vals (l.map (movS ((A:Int) - s))) out=s25 q b vals l out
 | [],_,_ =>rfl
 | x::l,out,h=>by have hx:=h x zD;have he:=ea13 (b:=b) (vals:=vals) hq hb hs hn hx.1 hx.2;rw[yJ];unfold s25;show (if ¬(ev p b vals (x.expr - ((A:Int) - s)).toNat).2=0 then ([],(ev p b vals (x.expr - ((A:Int) - s)).toNat).2) else s25 p b vals (l.map (movS ((A:Int) - s))) (out.set x.free.toNat (ev p b vals (x.expr - ((A:Int) - s)).toNat).1))=_;rw[he,sm11 hq hb hs hn l _ λy hy=>h y (zR _ hy)]
theorem sm14 {q p:QeaT} {b:List SlotT} {vals out:List Val} {t t':TransT} (hq:p.quants=q.quants) (h:Mvd q p t t'):s25 p b vals t'.sets out=s25 q b vals t.sets out:=by obtain⟨A,B,s,hs,hb,hn,_,h1,h2⟩:=h.mv;rw[h1];exact sm11 hq hb hs hn _ _ h2
theorem fm_ {q p:QeaT} {c c':CfgT} {t t':TransT} {h h':HitT} (hq:p.quants=q.quants) (hm:Mvd q p t t') (hc:c'.vals=c.vals) (h1:h'.bind=h.bind) (h2:h'.frees=h.frees):f14 p c' t' h'=((if (f14 q c t h).2.1=true then ⟨t'.to_,(f14 q c t h).1.vals⟩ else ⟨0,[]⟩),(f14 q c t h).2):=by
 unfold f14;rw[hc,h1,h2,gm_ hq hm,sm14 hq hm];generalize g_ q h.bind (f15 h.frees c.vals) t=g;generalize s25 q h.bind (f15 h.frees c.vals) t.sets (f15 h.frees c.vals)=r;by_cases e1:¬g.2=0∨g.1=false
 .rw[zY e1,zY e1];rfl
 .rw[zK e1,zK e1];by_cases e2:r.2=0
  .rw[zY e2,zY e2];rfl
  .rw[zK e2,zK e2];rfl
inductive F2 {α β:Type} (R:α->β->Prop):List α->List β->Prop where
 | nil:F2 R [] []
 | cons {a:α} {b:β} {l:List α} {k:List β} (h:R a b) (t:F2 R l k):F2 R (a::l) (b::k)
theorem F2.mono {α β:Type} {R S:α->β->Prop}:∀{l:List α} {k:List β},F2 R l k->(∀a b,a∈l->R a b->S a b)->F2 S l k
 | _,_,.nil,_ =>.nil
 | _,_,.cons h t,f=>.cons (f _ _ zD h) (t.mono λa b ha=>f a b (zR _ ha))
theorem F2.map {α β γ:Type} {R:α->β->Prop} {S:α->γ->Prop} {f:β->γ} (hf:∀a b,R a b->S a (f b)):∀{l:List α} {k:List β},F2 R l k->F2 S l (k.map f)
 | _,_,.nil=>.nil
 | _,_,.cons h t=>.cons (hf _ _ h) (t.map hf)
theorem F2.flat {α β γ δ:Type} {R:α->β->Prop} {f:α->List γ} {g:β->List δ} {w:γ->δ}:∀{l:List α} {k:List β},F2 R l k->(∀a b,a∈l->R a b->g b=(f a).map w)->k.flatMap g=(l.flatMap f).map w
 | _,_,.nil,_ =>rfl
 | _,_,.cons h t,e=>by rw[wB,wB,zE,e _ _ zD h,t.flat λa b ha=>e a b (zR _ ha)]
def CutR (q:QeaT) (nw:Int->Int) (ns:List NodeT) (x:TransT×Int) (t':TransT):Prop:=
 t'.from_=nw x.1.from_∧t'.to_=nw x.1.to_∧t'.symbol=x.1.symbol∧∃s:Nat,(s:Int)<=x.2∧(∀j,x.2.toNat+j<(endT x.1 x.2).toNat->ns[s+j]? =(q.nodes[x.2.toNat+j]?).map (m10 (x.2 - s)))∧t'.guard=(if x.1.guard= -1 then -1 else x.1.guard - (x.2 - s))∧t'.sets=x.1.sets.map (movS (x.2 - s))
theorem tr_ {q:QeaT} {on:Int->Bool} {nw:Int->Int} {ns:List NodeT}:∀(l:List TransT) {a:Int} (acc:List NodeT×List TransT),0<=a->a<=q.nodes.length->(acc.1.length:Int)<=a->(∀x∈segs l a,0<=x.2∧TIn q x.1 x.2 (endT x.1 x.2))->
  ns=((segs l a).foldl (t12 on nw q.nodes) acc).1->F2 (CutR q nw ns) ((segs l a).filter λx=>on x.1.from_) (((segs l a).foldl (t12 on nw q.nodes) acc).2.drop acc.2.length)
 | [],a,acc,_,_,_,_,_ =>by show F2 _ [] (acc.2.drop acc.2.length);rw[uO];exact .nil
 | t::r,a,acc,h0,h1,hle,h,hn=>by
  obtain⟨_,hk⟩:=h (t,a) zD;have hk:TIn q t a (endT t a):=hk;have hr:∀x∈segs r (endT t a),0<=x.2∧TIn q x.1 x.2 (endT x.1 x.2):=λx hx=>h x (zR _ hx);have k1:=hk.hle;have k2:=hk.hub;have hseg:segs (t::r) a=(t,a)::segs r (endT t a):=rfl;rw[hseg,zO] at hn ⊢;by_cases hon:on t.from_=true
  .have hml:=ml10 (l:=q.nodes) h0 k1 k2;have e:t12 on nw q.nodes acc (t,a)=(acc.1++(mid q.nodes a (endT t a)).map (m10 (a - acc.1.length)),acc.2++[⟨nw t.from_,t.symbol,nw t.to_,if t.guard= -1 then -1 else t.guard - (a - acc.1.length),t.sets.map (movS (a - acc.1.length))⟩]):=by
    unfold t12;simp only;rw[zY hon];rfl
   rw[e] at hn ⊢;generalize hT:(⟨nw t.from_,t.symbol,nw t.to_,if t.guard= -1 then -1 else t.guard - (a - acc.1.length),t.sets.map (movS (a - acc.1.length))⟩:TransT)=T at hn ⊢;have ih:=tr_ (on:=on) (nw:=nw) (ns:=ns) r (a:=endT t a) (acc.1++(mid q.nodes a (endT t a)).map (m10 (a - acc.1.length)),acc.2++[T]) (by omega) k2 (by simp only[zL,zQ];omega) hr hn;obtain⟨r1,r2,hF⟩:=ta37 (on:=on) (nw:=nw) (ns:=q.nodes) (segs r (endT t a)) (acc.1++(mid q.nodes a (endT t a)).map (m10 (a - acc.1.length)),acc.2++[T]);rw[hF] at hn ih ⊢;simp only at hn ih ⊢;rw[tP] at ih;rw[uI,zY hon,xL,tP];refine .cons ⟨by rw[<-hT],by rw[<-hT],by rw[<-hT],acc.1.length,hle,λj hj=>?_,by rw[<-hT],by rw[<-hT]⟩ ih;dsimp only at hj ⊢;rw[hn,xL,xV (by omega),uK,xJ (by rw[zQ];omega),zS];unfold mid;rw[yN,zY (by omega),xX]
  .have e:t12 on nw q.nodes acc (t,a)=acc:=by unfold t12;rw[zK hon]
   rw[e] at hn ⊢;rw[uI,zK hon];exact tr_ r acc (by omega) k2 (by omega) hr hn
structure OrdR (q:QeaT) (t t':TransT):Prop where
 fr:t'.from_=(nu (m_ q) t.from_.toNat:Int)
 to:t'.to_=(nu (m_ q) t.to_.toNat:Int)
 sy:t'.symbol=((p_ q).idxOf t.symbol.toNat:Nat)
 mv:Mvd q (ordQ (cutQ q)) t t'
theorem or10 {q:QeaT} (F:Fct q):F2 (λx t'=>OrdR q x.1 t') (segK q) (ordQ (cutQ q)).trans:=by
 have h:=tr_ (q:=q) (on:=onM (m_ q)) (nw:=nwM (m_ q)) (ns:=(cutQ q).nodes) q.trans (a:=0) ([],[]) (xI 0) (by omega) (xI 0) (λx hx=>⟨(F.tx x hx).1,(F.tx x hx).2.1⟩) rfl;have h':F2 (CutR q (nwM (m_ q)) (cutQ q).nodes) (segK q) (cutQ q).trans:=h;have ht:(ordQ (cutQ q)).trans=(cutQ q).trans.map (reT (p_ q)):=by rw[pe_]
 rw[ht];refine F2.map (R:=λx t'=>x∈segK q∧CutR q (nwM (m_ q)) (cutQ q).nodes x t') (λx t' hx=>?_) (h'.mono λx t' hm hx=>⟨hm,hx⟩);obtain⟨hm,c1,c2,c3,s,c4,c5,c6,c7⟩:=hx;obtain⟨m1,m2,m3,m4⟩:=so_ F x hm;have hseg:=(yP.1 hm).1;have hk:=to13 F hseg;have hi:=hk.ok;obtain⟨t,a⟩:=x;dsimp only at c1 c2 c3 c4 c5 c6 c7 m1 m2 m3 m4 hk hi;obtain⟨A,rfl⟩:=zA m2;have hle:=hi.hle;have hub:=hi.hub;obtain⟨B,hB⟩:=zA (show 0<=endT t (A:Int) by omega);rw[hB] at hk c5;have hn:∀s,(m_ q)[s]?=some true->nwQ (m_ q) s=(nu (m_ q) s:Int):=λs h=>by unfold nwQ;rw[zY h]
 have hsets:∀x∈t.sets,(A:Int)<=x.expr∧x.expr<B:=by
  have key:∀(r:List SetT) (o:List Int) {a:Int},0<=a->a<=q.nodes.length->SetsOkQ q o a r->∀x∈r,a<=x.expr∧x.expr<endS r a:=by
   intro r
   induction r with
   | nil=>intro o a _ _ _ x hx;cases hx
   | cons s r ih=>
    intro o a h0 h1 h x hx;cases h with
    | cons f hf hn hw h=>
     have w:=wi10 hw;rw[el10] at w;have hb:=(sb_ r _ (a:=s.expr+1) (by omega) (by omega) h).h1;rw[ec11];rcases yV.1 hx with rfl | hx
     .exact⟨w.1,by omega⟩
     .have:=ih _ (a:=s.expr+1) (by omega) (by omega) h x hx;exact⟨by omega,this.2⟩
  intro x hx;have he:endT t (A:Int)=endS t.sets (if t.guard= -1 then (A:Int) else t.guard+1):=rfl;rcases hk.gd with hg | hg
  .have:=key t.sets _ (a:=(A:Int)) (by omega) (by omega) (by have:=hk.st;rw[zY hg] at this;exact this) x hx;rw[zY hg] at he;omega
  .obtain⟨i,e,w1,w2,_,_,_,w3,_⟩:=we_ hg;have hgn:¬t.guard= -1:=by omega
   have hlt:=ex_lt w2;have:=key t.sets _ (a:=t.guard+1) (by omega) (by omega) (by have:=hk.st;rw[zK hgn] at this;exact this) x hx;rw[zK hgn] at he;omega
 refine⟨?_,?_,?_,⟨A,B,s,by omega,hk.bk,λj hj=>c5 j (by omega),?_,c7,hsets⟩⟩
 .show t'.from_=_;rw[c1];exact hn _ m3
 .show t'.to_=_;rw[c2];exact hn _ m4
 .show ((p_ q).idxOf t'.symbol.toNat:Int)=_;rw[c3]
 .show (t.guard= -1∧t'.guard= -1)∨_;by_cases hg:t.guard= -1
  .exact .inl ⟨hg,by rw[c6,zY hg]⟩
  .right;have hw:=hk.gd.resolve_left hg;obtain⟨i,e,w1,w2,_,_,_,w3,_⟩:=we_ hw;have hlt:=ex_lt w2;have w1':t.guard=(i:Int):=w1;have w3':(A:Int)<=t.guard:=w3;have hst:=hk.st;rw[zK hg] at hst;have hb:=(sb_ t.sets _ (a:=t.guard+1) (by omega) (by omega) hst).h1;have he:endT t (A:Int)=endS t.sets (t.guard+1):=by unfold endT;rw[zK hg]
   exact⟨w3',by show t.guard<(B:Int);omega,by show t'.guard=_;rw[c6,zK hg]⟩
variable {G:Nat->Option AV}
def h23 (a b:QeaT):Prop:=a.name=b.name∧a.start=b.start∧a.decls=b.decls∧a.quants=b.quants∧a.frees=b.frees∧a.states=b.states
instance (a b:QeaT):Decidable (h23 a b):=inferInstanceAs (Decidable (_ ∧_))
theorem fo14 {q:QeaT} (hf:fewQ q=true) (h:r10 q=true):fewQ (ordQ (cutQ q))=true:=by
 have F:=fo12 h;unfold fewQ f18 at hf;simp only[zJ,zW] at hf;obtain⟨⟨a1,a2,a3,a4,a5,a6,a7,a8⟩,b,c,d,e,f⟩:=hf;have hkl:=(ks10 (m_ q) q.states).length_le;have hpl:=pl_ F;have hnl:=cnl_ F;have htl:=ct11 q;rw[pe_];unfold fewQ f18;simp only[zJ,zW,zQ];refine⟨⟨a1,a2,a3,by omega,by omega,by omega,by omega,a8⟩,b,?_,d,?_,?_⟩
 .rw[at10];intro i s hs;obtain⟨k,hk,rfl⟩:=zI.1 (zG hs);obtain⟨j,hj⟩:=am11 c (sm_ ((pm_ F k).1 hk));exact hj
 .rw[at10];intro i z hz;rcases tn_ _ _ z (show z∈((segs q.trans 0).foldl (t12 (onM (m_ q)) (nwM (m_ q)) q.nodes) ([],[])).1 from zG hz) with h | ⟨y,hy,ey⟩
  .cases h
  .obtain⟨j,hj⟩:=am11 e hy;rw[ey];exact hj
 .rw[at10];intro i t ht;obtain⟨u,hu,rfl⟩:=zI.1 (zG ht);obtain⟨x,hx,_,hx2⟩:=cm14 hu;obtain⟨j,hj⟩:=am11 f (sf_ _ _ _ (yP.1 hx).1);show decide ((u.sets.length:Int)<=12)=true;rw[hx2];exact hj
def OnC (q:QeaT) (c:CfgT):Prop:=0<=c.state∧(m_ q)[c.state.toNat]?=some true
def nuC (q:QeaT) (c:CfgT):CfgT:=⟨(nu (m_ q) c.state.toNat:Nat),c.vals⟩
def rlH (q:QeaT) (h:HitT):HitT:=⟨((p_ q).idxOf h.symbol.toNat:Nat),h.bind,h.frees⟩
theorem hs13 {q:QeaT} {e:EvT} {s:Nat} {h:HitT} (hh:hitR q e s=some h):h.symbol=(s:Int):=by
 unfold hitR at hh;cases hx:q.symbols[s]? with
 | none=>rw[hx] at hh;cases hh
 | some x=>
  rw[hx] at hh;simp only at hh;cases hd:at? q.decls x.event with
  | none=>rw[hd] at hh;cases hh
  | some d=>
   rw[hd] at hh;simp only at hh;split at hh
   .obtain⟨r,_,rfl⟩:=zH.1 hh;rfl
   .cases hh
theorem ho_ {q:QeaT} (F:Fct q) (e:EvT) {k:Nat} (hk:k<q.symbols.length):hitR (ordQ (cutQ q)) e ((p_ q).idxOf k)=(hitR q e k).map (rlH q):=by
 have hs:(ordQ (cutQ q)).symbols[(p_ q).idxOf k]? =q.symbols[k]? :=by rw[pe_];exact pa13 F hk
 have hd:(ordQ (cutQ q)).decls=q.decls:=rfl;unfold hitR;rw[hs,hd];cases q.symbols[k]? with
 | none=>rfl
 | some x=>
  simp only;cases at? q.decls x.event with
  | none=>rfl
  | some d=>
   simp only;split
   .rw[Option.map_map];rfl
   .rfl
theorem mu_ {q:QeaT} {e:EvT} {b:List SlotT} {n:Nat} {h:HitT}:h∈u_ (a_ q e n) b↔(∃s,s<n∧hitR q e s=some h)∧u10 h.bind b=true:=by unfold u_ a_;rw[yP,uU];simp only[xF]
theorem fu_ {q:QeaT} {e:EvT} {b:List SlotT} {n k:Nat} (hk:k<n):(u_ (a_ q e n) b).find? (λh=>h.symbol==(k:Int))=(hitR q e k).filter λh=>u10 h.bind b:=by
 cases hf:(u_ (a_ q e n) b).find? (λh=>h.symbol==(k:Int)) with
 | some h=>
  have hp:=List.find?_some hf;obtain⟨⟨s,hs,hr⟩,hu⟩:=mu_.1 (vT hf);have hsym:=hs13 hr;have:s=k:=by
   have:h.symbol=(k:Int):=by simpa using hp
   omega
  subst this;rw[hr];simp [Option.filter,hu]
 | none=>
  rw[List.find?_eq_none] at hf;cases hr:hitR q e k with
  | none=>rfl
  | some h=>
   have hn:¬u10 h.bind b=true:=λhu=>by have:=hf h (mu_.2 ⟨⟨k,hk,hr⟩,hu⟩);rw[hs13 hr] at this;simp at this
   simp [Option.filter,hn]
theorem sl12 {q:QeaT} (F:Fct q):(ordQ (cutQ q)).symbols.length=q.symbols.length:=by rw[pe_];show ((p_ q).map (symD q)).length=_;rw[zQ,pl_ F]
theorem il_ {q:QeaT} (F:Fct q) {k:Nat} (hk:k<q.symbols.length):(p_ q).idxOf k<q.symbols.length:=by
 have:=wP.2 ((pm_ F k).2 hk)
 rwa [pl_ F] at this
def h15 (q:QeaT) (e:EvT) (b:List SlotT):List HitT:=u_ (a_ q e q.symbols.length) b
theorem fo13 {q:QeaT} (F:Fct q) (e:EvT) (b:List SlotT) {k:Nat} (hk:k<q.symbols.length):(h15 (ordQ (cutQ q)) e b).find? (λh=>h.symbol==(((p_ q).idxOf k:Nat):Int))=((h15 q e b).find? λh=>h.symbol==(k:Int)).map (rlH q):=by
 unfold h15;rw[sl12 F,fu_ (il_ F hk),fu_ hk,ho_ F e hk];cases hitR q e k with
 | none=>rfl
 | some h=>
  show Option.filter _ (some (rlH q h))=_;have:u10 (rlH q h).bind b=u10 h.bind b:=rfl;cases hu:u10 h.bind b <;> simp [Option.filter,hu,this]
theorem po_ {q:QeaT} (F:Fct q) {s:Nat} (hs:s<q.symbols.length):∃k,k<q.symbols.length∧(p_ q).idxOf k=s:=by
 have hl:s<(p_ q).length:=by rw[pl_ F];exact hs
 refine⟨(p_ q)[s],(pm_ F _).1 (tQ hl),?_⟩;exact wZ (pn_ q.symbols.length (ksQ q)) s hl
theorem hn11 {q:QeaT} (F:Fct q) (e:EvT) (b:List SlotT):h15 (ordQ (cutQ q)) e b=[]↔h15 q e b=[]:=by
 unfold h15;rw[vF,vF];constructor
 .intro h x hx;obtain⟨⟨k,hk,hr⟩,hu⟩:=mu_.1 hx;refine h (rlH q x) (mu_.2 ⟨⟨(p_ q).idxOf k,by rw[sl12 F];exact il_ F hk,?_⟩,hu⟩);rw[ho_ F e hk,hr];rfl
 .intro h x hx;obtain⟨⟨s,hs,hr⟩,hu⟩:=mu_.1 hx;rw[sl12 F] at hs;obtain⟨k,hk,rfl⟩:=po_ F hs;rw[ho_ F e hk] at hr;obtain⟨y,hy,rfl⟩:=zH.1 hr;exact h y (mu_.2 ⟨⟨k,hk,hy⟩,hu⟩)
theorem ft12 {q:QeaT} {c:CfgT} {t:TransT} {h:HitT} (hh:(f14 q c t h).2.1=true):(f14 q c t h).1.state=t.to_:=by
 unfold f14 at hh ⊢;split
 .rename_i e;rw[zY e] at hh;cases hh
 .rename_i e;rw[zK e] at hh;split
  .rfl
  .rename_i e2;rw[zK e2] at hh;cases hh
theorem oo11 {q:QeaT} {c:CfgT} (hc:OnC q c) {hits:List HitT} {t:TransT} (h:onM (m_ q) t.from_=false):okT q c hits t=[]∧badT q c hits t=[]:=by
 have hne:¬t.from_=c.state:=λe=>by rw[e] at h;unfold onM at h;rw[hc.2] at h;cases h
 unfold okT badT resT;rw[zK hne];exact⟨rfl,rfl⟩
section
variable {q:QeaT} (F:Fct q) {e:EvT} {b:List SlotT} {c:CfgT}
include F
theorem ro13 (hc:OnC q c) {x:TransT×Int} (hx:x∈segK q) {t':TransT} (ho:OrdR q x.1 t'):resT (ordQ (cutQ q)) (nuC q c) (h15 (ordQ (cutQ q)) e b) t'=(resT q c (h15 q e b) x.1).map λr=>((if r.2.1=true then ⟨t'.to_,r.1.vals⟩ else ⟨0,[]⟩),r.2):=by
 obtain⟨m1,m2,m3,m4⟩:=so_ F x hx;have hf:=(F.tx x (yP.1 hx).1).2.1.hf;unfold resT;have hiff:t'.from_=(nuC q c).state↔x.1.from_=c.state:=by
  rw[ho.fr];constructor
  .intro h;have:=ni11 m3 hc.2 (Int.ofNat.inj h);have:=hc.1;omega
  .intro h;rw[h];rfl
 by_cases h:x.1.from_=c.state
 .rw[zY h,zY (hiff.2 h),ho.sy,fo13 F e b (k:=x.1.symbol.toNat) (by omega),Int.toNat_of_nonneg m1.1,Option.map_map,Option.map_map];congr 1;funext y;exact fm_ (h:=y) (h':=rlH q y) (c:=c) (c':=nuC q c) rfl ho.mv rfl rfl rfl
 .rw[zK h,zK λhh=>h (hiff.1 hh)];rfl
theorem oo16 (hc:OnC q c) {x:TransT×Int} (hx:x∈segK q) {t':TransT} (ho:OrdR q x.1 t'):okT (ordQ (cutQ q)) (nuC q c) (h15 (ordQ (cutQ q)) e b) t'=(okT q c (h15 q e b) x.1).map (nuC q):=by
 unfold okT;rw[ro13 F hc hx ho];cases hr:resT q c (h15 q e b) x.1 with
 | none=>rfl
 | some r=>
  obtain⟨n,f,er⟩:=r;cases f with
  | false=>rfl
  | true=>
   have hn:n.state=x.1.to_:=by
    unfold resT at hr;split at hr
    .obtain⟨y,_,hy⟩:=zH.1 hr;have:=ft12 (q:=q) (c:=c) (t:=x.1) (h:=y) (by rw[hy]);rw[hy] at this;exact this
    .cases hr
   show [(⟨t'.to_,n.vals⟩:CfgT)]=[nuC q n];unfold nuC;rw[ho.to,hn]
theorem bo14 (hc:OnC q c) {x:TransT×Int} (hx:x∈segK q) {t':TransT} (ho:OrdR q x.1 t'):badT (ordQ (cutQ q)) (nuC q c) (h15 (ordQ (cutQ q)) e b) t'=badT q c (h15 q e b) x.1:=by
 unfold badT;rw[ro13 F hc hx ho];cases resT q c (h15 q e b) x.1 with
 | none=>rfl
 | some r=>rfl
end
theorem sf11 {α:Type} (f:TransT->List α):∀(l:List TransT) (a:Int),(segs l a).flatMap (λx=>f x.1)=l.flatMap f
 | [],_ =>rfl
 | t::l,a=>by show f t++(segs l _).flatMap _ =f t++l.flatMap f;rw[sf11 f l]
theorem ff_ {α β:Type} {p:α->Bool} {f:α->List β}:∀{l:List α},(∀x∈l,p x=false->f x=[])->(l.filter p).flatMap f=l.flatMap f
 | [],_ =>rfl
 | x::l,h=>by
  have ih:=ff_ (p:=p) (f:=f) (l:=l) λy hy=>h y (zR _ hy);rw[uI];cases hp:p x with
  | true=>rw[zY rfl,wB,wB,ih]
  | false=>rw[zK (by simp),wB,h x zD hp,ih];rfl
section
variable {q:QeaT} (F:Fct q) {e:EvT} {b:List SlotT} {c:CfgT}
include F
theorem oo14 (hc:OnC q c):oksR (ordQ (cutQ q)) (nuC q c) (h15 (ordQ (cutQ q)) e b)=(oksR q c (h15 q e b)).map (nuC q):=by unfold oksR;rw[<-sf11 (okT q c (h15 q e b)) q.trans 0,<-ff_ (p:=λx=>onM (m_ q) x.1.from_) (l:=segs q.trans 0) λx _ hx=>(oo11 hc hx).1];exact (or10 F).flat λx t' hx ho=>oo16 F hc hx ho
theorem bo13 (hc:OnC q c):b15 (ordQ (cutQ q)) (nuC q c) (h15 (ordQ (cutQ q)) e b)=b15 q c (h15 q e b):=by
 unfold b15;rw[<-sf11 (badT q c (h15 q e b)) q.trans 0,<-ff_ (p:=λx=>onM (m_ q) x.1.from_) (l:=segs q.trans 0) λx _ hx=>(oo11 hc hx).2];have:=(or10 F).flat (f:=λx=>badT q c (h15 q e b) x.1) (g:=badT (ordQ (cutQ q)) (nuC q c) (h15 (ordQ (cutQ q)) e b)) (w:=id) λx t' hx ho=>by rw[tA];exact bo14 F hc hx ho
 rw[tA] at this;exact this
end
theorem so13 {q:QeaT} {c:CfgT} (hc:OnC q c):at? (ordQ (cutQ q)).states (nuC q c).state=at? q.states c.state:=by have hs:(ordQ (cutQ q)).states=k11 (m_ q) q.states:=rfl;obtain⟨k,hk⟩:=zA hc.1;have hm:=hc.2;rw[hk,zP] at hm;rw[hs,hk];unfold nuC at?;rw[hk,zP,zY (vU _),zY (vU _),zP];exact ka10 hm
theorem no10 {q:QeaT} {c:CfgT} (hc:OnC q c):n17 (ordQ (cutQ q)) (nuC q c)=n17 q c:=by unfold n17;rw[so13 hc]
theorem ao18 {q:QeaT} {c:CfgT} (hc:OnC q c):accR (ordQ (cutQ q)) (nuC q c)=accR q c:=by unfold accR;rw[so13 hc]
theorem nm_ {m:List Bool}:∀{i k:Nat},m[i]?=some true->i<k->nu m i<nu m k:=λ{i k} hi hk=>by
 have h1:nu m (i+1)=nu m i+1:=by unfold nu;rw[vC,hi,List.count_append];rfl
 have h2:nu m (i+1)<=nu m k:=by unfold nu;obtain⟨d,rfl⟩:=Nat.exists_eq_add_of_le (show i+1<=k by omega);rw[show m.take (i+1+d)=m.take (i+1)++(m.drop (i+1)).take d from List.take_add,List.count_append];omega
 omega
theorem lo11 {q:QeaT} {a c:CfgT} (ha:OnC q a) (hc:OnC q c):c12 (nuC q a) (nuC q c)=c12 a c:=by
 unfold c12 nuC;dsimp only;have h1:=ha.1;have h2:=hc.1;by_cases e:a.state=c.state
 .rw[e,zK (by simp),zK (by simp)]
 .have hne:¬a.state.toNat=c.state.toNat:=by omega
  have hn:¬((nu (m_ q) a.state.toNat:Nat):Int)=(nu (m_ q) c.state.toNat:Nat):=λh=>hne (ni11 ha.2 hc.2 (Int.ofNat.inj h));rw[zY e,zY hn,decide_eq_decide];rcases vD a.state.toNat c.state.toNat with h | h
  .have:=nm_ ha.2 h;omega
  .have:=nm_ hc.2 (show c.state.toNat<a.state.toNat by omega);omega
theorem oo13 {q:QeaT} {a c:CfgT} (ha:OnC q a) (hc:OnC q c):c18 (nuC q a) (nuC q c)=c18 a c:=by unfold c18;rw[lo11 ha hc,lo11 hc ha]
theorem po12 {q:QeaT} {l:List CfgT} {c:CfgT} (hl:∀x∈l,OnC q x) (hc:OnC q c):∀n,p17 (l.map (nuC q)) (nuC q c) n=p17 l c n
 | 0=>rfl
 | n+1=>by
  unfold p17;rw[zS];cases hx:l[n]? with
  | none=>rfl
  | some x=>
   simp only[yF];rw[lo11 hc (hl x (zG hx)),po12 hl hc n]
theorem io10 {q:QeaT} {l:List CfgT} {c:CfgT} (hl:∀x∈l,OnC q x) (hc:OnC q c):∀n,isAt (l.map (nuC q)) (nuC q c) n=isAt l c n
 | 0=>rfl
 | n+1=>by
  simp only[isAt];rw[zS];cases hx:l[n]? with
  | none=>rfl
  | some x=>
   simp only[yF];rw[oo13 (hl x (zG hx)) hc]
theorem po13 {q:QeaT} {l:List CfgT} {c:CfgT} (hl:∀x∈l,OnC q x) (hc:OnC q c):putR (l.map (nuC q)) (nuC q c)=(putR l c).map (nuC q):=by
 unfold putR;rw[zQ,po12 hl hc,io10 hl hc];split
 .rfl
 .rw[zE,yJ,List.map_take,List.map_drop]
theorem po14 {q:QeaT} {l:List CfgT} {c:CfgT} (hl:∀x∈l,OnC q x) (hc:OnC q c):∀x∈putR l c,OnC q x:=λx hx=>by
 rcases pm10 hx with h | h
 .exact hl x h
 .rw[h];exact hc
theorem po10 {q:QeaT}:∀(l acc:List CfgT),(∀x∈l,OnC q x)->(∀x∈acc,OnC q x)->(l.map (nuC q)).foldl putR (acc.map (nuC q))=(l.foldl putR acc).map (nuC q)∧∀x∈l.foldl putR acc,OnC q x
 | [],acc,_,ha=>⟨rfl,ha⟩
 | c::l,acc,hl,ha=>by have hc:=hl c zD;rw[yJ,zO,zO,po13 ha hc];exact po10 l _ (λx hx=>hl x (zR _ hx)) (po14 ha hc)
section
variable {q:QeaT} (F:Fct q) {e:EvT} {b:List SlotT}
include F
theorem oo15 {c:CfgT} {hits:List HitT} (hc:OnC q c):∀x∈oksR q c hits,OnC q x:=λx hx=>by
 obtain⟨t,ht,hx⟩:=List.mem_flatMap.1 hx;have hoff:=oo11 (hits:=hits) (t:=t) hc;have hon:onM (m_ q) t.from_=true:=by
  cases h:onM (m_ q) t.from_ with
  | true=>rfl
  | false=>rw[(hoff h).1] at hx;cases hx
 have hm:(m_ q)[t.from_.toNat]?=some true:=by simpa [onM] using hon
 unfold okT at hx;split at hx
 .rename_i n er hr;rw[yZ.1 hx];unfold resT at hr;split at hr
  .obtain⟨y,_,hy⟩:=zH.1 hr;have:=ft12 (q:=q) (c:=c) (t:=t) (h:=y) (by rw[hy]);rw[hy] at this;have hst:n.state=t.to_:=this;exact⟨by rw[hst];exact (to11 F t ht).2.1,by rw[hst];exact mk_to F ht hm⟩
  .cases hr
 .cases hx
theorem oo10 {c:CfgT} (hc:OnC q c):oneQ (ordQ (cutQ q)) (nuC q c) (h15 (ordQ (cutQ q)) e b)=((oneQ q c (h15 q e b)).1.map (nuC q),(oneQ q c (h15 q e b)).2)∧∀x∈(oneQ q c (h15 q e b)).1,OnC q x:=by
 have ho:=oo15 F (hits:=h15 q e b) hc;obtain⟨h1,h2⟩:=po10 (oksR q c (h15 q e b)) [] ho λx hx=>by cases hx
 unfold oneQ;rw[bo13 F hc,oo14 F hc,no10 hc];split
 .exact⟨rfl,λx hx=>by cases hx⟩
 .by_cases hn:oksR q c (h15 q e b)=[]∧n17 q c=false
  .rw[zY hn,zY ⟨by rw[hn.1];rfl,hn.2⟩];exact⟨rfl,λx hx=>by rw[yZ.1 hx];exact hc⟩
  .rw[zK hn,zK λh=>hn ⟨List.map_eq_nil_iff.1 h.1,h.2⟩];exact⟨Prod.ext h1 rfl,h2⟩
theorem aa20:∀(set:List CfgT) (s:List CfgT×Int),(∀c∈set,OnC q c)->(∀c∈s.1,OnC q c)->
  (set.map (nuC q)).foldl (a20 (ordQ (cutQ q)) (h15 (ordQ (cutQ q)) e b)) (s.1.map (nuC q),s.2)=((set.foldl (a20 q (h15 q e b)) s).1.map (nuC q),(set.foldl (a20 q (h15 q e b)) s).2)∧∀c∈(set.foldl (a20 q (h15 q e b)) s).1,OnC q c
 | [],s,_,hs=>⟨rfl,hs⟩
 | c::set,s,hset,hs=>by
  obtain⟨h1,h2⟩:=oo10 F (e:=e) (b:=b) (hset c zD);obtain⟨h3,h4⟩:=po10 (oneQ q c (h15 q e b)).1 s.1 h2 hs;rw[yJ,zO,zO];have e1:a20 (ordQ (cutQ q)) (h15 (ordQ (cutQ q)) e b) (s.1.map (nuC q),s.2) (nuC q c)=((a20 q (h15 q e b) s c).1.map (nuC q),(a20 q (h15 q e b) s c).2):=by unfold a20;rw[h1];exact Prod.ext h3 rfl
  rw[e1];exact aa20 set _ (λx hx=>hset x (zR _ hx)) h4
theorem ao14 {set:List CfgT} (hs:∀c∈set,OnC q c):allQ (ordQ (cutQ q)) (set.map (nuC q)) (h15 (ordQ (cutQ q)) e b)=((allQ q set (h15 q e b)).1.map (nuC q),(allQ q set (h15 q e b)).2)∧∀c∈(allQ q set (h15 q e b)).1,OnC q c:=by
 obtain⟨h1,h2⟩:=aa20 F (e:=e) (b:=b) set ([],0) hs λx hx=>by cases hx
 rw[yU] at h1;unfold allQ;rw[h1];dsimp only;split
 .exact⟨rfl,λx hx=>by cases hx⟩
 .rw[zQ];split
  .exact⟨rfl,λx hx=>by cases hx⟩
  .exact⟨rfl,h2⟩
end
