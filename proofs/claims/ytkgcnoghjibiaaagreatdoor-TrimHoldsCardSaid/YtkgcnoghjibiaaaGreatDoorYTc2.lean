/- Lemmas. -/
import Derived.Test.YtkgcnoghjibiaaaGreatDoorYAcRt1
import Derived.Test.YtkgcnoghjibiaaaGreatDoorYAcRt2
import Derived.Test.YtkgcnoghjibiaaaGreatDoorYAcRt3
import Derived.Test.YtkgcnoghjibiaaaGreatDoorYD25
set_option linter.unusedSimpArgs false
set_option maxHeartbeats 4000000
set_option maxRecDepth 100000
namespace Go.Proofs.YtkgcnoghjibiaaaGreatDoor.Ab
open Go Go.RowKit
theorem wn10 {N:Nat} {E:List (Nat×AV)} {H:List (Nat×Box)} {c ty sz:Nat} {cs:List AV} (i:Nat) (k tyi szi:Nat) (hc:hget H c=some ⟨false,ty,sz,[.agg cs]⟩) (hk:cs[k]?=some .nils) (hi:i<N) (hni:hget H i=none) (hs:0<szi) (hs2:0<sz) (hE:p13 i E=E) (hH:p12 i H=H):
  Weak ⟨N,E,H⟩ ⟨N,E,(i,⟨true,tyi,szi,[]⟩)::hset H c ⟨false,ty,sz,[.agg (cs.set k (.arr i 0 0))]⟩⟩:=by
 rintro G C a w ⟨nm,F,h⟩;have hn:∀j,j≠i->upd nm i none j=nm j:=λj hj=>zK hj;have hci:c≠i:=λe=>by subst e;rw[hc] at hni;cases hni
 have hp:∀j b,j≠i->hget H j=some b->p10 i b=b:=λj b hj hb=>by have:=hp10 H i j;rw[hH,zK hj,hb] at this;simpa using this.symm
 have hb:∀j b,hget ((i,(⟨true,tyi,szi,[]⟩:Box))::hset H c ⟨false,ty,sz,[.agg (cs.set k (.arr i 0 0))]⟩) j=some b->(j=i∧b=⟨true,tyi,szi,[]⟩)∨(j≠i∧j=c∧b=⟨false,ty,sz,[.agg (cs.set k (.arr i 0 0))]⟩)∨(j≠i∧j≠c∧hget H j=some b):=λj b hj=>by
  simp only[hget] at hj;split at hj
  .rename_i e;cases hj;exact .inl ⟨e.symm,rfl⟩
  .rename_i e;rw[hh_] at hj;split at hj
   .rename_i e2;cases hj;exact .inr (.inl ⟨λx=>e x.symm,by first | exact e2 | exact e2.symm,rfl⟩)
   .rename_i e2;exact .inr (.inr ⟨λx=>e x.symm,λx=>e2 (by first | exact x | exact x.symm),hj⟩)
 have hold:∀j b,j≠i->hget ((i,(⟨true,tyi,szi,[]⟩:Box))::hset H c ⟨false,ty,sz,[.agg (cs.set k (.arr i 0 0))]⟩) j=some b->∃b',hget H j=some b'∧b'.row=b.row:=λj b hj hb'=>by
  rcases hb j b hb' with ⟨e,_⟩ | ⟨_,rfl,rfl⟩ | ⟨_,_,h3⟩
  .exact absurd e hj
  .exact⟨_,hc,rfl⟩
  .exact⟨b,h3,rfl⟩
 have hu:∀j m,upd nm i none j=some m->j≠i∧nm j=some m:=λj m hm=>by
  simp only[upd] at hm;split at hm
  .cases hm
  .rename_i e;exact⟨e,hm⟩
 refine⟨upd nm i none,F,⟨h.N,h.df,λt=>?_,λj b hj=>?_,λj j' b c' m m' hj hj' hm hm' hg=>?_,λj b m hj hm=>?_,λj b m hj hm=>?_,h.good,h.f0,h.fb,h.keep,λj hj=>?_⟩⟩
 .have:=(h.env t).purge (i:=i) hn;have e:purge i (eget E t)=eget E t:=by rw[<-ep_,hE]
  have e2:St.get ⟨N,E,H⟩ t=eget E t:=rfl;rw[e2,e] at this;exact this
 .rcases hb j b hj with ⟨rfl,rfl⟩ | ⟨h1,rfl,rfl⟩ | ⟨h1,h2,h3⟩
  .exact .inl ⟨zY rfl,rfl,rfl,hs⟩
  .rcases h.box j _ hc with ⟨_,h2,_⟩ | ⟨m,hm,hl⟩
   .cases h2
   .obtain⟨q1,q2,q3,vs,q4,q5,q6,q7,q8,q9⟩:=hl.c hs2;have hp':=hp j _ h1 hc;have hg:purge.go i cs=cs:=by
     simp only[p10,zF,yI,Box.mk.injEq,purge.go,purge,sQ,AV.agg.injEq,true_and,and_true] at hp';exact hp'
    refine .inr ⟨m,by rw[hn _ h1];exact hm,.inl ⟨q1,q2,q3,vs,q4,q5,by simpa using q6,q7,λe he=>?_,λk' e j' c' he hc'=>?_⟩⟩
    .simp only[yZ] at he;subst he;have:=q8 (.agg cs) (by simp);simpa [AV.cells] using this
    .cases k' with
     | succ k'=>simp at he
     | zero=>
      simp only[yK,zZ] at he;subst he;simp only[AV.cells] at hc';rw[xP] at hc';split at hc'
      .rename_i ekj;subst ekj;split at hc'
       .cases hc';obtain⟨u,u1,u2,u3⟩:=q9 0 (.agg cs) k .nils rfl hk;refine⟨u,u1,u2,?_⟩;simp only[zF,yI] at u3 ⊢;cases u3;exact .arrN _ _
       .cases hc'
      .obtain⟨u,u1,u2,u3⟩:=q9 0 (.agg cs) j' c' rfl hc';refine⟨u,u1,u2,?_⟩;simp only[zF,yI] at u3 ⊢;have e3:purge i c'=c':=by
        have:=purge.go_at i cs j';rw[hg] at this;have hc'':cs[j']?=some c':=hc';rw[hc''] at this;simpa using this.symm
       have:=u3.purge (i:=i) hn;rw[e3] at this;exact this
  .rcases h.box j b h3 with ⟨q1,q2⟩ | ⟨m,hm,hl⟩
   .exact .inl ⟨by rw[hn _ h1];exact q1,q2⟩
   .refine .inr ⟨m,by rw[hn _ h1];exact hm,?_⟩;have:=hl.purge (i:=i) hn;rw[hp j b h1 h3] at this;exact this
 .obtain⟨m1,m2⟩:=hu _ _ hm;obtain⟨m3,m4⟩:=hu _ _ hm';obtain⟨b1,b2,_⟩:=hold j b m1 hj;obtain⟨b3,b4,_⟩:=hold j' c' m3 hj';exact h.inj j j' b1 b3 m m' b2 b4 m2 m4 hg
 .obtain⟨m1,m2⟩:=hu _ _ hm;obtain⟨b1,b2,_⟩:=hold j b m1 hj;exact h.fr j b1 m b2 m2
 .obtain⟨m1,m2⟩:=hu _ _ hm;obtain⟨b1,b2,_⟩:=hold j b m1 hj;exact h.own j b1 m b2 m2
 .obtain⟨h1,h2,h3⟩:=h.vn j hj;have hji:j≠i:=λe=>by
   subst e;exact absurd (show j<N from hi) (Nat.not_lt.2 h1)
  refine⟨h1,by rw[hn _ hji];exact h2,λb hb=>?_⟩;obtain⟨b1,b2,b3⟩:=hold j b hji hb;rw[<-b3];exact h3 b1 b2
theorem wh_ {N:Nat} {E:List (Nat×AV)} {H H':List (Nat×Box)} (h:∀j,hget H' j=hget H j):Weak ⟨N,E,H⟩ ⟨N,E,H'⟩:=by
 rintro G C a w ⟨nm,F,r⟩;have e:∀j b,hget H' j=some b->hget H j=some b:=λj b hj=>by rw[<-h];exact hj
 exact⟨nm,F,⟨r.N,r.df,r.env,λj b hj=>r.box j b (e j b hj),λi j b c m m' hi hj=>r.inj i j b c m m' (e i b hi) (e j c hj),λi b m hi=>r.fr i b m (e i b hi),λi b m hi=>r.own i b m (e i b hi),r.good,r.f0,r.fb,r.keep,λi hi=>let ⟨h1,h2,h3⟩:=r.vn i hi;⟨h1,h2,λb hb=>h3 b (e i b hb)⟩⟩⟩
theorem wn11 {N:Nat} {E:List (Nat×AV)} {H:List (Nat×Box)} {c ty sz:Nat} {cs:List AV} (i:Nat) (k tyi szi:Nat) (hc:hget H c=some ⟨false,ty,sz,[.agg cs]⟩) (hk:cs[k]?=some .nils) (hi:i<N) (hni:hget H i=none) (hs:0<szi) (hs2:0<sz) (hE:p13 i E=E) (hH:p12 i H=H):
  Weak ⟨N,E,H⟩ ⟨N,E,happ (hset H c ⟨false,ty,sz,[.agg (cs.set k (.arr i 0 0))]⟩) [(i,⟨true,tyi,szi,[]⟩)]⟩:=by
 refine (wn10 i k tyi szi hc hk hi hni hs hs2 hE hH).trans (wh_ λj=>?_);rw[hh10];have hci:c≠i:=λe=>by subst e;rw[hc] at hni;cases hni
 simp only[hget];by_cases hj:i=j
 .subst hj;rw[hh_,zK hci,hni]
 .rw[zK hj,zK hj];cases hget (hset H c ⟨false,ty,sz,[.agg (cs.set k (.arr i 0 0))]⟩) j <;> rfl
theorem vr12 {α:Type} {e:α->AV} {sz:Nat} {H:List (Nat×Box)} {i n:Nat} {ty:Nat} {l:List α} (h0:0<sz) (hH:hget H i=some ⟨true,ty,sz,l.map e⟩) (hn:l.length=n):view H (.arr i 0 n)=some (.seq sz (l.map e)):=by subst hn;simp only[view,hH,yS,zQ,zN,and_self,and_true,h0,xW,xO];rw[zT (by simp)]
theorem t39 {α:Type} {l:List α} {i:Nat} {x:α} (h:l[i]?=some x):l.take (i+1)=l.take i++[x]:=by rw[vC,h];rfl
theorem ft_ {α:Type} {p:α->Bool} {l:List α} {i:Nat} {x:α} (h:l[i]?=some x):(l.take (i+1)).filter p=(l.take i).filter p++if p x then [x] else []:=by rw[t39 h,vP];cases hp:p x <;> simp [hp]
theorem of_ {v:AV}:OkC [.eptr v 0]:=⟨λ_ =>rfl,λ_ _ =>rfl,λ_ =>rfl,λ_ _ =>rfl,λ_ =>rfl,λ_ =>rfl⟩
theorem of11 {v u:AV}:OkC [.eptr v 0,.eptr u 0]:=⟨λ_ =>rfl,λ_ _ =>rfl,λ_ =>rfl,λ_ _ =>rfl,λ_ =>rfl,λ_ =>rfl⟩
theorem P_.of_row {P:Program} {G:Nat->Option AV} {f:Nat} {args:List AV} {ty sz:Nat} {es:List AV} (h:H_ P G f args [] (.arr 1000 0 es.length) [(1000,⟨true,ty,sz,es⟩)]) (h0:0<sz):P_ P G f args (.seq sz es):=by
 intro w F vs hg ha;refine (h w F n10 vs hg ha ⟨λi b hi=>by simp [hget] at hi,λi j b c m m' hi=>by simp [hget] at hi,λi b m hi=>by simp [hget] at hi⟩).mono ?_;rintro e w' ⟨v,F',nm',rfl,h1,h2,h3,h4,hb,_,h6,h7,h8⟩;have hown:∀k,Own nm' [(1000,⟨true,ty,sz,es⟩)] k->w.heap.size<=k∧k<w'.heap.size:=λk hk=>by
  constructor
  .rcases h6 k hk with h | ⟨i,b,m,hi,_⟩
   .exact h
   .simp [hget] at hi
  .obtain⟨i,b,m,hi,hm,rfl⟩:=hk;rcases hb.box i b hi with ⟨h9,_⟩ | ⟨m',hm',hl⟩
   .rw[h9] at hm;cases hm
   .rw[hm'] at hm;cases hm;exact hl.there
 refine⟨v,λk=>F' k∨Own nm' [(1000,⟨true,ty,sz,es⟩)] k,rfl,λb hF=>.inl (h1 b hF),λb hF=>?_,λb hF=>?_,Rd.viewB hb.box (λb hF=>.inl hF) (λk hk=>.inr hk) 0 h4 ?_,⟨h7.1,h7.2.1,h7.2.2.1,h7.2.2.2,λb hlt=>h8 b hlt λ⟨i,b,m,hi,_⟩=>by simp [hget] at hi⟩⟩
 .rcases hF with hF | hF
  .rcases h2 b hF with h | h | ⟨i,b,m,hi,_⟩
   .exact .inl h
   .exact .inr h
   .simp [hget] at hi
  .exact .inr (hown b hF).1
 .rcases hF with hF | hF
  .exact h3 b hF
  .exact (hown b hF).2
 .simp [viewB,viewK,hget,h0]
theorem an13 {N d ty sz by_ n:Nat} {E:List (Nat×AV)} {H:List (Nat×Box)} {z:AV} (h:n*by_<=140737488355328):amks ⟨N,E,H⟩ (some d) ty sz by_ z (.int .i64 (n:Int)) (.int .i64 (n:Int))=if d<N then some ⟨N,(d,.arr d 0 n)::p13 d E,(d,⟨true,ty,sz,List.replicate n z⟩)::p12 d H⟩ else none:=by unfold amks;simp only[zP];rw[zY ⟨vU _,xI _,by omega⟩];rfl
variable {G:Nat->Option AV}
abbrev Ents:=List (Str×AV)
def e13 (l:Ents):List AV:=l.map λe=>.tup [.str e.1,e.2]
def k13 (l:Ents):List Str:=l.map (·.1)
def f28 (s:Str):Ents->Nat->Option (Nat×AV)
 | [],_ =>none
 | e::r,i=>if s=e.1 then some (i,e.2) else f28 s r (i+1)
theorem me_ (s:Str):∀(l:Ents) (i:Nat),m13 false [1] (.str s) (e13 l) i=some (f28 s l i)
 | [],_ =>rfl
 | e::r,i=>by
  have e1:k14 false [1] (.str s) (.str e.1)=some (decide (s=e.1)):=by simp only[k14,i13,AV.cells,aeqs,l10,andO,and_self,xW,wX,zZ];rw[yY];simp
  show m13 false [1] (.str s) (.tup [.str e.1,e.2]::e13 r) i=_;rw[m13,e1,f28];by_cases h:s=e.1
  .rw[zY h,wQ h]
  .rw[zK h,wA h];exact me_ s r (i+1)
theorem fn_ {s:Str}:∀{l:Ents} {i:Nat},s∉k13 l->f28 s l i=none
 | [],_,_ =>rfl
 | e::r,i,h=>by unfold k13 at h;rw[yJ,yV,not_or] at h;rw[f28,zK h.1];exact fn_ h.2
theorem fy_ {s:Str} {v:AV}:∀{l:Ents} {i j:Nat},l[j]?=some (s,v)->(k13 l).Nodup->f28 s l i=some (i+j,v)
 | [],_,_,h,_ =>by cases h
 | e::r,i,0,h,_ =>by cases h;rw[f28,zY rfl];rfl
 | e::r,i,j+1,h,hn=>by have hn:(e.1::k13 r).Nodup:=hn;rw[sX] at hn;have hm:s∈k13 r:=zI.2 ⟨(s,v),zG h,rfl⟩;rw[f28,zK (λ(x:s=e.1)=>hn.1 (x ▸ hm)),fy_ (l:=r) (i:=i+1) (j:=j) h hn.2];congr 2;omega
def numE (f:Nat->AV):List Str->Nat->Ents
 | [],_ =>[]
 | s::r,k=>(s,f k)::numE f r (k+1)
theorem nk_ (f:Nat->AV):∀(l:List Str) (k:Nat),k13 (numE f l k)=l
 | [],_ =>rfl
 | s::r,k=>by show s::k13 (numE f r (k+1))=_;rw[nk_ f r]
theorem na12 {f:Nat->AV} {s:Str}:∀{l:List Str} {k j:Nat},l[j]?=some s->(numE f l k)[j]?=some (s,f (k+j))
 | [],_,_,h=>by cases h
 | x::r,k,0,h=>by cases h;rfl
 | x::r,k,j+1,h=>by show (numE f r (k+1))[j]? =_;rw[na12 (l:=r) h,show k+1+j=k+(j+1) by omega]
theorem na10 (f:Nat->AV) (s:Str):∀(l:List Str) (k:Nat),numE f (l++[s]) k=numE f l k++[(s,f (k+l.length))]
 | [],_ =>rfl
 | x::r,k=>by show (x,f k)::numE f (r++[s]) (k+1)=_;rw[na10 f s r,yH,show k+1+r.length=k+(r.length+1) by omega];rfl
theorem nl10 (f:Nat->AV):∀(l:List Str) (k:Nat),(numE f l k).length=l.length
 | [],_ =>rfl
 | x::r,k=>by simp [numE,nl10 f r]
theorem ka_ (a b:Ents):k13 (a++b)=k13 a++k13 b:=zE
def mapB (es:Ents):Box:=⟨true,1,0,e13 es⟩
theorem ea_ {q:QeaT} {i:Nat} {x:NodeT} (hx:q.nodes[i]?=some x):∀{n:Nat},i<n->n<=q.nodes.length->(exL q n)[i]?=some (e14 q (exL q i) i x)
 | n+1,h,hn=>by
  obtain⟨y,hy,_⟩:=as10 (l:=q.nodes) (i:=n) (by omega);rw[es_ hy];have hl:=el_ q n (by omega);rcases vD i n with h1 | h1
  .rw[xJ (by omega)];exact ea_ hx h1 (by omega)
  .obtain rfl:i=n:=by omega
   rw[hx] at hy;cases hy;rw[xV (by omega),hl];simp
def m10 (d:Int) (x:NodeT):NodeT:={x with a:=if 3<x.op then x.a - d else x.a,b:=if 5<x.op then x.b - d else x.b}
def m14 (d:Int) (e:ExT):ExT:=⟨e.kind,e.depth,e.from_ - d⟩
theorem lm12 {q q':QeaT} (hq:q'.quants=q.quants) (hf:q'.frees=q.frees) (i d:Nat) (x:NodeT):l_ q' i (m10 d x)=(l_ q (i+d) x).map (m14 d):=by
 have e:((i+d:Nat):Int) - (d:Int)=i:=by omega
 unfold l_ m10 m14;simp only[hq,hf];by_cases h1:x.op=1
 .simp [h1,e]
 by_cases h2:x.op=2
 .simp [h2,e];split <;> simp [e];cases at? q.quants x.a <;> simp [e]
 by_cases h3:x.op=3
 .simp [h3,e];split <;> simp [e];cases at? q.frees x.a <;> simp [e]
 simp [h1,h2,h3]
theorem lf_ {q:QeaT} {i:Nat} {x:NodeT} {e:ExT} (h:l_ q i x=some e):e.from_=i:=by
 unfold l_ at h;split at h
 .split at h <;> simp at h;subst h;rfl
 split at h
 .split at h <;> simp at h;obtain⟨y,_,rfl⟩:=h;rfl
 split at h
 .split at h <;> simp at h;obtain⟨y,_,rfl⟩:=h;rfl
 .cases h
theorem ef_ {q:QeaT}:∀(n:Nat),n<=q.nodes.length->∀(i:Nat) (e:ExT),(exL q n)[i]?=some e->e.kind≠0->0<=e.from_∧e.from_<=i
 | 0,_,i,e,h,_ =>by simp [exL] at h
 | n+1,hn,i,e,h,hk=>by
  obtain⟨x,hx,_⟩:=as10 (l:=q.nodes) (i:=n) (by omega);have hl:=el_ q n (by omega);rw[es_ hx] at h;rcases vD i n with h1 | h1
  .rw[xJ (by omega)] at h;exact ef_ n (by omega) i e h hk
  .have hi:i=n:=by
    have:=(zX.1 h).1;rw[zL,hl] at this;simp at this;omega
   subst hi;rw[xV (by omega),hl] at h;simp at h;have ih:=ef_ (q:=q) i (by omega);unfold e14 at h;split at h
   .rename_i e' he;subst h;have:=lf_ he;omega
   .split at h
    .subst h;exact absurd rfl hk
    .split at h
     .subst h;exact absurd rfl hk
     .rename_i b hb;obtain⟨j,ej,hj⟩:=at?_some hb;split at h
      .subst h;exact absurd rfl hk
      .rename_i hbk;have i1:=ih j b hj hbk;split at h
       .split at h
        .subst h;simp only;omega
        .subst h;exact absurd rfl hk
       .split at h
        .rename_i hab;split at h
         .subst h;exact absurd rfl hk
         .rename_i a ha;obtain⟨k,ek,hk2⟩:=at?_some ha;split at h
          .subst h;exact absurd rfl hk
          .rename_i hak;have i2:=ih k a hk2 hak;subst h;simp only;omega
        .subst h;exact absurd rfl hk
theorem em_ {q q':QeaT} (hq:q'.quants=q.quants) (hf:q'.frees=q.frees) {s d m:Nat} (hm:s+m<=q'.nodes.length) (hm2:s+d+m<=q.nodes.length) (hn:∀j,j<m->q'.nodes[s+j]? =(q.nodes[s+d+j]?).map (m10 d)):
  ∀(k:Nat),k<m->∀(x:NodeT),q.nodes[s+d+k]?=some x->(e14 q (exL q (s+d+k)) (s+d+k) x).kind≠0->((s+d:Nat):Int)<=(e14 q (exL q (s+d+k)) (s+d+k) x).from_->
   e14 q' (exL q' (s+k)) (s+k) (m10 d x)=m14 d (e14 q (exL q (s+d+k)) (s+d+k) x):=by
 intro k
 induction k using Nat.strongRecOn with
 | _ k ih=>
 intro hk x hx h1 h2;have sub:∀(n:Int) (e:ExT),at? (exL q (s+d+k)) n=some e->e.kind≠0->((s+d:Nat):Int)<=e.from_->at? (exL q' (s+k)) (n - d)=some (m14 d e):=by
  intro n e he hek hef;obtain⟨j,rfl,hj⟩:=at?_some he;have hjl:=(zX.1 hj).1;rw[el_ q _ (by omega)] at hjl;have hfr:=(ef_ _ (by omega) j e hj hek).2;obtain⟨k2,rfl⟩:∃k2,j=s+d+k2:=⟨j - (s+d),by omega⟩;obtain⟨y,hy,_⟩:=as10 (l:=q.nodes) (i:=s+d+k2) (by omega);have e1:=ea_ hy (n:=s+d+k) (by omega) (by omega);rw[hj] at e1;cases e1;have:=ih k2 (by omega) (by omega) y hy hek hef;have hy':q'.nodes[s+k2]?=some (m10 d y):=by rw[hn k2 (by omega),hy];rfl
  have e2:=ea_ hy' (n:=s+k) (by omega) (by omega);rw[this] at e2;have e3:(((s+d+k2:Nat):Int) - (d:Int))=((s+k2:Nat):Int):=by omega
  rw[e3];exact at?_nat e2
 have i1:((s+k:Nat):Int) - 1=((s+d+k:Nat):Int) - 1 - d:=by omega
 have hlf:=lm12 hq hf (s+k) d x;rw[show s+k+d=s+d+k by omega] at hlf;unfold e14 at h1 h2 ⊢;rw[hlf];cases hl:l_ q (s+d+k) x with
 | some e=>rfl
 | none=>
  rw[hl] at h1 h2;simp only[tW] at h1 h2 ⊢;have m1:(m10 d x).op=x.op:=rfl;have m2:(m10 d x).value=x.value:=rfl;rw[m1,m2];split at h1
  .exact absurd rfl h1
  rename_i hc;rw[zK hc] at h2 ⊢;rw[zK hc];cases hb:at? (exL q (s+d+k)) (((s+d+k:Nat):Int) - 1) with
  | none=>rw[hb] at h1;exact absurd rfl h1
  | some b=>
   rw[hb] at h1 h2;simp only at h1 h2 ⊢;split at h1
   .exact absurd rfl h1
   rename_i hbk;rw[zK hbk] at h2 ⊢;have hbf:=ef_ _ (by omega) _ b (at?_some hb).choose_spec.2 hbk;have hbi:=(at?_some hb).choose_spec.1;split at h1
   .rename_i h5;rw[zY h5] at h2 ⊢;split at h1
    .rename_i hab;rw[zY hab] at h2 ⊢;simp only at h1 h2;have hb':=sub _ b hb hbk h2;rw[<-i1] at hb';rw[hb'];have ma:(m10 d x).a=x.a - d:=by unfold m10;simp only;rw[zY (by omega)]
     have mb:(m10 d x).b=x.b:=by unfold m10;simp only;rw[zK (by omega)]
     simp only[m14,ma,mb];rw[zK hbk,zY h5,zY ⟨by omega,hab.2⟩]
    .exact absurd rfl h1
   .rename_i h5;rw[zK h5] at h2 ⊢;split at h1
    .rename_i hab;rw[zY hab] at h2 ⊢;cases ha:at? (exL q (s+d+k)) x.a with
     | none=>rw[ha] at h1;exact absurd rfl h1
     | some a=>
      rw[ha] at h1 h2;simp only at h1 h2 ⊢;split at h1
      .exact absurd rfl h1
      rename_i hak;rw[zK hak] at h2 ⊢;simp only at h1 h2;have haf:=ef_ _ (by omega) _ a (at?_some ha).choose_spec.2 hak;have hai:=(at?_some ha).choose_spec.1;have hb':=sub _ b hb hbk (by omega);rw[<-i1] at hb';rw[hb'];have ma:(m10 d x).a=x.a - d:=by unfold m10;simp only;rw[zY (by omega)]
      have mb:(m10 d x).b=x.b - d:=by unfold m10;simp only;rw[zY (by omega)]
      have ha':=sub _ a ha hak h2;simp only[m14,ma,mb];rw[zK hbk,zK h5,zY ⟨by omega,by omega⟩,ha'];exact zK hak
    .exact absurd rfl h1
theorem el10 (q:QeaT):(e11 q).length=q.nodes.length:=el_ q q.nodes.length (zN _)
theorem wi10 {l:List ExT} {a r k:Int} (h:w_ l a r k=true):a<=r∧0<=r∧r<l.length:=by
 unfold w_ at h;split at h
 .cases h
 .rename_i e he;obtain⟨i,rfl,hi⟩:=at?_some he;have:=(zX.1 hi).1;simp only[zJ,zW] at h;exact⟨h.1,by omega,by omega⟩
def endS (sets:List SetT) (a:Int):Int:=match sets.getLast? with | some x=>x.expr+1 | none=>a
theorem ec11 (s:SetT) (r:List SetT) (a:Int):endS (s::r) a=endS r (s.expr+1):=by
 unfold endS;cases r with
 | nil=>rfl
 | cons x r=>rw[List.getLast?_cons_cons];cases h:(x::r).getLast? with
  | none=>simp at h
  | some y=>rfl
theorem se_ {q:QeaT} {l:List ExT} {all:List SetT}:∀(sets:List SetT) (i:Nat) {a:Int},0<=a->a<=l.length->(allS (s12 q l all) sets i a).1=true->
  (allS (s12 q l all) sets i a).2=endS sets a∧a<=endS sets a∧endS sets a<=l.length∧∀s∈sets,0<=s.expr
 | [],i,a,h0,h1,_ =>⟨rfl,xI _,h1,λs hs=>by cases hs⟩
 | s::r,i,a,h0,h1,h=>by
  unfold allS at h ⊢;split at h
  .rename_i hs;rw[zY hs];have hst:(s12 q l all a i s).2=s.expr+1∧a<=s.expr∧s.expr<l.length:=by
    unfold s12 at hs ⊢;cases hf:at? q.frees s.free with
    | none=>rw[hf] at hs;cases hs
    | some f=>
     rw[hf] at hs;simp only at hs ⊢;split at hs
     .cases hs
     .rename_i hn;rw[zK hn];split at hs
      .rename_i hw;rw[zY hw];have:=wi10 hw;exact⟨rfl,this.1,this.2.2⟩
      .cases hs
   rw[hst.1] at h ⊢;obtain⟨g1,g2,g3,g4⟩:=se_ r (i+1) (a:=s.expr+1) (by omega) (by omega) h;rw[ec11];exact⟨g1,by omega,g3,λx hx=>by
    rcases yV.1 hx with rfl | hx
    .omega
    .exact g4 x hx⟩
  .cases h
def endT (t:TransT) (a:Int):Int:=endS t.sets (if t.guard= -1 then a else t.guard+1)
structure TIn (q:QeaT) (t:TransT) (a b:Int):Prop where
 hf:0<=t.from_∧t.from_<q.states.length
 ht:0<=t.to_∧t.to_<q.states.length
 hs:0<=t.symbol∧t.symbol<q.symbols.length
 hg:t.guard= -1∨(a<=t.guard∧0<=t.guard)
 he:b=endT t a
 hle:a<=b
 hub:b<=q.nodes.length
theorem to10 {q:QeaT} {t:TransT} {a b:Int} (h0:0<=a) (h1:a<=q.nodes.length) (h:t15 q t a=(b,true)):TIn q t a b:=by
 unfold t15 at h;split at h
 .cases h
 .rename_i hr;simp only[inR,vB,zJ,zW] at hr;obtain⟨⟨r1,r2⟩,⟨r3,r4⟩,r5,r6⟩:=hr;have rest:∀a1:Int,0<=a1->a1<=q.nodes.length->r16 q t a a1=(b,true)->b=endS t.sets a1∧a1<=b∧b<=q.nodes.length:=by
   intro a1 h2 h3 h4;unfold r16 at h4;simp only at h4;split at h4
   .rename_i hs;obtain⟨g1,g2,g3,_⟩:=se_ t.sets 0 h2 (by rw[el10];exact h3) hs;simp only[vG] at h4;rw[el10] at g3;rw[g1] at h4;exact⟨h4.1.symm,by omega,by omega⟩
   .cases h4
  split at h
  .rename_i hg;obtain⟨g1,g2,g3⟩:=rest a h0 h1 h;exact⟨⟨r1,r2⟩,⟨r3,r4⟩,⟨r5,r6⟩,.inl hg,by rw[g1];unfold endT;rw[zY hg],g2,g3⟩
  .rename_i hg;split at h
   .rename_i hw;obtain⟨w1,w2,w3⟩:=wi10 hw;rw[el10] at w3;obtain⟨g1,g2,g3⟩:=rest (t.guard+1) (by omega) (by omega) h;exact⟨⟨r1,r2⟩,⟨r3,r4⟩,⟨r5,r6⟩,.inr ⟨w1,w2⟩,by rw[g1];unfold endT;rw[zK hg],by omega,g3⟩
   .cases h
def segs:List TransT->Int->List (TransT×Int)
 | [],_ =>[]
 | t::r,a=>(t,a)::segs r (endT t a)
def endA:List TransT->Int->Int
 | [],a=>a
 | t::r,a=>endA r (endT t a)
theorem so21 {q:QeaT}:∀(l:List TransT) (i:Nat) {a b:Int},0<=a->a<=q.nodes.length->allS (s26 q) l i a=(true,b)->
  b=endA l a∧a<=b∧b<=q.nodes.length∧∀x∈segs l a,0<=x.2∧TIn q x.1 x.2 (endT x.1 x.2)
 | [],i,a,b,h0,h1,h=>by simp only[allS,vG,true_and] at h;subst h;exact⟨rfl,xI _,h1,λx hx=>by cases hx⟩
 | t::r,i,a,b,h0,h1,h=>by
  unfold allS at h;split at h
  .rename_i ht;have hk:=to10 (q:=q) (t:=t) (b:=(t15 q t a).1) h0 h1 (Prod.ext rfl ht);have e:(s26 q a i t).2=endT t a:=hk.he;rw[e] at h;have hle:=hk.hle;have hub:=hk.hub;have hE:=hk.he;rw[hE] at hk hle hub;obtain⟨g1,g2,g3,g4⟩:=so21 r (i+1) (by omega) hub h;exact⟨g1,by omega,g3,λx hx=>by
    rcases yV.1 hx with rfl | hx
    .exact⟨h0,hk⟩
    .exact g4 x hx⟩
  .cases h
def t12 (on:Int->Bool) (nw:Int->Int) (ns:List NodeT) (acc:List NodeT×List TransT) (x:TransT×Int):List NodeT×List TransT:=
 if on x.1.from_=true then
  (acc.1++(mid ns x.2 (endT x.1 x.2)).map (m10 (x.2 - acc.1.length)),
   acc.2++[⟨nw x.1.from_,x.1.symbol,nw x.1.to_,if x.1.guard= -1 then -1 else x.1.guard - (x.2 - acc.1.length),x.1.sets.map λs=>⟨s.free,s.expr - (x.2 - acc.1.length)⟩⟩])
 else acc
theorem ep11 {q:QeaT} {j k:Nat} {b:ExT} (hj:j<=q.nodes.length) (h:(exL q j)[k]?=some b):(e11 q)[k]?=some b:=by have hk:=(zX.1 h).1;rw[el_ q j hj] at hk;obtain⟨y,hy,_⟩:=as10 (l:=q.nodes) (i:=k) (by omega);rw[ea_ hy hk hj] at h;exact (ea_ hy (by omega) (zN _)).trans h
inductive NdOk (q:QeaT) (j:Nat) (x:NodeT) (e:ExT):Prop where
 | leaf (h:l_ q j x=some e)
 | one (h1:x.op=4∨x.op=5) (hv:x.value=v0) (ha:x.a=(j:Int) - 1) (hb:x.b=0) (b:ExT) (hj:0<j) (hbx:(e11 q)[j - 1]?=some b) (hk:b.kind≠0) (he:e=⟨o11 x.op b.kind b.kind,b.depth+1,b.from_⟩)
 | two (h1:6<=x.op∧x.op<=16) (hv:x.value=v0) (hb:x.b=(j:Int) - 1) (b:ExT) (hj:0<j) (hbx:(e11 q)[j - 1]?=some b) (hk:b.kind≠0) (a:ExT) (k:Nat) (hak:x.a=(k:Int)) (hkb:(k:Int)=b.from_ - 1) (hax:(e11 q)[k]?=some a) (hka:a.kind≠0)
   (he:e=⟨o11 x.op a.kind b.kind,max a.depth b.depth+1,a.from_⟩)
theorem nd_ok {q:QeaT} {j:Nat} {x:NodeT} {e:ExT} (hx:q.nodes[j]?=some x) (he:(e11 q)[j]?=some e) (hk:e.kind≠0):NdOk q j x e:=by
 have hj:=(zX.1 hx).1;have e1:=ea_ hx (n:=q.nodes.length) hj (zN _);have e2:(exL q q.nodes.length)[j]?=some e:=he;rw[e1] at e2;cases e2;have hz:(⟨0,0,0⟩:ExT).kind=0:=rfl;unfold e14 at hk ⊢;cases hl:l_ q j x with
 | some e=>exact .leaf hl
 | none=>
  rw[hl] at hk;simp only at hk ⊢;split at hk
  .exact absurd rfl hk
  rename_i hc;rw[zK hc];cases hb:at? (exL q j) ((j:Int) - 1) with
  | none=>rw[hb] at hk;exact absurd rfl hk
  | some b=>
   rw[hb] at hk;simp only at hk ⊢;obtain⟨i,ei,hi⟩:=at?_some hb;have hbx:(e11 q)[j - 1]?=some b:=by have:=ep11 (by omega) hi;rw[show j - 1=i by omega];exact this
   split at hk
   .exact absurd rfl hk
   rename_i hbk;rw[zK hbk];split at hk
   .rename_i h5;rw[zY h5];split at hk
    .rename_i h6;rw[zY h6];exact .one (by omega) (Decidable.not_not.1 λhn=>hc (.inr (.inr hn))) h6.1 h6.2 b (by omega) hbx hbk rfl
    .exact absurd rfl hk
   .rename_i h5;rw[zK h5];split at hk
    .rename_i h6;rw[zY h6];cases ha:at? (exL q j) x.a with
     | none=>rw[ha] at hk;exact absurd rfl hk
     | some a=>
      rw[ha] at hk;simp only at hk ⊢;obtain⟨k,ek,hk2⟩:=at?_some ha;split at hk
      .exact absurd rfl hk
      rename_i hak;rw[zK hak];exact .two (by omega) (Decidable.not_not.1 λhn=>hc (.inr (.inr hn))) h6.1 b (by omega) hbx hbk a k ek (by omega) (ep11 (by omega) hk2) hak rfl
    .exact absurd rfl hk
theorem ex_lt {q:QeaT} {j:Nat} {e:ExT} (he:(e11 q)[j]?=some e):j<q.nodes.length:=by
 have:=(zX.1 he).1
 rwa [el10] at this
theorem ex_fr {q:QeaT} {j:Nat} {e:ExT} (he:(e11 q)[j]?=some e) (hk:e.kind≠0):0<=e.from_∧e.from_<=j:=ef_ q.nodes.length (zN _) j e he hk
theorem es16 {q:QeaT}:∀(r:Nat) (e:ExT),(e11 q)[r]?=some e->e.kind≠0->∀j:Nat,e.from_<=(j:Int)->j<=r->∃e',(e11 q)[j]?=some e'∧e'.kind≠0∧e.from_<=e'.from_:=by
 intro r
 induction r using Nat.strongRecOn with
 | _ r ih=>
 intro e he hk j h1 h2;rcases vD j r with hlt | hge
 case inr=>
  obtain rfl:j=r:=by omega
  exact⟨e,he,hk,xI _⟩
 obtain⟨x,hx,_⟩:=as10 (l:=q.nodes) (i:=r) (ex_lt he);cases nd_ok hx he hk with
 | leaf h=>have:=lf_ h;omega
 | one g1 hv ha hb b hj hbx hbk hee=>
  subst hee;exact ih (r - 1) (by omega) b hbx hbk j h1 (by omega)
 | two g1 hv hb b hj hbx hbk a k hak hkb hax hka hee=>
  subst hee;simp only at h1;have f1:=ex_fr hax hka;have f2:=ex_fr hbx hbk;by_cases hc:b.from_<=j
  .obtain⟨e',g1,g2,g3⟩:=ih (r - 1) (by omega) b hbx hbk j hc (by omega);exact⟨e',g1,g2,by simp only;omega⟩
  .exact ih k (by omega) a hax hka j h1 (by omega)
structure BlkOk (q:QeaT) (a b:Int):Prop where
 h0:0<=a
 h1:a<=b
 h2:b<=q.nodes.length
 at_:∀j:Nat,a<=j->(j:Int)<b->∃e,(e11 q)[j]?=some e∧e.kind≠0∧a<=e.from_
theorem we_ {q:QeaT} {a r k:Int} (h:w_ (e11 q) a r k=true):∃(i:Nat) (e:ExT),r=i∧(e11 q)[i]?=some e∧e.kind=k∧k≠0∧e.from_=a∧a<=r∧e.depth<=64:=by
 unfold w_ at h;cases he:at? (e11 q) r with
 | none=>rw[he] at h;cases h
 | some e=>
  rw[he] at h;simp only[zJ,zW,zB,yX,xC] at h;obtain⟨i,hi,hx⟩:=at?_some he;obtain⟨h1,h2,h3,h4,h5⟩:=h;exact⟨i,e,hi,hx,h2,by simpa using h3,h4,h1,h5⟩
theorem wb_ {q:QeaT} {a r k:Int} (h0:0<=a) (h:w_ (e11 q) a r k=true):BlkOk q a (r+1):=by obtain⟨i,e,rfl,he,hk,hk0,hf,har,_⟩:=we_ h;have:=ex_lt he;refine⟨h0,by omega,by omega,λj h1 h2=>?_⟩;obtain⟨e',g1,g2,g3⟩:=es16 i e he (by rw[hk];exact hk0) j (by omega) (by omega);exact⟨e',g1,g2,by omega⟩
theorem bn_ {q:QeaT} {a:Int} (h0:0<=a) (h:a<=q.nodes.length):BlkOk q a a:=⟨h0,xI _,h,λj h1 h2=>by omega⟩
theorem ba11 {q:QeaT} {a b c:Int} (h:BlkOk q a b) (g:BlkOk q b c):BlkOk q a c:=by
 refine⟨h.h0,by have:=h.h1;have:=g.h1;omega,g.h2,λj h1 h2=>?_⟩;by_cases hc:(j:Int)<b
 .exact h.at_ j h1 hc
 .obtain⟨e,e1,e2,e3⟩:=g.at_ j (by omega) h2;exact⟨e,e1,e2,by have:=h.h1;omega⟩
inductive SetsOkQ (q:QeaT):List Int->Int->List SetT->Prop where
 | nil (o:List Int) (a:Int):SetsOkQ q o a []
 | cons {o:List Int} {a:Int} {s:SetT} {r:List SetT} (f:FreeT) (hf:at? q.frees s.free=some f) (hn:s.free∉o) (hw:w_ (e11 q) a s.expr f.init.kind=true) (h:SetsOkQ q (o++[s.free]) (s.expr+1) r):SetsOkQ q o a (s::r)
theorem so20 {q:QeaT}:∀(r p:List SetT) {a:Int},(allS (s12 q (e11 q) (p++r)) r p.length a).1=true->SetsOkQ q (p.map (·.free)) a r
 | [],p,a,_ =>.nil _ _
 | s::r,p,a,h=>by
  unfold allS at h;split at h
  .rename_i hs;unfold s12 at hs h;cases hf:at? q.frees s.free with
   | none=>rw[hf] at hs;cases hs
   | some f=>
    rw[hf] at hs h;simp only at hs h;split at hs
    .cases hs
    .rename_i hn;rw[zK hn] at h;split at hs
     .rename_i hw;rw[zY hw] at h;refine .cons f hf (λhm=>hn ?_) hw ?_
      .obtain⟨y,hy,e⟩:=zI.1 hm;rw[List.take_left' rfl,yE];exact⟨y,hy,by simp [e]⟩
      .have e:p++s::r=(p++[s])++r:=by simp
       have:=so20 r (p++[s]) (a:=s.expr+1) (by rw[xL,zL];exact h);rw[zE] at this;exact this
     .cases hs
  .cases h
theorem sb_ {q:QeaT}:∀(r:List SetT) (o:List Int) {a:Int},0<=a->a<=q.nodes.length->SetsOkQ q o a r->BlkOk q a (endS r a)
 | [],_,a,h0,h1,_ =>bn_ h0 h1
 | s::r,o,a,h0,h1,h=>by
  cases h with
  | cons f hf hn hw h=>
   have hb:=wb_ h0 hw;rw[ec11];exact ba11 hb (sb_ r _ (by have:=hb.h0;have:=hb.h1;omega) hb.h2 h)
structure TrOk (q:QeaT) (t:TransT) (a b:Int):Prop where
 ok:TIn q t a b
 gd:t.guard= -1∨w_ (e11 q) a t.guard 3=true
 st:SetsOkQ q [] (if t.guard= -1 then a else t.guard+1) t.sets
 sy:∃s,at? q.symbols t.symbol=some s∧∀x∈mid q.nodes a b,x.op=2->n13 s x.a=true
 bk:BlkOk q a b
theorem tr_ok {q:QeaT} {t:TransT} {a b:Int} (h0:0<=a) (h1:a<=q.nodes.length) (h:t15 q t a=(b,true)):TrOk q t a b:=by
 have hk:=to10 h0 h1 h;unfold t15 at h;split at h
 .cases h
 have rest:∀a1:Int,0<=a1->a1<=q.nodes.length->r16 q t a a1=(b,true)->SetsOkQ q [] a1 t.sets∧(∃s,at? q.symbols t.symbol=some s∧∀x∈mid q.nodes a b,x.op=2->n13 s x.a=true)∧BlkOk q a1 (endS t.sets a1):=by
  intro a1 h2 h3 h4;unfold r16 at h4;simp only at h4;split at h4
  .rename_i hs;have ho:=so20 t.sets [] (a:=a1) hs;simp only[vG] at h4;rw[h4.1] at h4;refine⟨ho,?_,sb_ _ _ h2 h3 ho⟩;have h5:=h4.2;cases hsy:at? q.symbols t.symbol with
   | none=>rw[hsy] at h5;cases h5
   | some y=>
    rw[hsy] at h5;simp only[xQ,wH,yX,xC] at h5;exact⟨y,rfl,λx hx hop=>(h5 x hx).resolve_left λhh=>hh hop⟩
  .cases h4
 have he:=hk.he;unfold endT at he;split at h
 .rename_i hg;obtain⟨r1,r2,r3⟩:=rest a h0 h1 h;rw[zY hg] at he;exact⟨hk,.inl hg,by rw[zY hg];exact r1,r2,by rw[he];exact r3⟩
 .rename_i hg;split at h
  .rename_i hw;have hb:=wb_ h0 hw;obtain⟨r1,r2,r3⟩:=rest (t.guard+1) (by have:=hb.h0;have:=hb.h1;omega) hb.h2 h;rw[zK hg] at he;exact⟨hk,.inr hw,by rw[zK hg];exact r1,r2,by rw[he];exact ba11 hb r3⟩
  .cases h
def t32 (x:DeclT):AV:=.agg [.str x.name,iv 0,iv 0,i11 x.types]
def t24 (x:QuantT):AV:=.agg [.bool x.all,.str x.name,iv 0,iv 0,iv x.type]
def t31 (x:FreeT):AV:=.agg [.str x.name,iv 0,iv 0,iv x.init.kind,iv x.init.int,.str x.init.str,.bool x.init.bool]
def t14 (x:StateT):AV:=.agg [.str x.name,iv 0,iv 0,.bool x.next,.bool x.accept]
structure TArgT where
 kind:Int
 name:Str
 value:Val
deriving DecidableEq
def t34 (a:TArgT):AV:=.agg [iv a.kind,.str a.name,iv a.value.kind,iv a.value.int,.str a.value.str,.bool a.value.bool,iv 0,iv 0]
structure TSymT where
 name:Str
 args:List TArgT
deriving DecidableEq
def t17 (l:List TArgT):AV:=.seq 8 (l.map t34)
def t28 (s:TSymT):AV:=.agg [.str s.name,t17 s.args,iv 0,iv 0]
structure TExT where
 op:Int
 a:Int
 b:Int
 name:Str
 value:Val
deriving DecidableEq
def tExV (x:TExT):AV:=.agg [iv x.op,iv x.a,iv x.b,.str x.name,iv x.value.kind,iv x.value.int,.str x.value.str,.bool x.value.bool,iv 0,iv 0]
def t30 (l:List TExT):AV:=.seq 10 (l.map tExV)
structure TSetT where
 name:Str
 expr:Int
deriving DecidableEq
def t43 (x:TSetT):AV:=.agg [.str x.name,iv 0,iv 0,iv x.expr]
def t20 (l:List TSetT):AV:=.seq 4 (l.map t43)
structure TTrT where
 from_:Str
 to_:Str
 on:TSymT
 nodes:List TExT
 guard:Int
 sets:List TSetT
deriving DecidableEq
def tTrV (t:TTrT):AV:=.agg [.str t.from_,iv 0,iv 0,.str t.to_,iv 0,iv 0,.str t.on.name,t17 t.on.args,iv 0,iv 0,t30 t.nodes,iv t.guard,t20 t.sets]
structure TreeT where
 name:Str
 decls:List DeclT
 quants:List QuantT
 frees:List FreeT
 states:List StateT
 start:Str
 also:List TSymT
 trans:List TTrT
def t22 (l:List DeclT):AV:=.seq 4 (l.map t32)
def t13 (l:List QuantT):AV:=.seq 5 (l.map t24)
def t21 (l:List FreeT):AV:=.seq 7 (l.map t31)
def t16 (l:List StateT):AV:=.seq 5 (l.map t14)
def t23 (l:List TSymT):AV:=.seq 4 (l.map t28)
def t33 (l:List TTrT):AV:=.seq 13 (l.map tTrV)
def t27 (t:TreeT):AV:=.agg [.str t.name,iv 0,iv 0,t22 t.decls,t13 t.quants,t21 t.frees,t16 t.states,.str t.start,iv 0,iv 0,t23 t.also,t33 t.trans]
def argT (q:QeaT) (a:ArgT):TArgT:=
 if a.kind=1 then ⟨1,[],a.value⟩
 else if a.kind=2 then ⟨2,match at? q.quants a.n with | some x=>x.name | none=>[],v0⟩
 else if a.kind=3 then ⟨2,match at? q.frees a.n with | some x=>x.name | none=>[],v0⟩
 else ⟨3,[],v0⟩
def d15 (q:QeaT) (n:Int):Str:=match at? q.decls n with | some x=>x.name | none=>[]
def symT (q:QeaT) (s:SymT):TSymT:=⟨d15 q s.event,s.args.map (argT q)⟩
def n14 (q:QeaT) (base:Int) (x:NodeT):TExT:=
 if x.op=1 then ⟨1,0,0,[],x.value⟩
 else if x.op=2 then ⟨17,0,0,match at? q.quants x.a with | some y=>y.name | none=>[],v0⟩
 else if x.op=3 then ⟨17,0,0,match at? q.frees x.a with | some y=>y.name | none=>[],v0⟩
 else if x.op=4∨x.op=5 then ⟨x.op,x.a - base,0,[],v0⟩
 else ⟨x.op,x.a - base,x.b - base,[],v0⟩
def f17 (q:QeaT) (n:Int):Str:=match at? q.frees n with | some x=>x.name | none=>[]
def s24 (q:QeaT) (n:Int):Str:=match at? q.states n with | some x=>x.name | none=>[]
def setT (q:QeaT) (base:Int) (s:SetT):TSetT:=⟨f17 q s.free,s.expr - base⟩
def s36 (q:QeaT) (n:Int):TSymT:=match at? q.symbols n with | some s=>symT q s | none=>⟨[],[]⟩
def trT (q:QeaT) (x:TransT×Int):TTrT:=
 ⟨s24 q x.1.from_,s24 q x.1.to_,s36 q x.1.symbol,(mid q.nodes x.2 (endT x.1 x.2)).map (n14 q x.2),if x.1.guard= -1 then -1 else x.1.guard - x.2,x.1.sets.map (setT q x.2)⟩
theorem t25 {α:Type} (f:α->AV) (l:List α):(l.map f).take l.length=l.map f:=zT (by simp)
def dE (q:QeaT):Ents:=numE (λi:Nat=>iv (i:Int)) (q.decls.map (·.name)) 0
def vE (q:QeaT):Ents:=numE (λi:Nat=>n11 ⟨2,(i:Int),0,v0⟩) (q.quants.map (·.name)) 0++numE (λi:Nat=>n11 ⟨3,(i:Int),0,v0⟩) (q.frees.map (·.name)) 0
def sE (sl:List StateT):Ents:=numE (λi:Nat=>iv (i:Int)) (sl.map (·.name)) 0
theorem vk_ (q:QeaT):k13 (vE q)=q.vars:=by unfold vE;rw[ka_,nk_,nk_];rfl
theorem df11 {q:QeaT} (hn:(q.decls.map (·.name)).Nodup) {i:Nat} {d:DeclT} (h:q.decls[i]?=some d):m13 false [1] (.str d.name) (e13 (dE q)) 0=some (some (i,iv (i:Int))):=by rw[me_,fy_ (j:=i) (v:=iv (i:Int)) ?_ (by unfold dE;rw[nk_];exact hn),yS];have:=na12 (f:=λi:Nat=>iv (i:Int)) (k:=0) (show (q.decls.map (·.name))[i]?=some d.name by rw[zS,h];rfl);rw[yS] at this;exact this
theorem sf14 {sl:List StateT} (hn:(sl.map (·.name)).Nodup) {i:Nat} {d:StateT} (h:sl[i]?=some d):m13 false [1] (.str d.name) (e13 (sE sl)) 0=some (some (i,iv (i:Int))):=by rw[me_,fy_ (j:=i) (v:=iv (i:Int)) ?_ (by unfold sE;rw[nk_];exact hn),yS];have:=na12 (f:=λi:Nat=>iv (i:Int)) (k:=0) (show (sl.map (·.name))[i]?=some d.name by rw[zS,h];rfl);rw[yS] at this;exact this
theorem qf_ {q:QeaT} (hn:q.vars.Nodup) {i:Nat} {d:QuantT} (h:q.quants[i]?=some d):m13 false [1] (.str d.name) (e13 (vE q)) 0=some (some (i,n11 ⟨2,(i:Int),0,v0⟩)):=by rw[me_,fy_ (j:=i) (v:=n11 ⟨2,(i:Int),0,v0⟩) ?_ (by rw[vk_];exact hn),yS];have:=na12 (f:=λi:Nat=>n11 ⟨2,(i:Int),0,v0⟩) (k:=0) (show (q.quants.map (·.name))[i]?=some d.name by rw[zS,h];rfl);rw[yS] at this;unfold vE;rw[xJ (zX.1 this).1];exact this
theorem ff10 {q:QeaT} (hn:q.vars.Nodup) {i:Nat} {d:FreeT} (h:q.frees[i]?=some d):m13 false [1] (.str d.name) (e13 (vE q)) 0=some (some (q.quants.length+i,n11 ⟨3,(i:Int),0,v0⟩)):=by rw[me_,fy_ (j:=q.quants.length+i) (v:=n11 ⟨3,(i:Int),0,v0⟩) ?_ (by rw[vk_];exact hn),yS];have:=na12 (f:=λi:Nat=>n11 ⟨3,(i:Int),0,v0⟩) (k:=0) (show (q.frees.map (·.name))[i]?=some d.name by rw[zS,h];rfl);rw[yS] at this;unfold vE;rw[xV (by rw[nl10,zQ];omega),nl10,zQ,uK];exact this
def ckC (q:QeaT) (sl:List StateT) (st:Int) (c6 c7 c8:AV):AV:=.agg [.str q.name,.seq 2 (q.decls.map d12),.seq 3 (q.quants.map q11),.seq 5 (q.frees.map f10),.seq 3 (sl.map s14),iv st,c6,c7,c8,.mapc (e13 (dE q)),.mapc (e13 (vE q)),.mapc (e13 (sE sl))]
def ckS (q:QeaT) (sl:List StateT) (st:Int) (ys:List SymT) (ns:List NodeT) (ts:List TransT):AV:=ckC q sl st (.seq 2 (ys.map symV)) (.seq 7 (ns.map n11)) (.seq 5 (ts.map t11))
def ckB (q:QeaT) (sl:List StateT) (st:Int) (y n t:Nat):Nat×Box:=(1001,⟨false,154,12,[ckC q sl st (.arr 1006 0 y) (.arr 1007 0 n) (.arr 1008 0 t)]⟩)
def HK (q:QeaT) (sl:List StateT) (st:Int) (ys:List SymT) (ns:List NodeT) (ts:List TransT):List (Nat×Box):=[ckB q sl st ys.length ns.length ts.length,(1006,⟨true,106,2,ys.map symV⟩),(1007,⟨true,112,7,ns.map n11⟩),(1008,⟨true,95,5,ts.map t11⟩)]
theorem fp13 (q:QeaT) (sl:List StateT) (st:Int) (c6 c7 c8:AV) (hn:(sl.map (·.name)).Nodup) {i:Nat} {d:StateT} (h:sl[i]?=some d):PQ G 127 [.eptr (ckC q sl st c6 c7 c8) 0,.agg [.str d.name,iv 0,iv 0]] (.tup [iv (i:Int),.nili]):=by
 have hm:=sf14 hn h;refine pccf_ λΦ h=>?_;unfold cc20
 repeat' (first|simp -implicitDefEqProofs only[go_sem,ckC,hm]|apply ai__<;>intro hb)
 exact hq_ h
theorem kqp_ (q:QeaT) (sl:List StateT) (st:Int) (c6 c7 c8:AV) {i:Nat} {d:QuantT} (h:q.quants[i]?=some d) (b:Int) (v:Val):PQ G 258 [.eptr (ckC q sl st c6 c7 c8) 0,n11 ⟨2,(i:Int),b,v⟩] (iv d.type):=by
 refine pcck_ λΦ hh=>?_;unfold ccck_
 repeat' (first|simp -implicitDefEqProofs only[go_sem,ckC,n11,am_ h,q11]|apply ai__<;>intro hb)
 exact hh _ ⟨_,_,rfl,rfl,.refl _⟩
theorem kfp_ (q:QeaT) (sl:List StateT) (st:Int) (c6 c7 c8:AV) {i:Nat} {d:FreeT} (h:q.frees[i]?=some d) (b:Int) (v:Val):PQ G 258 [.eptr (ckC q sl st c6 c7 c8) 0,n11 ⟨3,(i:Int),b,v⟩] (iv d.init.kind):=by
 refine pcck_ λΦ hh=>?_;unfold ccck_
 repeat' (first|simp -implicitDefEqProofs only[go_sem,ckC,n11,am_ h,f10]|apply ai__<;>intro hb)
 exact hh _ ⟨_,_,rfl,rfl,.refl _⟩
theorem ap11 (q:QeaT) (hn:q.vars.Nodup) (sl:List StateT) (st:Int) (c6 c7 c8:AV) (a:ArgT) (k:Int) (ha:argS q a k=true):PQ G 208 [.eptr (ckC q sl st c6 c7 c8) 0,t34 (argT q a),iv k] (.tup [argV a,.nili]):=by
 refine pcca_ λΦ h=>?_;unfold ccca_;obtain⟨ak,n,v⟩:=a;unfold argS at ha;simp only at ha;have ek:∀k:Int,(k != k)=false:=λk=>by simp
 by_cases h1:ak=1
 .subst h1;rw[zY rfl] at ha;simp only[zJ,zB] at ha;obtain⟨rfl,h2,rfl⟩:=ha;rw[show argT q ⟨1,0,v⟩=⟨1,[],v⟩ from rfl]
  repeat' (first|simp -implicitDefEqProofs only[go_sem,ckC,t34,ek]|apply ai__<;>intro hb)
  exact hq_ h
 rw[zK h1] at ha;by_cases h2:ak=2
 .subst h2;rw[zY rfl] at ha;cases hq:at? q.quants n with
  | none=>rw[hq] at ha;cases ha
  | some y=>
   rw[hq] at ha;simp only[zJ,zB,zW] at ha;obtain⟨rfl,rfl⟩:=ha;rw[show argT q ⟨2,n,v0⟩=⟨2,y.name,v0⟩ by simp [argT,hq]];obtain⟨i,rfl,hi⟩:=at?_some hq;have hm:=qf_ hn hi;have hk:=kqp_ (G:=G) q sl st c6 c7 c8 hi 0 v0;simp only[ckC,n11] at hk hm
   repeat' (first|simp -implicitDefEqProofs only[go_sem,ckC,t34,hm,ek]|apply ai__<;>intro hb|refine ac_ hk rfl rfl ?_|fail)
   exact hq_ h
 rw[zK h2] at ha;by_cases h3:ak=3
 .subst h3;rw[zY rfl] at ha;cases hq:at? q.frees n with
  | none=>rw[hq] at ha;cases ha
  | some y=>
   rw[hq] at ha;simp only[zJ,zB,zW] at ha;obtain⟨rfl,rfl⟩:=ha;rw[show argT q ⟨3,n,v0⟩=⟨2,y.name,v0⟩ by simp [argT,hq]];obtain⟨i,rfl,hi⟩:=at?_some hq;have hm:=ff10 hn hi;have hk:=kfp_ (G:=G) q sl st c6 c7 c8 hi 0 v0;simp only[ckC,n11] at hk hm
   repeat' (first|simp -implicitDefEqProofs only[go_sem,ckC,t34,hm,ek]|apply ai__<;>intro hb|refine ac_ hk rfl rfl ?_|fail)
   exact hq_ h
 rw[zK h3] at ha;simp only[zJ,zB,zW] at ha;obtain⟨rfl,rfl,rfl⟩:=ha;rw[show argT q ⟨4,0,v0⟩=⟨3,[],v0⟩ from rfl]
 repeat' (first|simp -implicitDefEqProofs only[go_sem,ckC,t34,ek]|apply ai__<;>intro hb)
 exact hq_ h
theorem s1p_ (x s:SymT) (hx:x.args.length<9223372036854775807) (hs:s.args.length<9223372036854775807):PQ G 209 [symV x,.eptr (iv s.event) 0,.eptr (symV s) 0] (.bool (decide (x=s))):=by
 have hc:=sEaAaAp_ (G:=G) x.args s.args hx hs;refine pccs1z λΦ h=>?_;unfold cccs1z;obtain⟨xe,xa⟩:=x;obtain⟨se,sa⟩:=s;simp only at hc;by_cases h1:xe=se
 .subst h1;have e:decide ((⟨xe,xa⟩:SymT)=⟨xe,sa⟩)=decide (xa=sa):=by simp
  rw[e] at h
  repeat' (first|(simp -implicitDefEqProofs only[go_sem,symV,a10,show ((xe:Int)==xe)=true by simp])|apply ai__<;>intro hb|refine ac_ hc rfl rfl ?_|fail)
  exact hq_ h
 .have e:decide ((⟨xe,xa⟩:SymT)=⟨se,sa⟩)=false:=by simp [h1]
  rw[e] at h;have e1:(xe==se)=false:=by simpa using h1
  repeat' (first|simp -implicitDefEqProofs only[go_sem,symV,a10,e1]|apply ai__<;>intro hb)
  exact hq_ h
def putY (ys:List SymT) (s:SymT):List SymT:=if s∈ys then ys else ys++[s]
theorem il11 {s:SymT}:∀{l:List SymT} {j:Nat},l[j]?=some s->l.idxOf s<=j
 | [],_,h=>by cases h
 | x::r,0,h=>by cases h;simp
 | x::r,j+1,h=>by have:=il11 (l:=r) (j:=j) h;rw[List.idxOf_cons];cases (x==s) <;> simp <;> omega
theorem ii11 (ys:List SymT) (s:SymT):idxF (λx=>decide (x=s)) ys=if s∈ys then ((ys.idxOf s:Nat):Int) else -1:=by
 split
 .rename_i h;have hlt:=wP.2 h;refine ia_ (x:=s) (by rw[zU hlt,uW hlt]) (by simp) λj y hj hy=>?_;rw[yQ];rintro rfl;have:=il11 hy;omega
 .rename_i h;refine in10 λj y hj hy=>?_;rw[yQ];rintro rfl;exact h (zG hy)
theorem sa10 {q:QeaT} {s:SymT} (h:symS q s=true):∃(i:Nat) (d:DeclT),s.event=(i:Int)∧q.decls[i]?=some d∧d.types.length=s.args.length∧∀(j:Nat) a k,s.args[j]?=some a->d.types[j]?=some k->argS q a k=true:=by
 unfold symS at h;cases hd:at? q.decls s.event with
 | none=>rw[hd] at h;cases h
 | some d=>
  rw[hd] at h;simp only at h;obtain⟨i,hi,hx⟩:=at?_some hd;have key:∀(l:List ArgT) (k:List Int),zipB (argS q) l k=true->k.length=l.length∧∀(j:Nat) a x,l[j]?=some a->k[j]?=some x->argS q a x=true:=by
   intro l
   induction l with
   | nil=>intro k h;cases k with
    | nil=>exact⟨rfl,λj a x ha=>by cases ha⟩
    | cons b r=>simp [zipB] at h
   | cons a r ih=>intro k h;cases k with
    | nil=>simp [zipB] at h
    | cons b s=>
     rw[zipB,zJ] at h;obtain⟨h1,h2⟩:=ih s h.2;refine⟨by simp [h1],λj y x hy hx=>?_⟩;cases j with
     | zero=>cases hy;cases hx;exact h.1
     | succ j=>exact h2 j y x hy hx
  obtain⟨k1,k2⟩:=key _ _ h;exact⟨i,d,hi,hx,k1,k2⟩
