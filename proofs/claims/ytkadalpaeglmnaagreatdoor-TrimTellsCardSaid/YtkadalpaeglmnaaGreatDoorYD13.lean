/-
  Lemmas. No claim is proved here.
-/
import Derived.Test.YtkadalpaeglmnaaGreatDoorYAcRt1
import Derived.Test.YtkadalpaeglmnaaGreatDoorYAcRt2
import Derived.Test.YtkadalpaeglmnaaGreatDoorYAcRt3
import Derived.Test.YtkadalpaeglmnaaGreatDoorYD10
set_option linter.unusedSimpArgs false
set_option maxHeartbeats 4000000
set_option maxRecDepth 100000
namespace Go.Proofs.YtkadalpaeglmnaaGreatDoor.Ab
open Go Go.RowKit
theorem wn10 {N:Nat} {E:List (Nat×AV)} {H:List (Nat×Box)} {c ty sz:Nat} {cs:List AV} (i:Nat) (k tyi szi:Nat) (hc:hget H c=some ⟨false,ty,sz,[.agg cs]⟩) (hk:cs[k]? =some .nils) (hi:i<N) (hni:hget H i=none) (hs:0<szi) (hs2:0<sz) (hE:p_ i E=E) (hH:p11 i H=H):
  Weak ⟨N,E,H⟩ ⟨N,E,(i,⟨true,tyi,szi,[]⟩)::hset H c ⟨false,ty,sz,[.agg (cs.set k (.arr i 0 0))]⟩⟩:=by
 rintro G C a w ⟨nm,F,h⟩;have hn:∀j,j≠i→upd nm i none j=nm j:=fun j hj=>zF hj;have hci:c≠i:=fun e=>by subst e;rw[hc] at hni;cases hni
 have hp:∀j b,j≠i→hget H j=some b→p10 i b=b:=fun j b hj hb=>by have:=hp_ H i j;rw[hH,zF hj,hb] at this;simpa using this.symm
 have hb:∀j b,hget ((i,(⟨true,tyi,szi,[]⟩:Box))::hset H c ⟨false,ty,sz,[.agg (cs.set k (.arr i 0 0))]⟩) j=some b→(j=i∧b=⟨true,tyi,szi,[]⟩)∨(j≠i∧j=c∧b=⟨false,ty,sz,[.agg (cs.set k (.arr i 0 0))]⟩)∨(j≠i∧j≠c∧hget H j=some b):=fun j b hj=>by
  simp only[hget] at hj;split at hj
  ·rename_i e;cases hj;exact .inl ⟨e.symm,rfl⟩
  ·rename_i e;rw[hh_] at hj;split at hj
   ·rename_i e2;cases hj;exact .inr (.inl ⟨fun x=>e x.symm,by first | exact e2 | exact e2.symm,rfl⟩)
   ·rename_i e2;exact .inr (.inr ⟨fun x=>e x.symm,fun x=>e2 (by first | exact x | exact x.symm),hj⟩)
 have hold:∀j b,j≠i→hget ((i,(⟨true,tyi,szi,[]⟩:Box))::hset H c ⟨false,ty,sz,[.agg (cs.set k (.arr i 0 0))]⟩) j=some b→∃b',hget H j=some b'∧b'.row=b.row:=fun j b hj hb'=>by
  rcases hb j b hb' with ⟨e,_⟩ | ⟨_,rfl,rfl⟩ | ⟨_,_,h3⟩
  ·exact absurd e hj
  ·exact⟨_,hc,rfl⟩
  ·exact⟨b,h3,rfl⟩
 have hu:∀j m,upd nm i none j=some m→j≠i∧nm j=some m:=fun j m hm=>by
  simp only[upd] at hm;split at hm
  ·cases hm
  ·rename_i e;exact⟨e,hm⟩
 refine⟨upd nm i none,F,⟨h.N,h.df,fun t=>?_,fun j b hj=>?_,fun j j' b c' m m' hj hj' hm hm' hg=>?_,fun j b m hj hm=>?_,fun j b m hj hm=>?_,h.good,h.f0,h.fb,h.keep,fun j hj=>?_⟩⟩
 ·have:=(h.env t).purge (i:=i) hn;have e:purge i (eget E t)=eget E t:=by rw[←ep_,hE]
  have e2:St.get ⟨N,E,H⟩ t=eget E t:=rfl;rw[e2,e] at this;exact this
 ·rcases hb j b hj with ⟨rfl,rfl⟩ | ⟨h1,rfl,rfl⟩ | ⟨h1,h2,h3⟩
  ·exact .inl ⟨zG rfl,rfl,rfl,hs⟩
  ·rcases h.box j _ hc with ⟨_,h2,_⟩ | ⟨m,hm,hl⟩
   ·cases h2
   ·obtain⟨q1,q2,q3,vs,q4,q5,q6,q7,q8,q9⟩:=hl.c hs2;have hp':=hp j _ h1 hc;have hg:purge.go i cs=cs:=by
     simp only[p10,zW,yA,Box.mk.injEq,purge.go,purge,sX,AV.agg.injEq,true_and,and_true] at hp';exact hp'
    refine .inr ⟨m,by rw[hn _ h1];exact hm,.inl ⟨q1,q2,q3,vs,q4,q5,by simpa using q6,q7,fun e he=>?_,fun k' e j' c' he hc'=>?_⟩⟩
    ·simp only[yP] at he;subst he;have:=q8 (.agg cs) (by simp);simpa [AV.cells] using this
    ·cases k' with
     | succ k'=>simp at he
     | zero=>
      simp only[yZ,zJ] at he;subst he;simp only[AV.cells] at hc';rw[xP] at hc';split at hc'
      ·rename_i ekj;subst ekj;split at hc'
       ·cases hc';obtain⟨u,u1,u2,u3⟩:=q9 0 (.agg cs) k .nils rfl hk;refine⟨u,u1,u2,?_⟩;simp only[zW,yA] at u3 ⊢;cases u3;exact .arrN _ _
       ·cases hc'
      ·obtain⟨u,u1,u2,u3⟩:=q9 0 (.agg cs) j' c' rfl hc';refine⟨u,u1,u2,?_⟩;simp only[zW,yA] at u3 ⊢;have e3:purge i c'=c':=by
        have:=purge.go_at i cs j';rw[hg] at this;have hc'':cs[j']? =some c':=hc';rw[hc''] at this;simpa using this.symm
       have:=u3.purge (i:=i) hn;rw[e3] at this;exact this
  ·rcases h.box j b h3 with ⟨q1,q2⟩ | ⟨m,hm,hl⟩
   ·exact .inl ⟨by rw[hn _ h1];exact q1,q2⟩
   ·refine .inr ⟨m,by rw[hn _ h1];exact hm,?_⟩;have:=hl.purge (i:=i) hn;rw[hp j b h1 h3] at this;exact this
 ·obtain⟨m1,m2⟩:=hu _ _ hm;obtain⟨m3,m4⟩:=hu _ _ hm';obtain⟨b1,b2,_⟩:=hold j b m1 hj;obtain⟨b3,b4,_⟩:=hold j' c' m3 hj';exact h.inj j j' b1 b3 m m' b2 b4 m2 m4 hg
 ·obtain⟨m1,m2⟩:=hu _ _ hm;obtain⟨b1,b2,_⟩:=hold j b m1 hj;exact h.fr j b1 m b2 m2
 ·obtain⟨m1,m2⟩:=hu _ _ hm;obtain⟨b1,b2,_⟩:=hold j b m1 hj;exact h.own j b1 m b2 m2
 ·obtain⟨h1,h2,h3⟩:=h.vn j hj;have hji:j≠i:=fun e=>by
   subst e;exact absurd (show j<N from hi) (Nat.not_lt.2 h1)
  refine⟨h1,by rw[hn _ hji];exact h2,fun b hb=>?_⟩;obtain⟨b1,b2,b3⟩:=hold j b hji hb;rw[←b3];exact h3 b1 b2
theorem wh_ {N:Nat} {E:List (Nat×AV)} {H H':List (Nat×Box)} (h:∀j,hget H' j=hget H j):Weak ⟨N,E,H⟩ ⟨N,E,H'⟩:=by
 rintro G C a w ⟨nm,F,r⟩;have e:∀j b,hget H' j=some b→hget H j=some b:=fun j b hj=>by rw[←h];exact hj
 exact⟨nm,F,⟨r.N,r.df,r.env,fun j b hj=>r.box j b (e j b hj),fun i j b c m m' hi hj=>r.inj i j b c m m' (e i b hi) (e j c hj),fun i b m hi=>r.fr i b m (e i b hi),fun i b m hi=>r.own i b m (e i b hi),r.good,r.f0,r.fb,r.keep,fun i hi=>let ⟨h1,h2,h3⟩:=r.vn i hi;⟨h1,h2,fun b hb=>h3 b (e i b hb)⟩⟩⟩
theorem wn11 {N:Nat} {E:List (Nat×AV)} {H:List (Nat×Box)} {c ty sz:Nat} {cs:List AV} (i:Nat) (k tyi szi:Nat) (hc:hget H c=some ⟨false,ty,sz,[.agg cs]⟩) (hk:cs[k]? =some .nils) (hi:i<N) (hni:hget H i=none) (hs:0<szi) (hs2:0<sz) (hE:p_ i E=E) (hH:p11 i H=H):
  Weak ⟨N,E,H⟩ ⟨N,E,happ (hset H c ⟨false,ty,sz,[.agg (cs.set k (.arr i 0 0))]⟩) [(i,⟨true,tyi,szi,[]⟩)]⟩:=by
 refine (wn10 i k tyi szi hc hk hi hni hs hs2 hE hH).trans (wh_ fun j=>?_);rw[hh10];have hci:c≠i:=fun e=>by subst e;rw[hc] at hni;cases hni
 simp only[hget];by_cases hj:i=j
 ·subst hj;rw[hh_,zF hci,hni]
 ·rw[zF hj,zF hj];cases hget (hset H c ⟨false,ty,sz,[.agg (cs.set k (.arr i 0 0))]⟩) j <;> rfl
theorem vr10 {α:Type} {e:α→AV} {sz:Nat} {H:List (Nat×Box)} {i n:Nat} {ty:Nat} {l:List α} (h0:0<sz) (hH:hget H i=some ⟨true,ty,sz,l.map e⟩) (hn:l.length=n):view H (.arr i 0 n)=some (.seq sz (l.map e)):=by subst hn;simp only[view,hH,yT,zX,zE,and_self,and_true,h0,xZ,uU];rw[zM (by simp)]
theorem t33 {α:Type} {l:List α} {i:Nat} {x:α} (h:l[i]? =some x):l.take (i+1)=l.take i++[x]:=by rw[vV,h];rfl
theorem ft_ {α:Type} {p:α→Bool} {l:List α} {i:Nat} {x:α} (h:l[i]? =some x):(l.take (i+1)).filter p=(l.take i).filter p++if p x then [x] else []:=by rw[t33 h,wA];cases hp:p x <;> simp [hp]
theorem d16 {α:Type} {l:List α} {i:Nat} {x:α} (h:l[i]? =some x):l.drop i=x::l.drop (i+1):=by obtain⟨h1,rfl⟩:=zZ.1 h;exact yD h1
theorem of_ {v:AV}:OkC [.eptr v 0]:=⟨fun _ =>rfl,fun _ _ =>rfl,fun _ =>rfl,fun _ _ =>rfl,fun _ =>rfl,fun _ =>rfl⟩
theorem of11 {v u:AV}:OkC [.eptr v 0,.eptr u 0]:=⟨fun _ =>rfl,fun _ _ =>rfl,fun _ =>rfl,fun _ _ =>rfl,fun _ =>rfl,fun _ =>rfl⟩
theorem P_.of_row {P:Program} {G:Nat→Option AV} {f:Nat} {args:List AV} {ty sz:Nat} {es:List AV} (h:H_ P G f args [] (.arr 1000 0 es.length) [(1000,⟨true,ty,sz,es⟩)]) (h0:0<sz):P_ P G f args (.seq sz es):=by
 intro w F vs hg ha;refine (h w F n10 vs hg ha ⟨fun i b hi=>by simp [hget] at hi,fun i j b c m m' hi=>by simp [hget] at hi,fun i b m hi=>by simp [hget] at hi⟩).mono ?_;rintro e w' ⟨v,F',nm',rfl,h1,h2,h3,h4,hb,_,h6,h7,h8⟩;have hown:∀k,Own nm' [(1000,⟨true,ty,sz,es⟩)] k→w.heap.size≤k∧k<w'.heap.size:=fun k hk=>by
  constructor
  ·rcases h6 k hk with h | ⟨i,b,m,hi,_⟩
   ·exact h
   ·simp [hget] at hi
  ·obtain⟨i,b,m,hi,hm,rfl⟩:=hk;rcases hb.box i b hi with ⟨h9,_⟩ | ⟨m',hm',hl⟩
   ·rw[h9] at hm;cases hm
   ·rw[hm'] at hm;cases hm;exact hl.there
 refine⟨v,fun k=>F' k∨Own nm' [(1000,⟨true,ty,sz,es⟩)] k,rfl,fun b hF=>.inl (h1 b hF),fun b hF=>?_,fun b hF=>?_,Rd.viewB hb.box (fun b hF=>.inl hF) (fun k hk=>.inr hk) 0 h4 ?_,⟨h7.1,h7.2.1,h7.2.2.1,h7.2.2.2,fun b hlt=>h8 b hlt fun⟨i,b,m,hi,_⟩=>by simp [hget] at hi⟩⟩
 ·rcases hF with hF | hF
  ·rcases h2 b hF with h | h | ⟨i,b,m,hi,_⟩
   ·exact .inl h
   ·exact .inr h
   ·simp [hget] at hi
  ·exact .inr (hown b hF).1
 ·rcases hF with hF | hF
  ·exact h3 b hF
  ·exact (hown b hF).2
 ·simp [viewB,viewK,hget,h0]
theorem an_ {N d ty sz by_ n:Nat} {E:List (Nat×AV)} {H:List (Nat×Box)} {z:AV} (h:n*by_≤140737488355328):amks ⟨N,E,H⟩ (some d) ty sz by_ z (.int .i64 (n:Int)) (.int .i64 (n:Int))=if d<N then some ⟨N,(d,.arr d 0 n)::p_ d E,(d,⟨true,ty,sz,List.replicate n z⟩)::p11 d H⟩ else none:=by unfold amks;simp only[zA];rw[zG ⟨vD _,wZ _,by omega⟩];rfl
variable {G:Nat→Option AV}
abbrev Ents:=List (Str×AV)
def e10 (l:Ents):List AV:=l.map fun e=>.tup [.str e.1,e.2]
def k13 (l:Ents):List Str:=l.map (·.1)
def f25 (s:Str):Ents→Nat→Option (Nat×AV)
 | [],_ =>none
 | e::r,i=>if s=e.1 then some (i,e.2) else f25 s r (i+1)
theorem me_ (s:Str):∀(l:Ents) (i:Nat),m12 false [1] (.str s) (e10 l) i=some (f25 s l i)
 | [],_ =>rfl
 | e::r,i=>by
  have e1:k14 false [1] (.str s) (.str e.1)=some (decide (s=e.1)):=by simp only[k14,i13,AV.cells,aeqs,l11,andO,and_self,xZ,tA,zJ];rw[yY];simp
  show m12 false [1] (.str s) (.tup [.str e.1,e.2]::e10 r) i=_;rw[m12,e1,f25];by_cases h:s=e.1
  ·rw[zG h,xM h]
  ·rw[zF h,wE h];exact me_ s r (i+1)
theorem fn_ {s:Str}:∀{l:Ents} {i:Nat},s∉k13 l→f25 s l i=none
 | [],_,_ =>rfl
 | e::r,i,h=>by unfold k13 at h;rw[yV,yM,not_or] at h;rw[f25,zF h.1];exact fn_ h.2
theorem fy_ {s:Str} {v:AV}:∀{l:Ents} {i j:Nat},l[j]? =some (s,v)→(k13 l).Nodup→f25 s l i=some (i+j,v)
 | [],_,_,h,_ =>by cases h
 | e::r,i,0,h,_ =>by cases h;rw[f25,zG rfl];rfl
 | e::r,i,j+1,h,hn=>by have hn:(e.1::k13 r).Nodup:=hn;rw[sK] at hn;have hm:s∈k13 r:=zI.2 ⟨(s,v),List.mem_of_getElem? h,rfl⟩;rw[f25,zF (fun (x:s=e.1)=>hn.1 (x ▸ hm)),fy_ (l:=r) (i:=i+1) (j:=j) h hn.2];congr 2;omega
def numE (f:Nat→AV):List Str→Nat→Ents
 | [],_ =>[]
 | s::r,k=>(s,f k)::numE f r (k+1)
theorem nk_ (f:Nat→AV):∀(l:List Str) (k:Nat),k13 (numE f l k)=l
 | [],_ =>rfl
 | s::r,k=>by show s::k13 (numE f r (k+1))=_;rw[nk_ f r]
theorem na12 {f:Nat→AV} {s:Str}:∀{l:List Str} {k j:Nat},l[j]? =some s→(numE f l k)[j]? =some (s,f (k+j))
 | [],_,_,h=>by cases h
 | x::r,k,0,h=>by cases h;rfl
 | x::r,k,j+1,h=>by show (numE f r (k+1))[j]? =_;rw[na12 (l:=r) h,show k+1+j=k+(j+1) by omega]
theorem na10 (f:Nat→AV) (s:Str):∀(l:List Str) (k:Nat),numE f (l++[s]) k=numE f l k++[(s,f (k+l.length))]
 | [],_ =>rfl
 | x::r,k=>by show (x,f k)::numE f (r++[s]) (k+1)=_;rw[na10 f s r,xX,show k+1+r.length=k+(r.length+1) by omega];rfl
theorem nl10 (f:Nat→AV):∀(l:List Str) (k:Nat),(numE f l k).length=l.length
 | [],_ =>rfl
 | x::r,k=>by simp [numE,nl10 f r]
theorem ka_ (a b:Ents):k13 (a++b)=k13 a++k13 b:=zR
def mapB (es:Ents):Box:=⟨true,1,0,e10 es⟩
def qBox (q:QeaT):Nat×Box:=(1001,⟨false,taQ_,9,[qeaV q]⟩)
def w12:Nat×Box:=(1005,⟨false,tfiib_,1,[.fn nct1_ [.ref 1004 0 0,.ref 1003 0 0]]⟩)
def tBox (t:TransT):Nat×Box:=(1006,⟨false,taT_,5,[t11 t]⟩)
def s11 (q:QeaT) (l:List ExT) (sets:List SetT) (at_:Int) (i:Nat) (s:SetT):Bool×Int:=
 match at? q.frees s.free with
 | none=>(false,at_)
 | some f=>if ((sets.take i).any fun x=>x.free==s.free)=true then (false,at_) else if w_ l at_ s.expr f.init.kind=true then (true,s.expr+1) else (false,at_)
theorem at12 {α:Type} {e:α→AV} {sz:Nat} {l:List α} {i:Nat} (hs:0<sz) (h:i≤l.length):aslc sz (.seq sz (l.map e)) none (some (.int .i64 (i:Int)))=some (.seq sz ((l.take i).map e)):=by simp [aslc,hs,h,List.map_take]
theorem ct21h_ (q:QeaT) (l:List ExT) (hl:l.length≤1000000) (t:TransT) (ht:t.sets.length<9223372036854775807) (at_:Int) (ha:0≤at_) (i:Nat) (s:SetT) (hs:t.sets[i]? =some s):
  HQ G nct21_ [iv i,setV s,.ref 1006 0 0,.ref 1001 0 0,.ref 1005 0 0] [a12 at_,e13 l,w12,qBox q,tBox t]
   (.bool (s11 q l t.sets at_ i s).1) [a12 (s11 q l t.sets at_ i s).2,e13 l,w12,qBox q,tBox t]:=by
 refine H_.of_runs Tryz.func145 kct21_ rfl (by rfl) (R_.of fun Φ h=>?_);unfold cct21_;have hit:=(zZ.1 hs).1;have hle:(i:Int)≤(t.sets.length:Int):=by omega
 have hc:=sC11 (G:=G) nct211_ [.eptr (setV s) 0] (by kernel_rfl) (os15 s) (fun x=>x.free==s.free) (t.sets.take i) (fun x _ =>ct211p_ x s) (by simp;omega);obtain⟨t1,t2,t3,t4,sets⟩:=t;dsimp only at*;obtain⟨fr,ex⟩:=s;dsimp only at*;have fin:∀b A heap,s11 q l sets at_ i ⟨fr,ex⟩=(b,A)→subH heap [a12 A,e13 l,w12,qBox q,tBox ⟨t1,t2,t3,t4,sets⟩]→Φ ⟨44,[(7,.bool b)],heap⟩:=fun b A heap hw e=>h _ ⟨_,_,Weak.refl _,rfl,fitB (by rw[hw]),by rw[hw];exact e.at⟩;clear h;simp only[setV] at hc;have hsl:=at12 (e:=setV) (sz:=2) (by omega) (show i≤sets.length by omega);cases hf:at? q.frees fr with
 | none=>
  have hn:=at?_none hf;have hr:s11 q l sets at_ i ⟨fr,ex⟩=(false,at_):=by simp [s11,hf]
  repeat' (first|simp -implicitDefEqProofs only[go_sem,a12,e13,w12,qBox,tBox,t11,s14,setV,qeaV,d_,q_,f_,s_,s10,n_,t_,zX,hsl]|refine ag_ (fun hb=>?_) (fun hb=>?_)|refine⟨fun hb=>?_,fun hb=>?_⟩|refine ac_ hc rfl rfl ?_|fail)
  all_goals first | exact fin _ _ _ hr ⟨rfl,rfl,rfl,rfl,rfl,trivial⟩ | (exfalso;simp at*;omega)
 | some e=>
  obtain⟨j,rfl,hj⟩:=at?_some hf;have hjt:=(zZ.1 hj).1;have hr:s11 q l sets at_ i ⟨j,ex⟩=if ((sets.take i).any fun x=>x.free==j)=true then (false,at_) else if w_ l at_ ex e.init.kind=true then (true,ex+1) else (false,at_):=by simp [s11,hf]
  have hwh:=ct1h_ (G:=G) l hl at_ ex e.init.kind ha;simp only[a12,e13] at hwh
  repeat' (first|simp -implicitDefEqProofs only[go_sem,a12,e13,w12,qBox,tBox,t11,s14,setV,qeaV,d_,q_,f_,s_,s10,n_,t_,zX,hsl,am_ hj,f10]|refine ag_ (fun hb=>?_) (fun hb=>?_)|refine⟨fun hb=>?_,fun hb=>?_⟩|refine ac_ hc rfl rfl ?_|(refine⟨by kernel_rfl,ach_ [(1004,1004),(1003,1003)] hwh rfl ⟨⟨_,_,rfl,rfl,rfl⟩,⟨_,_,rfl,rfl,rfl⟩,trivial⟩ rfl rfl rfl ?_⟩)|fail)
  all_goals first | (exfalso;simp at*;omega) | (refine fin _ _ _ ?_ ⟨rfl,rfl,rfl,rfl,rfl,trivial⟩)
  all_goals
   rw[hr];clear hr hwh fin hc;generalize w_ l at_ ex e.init.kind=w at*;generalize ((sets.take i).any fun x=>x.free==(j:Int))=a at*;cases w <;> cases a <;> simp_all
def allS {α σ:Type} (step:σ→Nat→α→Bool×σ):List α→Nat→σ→Bool×σ
 | [],_,s=>(true,s)
 | x::r,i,s=>if (step s i x).1=true then allS step r (i+1) (step s i x).2 else (false,(step s i x).2)
theorem as15 {α σ:Type} {step:σ→Nat→α→Bool×σ} {l:List α} {i:Nat} {x:α} (hx:l[i]? =some x) (s:σ):allS step (l.drop i) i s=if (step s i x).1=true then allS step (l.drop (i+1)) (i+1) (step s i x).2 else (false,(step s i x).2):=by obtain⟨hlt,rfl⟩:=zZ.1 hx;rw[yD hlt,allS]
theorem ae_ {α σ:Type} {step:σ→Nat→α→Bool×σ} {l:List α} {i:Nat} (h:l.length≤i) (s:σ):allS step (l.drop i) i s=(true,s):=by rw[xH h,allS]
theorem wp_ {l:List ExT} {a r k:Int} (ha:0≤a) (h:w_ l a r k=true):0≤r+1:=by
 unfold w_ at h;split at h
 ·cases h
 ·simp at h;omega
theorem sp10 {q:QeaT} {l:List ExT} {sets:List SetT} {a:Int} {i:Nat} {s:SetT} (ha:0≤a):0≤(s11 q l sets a i s).2:=by
 unfold s11
 repeat' split
 all_goals first | exact ha | exact wp_ ha ‹_›
theorem caaSh_ (q:QeaT) (l:List ExT) (hl:l.length≤1000000) (t:TransT) (ht:t.sets.length<9223372036854775807) (at_:Int) (ha:0≤at_):
  HQ G nc22 [s14 t.sets,.fn nct21_ [.ref 1006 0 0,.ref 1001 0 0,.ref 1005 0 0]] [a12 at_,e13 l,w12,qBox q,tBox t]
   (.bool (allS (s11 q l t.sets) t.sets 0 at_).1) [a12 (allS (s11 q l t.sets) t.sets 0 at_).2,e13 l,w12,qBox q,tBox t]:=by
 refine H_.of_runs Tryz.func148 kcaaS_ rfl (by rfl) (R_.of fun Φ h=>?_);unfold cc21;have fin:∀b A heap,allS (s11 q l t.sets) t.sets 0 at_=(b,A)→subH heap [a12 A,e13 l,w12,qBox q,tBox t]→Φ ⟨20,[(4,.bool b)],heap⟩:=fun b A heap hw e=>h _ ⟨_,_,Weak.refl _,rfl,fitB (by rw[hw]),by rw[hw];exact e.at⟩;clear h;have hbx:tBox t=(1006,⟨false,taT_,5,[.agg [iv t.from_,iv t.symbol,iv t.to_,iv t.guard,.seq 2 (t.sets.map setV)]]⟩):=rfl;simp -implicitDefEqProofs only[go_sem,s14,zX,a12,e13,w12,qBox,hbx,qeaV,d_,q_,f_,s_,s10,n_,t_];refine al_ (fun n st=>∃(i:Nat) (a:Int),i+n=t.sets.length∧st=⟨20,[(1,.fn nct21_ [.ref 1006 0 0,.ref 1001 0 0,.ref 1005 0 0]),(7,s14 t.sets),(8,iv t.sets.length),(9,iv i)],[a12 a,e13 l,w12,qBox q,tBox t]⟩∧0≤a∧allS (s11 q l t.sets) t.sets 0 at_=allS (s11 q l t.sets) (t.sets.drop i) i a) t.sets.length ⟨0,at_,by simp,rfl,ha,rfl⟩ ?_;rintro I hI n st ⟨i,a,hi,rfl,hpos,he⟩;simp -implicitDefEqProofs only[go_sem,s14,zX,a12,e13,w12,qBox,hbx,qeaV,d_,q_,f_,s_,s10,n_,t_];refine⟨fun hlt=>?_,fun hge=>?_⟩
 ·have hlt':i<t.sets.length:=by omega
  obtain⟨x,hx,hm⟩:=as10 hlt';have hw:=ws_ hlt' (by omega);have hc:=ct21h_ (G:=G) q l hl t ht a hpos i x hx;have hsp:=sp10 (q:=q) (l:=l) (sets:=t.sets) (i:=i) (s:=x) hpos;rw[as15 hx] at he;simp only[a12,e13,w12,qBox,hbx,setV,qeaV,d_,q_,f_,s_,s10,n_,t_] at hc;generalize hb:s11 q l t.sets a i x=b at*;obtain⟨b,A⟩:=b;dsimp only at*;have fin1:b=true→a11 I n ⟨20,[(1,.fn nct21_ [.ref 1006 0 0,.ref 1001 0 0,.ref 1005 0 0]),(7,s14 t.sets),(8,iv t.sets.length),(9,iv (i+1:Nat))],[a12 A,e13 l,w12,qBox q,tBox t]⟩:=fun hb=>by rw[zG hb] at he;exact aa_ (n - 1) (by omega) (hI _ _ ⟨i+1,A,by omega,rfl,hsp,he⟩)
  have fin0:∀heap,b=false→subH heap [a12 A,e13 l,w12,qBox q,tBox t]→Φ ⟨20,[(4,.bool false)],heap⟩:=fun heap hb hs=>by rw[zF (by simp [hb])] at he;exact fin _ _ _ he hs
  repeat' (first|simp -implicitDefEqProofs only[go_sem,am_ hx,setV,hw]|refine ag_ (fun hb=>?_) (fun hb=>?_)|refine⟨fun hb=>?_,fun hb=>?_⟩|(refine⟨by kernel_rfl,ac10 [(1004,1004),(1003,1003),(1005,1005),(1001,1001),(1006,1006)] hc rfl ⟨⟨_,_,rfl,rfl,rfl⟩,⟨_,_,rfl,rfl,rfl⟩,⟨_,_,rfl,rfl,rfl⟩,⟨_,_,rfl,rfl,rfl⟩,⟨_,_,rfl,rfl,rfl⟩,trivial⟩ rfl rfl rfl ?_⟩)|fail)
  all_goals first | exact fin0 _ (by simpa using hb) ⟨rfl,rfl,rfl,rfl,rfl,trivial⟩ | exact fin1 (by simpa using hb)
 ·rw[ae_ (by omega)] at he;exact fin _ _ _ he ⟨rfl,rfl,rfl,rfl,rfl,trivial⟩
theorem caaNp_ (f:Nat) (caps:List AV) (hf:b_ Tryz.prog f=true) (hcap:OkC caps) (p:Nat→NodeT→Bool) (l:List NodeT) (hp:∀(i:Nat) x,l[i]? =some x→PQ G f (iv i::n11 x::caps) (.bool (p i x))) (hl:l.length<9223372036854775807):
  PQ G ncaaN_ [.seq 7 (l.map n11),.fn f caps] (.bool (allI p l)):=by
 refine pcaaN_ fun Φ h=>?_;unfold ccaaN_;simp -implicitDefEqProofs only[go_sem,zX];refine al_ (fun n st=>∃i:Nat,i+n=l.length∧st=⟨20,[(1,.fn f caps),(7,.seq 7 (l.map n11)),(8,iv l.length),(9,iv i)],[]⟩∧∀j x,j<i→l[j]? =some x→p j x=true) l.length ⟨0,by simp,rfl,fun j x hj=>by omega⟩ ?_;rintro I hI n st ⟨i,hi,rfl,hno⟩;simp -implicitDefEqProofs only[go_sem];refine⟨fun hlt=>?_,fun hge=>?_⟩
 ·have hlt':i<l.length:=by omega
  obtain⟨x,hx,hm⟩:=as10 hlt';have hw:=ws_ hlt' (by omega);simp -implicitDefEqProofs only[go_sem,am_ hx,hcap.purge,n11];refine⟨hf,ac_ (hp i x hx) (by simp [v_,flat,viewBs,viewB,viewK,viewK.go,hcap.viewBs,n11]) rfl ?_⟩;cases hpx:p i x
  ·simp -implicitDefEqProofs only[go_sem,hcap.purge];exact h _ ⟨_,_,rfl,rfl,fitB (af_ hx hpx).symm⟩
  ·simp -implicitDefEqProofs only[go_sem,hw,hcap.purge];exact aa_ (n - 1) (by omega) (hI _ _ ⟨i+1,by omega,rfl,fun j y hj hy=>by
    by_cases e:j=i
    ·subst e;rw[hx] at hy;cases hy;exact hpx
    ·exact hno j y (by omega) hy⟩)
 ·have:i=l.length:=by omega
  subst this;exact h _ ⟨_,_,rfl,rfl,fitB (at10.2 fun i x hx=>hno i x (zZ.1 hx).1 hx).symm⟩
theorem am11 {α:Type} {e:α→AV} {sz:Nat} {l:List α} {a b:Int} (hs:0<sz) (h0:0≤a) (h1:a≤b) (h2:b≤l.length):aslc sz (.seq sz (l.map e)) (some (.int .i64 a)) (some (.int .i64 b))=some (.seq sz (((l.drop a.toNat).take (b.toNat - a.toNat)).map e)):=by simp [aslc,hs,h0,h1,h2,List.map_take,List.map_drop]
def mid {α:Type} (l:List α) (a b:Int):List α:=(l.drop a.toNat).take (b.toNat - a.toNat)
def inR (n:Int) (k:Nat):Bool:=decide (0≤n)&&decide (n<k)
def o12 (q:QeaT) (l:List ExT) (st:SymT→Int→Bool) (t:TransT) (from_ at_:Int):Bool×Int:=
 let r:=allS (s11 q l t.sets) t.sets 0 at_
 (r.1&&(match at? q.symbols t.symbol with | some s=>(mid q.nodes from_ r.2).all fun x=>!(x.op==2)||st s x.a | none=>false),r.2)
def o_ (q:QeaT) (l:List ExT) (st:SymT→Int→Bool) (at_:Int) (t:TransT):Bool×Int:=
 if (inR t.from_ q.states.length&&(inR t.to_ q.states.length&&inR t.symbol q.symbols.length))=false then (false,at_)
 else if t.guard= -1 then o12 q l st t at_ at_
 else if w_ l at_ t.guard 3=true then o12 q l st t at_ (t.guard+1) else (false,at_)
theorem wl_ {l:List ExT} {a r k:Int} (h:w_ l a r k=true):a≤r+1∧r+1≤l.length:=by
 unfold w_ at h;split at h
 ·cases h
 ·rename_i e he;obtain⟨j,rfl,hj⟩:=at?_some he;have:=(zZ.1 hj).1;simp at h;omega
theorem sl13 {q:QeaT} {l:List ExT} {sets:List SetT} {a:Int} {i:Nat} {s:SetT} (ha:a≤l.length):a≤(s11 q l sets a i s).2∧(s11 q l sets a i s).2≤l.length:=by
 unfold s11
 repeat' split
 all_goals first | exact⟨wZ _,ha⟩ | exact wl_ ‹_›
theorem al13 {q:QeaT} {l:List ExT} {sets:List SetT}:∀{r:List SetT} {i:Nat} {a:Int},a≤l.length→a≤(allS (s11 q l sets) r i a).2∧(allS (s11 q l sets) r i a).2≤l.length
 | [],_,a,h=>⟨wZ _,h⟩
 | x::r,i,a,h=>by
  have h1:=sl13 (q:=q) (sets:=sets) (i:=i) (s:=x) h;rw[allS];split
  ·have:=al13 (q:=q) (sets:=sets) (r:=r) (i:=i+1) h1.2;omega
  ·exact h1
theorem ol10 {q:QeaT} {l:List ExT} {st:SymT→Int→Bool} {a:Int} {t:TransT} (ha:0≤a) (hl:a≤l.length):0≤(o_ q l st a t).2∧(o_ q l st a t).2≤l.length:=by
 unfold o_ o12;split
 ·exact⟨ha,hl⟩
 ·split
  ·have:=al13 (q:=q) (sets:=t.sets) (r:=t.sets) (i:=0) hl;dsimp only;omega
  ·split
   ·rename_i hw;have h1:=wl_ hw;have:=al13 (q:=q) (sets:=t.sets) (r:=t.sets) (i:=0) h1.2;dsimp only;omega
   ·exact⟨ha,hl⟩
theorem oq10 (q:QeaT) (t:TransT):OkC [.eptr (qeaV q) 0,.eptr (t11 t) 0]:=⟨fun _ =>rfl,fun _ _ =>rfl,fun _ =>rfl,fun _ _ =>rfl,fun _ =>rfl,fun _ =>rfl⟩
theorem ct2h_ (q:QeaT) (l:List ExT) (hl:l.length≤1000000) (hn:l.length=q.nodes.length) (hs:∀s∈q.symbols,s.args.length<9223372036854775807) (t:TransT) (ht:t.sets.length<9223372036854775807) (at_:Int) (ha:0≤at_) (hal:at_≤l.length) (i:Int):
  HQ G nct2_ [iv i,t11 t,.ref 1004 0 0,.ref 1001 0 0,.ref 1005 0 0] [a12 at_,e13 l,w12,qBox q]
   (.bool (o_ q l s12 at_ t).1) [a12 (o_ q l s12 at_ t).2,e13 l,w12,qBox q]:=by
 refine H_.of_runs Tryz.func144 kct2_ rfl (by rfl) (R_.of fun Φ h=>?_);unfold cct2_;have fin:∀b A heap,o_ q l s12 at_ t=(b,A)→subH heap [a12 A,e13 l,w12,qBox q]→Φ ⟨74,[(7,.bool b)],heap⟩:=fun b A heap hw e=>h _ ⟨_,_,Weak.refl _,rfl,fitB (by rw[hw]),by rw[hw];exact e.at⟩;clear h;have hset:=fun (a:Int) (h:0≤a)=>caaSh_ (G:=G) q l hl t ht a h;have hwh:=ct1h_ (G:=G) l hl at_ t.guard 3 ha;simp only[a12,e13] at hwh;by_cases hc:(inR t.from_ q.states.length&&(inR t.to_ q.states.length&&inR t.symbol q.symbols.length))=false
 ·have hr:o_ q l s12 at_ t=(false,at_):=by rw[o_,zG hc]
  have fin':Φ ⟨74,[(7,.bool false)],_⟩:=fin _ _ ((6,⟨false,taT_,5,[t11 t]⟩)::[a12 at_,e13 l,w12,qBox q]) hr ⟨rfl,rfl,rfl,rfl,trivial⟩;obtain⟨t1,t2,t3,t4,sets⟩:=t;dsimp only at*;simp only[inR,wX,zU,zO,zK] at hc
  repeat' (first|simp -implicitDefEqProofs only[go_sem,a12,e13,w12,qBox,t11,s14,qeaV,d_,q_,f_,s_,s10,n_,t_,zX]|refine ag_ (fun hb=>?_) (fun hb=>?_)|refine⟨fun hb=>?_,fun hb=>?_⟩|(refine⟨by kernel_rfl,ac10 [(1004,1004),(1003,1003)] hwh rfl ⟨⟨_,_,rfl,rfl,rfl⟩,⟨_,_,rfl,rfl,rfl⟩,trivial⟩ rfl rfl rfl ?_⟩)|fail)
  all_goals first | exact fin' | (exfalso;simp at*;omega)
 ·have hin:inR t.from_ q.states.length=true∧inR t.to_ q.states.length=true∧inR t.symbol q.symbols.length=true:=by
   rw[uT] at hc;simpa only[zK] using hc
  obtain⟨hi1,hi2,hi3⟩:=hin;obtain⟨s,hsy⟩:∃s,at? q.symbols t.symbol=some s:=by
   cases h:at? q.symbols t.symbol with
   | some s=>exact⟨s,rfl⟩
   | none=>
    exfalso;have:=at?_none h;simp [inR] at hi3;omega
  have hsl:s.args.length<9223372036854775807:=by obtain⟨j,_,hj⟩:=at?_some hsy;exact hs s (List.mem_of_getElem? hj)
  simp only[inR,zK,zU] at hi1 hi2 hi3
  have key:∀a1:Int,0≤a1→at_≤a1→a1≤l.length→o_ q l s12 at_ t=o12 q l s12 t at_ a1→∀b A,allS (s11 q l t.sets) t.sets 0 a1=(b,A)→
    at_≤A∧A≤q.nodes.length∧(b=false→o_ q l s12 at_ t=(false,A))∧(b=true→o_ q l s12 at_ t=(allI (fun _ (x:NodeT)=>!(x.op==2)||s12 s x.a) (mid q.nodes at_ A),A)):=by
   intro a1 h1 h2 h3 he b A hb;have:=al13 (q:=q) (sets:=t.sets) (r:=t.sets) (i:=0) h3;rw[hb] at this;rw[he,o12,hb,hsy,ac18];dsimp only at*;refine⟨by omega,by omega,?_,?_⟩
   ·rintro rfl;rfl
   ·rintro rfl;rfl
  have hall:=fun A:Int=>caaNp_ (G:=G) nct22_ [.eptr (qeaV q) 0,.eptr (t11 t) 0] (by kernel_rfl) (oq10 q t) (fun _ x=>!(x.op==2)||s12 s x.a) (mid q.nodes at_ A) (fun i x _ =>ct22p_ q t s hsy hsl i x) (by simp [mid];omega);by_cases hg:t.guard= -1
  ·have he:o_ q l s12 at_ t=o12 q l s12 t at_ at_:=by rw[o_,zF hc,zG hg]
   have key:=key at_ ha (wZ _) hal he;have hset:=hset at_ ha;generalize allS (s11 q l t.sets) t.sets 0 at_=r at*;obtain⟨b,A⟩:=r;obtain⟨k1,k2,k3,k4⟩:=key b A rfl;have hall:=hall A;have hmid:=am11 (e:=n11) (sz:=7) (l:=q.nodes) (a:=at_) (b:=A) (by omega) ha k1 k2;obtain⟨t1,t2,t3,t4,sets⟩:=t;dsimp only at*;subst hg;simp only[a12,e13,w12,qBox,tBox,t11,s14,qeaV,d_,q_,f_,s_,s10,n_,t_] at hset hall
   repeat' (first|simp -implicitDefEqProofs only[go_sem,a12,e13,w12,qBox,t11,s14,qeaV,d_,q_,f_,s_,s10,n_,t_,zX,hmid]|refine ag_ (fun hb=>?_) (fun hb=>?_)|refine⟨fun hb=>?_,fun hb=>?_⟩|(refine ac10 [(1004,1004),(1003,1003),(1005,1005),(1001,1001),(1006,6)] hset rfl ⟨⟨_,_,rfl,rfl,rfl⟩,⟨_,_,rfl,rfl,rfl⟩,⟨_,_,rfl,rfl,rfl⟩,⟨_,_,rfl,rfl,rfl⟩,⟨_,_,rfl,rfl,rfl⟩,trivial⟩ rfl rfl rfl ?_)|refine ac_ hall rfl rfl ?_|fail)
   all_goals first | exact fin _ _ _ (k4 (by simpa using hb)) ⟨rfl,rfl,rfl,rfl,trivial⟩ | exact fin _ _ _ (k3 (by simpa using hb)) ⟨rfl,rfl,rfl,rfl,trivial⟩ | (exfalso;simp at*;omega)
  ·cases hw:w_ l at_ t.guard 3 with
   | false=>
    have he:o_ q l s12 at_ t=(false,at_):=by rw[o_,zF hc,zF hg,hw];rfl
    have fin':∀heap,subH heap [a12 at_,e13 l,w12,qBox q]→Φ ⟨74,[(7,.bool false)],heap⟩:=fun heap=>fin _ _ _ he;rw[hw] at hwh;clear hset hall key fin;obtain⟨t1,t2,t3,t4,sets⟩:=t;dsimp only at*
    repeat' (first|simp -implicitDefEqProofs only[go_sem,a12,e13,w12,qBox,t11,s14,qeaV,d_,q_,f_,s_,s10,n_,t_,zX]|refine ag_ (fun hb=>?_) (fun hb=>?_)|refine⟨fun hb=>?_,fun hb=>?_⟩|(refine⟨by kernel_rfl,ac10 [(1004,1004),(1003,1003)] hwh rfl ⟨⟨_,_,rfl,rfl,rfl⟩,⟨_,_,rfl,rfl,rfl⟩,trivial⟩ rfl rfl rfl ?_⟩)|fail)
    all_goals first | exact fin' _ ⟨rfl,rfl,rfl,rfl,trivial⟩ | (exfalso;simp at*;omega)
   | true=>
    have hwl:=wl_ hw;have hwp:=wp_ ha hw;have he:o_ q l s12 at_ t=o12 q l s12 t at_ (t.guard+1):=by rw[o_,zF hc,zF hg,zG hw]
    have key:=key (t.guard+1) hwp hwl.1 hwl.2 he;have hset:=hset (t.guard+1) hwp;rw[hw] at hwh;generalize allS (s11 q l t.sets) t.sets 0 (t.guard+1)=r at*;obtain⟨b,A⟩:=r;obtain⟨k1,k2,k3,k4⟩:=key b A rfl;have hall:=hall A;have hmid:=am11 (e:=n11) (sz:=7) (l:=q.nodes) (a:=at_) (b:=A) (by omega) ha k1 k2;obtain⟨t1,t2,t3,t4,sets⟩:=t;dsimp only at*;simp only[a12,e13,w12,qBox,tBox,t11,s14,qeaV,d_,q_,f_,s_,s10,n_,t_] at hset hall
    repeat' (first|simp -implicitDefEqProofs only[go_sem,a12,e13,w12,qBox,t11,s14,qeaV,d_,q_,f_,s_,s10,n_,t_,zX,hmid]|refine ag_ (fun hb=>?_) (fun hb=>?_)|refine⟨fun hb=>?_,fun hb=>?_⟩|(refine⟨by kernel_rfl,ac10 [(1004,1004),(1003,1003)] hwh rfl ⟨⟨_,_,rfl,rfl,rfl⟩,⟨_,_,rfl,rfl,rfl⟩,trivial⟩ rfl rfl rfl ?_⟩)|(refine ac10 [(1004,1004),(1003,1003),(1005,1005),(1001,1001),(1006,6)] hset rfl ⟨⟨_,_,rfl,rfl,rfl⟩,⟨_,_,rfl,rfl,rfl⟩,⟨_,_,rfl,rfl,rfl⟩,⟨_,_,rfl,rfl,rfl⟩,⟨_,_,rfl,rfl,rfl⟩,trivial⟩ rfl rfl rfl ?_)|refine ac_ hall rfl rfl ?_|fail)
    all_goals first | exact fin _ _ _ (k4 (by simpa using hb)) ⟨rfl,rfl,rfl,rfl,trivial⟩ | exact fin _ _ _ (k3 (by simpa using hb)) ⟨rfl,rfl,rfl,rfl,trivial⟩ | (exfalso;simp at*;omega)
structure QeaT.Few (q:QeaT):Prop where
 decls:q.decls.length≤1000000
 types:∀d∈q.decls,d.types.length≤1000000
 quants:q.quants.length≤1000000
 frees:q.frees.length≤1000000
 states:q.states.length≤1000000
 symbols:q.symbols.length≤1000000
 args:∀s∈q.symbols,s.args.length≤1000000
 nodes:q.nodes.length≤1000000
 trans:q.trans.length≤1000000
 sets:∀t∈q.trans,t.sets.length≤1000000
theorem caaTh_ (q:QeaT) (l:List ExT) (hq:q.Few) (hn:l.length=q.nodes.length):
  HQ G ncaaT_ [t_ q.trans,.fn nct2_ [.ref 1004 0 0,.ref 1001 0 0,.ref 1005 0 0]] [a12 0,e13 l,w12,qBox q]
   (.bool (allS (fun a _ t=>o_ q l s12 a t) q.trans 0 0).1) [a12 (allS (fun a _ t=>o_ q l s12 a t) q.trans 0 0).2,e13 l,w12,qBox q]:=by
 have htl:=hq.trans;refine H_.of_runs Tryz.func152 kcaaT_ rfl (by rfl) (R_.of fun Φ h=>?_);unfold ccaaT_;have fin:∀b A heap,allS (fun a _ t=>o_ q l s12 a t) q.trans 0 0=(b,A)→subH heap [a12 A,e13 l,w12,qBox q]→Φ ⟨20,[(4,.bool b)],heap⟩:=fun b A heap hw e=>h _ ⟨_,_,Weak.refl _,rfl,fitB (by rw[hw]),by rw[hw];exact e.at⟩;clear h;simp -implicitDefEqProofs only[go_sem,zX,a12,e13,w12,qBox,qeaV,d_,q_,f_,s_,s10,n_,t_];refine al_ (fun n st=>∃(i:Nat) (a:Int),i+n=q.trans.length∧st=⟨20,[(1,.fn nct2_ [.ref 1004 0 0,.ref 1001 0 0,.ref 1005 0 0]),(7,t_ q.trans),(8,iv q.trans.length),(9,iv i)],[a12 a,e13 l,w12,qBox q]⟩∧0≤a∧a≤l.length∧allS (fun a _ t=>o_ q l s12 a t) q.trans 0 0=allS (fun a _ t=>o_ q l s12 a t) (q.trans.drop i) i a) q.trans.length ⟨0,0,by simp,rfl,by omega,by omega,rfl⟩ ?_;rintro I hI n st ⟨i,a,hi,rfl,hpos,hle,he⟩;simp -implicitDefEqProofs only[go_sem,zX,a12,e13,w12,qBox,qeaV,d_,q_,f_,s_,s10,n_,t_];refine⟨fun hlt=>?_,fun hge=>?_⟩
 ·have hlt':i<q.trans.length:=by omega
  obtain⟨x,hx,hm⟩:=as10 hlt';have hw:=ws_ hlt' (by omega);have hc:=ct2h_ (G:=G) q l (by have:=hq.nodes;omega) hn (fun s hs=>by have:=hq.args s hs;omega) x (by have:=hq.sets x hm;omega) a hpos hle i;have hsp:=ol10 (q:=q) (st:=s12) (t:=x) hpos hle;rw[as15 hx] at he;simp only[a12,e13,w12,qBox,t11,s14,qeaV,d_,q_,f_,s_,s10,n_,t_] at hc
  try dsimp only at he
  generalize hb:o_ q l s12 a x=b at*;obtain⟨b,A⟩:=b;dsimp only at*;have fin1:b=true→a11 I n ⟨20,[(1,.fn nct2_ [.ref 1004 0 0,.ref 1001 0 0,.ref 1005 0 0]),(7,t_ q.trans),(8,iv q.trans.length),(9,iv (i+1:Nat))],[a12 A,e13 l,w12,qBox q]⟩:=fun hb=>by rw[zG hb] at he;exact aa_ (n - 1) (by omega) (hI _ _ ⟨i+1,A,by omega,rfl,hsp.1,hsp.2,he⟩)
  have fin0:∀heap,b=false→subH heap [a12 A,e13 l,w12,qBox q]→Φ ⟨20,[(4,.bool false)],heap⟩:=fun heap hb hs=>by rw[zF (by simp [hb])] at he;exact fin _ _ _ he hs
  repeat' (first|simp -implicitDefEqProofs only[go_sem,am_ hx,t11,s14,hw]|refine ag_ (fun hb=>?_) (fun hb=>?_)|refine⟨fun hb=>?_,fun hb=>?_⟩|(refine⟨by kernel_rfl,ac10 [(1004,1004),(1003,1003),(1005,1005),(1001,1001)] hc rfl ⟨⟨_,_,rfl,rfl,rfl⟩,⟨_,_,rfl,rfl,rfl⟩,⟨_,_,rfl,rfl,rfl⟩,⟨_,_,rfl,rfl,rfl⟩,trivial⟩ rfl rfl rfl ?_⟩)|fail)
  all_goals first | exact fin0 _ (by simpa using hb) ⟨rfl,rfl,rfl,rfl,trivial⟩ | exact fin1 (by simpa using hb)
 ·rw[ae_ (by omega)] at he;exact fin _ _ _ he ⟨rfl,rfl,rfl,rfl,trivial⟩
def t41 (q:QeaT) (l:List ExT) (st:SymT→Int→Bool):Bool:=
 let r:=allS (fun a _ t=>o_ q l st a t) q.trans 0 0
 r.1&&r.2==(l.length:Int)
theorem ctp_ (q:QeaT) (hq:q.Few):PQ G nct_ [qeaV q] (.bool (t41 q (e11 q) s12)):=by
 have hln:(e11 q).length=q.nodes.length:=el_ q _ (by omega);have hex:=cep_ (G:=G) q hq.nodes;have hall:=caaTh_ (G:=G) q (e11 q) hq hln;unfold t41;generalize allS (fun a _ t=>o_ q (e11 q) s12 a t) q.trans 0 0=r at*;obtain⟨b,A⟩:=r;refine pct_ fun Φ h=>?_;unfold cct_;dsimp only at*;simp only[a12,e13,w12,qBox,qeaV,d_,q_,f_,s_,s10,n_,t_] at hall hex
 repeat' (first|simp -implicitDefEqProofs only[go_sem,qeaV,d_,q_,f_,s_,s10,n_,t_,zX]|refine ag_ (fun hb=>?_) (fun hb=>?_)|refine⟨fun hb=>?_,fun hb=>?_⟩|refine ac_ hex rfl rfl ?_|(refine ac10 [(1004,4),(1003,3),(1005,5),(1001,1)] hall rfl ⟨⟨_,_,rfl,rfl,rfl⟩,⟨_,_,rfl,rfl,rfl⟩,⟨_,_,rfl,rfl,rfl⟩,⟨_,_,rfl,rfl,rfl⟩,trivial⟩ rfl rfl rfl ?_)|fail)
 all_goals (refine h _ ⟨_,_,rfl,rfl,fitB ?_⟩;clear h;simp_all)
