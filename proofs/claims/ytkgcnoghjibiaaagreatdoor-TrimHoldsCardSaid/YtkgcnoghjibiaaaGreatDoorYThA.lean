/- Lemmas. -/
import Derived.Test.YtkgcnoghjibiaaaGreatDoorYHt4
set_option linter.unusedSimpArgs false
set_option maxHeartbeats 4000000
set_option maxRecDepth 100000
namespace Go.Proofs.YtkgcnoghjibiaaaGreatDoor.Ab
open Go
def R_ (hits:List HitT):Prop:=hits.Pairwise λa b=>a.symbol<b.symbol
theorem wz_ (a:Int):w13 a 0=a:=by
 unfold w13;by_cases h:a=0
 .rw[zY (.inl h),h]
 .rw[zK (by omega)]
theorem hn_ {q:QeaT} {c:CfgT} {t:TransT}:∀{l:List HitT} (s:List CfgT×Int),(∀h∈l,¬h.symbol=t.symbol)->l.foldl (h19 q c t) s=s
 | [],_,_ =>rfl
 | x::l,s,h=>by rw[zO,h19,zK (h x (by simp))];exact hn_ s λy hy=>h y (by simp [hy])
theorem hf_ {q:QeaT} {c:CfgT} {t:TransT}:∀{l:List HitT} (s:List CfgT×Int),R_ l->l.foldl (h19 q c t) s=match l.find? (λh=>h.symbol==t.symbol) with
  | some h=>((if (f14 q c t h).2.1=true then putR s.1 (f14 q c t h).1 else s.1),w13 s.2 (f14 q c t h).2.2)
  | none=>s
 | [],_,_ =>rfl
 | x::l,s,h=>by
  obtain⟨h1,h2⟩:=tH.1 h;rw[zO,List.find?_cons];by_cases hx:x.symbol=t.symbol
  .rw[show (x.symbol==t.symbol)=true by simpa using hx];rw[hn_ _ λy hy e=>by have:=h1 y hy;omega];rw[h19,zY hx]
  .rw[show (x.symbol==t.symbol)=false by simpa using hx];rw[h19,zK hx];exact hf_ s h2
theorem te12 {q:QeaT} {c:CfgT} {hits:List HitT} (hr:R_ hits) (s:List CfgT×Int) (t:TransT):t40 q c hits s t=((okT q c hits t).foldl putR s.1,(badT q c hits t).foldl w13 s.2):=by
 unfold t40 okT badT resT;by_cases hf:t.from_=c.state
 .rw[zY hf,zY hf,hf_ s hr];cases hits.find? (λh=>h.symbol==t.symbol) with
  | none=>rfl
  | some h=>
   simp only[yF];generalize f14 q c t h=r;obtain⟨n,b,e⟩:=r;dsimp only;by_cases he:e=0
   .subst he;rw[wz_];cases b <;> rfl
   .cases b <;> simp [he]
 .rw[zK hf,zK hf];rfl
theorem te10 {q:QeaT} {c:CfgT} {hits:List HitT} (hr:R_ hits):∀(l:List TransT) (s:List CfgT×Int),l.foldl (t40 q c hits) s=((l.flatMap (okT q c hits)).foldl putR s.1,(l.flatMap (badT q c hits)).foldl w13 s.2)
 | [],_ =>rfl
 | t::l,s=>by rw[zO,te10 hr l,te12 hr,wB,wB,uR,uR]
theorem on12 {l:List CfgT}:ofR l=[]↔l=[]:=by
 constructor
 .intro h;rcases List.eq_nil_or_concat l with rfl | ⟨l',x,rfl⟩
  .rfl
  .exfalso;unfold ofR at h;rw[List.concat_eq_append,uR] at h;exact pn11 _ _ h
 .intro h;subst h;rfl
theorem oe_ {q:QeaT} {c:CfgT} {hits:List HitT} (hr:R_ hits):o14 q c hits=oneQ q c hits:=by
 have hS:o13 q c hits=(ofR (oksR q c hits),l19 (b15 q c hits)):=te10 hr q.trans ([],0);unfold o14 oneQ;rw[hS];dsimp only;by_cases h:l19 (b15 q c hits)=0
 .have hn:¬¬l19 (b15 q c hits)=0:=λe=>e h;rw[zK hn,zK hn];by_cases h2:oksR q c hits=[]∧n17 q c=false
  .have h3:ofR (oksR q c hits)=[]∧n17 q c=false:=⟨on12.2 h2.1,h2.2⟩;rw[zY h2,zY h3]
  .have h3:¬(ofR (oksR q c hits)=[]∧n17 q c=false):=λe=>h2 ⟨on12.1 e.1,e.2⟩;rw[zK h2,zK h3]
 .rw[zY h,zY h]
theorem ae11 {q:QeaT} {set:List CfgT} {hits:List HitT} (hr:R_ hits):a25 q set hits=allQ q set hits:=by
 have e:a30 q hits=a20 q hits:=by funext s c;unfold a30 a20;rw[oe_ hr]
 unfold a25 allQ;rw[e]
theorem gy_ {m:List SlotT} {v:Int} (h:(getR m v).2=true):∃y∈m,y.var=v∧(getR m v).1=y.value:=by
 unfold getR at h ⊢;split at h
 .rename_i s hs;refine⟨s,vT hs,by simpa using List.find?_some hs,rfl⟩
 .cases h
open Go.RowKit
variable {G:Nat->Option AV}
def evGo:List Val->List Int->Bool
 | v::vs,t::ts=>v.kind==t&&(v.ok&&evGo vs ts)
 | _,_ =>true
def evR (l:List DeclT) (e:EvT):Bool:=match at? l (idxF (λd=>d.name==e.name) l) with
 | none=>false
 | some d=>d.types.length==e.args.length&&evGo e.args d.types
theorem ea14 {vs:List Val} {ts:List Int} {i:Nat} {v:Val} {t:Int} (hv:vs[i]?=some v) (ht:ts[i]?=some t):evGo (vs.drop i) (ts.drop i)=(v.kind==t&&(v.ok&&evGo (vs.drop (i+1)) (ts.drop (i+1)))):=by rw[da_ hv,da_ ht,evGo]
theorem ee10 {vs:List Val} {ts:List Int} {i:Nat} (h:vs.length<=i):evGo (vs.drop i) (ts.drop i)=true:=by rw[yL h];cases ts.drop i <;> rfl
theorem ea11:∀{vs:List Val} {ts:List Int},evGo vs ts=true->vs.length=ts.length->∀v∈vs,v.ok=true
 | [],_,_,_ =>λv h=>by cases h
 | v::vs,[],_,hl=>by cases hl
 | v::vs,t::ts,h,hl=>λx hx=>by
  rw[evGo,zJ,zJ] at h;rcases yV.1 hx with rfl | hx
  .exact h.2.1
  .exact ea11 h.2.2 (by simpa using hl) x hx
theorem rR11 (l:List DeclT) (e:EvT) (hl:l.length<=1000000) (hd:∀d∈l,d.types.length<=1000000):PQ G 11 [d_ l,e10 e] (.bool (evR l e)):=by
 have h1:=rFp_ (G:=G) l (by omega) e.name;refine pp20 λΦ h=>?_;unfold cp22;have fin:∀b heap,evR l e=b->Φ ⟨56,[(4,.bool b)],heap⟩:=λb heap e=>h _ ⟨_,_,rfl,rfl,fitB e.symm⟩;clear h
 have hR:evR l e=match at? l (idxF (λd=>d.name==e.name) l) with
  | none=>false
  | some d=>d.types.length==e.args.length&&evGo e.args d.types:=rfl
 generalize evR l e=R at*;obtain⟨en,ea⟩:=e;dsimp only at h1 hR;generalize hidx:idxF (λd=>d.name==en) l=idx at*;simp only[d_] at h1;cases ha:at? l idx with
 | none=>
  rw[ha] at hR;have hneg:idx<0:=by
   rcases at?_none ha with h | h
   .exact h
   .exfalso;rw[<-hidx] at h;unfold idxF at h;split at h
    .rename_i k hk;rw[xA] at hk;have:=hk.1;omega
    .omega
  have e1:(idx<0)=True:=by simp;exact hneg
  repeat' (first|simp -implicitDefEqProofs only[go_sem,e10,d_,e1,yD]|apply ai__<;>intro hb|refine ac_ h1 rfl rfl ?_|fail)
  exact fin _ _ hR
 | some d=>
  obtain⟨j,rfl,hj⟩:=at?_some ha;have hdl:=hd d (zG hj);rw[ha] at hR;dsimp only at hR;obtain⟨dn,dt⟩:=d;dsimp only at hR hdl;have e1:((j:Int)<0)=False:=by simp
  by_cases hln:dt.length=ea.length
  .rw[show (dt.length==ea.length)=true by simpa using hln,yR] at hR;have e2:((dt.length:Int) != (ea.length:Int))=false:=by simp;omega
   repeat' (first|simp -implicitDefEqProofs only[go_sem,e10,d_,e1,yA,am_ hj,d12,i11,zQ,e2]|apply ai__<;>intro hb|refine ac_ h1 rfl rfl ?_|fail)
   refine al_ (λn st=>∃i:Nat,i+n=ea.length∧st=⟨56,[(0,d_ l),(3,.ref 3 0 0),(5,iv j),(6,iv i)],[(3,⟨false,45,2,[e10 ⟨en,ea⟩]⟩)]⟩∧evGo (ea.drop i) (dt.drop i)=R) ea.length ⟨0,by simp,rfl,hR.symm⟩ ?_;rintro I hI n st ⟨i,hi,rfl,hgo⟩;by_cases hlt':i<ea.length
   .obtain⟨v,hv,_⟩:=as10 hlt';obtain⟨t,ht,_⟩:=as10 (l:=dt) (i:=i) (by omega);have hw:=ws_ hlt';have hlt:((i:Int)<(ea.length:Int))=True:=by simp;exact hlt'
    rw[ea14 hv ht] at hgo;have h3:=rRp_ (G:=G) v;obtain⟨v1,v2,v3,v4⟩:=v;generalize (⟨v1,v2,v3,v4⟩:Val).ok=ok at*;dsimp only at hgo;simp only[valV] at h3;by_cases hk:v1=t
    .rw[show (v1==t)=true by simpa using hk,yR] at hgo;have e3:(v1 != t)=false:=by simp [hk]
     cases ok
     .rw[yM] at hgo
      repeat' (first|simp -implicitDefEqProofs only[go_sem,e10,d_,zQ,hlt,yD,am_ hj,am_ hv,am_ ht,d12,i11,valV,e3,hw]|apply ai__<;>intro hb|refine ac_ h3 rfl rfl ?_|fail)
      exact fin _ _ hgo.symm
     .rw[yR] at hgo
      repeat' (first|simp -implicitDefEqProofs only[go_sem,e10,d_,zQ,hlt,yD,am_ hj,am_ hv,am_ ht,d12,i11,valV,e3,hw]|apply ai__<;>intro hb|refine ac_ h3 rfl rfl ?_|fail)
      exact aa_ (n - 1) (by omega) (hI _ _ ⟨i+1,by omega,rfl,hgo⟩)
    .rw[show (v1==t)=false by simpa using hk,yM] at hgo;have e3:(v1 != t)=true:=by simp [hk]
     repeat' (first|simp -implicitDefEqProofs only[go_sem,e10,d_,zQ,hlt,yD,am_ hj,am_ hv,am_ ht,d12,i11,valV,e3,hw]|apply ai__<;>intro hb|refine ac_ h3 rfl rfl ?_|fail)
     exact fin _ _ hgo.symm
   .have hlt:((i:Int)<(ea.length:Int))=False:=by simp;omega
    rw[ee10 (by omega)] at hgo
    repeat' (first|simp -implicitDefEqProofs only[go_sem,e10,d_,zQ,hlt,yA]|apply ai__<;>intro hb)
    exact fin _ _ hgo.symm
  .rw[show (dt.length==ea.length)=false by simpa using hln,yM] at hR;have e2:((dt.length:Int) != (ea.length:Int))=true:=by simp;omega
   repeat' (first|simp -implicitDefEqProofs only[go_sem,e10,d_,e1,yA,am_ hj,d12,i11,zQ,e2]|apply ai__<;>intro hb|refine ac_ h1 rfl rfl ?_|fail)
   exact fin _ _ hR
theorem eo14 {l:List DeclT} {e:EvT} (h:evR l e=true):∀v∈e.args,v.ok=true:=by
 unfold evR at h;split at h
 .cases h
 .rw[zJ,zB] at h;exact ea11 h.2 h.1.symm
theorem uv_ {a b:List SlotT} {s:SlotT} (h:s∈u15 a b):∃x,(x∈a∨x∈b)∧x.value=s.value∧x.var=s.var:=by
 unfold u15 at h;obtain⟨v,_,h⟩:=List.mem_flatMap.1 h;unfold u11 at h;split at h
 .rename_i ha;obtain rfl:=yZ.1 h;obtain⟨y,hy,h1,h2⟩:=gy_ ha;exact⟨y,.inl hy,h2.symm,h1⟩
 .split at h
  .rename_i hb;obtain rfl:=yZ.1 h;obtain⟨y,hy,h1,h2⟩:=gy_ hb;exact⟨y,.inr hy,h2.symm,h1⟩
  .cases h
theorem pm16 {l:List SlotT} {s x:SlotT} (h:x∈putS l s):x∈l∨x=s:=by
 unfold putS at h;simp only[yB,yV] at h;rcases h with h | h | h
 .exact .inl (wG h)
 .exact .inr h
 .exact .inl (vJ h)
theorem ha10 {a:ArgT} {v:Val} {b f:List SlotT} {r:List SlotT×List SlotT} (h:h17 a v b f=some r):(∀s∈r.1,(∃x∈b,x.value=s.value∧x.var=s.var)∨(a.kind=2∧s.value=v∧s.var=a.n))∧(∀s∈r.2,s∈f∨(a.kind=3∧s=⟨a.n,v⟩))∧(¬a.kind=3->r.2=f):=by
 have keep:∀s∈b,(∃x∈b,x.value=s.value∧x.var=s.var)∨(a.kind=2∧s.value=v∧s.var=a.n):=λs hs=>.inl ⟨s,hs,rfl,rfl⟩;unfold h17 at h;split at h
 .split at h
  .cases h;exact⟨keep,λs hs=>.inl hs,λ_ =>rfl⟩
  .cases h
 split at h
 .rename_i hk;split at h
  .cases h;refine⟨λs hs=>?_,λs hs=>.inl hs,λ_ =>rfl⟩;obtain⟨x,hx,h1,h2⟩:=uv_ hs;rcases hx with hx | hx
   .exact .inl ⟨x,hx,h1,h2⟩
   .obtain rfl:=yZ.1 hx;exact .inr ⟨hk,h1.symm,h2.symm⟩
  .cases h
 split at h
 .rename_i hk;split at h
  .split at h
   .cases h;exact⟨keep,λs hs=>.inl hs,λ_ =>rfl⟩
   .cases h
  .cases h;exact⟨keep,λs hs=>(pm16 hs).imp id λe=>⟨hk,e⟩,λh=>absurd hk h⟩
 .cases h;exact⟨keep,λs hs=>.inl hs,λ_ =>rfl⟩
theorem ha_:∀{al:List ArgT} {vs:List Val} {b f:List SlotT} {r:List SlotT×List SlotT},h22 al vs b f=some r->b.length<=8->
  r.1.length<=8∧r.2.length<=f.length+al.length∧(∀s∈r.1,(∃x∈b,x.value=s.value∧x.var=s.var)∨∃(i:Nat) (a:ArgT) (v:Val),al[i]?=some a∧vs[i]?=some v∧a.kind=2∧s.value=v∧s.var=a.n)∧
   (∀s∈r.2,s∈f∨∃(i:Nat) (a:ArgT) (v:Val),al[i]?=some a∧vs[i]?=some v∧a.kind=3∧s=⟨a.n,v⟩)
 | [],_,b,f,r,h,hb=>by have h:some (b,f)=some r:=h;cases h;exact⟨hb,by simp,λs hs=>.inl ⟨s,hs,rfl,rfl⟩,λs hs=>.inl hs⟩
 | a::al,[],b,f,r,h,hb=>by have h:some (b,f)=some r:=h;cases h;exact⟨hb,by dsimp only;omega,λs hs=>.inl ⟨s,hs,rfl,rfl⟩,λs hs=>.inl hs⟩
 | a::al,v::vs,b,f,r,h,hb=>by
  rw[h22] at h;split at h
  .rename_i p hp;obtain⟨l1,l2⟩:=hl_ hp hb;obtain⟨a1,a2,_⟩:=ha10 hp;obtain⟨g1,g2,g3,g4⟩:=ha_ h l1;refine⟨g1,by rw[yH];omega,λs hs=>?_,λs hs=>?_⟩
   .rcases g3 s hs with ⟨x,hx,e1,e2⟩ | ⟨i,a',v',h1,h2,h3,h4,h5⟩
    .rcases a1 x hx with ⟨y,hy,f1,f2⟩ | ⟨hk,f1,f2⟩
     .exact .inl ⟨y,hy,f1.trans e1,f2.trans e2⟩
     .exact .inr ⟨0,a,v,rfl,rfl,hk,e1.symm.trans f1,e2.symm.trans f2⟩
    .exact .inr ⟨i+1,a',v',by simpa using h1,by simpa using h2,h3,h4,h5⟩
   .rcases g4 s hs with hs | ⟨i,a',v',h1,h2,h3,h4⟩
    .rcases a2 s hs with hs | ⟨hk,e⟩
     .exact .inl hs
     .exact .inr ⟨0,a,v,rfl,rfl,hk,e⟩
    .exact .inr ⟨i+1,a',v',by simpa using h1,by simpa using h2,h3,h4⟩
  .cases h
theorem hp_ {q:QeaT} {e:EvT} {s:Nat} {h:HitT} (hh:hitR q e s=some h):h.symbol=(s:Int)∧s<q.symbols.length∧∃x d,q.symbols[s]?=some x∧at? q.decls x.event=some d∧d.name=e.name∧x.args.length=e.args.length∧h22 x.args e.args [] []=some (h.bind,h.frees):=by
 unfold hitR at hh;split at hh
 .cases hh
 .rename_i x hx;split at hh
  .cases hh
  .rename_i d hd;split at hh
   .rename_i hc;obtain⟨r,hr,rfl⟩:=zH.1 hh;exact⟨rfl,(zX.1 hx).1,x,d,hx,hd,hc.1,hc.2,hr⟩
   .cases hh
theorem am10 {q:QeaT} {e:EvT} {n:Nat} {h:HitT} (hm:h∈a_ q e n):∃s,s<n∧hitR q e s=some h:=by unfold a_ at hm;obtain⟨s,hs,he⟩:=uU.1 hm;exact⟨s,xF.1 hs,he⟩
theorem ar_ (q:QeaT) (e:EvT) (n:Nat):R_ (a_ q e n):=by
 induction n with
 | zero=>exact List.Pairwise.nil
 | succ n ih=>
  rw[as17];unfold R_;rw[List.pairwise_append];refine⟨ih,?_,λa ha b hb=>?_⟩
  .cases hitR q e n <;> simp
  .obtain⟨s,hs,he⟩:=am10 ha;have h1:=(hp_ he).1;have h2:=(hp_ (Option.mem_toList.1 hb)).1;omega
theorem ur_ {l:List HitT} (h:R_ l) (b:List SlotT):R_ (u_ l b):=uB _ h
structure QeaT.LintQ (q:QeaT):Prop where
 few:fewQ q=true
 right:r10 q=true
 n64:∀x∈q.nodes,i64 x.value.int
 f64:∀x∈q.frees,i64 x.init.int
def i16 (q:QeaT):List Val:=q.frees.map (·.init)
section
variable {q:QeaT}
theorem fs10 (h:fewQ q=true):q.decls.length<=12∧q.frees.length<=12∧q.states.length<=12∧q.symbols.length<=12∧q.trans.length<=12∧q.nodes.length<=40:=by unfold fewQ f18 at h;simp only[zJ,zW] at h;omega
theorem QeaT.LintQ.good (h:q.LintQ):q.Good:=by have hs:=fs10 h.few;exact⟨λt ht=>t47 h.right ht,h.n64,by omega,by omega⟩
theorem io11 (h:q.LintQ):∀v∈i16 q,VOk v:=λv hv=>by obtain⟨f,hf,rfl⟩:=zI.1 hv;have h1:=(rp_ h.right).1;unfold h20 at h1;simp only[zJ] at h1;obtain⟨i,hi⟩:=zM hf;exact⟨at10.1 h1.2.1 i f hi,h.f64 f hf⟩
theorem if11 (h:q.LintQ):f21 (i16 q) q.frees=true:=by refine ft10 (by simp [i16]) λi v f hv hf=>?_;unfold i16 at hv;rw[zS,hf] at hv;cases hv;have:=(io11 h f.init (zI.2 ⟨f,zG hf,rfl⟩)).1;simp [f24,this]
end
theorem fz_ {α:Type} {f:Nat->α->Int}:∀(l:List α) (i:Nat),(f13 f l i).1=0->∀(j:Nat) x,l[j]?=some x->f (i+j) x=0
 | [],_,_,j,x,hx=>by simp at hx
 | y::l,i,h,j,x,hx=>by
  rw[f13] at h;split at h
  .rename_i h0;cases j with
   | zero=>cases hx;exact h0
   | succ j=>
    have:=fz_ l (i+1) h j x (by simpa using hx);rw[show i+(j+1)=i+1+j by omega];exact this
  .rename_i h0;exact absurd h h0
theorem il12 {α:Type} {p:α->Bool} {l:List α} {i:Nat} {x:α} (hx:l[i]?=some x) (hp:p x=true):0<=idxF p l∧idxF p l<=i:=by
 have h0:decide (0<=idxF p l)=true:=by rw[ia10,yE];exact⟨x,zG hx,hp⟩
 refine⟨by simpa using h0,?_⟩;unfold idxF;cases h:l.findIdx? p with
 | none=>dsimp only;omega
 | some k=>
  dsimp only;rw[xA] at h;obtain⟨hk,_,hno⟩:=h;obtain⟨hi,rfl⟩:=zX.1 hx;rcases vD i k with hlt | hge
  .exact absurd hp (hno i hlt)
  .omega
theorem df_ {q:QeaT} (h:r10 q=true) {i:Nat} {d:DeclT} (hd:q.decls[i]?=some d):n12 d.name=true∧idxF (λe:DeclT=>e.name==d.name) q.decls=i:=by
 unfold r10 topR at h;simp only[zJ] at h;have h1:=h.1.1;rw[zB] at h1;unfold d10 at h1;split at h1
 .cases h1
 .have h2:=fz_ q.decls 0 h1 i d hd;rw[yS] at h2;unfold d13 at h2;split at h2
  .cases h2
  .rename_i hn;split at h2
   .cases h2
   .rename_i hx;have:=il12 (p:=λe:DeclT=>e.name==d.name) hd (by simp);exact⟨by simpa using hn,by omega⟩
theorem ek_:∀{vs:List Val} {ts:List Int},evGo vs ts=true->∀(i:Nat) v t,vs[i]?=some v->ts[i]?=some t->v.kind=t∧v.ok=true
 | [],_,_,i,v,t,hv,_ =>by simp at hv
 | v::vs,[],_,i,_,t,_,ht=>by simp at ht
 | v::vs,t::ts,h,i,v',t',hv,ht=>by
  rw[evGo,zJ,zJ,zB] at h;cases i with
  | zero=>cases hv;cases ht;exact⟨h.1,h.2.1⟩
  | succ i=>exact ek_ h.2.2 i v' t' (by simpa using hv) (by simpa using ht)
theorem zn_ {α β:Type} {p:α->β->Bool}:∀{l:List α} {k:List β},zipB p l k=true->∀(i:Nat) x,l[i]?=some x->∃y,k[i]?=some y∧p x y=true
 | [],_,_,i,x,hx=>by simp at hx
 | x::l,[],h,i,_,_ =>by simp [zipB] at h
 | x::l,y::k,h,i,x',hx=>by
  rw[zipB,zJ] at h;cases i with
  | zero=>cases hx;exact⟨y,rfl,h.1⟩
  | succ i=>
   obtain⟨z,hz,hp⟩:=zn_ h.2 i x' (by simpa using hx);exact⟨z,by simpa using hz,hp⟩
theorem ho12 {q:QeaT} {e:EvT} (b:List SlotT) (hq:q.LintQ) (he:evR q.decls e=true) (he64:∀v∈e.args,i64 v.int):HitsOk q (u_ (a_ q e q.symbols.length) b)∧
  (u_ (a_ q e q.symbols.length) b).length<=12∧∀h∈a_ q e q.symbols.length,h.bind.length<=8:=by
 have hsz:=fs10 hq.few;have hl:(u_ (a_ q e q.symbols.length) b).length<=12:=by have h1:=xH (λh:HitT=>u10 h.bind b) (a_ q e q.symbols.length);have h2:=al10 q e q.symbols.length;unfold u_;omega
 have hparts:∀h∈a_ q e q.symbols.length,h.Ok q∧h.bind.length<=8:=λh hm=>by
  obtain⟨s,_,hs⟩:=am10 hm;obtain⟨h1,h2,x,d,hx,hd,hn,hln,hgo⟩:=hp_ hs;obtain⟨g1,g2,g3,g4⟩:=ha_ hgo (by simp);have hsy:=at10.1 (rp_ hq.right).2.2 s x hx;unfold symR symS at hsy;rw[zJ,hd] at hsy;obtain⟨j,hxe,hj⟩:=at?_some hd;have hfi:=(df_ hq.right hj).2;have hev:=he;unfold evR at hev;rw[<-hn,hfi,at?_nat hj,zJ] at hev;have hgo2:=hev.2;have hal:x.args.length<=1000000:=by have:=(fo10 q hq.few).args x (zG hx);omega
  refine⟨⟨by dsimp only at g1;omega,by have g2':h.frees.length<=0+x.args.length:=g2;omega,λs hs=>?_,λs hs=>?_⟩,g1⟩
  .rcases g3 s hs with ⟨z,hz,_⟩ | ⟨i,a,v,_,hv,_,hval,_⟩
   .cases hz
   .rw[hval];have hvm:=zG hv;exact⟨eo14 he v hvm,he64 v hvm⟩
  .rcases g4 s hs with hz | ⟨i,a,v,ha,hv,hk,hsv⟩
   .cases hz
   .subst hsv;obtain⟨t,ht,hat⟩:=zn_ hsy.1 i a ha;obtain⟨hvk,hvo⟩:=ek_ hgo2 i v t hv ht;unfold argS at hat;rw[zK (by omega),zK (by omega),zY hk] at hat;cases hfr:at? q.frees a.n with
    | none=>rw[hfr] at hat;cases hat
    | some y=>
     rw[hfr] at hat;dsimp only at hat;rw[zJ,zB] at hat;obtain⟨f,hf1,hf2⟩:=at?_some hfr;exact⟨⟨f,y,hf1,hf2,hvo,by dsimp only;omega⟩,he64 v (zG hv)⟩
 have hun:∀h∈u_ (a_ q e q.symbols.length) b,h∈a_ q e q.symbols.length:=λh hm=>(yP.1 hm).1;exact⟨⟨λh hm=>(hparts h (hun h hm)).1,by omega⟩,hl,λh hm=>(hparts h hm).2⟩
theorem fp12 {S:CfgT->Prop}:∀(l:List CfgT),(∀y∈l,S y)->∀(out:List CfgT),(∀y∈out,S y)->∀y∈l.foldl putR out,S y
 | [],_,_,ho=>ho
 | c::l,hl,out,ho=>fp12 l (λy hy=>hl y (by simp [hy])) _ λy hy=>(pm10 hy).elim (ho y) λe=>e ▸ hl c (by simp)
theorem ao11 {q:QeaT} (h:q.Good) {hits:List HitT} (hh:HitsOk q hits) (hhl:hits.length<=12) (htl:q.trans.length<=12):∀(set:List CfgT),(∀c∈set,c.Ok q)->∀(s:List CfgT×Int),(∀y∈s.1,y.Ok q)->∀y∈(set.foldl (a30 q hits) s).1,y.Ok q
 | [],_,_,hs=>hs
 | c::set,hc,s,hs=>ao11 h hh hhl htl set (λy hy=>hc y (by simp [hy])) _ (fp12 _ (oo_ h (hc c (by simp)) hh hhl htl).1 _ hs)
theorem ao15 {q:QeaT} (h:q.Good) {set:List CfgT} {hits:List HitT} (hh:HitsOk q hits) (hhl:hits.length<=12) (htl:q.trans.length<=12) (hs:∀c∈set,c.Ok q):(∀y∈(a25 q set hits).1,y.Ok q)∧(a25 q set hits).1.length<=256:=by
 unfold a25;dsimp only;split
 .exact⟨λy hy=>(by cases hy),by simp⟩
 .split
  .exact⟨λy hy=>(by cases hy),by simp⟩
  .exact⟨ao11 h hh hhl htl set hs _ (λy hy=>by cases hy),by dsimp only;omega⟩
theorem P_.ret2 {P:Program} {f:Nat} {args:List AV} {r r':AV} (h:Fit2 r r') (hc:P_ P G f args r):P_ P G f args r':=λw F vs hg ha=>(hc w F vs hg ha).mono (by rintro e w' ⟨v,F',rfl,h1,h2,h3,h4,h5⟩;exact⟨v,F',rfl,h1,h2,h3,h4.fit2 h,h5⟩)
theorem rS10 (q:QeaT) (hf:q.frees.length<=1000):PQ G 32 [qeaV q] (c11 [s15 q]):=(rS12 q hf).ret2 (sf12 q)
def e16 (q:QeaT) (b:List SlotT) (set:List CfgT) (e:EvT):List CfgT×Int:=
 if u_ (a_ q e q.symbols.length) b=[] then (set,0) else a25 q set (u_ (a_ q e q.symbols.length) b)
theorem rEp_ {q:QeaT} {b:List SlotT} {set:List CfgT} {e:EvT} (hq:q.Good) (hsy:SymsOk q) (hel:e.args.length<=1000000) (hb:b.length<=1000000) (hh:HitsOk q (u_ (a_ q e q.symbols.length) b))
  (hl12:(u_ (a_ q e q.symbols.length) b).length<=12) (hb8:∀h∈a_ q e q.symbols.length,h.bind.length<=8) (hs:∀c∈set,c.Ok q) (htl:q.trans.length<=12) (hsl:∀t∈q.trans,t.sets.length<=1000000) (hset:set.length<=1000):
  PQ G 70 [qeaV q,s11 b,c11 set,e10 e] (.tup [c11 (e16 q b set e).1,iv (e16 q b set e).2]):=by
 have hsl2:=hsy.len;have hal:=al10 q e q.symbols.length;have h1:=rA12 (G:=G) q e hsy hel;have h2:=rUp_ (G:=G) (a_ q e q.symbols.length) b (by omega) (λh hh=>by have:=hb8 h hh;omega) hb;have h3:=rA13 (G:=G) hq hs hh htl hl12 hsl hset;refine ppE_ λΦ h=>?_;unfold cpE_;unfold e16 at h;clear hh hl12 hb8 hal;generalize a_ q e q.symbols.length=AH at*;generalize u_ AH b=L at*;generalize a25 q set L=R at*;obtain⟨R1,R2⟩:=R;dsimp only at h3;simp only[qeaV,d_,q_,f_,s_,s10,n_,t_,e10,s11,h14,c11] at h1 h2 h3;by_cases hL:L=[]
 .subst hL;rw[zY rfl] at h;simp only[yU] at h2;have hz:((0:Nat):Int)=0:=rfl
  repeat' (first|simp -implicitDefEqProofs only[go_sem,qeaV,d_,q_,f_,s_,s10,n_,t_,e10,s11,c11,zQ,xY,hz]|apply ai__<;>intro hb|refine ac_ h1 rfl rfl ?_|refine ac_ h2 rfl rfl ?_|fail)
  exact hq_ h
 .rw[zK hL] at h;have e0:((L.length:Int)==0)=false:=by
   have:L.length≠0:=λe=>hL (yT e);simp;omega
  repeat' (first|simp -implicitDefEqProofs only[go_sem,qeaV,d_,q_,f_,s_,s10,n_,t_,e10,s11,c11,zQ,e0]|apply ai__<;>intro hb|refine ac_ h1 rfl rfl ?_|refine ac_ h2 rfl rfl ?_|refine ac_ h3 rfl rfl ?_|fail)
  exact hq_ h
