/-
  The binding of slots: the search's one is the document's (the end). proctorref08.Right; what hits of such an event are. N_ of an automaton that may be; the hits of an event of its schema. lint.Texts. lint.All and the reference's answer alike. The law LintAll. No claim is proved here.
-/
import Derived.Test.YtjbcfpkibnhodaaGreatDoorYHt4
set_option linter.unusedSimpArgs false
set_option maxHeartbeats 4000000
set_option maxRecDepth 100000
namespace Go.Proofs.YtjbcfpkibnhodaaGreatDoor.Ab
open Go
theorem gy_ {m:List SlotT} {v:Int} (h:(getR m v).2=true):∃y∈m,y.var=v∧(getR m v).1=y.value:=by
 unfold getR at h ⊢
 split at h
 ·rename_i s hs
  refine⟨s,List.mem_of_find?_eq_some hs,by simpa using List.find?_some hs,rfl⟩
 ·cases h
end Go.Proofs.YtjbcfpkibnhodaaGreatDoor.Ab
namespace Go.Proofs.YtjbcfpkibnhodaaGreatDoor.Ab
open Go Go.RowKit
variable {G:Nat→Option AV}
def evGo:List Val→List Int→Bool
 | v::vs,t::ts=>v.kind==t&&(v.ok&&evGo vs ts)
 | _,_ =>true
def evR (l:List DeclT) (e:EvT):Bool:=match at? l (idxF (fun d=>d.name==e.name) l) with
 | none=>false
 | some d=>d.types.length==e.args.length&&evGo e.args d.types
theorem ea13 {vs:List Val} {ts:List Int} {i:Nat} {v:Val} {t:Int} (hv:vs[i]? =some v) (ht:ts[i]? =some t):evGo (vs.drop i) (ts.drop i)=(v.kind==t&&(v.ok&&evGo (vs.drop (i+1)) (ts.drop (i+1)))):=by
 rw[da_ hv,da_ ht,evGo]
theorem ee10 {vs:List Val} {ts:List Int} {i:Nat} (h:vs.length≤i):evGo (vs.drop i) (ts.drop i)=true:=by
 rw[List.drop_eq_nil_of_le h]
 cases ts.drop i <;> rfl
theorem ea11:∀{vs:List Val} {ts:List Int},evGo vs ts=true→vs.length=ts.length→∀v∈vs,v.ok=true
 | [],_,_,_ =>fun v h=>by cases h
 | v::vs,[],_,hl=>by cases hl
 | v::vs,t::ts,h,hl=>fun x hx=>by
  rw[evGo,Bool.and_eq_true,Bool.and_eq_true] at h
  rcases List.mem_cons.1 hx with rfl | hx
  ·exact h.2.1
  ·exact ea11 h.2.2 (by simpa using hl) x hx
theorem rR11 (l:List DeclT) (e:EvT) (hl:l.length≤1000000) (hd:∀d∈l,d.types.length≤1000000):P_ Tryz.prog G np25 [d_ l,e11 e] (.bool (evR l e)):=by
 have h1:=rFp_ (G:=G) l (by omega) e.name
 refine pp19 (Runs.of fun Φ h=>?_)
 unfold cp20
 have fin:∀b heap,evR l e=b→Φ ⟨56,[(4,.bool b)],heap⟩:=fun b heap e=>h _ ⟨_,_,rfl,rfl,fitB e.symm⟩
 clear h
 have hR:evR l e=match at? l (idxF (fun d=>d.name==e.name) l) with
  | none=>false
  | some d=>d.types.length==e.args.length&&evGo e.args d.types:=rfl
 generalize evR l e=R at*
 obtain⟨en,ea⟩:=e
 dsimp only at h1 hR
 generalize hidx:idxF (fun d=>d.name==en) l=idx at*
 simp only[d_] at h1
 cases ha:at? l idx with
 | none=>
  rw[ha] at hR
  have hneg:idx<0:=by
   rcases at?_none ha with h | h
   ·exact h
   ·exfalso
    rw[←hidx] at h
    unfold idxF at h
    split at h
    ·rename_i k hk
     rw[List.findIdx?_eq_some_iff_getElem] at hk
     have:=hk.1
     omega
    ·omega
  have e1:(idx<0)=True:=by simp;exact hneg
  repeat' (first|simp -implicitDefEqProofs only[go_sem,e11,d_,e1,decide_true]|refine ag_ (fun hb=>?_) (fun hb=>?_)|refine⟨fun hb=>?_,fun hb=>?_⟩|refine ac_ h1 rfl rfl ?_|fail)
  exact fin _ _ hR
 | some d=>
  obtain⟨j,rfl,hj⟩:=at?_some ha
  have hdl:=hd d (List.mem_of_getElem? hj)
  rw[ha] at hR
  dsimp only at hR
  obtain⟨dn,dt⟩:=d
  dsimp only at hR hdl
  have e1:((j:Int)<0)=False:=by simp
  by_cases hln:dt.length=ea.length
  ·rw[show (dt.length==ea.length)=true by simpa using hln,Bool.true_and] at hR
   have e2:((dt.length:Int) != (ea.length:Int))=false:=by simp;omega
   repeat' (first|simp -implicitDefEqProofs only[go_sem,e11,d_,e1,decide_false,am_ hj,d12,i11,List.length_map,e2]|refine ag_ (fun hb=>?_) (fun hb=>?_)|refine⟨fun hb=>?_,fun hb=>?_⟩|refine ac_ h1 rfl rfl ?_|fail)
   refine al_ (fun n st=>∃i:Nat,i+n=ea.length∧st=⟨56,[(0,d_ l),(3,.ref 3 0 0),(5,iv j),(6,iv i)],[(3,⟨false,ta11,2,[e11 ⟨en,ea⟩]⟩)]⟩∧evGo (ea.drop i) (dt.drop i)=R) ea.length ⟨0,by simp,rfl,hR.symm⟩ ?_
   rintro I hI n st ⟨i,hi,rfl,hgo⟩
   by_cases hlt':i<ea.length
   ·obtain⟨v,hv,_⟩:=as10 hlt'
    obtain⟨t,ht,_⟩:=as10 (l:=dt) (i:=i) (by omega)
    have hw:=ws_ hlt' (by omega)
    have hlt:((i:Int)<(ea.length:Int))=True:=by simp;exact hlt'
    rw[ea13 hv ht] at hgo
    have h3:=rRp_ (G:=G) v
    obtain⟨v1,v2,v3,v4⟩:=v
    generalize (⟨v1,v2,v3,v4⟩:Val).ok=ok at*
    dsimp only at hgo
    simp only[valV] at h3
    by_cases hk:v1=t
    ·rw[show (v1==t)=true by simpa using hk,Bool.true_and] at hgo
     have e3:(v1 != t)=false:=by simp [hk]
     cases ok
     ·rw[Bool.false_and] at hgo
      repeat' (first|simp -implicitDefEqProofs only[go_sem,e11,d_,List.length_map,hlt,decide_true,am_ hj,am_ hv,am_ ht,d12,i11,valV,e3,hw]|refine ag_ (fun hb=>?_) (fun hb=>?_)|refine⟨fun hb=>?_,fun hb=>?_⟩|refine ac_ h3 rfl rfl ?_|fail)
      exact fin _ _ hgo.symm
     ·rw[Bool.true_and] at hgo
      repeat' (first|simp -implicitDefEqProofs only[go_sem,e11,d_,List.length_map,hlt,decide_true,am_ hj,am_ hv,am_ ht,d12,i11,valV,e3,hw]|refine ag_ (fun hb=>?_) (fun hb=>?_)|refine⟨fun hb=>?_,fun hb=>?_⟩|refine ac_ h3 rfl rfl ?_|fail)
      exact aa_ (n - 1) (by omega) (hI _ _ ⟨i+1,by omega,rfl,hgo⟩)
    ·rw[show (v1==t)=false by simpa using hk,Bool.false_and] at hgo
     have e3:(v1 != t)=true:=by simp [hk]
     repeat' (first|simp -implicitDefEqProofs only[go_sem,e11,d_,List.length_map,hlt,decide_true,am_ hj,am_ hv,am_ ht,d12,i11,valV,e3,hw]|refine ag_ (fun hb=>?_) (fun hb=>?_)|refine⟨fun hb=>?_,fun hb=>?_⟩|refine ac_ h3 rfl rfl ?_|fail)
     exact fin _ _ hgo.symm
   ·have hlt:((i:Int)<(ea.length:Int))=False:=by simp;omega
    rw[ee10 (by omega)] at hgo
    repeat' (first|simp -implicitDefEqProofs only[go_sem,e11,d_,List.length_map,hlt,decide_false]|refine ag_ (fun hb=>?_) (fun hb=>?_)|refine⟨fun hb=>?_,fun hb=>?_⟩|fail)
    exact fin _ _ hgo.symm
  ·rw[show (dt.length==ea.length)=false by simpa using hln,Bool.false_and] at hR
   have e2:((dt.length:Int) != (ea.length:Int))=true:=by simp;omega
   repeat' (first|simp -implicitDefEqProofs only[go_sem,e11,d_,e1,decide_false,am_ hj,d12,i11,List.length_map,e2]|refine ag_ (fun hb=>?_) (fun hb=>?_)|refine⟨fun hb=>?_,fun hb=>?_⟩|refine ac_ h1 rfl rfl ?_|fail)
   exact fin _ _ hR
theorem eo12 {l:List DeclT} {e:EvT} (h:evR l e=true):∀v∈e.args,v.ok=true:=by
 unfold evR at h
 split at h
 ·cases h
 ·rw[Bool.and_eq_true,beq_iff_eq] at h
  exact ea11 h.2 h.1.symm
theorem uv_ {a b:List SlotT} {s:SlotT} (h:s∈u18 a b):∃x,(x∈a∨x∈b)∧x.value=s.value∧x.var=s.var:=by
 unfold u18 at h
 obtain⟨v,_,h⟩:=List.mem_flatMap.1 h
 unfold u11 at h
 split at h
 ·rename_i ha
  obtain rfl:=List.mem_singleton.1 h
  obtain⟨y,hy,h1,h2⟩:=gy_ ha
  exact⟨y,.inl hy,h2.symm,h1⟩
 ·split at h
  ·rename_i hb
   obtain rfl:=List.mem_singleton.1 h
   obtain⟨y,hy,h1,h2⟩:=gy_ hb
   exact⟨y,.inr hy,h2.symm,h1⟩
  ·cases h
theorem pm10 {l:List SlotT} {s x:SlotT} (h:x∈putS l s):x∈l∨x=s:=by
 unfold putS at h
 simp only[List.mem_append,List.mem_cons] at h
 rcases h with h | h | h
 ·exact .inl (List.mem_of_mem_take h)
 ·exact .inr h
 ·exact .inl (List.mem_of_mem_drop h)
theorem ha10 {a:ArgT} {v:Val} {b f:List SlotT} {r:List SlotT×List SlotT} (h:h17 a v b f=some r):(∀s∈r.1,(∃x∈b,x.value=s.value∧x.var=s.var)∨(a.kind=2∧s.value=v∧s.var=a.n))∧(∀s∈r.2,s∈f∨(a.kind=3∧s=⟨a.n,v⟩))∧(¬a.kind=3→r.2=f):=by
 have keep:∀s∈b,(∃x∈b,x.value=s.value∧x.var=s.var)∨(a.kind=2∧s.value=v∧s.var=a.n):=fun s hs=>.inl ⟨s,hs,rfl,rfl⟩
 unfold h17 at h
 split at h
 ·split at h
  ·cases h;exact⟨keep,fun s hs=>.inl hs,fun _ =>rfl⟩
  ·cases h
 split at h
 ·rename_i hk
  split at h
  ·cases h
   refine⟨fun s hs=>?_,fun s hs=>.inl hs,fun _ =>rfl⟩
   obtain⟨x,hx,h1,h2⟩:=uv_ hs
   rcases hx with hx | hx
   ·exact .inl ⟨x,hx,h1,h2⟩
   ·obtain rfl:=List.mem_singleton.1 hx
    exact .inr ⟨hk,h1.symm,h2.symm⟩
  ·cases h
 split at h
 ·rename_i hk
  split at h
  ·split at h
   ·cases h;exact⟨keep,fun s hs=>.inl hs,fun _ =>rfl⟩
   ·cases h
  ·cases h
   exact⟨keep,fun s hs=>(pm10 hs).imp id fun e=>⟨hk,e⟩,fun h=>absurd hk h⟩
 ·cases h;exact⟨keep,fun s hs=>.inl hs,fun _ =>rfl⟩
theorem ha_:∀{al:List ArgT} {vs:List Val} {b f:List SlotT} {r:List SlotT×List SlotT},h19 al vs b f=some r→b.length≤8→
  r.1.length≤8∧r.2.length≤f.length+al.length∧(∀s∈r.1,(∃x∈b,x.value=s.value∧x.var=s.var)∨∃(i:Nat) (a:ArgT) (v:Val),al[i]? =some a∧vs[i]? =some v∧a.kind=2∧s.value=v∧s.var=a.n)∧
   (∀s∈r.2,s∈f∨∃(i:Nat) (a:ArgT) (v:Val),al[i]? =some a∧vs[i]? =some v∧a.kind=3∧s=⟨a.n,v⟩)
 | [],_,b,f,r,h,hb=>by
  have h:some (b,f)=some r:=h
  cases h
  exact⟨hb,by simp,fun s hs=>.inl ⟨s,hs,rfl,rfl⟩,fun s hs=>.inl hs⟩
 | a::al,[],b,f,r,h,hb=>by
  have h:some (b,f)=some r:=h
  cases h
  exact⟨hb,by dsimp only;omega,fun s hs=>.inl ⟨s,hs,rfl,rfl⟩,fun s hs=>.inl hs⟩
 | a::al,v::vs,b,f,r,h,hb=>by
  rw[h19] at h
  split at h
  ·rename_i p hp
   obtain⟨l1,l2⟩:=hl_ hp hb
   obtain⟨a1,a2,_⟩:=ha10 hp
   obtain⟨g1,g2,g3,g4⟩:=ha_ h l1
   refine⟨g1,by rw[List.length_cons];omega,fun s hs=>?_,fun s hs=>?_⟩
   ·rcases g3 s hs with ⟨x,hx,e1,e2⟩ | ⟨i,a',v',h1,h2,h3,h4,h5⟩
    ·rcases a1 x hx with ⟨y,hy,f1,f2⟩ | ⟨hk,f1,f2⟩
     ·exact .inl ⟨y,hy,f1.trans e1,f2.trans e2⟩
     ·exact .inr ⟨0,a,v,rfl,rfl,hk,e1.symm.trans f1,e2.symm.trans f2⟩
    ·exact .inr ⟨i+1,a',v',by simpa using h1,by simpa using h2,h3,h4,h5⟩
   ·rcases g4 s hs with hs | ⟨i,a',v',h1,h2,h3,h4⟩
    ·rcases a2 s hs with hs | ⟨hk,e⟩
     ·exact .inl hs
     ·exact .inr ⟨0,a,v,rfl,rfl,hk,e⟩
    ·exact .inr ⟨i+1,a',v',by simpa using h1,by simpa using h2,h3,h4⟩
  ·cases h
theorem hp10 {q:QeaT} {e:EvT} {s:Nat} {h:HitT} (hh:hitR q e s=some h):h.symbol=(s:Int)∧s<q.symbols.length∧∃x d,q.symbols[s]? =some x∧at? q.decls x.event=some d∧d.name=e.name∧x.args.length=e.args.length∧h19 x.args e.args [] []=some (h.bind,h.frees):=by
 unfold hitR at hh
 split at hh
 ·cases hh
 ·rename_i x hx
  split at hh
  ·cases hh
  ·rename_i d hd
   split at hh
   ·rename_i hc
    obtain⟨r,hr,rfl⟩:=Option.map_eq_some_iff.1 hh
    exact⟨rfl,(List.getElem?_eq_some_iff.1 hx).1,x,d,hx,hd,hc.1,hc.2,hr⟩
   ·cases hh
theorem am11 {q:QeaT} {e:EvT} {n:Nat} {h:HitT} (hm:h∈a_ q e n):∃s,s<n∧hitR q e s=some h:=by
 unfold a_ at hm
 obtain⟨s,hs,he⟩:=List.mem_filterMap.1 hm
 exact⟨s,List.mem_range.1 hs,he⟩
end Go.Proofs.YtjbcfpkibnhodaaGreatDoor.Ab
namespace Go.Proofs.YtjbcfpkibnhodaaGreatDoor.Ab
open Go Go.RowKit
theorem fz_ {α:Type} {f:Nat→α→Int}:∀(l:List α) (i:Nat),(f16 f l i).1=0→∀(j:Nat) x,l[j]? =some x→f (i+j) x=0
 | [],_,_,j,x,hx=>by simp at hx
 | y::l,i,h,j,x,hx=>by
  rw[f16] at h
  split at h
  ·rename_i h0
   cases j with
   | zero=>cases hx;exact h0
   | succ j=>
    have:=fz_ l (i+1) h j x (by simpa using hx)
    rw[show i+(j+1)=i+1+j by omega]
    exact this
  ·rename_i h0
   exact absurd h h0
theorem il11 {α:Type} {p:α→Bool} {l:List α} {i:Nat} {x:α} (hx:l[i]? =some x) (hp:p x=true):0≤idxF p l∧idxF p l≤i:=by
 have h0:decide (0≤idxF p l)=true:=by
  rw[ia_,List.any_eq_true]
  exact⟨x,List.mem_of_getElem? hx,hp⟩
 refine⟨by simpa using h0,?_⟩
 unfold idxF
 cases h:l.findIdx? p with
 | none=>dsimp only;omega
 | some k=>
  dsimp only
  rw[List.findIdx?_eq_some_iff_getElem] at h
  obtain⟨hk,_,hno⟩:=h
  obtain⟨hi,rfl⟩:=List.getElem?_eq_some_iff.1 hx
  rcases Nat.lt_or_ge i k with hlt | hge
  ·exact absurd hp (hno i hlt)
  ·omega
theorem nn11 {s:Str} (h:n13 s=true):s≠[]:=by
 rintro rfl
 exact absurd h (by decide)
theorem df_ {q:QeaT} (h:r10 q=true) {i:Nat} {d:DeclT} (hd:q.decls[i]? =some d):n13 d.name=true∧idxF (fun e:DeclT=>e.name==d.name) q.decls=i:=by
 unfold r10 topR at h
 simp only[Bool.and_eq_true] at h
 have h1:=h.1.1
 rw[beq_iff_eq] at h1
 unfold d10 at h1
 split at h1
 ·cases h1
 ·have h2:=fz_ q.decls 0 h1 i d hd
  rw[Nat.zero_add] at h2
  unfold d11 at h2
  split at h2
  ·cases h2
  ·rename_i hn
   split at h2
   ·cases h2
   ·rename_i hx
    have:=il11 (p:=fun e:DeclT=>e.name==d.name) hd (by simp)
    exact⟨by simpa using hn,by omega⟩
theorem no11 {q:QeaT} (h:q.LintQ):q.Named:=by
 have hsz:=fs10 h.few
 have hh:=(rp_ h.right).1
 unfold h18 at hh
 simp only[Bool.and_eq_true] at hh
 have hok:∀(l:List Str),allI (n17 l) l=true→∀s∈l,s≠[]∧s.length≤1000000:=fun l hl s hs=>by
  obtain⟨i,hi⟩:=List.getElem?_of_mem hs
  have:=at10.1 hl i s hi
  unfold n17 at this
  rw[Bool.and_eq_true] at this
  have h2:=nl13 this.1
  exact⟨nn11 this.1,by omega⟩
 refine⟨by omega,fun x hx=>hok _ hh.2.2.2.1 x.name (List.mem_map.2 ⟨x,hx,rfl⟩),fun x hx=>hok _ hh.2.2.1 x.name ?_,fun x hx=>?_⟩
 ·unfold QeaT.vars
  exact List.mem_append.2 (.inr (List.mem_map.2 ⟨x,hx,rfl⟩))
 ·obtain⟨i,hi⟩:=List.getElem?_of_mem hx
  have h1:=(df_ h.right hi).1
  have h2:=nl13 h1
  exact⟨nn11 h1,by omega⟩
theorem ek_:∀{vs:List Val} {ts:List Int},evGo vs ts=true→∀(i:Nat) v t,vs[i]? =some v→ts[i]? =some t→v.kind=t∧v.ok=true
 | [],_,_,i,v,t,hv,_ =>by simp at hv
 | v::vs,[],_,i,_,t,_,ht=>by simp at ht
 | v::vs,t::ts,h,i,v',t',hv,ht=>by
  rw[evGo,Bool.and_eq_true,Bool.and_eq_true,beq_iff_eq] at h
  cases i with
  | zero=>cases hv;cases ht;exact⟨h.1,h.2.1⟩
  | succ i=>exact ek_ h.2.2 i v' t' (by simpa using hv) (by simpa using ht)
theorem zn_ {α β:Type} {p:α→β→Bool}:∀{l:List α} {k:List β},zipB p l k=true→∀(i:Nat) x,l[i]? =some x→∃y,k[i]? =some y∧p x y=true
 | [],_,_,i,x,hx=>by simp at hx
 | x::l,[],h,i,_,_ =>by simp [zipB] at h
 | x::l,y::k,h,i,x',hx=>by
  rw[zipB,Bool.and_eq_true] at h
  cases i with
  | zero=>cases hx;exact⟨y,rfl,h.1⟩
  | succ i=>
   obtain⟨z,hz,hp⟩:=zn_ h.2 i x' (by simpa using hx)
   exact⟨z,by simpa using hz,hp⟩
theorem ho10 {q:QeaT} {e:EvT} (b:List SlotT) (hq:q.LintQ) (he:evR q.decls e=true) (he64:∀v∈e.args,i64 v.int):HitsOk q (u_ (a_ q e q.symbols.length) b)∧
  (u_ (a_ q e q.symbols.length) b).length≤12∧∀h∈a_ q e q.symbols.length,h.bind.length≤8:=by
 have hsz:=fs10 hq.few
 have hl:(u_ (a_ q e q.symbols.length) b).length≤12:=by
  have h1:=List.length_filter_le (fun h:HitT=>u12 h.bind b) (a_ q e q.symbols.length)
  have h2:=al10 q e q.symbols.length
  unfold u_
  omega
 have hparts:∀h∈a_ q e q.symbols.length,h.Ok q∧h.bind.length≤8:=fun h hm=>by
  obtain⟨s,_,hs⟩:=am11 hm
  obtain⟨h1,h2,x,d,hx,hd,hn,hln,hgo⟩:=hp10 hs
  obtain⟨g1,g2,g3,g4⟩:=ha_ hgo (by simp)
  have hsy:=at10.1 (rp_ hq.right).2.2 s x hx
  unfold symR symS at hsy
  rw[Bool.and_eq_true,hd] at hsy
  obtain⟨j,hxe,hj⟩:=at?_some hd
  have hfi:=(df_ hq.right hj).2
  have hev:=he
  unfold evR at hev
  rw[←hn,hfi,at?_nat hj,Bool.and_eq_true] at hev
  have hgo2:=hev.2
  have hal:x.args.length≤1000000:=by
   have:=(fo11 q hq.few).args x (List.mem_of_getElem? hx)
   omega
  refine⟨⟨by dsimp only at g1;omega,by have g2':h.frees.length≤0+x.args.length:=g2;omega,fun s hs=>?_,fun s hs=>?_⟩,g1⟩
  ·rcases g3 s hs with ⟨z,hz,_⟩ | ⟨i,a,v,_,hv,_,hval,_⟩
   ·cases hz
   ·rw[hval]
    have hvm:=List.mem_of_getElem? hv
    exact⟨eo12 he v hvm,he64 v hvm⟩
  ·rcases g4 s hs with hz | ⟨i,a,v,ha,hv,hk,hsv⟩
   ·cases hz
   ·subst hsv
    obtain⟨t,ht,hat⟩:=zn_ hsy.1 i a ha
    obtain⟨hvk,hvo⟩:=ek_ hgo2 i v t hv ht
    unfold argS at hat
    rw[if_neg (by omega),if_neg (by omega),if_pos hk] at hat
    cases hfr:at? q.frees a.n with
    | none=>rw[hfr] at hat;cases hat
    | some y=>
     rw[hfr] at hat
     dsimp only at hat
     rw[Bool.and_eq_true,beq_iff_eq] at hat
     obtain⟨f,hf1,hf2⟩:=at?_some hfr
     exact⟨⟨f,y,hf1,hf2,hvo,by dsimp only;omega⟩,he64 v (List.mem_of_getElem? hv)⟩
 have hun:∀h∈u_ (a_ q e q.symbols.length) b,h∈a_ q e q.symbols.length:=fun h hm=>(List.mem_filter.1 hm).1
 exact⟨⟨fun h hm=>(hparts h (hun h hm)).1,by omega⟩,hl,fun h hm=>(hparts h hm).2⟩
end Go.Proofs.YtjbcfpkibnhodaaGreatDoor.Ab
namespace Go.Proofs.YtjbcfpkibnhodaaGreatDoor.Ab
open Go Go.RowKit
variable {G:Nat→Option AV}
def t32 (q:QeaT):Str:=(allC q).flatMap fun o=>t19 q o.kind o.n++[10]
def t18 (q:QeaT) (l:List OddT):Str:=l.flatMap fun o=>t19 q o.kind o.n++[10]
theorem ts12 {q:QeaT} {l:List OddT} {i:Nat} {o:OddT} (h:l[i]? =some o):t18 q (l.take (i+1))=t18 q (l.take i)++(t19 q o.kind o.n++[10]):=by
 unfold t18
 rw[List.take_add_one,h]
 simp
theorem tl12 {q:QeaT} (hq:q.Named) (k n:Int):(t19 q k n).length≤1000010:=by
 have h1:=na10 hq k n
 unfold t19
 split
 ·simp
 ·rw[List.length_append]
  repeat' split
  all_goals (simp only[List.length_cons,List.length_nil];omega)
theorem tl10 {q:QeaT}:∀l:List OddT,(∀o∈l,(t19 q o.kind o.n).length≤1000010)→(t18 q l).length≤1000011*l.length
 | [],_ =>by simp [t18]
 | o::l,h=>by
  have h1:=h o (by simp)
  have h2:=tl10 l fun x hx=>h x (by simp [hx])
  unfold t18 at*
  rw[List.flatMap_cons,List.length_append,List.length_append,List.length_cons,List.length_cons,List.length_nil]
  omega
theorem sb_ {B B' b:Nat} {bs:List Value} {w:World} (h:IsSb B' b bs w) (h1:B≤b):Lib.IsBuilder sbT u8T B b bs w:=by
 have one:∀p,SbAt B' b p bs w→Lib.BuilderAt sbT u8T B b p bs w:=fun p h=>by
  obtain⟨hB,v,hbk,hown⟩:=h
  have hne:v.ownBlock≠some b:=fun e=>by
   have:=(hown.lt b e).1
   omega
  obtain⟨hl,ho⟩:=hown
  refine⟨h1,v,hbk,⟨hl,?_⟩,hne⟩
  rcases ho with h | ⟨g,cap,cur,hv,hBg,hg,rest⟩
  ·exact .inl h
  ·exact .inr ⟨g,cap,cur,hv,by omega,hg,rest⟩
 exact h.imp (one _) (one _)
theorem al15 {q:QeaT} (h:q.LintQ):(allC q).length≤72:=by
 have hsz:=fs10 h.few
 unfold allC l15
 simp only[List.flatten_cons,List.flatten_nil,List.append_nil,List.length_append]
 have h1:=gl_ 1 (pC1 q) q.states.length
 have h2:=gl_ 2 (pC2 q) q.states.length
 have h3:=gl_ 3 (pC3 q) q.frees.length
 have h4:=gl_ 4 (pC4 q) q.frees.length
 have h5:=gl_ 5 (pN q) q.trans.length
 have h6:=gl_ 6 (pU q) q.decls.length
 omega
theorem ta_ (a b:List UInt8):(⟨a.toArray⟩++⟨b.toArray⟩:ByteArray)=⟨(a++b).toArray⟩:=by
 apply ByteArray.ext
 simp
theorem tb10 {P:Program} {f:Nat} {args:List AV} {r:Str} (h:P_ P G f args (.str r)) {w:World} {F:Nat→Prop} {vs:Array Value} (hg:Good w F G) (ha:A_ w F args vs):Calls P f vs w fun e w'=>e= .returned (.string ⟨r.toArray⟩)∧Below w.heap.size w w':=by
 refine (h w F vs hg ha).mono ?_
 rintro e w' ⟨v,F',rfl,_,_,_,hr,hb⟩
 cases hr
 exact⟨rfl,hb⟩
theorem ro12 {w:World} {F:Nat→Prop} {L:List OddT} {v:Value} (h:Rd w F n10 (o14 L) v):∃a cap,v= .slice a L.length cap∧
  ∀(i:Nat) o,L[i]? =some o→∃g off,a=some ⟨g,off,none⟩∧F g∧L.length≤cap∧cap≤maxLen∧w.cell? ⟨g,off+i*2,none⟩=some (.int .i64 o.kind)∧w.cell? ⟨g,off+(i*2+1),none⟩=some (.int .i64 o.n):=by
 unfold o14 at h
 generalize hz:AV.seq 2 (L.map oddV)=z at h
 cases h with
 | seq0 _ sz a cap=>
  simp only[AV.seq.injEq] at hz
  have:L=[]:=by simpa using hz.2
  subst this
  exact⟨a,cap,rfl,fun i o ho=>by simp at ho⟩
 | seq _ sz es g o cap u h0 hF hc hm hss hw h1 hh=>
  simp only[AV.seq.injEq] at hz
  obtain⟨rfl,rfl⟩:=hz
  refine⟨_,cap,by rw[List.length_map],fun i od ho=>⟨g,o,rfl,hF,by simpa using hc,hm,?_,?_⟩⟩
  ·have hi:=(List.getElem?_eq_some_iff.1 ho).1
   have e:=hw (i*2) (by rw[List.length_map];omega)
   have r:=hh i (oddV od) 0 _ (by rw[List.getElem?_map,ho];rfl) rfl
   rw[Nat.add_zero] at r
   cases hu:u (i*2) with
   | int k n=>rw[hu] at r e;cases r;exact e
   | _ =>rw[hu] at r;cases r
  ·have hi:=(List.getElem?_eq_some_iff.1 ho).1
   have e:=hw (i*2+1) (by rw[List.length_map];omega)
   have r:=hh i (oddV od) 1 _ (by rw[List.getElem?_map,ho];rfl) rfl
   cases hu:u (i*2+1) with
   | int k n=>rw[hu] at r e;cases r;exact e
   | _ =>rw[hu] at r;cases r
 | _ =>cases hz
theorem sb11 {B b:Nat} {bs:List Value} {w w':World} (h:IsSb B b bs w) (hb:Below w.heap.size w w'):IsSb B b bs w':=by
 have one:∀p,SbAt B b p bs w→SbAt B b p bs w':=fun p h=>by
  obtain⟨hB,v,hbk,hl,hown⟩:=h
  refine⟨hB,v,by rw[hb.block b (Array.getElem?_eq_some_iff.1 hbk).1];exact hbk,hl,?_⟩
  rcases hown with h | ⟨g,cap,cur,hv,hBg,hg,rest⟩
  ·exact .inl h
  ·exact .inr ⟨g,cap,cur,hv,hBg,by rw[hb.block g (Array.getElem?_eq_some_iff.1 hg).1];exact hg,rest⟩
 exact h.imp (one _) (one _)
set_option maxHeartbeats 4000000 in
set_option maxRecDepth 100000 in
theorem tw_ (q:QeaT) (L:List OddT) (hLl:L.length≤1000) (hTl:∀o∈L,(t19 q o.kind o.n).length≤1000010) (hA:P_ Tryz.prog G nlA_ [qeaV q] (o14 L)) (hT:∀o∈L,P_ Tryz.prog G nl11 [qeaV q,.agg [iv o.kind,iv o.n]] (.str (t19 q o.kind o.n)))
  (w:World) (F:Nat→Prop) (hg:Good w F G) (c0 c1 c2 c3 c4 c5 c6 c7 c8:Value) (hq:Rd w F n10 (qeaV q) (.agg #[c0,c1,c2,c3,c4,c5,c6,c7,c8])):
  Calls Tryz.prog nlT_ #[.agg #[c0,c1,c2,c3,c4,c5,c6,c7,c8]] w fun e w'=>e= .returned (.string ⟨(t18 q L).toArray⟩)∧Below w.heap.size w w':=by
 have hb2:Below w.heap.size w ((w.alloc (.cells #[c0,c1,c2,c3,c4,c5,c6,c7,c8] taQ_)).alloc (.cells #[.pointer none,.slice none 0 0] sbT)):=((Below.refl _ w).alloc (Nat.le_refl _) _).alloc (by simp) _
 have hA2:=hA _ F #[.agg #[c0,c1,c2,c3,c4,c5,c6,c7,c8]] (gb_ hg (Nat.le_refl _) hb2) (ac12 (hq.mono (fun b h=>hb2.block b (hg.1 b h)) fun _ h=>h) an_)
 go_enter Tryz.func48,Tryz.ntmps48
 go_wp2_with (go_at_call 47;refine hA2.mono ?_)
 rintro e W3 ⟨v,F',rfl,hF1,hF2,hF3,hv,hb3⟩
 obtain⟨a,cap,rfl,hcell⟩:=ro12 hv
 have hs3:=hb3.size
 simp only[World.size_alloc] at hs3 hF2 hb3
 have f0:W3.heap[w.heap.size]? =some (.cells #[c0,c1,c2,c3,c4,c5,c6,c7,c8] taQ_ (0,0)):=by
  rw[hb3.block _ (by omega)]
  rw[heap_alloc_old _ _ (by rw[World.size_alloc];omega)]
  exact heap_alloc_new w _
 have f1:W3.heap[w.heap.size+1]? =some (.cells #[.pointer none,.slice none 0 0] sbT (0,0)):=by
  rw[hb3.block _ (by omega)]
  have:=heap_alloc_new (w.alloc (.cells #[c0,c1,c2,c3,c4,c5,c6,c7,c8] taQ_)) (.cells #[.pointer none,.slice none 0 0] sbT)
  rw[World.size_alloc] at this
  exact this
 have hS:SbAt W3.heap.size (w.heap.size+1) (.pointer none) [] W3:=⟨by omega,.slice none 0 0,f1,⟨rfl,.inl ⟨rfl,rfl⟩⟩⟩
 have hbW3:Below w.heap.size w W3:=hb2.trans (hb3.mono (by omega))
 go_wp2
 go_loopw [9] (fun v wr=>∃i:Nat,i≤L.length∧v= .int .i64 i∧IsSb W3.heap.size (w.heap.size+1) (Lib.byteCells (t18 q (L.take i))) wr∧Below w.heap.size w wr∧Rest W3.heap.size (w.heap.size+1) W3 wr∧W3.heap.size≤wr.heap.size) (fun v _ =>L.length - (intOf v).toNat)
 case atStart=>exact⟨0,Nat.zero_le _,rfl,.inl hS,hbW3,Rest.refl _ _ _,Nat.le_refl _⟩
 case round=>
  obtain⟨i,hi,rfl,hB,hb,hr,hz⟩:=hrel
  have hlen:=tl10 (L.take i) fun x hx=>hTl x (List.mem_of_mem_take hx)
  rw[List.length_take] at hlen
  by_cases hlt:i<L.length
  ·obtain⟨o,ho,hom⟩:=as10 hlt
   obtain⟨g,off,rfl,hFg,hc,hm,e1,e2⟩:=hcell i o ho
   have hgB:=hF3 g hFg
   have hgb:g≠w.heap.size+1:=by
    rcases hF2 g hFg with h | h
    ·have:=hg.1 g h
     omega
    ·omega
   have k1:wr.cell? ⟨g,off+i*2,none⟩=some (.int .i64 o.kind):=by rw[World.cell?_of_block (hr g hgB hgb)];exact e1
   have k2:wr.cell? ⟨g,off+i*2+1,none⟩=some (.int .i64 o.n):=by rw[World.cell?_of_block (hr g hgB hgb),Nat.add_assoc];exact e2
   have q0:wr.heap[w.heap.size]? =some (.cells #[c0,c1,c2,c3,c4,c5,c6,c7,c8] taQ_ (0,0)):=by rw[hr w.heap.size (by omega) (by omega)];exact f0
   have hl2:(i:Int)<(L.length:Int):=by omega
   have q4:(wr.alloc (.cells #[.int .i64 o.kind,.int .i64 o.n] 89)).heap[w.heap.size]? =some (.cells #[c0,c1,c2,c3,c4,c5,c6,c7,c8] taQ_ (0,0)):=by
    rw[heap_alloc_old _ _ (by omega)]
    exact q0
   have z0:(wr.alloc (.cells #[.int .i64 o.kind,.int .i64 o.n] 89)).cell? ⟨w.heap.size,0,none⟩=some c0:=by rw[Lib.cell_of_heap q4];rfl
   have z1:(wr.alloc (.cells #[.int .i64 o.kind,.int .i64 o.n] 89)).cell? ⟨w.heap.size,1,none⟩=some c1:=by rw[Lib.cell_of_heap q4];rfl
   have z2:(wr.alloc (.cells #[.int .i64 o.kind,.int .i64 o.n] 89)).cell? ⟨w.heap.size,2,none⟩=some c2:=by rw[Lib.cell_of_heap q4];rfl
   have z3:(wr.alloc (.cells #[.int .i64 o.kind,.int .i64 o.n] 89)).cell? ⟨w.heap.size,3,none⟩=some c3:=by rw[Lib.cell_of_heap q4];rfl
   have z4:(wr.alloc (.cells #[.int .i64 o.kind,.int .i64 o.n] 89)).cell? ⟨w.heap.size,4,none⟩=some c4:=by rw[Lib.cell_of_heap q4];rfl
   have z5:(wr.alloc (.cells #[.int .i64 o.kind,.int .i64 o.n] 89)).cell? ⟨w.heap.size,5,none⟩=some c5:=by rw[Lib.cell_of_heap q4];rfl
   have z6:(wr.alloc (.cells #[.int .i64 o.kind,.int .i64 o.n] 89)).cell? ⟨w.heap.size,6,none⟩=some c6:=by rw[Lib.cell_of_heap q4];rfl
   have z7:(wr.alloc (.cells #[.int .i64 o.kind,.int .i64 o.n] 89)).cell? ⟨w.heap.size,7,none⟩=some c7:=by rw[Lib.cell_of_heap q4];rfl
   have z8:(wr.alloc (.cells #[.int .i64 o.kind,.int .i64 o.n] 89)).cell? ⟨w.heap.size,8,none⟩=some c8:=by rw[Lib.cell_of_heap q4];rfl
   have hb4:Below w.heap.size w (wr.alloc (.cells #[.int .i64 o.kind,.int .i64 o.n] 89)):=hb.alloc (by omega) _
   have hro:Rd (wr.alloc (.cells #[.int .i64 o.kind,.int .i64 o.n] 89)) F n10 (.agg [iv o.kind,iv o.n]) (.agg #[.int .i64 o.kind,.int .i64 o.n]):=.agg _ [iv o.kind,iv o.n] [.int .i64 o.kind,.int .i64 o.n] rfl fun j c u hc hu=>by
    match j,hc,hu with
    | 0,hc,hu=>cases hc;cases hu;exact .int _ _ _
    | 1,hc,hu=>cases hc;cases hu;exact .int _ _ _
    | j+2,hc,hu=>simp at hc
   have hT4:=tb10 (hT o hom) (gb_ hg (Nat.le_refl _) hb4) (ac12 (hq.mono (fun b h=>hb4.block b (hg.1 b h)) fun _ h=>h) (ac12 hro an_))
   have hrt:=hTl o hom
   clear hT hTl hA hA2 hcell hv
   go_wp2_with (go_at_call 50;refine hT4.mono ?_)
   rintro e W5 ⟨rfl,b5⟩
   rw[World.size_alloc] at b5
   have b6:Below wr.heap.size wr W5:=((Below.refl _ wr).alloc (Nat.le_refl _) _).trans (b5.mono (by omega))
   have hs6:=b6.size
   have hWS:=sW10 W3.heap.size (w.heap.size+1) _ (t19 q o.kind o.n++[10]) W5 (sb11 hB b6) (by rw[Lib.byteCells_length,List.length_append,List.length_cons,List.length_nil];omega) (by omega)
   rw[←ta_] at hWS
   have hnx:=ts12 (q:=q) ho
   have hcat:¬9223372036854775807<(t19 q o.kind o.n).length+1:=by omega
   have hcat2:(t19 q o.kind o.n).length+1≤9223372036854775807:=by omega
   go_wp2_with (go_at_call 101;refine hWS.mono ?_)
   rintro e W7 ⟨rfl,hB7,b7,r7⟩
   go_wp2
   go_roundw
   case rel=>
    refine⟨i+1,hlt,by simp,?_,?_,?_,?_⟩
    ·rw[hnx,Lib.byteCells_append]
     exact hB7
    ·exact (hb.trans (b6.mono (by omega))).trans (b7.mono (by omega))
    ·exact (hr.trans (fun k h1 h2=>b6.block k (by omega))).trans r7
    ·have:=b7.size
     omega
   case measure=>
    simp [intOf]
    omega
  ·have hie:i=L.length:=by omega
   subst hie
   have hl2:¬(L.length:Int)<(L.length:Int):=by omega
   rw[List.take_length] at hB
   have hBb:=sb_ (B:=w.heap.size) hB (by omega)
   have hst:=Tryz.Builder_String_any w.heap.size (w.heap.size+1) _ _ hBb (by omega)
   go_wp2_with (go_at_call 102;refine hst.mono ?_)
   rintro e W5 ⟨rfl,b5⟩
   go_wp2
   intro b5
   go_wp2
   go_ret
   exact⟨rfl,hb.trans b5⟩
theorem lTp_ (hW:wg_ G) (hE:errG G) (hL:LintG G) {q:QeaT} (hq:q.LintQ):P_ Tryz.prog G nlT_ [qeaV q] (.str (t32 q)):=by
 have hnm:=no11 hq
 have hl:=al15 hq
 refine P_.of_str fun w F vs hg ha=>?_
 obtain⟨v,rfl,hv⟩:=a1_ ha
 obtain⟨us,rfl,hul,hr⟩:=ra10 hv
 match us,hul,hv with
 | [c0,c1,c2,c3,c4,c5,c6,c7,c8],_,hv=>
  exact tw_ q (allC q) (by omega) (fun o _ =>tl12 hnm o.kind o.n) (lAp_ hW hE hq) (fun o _ =>lT10 hL q hnm.trans o.kind o.n (na10 hnm o.kind o.n)) w F hg c0 c1 c2 c3 c4 c5 c6 c7 c8 hv
end Go.Proofs.YtjbcfpkibnhodaaGreatDoor.Ab
namespace Go.Proofs.YtjbcfpkibnhodaaGreatDoor.Ab
open Go Go.RowKit
end Go.Proofs.YtjbcfpkibnhodaaGreatDoor.Ab
namespace Go.Proofs.YtjbcfpkibnhodaaGreatDoor.Ab
open Go Go.RowKit
variable {G:Nat→Option AV}
def q16:QeaT:=⟨[113],[],[],[],[⟨[115],false,false⟩],0,[],[],[]⟩
theorem ql_:q16.LintQ:=⟨by decide,by decide,fun x hx=>(by cases hx),fun x hx=>(by cases hx)⟩
theorem lap_ (hW:wg_ G) (hE:errG G) (hL:LintG G):P_ Tryz.prog G npa_ [] (.bool true):=by
 have ht:=lTp_ hW hE hL ql_
 rw[show t32 q16=[100,101,97,100,32,115,10] by decide] at ht
 have hf:FitL [.agg [.str [113],.nils,.nils,.nils,.seq 3 [.agg [.str [115],.bool false,.bool false]],iv 0,.nils,.nils,.nils]] [qeaV q16]:=by
  refine⟨.agg _ _ rfl fun j c d hc hd=>?_,trivial⟩
  match j,hc,hd with
  | 0,hc,hd=>cases hc;cases hd;exact .refl _
  | 1,hc,hd=>cases hc;cases hd;exact .nil _
  | 2,hc,hd=>cases hc;cases hd;exact .nil _
  | 3,hc,hd=>cases hc;cases hd;exact .nil _
  | 4,hc,hd=>cases hc;cases hd;exact .refl _
  | 5,hc,hd=>cases hc;cases hd;exact .refl _
  | 6,hc,hd=>cases hc;cases hd;exact .nil _
  | 7,hc,hd=>cases hc;cases hd;exact .nil _
  | 8,hc,hd=>cases hc;cases hd;exact .nil _
  | j+9,hc,hd=>cases hc
 refine pp24 fun c hc=>Runs.of fun Φ h=>?_
 subst hc
 unfold cpa_
 have e0:(([100,101,97,100,32,115,10]:List UInt8)==[100,101,97,100,32,115,10])=true:=by decide
 repeat' (first|simp -implicitDefEqProofs only[go_sem,e0]|refine ag_ (fun hb=>?_) (fun hb=>?_)|refine⟨fun hb=>?_,fun hb=>?_⟩|(refine acf_ ht rfl hf rfl ?_)|fail)
 exact h _ ⟨_,_,rfl,rfl,.refl _⟩
end Go.Proofs.YtjbcfpkibnhodaaGreatDoor.Ab
