/-
  An automaton without the transitions that never fire: an event makes the same of configurations, if nothing goes wrong; and states that are reached. proctorlaw39.without, proctorref19.Event, proctorref18.Start. What hits make of states of an automaton without free variables and guards: the reference's configurations are the bits' states. subset.Hits; hits under a binding, of an automaton without free variables. No claim is proved here.
-/
import Derived.Test.YtjbcfpkibnhodaaGreatDoorYLt4
set_option linter.unusedSimpArgs false
set_option maxHeartbeats 4000000
set_option maxRecDepth 100000
namespace Go.Proofs.YtjbcfpkibnhodaaGreatDoor.Ab
open Go Go.RowKit
def k12 (p:Nat→Bool) (l:List TransT) (n:Nat):List TransT:=((List.range n).filter fun i=>!p i).filterMap fun i=>l[i]?
theorem ks13 {p:Nat→Bool} {l:List TransT} {n:Nat} {t:TransT} (h:l[n]? =some t):k12 p l (n+1)=k12 p l n++if p n=true then [] else [t]:=by
 unfold k12
 rw[List.range_succ,List.filter_append,List.filterMap_append]
 cases hp:p n <;> simp [hp,h]
theorem kl10 (p:Nat→Bool) (l:List TransT) (n:Nat):(k12 p l n).length≤n:=by
 have h1:=List.length_filterMap_le (fun i=>l[i]?) ((List.range n).filter fun i=>!p i)
 have h2:=List.length_filter_le (fun i=>!p i) (List.range n)
 rw[List.length_range] at h2
 exact Nat.le_trans h1 h2
theorem km_ {p:Nat→Bool} {l:List TransT} {n:Nat} {t:TransT} (h:t∈k12 p l n):t∈l:=by
 unfold k12 at h
 obtain⟨i,_,hi⟩:=List.mem_filterMap.1 h
 exact List.mem_of_getElem? hi
def g11 (odd:List OddT) (i:Nat):Bool:=odd.any fun o=>o.kind==5&&o.n==(i:Int)
def w10 (q:QeaT) (odd:List OddT):QeaT:={q with trans:=k12 (g11 odd) q.trans q.trans.length}
theorem et10 (q:QeaT) (l:List TransT):∀n,exL {q with trans:=l} n=exL q n
 | 0=>rfl
 | n+1=>by
  cases hx:q.nodes[n]? with
  | none=>
   have e1:exL q (n+1)=exL q n:=by rw[exL,hx]
   have e2:exL {q with trans:=l} (n+1)=exL {q with trans:=l} n:=by rw[exL,show ({q with trans:=l}:QeaT).nodes[n]? =none from hx]
   rw[e1,e2,et10 q l n]
  | some x=>
   rw[es_ hx,es_ (q:={q with trans:=l}) hx,et10 q l n]
   rfl
theorem et_ (q:QeaT) (l:List TransT):e13 {q with trans:=l}=e13 q:=et10 q l q.nodes.length
theorem et13 (q:QeaT) (l:List TransT) (b:List SlotT) (vals:List Val) (i:Nat):ev {q with trans:=l} b vals i=ev q b vals i:=by
 induction i using Nat.strongRecOn with
 | _ i ih=>
  cases hx:q.nodes[i]? with
  | none=>
   have e1:ev q b vals i=(v0,1):=by rw[ev,hx]
   have e2:ev {q with trans:=l} b vals i=(v0,1):=by rw[ev,show ({q with trans:=l}:QeaT).nodes[i]? =none from hx]
   rw[e1,e2]
  | some x=>
   rw[ea_ hx,ea_ (q:={q with trans:=l}) hx]
   have e:(fun j:Int=>if j.toNat<i then ev {q with trans:=l} b vals j.toNat else (v0,1))=fun j=>if j.toNat<i then ev q b vals j.toNat else (v0,1):=by
    funext j
    split
    ·rename_i hj
     exact ih _ hj
    ·rfl
   rw[e]
   rfl
theorem gt_ (q:QeaT) (l:List TransT) (b:List SlotT) (vals:List Val) (t:TransT):g10 {q with trans:=l} b vals t=g10 q b vals t:=by
 unfold g10
 rw[et13]
theorem st_ (q:QeaT) (l:List TransT) (b:List SlotT) (vals:List Val):∀(s:List SetT) (out:List Val),s21 {q with trans:=l} b vals s out=s21 q b vals s out
 | [],_ =>rfl
 | x::s,out=>by rw[s21,s21,et13,st_ q l b vals s]
theorem ft11 (q:QeaT) (l:List TransT) (c:CfgT) (t:TransT) (h:HitT):f19 {q with trans:=l} c t h=f19 q c t h:=by
 unfold f19
 rw[gt_,st_]
theorem ht11 (q:QeaT) (l:List TransT) (c:CfgT) (t:TransT):h16 {q with trans:=l} c t=h16 q c t:=by
 funext s h
 unfold h16
 rw[ft11]
theorem tt10 (q:QeaT) (l:List TransT) (c:CfgT) (hits:List HitT):t16 {q with trans:=l} c hits=t16 q c hits:=by
 funext s t
 unfold t16
 rw[ht11]
theorem st10 {q:QeaT} (l:List TransT) {s:SetT} (h:SetK q s):SetK {q with trans:=l} s:=by
 obtain⟨e,f,x,fr,h1,h2,h3,h4⟩:=h
 exact⟨e,f,x,fr,h1,h2,by rw[et_];exact h3,h4⟩
theorem tt_ {q:QeaT} (l:List TransT) {t:TransT} (h:TransK q t):TransK {q with trans:=l} t:=
 ⟨h.from0,h.fromL,h.to0,h.toL,h.sym0,h.symL,fun hg=>by
  obtain⟨e,he,hk⟩:=h.guard hg
  exact⟨e,by rw[et_];exact he,hk⟩,fun s hs=>st10 l (h.sets s hs)⟩
theorem gt10 {q:QeaT} {l:List TransT} (h:q.Good) (hl:∀t∈l,t∈q.trans):QeaT.Good {q with trans:=l}:=
 ⟨fun t ht=>tt_ l (h.tk t (hl t ht)),h.n64,h.fl,h.sl⟩
theorem ct10 {q:QeaT} {c:CfgT} (l:List TransT) (h:c.Ok q):c.Ok {q with trans:=l}:=⟨h.right,h.n64⟩
theorem ht14 {q:QeaT} {h:HitT} (l:List TransT) (hh:h.Ok q):h.Ok {q with trans:=l}:=⟨hh.bl,hh.fl,hh.bok,hh.fok⟩
theorem ht12 {q:QeaT} {hits:List HitT} (l:List TransT) (hh:HitsOk q hits):HitsOk {q with trans:=l} hits:=⟨fun h hm=>ht14 l (hh.ok h hm),hh.len⟩
theorem wn_ {a b:Int} (h:w13 a b=0):a=0∧b=0:=by
 unfold w13 at h
 split at h <;> omega
theorem hz10 {q:QeaT} {c:CfgT} {t:TransT} {s:List CfgT×Int} {x:HitT} (h:(h16 q c t s x).2=0):s.2=0:=by
 unfold h16 at h
 split at h
 ·exact (wn_ h).1
 ·exact h
theorem hz_ {q:QeaT} {c:CfgT} {t:TransT}:∀(l:List HitT) (s:List CfgT×Int),(l.foldl (h16 q c t) s).2=0→s.2=0
 | [],_,h=>h
 | _ ::l,_,h=>hz10 (hz_ l _ h)
theorem tz_ {q:QeaT} {c:CfgT} {hits:List HitT} {s:List CfgT×Int} {t:TransT} (h:(t16 q c hits s t).2=0):s.2=0:=by
 unfold t16 at h
 split at h
 ·exact hz_ _ _ h
 ·exact h
def N10 (q:QeaT) (t:TransT):Prop:=∀(c:CfgT) (h:HitT),(f19 q c t h).2.1=false
theorem hn_ {q:QeaT} {c:CfgT} {t:TransT} (hn:N10 q t):∀(l:List HitT) (s:List CfgT×Int),(l.foldl (h16 q c t) s).2=0→l.foldl (h16 q c t) s=s
 | [],_,_ =>rfl
 | x::l,s,h=>by
  rw[List.foldl_cons] at h ⊢
  rw[hn_ hn l _ h]
  have h1:=hz_ l _ h
  unfold h16 at h1 ⊢
  split
  ·rename_i hs
   rw[if_pos hs] at h1
   obtain⟨h3,h4⟩:=wn_ h1
   rw[if_neg (by rw[hn c x];simp)]
   exact Prod.ext rfl (by show w13 s.2 _ =s.2;rw[h3,h4];rfl)
  ·rfl
theorem tn11 {q:QeaT} {c:CfgT} {hits:List HitT} {t:TransT} (hn:N10 q t) {s:List CfgT×Int} (h:(t16 q c hits s t).2=0):t16 q c hits s t=s:=by
 unfold t16 at h ⊢
 split
 ·rename_i hf
  rw[if_pos hf] at h
  exact hn_ hn _ _ h
 ·rfl
theorem tk_ {q:QeaT} {c:CfgT} {hits:List HitT} {p:Nat→Bool} {l:List TransT} (hp:∀(i:Nat) t,l[i]? =some t→p i=true→N10 q t):∀n,n≤l.length→((l.take n).foldl (t16 q c hits) ([],0)).2=0→
  (k12 p l n).foldl (t16 q c hits) ([],0)=(l.take n).foldl (t16 q c hits) ([],0)
 | 0,_,_ =>rfl
 | n+1,hn,h=>by
  obtain⟨t,ht,_⟩:=as10 (l:=l) (i:=n) (by omega)
  rw[ta15 ht,List.foldl_append,List.foldl_cons,List.foldl_nil] at h ⊢
  rw[ks13 ht,List.foldl_append,tk_ hp n (by omega) (tz_ h)]
  cases hpn:p n with
  | true=>
   rw[if_pos rfl,List.foldl_nil,tn11 (hp n t ht hpn) h]
  | false=>
   rw[if_neg (by simp),List.foldl_cons,List.foldl_nil]
theorem ok10 {q:QeaT} {c:CfgT} {hits:List HitT} {p:Nat→Bool} (hp:∀(i:Nat) t,q.trans[i]? =some t→p i=true→N10 q t) (h:(o16 q c hits).2=0):o16 {q with trans:=k12 p q.trans q.trans.length} c hits=o16 q c hits:=by
 have hS:(o15 q c hits).2=0:=by
  unfold o16 at h
  split at h
  ·exact h
  ·rename_i h0
   simpa using h0
 have e:o15 {q with trans:=k12 p q.trans q.trans.length} c hits=o15 q c hits:=by
  have:=tk_ (c:=c) (hits:=hits) hp q.trans.length (Nat.le_refl _) (by rw[List.take_length];exact hS)
  rw[List.take_length] at this
  unfold o15
  rw[tt10]
  exact this
 unfold o16
 rw[e]
 rfl
theorem az_ {q:QeaT} {hits:List HitT}:∀(set:List CfgT) (s:List CfgT×Int),(set.foldl (a30 q hits) s).2=0→s.2=0∧∀c∈set,(o16 q c hits).2=0
 | [],s,h=>⟨h,fun c hc=>by cases hc⟩
 | c::set,s,h=>by
  obtain⟨h1,h2⟩:=az_ set _ h
  obtain⟨h3,h4⟩:=wn_ (show w13 s.2 (o16 q c hits).2=0 from h1)
  refine⟨h3,fun x hx=>?_⟩
  rcases List.mem_cons.1 hx with rfl | hx
  ·exact h4
  ·exact h2 x hx
theorem az10 {q:QeaT} {set:List CfgT} {hits:List HitT} (h:(a27 q set hits).2=0):(set.foldl (a30 q hits) ([],0)).2=0∧(a27 q set hits).1=(set.foldl (a30 q hits) ([],0)).1:=by
 unfold a27 at h ⊢
 dsimp only at h ⊢
 split at h
 ·rename_i h0;exact absurd h h0
 ·rename_i h0
  rw[if_neg h0]
  split at h
  ·cases h
  ·rename_i h1
   rw[if_neg h1]
   exact⟨by simpa using h0,rfl⟩
theorem fs17 {α β:Type} {f g:β→α→β}:∀(l:List α),(∀x∈l,∀s,f s x=g s x)→∀s,l.foldl f s=l.foldl g s
 | [],_,_ =>rfl
 | x::l,h,s=>by rw[List.foldl_cons,List.foldl_cons,h x (by simp),fs17 l fun y hy=>h y (by simp [hy])]
theorem ak_ {q:QeaT} {set:List CfgT} {hits:List HitT} {p:Nat→Bool} (hp:∀(i:Nat) t,q.trans[i]? =some t→p i=true→N10 q t) (h:(a27 q set hits).2=0):a27 {q with trans:=k12 p q.trans q.trans.length} set hits=a27 q set hits:=by
 have hz:=(az_ set _ (az10 h).1).2
 have e:set.foldl (a30 {q with trans:=k12 p q.trans q.trans.length} hits) ([],0)=set.foldl (a30 q hits) ([],0):=
  fs17 set (fun c hc s=>by unfold a30;rw[ok10 hp (hz c hc)]) _
 unfold a27
 rw[e]
theorem no10 {q:QeaT} {t:TransT} (hr:TransK q t) (h:n18 q t=true):N10 q t:=by
 intro c x
 unfold n18 at h
 split at h
 ·cases h
 ·rename_i hg
  obtain⟨e,he,hk⟩:=hr.guard (by omega)
  obtain⟨g,hge⟩:=Int.eq_ofNat_of_zero_le (show 0≤t.guard by omega)
  rw[hge,Int.toNat_natCast] at he
  rw[hge,at?_nat he] at h
  dsimp only at h
  split at h
  ·cases h
  ·rename_i ho
   have hfr:=ef_ g e he hk
   obtain⟨a,ha⟩:=Int.eq_ofNat_of_zero_le hfr.1
   rw[ha] at ho
   have hc:=co_ (q:=q) (a:=a) (g:=g) (by simpa using ho)
   rw[←ha] at hc
   have hev:=ec11 (b:=x.bind) (b':=[]) (vals:=f20 x.frees c.vals) (vals':=i12 q) g e he hk hc
   rw[Int.toNat_natCast] at h
   unfold n21 at h
   rw[←hev] at h
   unfold f19
   rw[if_pos]
   unfold g10
   rw[if_neg hg,hge,Int.toNat_natCast]
   dsimp only
   simp only[Bool.or_eq_true,Bool.not_eq_true',beq_eq_false_iff_ne,ne_eq] at h
   exact h
def R_ (q:QeaT) (c:CfgT):Prop:=c.state∈toL q.trans q.states.length q.start
theorem fr_ {q:QeaT} (h:q.LintQ) {c:CfgT} {t:TransT} {x:HitT} (ht:t∈q.trans) (hf:t.from_=c.state) (hc:R_ q c) (hr:(f19 q c t x).2.1=true):R_ q (f19 q c t x).1:=by
 have hcl:=(to11 (fun t ht=>(h.trans_in t ht).2) h.start_in).2 c.state hc t ht hf
 unfold f19 at hr ⊢
 split
 ·rename_i h0
  rw[if_pos h0] at hr
  cases hr
 ·rename_i h0
  rw[if_neg h0] at hr
  split
  ·exact hcl
  ·rename_i h1
   rw[if_neg h1] at hr
   cases hr
theorem hr_ {q:QeaT} (h:q.LintQ) {c:CfgT} {t:TransT} (ht:t∈q.trans) (hf:t.from_=c.state) (hc:R_ q c):∀(l:List HitT) (s:List CfgT×Int),(∀y∈s.1,R_ q y)→∀y∈(l.foldl (h16 q c t) s).1,R_ q y
 | [],_,hs=>hs
 | x::l,s,hs=>by
  refine hr_ h ht hf hc l _ ?_
  unfold h16
  split
  ·dsimp only
   split
   ·rename_i hb
    intro y hy
    rcases pm_ hy with hy | rfl
    ·exact hs y hy
    ·exact fr_ h ht hf hc hb
   ·exact hs
  ·exact hs
theorem tr_ {q:QeaT} (h:q.LintQ) {c:CfgT} {hits:List HitT} (hc:R_ q c):∀(l:List TransT),(∀t∈l,t∈q.trans)→∀(s:List CfgT×Int),(∀y∈s.1,R_ q y)→∀y∈(l.foldl (t16 q c hits) s).1,R_ q y
 | [],_,_,hs=>hs
 | t::l,hl,s,hs=>by
  refine tr_ h hc l (fun t ht=>hl t (by simp [ht])) _ ?_
  unfold t16
  split
  ·rename_i hf
   exact hr_ h (hl t (by simp)) hf hc _ _ hs
  ·exact hs
theorem or10 {q:QeaT} (h:q.LintQ) {c:CfgT} {hits:List HitT} (hc:R_ q c):∀y∈(o16 q c hits).1,R_ q y:=by
 unfold o16
 split
 ·intro y hy;cases hy
 ·split
  ·intro y hy
   rw[List.mem_singleton.1 hy]
   exact hc
  ·exact tr_ h hc q.trans (fun t ht=>ht) _ (fun y hy=>by cases hy)
theorem fp10 {S:CfgT→Prop}:∀(l:List CfgT),(∀y∈l,S y)→∀(out:List CfgT),(∀y∈out,S y)→∀y∈l.foldl putR out,S y
 | [],_,_,ho=>ho
 | c::l,hl,out,ho=>fp10 l (fun y hy=>hl y (by simp [hy])) _ fun y hy=>(pm_ hy).elim (ho y) fun e=>e ▸ hl c (by simp)
theorem ar_ {q:QeaT} (h:q.LintQ) {hits:List HitT}:∀(set:List CfgT),(∀c∈set,R_ q c)→∀(s:List CfgT×Int),(∀y∈s.1,R_ q y)→∀y∈(set.foldl (a30 q hits) s).1,R_ q y
 | [],_,_,hs=>hs
 | c::set,hc,s,hs=>ar_ h set (fun y hy=>hc y (by simp [hy])) _ (fp10 _ (or10 h (hc c (by simp))) _ hs)
theorem ar13 {q:QeaT} (h:q.LintQ) {set:List CfgT} {hits:List HitT} (hs:∀c∈set,R_ q c):∀y∈(a27 q set hits).1,R_ q y:=by
 unfold a27
 dsimp only
 split
 ·intro y hy;cases hy
 ·split
  ·intro y hy;cases hy
  ·exact ar_ h set hs _ fun y hy=>by cases hy
theorem ao10 {q:QeaT} (h:q.Good) {hits:List HitT} (hh:HitsOk q hits) (hhl:hits.length≤12) (htl:q.trans.length≤12):∀(set:List CfgT),(∀c∈set,c.Ok q)→∀(s:List CfgT×Int),(∀y∈s.1,y.Ok q)→∀y∈(set.foldl (a30 q hits) s).1,y.Ok q
 | [],_,_,hs=>hs
 | c::set,hc,s,hs=>ao10 h hh hhl htl set (fun y hy=>hc y (by simp [hy])) _ (fp10 _ (oo_ h (hc c (by simp)) hh hhl htl).1 _ hs)
theorem ao11 {q:QeaT} (h:q.Good) {set:List CfgT} {hits:List HitT} (hh:HitsOk q hits) (hhl:hits.length≤12) (htl:q.trans.length≤12) (hs:∀c∈set,c.Ok q):(∀y∈(a27 q set hits).1,y.Ok q)∧(a27 q set hits).1.length≤256:=by
 unfold a27
 dsimp only
 split
 ·exact⟨fun y hy=>(by cases hy),by simp⟩
 ·split
  ·exact⟨fun y hy=>(by cases hy),by simp⟩
  ·exact⟨ao10 h hh hhl htl set hs _ (fun y hy=>by cases hy),by dsimp only;omega⟩
theorem ou_ {q:QeaT} {c:CfgT} (hc:R_ q c):∀o∈allC q,o.kind=1→¬o.n=c.state:=by
 intro o ho hk hn
 unfold allC l15 at ho
 simp only[List.flatten_cons,List.flatten_nil,List.append_nil,List.mem_append] at ho
 have hg:∀(k:Int) (p:Nat→Bool) (n:Nat),o∈g_ k p n→o.kind=k∧∃i:Nat,o.n=i∧p i=true:=fun k p n hm=>by
  unfold g_ at hm
  obtain⟨i,hi,rfl⟩:=List.mem_map.1 hm
  exact⟨rfl,i,rfl,(List.mem_filter.1 hi).2⟩
 rcases ho with ho | ho | ho | ho | ho | ho
 ·obtain⟨_,i,hi,hp⟩:=hg _ _ _ ho
  unfold pC1 at hp
  rw[Bool.not_eq_true',List.any_eq_false] at hp
  refine hp c.state hc ?_
  rw[beq_iff_eq,←hn,hi]
 all_goals (have:=(hg _ _ _ ho).1;omega)
theorem on12 {q:QeaT} (hq:q.LintQ) {i:Nat} {t:TransT} (ht:q.trans[i]? =some t) (h:g11 (allC q) i=true):N10 q t:=by
 unfold g11 at h
 obtain⟨o,ho,hc⟩:=List.any_eq_true.1 h
 rw[Bool.and_eq_true,beq_iff_eq,beq_iff_eq] at hc
 unfold allC l15 at ho
 simp only[List.flatten_cons,List.flatten_nil,List.append_nil,List.mem_append] at ho
 have hg:∀(k:Int) (p:Nat→Bool) (n:Nat),o∈g_ k p n→o.kind=k∧∃i:Nat,o.n=i∧p i=true:=fun k p n hm=>by
  unfold g_ at hm
  obtain⟨i,hi,rfl⟩:=List.mem_map.1 hm
  exact⟨rfl,i,rfl,(List.mem_filter.1 hi).2⟩
 rcases ho with ho | ho | ho | ho | ho | ho
 case inr.inr.inr.inr.inl=>
  obtain⟨_,j,hj,hp⟩:=hg _ _ _ ho
  have:j=i:=by omega
  subst this
  unfold pN at hp
  rw[ht] at hp
  exact no10 (hq.good.tk t (List.mem_of_getElem? ht)) hp
 all_goals (have:=(hg _ _ _ ho).1;omega)
end Go.Proofs.YtjbcfpkibnhodaaGreatDoor.Ab
namespace Go.Proofs.YtjbcfpkibnhodaaGreatDoor.Ab
open Go Go.RowKit
variable {G:Nat→Option AV}
theorem P_.ret2 {P:Program} {f:Nat} {args:List AV} {r r':AV} (h:Fit2 r r') (hc:P_ P G f args r):P_ P G f args r':=fun w F vs hg ha=>(hc w F vs hg ha).mono (by
 rintro e w' ⟨v,F',rfl,h1,h2,h3,h4,h5⟩
 exact⟨v,F',rfl,h1,h2,h3,h4.fit2 h,h5⟩)
theorem rS11 (q:QeaT) (hf:q.frees.length≤1000):P_ Tryz.prog G np11 [qeaV q] (c11 [s29 q]):=(rS12 q hf).ret2 (sf_ q)
def g12 (i:Nat) (o:OddT):Bool:=o.kind==5&&o.n==(i:Int)
theorem vt_ {H:List (Nat×Box)} {i:Nat} {m:List TransT} (h:hget H i=some ⟨true,taT_,5,m.map t11⟩):view H (.arr i 0 m.length)=some (.seq 5 (m.map t11)):=by
 unfold view
 rw[h]
 dsimp only
 rw[if_pos ⟨rfl,by decide,by simp⟩,List.drop_zero,List.take_of_length_le (by simp)]
theorem lwp_ (q:QeaT) (odd:List OddT) (ho:odd.length≤1000000) (htl:q.trans.length≤1000000):P_ Tryz.prog G np17 [qeaV q,o14 odd] (qeaV (w10 q odd)):=by
 refine ppw_ (Runs.of fun Φ h=>?_)
 unfold cpw_
 simp -implicitDefEqProofs only[go_sem,qeaV,d_,q_,f_,s_,s10,n_,t_,o14]
 refine al_ (fun n st=>∃(i:Nat) (m:List TransT),i+n=q.trans.length∧st=⟨53,[(1,.seq 2 (odd.map oddV)),(2,.ref 2 0 0),(4,.ref 4 0 0),(5,.arr 5 0 m.length),(6,iv i)],[(2,⟨false,taQ_,9,[qeaV q]⟩),(4,⟨false,taQ_,9,[.agg [.str [],.nils,.nils,.nils,.nils,.int .i64 0,.nils,.nils,.nils]]⟩),(5,⟨true,taT_,5,m.map t11⟩)]⟩∧m=k12 (g11 odd) q.trans i) q.trans.length ⟨0,[],by simp,by first | rfl | (simp [qeaV,d_,q_,f_,s_,s10,n_,t_];done) | (simp [qeaV,d_,q_,f_,s_,s10,n_,t_];rfl),rfl⟩ ?_
 rintro I hI n st ⟨i,m,hi,rfl,hm⟩
 have hml:m.length≤i:=by rw[hm];exact kl10 _ _ _
 by_cases hlt':i<q.trans.length
 ·obtain⟨t,ht,htm⟩:=as10 hlt'
  have hw:=ws_ hlt' (by omega)
  have hlt:((i:Int)<(q.trans.length:Int))=True:=by simp;exact hlt'
  have hnx:=ks13 (p:=g11 odd) ht
  rw[←hm] at hnx
  have hb1:(m.length+1)*56≤140737488355328:=by omega
  repeat' (first|simp -implicitDefEqProofs only[go_sem,qeaV,d_,q_,f_,s_,s10,n_,t_,o14,List.length_map,hlt,decide_true]|refine ag_ (fun hb=>?_) (fun hb=>?_)|refine⟨fun hb=>?_,fun hb=>?_⟩|fail)
  refine al_ (fun n' st=>∃(k:Nat) (is:Bool),k+n'=odd.length∧st=⟨53,[(1,.seq 2 (odd.map oddV)),(2,.ref 2 0 0),(4,.ref 4 0 0),(5,.arr 5 0 m.length),(6,iv i),(7,.bool is),(8,iv k)],[(2,⟨false,taQ_,9,[qeaV q]⟩),(4,⟨false,taQ_,9,[.agg [.str [],.nils,.nils,.nils,.nils,.int .i64 0,.nils,.nils,.nils]]⟩),(5,⟨true,taT_,5,m.map t11⟩)]⟩∧(is||(odd.drop k).any (g12 i))=g11 odd i) odd.length ⟨0,false,by simp,by first | rfl | (simp [qeaV,d_,q_,f_,s_,s10,n_,t_];done) | (simp [qeaV,d_,q_,f_,s_,s10,n_,t_];rfl),rfl⟩ ?_
  rintro J hJ n' st ⟨k,is,hk,rfl,hgo⟩
  by_cases hlk:k<odd.length
  ·obtain⟨o,ho',_⟩:=as10 hlk
   have hwk:=ws_ hlk (by omega)
   have hltk:((k:Int)<(odd.length:Int))=True:=by simp;exact hlk
   rw[da_ ho',List.any_cons] at hgo
   have hnext:∀is',is'=(is||g12 i o)→a12 J n' ⟨53,[(1,.seq 2 (odd.map oddV)),(2,.ref 2 0 0),(4,.ref 4 0 0),(5,.arr 5 0 m.length),(6,iv i),(7,.bool is'),(8,iv (k+1:Nat))],[(2,⟨false,taQ_,9,[qeaV q]⟩),(4,⟨false,taQ_,9,[.agg [.str [],.nils,.nils,.nils,.nils,.int .i64 0,.nils,.nils,.nils]]⟩),(5,⟨true,taT_,5,m.map t11⟩)]⟩:=fun is' e=>aa_ (n' - 1) (by omega) (hJ _ _ ⟨k+1,is',by omega,rfl,by rw[e,Bool.or_assoc];exact hgo⟩)
   clear hJ hgo hI h
   unfold g12 at hnext
   obtain⟨ok,on⟩:=o
   dsimp only at hnext
   cases is with
   | true=>
    repeat' (first|simp -implicitDefEqProofs only[go_sem,qeaV,d_,q_,f_,s_,s10,n_,t_,o14,List.length_map,hltk,decide_true,hwk]|refine ag_ (fun hb=>?_) (fun hb=>?_)|refine⟨fun hb=>?_,fun hb=>?_⟩|fail)
    exact hnext true rfl
   | false=>
    by_cases h5:ok=5
    ·subst h5
     repeat' (first|simp -implicitDefEqProofs only[go_sem,qeaV,d_,q_,f_,s_,s10,n_,t_,o14,List.length_map,hltk,decide_true,hwk,am_ ho',oddV]|refine ag_ (fun hb=>?_) (fun hb=>?_)|refine⟨fun hb=>?_,fun hb=>?_⟩|fail)
     exact hnext _ (by simp)
    ·have e5:(ok==5)=false:=by simp [h5]
     repeat' (first|simp -implicitDefEqProofs only[go_sem,qeaV,d_,q_,f_,s_,s10,n_,t_,o14,List.length_map,hltk,decide_true,hwk,am_ ho',oddV,e5]|refine ag_ (fun hb=>?_) (fun hb=>?_)|refine⟨fun hb=>?_,fun hb=>?_⟩|fail)
     exact hnext false (by simp [e5])
  ·have hltk:((k:Int)<(odd.length:Int))=False:=by simp;omega
   rw[List.drop_eq_nil_of_le (by omega),List.any_nil,Bool.or_false] at hgo
   rw[←hgo] at hnx
   clear hJ hgo h
   cases is with
   | true=>
    rw[if_pos rfl,List.append_nil] at hnx
    repeat' (first|simp -implicitDefEqProofs only[go_sem,qeaV,d_,q_,f_,s_,s10,n_,t_,o14,List.length_map,hltk,decide_false,hw]|refine ag_ (fun hb=>?_) (fun hb=>?_)|refine⟨fun hb=>?_,fun hb=>?_⟩|fail)
    exact aa_ (n - 1) (by omega) (hI _ _ ⟨i+1,m,by omega,rfl,hnx.symm⟩)
   | false=>
    rw[if_neg (by simp)] at hnx
    obtain⟨tf,ts,tt,tg,tsets⟩:=t
    repeat' (first|simp -implicitDefEqProofs only[go_sem,qeaV,d_,q_,f_,s_,s10,n_,t_,o14,List.length_map,List.length_append,hltk,decide_false,hw,hb1,am_ ht,t11,s14]|refine ag_ (fun hb=>?_) (fun hb=>?_)|refine⟨fun hb=>?_,fun hb=>?_⟩|fail)
    refine aa_ (n - 1) (by omega) (hI _ _ ⟨i+1,m++[⟨tf,ts,tt,tg,tsets⟩],by omega,?_,hnx.symm⟩)
    simp [qeaV,d_,q_,f_,s_,s10,n_,t_,t11,s14]
 ·have hlt:((i:Int)<(q.trans.length:Int))=False:=by simp;omega
  have hie:i=q.trans.length:=by omega
  subst hie
  have hR:w10 q odd={q with trans:=m}:=by rw[hm];rfl
  rw[hR] at h
  have hview:∀H:List (Nat×Box),hget H 5=some ⟨true,taT_,5,m.map t11⟩→view H (.arr 5 0 m.length)=some (.seq 5 (m.map t11)):=fun H hH=>vt_ hH
  clear hI
  repeat' (first|simp -implicitDefEqProofs only[go_sem,qeaV,d_,q_,f_,s_,s10,n_,t_,o14,List.length_map,hlt,decide_false]|refine ag_ (fun hb=>?_) (fun hb=>?_)|refine⟨fun hb=>?_,fun hb=>?_⟩|fail)
  refine h _ ⟨_,qeaV {q with trans:=m},rfl,?_,.refl _⟩
  simp [one,view,view.go,hget,vt_,AV.cells,qeaV,d_,q_,f_,s_,s10,n_,t_]
  exact List.take_of_length_le (by simp)
def e16 (q:QeaT) (b:List SlotT) (set:List CfgT) (e:EvT):List CfgT×Int:=
 if u_ (a_ q e q.symbols.length) b=[] then (set,0) else a27 q set (u_ (a_ q e q.symbols.length) b)
theorem rEp_ {q:QeaT} {b:List SlotT} {set:List CfgT} {e:EvT} (hq:q.Good) (hsy:SymsOk q) (hel:e.args.length≤1000000) (hb:b.length≤1000000) (hh:HitsOk q (u_ (a_ q e q.symbols.length) b))
  (hl12:(u_ (a_ q e q.symbols.length) b).length≤12) (hb8:∀h∈a_ q e q.symbols.length,h.bind.length≤8) (hs:∀c∈set,c.Ok q) (htl:q.trans.length≤12) (hsl:∀t∈q.trans,t.sets.length≤1000000) (hset:set.length≤1000):
  P_ Tryz.prog G npE_ [qeaV q,s11 b,c11 set,e11 e] (.tup [c11 (e16 q b set e).1,iv (e16 q b set e).2]):=by
 have hsl2:=hsy.len
 have hal:=al10 q e q.symbols.length
 have h1:=rA10 (G:=G) q e hsy hel
 have h2:=rUp_ (G:=G) (a_ q e q.symbols.length) b (by omega) (fun h hh=>by have:=hb8 h hh;omega) hb
 have h3:=rAp_ (G:=G) hq hs hh htl hl12 hsl hset
 refine ppE_ (Runs.of fun Φ h=>?_)
 unfold cpE_
 unfold e16 at h
 clear hh hl12 hb8 hal
 generalize a_ q e q.symbols.length=AH at*
 generalize u_ AH b=L at*
 generalize a27 q set L=R at*
 obtain⟨R1,R2⟩:=R
 dsimp only at h3
 simp only[qeaV,d_,q_,f_,s_,s10,n_,t_,e11,s11,h14,c11] at h1 h2 h3
 by_cases hL:L=[]
 ·subst hL
  rw[if_pos rfl] at h
  simp only[List.map_nil] at h2
  have hz:((0:Nat):Int)=0:=rfl
  repeat' (first|simp -implicitDefEqProofs only[go_sem,qeaV,d_,q_,f_,s_,s10,n_,t_,e11,s11,c11,List.length_map,List.length_nil,hz]|refine ag_ (fun hb=>?_) (fun hb=>?_)|refine⟨fun hb=>?_,fun hb=>?_⟩|refine ac_ h1 rfl rfl ?_|refine ac_ h2 rfl rfl ?_|fail)
  exact h _ ⟨_,_,rfl,rfl,.refl _⟩
 ·rw[if_neg hL] at h
  have e0:((L.length:Int)==0)=false:=by
   have:L.length≠0:=fun e=>hL (List.eq_nil_of_length_eq_zero e)
   simp
   omega
  repeat' (first|simp -implicitDefEqProofs only[go_sem,qeaV,d_,q_,f_,s_,s10,n_,t_,e11,s11,c11,List.length_map,e0]|refine ag_ (fun hb=>?_) (fun hb=>?_)|refine⟨fun hb=>?_,fun hb=>?_⟩|refine ac_ h1 rfl rfl ?_|refine ac_ h2 rfl rfl ?_|refine ac_ h3 rfl rfl ?_|fail)
  exact h _ ⟨_,_,rfl,rfl,.refl _⟩
end Go.Proofs.YtjbcfpkibnhodaaGreatDoor.Ab
namespace Go.Proofs.YtjbcfpkibnhodaaGreatDoor.Ab
open Go
structure P12 (q:QeaT):Prop where
 right:r10 q=true
 good:q.Good
 mask:MaskQ q
 frees:q.frees=[]
 guard:∀t∈q.trans,t.guard<0
section
variable {q:QeaT} {hits:List HitT}
theorem P12.sets (hq:P12 q) {t:TransT} (ht:t∈q.trans):t.sets=[]:=by
 cases hs:t.sets with
 | nil=>rfl
 | cons s l=>
  obtain⟨e,f,x,fr,_,_,_,_,hf,_⟩:=(hq.good.tk t ht).sets s (by rw[hs];simp)
  rw[hq.frees] at hf
  cases hf
end
end Go.Proofs.YtjbcfpkibnhodaaGreatDoor.Ab
namespace Go.Proofs.YtjbcfpkibnhodaaGreatDoor.Ab
open Go Go.RowKit
variable {G:Nat→Option AV}
theorem so14 {q:QeaT} (hf:fewQ q=true) (h:r10 q=true):SymsOk q:=by
 have hs:=(rp_ h).2.2
 have hl:q.symbols.length≤12:=(mo_ hf h).symbols
 refine⟨by omega,fun x hx=>?_⟩
 obtain⟨i,hi⟩:=List.getElem?_of_mem hx
 have h1:=at10.1 hs i x hi
 unfold symR symS at h1
 rw[Bool.and_eq_true] at h1
 have h2:=h1.1
 refine⟨?_,?_⟩
 ·split at h2
  ·cases h2
  ·rename_i d hd;exact⟨d,hd⟩
 ·unfold fewQ at hf
  simp only[Bool.and_eq_true] at hf
  have h3:=at10.1 hf.2.2.1 i x hi
  unfold f24 at h3
  simp only[Bool.and_eq_true,decide_eq_true_eq] at h3
  omega
end Go.Proofs.YtjbcfpkibnhodaaGreatDoor.Ab
