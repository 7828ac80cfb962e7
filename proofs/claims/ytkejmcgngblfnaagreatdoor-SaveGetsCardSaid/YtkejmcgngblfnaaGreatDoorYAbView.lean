/-
  The contract of a function that leaves all memory as it was, and what a call of it does to a state. Values lent for the time of a call. No claim is proved here.
-/
import Derived.Test.YtkejmcgngblfnaaGreatDoorYAbRel2
namespace Go.Proofs.YtkejmcgngblfnaaGreatDoor.Ab
open Go Go.RowKit
def A10 (w:World) (F:Nat→Prop) (args:List AV) (vs:Array Value):Prop:=
 vs.size=args.length∧∀(j:Nat) c u,args[j]? =some c→vs[j]? =some u→Rd w F n_ c u
def P_ (P:Program) (G:Nat→Option AV) (f:Nat) (args:List AV) (r:AV):Prop:=
 ∀(w:World) (F:Nat→Prop) (vs:Array Value),Good w F G→A10 w F args vs→
  Calls P f vs w fun e w'=>∃v F',e= .returned v∧(∀b,F b→F' b)∧(∀b,F' b→F b∨w.heap.size≤b)∧(∀b,F' b→b<w'.heap.size)∧Rd w' F' n_ r v∧Below w.heap.size w w'
def P10 (P:Program) (G:Nat→Option AV) (f:Nat) (args:List AV) (r:AV):Prop:=
 ∀(w:World) (F:Nat→Prop) (vs:Array Value),Good w F G→A10 w F args vs→
  Calls P f vs w fun e w'=>∃v F',e= .returned v∧(∀b,F' b→w.heap.size≤b)∧(∀b,F' b→b<w'.heap.size)∧Rd w' F' n_ r v∧Below w.heap.size w w'
inductive Fit:AV→AV→Prop where
 | refl (c:AV):Fit c c
 | nil (sz:Nat):Fit .nils (.seq sz [])
 | top (c:AV):Fit c .top
 | agg (cs ds:List AV) (hl:cs.length=ds.length) (h:∀(j:Nat) c d,cs[j]? =some c→ds[j]? =some d→Fit c d):Fit (.agg cs) (.agg ds)
def FitL:List AV→List AV→Prop
 | [],[]=>True
 | a::as,b::bs=>Fit a b∧FitL as bs
 | _,_ =>False
theorem FitL.refl (l:List AV):FitL l l:=by
 induction l with
 | nil=>trivial
 | cons a l ih=>exact⟨.refl a,ih⟩
theorem FitL.at_ {l l':List AV} (h:FitL l l'):l.length=l'.length∧∀(j:Nat) c d,l[j]? =some c→l'[j]? =some d→Fit c d:=by
 induction l generalizing l' with
 | nil=>cases l' with
  | nil=>simp
  | cons b l'=>cases h
 | cons a l ih=>
  cases l' with
  | nil=>cases h
  | cons b l'=>
   obtain⟨h1,h2⟩:=ih h.2
   refine⟨by simp [h1],fun j c d hc hd=>?_⟩
   cases j with
   | zero=>simp at hc hd;subst hc;subst hd;exact h.1
   | succ j=>simp at hc hd;exact h2 j c d hc hd
section
variable {P:Program} {G:Nat→Option AV} {C:Ctx} {nm:N_} {F:Nat→Prop} {st:St} {a:Act} {w:World}
theorem Rd.fit {c d:AV} (hf:Fit c d):∀{v:Value},Rd w F nm c v→Rd w F nm d v:=by
 induction hf with
 | refl c=>exact fun h=>h
 | nil sz=>intro v h;cases h;exact .seq0 _ _ _ _
 | top c=>intro v _;exact .top _ _
 | agg cs ds hl h ih=>
  intro v hv
  cases hv with
  | agg _ _ us hl' h'=>
   refine .agg _ _ _ (by rw[←hl,hl']) fun j d u hd hu=>?_
   have hj:j<cs.length:=by rw[hl];exact (List.getElem?_eq_some_iff.1 hd).1
   exact ih j cs[j] d (List.getElem?_eq_getElem hj) hd (h' j _ u (List.getElem?_eq_getElem hj) hu)
theorem Rd.flat {w':World} {F':Nat→Prop} {nm':N_} {c:AV} {v:Value} (h:Rd w F nm c v) (hf:Ab.flat c=true):Rd w' F' nm' c v:=by
 induction h with
 | top nm v=>exact .top _ _
 | undef nm=>exact .undef _
 | bool nm b=>exact .bool _ _
 | int nm k n=>exact .int _ _ _
 | str nm s=>exact .str _ _
 | agg nm cs us hl h ih=>
  have go:∀(cs:List AV),Ab.flat.go cs=true→∀(j:Nat) c,cs[j]? =some c→Ab.flat c=true:=by
   intro cs
   induction cs with
   | nil=>intro _ j c hc;simp at hc
   | cons x xs ihx=>
    intro hx j c hc
    simp only[Ab.flat.go,Bool.and_eq_true] at hx
    cases j with
    | zero=>simp at hc;subst hc;exact hx.1
    | succ j=>simp at hc;exact ihx hx.2 j c hc
  exact .agg _ _ _ hl fun j c u hc hu=>ih j c u hc hu (go cs hf j c hc)
 | tup nm cs us hl h ih=>
  have go:∀(cs:List AV),Ab.flat.go cs=true→∀(j:Nat) c,cs[j]? =some c→Ab.flat c=true:=by
   intro cs
   induction cs with
   | nil=>intro _ j c hc;simp at hc
   | cons x xs ihx=>
    intro hx j c hc
    simp only[Ab.flat.go,Bool.and_eq_true] at hx
    cases j with
    | zero=>simp at hc;subst hc;exact hx.1
    | succ j=>simp at hc;exact ihx hx.2 j c hc
  exact .tup _ _ _ hl fun j c u hc hu=>ih j c u hc hu (go cs hf j c hc)
 | nils nm=>exact .nils _
 | nilp nm=>exact .nilp _
 | nilfn nm=>exact .nilfn _
 | nili nm=>exact .nili _
 | iface nm t c u h ih=>exact .iface _ _ _ _ (ih hf)
 | nilm nm=>exact .nilm _
 | rawp nm b o=>exact .rawp _ _ _
 | _ =>simp [Ab.flat] at hf
theorem Rd.view {F':Nat→Prop} (hbox:∀i b,hget st.heap i=some b→BoxR w F nm i b) (hF:∀b,F b→F' b) {c:AV} {v:Value} (h:Rd w F nm c v):
  ∀{c':AV},Ab.view st.heap c=some c'→(∀i,i∈r13 c→∀m,nm i=some m→F' m.g)→Rd w F' n_ c' v:=by
 have go:∀(cs:List AV) (us:List Value),(∀(j:Nat) c u,cs[j]? =some c→us[j]? =some u→∀{c':AV},Ab.view st.heap c=some c'→(∀i,i∈r13 c→∀m,nm i=some m→F' m.g)→Rd w F' n_ c' u)→
   ∀cs',Ab.view.go st.heap cs=some cs'→(∀i,i∈r13.go cs→∀m,nm i=some m→F' m.g)→cs.length=cs'.length∧∀(j:Nat) c' u,cs'[j]? =some c'→us[j]? =some u→Rd w F' n_ c' u:=by
  intro cs
  induction cs with
  | nil=>intro us _ cs' h _;simp only[Ab.view.go,Option.some.injEq] at h;subst h;simp
  | cons x xs ih=>
   intro us hx cs' h hr
   simp only[Ab.view.go] at h
   split at h
   ·rename_i y ys hy hys
    simp only[Option.some.injEq] at h
    subst h
    simp only[r13.go,List.mem_append] at hr
    cases us with
    | nil=>
     obtain⟨h1,_⟩:=ih [] (by simp) ys hys (fun i hi=>hr i (.inr hi))
     exact⟨by simp [h1],by simp⟩
    | cons u us=>
     obtain⟨h1,h2⟩:=ih us (fun j c u hc hu=>hx (j+1) c u (by simpa using hc) (by simpa using hu)) ys hys (fun i hi=>hr i (.inr hi))
     refine⟨by simp [h1],fun j c' u' hc hu=>?_⟩
     cases j with
     | zero=>
      simp at hc hu
      subst hc;subst hu
      exact hx 0 x u (by simp) (by simp) hy (fun i hi=>hr i (.inl hi))
     | succ j=>simp at hc hu;exact h2 j c' u' hc hu
   ·cases h
 induction h with
 | top nm v=>intro c' h _;simp only[Ab.view,Option.some.injEq] at h;subst h;exact .top _ _
 | undef nm=>intro c' h _;simp [Ab.view] at h
 | bool nm b=>intro c' h _;simp only[Ab.view,Option.some.injEq] at h;subst h;exact .bool _ _
 | int nm k n=>intro c' h _;simp only[Ab.view,Option.some.injEq] at h;subst h;exact .int _ _ _
 | str nm s=>intro c' h _;simp only[Ab.view,Option.some.injEq] at h;subst h;exact .str _ _
 | agg nm cs us hl h ih=>
  intro c' hv hr
  simp only[Ab.view,Option.map_eq_some_iff] at hv
  obtain⟨cs',hcs,rfl⟩:=hv
  obtain⟨h1,h2⟩:=go cs us (fun j c u hc hu c' hv hr'=>ih j c u hc hu hbox go hv hr') cs' hcs hr
  exact .agg _ _ _ (by rw[←h1,hl]) h2
 | tup nm cs us hl h ih=>
  intro c' hv hr
  simp only[Ab.view,Option.map_eq_some_iff] at hv
  obtain⟨cs',hcs,rfl⟩:=hv
  obtain⟨h1,h2⟩:=go cs us (fun j c u hc hu c' hv hr'=>ih j c u hc hu hbox go hv hr') cs' hcs hr
  exact .tup _ _ _ (by rw[←h1,hl]) h2
 | seq0 nm sz a cap=>intro c' h _;simp only[Ab.view,Option.some.injEq] at h;subst h;exact .seq0 _ _ _ _
 | full nm sz es g o u h0 hFg hm hs hw' h1 h ih=>
  intro c' hv _
  simp only[Ab.view,Option.some.injEq] at hv
  subst hv
  exact .full _ _ _ _ _ u h0 (hF _ hFg) hm hs hw' h1 fun k e j c he hc=>(h k e j c he hc).mono (fun _ _ =>rfl) hF
 | seq nm sz es g o cap u h0 hFg hc hm hs hw' h1 h ih=>
  intro c' hv _
  simp only[Ab.view,Option.some.injEq] at hv
  subst hv
  exact .seq _ _ _ _ _ _ u h0 (hF _ hFg) hc hm hs hw' h1 fun k e j c he hc=>(h k e j c he hc).mono (fun _ _ =>rfl) hF
 | nils nm=>intro c' h _;simp only[Ab.view,Option.some.injEq] at h;subst h;exact .nils _
 | arr nm j k n m hi hk hp=>
  intro c' hv hr
  simp only[Ab.view] at hv
  split at hv
  ·rename_i b hb
   split at hv
   ·rename_i hrow
    simp only[Option.some.injEq] at hv
    subst hv
    by_cases h0:0<n
    ·rcases hbox j b hb with ⟨hn,_⟩ | ⟨m',hm',hl⟩
     ·rw[hi] at hn;cases hn
     ·rw[hi] at hm';cases hm'
      exact (hl.c hrow.2.1).seq hrow.1 hF (hr j (by simp [r13]) m hi) hrow.2.2 h0 n_
    ·obtain rfl:n=0:=by omega
     simp only[List.take_zero]
     exact .seq0 _ _ _ _
   ·cases hv
  ·cases hv
 | arrE nm j k a cap hk=>
  intro c' hv hr
  simp only[Ab.view] at hv
  split at hv
  ·split at hv
   ·simp only[Option.some.injEq] at hv
    subst hv
    simp only[List.take_zero]
    exact .seq0 _ _ _ _
   ·cases hv
  ·cases hv
 | arrN nm j=>
  intro c' hv hr
  simp only[Ab.view] at hv
  split at hv
  ·split at hv
   ·simp only[Option.some.injEq] at hv
    subst hv
    simp only[List.take_zero]
    exact .seq0 _ _ _ _
   ·cases hv
  ·cases hv
 | ref nm j k off m hi=>intro c' h _;simp [Ab.view] at h
 | eptr nm e off g o u hFg hw' h1 h ih=>
  intro c' hv _
  simp only[Ab.view,Option.some.injEq] at hv
  subst hv
  exact .eptr _ _ _ _ _ u (hF _ hFg) hw' h1 fun j c hc=>(h j c hc).mono (fun _ _ =>rfl) hF
 | nilp nm=>intro c' h _;simp only[Ab.view,Option.some.injEq] at h;subst h;exact .nilp _
 | fn nm f cs us hl h ih=>
  intro c' hv hr
  simp only[Ab.view,Option.map_eq_some_iff] at hv
  obtain⟨cs',hcs,rfl⟩:=hv
  obtain⟨h1,h2⟩:=go cs us (fun j c u hc hu c' hv hr'=>ih j c u hc hu hbox go hv hr') cs' hcs hr
  exact .fn _ _ _ _ (by rw[←h1,hl]) h2
 | nilfn nm=>intro c' h _;simp only[Ab.view,Option.some.injEq] at h;subst h;exact .nilfn _
 | nili nm=>intro c' h _;simp only[Ab.view,Option.some.injEq] at h;subst h;exact .nili _
 | nilm nm=>intro c' h _;simp only[Ab.view,Option.some.injEq] at h;subst h;exact .nilm _
 | rawp nm b o=>intro c' h _;simp only[Ab.view,Option.some.injEq] at h;subst h;exact .rawp _ _ _
 | mapc nm es g ents clock hFg hh hbn hl ht hk hv ihk ihv=>intro c' h _;simp only[Ab.view,Option.some.injEq] at h;subst h;exact .mapc _ _ _ ents clock (hF _ hFg) hh hbn hl ht (fun j e k v h1 h2=>(hk j e k v h1 h2).mono (fun _ _ =>rfl) hF) (fun j e k v h1 h2=>(hv j e k v h1 h2).mono (fun _ _ =>rfl) hF)
 | mapv nm i m hi=>intro c' h _;simp [Ab.view] at h
 | iface nm t c u h ih=>
  intro c' hv hr
  simp only[Ab.view,Option.map_eq_some_iff] at hv
  obtain⟨x,hx,rfl⟩:=hv
  exact .iface _ _ _ _ (ih hbox go hx hr)
end
end Go.Proofs.YtkejmcgngblfnaaGreatDoor.Ab
namespace Go.Proofs.YtkejmcgngblfnaaGreatDoor.Ab
open Go Go.RowKit
def Own (nm:N_) (H:List (Nat×Box)) (k:Nat):Prop:=∃i b m,hget H i=some b∧nm i=some m∧m.g=k
theorem vc10 {rec:AV→Option AV} {H:List (Nat×Box)} {c c':AV} (h:viewK rec H c=some c'):(∀cs,c≠ .agg cs)→c'.cells=[c']:=by
 intro hn
 cases c <;> simp only[viewK,Option.map_eq_some_iff,Option.some.injEq,reduceCtorEq] at h
 case agg cs=>exact absurd rfl (hn cs)
 case arr=>
  split at h
  ·split at h
   ·simp only[Option.some.injEq] at h;subst h;rfl
   ·cases h
  ·cases h
 case mapv=>
  split at h
  ·split at h
   ·simp only[Option.some.injEq] at h;subst h;rfl
   ·cases h
  ·cases h
 case ref=>
  split at h
  ·split at h
   ·split at h
    ·obtain⟨x,_,rfl⟩:=Option.map_eq_some_iff.1 h;rfl
    ·cases h
   ·cases h
  ·cases h
 all_goals first | (subst h;rfl) | (obtain⟨x,_,rfl⟩:=h;rfl)
theorem va_ {rec:AV→Option AV} {H:List (Nat×Box)} {cs:List AV} {c':AV} (h:viewK rec H (.agg cs)=some c'):∃cs',c'= .agg cs'∧viewK.go rec H cs=some cs':=by
 simp only[viewK,Option.map_eq_some_iff] at h
 obtain⟨x,h1,rfl⟩:=h
 exact⟨x,rfl,h1⟩
section
variable {w:World} {F F':Nat→Prop} {nm:N_} {H:List (Nat×Box)}
theorem Rd.viewK (hbox:∀i b,hget H i=some b→BoxR w F nm i b) (hF:∀b,F b→F' b) (hO:∀k,Own nm H k→F' k) {rec:AV→Option AV}
  (hrec:∀{c:AV} {v:Value},Rd w F nm c v→∀{c':AV},rec c=some c'→Rd w F' n_ c' v) (hre:∀{c c':AV},rec c=some c'→(∀cs,c≠ .agg cs)→c'.cells=[c']) (hra:∀{cs:List AV} {c':AV},rec (.agg cs)=some c'→∃cs',c'= .agg cs')
  {c:AV} {v:Value} (h:Rd w F nm c v):∀{c':AV},Ab.viewK rec H c=some c'→Rd w F' n_ c' v:=by
 have go:∀(cs:List AV) (us:List Value),cs.length=us.length→(∀(j:Nat) c u,cs[j]? =some c→us[j]? =some u→∀{c':AV},Ab.viewK rec H c=some c'→Rd w F' n_ c' u)→
   ∀cs',Ab.viewK.go rec H cs=some cs'→cs'.length=us.length∧∀(j:Nat) c' u,cs'[j]? =some c'→us[j]? =some u→Rd w F' n_ c' u:=by
  intro cs
  induction cs with
  | nil=>intro us hl _ cs' h;simp only[Ab.viewK.go,Option.some.injEq] at h;subst h;exact⟨hl,by simp⟩
  | cons x xs ih=>
   intro us hl hx cs' h
   simp only[Ab.viewK.go] at h
   split at h
   ·rename_i y ys hy hys
    simp only[Option.some.injEq] at h
    subst h
    cases us with
    | nil=>simp at hl
    | cons u us=>
     obtain⟨h1,h2⟩:=ih us (by simpa using hl) (fun j c u hc hu=>hx (j+1) c u (by simpa using hc) (by simpa using hu)) ys hys
     refine⟨by simp [h1],fun j c' u' hc hu=>?_⟩
     cases j with
     | zero=>simp at hc hu;subst hc;subst hu;exact hx 0 x u (by simp) (by simp) hy
     | succ j=>simp at hc hu;exact h2 j c' u' hc hu
   ·cases h
 induction h with
 | top nm v=>intro c' h;simp only[Ab.viewK,Option.some.injEq] at h;subst h;exact .top _ _
 | undef nm=>intro c' h;simp [Ab.viewK] at h
 | bool nm b=>intro c' h;simp only[Ab.viewK,Option.some.injEq] at h;subst h;exact .bool _ _
 | int nm k n=>intro c' h;simp only[Ab.viewK,Option.some.injEq] at h;subst h;exact .int _ _ _
 | str nm s=>intro c' h;simp only[Ab.viewK,Option.some.injEq] at h;subst h;exact .str _ _
 | agg nm cs us hl h ih=>
  intro c' hv
  simp only[Ab.viewK,Option.map_eq_some_iff] at hv
  obtain⟨cs',hcs,rfl⟩:=hv
  obtain⟨h1,h2⟩:=go cs us hl (fun j c u hc hu c' hv=>ih j c u hc hu hbox hO hrec hv) cs' hcs
  exact .agg _ _ _ h1 h2
 | tup nm cs us hl h ih=>
  intro c' hv
  simp only[Ab.viewK,Option.map_eq_some_iff] at hv
  obtain⟨cs',hcs,rfl⟩:=hv
  obtain⟨h1,h2⟩:=go cs us hl (fun j c u hc hu c' hv=>ih j c u hc hu hbox hO hrec hv) cs' hcs
  exact .tup _ _ _ h1 h2
 | seq0 nm sz a cap=>intro c' h;simp only[Ab.viewK,Option.some.injEq] at h;subst h;exact .seq0 _ _ _ _
 | full nm sz es g o u h0 hFg hm hs hw' h1 h ih=>
  intro c' hv
  simp only[Ab.viewK,Option.some.injEq] at hv
  subst hv
  exact .full _ _ _ _ _ u h0 (hF _ hFg) hm hs hw' h1 fun k e j c he hc=>(h k e j c he hc).mono (fun _ _ =>rfl) hF
 | seq nm sz es g o cap u h0 hFg hc hm hs hw' h1 h ih=>
  intro c' hv
  simp only[Ab.viewK,Option.some.injEq] at hv
  subst hv
  exact .seq _ _ _ _ _ _ u h0 (hF _ hFg) hc hm hs hw' h1 fun k e j c he hc=>(h k e j c he hc).mono (fun _ _ =>rfl) hF
 | nils nm=>intro c' h;simp only[Ab.viewK,Option.some.injEq] at h;subst h;exact .nils _
 | arr nm j k n m hi hk hp=>
  intro c' hv
  simp only[Ab.viewK] at hv
  split at hv
  ·rename_i b hb
   split at hv
   ·rename_i hrow
    simp only[Option.some.injEq] at hv
    subst hv
    by_cases h0:0<n
    ·rcases hbox j b hb with ⟨hn,_⟩ | ⟨m',hm',hl⟩
     ·rw[hi] at hn;cases hn
     ·rw[hi] at hm';cases hm'
      exact (hl.c hrow.2.1).seq hrow.1 hF (hO _ ⟨j,b,m,hb,hi,rfl⟩) hrow.2.2 h0 n_
    ·obtain rfl:n=0:=by omega
     simp only[List.take_zero]
     exact .seq0 _ _ _ _
   ·cases hv
  ·cases hv
 | arrE nm j k a cap hk=>
  intro c' hv
  simp only[Ab.viewK] at hv
  split at hv
  ·split at hv
   ·simp only[Option.some.injEq] at hv
    subst hv
    simp only[List.take_zero]
    exact .seq0 _ _ _ _
   ·cases hv
  ·cases hv
 | arrN nm j=>
  intro c' hv
  simp only[Ab.viewK] at hv
  split at hv
  ·split at hv
   ·simp only[Option.some.injEq] at hv
    subst hv
    simp only[List.take_zero]
    exact .seq0 _ _ _ _
   ·cases hv
  ·cases hv
 | ref nm j k off m hi=>
  intro c' hv
  simp only[Ab.viewK] at hv
  split at hv
  ·rename_i b hb
   split at hv
   case isFalse=>cases hv
   rename_i h0
   split at hv
   ·rename_i e he
    obtain⟨e',he',rfl⟩:=Option.map_eq_some_iff.1 hv
    rcases hbox j b hb with ⟨hn,_⟩ | ⟨m',hm',hl⟩
    ·rw[hi] at hn;cases hn
    rw[hi] at hm';cases hm'
    obtain⟨l1,l2,l3,vs,l4,l5,l6,l7,l8,l9⟩:=hl.c h0
    have hesz:=l8 e (List.mem_of_getElem? he)
    -- the cells as they lie
    have cell:∀p,p<e.cells.length→∃u,vs[k*m.sz+p]? =some u∧u.oneCell'=true∧∀c,e.cells[p]? =some c→Rd w F nm c u:=fun p hp=>by
     obtain⟨u,hu,hu1,hr⟩:=l9 k e p _ he (List.getElem?_eq_getElem hp)
     refine⟨u,hu,hu1,fun c hc=>?_⟩
     rw[List.getElem?_eq_getElem hp] at hc
     cases hc
     split at hr
     ·exact hr.any nm
     ·exact hr
    have fin:∀(hlen:e'.cells.length=e.cells.length) (hr:∀(p:Nat) c u,e'.cells[p]? =some c→vs[k*m.sz+p]? =some u→Rd w F' n_ c u),Rd w F' n_ (.eptr e' off) (.pointer (some ⟨m.g,k*m.sz+off,none⟩)):=by
     intro hlen hr
     refine .eptr _ _ _ m.g (k*m.sz) (fun p=>vs.getD (k*m.sz+p) Go.undef) (hO _ ⟨j,b,m,hb,hi,rfl⟩) (fun p hp=>?_) (fun p hp=>?_) fun p c hc=>?_
     ·obtain⟨u,hu,_⟩:=cell p (by rw[←hlen];exact hp)
      simp [World.cell?,l4,Array.getD_eq_getD_getElem?,hu]
     ·obtain⟨u,hu,hu1,_⟩:=cell p (by rw[←hlen];exact hp)
      simp only[Array.getD_eq_getD_getElem?,hu,Option.getD_some]
      exact hu1
     ·obtain⟨u,hu,_⟩:=cell p (by rw[←hlen];exact (List.getElem?_eq_some_iff.1 hc).1)
      simp only[Array.getD_eq_getD_getElem?,hu,Option.getD_some]
      exact hr p c u hc hu
    by_cases hagg:∃cs,e= .agg cs
    ·obtain⟨cs,rfl⟩:=hagg
     obtain⟨cs',rfl⟩:=hra he'
     simp only[AV.cells] at cell hesz fin
     have hrd:Rd w F nm (.agg cs) (.agg ((List.range cs.length).map fun p=>vs.getD (k*m.sz+p) Go.undef).toArray):=by
      refine .agg _ _ _ (by simp) fun p c u hc hu=>?_
      have hp:p<cs.length:=(List.getElem?_eq_some_iff.1 hc).1
      obtain⟨u',hu',_,hr⟩:=cell p hp
      simp only[List.getElem?_map,List.getElem?_range hp,Option.map_some,Option.some.injEq,Array.getD_eq_getD_getElem?,hu',Option.getD_some] at hu
      subst hu
      exact hr c hc
     have hrd':=hrec hrd he'
     generalize hA:((List.range cs.length).map fun p=>vs.getD (k*m.sz+p) Go.undef).toArray=A at hrd'
     cases hrd' with
     | agg _ _ us hl' hr'=>
      have hA':us=(List.range cs.length).map fun p=>vs.getD (k*m.sz+p) Go.undef:=by
       have:=congrArg Array.toList hA
       simpa using this.symm
      refine fin (by rw[hl',hA'];simp) fun p c u hc hu=>hr' p c u hc ?_
      have hp:p<cs.length:=by
       have:=(List.getElem?_eq_some_iff.1 hc).1
       rw[hl',hA'] at this
       simpa using this
      rw[hA']
      simp only[List.getElem?_map,List.getElem?_range hp,Option.map_some,Array.getD_eq_getD_getElem?,hu,Option.getD_some]
    ·have hne:∀cs,e≠ .agg cs:=fun cs h=>hagg ⟨cs,h⟩
     have e1:=hre he' hne
     have e2:e.cells=[e]:=by cases e <;> first | rfl | exact absurd rfl (hne _)
     rw[e2] at cell
     obtain⟨u,hu,_,hr⟩:=cell 0 (by simp)
     refine fin (by rw[e1,e2];rfl) fun p c u' hc hu'=>?_
     rw[e1] at hc
     match p,hc with
     | 0,hc=>
      simp only[List.getElem?_cons_zero,Option.some.injEq] at hc
      subst hc
      rw[hu] at hu'
      cases hu'
      exact hrec (hr e (by simp)) he'
     | p+1,hc=>simp at hc
   ·cases hv
  ·cases hv
 | eptr nm e off g o u hFg hw' h1 h ih=>
  intro c' hv
  simp only[Ab.viewK,Option.some.injEq] at hv
  subst hv
  exact .eptr _ _ _ _ _ u (hF _ hFg) hw' h1 fun j c hc=>(h j c hc).mono (fun _ _ =>rfl) hF
 | nilp nm=>intro c' h;simp only[Ab.viewK,Option.some.injEq] at h;subst h;exact .nilp _
 | fn nm f cs us hl h ih=>
  intro c' hv
  simp only[Ab.viewK,Option.map_eq_some_iff] at hv
  obtain⟨cs',hcs,rfl⟩:=hv
  obtain⟨h1,h2⟩:=go cs us hl (fun j c u hc hu c' hv=>ih j c u hc hu hbox hO hrec hv) cs' hcs
  exact .fn _ _ _ _ h1 h2
 | nilfn nm=>intro c' h;simp only[Ab.viewK,Option.some.injEq] at h;subst h;exact .nilfn _
 | nili nm=>intro c' h;simp only[Ab.viewK,Option.some.injEq] at h;subst h;exact .nili _
 | nilm nm=>intro c' h;simp only[Ab.viewK,Option.some.injEq] at h;subst h;exact .nilm _
 | rawp nm b o=>intro c' h;simp only[Ab.viewK,Option.some.injEq] at h;subst h;exact .rawp _ _ _
 | mapc nm es g ents clock hFg hh hbn hl ht hk hv ihk ihv=>intro c' h;simp only[Ab.viewK,Option.some.injEq] at h;subst h;exact .mapc _ _ _ ents clock (hF _ hFg) hh hbn hl ht (fun j e k v h1 h2=>(hk j e k v h1 h2).mono (fun _ _ =>rfl) hF) (fun j e k v h1 h2=>(hv j e k v h1 h2).mono (fun _ _ =>rfl) hF)
 | mapv nm i m hi=>
  intro c' hv
  simp only[Ab.viewK] at hv
  split at hv
  ·rename_i b hb
   split at hv
   ·rename_i h0
    simp only[Option.some.injEq] at hv
    subst hv
    rcases hbox i b hb with ⟨hn,_⟩ | ⟨m',hm',hl⟩
    ·rw[hi] at hn;cases hn
    rw[hi] at hm';cases hm'
    rcases hl with hl | ⟨_,_,_,⟨ht,_⟩ | ⟨_,ents,clock,hh,hsz,hb1,hb2,hE,_⟩ | ⟨ht,_⟩⟩
    ·exact absurd hl.2.2.1 (by omega)
    ·omega
    case' inr.inr.inr=>omega
    ·refine .mapc _ _ m.g ents clock (hO _ ⟨i,b,m,hb,hi,rfl⟩) hh ⟨hb1,hb2⟩ hsz.symm (fun j x hx=>?_) (fun j e k v he hx=>?_) (fun j e k v he hx=>?_)
     ·have hj:j<ents.size:=by rw[hsz];exact (List.getElem?_eq_some_iff.1 hx).1
      obtain⟨k,v,h1,_⟩:=hE j ents[j] (by simp [hj])
      rw[hx] at h1
      cases h1
      exact⟨k,v,rfl⟩
     ·obtain⟨k2,v2,h1,h2,h3⟩:=hE j e he
      rw[hx] at h1
      cases h1
      exact h2.mono (fun _ _ =>rfl) hF
     ·obtain⟨k2,v2,h1,h2,h3⟩:=hE j e he
      rw[hx] at h1
      cases h1
      exact h3.mono (fun _ _ =>rfl) hF
   ·cases hv
  ·cases hv
 | iface nm t c u h ih=>
  intro c' hv
  simp only[Ab.viewK,Option.map_eq_some_iff] at hv
  obtain⟨x,hx,rfl⟩:=hv
  exact .iface _ _ _ _ (ih hbox hO hrec hx)
theorem vc11:∀(n:Nat) {c c':AV},viewB n H c=some c'→(∀cs,c≠ .agg cs)→c'.cells=[c']
 | 0,_,_,h=>vc10 h
 | _ +1,_,_,h=>vc10 h
theorem va10:∀(n:Nat) {cs:List AV} {c':AV},viewB n H (.agg cs)=some c'→∃cs',c'= .agg cs'
 | 0,_,_,h=>let ⟨x,e,_⟩:=va_ h;⟨x,e⟩
 | _ +1,_,_,h=>let ⟨x,e,_⟩:=va_ h;⟨x,e⟩
theorem Rd.viewB (hbox:∀i b,hget H i=some b→BoxR w F nm i b) (hF:∀b,F b→F' b) (hO:∀k,Own nm H k→F' k):∀(n:Nat) {c:AV} {v:Value},Rd w F nm c v→∀{c':AV},Ab.viewB n H c=some c'→Rd w F' n_ c' v
 | 0,_,_,h,_,hv=>Rd.viewK hbox hF hO (fun _ _ h=>by cases h) (fun h=>by cases h) (fun h=>by cases h) h hv
 | n+1,_,_,h,_,hv=>Rd.viewK hbox hF hO (fun h _ hv=>Rd.viewB hbox hF hO n h hv) (fun h=>vc11 n h) (fun h=>va10 n h) h hv
theorem vr12 (hbox:∀i b,hget H i=some b→BoxR w F nm i b) (hF:∀b,F b→F' b) (hO:∀k,Own nm H k→F' k) {cs cs':List AV} (h:v11 H cs=some cs')
  {us:List Value} (hu:cs.length=us.length) (hrd:∀(j:Nat) c u,cs[j]? =some c→us[j]? =some u→Rd w F nm c u):
  cs'.length=us.length∧∀(j:Nat) c u,cs'[j]? =some c→us[j]? =some u→Rd w F' n_ c u:=by
 induction cs generalizing cs' us with
 | nil=>simp only[v11,Option.some.injEq] at h;subst h;exact⟨hu,by simp⟩
 | cons x xs ih=>
  simp only[v11] at h
  split at h
  ·rename_i y ys hy hys
   simp only[Option.some.injEq] at h
   subst h
   cases us with
   | nil=>simp at hu
   | cons u us=>
    obtain⟨h1,h2⟩:=ih hys (us:=us) (by simpa using hu) (fun j c u hc hu=>hrd (j+1) c u (by simpa using hc) (by simpa using hu))
    refine⟨by simp [h1],fun j c' u' hc hu'=>?_⟩
    cases j with
    | zero=>simp at hc hu';subst hc;subst hu';exact (hrd 0 x u (by simp) (by simp)).viewB hbox hF hO 6 hy
    | succ j=>simp at hc hu';exact h2 j c' u' hc hu'
  ·cases h
end
end Go.Proofs.YtkejmcgngblfnaaGreatDoor.Ab
