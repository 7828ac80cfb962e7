/-
  What is asked of a region's operations, one b11 the other, and that the model's operations do as much. No claim is proved here.
-/
import Derived.Test.YtkejmcgngblfnaaGreatDoorYAbEval3
namespace Go.Proofs.YtkejmcgngblfnaaGreatDoor.Ab
open Go Go.RowKit
def q11 (args:List AV) (r:AV):Bool:=flat r||(r10 args).isEmpty
def c31 (P:Program) (G:Nat→Option AV) (q:Bool) (f:Nat) (args:List AV) (d:Option Nat) (st:St) (K:St→Prop):Prop:=
 ∃vargs args' r st',v13 r st.heap args=some vargs∧FitL vargs args'∧P_ P G f args' r∧(b11 st args r).put d r=some st'∧(q=true→q11 args r=true)∧K st'
def Weak (st st':St):Prop:=∀(G:Nat→Option AV) (C:Ctx) (a:Act) (w:World),Rel G C st a w→Rel G C st' a w
theorem Weak.refl (st:St):Weak st st:=fun _ _ _ _ h=>h
theorem Weak.trans {a b c:St} (h:Weak a b) (h':Weak b c):Weak a c:=fun _ _ _ _ x=>h' _ _ _ _ (h _ _ _ _ x)
def c27 (P:Program) (G:Nat→Option AV) (f:Nat) (args:List AV) (d:Option Nat) (st:St) (K:St→Prop):Prop:=
 ∃I args1 args' H H' H2 r r2 st',FitL args args1∧renO.go I args'=some args1∧G_ I st.heap H∧n11 (ours I)=true∧n11 (t10 I)=true∧n14 st.N H I=true∧
  H_ P G f args' H r H'∧renO I r=some r2∧t16 I H'=some H2∧(a13 st I H H2).put d r2=some st'∧K st'
def c34 (P:Program) (G:Nat→Option AV) (f:Nat) (args:List AV) (d:Option Nat) (st:St) (K:St→Prop):Prop:=
 ∃vargs args' r st',v11 st.heap args=some vargs∧FitL vargs args'∧P10 P G f args' r∧st.put d r=some st'∧K st'
def c25 (P:Program) (G:Nat→Option AV) (q:Bool) (f:Nat) (args:List AV) (d:Option Nat) (st:St) (K:St→Prop):Prop:=
 c31 P G q f args d st K∨c34 P G f args d st K
def c20 (P:Program) (G:Nat→Option AV) (q:Bool) (f:Nat) (args:List AV) (d:Option Nat) (st:St) (K:St→Prop):Prop:=
 c25 P G q f args d st K∨(q=false∧c27 P G f args d st K)
def c23 (P:Program) (G:Nat→Option AV) (q:Bool) (f:Nat) (args:List AV) (src:Option Opd×List Opd) (d:Option Nat) (st:St) (K:St→Prop):Prop:=
 c20 P G q f args d st K∨(q=false∧∃st1,Weak st st1∧match src.1 with
  | none=>c20 P G false f (evs G st1 src.2) d st1 K
  | some x=>match st1.ev G x with
   | .fn f' caps=>b10 P f'=true∧c20 P G false f' (evs G st1 src.2++caps) d st1 K
   | _ =>False)
def s11 (P:Program) (G:Nat→Option AV) (q:Bool) (d:Option Nat) (op:AOp) (st:St) (K:St→Prop):Prop:=
 match op with
 | .call f xs=>c23 P G q f (evs G st xs) (none,xs) d st K
 | .callv x xs=>match st.ev G x with
  | .fn f caps=>b10 P f=true∧c23 P G q f (evs G st xs++caps) (some x,xs) d st K
  | _ =>False
 | .callB f xs=>c23 P G false f (evs G st xs) (none,xs) d st K
 | .callvB x xs=>match st.ev G x with
  | .fn f caps=>b10 P (fnN f)=true∧c23 P G false (fnN f) (fnA f caps (evs G st xs)) (some x,xs) d st K
  | _ =>False
 | op=>match e_ G d op st with
  | some st'=>K st'
  | none=>False
def St.know (st:St) (t:Nat) (b:Bool):St:={st with env:=(t,.bool b)::st.env}
def s18 (d:Option Nat) (st:St) (K:St→Prop):Prop:=match st.put d .undef with | some st'=>K st' | none=>False
def opP (P:Program) (G:Nat→Option AV) (q:Bool) (o:AO) (st:St) (K:St→Prop):Prop:=
 match o.g with
 | none=>s11 P G q o.d o.op st K
 | some (t,want)=>match st.get t with
  | .bool b=>(b=want→s11 P G q o.d o.op (st.know t want) K)∧(b=(!want)→s18 o.d (st.know t (!want)) K)
  | .undef=>s18 o.d st K
  | _ =>False
def opsP (P:Program) (G:Nat→Option AV) (q:Bool):List AO→St→(St→Prop)→Prop
 | [],st,K=>K st
 | o::os,st,K=>opP P G q o st fun st'=>opsP P G q os st' K
def c22 (ops:Array Oper) (g:Option (Nat×Bool)) (g':Option (Nat×Bool)):Bool:=
 match g,g' with
 | none,none=>true
 | some (j,b),some (t,b')=>((ops[j]?).bind (·.dst))==some t&&b==b'
 | _,_ =>false
def i11:AOp→Bool
 | .store .. =>true
 | _ =>false
def c24 (P:Program) (ops:Array Oper) (o:Oper) (ao:AO):Bool:=
 o.dst==ao.d&&c22 ops o.guard ao.g&&c10 P o.op ao.op&&(!i11 ao.op||o.dst.isNone)
def c12 (P:Program) (ops:Array Oper):List Oper→List AO→Bool
 | [],[]=>true
 | o::os,ao::aos=>c24 P ops o ao&&c12 P ops os aos
 | _,_ =>false
section
variable {P:Program} {q:Bool} {G:Nat→Option AV} {C:Ctx} {st st':St} {a:Act} {w:World} {o:Oper}
theorem cm13 {f:Nat} {args:List AV} {d:Option Nat} {K K':St→Prop} (h:c27 P G f args d st K) (hk:∀st,K st→K' st):c27 P G f args d st K':=by
 obtain⟨a1,a2,a3,a4,a5,a6,a7,a8,a9,h1,h2,h3,h4,h5,h6,h7,h8,h9,h10,h11⟩:=h
 exact⟨a1,a2,a3,a4,a5,a6,a7,a8,a9,h1,h2,h3,h4,h5,h6,h7,h8,h9,h10,hk _ h11⟩
theorem cm14 {f:Nat} {args:List AV} {d:Option Nat} {K K':St→Prop} (h:c31 P G q f args d st K) (hk:∀st,K st→K' st):c31 P G q f args d st K':=by
 obtain⟨a,b,c,d,h1,h2,h3,h4,hq,h5⟩:=h
 exact⟨a,b,c,d,h1,h2,h3,h4,hq,hk _ h5⟩
theorem cm12 {f:Nat} {args:List AV} {d:Option Nat} {K K':St→Prop} (h:c20 P G q f args d st K) (hk:∀st,K st→K' st):c20 P G q f args d st K':=by
 rcases h with (h | ⟨a,b,c,e,h1,h2,h3,h4,h5⟩) | ⟨h0,h⟩
 ·exact .inl (.inl (cm14 h hk))
 ·exact .inl (.inr ⟨a,b,c,e,h1,h2,h3,h4,hk _ h5⟩)
 ·exact .inr ⟨h0,cm13 h hk⟩
theorem cm_ {f:Nat} {args:List AV} {src:Option Opd×List Opd} {d:Option Nat} {K K':St→Prop} (h:c23 P G q f args src d st K) (hk:∀st,K st→K' st):c23 P G q f args src d st K':=by
 rcases h with h | ⟨h0,st1,h1,h⟩
 ·exact .inl (cm12 h hk)
 ·refine .inr ⟨h0,st1,h1,?_⟩
  obtain⟨src1,src2⟩:=src
  cases src1 with
  | none=>exact cm12 h hk
  | some x=>
   simp only at h ⊢
   split at h
   ·exact⟨h.1,cm12 h.2 hk⟩
   ·exact h.elim
theorem bl11 {f:Nat} (hf:b10 P f=true):f<fnB:=by
 unfold b10 at hf
 rw[Bool.and_eq_true,decide_eq_true_eq] at hf
 exact hf.1
theorem cr_ {f:Nat} {args:Array Value} (hf:b10 P f=true) (w:World):(callFunc f args).run P w= .ok (.enter f args) w:=by
 unfold b10 at hf
 rw[Bool.and_eq_true] at hf
 obtain⟨-,hf⟩:=hf
 split at hf
 ·rename_i fn hfn
  simp only[Bool.and_eq_true,Bool.not_eq_true'] at hf
  obtain⟨h1,h2⟩:=hf
  simp only[callFunc,Sem.run_bind,run_program,Result.andThen_ok,hfn,h2,Bool.false_eq_true,if_false]
  rw[if_neg (by simpa [Option.isNone_iff_eq_none,Option.isSome_iff_ne_none] using h1)]
  rfl
 ·cases hf
theorem ma10 (args:Array Operand) (f:Operand→Value):(args.toList.map f).toArray=args.map f:=by apply Array.ext';simp
def i15:AOp→Bool
 | .callB .. | .callvB .. =>true
 | _ =>false
theorem es10 {st:St} {nm:N_} {F:Nat→Prop} {f:Nat} {args:List AV} {us:List Value} {d:Option Nat} {K:St→Prop} {K':Act→World→Prop} {Q:Exit→Act→World→Prop} (hd:o.dst=d) (hK:∀st' a' w',K st'→Rel G C st' a' w'→K' a' w')
  (hx:RelX G C nm F st a w) (hr:(execOp a.eval o).run P w= .ok (.enter f us.toArray) w) (hl:args.length=us.length)
  (hrd:∀(j:Nat) c u,args[j]? =some c→us[j]? =some u→Rd w F nm c u) (hcp:c20 P G q f args d st K):o.wp P a w K' Q:=by
 unfold Oper.wp
 rw[hr,Oper.upon_enter]
 rcases hcp with (⟨vargs,args',r,st',h1,h2,h3,h4,-,h5⟩ | ⟨vargs,args',r,st',h1,h2,h3,h4,h5⟩) | ⟨-,I,args1,args',H,H',H2,r,r2,st',h1,h2,h3,h4,h5,h6,h7,h8,h9,h10,h11⟩
 ·rw[←hd] at h4
  refine (cs20 hx hl hrd h1 h2 h3 h4).mono ?_
  rintro e w' ⟨v,rfl,hrel⟩
  exact hK _ _ _ h5 hrel
 ·rw[←hd] at h4
  refine (cs18 hx hl hrd h1 h2 h3 h4).mono ?_
  rintro e w' ⟨v,rfl,hrel⟩
  exact hK _ _ _ h5 hrel
 ·rw[←hd] at h10
  refine (cs19 hx hl hrd h1 h2 h3 h4 h5 h6 h7 h8 h9 h10).mono ?_
  rintro e w' ⟨v,rfl,hrel⟩
  exact hK _ _ _ h11 hrel
theorem cs14 {x:Opd} {xs:List Opd} {y:Operand} {cl:Call} {nm:N_} {F:Nat→Prop} {f:Nat} {caps:List AV} {d:Option Nat} {K:St→Prop} {K':Act→World→Prop} {Q:Exit→Act→World→Prop} (hd:o.dst=d) (hK:∀st' a' w',K st'→Rel G C st' a' w'→K' a' w')
  (hop:o.op= .call cl) (hcl:cl.callee= .value y) (h1:c_ y x=true) (h2:c13 cl.args.toList xs=true)
  (hx:RelX G C nm F st a w) (hev:st.ev G x= .fn f caps) (hbo:b10 P (fnN f)=true) (hk:c20 P G q (fnN f) (fnA f caps (evs G st xs)) d st K):o.wp P a w K' Q:=by
 have hy:=hx.opd h1
 rw[hev] at hy
 generalize hey:a.eval y=yv at hy
 cases hy with
 | fn _ _ _ us hl hr=>
  obtain⟨h4,h5⟩:=hx.opds h2
  have hfn:∀vs,(callFunc (fnN f) vs).run P w= .ok (.enter (fnN f) vs) w:=fun vs=>cr_ hbo w
  obtain⟨callee,args,tys⟩:=cl
  simp only at hcl h2 h4 h5
  subst hcl
  have hlt:(caps.take (f / fnB)).length=(us.take (f / fnB)).length:=by simp only[List.length_take];omega
  refine es10 (us:=us.take (f / fnB)++args.toList.map a.eval++us.drop (f / fnB)) hd hK hx ?_ (by unfold fnA;simp only[List.length_append,List.length_drop];omega) (fun j c u hc hu=>?_) hk
  ·simp only[execOp,hop,resolve,Sem.run_bind,hey,f20,Deferred.ofValue,Sem.run_pure,Result.andThen_ok,invoke]
   have:=hfn ((us.take (f / fnB)).toArray++(args.toList.map a.eval).toArray++(us.drop (f / fnB)).toArray)
   rw[←List.append_toArray,←List.append_toArray,ma10] at*
   simpa using this
  ·unfold fnA at hc
   rw[List.getElem?_append] at hc hu
   simp only[List.length_append] at hc hu
   split at hc
   ·rename_i hj
    rw[if_pos (by omega)] at hu
    rw[List.getElem?_append] at hc hu
    split at hc
    ·rename_i hj'
     rw[if_pos (by omega)] at hu
     simp only[List.length_take] at hj'
     rw[List.getElem?_take_of_lt (by omega)] at hc hu
     exact hr j c u hc hu
    ·rename_i hj'
     rw[if_neg (by omega),←hlt] at hu
     exact h5 _ c u hc hu
   ·rename_i hj
    rw[if_neg (by omega),←hlt,←h4] at hu
    rw[List.getElem?_drop] at hc hu
    exact hr _ c u hc hu
theorem ss10 (h:Rel G C st a w) {ao:AO} (hB:i15 ao.op=false) (hd:o.dst=ao.d) (hc:c10 P o.op ao.op=true) (hs:i11 ao.op=true→o.dst=none) {K:St→Prop} (hk:s11 P G q ao.d ao.op st K)
  {K':Act→World→Prop} {Q:Exit→Act→World→Prop} (hK:∀st' a' w',K st'→Rel G C st' a' w'→K' a' w'):o.wp P a w K' Q:=by
 have enter:∀{q:Bool} {st:St} {nm:N_} {F:Nat→Prop} {f:Nat} {args:List AV} {us:List Value},RelX G C nm F st a w→(execOp a.eval o).run P w= .ok (.enter f us.toArray) w→args.length=us.length→
   (∀(j:Nat) c u,args[j]? =some c→us[j]? =some u→Rd w F nm c u)→c20 P G q f args ao.d st K→o.wp P a w K' Q:=by
  intro q st nm F f args us hx hr hl hrd hcp
  unfold Oper.wp
  rw[hr,Oper.upon_enter]
  rcases hcp with (⟨vargs,args',r,st',h1,h2,h3,h4,-,h5⟩ | ⟨vargs,args',r,st',h1,h2,h3,h4,h5⟩) | ⟨-,I,args1,args',H,H',H2,r,r2,st',h1,h2,h3,h4,h5,h6,h7,h8,h9,h10,h11⟩
  ·rw[←hd] at h4
   refine (cs20 hx hl hrd h1 h2 h3 h4).mono ?_
   rintro e w' ⟨v,rfl,hrel⟩
   exact hK _ _ _ h5 hrel
  ·rw[←hd] at h4
   refine (cs18 hx hl hrd h1 h2 h3 h4).mono ?_
   rintro e w' ⟨v,rfl,hrel⟩
   exact hK _ _ _ h5 hrel
  ·rw[←hd] at h10
   refine (cs19 hx hl hrd h1 h2 h3 h4 h5 h6 h7 h8 h9 h10).mono ?_
   rintro e w' ⟨v,rfl,hrel⟩
   exact hK _ _ _ h11 hrel
 have h0:=h
 obtain⟨nm,F,hx⟩:=h
 have pure_:∀{op:AOp},ao.op=op→(∃st',e_ G ao.d op st=some st'∧K st')→o.wp P a w K' Q:=by
  rintro op rfl ⟨st',he,hk⟩
  rw[←hd] at he
  unfold Oper.wp
  rcases es_ hx hc he (fun p x n e=>hs (by rw[e];rfl)) with ⟨v,w',hr,hrel⟩ | ⟨w',hr,hrel⟩
  ·rw[hr,Oper.upon_value];exact hK _ _ _ hk hrel
  ·rw[hr,Oper.upon_skip];exact hK _ _ _ hk hrel
 have plain:(match e_ G ao.d ao.op st with | some st'=>K st' | none=>False)→∃st',e_ G ao.d ao.op st=some st'∧K st':=by
  intro h
  split at h
  ·rename_i st' he;exact⟨st',he,h⟩
  ·exact h.elim
 generalize hao:ao.op=aop at hk
 cases aop
 case call f xs=>
  rw[hao] at hc
  generalize hop:o.op=op at hc
  cases op <;> try (simp only[c10,Bool.false_eq_true] at hc;done)
  rename_i cl
  obtain⟨callee,args,tys⟩:=cl
  cases callee <;> try (simp only[c10,Bool.false_eq_true] at hc;done)
  rename_i x
  simp only[c10,Bool.and_eq_true] at hc
  obtain⟨⟨h1,h2⟩,h3⟩:=hc
  cases x <;> simp only[beq_iff_eq,Bool.false_eq_true] at h1
  subst h1
  rename_i f
  have hrun:(execOp a.eval o).run P w= .ok (.enter f (args.toList.map a.eval).toArray) w:=by
   have:=cr_ (args:=(args.toList.map a.eval).toArray) h3 w
   simp only[execOp,hop,resolve,Sem.run_bind,Act.eval,Deferred.ofValue,Sem.run_pure,Result.andThen_ok,invoke]
   rw[ma10] at this ⊢
   simpa using this
  rcases hk with hk | ⟨-,st1,hw,hk⟩
  ·obtain⟨h4,h5⟩:=hx.opds h2
   exact enter hx hrun h4 h5 hk
  ·obtain⟨nm1,F1,hx1⟩:=hw _ _ _ _ h0
   obtain⟨h4,h5⟩:=hx1.opds h2
   exact enter hx1 hrun h4 h5 hk
 case callv x xs=>
  rw[hao] at hc
  generalize hop:o.op=op at hc
  cases op <;> try (simp only[c10,Bool.false_eq_true] at hc;done)
  rename_i cl
  obtain⟨callee,args,tys⟩:=cl
  cases callee <;> try (simp only[c10,Bool.false_eq_true] at hc;done)
  rename_i y
  simp only[c10,Bool.and_eq_true] at hc
  obtain⟨h1,h2⟩:=hc
  have go:∀{q:Bool} {st:St} {nm:N_} {F:Nat→Prop} {f:Nat} {caps:List AV},RelX G C nm F st a w→st.ev G x= .fn f caps→b10 P f=true→c20 P G q f (evs G st xs++caps) ao.d st K→o.wp P a w K' Q:=by
   intro q st nm F f caps hx hev hbo hk
   have hlt:=bl11 hbo
   exact cs14 hd hK hop rfl h1 h2 hx hev (by rw[fp_ hlt];exact hbo) (by rw[fp_ hlt,fp11 hlt];exact hk)
  simp only[s11] at hk
  split at hk
  ·rename_i f caps hev
   obtain⟨hbo,hk⟩:=hk
   rcases hk with hk | ⟨-,st1,hw,hk⟩
   ·exact go hx hev hbo hk
   ·obtain⟨nm1,F1,hx1⟩:=hw _ _ _ _ h0
    simp only at hk
    split at hk
    ·rename_i f' caps' hev'
     exact go hx1 hev' hk.1 hk.2
    ·exact hk.elim
  ·exact hk.elim
 case callB=>rw[hao] at hB;cases hB
 case callvB=>rw[hao] at hB;cases hB
 all_goals exact pure_ rfl (plain (by rw[hao];exact hk))
theorem ss11 (h:Rel G C st a w) {ao:AO} (hd:o.dst=ao.d) (hc:c10 P o.op ao.op=true) (hs:i11 ao.op=true→o.dst=none) {K:St→Prop} (hk:s11 P G q ao.d ao.op st K)
  {K':Act→World→Prop} {Q:Exit→Act→World→Prop} (hK:∀st' a' w',K st'→Rel G C st' a' w'→K' a' w'):o.wp P a w K' Q:=by
 obtain⟨d,op,g⟩:=ao
 simp only at hd hc hs hk
 by_cases hB:i15 op=false
 ·exact ss10 (ao:=⟨d,op,g⟩) h hB hd hc hs hk hK
 cases op
 case callB f xs=>
  have hc':c10 P o.op (.call f xs)=true:=by
   generalize hop:o.op=op at hc
   cases op <;> try (simp only[c10,Bool.false_eq_true] at hc;done)
   rename_i cl
   obtain⟨callee,args,tys⟩:=cl
   cases callee <;> try (simp only[c10,Bool.false_eq_true] at hc;done)
   exact hc
  exact ss10 (q:=false) (ao:=⟨d,.call f xs,g⟩) h rfl hd hc' (fun e=>by cases e) hk hK
 case callvB x xs=>
  generalize hop:o.op=op at hc
  cases op <;> try (simp only[c10,Bool.false_eq_true] at hc;done)
  rename_i cl
  obtain⟨callee,args,tys⟩:=cl
  cases callee <;> try (simp only[c10,Bool.false_eq_true] at hc;done)
  rename_i y
  simp only[c10,Bool.and_eq_true] at hc
  obtain⟨h1,h2⟩:=hc
  simp only[s11] at hk
  split at hk
  ·rename_i f caps hev
   obtain⟨hbo,hk⟩:=hk
   rcases hk with hk | ⟨-,st1,hw,hk⟩
   ·obtain⟨nm,F,hx⟩:=h
    exact cs14 hd hK hop rfl h1 h2 hx hev hbo hk
   ·obtain⟨nm1,F1,hx1⟩:=hw _ _ _ _ h
    simp only at hk
    split at hk
    ·rename_i f' caps' hev'
     have hlt:=bl11 hk.1
     exact cs14 hd hK hop rfl h1 h2 hx1 hev' (by rw[fp_ hlt];exact hk.1) (by rw[fp_ hlt,fp11 hlt];exact hk.2)
    ·exact hk.elim
  ·exact hk.elim
 all_goals exact absurd rfl hB
theorem RelX.know {nm:N_} {F:Nat→Prop} (h:RelX G C nm F st a w) {t:Nat} {b:Bool} (ht:a.tmps.getD t undef= .bool b):RelX G C nm F (st.know t b) a w:=by
 refine⟨h.N,h.df,fun t'=>?_,h.box,h.inj,h.fr,h.own,h.good,h.f0,h.fb,h.keep,h.vn⟩
 simp only[St.get,St.know,eget]
 split
 ·rename_i e;subst e;rw[ht];exact .bool _ _
 ·exact h.env t'
theorem yb_ {ops:Array Oper} {tmps:Array Value} {j t:Nat} {b:Bool} (hj:(ops[j]?).bind (·.dst)=some t) (ht:tmps.getD t undef= .bool b):yielded ops tmps j=some b:=by
 have:tmps[t]? =some (.bool b):=by
  rw[Array.getD_eq_getD_getElem?] at ht
  cases h:tmps[t]? with
  | none=>rw[h] at ht;simp [undef] at ht
  | some v=>rw[h] at ht;simp at ht;rw[ht]
 simp only[yielded,hj,Option.bind_some,this]
theorem yu_ {ops:Array Oper} {tmps:Array Value} {j t:Nat} (hj:(ops[j]?).bind (·.dst)=some t) (ht:tmps.getD t undef=undef):yielded ops tmps j=none:=by
 simp only[yielded,hj,Option.bind_some]
 rw[Array.getD_eq_getD_getElem?] at ht
 cases h:tmps[t]? with
 | none=>rfl
 | some v=>rw[h] at ht;simp [undef] at ht;subst ht;rfl
theorem ss12 (h:Rel G C st a w) {d:Option Nat} {K:St→Prop} (hk:s18 d st K):∃st',K st'∧Rel G C st' (a.put d undef) w:=by
 obtain⟨nm,F,hx⟩:=h
 unfold s18 at hk
 split at hk
 ·rename_i st' hp;exact⟨st',hk,nm,F,hx.put (.undef _) hp⟩
 ·exact hk.elim
theorem os_ (h:Rel G C st a w) {ops:Array Oper} {ao:AO} (hc:c24 P ops o ao=true) {K:St→Prop} (hk:opP P G q ao st K)
  {K':Act→World→Prop} {Q:Exit→Act→World→Prop} (hK:∀st' a' w',K st'→Rel G C st' a' w'→K' a' w'):
  if Region.wanted o (yielded ops a.tmps) then o.wp P a w K' Q else K' (a.put o.dst undef) w:=by
 simp only[c24,Bool.and_eq_true,beq_iff_eq] at hc
 obtain⟨⟨⟨hd,hg⟩,hop⟩,hs⟩:=hc
 have hs':i11 ao.op=true→o.dst=none:=fun e=>by rw[e] at hs;simpa using hs
 unfold c22 at hg
 unfold opP at hk
 split at hg
 ·rename_i e1 e2
  rw[e2] at hk
  simp only[Region.wanted,e1,if_true]
  exact ss11 h hd hop hs' hk hK
 ·rename_i j b t b' e1 e2
  simp only[Bool.and_eq_true,beq_iff_eq] at hg
  obtain⟨hj,rfl⟩:=hg
  rw[e2] at hk
  simp only at hk
  obtain⟨nm,F,hx⟩:=h
  have ht:=hx.env t
  split at hk
  ·rename_i β hβ
   rw[hβ] at ht
   generalize hev:a.tmps.getD t undef=v at ht
   cases ht
   have hy:=yb_ hj hev
   simp only[Region.wanted,e1,hy]
   by_cases hb:β=b
   ·subst hb
    simp only[beq_self_eq_true,if_true]
    exact ss11 ⟨nm,F,hx.know hev⟩ hd hop hs' (hk.1 rfl) hK
   ·have hb':β=(!b):=by clear hk hβ;revert hb;cases β <;> cases b <;> decide
    subst hb'
    have hne:(some (!b)==some b)=false:=by cases b <;> rfl
    simp only[hne,Bool.false_eq_true,if_false]
    obtain⟨st',h1,h2⟩:=ss12 (d:=ao.d) ⟨nm,F,hx.know hev⟩ (hk.2 rfl)
    rw[hd]
    exact hK _ _ _ h1 h2
  ·rename_i hβ
   rw[hβ] at ht
   generalize hev:a.tmps.getD t undef=v at ht
   cases ht
   have hy:=yu_ hj hev
   simp only[Region.wanted,e1,hy]
   obtain⟨st',h1,h2⟩:=ss12 ⟨nm,F,hx⟩ hk
   rw[hd]
   exact hK _ _ _ h1 h2
  ·exact hk.elim
 ·cases hg
theorem os10 {ops:Array Oper} {Q:Exit→Act→World→Prop}:∀(l:List Oper) (aos:List AO) (st:St) (a:Act) (w:World) (K:St→Prop),c12 P ops l aos=true→opsP P G q aos st K→Rel G C st a w→
  (∀st' a' w',K st'→Rel G C st' a' w'→Q .normal a' w')→wpList P ops Q l a w
 | [],[],st,a,w,K,_,hk,h,hK=>hK st a w hk h
 | o::l,ao::aos,st,a,w,K,hc,hk,h,hK=>by
  simp only[c12,Bool.and_eq_true] at hc
  refine wpList_step fun K' hK'=>?_
  exact os_ h hc.1 hk fun st' a' w' h1 h2=>hK' _ _ (os10 l aos st' a' w' K hc.2 h1 h2 hK)
 | [],_ ::_,_,_,_,_,hc,_,_,_ =>by simp [c12] at hc
 | _ ::_,[],_,_,_,_,hc,_,_,_ =>by simp [c12] at hc
end
end Go.Proofs.YtkejmcgngblfnaaGreatDoor.Ab
