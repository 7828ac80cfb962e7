/- Lemmas. -/
import Derived.Test.YtkgcnoghjibiaaaGreatDoorYD9
set_option linter.unusedSimpArgs false
set_option maxHeartbeats 4000000
namespace Go.Proofs.YtkgcnoghjibiaaaGreatDoor.Ab
open Go
variable {G:Nat->Option AV}
def subH (heap:List (Nat×Box)):List (Nat×Box)->Prop
 | []=>True
 | (i,b)::r=>hget heap i=some b∧subH heap r
theorem subH.at {heap:List (Nat×Box)}:∀{H:List (Nat×Box)},subH heap H->∀i b,hget H i=some b->hget heap i=some b
 | [],_,i,b,h=>by simp [hget] at h
 | (j,c)::r,hs,i,b,h=>by
  simp only[hget] at h;split at h
  .rename_i e;subst e;cases h;exact hs.1
  .exact hs.2.at i b h
def k16 (q:QeaT) (at_ root:Int):Int×Int:=
 if (bAt (beL q q.nodes.length) root).kind=0∨¬(bAt (beL q q.nodes.length) root).from_=at_ then (0,0) else ((bAt (beL q q.nodes.length) root).kind,(bAt (beL q q.nodes.length) root).depth)
theorem rKp_ (q:QeaT) (hl:q.nodes.length<=1000000) (at_ root:Int):PQ G 65 [qeaV q,iv at_,iv root] (.tup [iv (k16 q at_ root).1,iv (k16 q at_ root).2]):=by
 have hb:=rbp_ (G:=G) q hl (root.toNat+1) root (by omega);unfold k16;generalize bAt (beL q q.nodes.length) root=b at*;refine ppK_ λΦ h=>?_;unfold cpK_;simp only[ex3,qeaV,d_,q_,f_,s_,s10,n_,t_] at hb
 repeat' (first|simp -implicitDefEqProofs only[go_sem,qeaV,d_,q_,f_,s_,s10,n_,t_]|apply ai__<;>intro hb|refine ac_ hb rfl rfl ?_|fail)
 all_goals (refine h _ ⟨_,_,rfl,rfl,fe_ ?_⟩;clear h;simp_all)
def w_ (l:List ExT) (at_ root kind:Int):Bool:=
 match at? l root with
 | none=>false
 | some e=>decide (at_<=root)&&(e.kind==kind&&(!(kind==0)&&(e.from_==at_&&decide (e.depth<=64))))
def a12 (n:Int):Nat×Box:=(1004,⟨false,3,1,[iv n]⟩)
def e15 (l:List ExT):Nat×Box:=(1003,⟨false,263,1,[.seq 3 (l.map exV)]⟩)
theorem ct1h_ (l:List ExT) (hl:l.length<=1000000) (at_ root kind:Int) (ha:0<=at_):
  HQ G 157 [iv root,iv kind,.ref 1004 0 0,.ref 1003 0 0] [a12 at_,e15 l] (.bool (w_ l at_ root kind)) [a12 (if w_ l at_ root kind=true then root+1 else at_),e15 l]:=by
 refine H_.of_runs Tryz.func157 kct1z rfl (by rfl) (R10.of λΦ h=>?_);unfold cct1z;have fin0:w_ l at_ root kind=false->Φ ⟨48,[(6,.bool false)],[a12 at_,e15 l]⟩:=λhw=>h _ ⟨_,_,Weak.refl _,rfl,fitB hw.symm,λi b hb=>by rw[hw] at hb;exact hb⟩;have fin1:w_ l at_ root kind=true->Φ ⟨48,[(6,.bool true)],[a12 (root+1),e15 l]⟩:=λhw=>h _ ⟨_,_,Weak.refl _,rfl,fitB hw.symm,λi b hb=>by rw[hw] at hb;exact hb⟩;clear h;cases hr:at? l root with
 | none=>
  have hw:w_ l at_ root kind=false:=by simp [w_,hr]
  have hn:=at?_none hr
  repeat' (first|simp -implicitDefEqProofs only[go_sem,a12,e15,zQ]|apply ai__<;>intro hb)
  all_goals first | exact fin0 hw | (exfalso;simp at*;omega)
 | some e=>
  obtain⟨i,rfl,hi⟩:=at?_some hr;have hlt:=(zX.1 hi).1;have hww:=ws_ hlt;unfold w_ at fin0 fin1;rw[hr] at fin0 fin1
  repeat' (first|simp -implicitDefEqProofs only[go_sem,a12,e15,zQ,am_ hi,exV,hww]|apply ai__<;>intro hb)
  all_goals first | refine fin0 ?_ | refine fin1 ?_
  all_goals
   clear fin0 fin1 hww
   try rw[yY]
   simp at*
   try omega
def s13 (s:SymT) (v:Int):Bool:=s.args.any λx=>(⟨2,v,v0⟩:ArgT)==x
theorem cSp_ (s:SymT) (hs:s.args.length<9223372036854775807) (v:Int):PQ G 165 [symV s,iv v] (.bool (s13 s v)):=by
 refine pcS_ λΦ h=>?_;unfold ccS_;have hc:=sCaAaAp_ (G:=G) s.args ⟨2,v,v0⟩ hs;simp only[argV] at hc
 repeat' (first|simp -implicitDefEqProofs only[go_sem,symV,a10]|apply ai__<;>intro hb|refine ac_ hc rfl rfl ?_|fail)
 all_goals (refine h _ ⟨_,_,rfl,rfl,fe_ ?_⟩;clear h;first | rfl | simp_all [s13])
theorem ct22p_ (q:QeaT) (t:TransT) (s:SymT) (hs:at? q.symbols t.symbol=some s) (hl:s.args.length<9223372036854775807) (i:Int) (x:NodeT):PQ G 164 [iv i,n11 x,.eptr (qeaV q) 0,.eptr (t11 t) 0] (.bool (!(x.op==2)||s13 s x.a)):=by
 obtain⟨j,hj,hsj⟩:=at?_some hs;obtain⟨t1,t2,t3,t4,t5⟩:=t;dsimp only at hj;subst hj;refine pct22z λΦ h=>?_;unfold cct22z;have hc:=cSp_ (G:=G) s hl x.a;simp only[symV,a10] at hc
 repeat' (first|simp -implicitDefEqProofs only[go_sem,n11,t11,s18,symV,a10,qeaV,d_,q_,f_,s_,s10,n_,t_,am_ hsj]|apply ai__<;>intro hb|refine ac_ hc rfl rfl ?_|fail)
 all_goals (refine h _ ⟨_,_,rfl,rfl,fe_ ?_⟩;clear h;first | rfl | simp_all)
theorem ct211p_ (x s:SetT):PQ G 161 [setV x,.eptr (setV s) 0] (.bool (x.free==s.free)):=by
 refine pct211z λΦ h=>?_;unfold cct211z
 repeat' (first|simp -implicitDefEqProofs only[go_sem,setV]|apply ai__<;>intro hb)
 all_goals (refine h _ ⟨_,_,rfl,rfl,fe_ ?_⟩;clear h;first | rfl | simp_all)
theorem os15 (s:SetT):OkC [.eptr (setV s) 0]:=⟨λ_ =>rfl,λ_ _ =>rfl,λ_ =>rfl,λ_ _ =>rfl,λ_ =>rfl,λ_ =>rfl⟩
def qBox (q:QeaT):Nat×Box:=(1001,⟨false,30,9,[qeaV q]⟩)
def w12:Nat×Box:=(1005,⟨false,267,1,[.fn 157 [.ref 1004 0 0,.ref 1003 0 0]]⟩)
def tBox (t:TransT):Nat×Box:=(1006,⟨false,95,5,[t11 t]⟩)
def s12 (q:QeaT) (l:List ExT) (sets:List SetT) (at_:Int) (i:Nat) (s:SetT):Bool×Int:=
 match at? q.frees s.free with
 | none=>(false,at_)
 | some f=>if ((sets.take i).any λx=>x.free==s.free)=true then (false,at_) else if w_ l at_ s.expr f.init.kind=true then (true,s.expr+1) else (false,at_)
theorem at11 {α:Type} {e:α->AV} {sz:Nat} {l:List α} {i:Nat} (hs:0<sz) (h:i<=l.length):aslc sz (.seq sz (l.map e)) none (some (.int .i64 (i:Int)))=some (.seq sz ((l.take i).map e)):=by simp [aslc,hs,h,List.map_take]
theorem ct21h_ (q:QeaT) (l:List ExT) (hl:l.length<=1000000) (t:TransT) (ht:t.sets.length<9223372036854775807) (at_:Int) (ha:0<=at_) (i:Nat) (s:SetT) (hs:t.sets[i]?=some s):
  HQ G 159 [iv i,setV s,.ref 1006 0 0,.ref 1001 0 0,.ref 1005 0 0] [a12 at_,e15 l,w12,qBox q,tBox t]
   (.bool (s12 q l t.sets at_ i s).1) [a12 (s12 q l t.sets at_ i s).2,e15 l,w12,qBox q,tBox t]:=by
 refine H_.of_runs Tryz.func159 kct21z rfl (by rfl) (R10.of λΦ h=>?_);unfold cct21z;have hit:=(zX.1 hs).1;have hle:(i:Int)<=(t.sets.length:Int):=by omega
 have hc:=sC11 (G:=G) 161 [.eptr (setV s) 0] (by kernel_rfl) (os15 s) (λx=>x.free==s.free) (t.sets.take i) (λx _ =>ct211p_ x s) (by simp;omega);obtain⟨t1,t2,t3,t4,sets⟩:=t;dsimp only at*;obtain⟨fr,ex⟩:=s;dsimp only at*;have fin:∀b A heap,s12 q l sets at_ i ⟨fr,ex⟩=(b,A)->subH heap [a12 A,e15 l,w12,qBox q,tBox ⟨t1,t2,t3,t4,sets⟩]->Φ ⟨44,[(7,.bool b)],heap⟩:=λb A heap hw e=>h _ ⟨_,_,Weak.refl _,rfl,fitB (by rw[hw]),by rw[hw];exact e.at⟩;clear h;simp only[setV] at hc;have hsl:=at11 (e:=setV) (sz:=2) (by omega) (show i<=sets.length by omega);cases hf:at? q.frees fr with
 | none=>
  have hn:=at?_none hf;have hr:s12 q l sets at_ i ⟨fr,ex⟩=(false,at_):=by simp [s12,hf]
  repeat' (first|simp -implicitDefEqProofs only[go_sem,a12,e15,w12,qBox,tBox,t11,s18,setV,qeaV,d_,q_,f_,s_,s10,n_,t_,zQ,hsl]|apply ai__<;>intro hb|refine ac_ hc rfl rfl ?_|fail)
  all_goals first | exact fin _ _ _ hr ⟨rfl,rfl,rfl,rfl,rfl,trivial⟩ | (exfalso;simp at*;omega)
 | some e=>
  obtain⟨j,rfl,hj⟩:=at?_some hf;have hjt:=(zX.1 hj).1;have hr:s12 q l sets at_ i ⟨j,ex⟩=if ((sets.take i).any λx=>x.free==j)=true then (false,at_) else if w_ l at_ ex e.init.kind=true then (true,ex+1) else (false,at_):=by simp [s12,hf]
  have hwh:=ct1h_ (G:=G) l hl at_ ex e.init.kind ha;simp only[a12,e15] at hwh
  repeat' (first|simp -implicitDefEqProofs only[go_sem,a12,e15,w12,qBox,tBox,t11,s18,setV,qeaV,d_,q_,f_,s_,s10,n_,t_,zQ,hsl,am_ hj,f10]|apply ai__<;>intro hb|refine ac_ hc rfl rfl ?_|(refine⟨by kernel_rfl,ach_ [(1004,1004),(1003,1003)] hwh rfl ⟨⟨_,_,rfl,rfl,rfl⟩,⟨_,_,rfl,rfl,rfl⟩,trivial⟩ rfl rfl rfl ?_⟩)|fail)
  all_goals first | (exfalso;simp at*;omega) | (refine fin _ _ _ ?_ ⟨rfl,rfl,rfl,rfl,rfl,trivial⟩)
  all_goals
   rw[hr];clear hr hwh fin hc;generalize w_ l at_ ex e.init.kind=w at*;generalize ((sets.take i).any λx=>x.free==(j:Int))=a at*;cases w <;> cases a <;> simp_all
def allS {α σ:Type} (step:σ->Nat->α->Bool×σ):List α->Nat->σ->Bool×σ
 | [],_,s=>(true,s)
 | x::r,i,s=>if (step s i x).1=true then allS step r (i+1) (step s i x).2 else (false,(step s i x).2)
theorem as15 {α σ:Type} {step:σ->Nat->α->Bool×σ} {l:List α} {i:Nat} {x:α} (hx:l[i]?=some x) (s:σ):allS step (l.drop i) i s=if (step s i x).1=true then allS step (l.drop (i+1)) (i+1) (step s i x).2 else (false,(step s i x).2):=by obtain⟨hlt,rfl⟩:=zX.1 hx;rw[xU hlt,allS]
theorem ae_ {α σ:Type} {step:σ->Nat->α->Bool×σ} {l:List α} {i:Nat} (h:l.length<=i) (s:σ):allS step (l.drop i) i s=(true,s):=by rw[yO h,allS]
theorem wp_ {l:List ExT} {a r k:Int} (ha:0<=a) (h:w_ l a r k=true):0<=r+1:=by
 unfold w_ at h;split at h
 .cases h
 .simp at h;omega
theorem sp_ {q:QeaT} {l:List ExT} {sets:List SetT} {a:Int} {i:Nat} {s:SetT} (ha:0<=a):0<=(s12 q l sets a i s).2:=by
 unfold s12
 repeat' split
 all_goals first | exact ha | exact wp_ ha ‹_›
theorem caaSh_ (q:QeaT) (l:List ExT) (hl:l.length<=1000000) (t:TransT) (ht:t.sets.length<9223372036854775807) (at_:Int) (ha:0<=at_):
  HQ G 162 [s18 t.sets,.fn 159 [.ref 1006 0 0,.ref 1001 0 0,.ref 1005 0 0]] [a12 at_,e15 l,w12,qBox q,tBox t]
   (.bool (allS (s12 q l t.sets) t.sets 0 at_).1) [a12 (allS (s12 q l t.sets) t.sets 0 at_).2,e15 l,w12,qBox q,tBox t]:=by
 refine H_.of_runs Tryz.func162 kcaaS_ rfl (by rfl) (R10.of λΦ h=>?_);unfold ccaaS_;have fin:∀b A heap,allS (s12 q l t.sets) t.sets 0 at_=(b,A)->subH heap [a12 A,e15 l,w12,qBox q,tBox t]->Φ ⟨20,[(4,.bool b)],heap⟩:=λb A heap hw e=>h _ ⟨_,_,Weak.refl _,rfl,fitB (by rw[hw]),by rw[hw];exact e.at⟩;clear h;have hbx:tBox t=(1006,⟨false,95,5,[.agg [iv t.from_,iv t.symbol,iv t.to_,iv t.guard,.seq 2 (t.sets.map setV)]]⟩):=rfl;simp -implicitDefEqProofs only[go_sem,s18,zQ,a12,e15,w12,qBox,hbx,qeaV,d_,q_,f_,s_,s10,n_,t_];refine al_ (λn st=>∃(i:Nat) (a:Int),i+n=t.sets.length∧st=⟨20,[(1,.fn 159 [.ref 1006 0 0,.ref 1001 0 0,.ref 1005 0 0]),(7,s18 t.sets),(8,iv t.sets.length),(9,iv i)],[a12 a,e15 l,w12,qBox q,tBox t]⟩∧0<=a∧allS (s12 q l t.sets) t.sets 0 at_=allS (s12 q l t.sets) (t.sets.drop i) i a) t.sets.length ⟨0,at_,by simp,rfl,ha,rfl⟩ ?_;rintro I hI n st ⟨i,a,hi,rfl,hpos,he⟩;simp -implicitDefEqProofs only[go_sem,s18,zQ,a12,e15,w12,qBox,hbx,qeaV,d_,q_,f_,s_,s10,n_,t_];refine⟨λhlt=>?_,λhge=>?_⟩
 .have hlt':i<t.sets.length:=by omega
  obtain⟨x,hx,hm⟩:=as10 hlt';have hw:=ws_ hlt';have hc:=ct21h_ (G:=G) q l hl t ht a hpos i x hx;have hsp:=sp_ (q:=q) (l:=l) (sets:=t.sets) (i:=i) (s:=x) hpos;rw[as15 hx] at he;simp only[a12,e15,w12,qBox,hbx,setV,qeaV,d_,q_,f_,s_,s10,n_,t_] at hc;generalize hb:s12 q l t.sets a i x=b at*;obtain⟨b,A⟩:=b;dsimp only at*;have fin1:b=true->a13 I n ⟨20,[(1,.fn 159 [.ref 1006 0 0,.ref 1001 0 0,.ref 1005 0 0]),(7,s18 t.sets),(8,iv t.sets.length),(9,iv (i+1:Nat))],[a12 A,e15 l,w12,qBox q,tBox t]⟩:=λhb=>by rw[zY hb] at he;exact aa_ (n - 1) (by omega) (hI _ _ ⟨i+1,A,by omega,rfl,hsp,he⟩)
  have fin0:∀heap,b=false->subH heap [a12 A,e15 l,w12,qBox q,tBox t]->Φ ⟨20,[(4,.bool false)],heap⟩:=λheap hb hs=>by rw[zK (by simp [hb])] at he;exact fin _ _ _ he hs
  repeat' (first|simp -implicitDefEqProofs only[go_sem,am_ hx,setV,hw]|apply ai__<;>intro hb|(refine⟨by kernel_rfl,ac10 [(1004,1004),(1003,1003),(1005,1005),(1001,1001),(1006,1006)] hc rfl ⟨⟨_,_,rfl,rfl,rfl⟩,⟨_,_,rfl,rfl,rfl⟩,⟨_,_,rfl,rfl,rfl⟩,⟨_,_,rfl,rfl,rfl⟩,⟨_,_,rfl,rfl,rfl⟩,trivial⟩ rfl rfl rfl ?_⟩)|fail)
  all_goals first | exact fin0 _ (by simpa using hb) ⟨rfl,rfl,rfl,rfl,rfl,trivial⟩ | exact fin1 (by simpa using hb)
 .rw[ae_ (by omega)] at he;exact fin _ _ _ he ⟨rfl,rfl,rfl,rfl,rfl,trivial⟩
theorem en10:Enc n11 7:=⟨by decide,λ_ =>⟨_,rfl,rfl,rfl,λ_ =>rfl,λ_ _ =>rfl,λ_ =>rfl,rfl⟩⟩
abbrev caaNp_:=g15 (G:=G) (ty:=112) (zs:=[.int .i64 0,.int .i64 0,.int .i64 0,.int .i64 0,.int .i64 0,.str [],.bool false]) en10 rfl Tryz.func163 (by kernel_rfl)
theorem am12 {α:Type} {e:α->AV} {sz:Nat} {l:List α} {a b:Int} (hs:0<sz) (h0:0<=a) (h1:a<=b) (h2:b<=l.length):aslc sz (.seq sz (l.map e)) (some (.int .i64 a)) (some (.int .i64 b))=some (.seq sz (((l.drop a.toNat).take (b.toNat - a.toNat)).map e)):=by simp [aslc,hs,h0,h1,h2,List.map_take,List.map_drop]
def mid {α:Type} (l:List α) (a b:Int):List α:=(l.drop a.toNat).take (b.toNat - a.toNat)
def inR (n:Int) (k:Nat):Bool:=decide (0<=n)&&decide (n<k)
def o12 (q:QeaT) (l:List ExT) (st:SymT->Int->Bool) (t:TransT) (from_ at_:Int):Bool×Int:=
 let r:=allS (s12 q l t.sets) t.sets 0 at_
 (r.1&&(match at? q.symbols t.symbol with | some s=>(mid q.nodes from_ r.2).all λx=>!(x.op==2)||st s x.a | none=>false),r.2)
def o_ (q:QeaT) (l:List ExT) (st:SymT->Int->Bool) (at_:Int) (t:TransT):Bool×Int:=
 if (inR t.from_ q.states.length&&(inR t.to_ q.states.length&&inR t.symbol q.symbols.length))=false then (false,at_)
 else if t.guard= -1 then o12 q l st t at_ at_
 else if w_ l at_ t.guard 3=true then o12 q l st t at_ (t.guard+1) else (false,at_)
theorem wl_ {l:List ExT} {a r k:Int} (h:w_ l a r k=true):a<=r+1∧r+1<=l.length:=by
 unfold w_ at h;split at h
 .cases h
 .rename_i e he;obtain⟨j,rfl,hj⟩:=at?_some he;have:=(zX.1 hj).1;simp at h;omega
theorem sl13 {q:QeaT} {l:List ExT} {sets:List SetT} {a:Int} {i:Nat} {s:SetT} (ha:a<=l.length):a<=(s12 q l sets a i s).2∧(s12 q l sets a i s).2<=l.length:=by
 unfold s12
 repeat' split
 all_goals first | exact⟨xI _,ha⟩ | exact wl_ ‹_›
theorem al14 {q:QeaT} {l:List ExT} {sets:List SetT}:∀{r:List SetT} {i:Nat} {a:Int},a<=l.length->a<=(allS (s12 q l sets) r i a).2∧(allS (s12 q l sets) r i a).2<=l.length
 | [],_,a,h=>⟨xI _,h⟩
 | x::r,i,a,h=>by
  have h1:=sl13 (q:=q) (sets:=sets) (i:=i) (s:=x) h;rw[allS];split
  .have:=al14 (q:=q) (sets:=sets) (r:=r) (i:=i+1) h1.2;omega
  .exact h1
theorem ol10 {q:QeaT} {l:List ExT} {st:SymT->Int->Bool} {a:Int} {t:TransT} (ha:0<=a) (hl:a<=l.length):0<=(o_ q l st a t).2∧(o_ q l st a t).2<=l.length:=by
 unfold o_ o12;split
 .exact⟨ha,hl⟩
 .split
  .have:=al14 (q:=q) (sets:=t.sets) (r:=t.sets) (i:=0) hl;dsimp only;omega
  .split
   .rename_i hw;have h1:=wl_ hw;have:=al14 (q:=q) (sets:=t.sets) (r:=t.sets) (i:=0) h1.2;dsimp only;omega
   .exact⟨ha,hl⟩
theorem oq10 (q:QeaT) (t:TransT):OkC [.eptr (qeaV q) 0,.eptr (t11 t) 0]:=⟨λ_ =>rfl,λ_ _ =>rfl,λ_ =>rfl,λ_ _ =>rfl,λ_ =>rfl,λ_ =>rfl⟩
theorem ct2h_ (q:QeaT) (l:List ExT) (hl:l.length<=1000000) (hn:l.length=q.nodes.length) (hs:∀s∈q.symbols,s.args.length<9223372036854775807) (t:TransT) (ht:t.sets.length<9223372036854775807) (at_:Int) (ha:0<=at_) (hal:at_<=l.length) (i:Int):
  HQ G 158 [iv i,t11 t,.ref 1004 0 0,.ref 1001 0 0,.ref 1005 0 0] [a12 at_,e15 l,w12,qBox q]
   (.bool (o_ q l s13 at_ t).1) [a12 (o_ q l s13 at_ t).2,e15 l,w12,qBox q]:=by
 refine H_.of_runs Tryz.func158 kct2z rfl (by rfl) (R10.of λΦ h=>?_);unfold cct2z;have fin:∀b A heap,o_ q l s13 at_ t=(b,A)->subH heap [a12 A,e15 l,w12,qBox q]->Φ ⟨74,[(7,.bool b)],heap⟩:=λb A heap hw e=>h _ ⟨_,_,Weak.refl _,rfl,fitB (by rw[hw]),by rw[hw];exact e.at⟩;clear h;have hset:=λ(a:Int) (h:0<=a)=>caaSh_ (G:=G) q l hl t ht a h;have hwh:=ct1h_ (G:=G) l hl at_ t.guard 3 ha;simp only[a12,e15] at hwh;by_cases hc:(inR t.from_ q.states.length&&(inR t.to_ q.states.length&&inR t.symbol q.symbols.length))=false
 .have hr:o_ q l s13 at_ t=(false,at_):=by rw[o_,zY hc]
  have fin':Φ ⟨74,[(7,.bool false)],_⟩:=fin _ _ ((6,⟨false,95,5,[t11 t]⟩)::[a12 at_,e15 l,w12,qBox q]) hr ⟨rfl,rfl,rfl,rfl,trivial⟩;obtain⟨t1,t2,t3,t4,sets⟩:=t;dsimp only at*;simp only[inR,wK,zW,yQ,zJ] at hc
  repeat' (first|simp -implicitDefEqProofs only[go_sem,a12,e15,w12,qBox,t11,s18,qeaV,d_,q_,f_,s_,s10,n_,t_,zQ]|apply ai__<;>intro hb|(refine⟨by kernel_rfl,ac10 [(1004,1004),(1003,1003)] hwh rfl ⟨⟨_,_,rfl,rfl,rfl⟩,⟨_,_,rfl,rfl,rfl⟩,trivial⟩ rfl rfl rfl ?_⟩)|fail)
  all_goals first | exact fin' | (exfalso;simp at*;omega)
 .have hin:inR t.from_ q.states.length=true∧inR t.to_ q.states.length=true∧inR t.symbol q.symbols.length=true:=by
   rw[vB] at hc;simpa only[zJ] using hc
  obtain⟨hi1,hi2,hi3⟩:=hin;obtain⟨s,hsy⟩:∃s,at? q.symbols t.symbol=some s:=by
   cases h:at? q.symbols t.symbol with
   | some s=>exact⟨s,rfl⟩
   | none=>
    exfalso;have:=at?_none h;simp [inR] at hi3;omega
  have hsl:s.args.length<9223372036854775807:=by obtain⟨j,_,hj⟩:=at?_some hsy;exact hs s (zG hj)
  simp only[inR,zJ,zW] at hi1 hi2 hi3
  have key:∀a1:Int,0<=a1->at_<=a1->a1<=l.length->o_ q l s13 at_ t=o12 q l s13 t at_ a1->∀b A,allS (s12 q l t.sets) t.sets 0 a1=(b,A)->
    at_<=A∧A<=q.nodes.length∧(b=false->o_ q l s13 at_ t=(false,A))∧(b=true->o_ q l s13 at_ t=(allI (λ_ (x:NodeT)=>!(x.op==2)||s13 s x.a) (mid q.nodes at_ A),A)):=by
   intro a1 h1 h2 h3 he b A hb;have:=al14 (q:=q) (sets:=t.sets) (r:=t.sets) (i:=0) h3;rw[hb] at this;rw[he,o12,hb,hsy,ac20];dsimp only at*;refine⟨by omega,by omega,?_,?_⟩
   .rintro rfl;rfl
   .rintro rfl;rfl
  have hall:=λA:Int=>caaNp_ (G:=G) 164 [.eptr (qeaV q) 0,.eptr (t11 t) 0] (by kernel_rfl) (oq10 q t) (λ_ x=>!(x.op==2)||s13 s x.a) (mid q.nodes at_ A) (λi x _ =>ct22p_ q t s hsy hsl i x) (by simp [mid];omega);by_cases hg:t.guard= -1
  .have he:o_ q l s13 at_ t=o12 q l s13 t at_ at_:=by rw[o_,zK hc,zY hg]
   have key:=key at_ ha (xI _) hal he;have hset:=hset at_ ha;generalize allS (s12 q l t.sets) t.sets 0 at_=r at*;obtain⟨b,A⟩:=r;obtain⟨k1,k2,k3,k4⟩:=key b A rfl;have hall:=hall A;have hmid:=am12 (e:=n11) (sz:=7) (l:=q.nodes) (a:=at_) (b:=A) (by omega) ha k1 k2;obtain⟨t1,t2,t3,t4,sets⟩:=t;dsimp only at*;subst hg;simp only[a12,e15,w12,qBox,tBox,t11,s18,qeaV,d_,q_,f_,s_,s10,n_,t_] at hset hall
   repeat' (first|simp -implicitDefEqProofs only[go_sem,a12,e15,w12,qBox,t11,s18,qeaV,d_,q_,f_,s_,s10,n_,t_,zQ,hmid]|apply ai__<;>intro hb|(refine ac10 [(1004,1004),(1003,1003),(1005,1005),(1001,1001),(1006,6)] hset rfl ⟨⟨_,_,rfl,rfl,rfl⟩,⟨_,_,rfl,rfl,rfl⟩,⟨_,_,rfl,rfl,rfl⟩,⟨_,_,rfl,rfl,rfl⟩,⟨_,_,rfl,rfl,rfl⟩,trivial⟩ rfl rfl rfl ?_)|refine ac_ hall rfl rfl ?_|fail)
   all_goals first | exact fin _ _ _ (k4 (by simpa using hb)) ⟨rfl,rfl,rfl,rfl,trivial⟩ | exact fin _ _ _ (k3 (by simpa using hb)) ⟨rfl,rfl,rfl,rfl,trivial⟩ | (exfalso;simp at*;omega)
  .cases hw:w_ l at_ t.guard 3 with
   | false=>
    have he:o_ q l s13 at_ t=(false,at_):=by rw[o_,zK hc,zK hg,hw];rfl
    have fin':∀heap,subH heap [a12 at_,e15 l,w12,qBox q]->Φ ⟨74,[(7,.bool false)],heap⟩:=λheap=>fin _ _ _ he;rw[hw] at hwh;clear hset hall key fin;obtain⟨t1,t2,t3,t4,sets⟩:=t;dsimp only at*
    repeat' (first|simp -implicitDefEqProofs only[go_sem,a12,e15,w12,qBox,t11,s18,qeaV,d_,q_,f_,s_,s10,n_,t_,zQ]|apply ai__<;>intro hb|(refine⟨by kernel_rfl,ac10 [(1004,1004),(1003,1003)] hwh rfl ⟨⟨_,_,rfl,rfl,rfl⟩,⟨_,_,rfl,rfl,rfl⟩,trivial⟩ rfl rfl rfl ?_⟩)|fail)
    all_goals first | exact fin' _ ⟨rfl,rfl,rfl,rfl,trivial⟩ | (exfalso;simp at*;omega)
   | true=>
    have hwl:=wl_ hw;have hwp:=wp_ ha hw;have he:o_ q l s13 at_ t=o12 q l s13 t at_ (t.guard+1):=by rw[o_,zK hc,zK hg,zY hw]
    have key:=key (t.guard+1) hwp hwl.1 hwl.2 he;have hset:=hset (t.guard+1) hwp;rw[hw] at hwh;generalize allS (s12 q l t.sets) t.sets 0 (t.guard+1)=r at*;obtain⟨b,A⟩:=r;obtain⟨k1,k2,k3,k4⟩:=key b A rfl;have hall:=hall A;have hmid:=am12 (e:=n11) (sz:=7) (l:=q.nodes) (a:=at_) (b:=A) (by omega) ha k1 k2;obtain⟨t1,t2,t3,t4,sets⟩:=t;dsimp only at*;simp only[a12,e15,w12,qBox,tBox,t11,s18,qeaV,d_,q_,f_,s_,s10,n_,t_] at hset hall
    repeat' (first|simp -implicitDefEqProofs only[go_sem,a12,e15,w12,qBox,t11,s18,qeaV,d_,q_,f_,s_,s10,n_,t_,zQ,hmid]|apply ai__<;>intro hb|(refine⟨by kernel_rfl,ac10 [(1004,1004),(1003,1003)] hwh rfl ⟨⟨_,_,rfl,rfl,rfl⟩,⟨_,_,rfl,rfl,rfl⟩,trivial⟩ rfl rfl rfl ?_⟩)|(refine ac10 [(1004,1004),(1003,1003),(1005,1005),(1001,1001),(1006,6)] hset rfl ⟨⟨_,_,rfl,rfl,rfl⟩,⟨_,_,rfl,rfl,rfl⟩,⟨_,_,rfl,rfl,rfl⟩,⟨_,_,rfl,rfl,rfl⟩,⟨_,_,rfl,rfl,rfl⟩,trivial⟩ rfl rfl rfl ?_)|refine ac_ hall rfl rfl ?_|fail)
    all_goals first | exact fin _ _ _ (k4 (by simpa using hb)) ⟨rfl,rfl,rfl,rfl,trivial⟩ | exact fin _ _ _ (k3 (by simpa using hb)) ⟨rfl,rfl,rfl,rfl,trivial⟩ | (exfalso;simp at*;omega)
structure QeaT.Few (q:QeaT):Prop where
 decls:q.decls.length<=1000000
 types:∀d∈q.decls,d.types.length<=1000000
 quants:q.quants.length<=1000000
 frees:q.frees.length<=1000000
 states:q.states.length<=1000000
 symbols:q.symbols.length<=1000000
 args:∀s∈q.symbols,s.args.length<=1000000
 nodes:q.nodes.length<=1000000
 trans:q.trans.length<=1000000
 sets:∀t∈q.trans,t.sets.length<=1000000
theorem caaTh_ (q:QeaT) (l:List ExT) (hq:q.Few) (hn:l.length=q.nodes.length):
  HQ G 166 [t_ q.trans,.fn 158 [.ref 1004 0 0,.ref 1001 0 0,.ref 1005 0 0]] [a12 0,e15 l,w12,qBox q]
   (.bool (allS (λa _ t=>o_ q l s13 a t) q.trans 0 0).1) [a12 (allS (λa _ t=>o_ q l s13 a t) q.trans 0 0).2,e15 l,w12,qBox q]:=by
 have htl:=hq.trans;refine H_.of_runs Tryz.func166 kcaaT_ rfl (by rfl) (R10.of λΦ h=>?_);unfold ccaaT_;have fin:∀b A heap,allS (λa _ t=>o_ q l s13 a t) q.trans 0 0=(b,A)->subH heap [a12 A,e15 l,w12,qBox q]->Φ ⟨20,[(4,.bool b)],heap⟩:=λb A heap hw e=>h _ ⟨_,_,Weak.refl _,rfl,fitB (by rw[hw]),by rw[hw];exact e.at⟩;clear h;simp -implicitDefEqProofs only[go_sem,zQ,a12,e15,w12,qBox,qeaV,d_,q_,f_,s_,s10,n_,t_];refine al_ (λn st=>∃(i:Nat) (a:Int),i+n=q.trans.length∧st=⟨20,[(1,.fn 158 [.ref 1004 0 0,.ref 1001 0 0,.ref 1005 0 0]),(7,t_ q.trans),(8,iv q.trans.length),(9,iv i)],[a12 a,e15 l,w12,qBox q]⟩∧0<=a∧a<=l.length∧allS (λa _ t=>o_ q l s13 a t) q.trans 0 0=allS (λa _ t=>o_ q l s13 a t) (q.trans.drop i) i a) q.trans.length ⟨0,0,by simp,rfl,by omega,by omega,rfl⟩ ?_;rintro I hI n st ⟨i,a,hi,rfl,hpos,hle,he⟩;simp -implicitDefEqProofs only[go_sem,zQ,a12,e15,w12,qBox,qeaV,d_,q_,f_,s_,s10,n_,t_];refine⟨λhlt=>?_,λhge=>?_⟩
 .have hlt':i<q.trans.length:=by omega
  obtain⟨x,hx,hm⟩:=as10 hlt';have hw:=ws_ hlt';have hc:=ct2h_ (G:=G) q l (by have:=hq.nodes;omega) hn (λs hs=>by have:=hq.args s hs;omega) x (by have:=hq.sets x hm;omega) a hpos hle i;have hsp:=ol10 (q:=q) (st:=s13) (t:=x) hpos hle;rw[as15 hx] at he;simp only[a12,e15,w12,qBox,t11,s18,qeaV,d_,q_,f_,s_,s10,n_,t_] at hc
  try dsimp only at he
  generalize hb:o_ q l s13 a x=b at*;obtain⟨b,A⟩:=b;dsimp only at*;have fin1:b=true->a13 I n ⟨20,[(1,.fn 158 [.ref 1004 0 0,.ref 1001 0 0,.ref 1005 0 0]),(7,t_ q.trans),(8,iv q.trans.length),(9,iv (i+1:Nat))],[a12 A,e15 l,w12,qBox q]⟩:=λhb=>by rw[zY hb] at he;exact aa_ (n - 1) (by omega) (hI _ _ ⟨i+1,A,by omega,rfl,hsp.1,hsp.2,he⟩)
  have fin0:∀heap,b=false->subH heap [a12 A,e15 l,w12,qBox q]->Φ ⟨20,[(4,.bool false)],heap⟩:=λheap hb hs=>by rw[zK (by simp [hb])] at he;exact fin _ _ _ he hs
  repeat' (first|simp -implicitDefEqProofs only[go_sem,am_ hx,t11,s18,hw]|apply ai__<;>intro hb|(refine⟨by kernel_rfl,ac10 [(1004,1004),(1003,1003),(1005,1005),(1001,1001)] hc rfl ⟨⟨_,_,rfl,rfl,rfl⟩,⟨_,_,rfl,rfl,rfl⟩,⟨_,_,rfl,rfl,rfl⟩,⟨_,_,rfl,rfl,rfl⟩,trivial⟩ rfl rfl rfl ?_⟩)|fail)
  all_goals first | exact fin0 _ (by simpa using hb) ⟨rfl,rfl,rfl,rfl,trivial⟩ | exact fin1 (by simpa using hb)
 .rw[ae_ (by omega)] at he;exact fin _ _ _ he ⟨rfl,rfl,rfl,rfl,trivial⟩
def t44 (q:QeaT) (l:List ExT) (st:SymT->Int->Bool):Bool:=
 let r:=allS (λa _ t=>o_ q l st a t) q.trans 0 0
 r.1&&r.2==(l.length:Int)
theorem ctp_ (q:QeaT) (hq:q.Few):PQ G 77 [qeaV q] (.bool (t44 q (e11 q) s13)):=by
 have hln:(e11 q).length=q.nodes.length:=el_ q _ (by omega);have hex:=cep_ (G:=G) q hq.nodes;have hall:=caaTh_ (G:=G) q (e11 q) hq hln;unfold t44;generalize allS (λa _ t=>o_ q (e11 q) s13 a t) q.trans 0 0=r at*;obtain⟨b,A⟩:=r;refine pct_ λΦ h=>?_;unfold cct_;dsimp only at*;simp only[a12,e15,w12,qBox,qeaV,d_,q_,f_,s_,s10,n_,t_] at hall hex
 repeat' (first|simp -implicitDefEqProofs only[go_sem,qeaV,d_,q_,f_,s_,s10,n_,t_,zQ]|apply ai__<;>intro hb|refine ac_ hex rfl rfl ?_|(refine ac10 [(1004,4),(1003,3),(1005,5),(1001,1)] hall rfl ⟨⟨_,_,rfl,rfl,rfl⟩,⟨_,_,rfl,rfl,rfl⟩,⟨_,_,rfl,rfl,rfl⟩,⟨_,_,rfl,rfl,rfl⟩,trivial⟩ rfl rfl rfl ?_)|fail)
 all_goals (refine h _ ⟨_,_,rfl,rfl,fitB ?_⟩;clear h;simp_all)
