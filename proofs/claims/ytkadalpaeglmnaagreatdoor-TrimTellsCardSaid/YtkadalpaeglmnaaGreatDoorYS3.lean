/-
  Lemmas. No claim is proved here.
-/
import Derived.Test.YtkadalpaeglmnaaGreatDoorYS2
namespace Go.Proofs.YtkadalpaeglmnaaGreatDoor.Ab
open Go
set_option linter.unusedSimpArgs false
set_option maxHeartbeats 4000000
variable {G:Nat→Option AV}
theorem kl_ (k:Int):(k_ k).length≤6:=by
 unfold k_
 repeat' split
 all_goals decide
theorem rl14 (l:List Int):(r20 l).length≤8*l.length:=by
 induction l with
 | nil=>simp [r20]
 | cons k r ih=>
  have:=kl_ k;simp [r20];omega
theorem jl_ (l:List Int):(j_ l).length≤8*l.length:=by
 cases l with
 | nil=>simp [j_]
 | cons k r=>
  have:=kl_ k;have:=rl14 r;simp [j_];omega
theorem js_ {l:List Int} {i:Nat} {k:Int} (h:l[i]? =some k):j_ (l.take (i+1))=if i=0 then k_ k else j_ (l.take i)++[44,32]++k_ k:=by
 have hi:=(zZ.1 h).1;rw[vV,h,Option.toList_some,js10];by_cases h0:i=0
 ·subst h0;simp
 ·rw[zF h0,zF (by intro e;have:=congrArg List.length e;rw[xY,xL] at this;omega)]
theorem aa14 {a b:Str} (h:a.length+b.length≤9223372036854775807):abin .add (.str a) (.str b)=some (.str (a++b)):=by simp [abin,h]
theorem rTp_ (d:DeclT) (hn:d.name.length≤1000000) (ht:d.types.length≤1000000):PQ G np19 [d11 d] (.str (t43 d)):=by
 obtain⟨nm,l⟩:=d;dsimp only at hn ht;refine pp23 fun Φ h=>?_;unfold cp23;have b1:abin .add (.str nm) (.str [40])=some (.str (nm++[40])):=aa14 (by simp;omega);simp -implicitDefEqProofs only[go_sem,d11,i10,zX,b1];refine al_ (fun n st=>∃(i:Nat) (o:Str),i+n=l.length∧st=⟨45,[(1,.ref 1 0 0),(3,.str o),(4,iv i)],[(1,⟨false,taD_,2,[d11 ⟨nm,l⟩]⟩)]⟩∧o=nm++[40]++j_ (l.take i)) l.length ⟨0,nm++[40],by simp,rfl,by simp [j_]⟩ ?_;rintro I hI n st ⟨i,o,hi,rfl,rfl⟩;simp -implicitDefEqProofs only[go_sem,d11,i10,zX];refine⟨fun hlt=>?_,fun hge=>?_⟩
 ·have hlt':i<l.length:=by omega
  obtain⟨k,hk,hm⟩:=as10 hlt';have hw:=ws_ hlt' (by omega);have hnext:a11 I n ⟨45,[(1,.ref 1 0 0),(3,.str (nm++[40]++j_ (l.take (i+1)))),(4,iv (i+1:Nat))],[(1,⟨false,taD_,2,[d11 ⟨nm,l⟩]⟩)]⟩:=aa_ (n - 1) (by omega) (hI _ _ ⟨i+1,_,by omega,rfl,rfl⟩);have hjl:=jl_ (l.take i);have htl:(l.take i).length=i:=by simp;omega
  rw[js_ hk] at hnext;have hlen:(nm++[40]++j_ (l.take i)).length≤20000000:=by simp;omega
  have hnext':∀o:Str,(nm++[40]++if i=0 then k_ k else j_ (l.take i)++[44,32]++k_ k)=o→a11 I n ⟨45,[(1,.ref 1 0 0),(3,.str o),(4,iv (i+1:Nat))],[(1,⟨false,taD_,2,[d11 ⟨nm,l⟩]⟩)]⟩:=fun o e=>e ▸ hnext;clear hnext;have hz:i=0→nm++[40]++j_ (l.take i)=nm++[40]:=fun e=>by subst e;simp [j_]
  have hass:∀x:Str,nm++[40]++(j_ (l.take i)++[44,32]++x)=nm++[40]++j_ (l.take i)++[44,32]++x:=fun x=>by simp
  generalize nm++[40]++j_ (l.take i)=P at*;have c1:∀s:Str,s.length≤100→abin .add (.str P) (.str s)=some (.str (P++s)):=fun s h=>aa14 (by omega);have c2:∀s t:Str,s.length≤100→t.length≤100→abin .add (.str (P++s)) (.str t)=some (.str (P++s++t)):=fun s t h h'=>aa14 (by simp;omega);by_cases h0:i=0
  ·have hz2:=hz h0;clear hz;subst h0
   repeat' (first|(simp -implicitDefEqProofs only[go_sem,am_ hk,d11,i10,hw,zX,c1 [105,110,116] (by decide),c1 [115,116,114,105,110,103] (by decide),c1 [98,111,111,108] (by decide)])|refine ag_ (fun hb=>?_) (fun hb=>?_)|refine⟨fun hb=>?_,fun hb=>?_⟩|fail)
   all_goals try (exfalso;simp at*;done)
   all_goals
    refine hnext' _ ?_;rw[zG rfl,←hz2];clear hnext' hI hz2 hass c1 c2 h;simp only[zC,xC,vX,vC] at*;simp_all [k_]
  ·repeat' (first|(simp -implicitDefEqProofs only[go_sem,am_ hk,d11,i10,hw,zX,c1 [44,32] (by decide),c2 [44,32] [105,110,116] (by decide) (by decide),c2 [44,32] [115,116,114,105,110,103] (by decide) (by decide),c2 [44,32] [98,111,111,108] (by decide) (by decide)])|refine ag_ (fun hb=>?_) (fun hb=>?_)|refine⟨fun hb=>?_,fun hb=>?_⟩|fail)
   all_goals try (exfalso;simp at*;omega)
   all_goals
    refine hnext' _ ?_;rw[zF h0,hass];clear hnext' hI hz hass c1 c2 h;simp only[zC,xC,vX,vC] at*;simp_all [k_]
 ·rw[zM (by omega)];have hjl:=jl_ l;have hlen:abin .add (.str (nm++[40]++j_ l)) (.str [41])=some (.str (nm++[40]++j_ l++[41])):=aa14 (by simp;omega);have hT:t43 ⟨nm,l⟩=nm++[40]++j_ l++[41]:=rfl;rw[hT] at h;generalize nm++[40]++j_ l=P at*
  try (simp -implicitDefEqProofs only[go_sem,hlen])
  exact h _ ⟨_,_,rfl,rfl,.refl _⟩
theorem tes_ {α:Type} {l k:List α} {i:Nat} {x:α} (h:l.take i=k.take i) (hx:l[i]? =some x) (hy:k[i]? =some x):l.take (i+1)=k.take (i+1):=by rw[vV,vV,h,hx,hy]
theorem tea_ {α:Type} {l k:List α} {i:Nat} (h:l.take i=k.take i) (h1:l.length≤i) (h2:k.length≤i):l=k:=by
 rwa [zM h1,zM h2] at h
theorem noa_ {α:Type} {l k:List α} {i:Nat} {x y:α} (hx:l[i]? =some x) (hy:k[i]? =some y) (h:¬x=y):¬l=k:=fun e=>by subst e;rw[hx] at hy;cases hy;exact h rfl
def h14 (a b:QeaT):Prop:=a.name=b.name∧a.start=b.start∧a.decls=b.decls∧a.quants=b.quants∧a.frees=b.frees∧a.states=b.states
instance (a b:QeaT):Decidable (h14 a b):=inferInstanceAs (Decidable (_ ∧_))
structure QeaT.Plainly (q:QeaT):Prop where
 name:∀d∈q.decls,d.name.length≤1000000
 kind:∀d∈q.decls,∀k∈d.types,kOk k
theorem rsp_ (a b:QeaT) (fa:a.Few) (fb:b.Few) (pa:a.Plainly) (pb:b.Plainly):PQ G nps_ [qeaV a,qeaV b] (.bool (decide (h14 a b))):=by
 have l1:=fa.decls;have l2:=fa.quants;have l3:=fa.frees;have l4:=fa.states;refine pps_ fun Φ h=>?_;unfold cps_;have fin0:∀heap,¬h14 a b→Φ ⟨162,[(4,.bool false)],heap⟩:=fun heap e=>h _ ⟨_,_,rfl,rfl,fitB (by simp [e])⟩;have fin1:∀heap,h14 a b→Φ ⟨162,[(4,.bool true)],heap⟩:=fun heap e=>h _ ⟨_,_,rfl,rfl,fitB (by simp [e])⟩;clear h;by_cases hc:a.name=b.name∧a.start=b.start∧a.decls.length=b.decls.length∧a.quants.length=b.quants.length∧a.frees.length=b.frees.length∧a.states.length=b.states.length
 ·obtain⟨c1,c2,c3,c4,c5,c6⟩:=hc;have d1:(a.name==b.name)=true:=by simp [c1]
  have d2:(a.start != b.start)=false:=by simp [c2]
  have d3:((a.decls.length:Int) != (b.decls.length:Int))=false:=by simp [c3]
  have d4:((a.quants.length:Int) != (b.quants.length:Int))=false:=by simp [c4]
  have d5:((a.frees.length:Int) != (b.frees.length:Int))=false:=by simp [c5]
  have d6:((a.states.length:Int) != (b.states.length:Int))=false:=by simp [c6]
  repeat' (first|simp -implicitDefEqProofs only[go_sem,qeaV,d_,q_,f_,s_,s10,n_,t_,zX,d1,d2,d3,d4,d5,d6]|refine ag_ (fun hb=>?_) (fun hb=>?_)|refine⟨fun hb=>?_,fun hb=>?_⟩|fail)
  all_goals try (exfalso;clear fin0 fin1;simp at*;done)
  refine al_ (fun n st=>∃i:Nat,i+n=a.decls.length∧st=⟨162,[(2,.ref 2 0 0),(3,.ref 3 0 0),(5,iv i)],[(2,⟨false,taQ_,9,[qeaV a]⟩),(3,⟨false,taQ_,9,[qeaV b]⟩)]⟩∧a.decls.take i=b.decls.take i) a.decls.length ⟨0,by simp,rfl,rfl⟩ ?_;rintro I hI n st ⟨i,hi,rfl,hno⟩;simp -implicitDefEqProofs only[go_sem,qeaV,d_,q_,f_,s_,s10,n_,t_,zX];refine⟨fun hlt=>?_,fun hge=>?_⟩
  ·have hlt':i<a.decls.length:=by omega
   obtain⟨x,hx,hm⟩:=as10 hlt';obtain⟨y,hy,hm'⟩:=as10 (l:=b.decls) (i:=i) (by omega);have hw:=ws_ hlt' (by omega);have t1:=rTp_ (G:=G) x (pa.name x hm) (fa.types x hm);have t2:=rTp_ (G:=G) y (pb.name y hm') (fb.types y hm');have tl:=fa.types x hm;have inj:=ti10 (pa.kind x hm) (pb.kind y hm');by_cases hxy:x=y
   ·subst hxy;simp only[d11,i10] at t1
    repeat' (first|simp -implicitDefEqProofs only[go_sem,am_ hx,am_ hy,d11,i10,qeaV,d_,q_,f_,s_,s10,n_,t_,zX]|refine ag_ (fun hb=>?_) (fun hb=>?_)|refine⟨fun hb=>?_,fun hb=>?_⟩|refine ac_ t1 rfl rfl ?_|fail)
    all_goals try (exfalso;clear fin0 fin1;simp at hb;done)
    refine al_ (fun m st=>∃k:Nat,k+m=x.types.length∧st=⟨162,[(2,.ref 2 0 0),(3,.ref 3 0 0),(5,iv i),(6,iv k)],[(2,⟨false,taQ_,9,[qeaV a]⟩),(3,⟨false,taQ_,9,[qeaV b]⟩)]⟩) x.types.length ⟨0,by simp,rfl⟩ ?_;rintro J hJ m st ⟨k,hk,rfl⟩;simp -implicitDefEqProofs only[go_sem,am_ hx,d11,i10,qeaV,d_,q_,f_,s_,s10,n_,t_,zX,hw];refine⟨fun hlt2=>?_,fun hge2=>?_⟩
    ·have hlt2':k<x.types.length:=by omega
     obtain⟨t,ht,htm⟩:=as10 hlt2';have hw2:=ws_ hlt2' (by omega)
     repeat' (first|simp -implicitDefEqProofs only[go_sem,am_ hx,am_ hy,am_ ht,d11,i10,qeaV,d_,q_,f_,s_,s10,n_,t_,zX,hw2]|refine ag_ (fun hb=>?_) (fun hb=>?_)|refine⟨fun hb=>?_,fun hb=>?_⟩|fail)
     all_goals first | exact aa_ (m - 1) (by omega) (hJ _ _ ⟨k+1,by omega,rfl⟩) | (exfalso;clear fin0 fin1;simp at hb;done)
    ·exact aa_ (n - 1) (by omega) (hI _ _ ⟨i+1,by omega,rfl,tes_ hno hx hy⟩)
   ·have hbad:¬h14 a b:=fun e=>noa_ hx hy hxy e.2.2.1;have htn:¬t43 x=t43 y:=fun e=>hxy (inj.1 e);have htn':(t43 x==t43 y)=false:=by simpa using htn
    simp only[d11,i10] at t1 t2
    repeat' (first|simp -implicitDefEqProofs only[go_sem,am_ hx,am_ hy,d11,i10,qeaV,d_,q_,f_,s_,s10,n_,t_,zX,htn']|refine ag_ (fun hb=>?_) (fun hb=>?_)|refine⟨fun hb=>?_,fun hb=>?_⟩|refine ac_ t1 rfl rfl ?_|refine ac_ t2 rfl rfl ?_|fail)
    all_goals first | exact fin0 _ hbad | (exfalso;clear fin0 fin1;simp at hb;done)
  ·have e1:=tea_ hno (by omega) (by omega);clear hI hge hi hno
   try (simp -implicitDefEqProofs only[go_sem])
   refine al_ (fun n st=>∃i:Nat,i+n=a.quants.length∧st=⟨162,[(2,.ref 2 0 0),(3,.ref 3 0 0),(7,iv i)],[(2,⟨false,taQ_,9,[qeaV a]⟩),(3,⟨false,taQ_,9,[qeaV b]⟩)]⟩∧a.quants.take i=b.quants.take i) a.quants.length ⟨0,by simp,rfl,rfl⟩ ?_;rintro I hI n st ⟨i,hi,rfl,hno⟩;simp -implicitDefEqProofs only[go_sem,qeaV,d_,q_,f_,s_,s10,n_,t_,zX];refine⟨fun hlt=>?_,fun hge=>?_⟩
   ·have hlt':i<a.quants.length:=by omega
    obtain⟨x,hx,hm⟩:=as10 hlt';obtain⟨y,hy,hm'⟩:=as10 (l:=b.quants) (i:=i) (by omega);have hw:=ws_ hlt' (by omega);have hbad:¬x=y→¬h14 a b:=fun hne e=>noa_ hx hy hne e.2.2.2.1;have hok:x=y→a11 I n ⟨162,[(2,.ref 2 0 0),(3,.ref 3 0 0),(7,iv (i+1:Nat))],[(2,⟨false,taQ_,9,[qeaV a]⟩),(3,⟨false,taQ_,9,[qeaV b]⟩)]⟩:=fun e=>aa_ (n - 1) (by omega) (hI _ _ ⟨i+1,by omega,rfl,tes_ hno hx (e ▸ hy)⟩);have heq:=q16 x y
    repeat' (first|simp -implicitDefEqProofs only[go_sem,am_ hx,am_ hy,q11,qeaV,d_,q_,f_,s_,s10,n_,t_,zX,hw]|refine ag_ (fun hb=>?_) (fun hb=>?_)|refine⟨fun hb=>?_,fun hb=>?_⟩|fail)
    all_goals first
     | (refine hok ?_;rw[←zC (a:=x),heq];simpa using hb)
     | (refine fin0 _ (hbad ?_);rintro rfl;simp at hb;done)
   ·have e2:=tea_ hno (by omega) (by omega);clear hI hge hi hno
    try (simp -implicitDefEqProofs only[go_sem])
    refine al_ (fun n st=>∃i:Nat,i+n=a.frees.length∧st=⟨162,[(2,.ref 2 0 0),(3,.ref 3 0 0),(8,iv i)],[(2,⟨false,taQ_,9,[qeaV a]⟩),(3,⟨false,taQ_,9,[qeaV b]⟩)]⟩∧a.frees.take i=b.frees.take i) a.frees.length ⟨0,by simp,rfl,rfl⟩ ?_;rintro I hI n st ⟨i,hi,rfl,hno⟩;simp -implicitDefEqProofs only[go_sem,qeaV,d_,q_,f_,s_,s10,n_,t_,zX];refine⟨fun hlt=>?_,fun hge=>?_⟩
    ·have hlt':i<a.frees.length:=by omega
     obtain⟨x,hx,hm⟩:=as10 hlt';obtain⟨y,hy,hm'⟩:=as10 (l:=b.frees) (i:=i) (by omega);have hw:=ws_ hlt' (by omega);have hbad:¬x=y→¬h14 a b:=fun hne e=>noa_ hx hy hne e.2.2.2.2.1;have hok:x=y→a11 I n ⟨162,[(2,.ref 2 0 0),(3,.ref 3 0 0),(8,iv (i+1:Nat))],[(2,⟨false,taQ_,9,[qeaV a]⟩),(3,⟨false,taQ_,9,[qeaV b]⟩)]⟩:=fun e=>aa_ (n - 1) (by omega) (hI _ _ ⟨i+1,by omega,rfl,tes_ hno hx (e ▸ hy)⟩);have heq:=f27 x y
     repeat' (first|simp -implicitDefEqProofs only[go_sem,am_ hx,am_ hy,f10,qeaV,d_,q_,f_,s_,s10,n_,t_,zX,hw]|refine ag_ (fun hb=>?_) (fun hb=>?_)|refine⟨fun hb=>?_,fun hb=>?_⟩|fail)
     all_goals first
      | (refine hok ?_;rw[←zC (a:=x),heq];simpa using hb)
      | (refine fin0 _ (hbad ?_);rintro rfl;simp at hb;done)
    ·have e3:=tea_ hno (by omega) (by omega);clear hI hge hi hno
     try (simp -implicitDefEqProofs only[go_sem])
     refine al_ (fun n st=>∃i:Nat,i+n=a.states.length∧st=⟨162,[(2,.ref 2 0 0),(3,.ref 3 0 0),(9,iv i)],[(2,⟨false,taQ_,9,[qeaV a]⟩),(3,⟨false,taQ_,9,[qeaV b]⟩)]⟩∧a.states.take i=b.states.take i) a.states.length ⟨0,by simp,rfl,rfl⟩ ?_;rintro I hI n st ⟨i,hi,rfl,hno⟩;simp -implicitDefEqProofs only[go_sem,qeaV,d_,q_,f_,s_,s10,n_,t_,zX];refine⟨fun hlt=>?_,fun hge=>?_⟩
     ·have hlt':i<a.states.length:=by omega
      obtain⟨x,hx,hm⟩:=as10 hlt';obtain⟨y,hy,hm'⟩:=as10 (l:=b.states) (i:=i) (by omega);have hw:=ws_ hlt' (by omega);have hbad:¬x=y→¬h14 a b:=fun hne e=>noa_ hx hy hne e.2.2.2.2.2;have hok:x=y→a11 I n ⟨162,[(2,.ref 2 0 0),(3,.ref 3 0 0),(9,iv (i+1:Nat))],[(2,⟨false,taQ_,9,[qeaV a]⟩),(3,⟨false,taQ_,9,[qeaV b]⟩)]⟩:=fun e=>aa_ (n - 1) (by omega) (hI _ _ ⟨i+1,by omega,rfl,tes_ hno hx (e ▸ hy)⟩);have heq:=s32 x y
      repeat' (first|simp -implicitDefEqProofs only[go_sem,am_ hx,am_ hy,s13,qeaV,d_,q_,f_,s_,s10,n_,t_,zX,hw]|refine ag_ (fun hb=>?_) (fun hb=>?_)|refine⟨fun hb=>?_,fun hb=>?_⟩|fail)
      all_goals first
       | (refine hok ?_;rw[←zC (a:=x),heq];simpa using hb)
       | (refine fin0 _ (hbad ?_);rintro rfl;simp at hb;done)
     ·have e4:=tea_ hno (by omega) (by omega);clear hI hge hi hno
      try (simp -implicitDefEqProofs only[go_sem])
      exact fin1 _ ⟨c1,c2,e1,e2,e3,e4⟩
 ·have hbad:¬h14 a b:=fun e=>hc ⟨e.1,e.2.1,by rw[e.2.2.1],by rw[e.2.2.2.1],by rw[e.2.2.2.2.1],by rw[e.2.2.2.2.2]⟩
  repeat' (first|simp -implicitDefEqProofs only[go_sem,qeaV,d_,q_,f_,s_,s10,n_,t_,zX]|refine ag_ (fun hb=>?_) (fun hb=>?_)|refine⟨fun hb=>?_,fun hb=>?_⟩|fail)
  all_goals first | exact fin0 _ hbad | (exfalso;apply hc;clear fin0 fin1 hbad hc;simp at*;refine⟨?_,?_,?_,?_,?_,?_⟩ <;> first | assumption | omega)
theorem si13 {a b:QeaT}:a=b↔h14 a b∧a.symbols=b.symbols∧a.nodes=b.nodes∧a.trans=b.trans:=by
 obtain⟨a1,a2,a3,a4,a5,a6,a7,a8,a9⟩:=a;obtain⟨b1,b2,b3,b4,b5,b6,b7,b8,b9⟩:=b;unfold h14;simp only[QeaT.mk.injEq];constructor
 ·rintro⟨h1,h2,h3,h4,h5,h6,h7,h8,h9⟩;exact⟨⟨h1,h6,h2,h3,h4,h5⟩,h7,h8,h9⟩
 ·rintro⟨⟨h1,h6,h2,h3,h4,h5⟩,h7,h8,h9⟩;exact⟨h1,h2,h3,h4,h5,h6,h7,h8,h9⟩
theorem rS10 (a b:QeaT) (fa:a.Few) (fb:b.Few) (pa:a.Plainly) (pb:b.Plainly):PQ G npS_ [qeaV a,qeaV b] (.bool (decide (a=b))):=by
 have l1:=fa.symbols;have l2:=fa.nodes;have l3:=fa.trans;have hH:=rsp_ (G:=G) a b fa fb pa pb;refine pp22 fun Φ h=>?_;unfold cp22;have fin0:∀heap,¬a=b→Φ ⟨149,[(4,.bool false)],heap⟩:=fun heap e=>h _ ⟨_,_,rfl,rfl,fitB (by simp [e])⟩;have fin1:∀heap,a=b→Φ ⟨149,[(4,.bool true)],heap⟩:=fun heap e=>h _ ⟨_,_,rfl,rfl,fitB (by simp [e])⟩;clear h;rw[si13] at fin0 fin1;simp only[qeaV,d_,q_,f_,s_,s10,n_,t_] at hH;by_cases hc:h14 a b∧a.symbols.length=b.symbols.length∧a.nodes.length=b.nodes.length∧a.trans.length=b.trans.length
 ·obtain⟨c1,c2,c3,c4⟩:=hc;rw[show decide (h14 a b)=true by simpa using c1] at hH
  repeat' (first|simp -implicitDefEqProofs only[go_sem,qeaV,d_,q_,f_,s_,s10,n_,t_,zX,c2,c3,c4]|refine ag_ (fun hb=>?_) (fun hb=>?_)|refine⟨fun hb=>?_,fun hb=>?_⟩|refine ac_ hH rfl rfl ?_|fail)
  all_goals try (exfalso;clear fin0 fin1;simp at*;done)
  refine al_ (fun n st=>∃i:Nat,i+n=a.symbols.length∧st=⟨149,[(2,.ref 2 0 0),(3,.ref 3 0 0),(5,iv i)],[(2,⟨false,taQ_,9,[qeaV a]⟩),(3,⟨false,taQ_,9,[qeaV b]⟩)]⟩∧a.symbols.take i=b.symbols.take i) a.symbols.length ⟨0,by simp,rfl,rfl⟩ ?_;rintro I hI n st ⟨i,hi,rfl,hno⟩;simp -implicitDefEqProofs only[go_sem,qeaV,d_,q_,f_,s_,s10,n_,t_,zX];refine⟨fun hlt=>?_,fun hge=>?_⟩
  ·have hlt':i<a.symbols.length:=by omega
   obtain⟨x,hx,hm⟩:=as10 hlt';obtain⟨y,hy,hm'⟩:=as10 (l:=b.symbols) (i:=i) (by omega);have hw:=ws_ hlt' (by omega);have hbad:¬x=y→¬(h14 a b∧a.symbols=b.symbols∧a.nodes=b.nodes∧a.trans=b.trans):=fun hne e=>noa_ hx hy hne e.2.1;have hok:x=y→a11 I n ⟨149,[(2,.ref 2 0 0),(3,.ref 3 0 0),(5,iv (i+1:Nat))],[(2,⟨false,taQ_,9,[qeaV a]⟩),(3,⟨false,taQ_,9,[qeaV b]⟩)]⟩:=fun e=>aa_ (n - 1) (by omega) (hI _ _ ⟨i+1,by omega,rfl,tes_ hno hx (e ▸ hy)⟩);have hs:=rSp_ (G:=G) x y (by have:=fa.args x hm;omega);simp only[symV,a_] at hs;by_cases hxy:x=y
   ·have hok:=hok hxy;rw[show decide (x=y)=true by simpa using hxy] at hs
    repeat' (first|simp -implicitDefEqProofs only[go_sem,am_ hx,am_ hy,symV,a_,qeaV,d_,q_,f_,s_,s10,n_,t_,zX,hw]|refine ag_ (fun hb=>?_) (fun hb=>?_)|refine⟨fun hb=>?_,fun hb=>?_⟩|refine ac_ hs rfl rfl ?_|fail)
    all_goals first | exact hok | (exfalso;clear fin0 fin1 hok;simp at hb;done)
   ·have hbad:=hbad hxy;rw[show decide (x=y)=false by simpa using hxy] at hs
    repeat' (first|simp -implicitDefEqProofs only[go_sem,am_ hx,am_ hy,symV,a_,qeaV,d_,q_,f_,s_,s10,n_,t_,zX,hw]|refine ag_ (fun hb=>?_) (fun hb=>?_)|refine⟨fun hb=>?_,fun hb=>?_⟩|refine ac_ hs rfl rfl ?_|fail)
    all_goals first | exact fin0 _ hbad | (exfalso;clear fin0 fin1 hok;simp at hb;done)
  ·have e1:=tea_ hno (by omega) (by omega);clear hI hge hi hno
   try (simp -implicitDefEqProofs only[go_sem])
   refine al_ (fun n st=>∃i:Nat,i+n=a.nodes.length∧st=⟨149,[(2,.ref 2 0 0),(3,.ref 3 0 0),(6,iv i)],[(2,⟨false,taQ_,9,[qeaV a]⟩),(3,⟨false,taQ_,9,[qeaV b]⟩)]⟩∧a.nodes.take i=b.nodes.take i) a.nodes.length ⟨0,by simp,rfl,rfl⟩ ?_;rintro I hI n st ⟨i,hi,rfl,hno⟩;simp -implicitDefEqProofs only[go_sem,qeaV,d_,q_,f_,s_,s10,n_,t_,zX];refine⟨fun hlt=>?_,fun hge=>?_⟩
   ·have hlt':i<a.nodes.length:=by omega
    obtain⟨x,hx,hm⟩:=as10 hlt';obtain⟨y,hy,hm'⟩:=as10 (l:=b.nodes) (i:=i) (by omega);have hw:=ws_ hlt' (by omega);have hbad:¬x=y→¬(h14 a b∧a.symbols=b.symbols∧a.nodes=b.nodes∧a.trans=b.trans):=fun hne e=>noa_ hx hy hne e.2.2.1;have hok:x=y→a11 I n ⟨149,[(2,.ref 2 0 0),(3,.ref 3 0 0),(6,iv (i+1:Nat))],[(2,⟨false,taQ_,9,[qeaV a]⟩),(3,⟨false,taQ_,9,[qeaV b]⟩)]⟩:=fun e=>aa_ (n - 1) (by omega) (hI _ _ ⟨i+1,by omega,rfl,tes_ hno hx (e ▸ hy)⟩);have heq:=n21 x y
    repeat' (first|simp -implicitDefEqProofs only[go_sem,am_ hx,am_ hy,n11,qeaV,d_,q_,f_,s_,s10,n_,t_,zX,hw]|refine ag_ (fun hb=>?_) (fun hb=>?_)|refine⟨fun hb=>?_,fun hb=>?_⟩|fail)
    all_goals first
     | (refine hok ?_;rw[←zC (a:=x),heq];simpa using hb)
     | (refine fin0 _ (hbad ?_);rintro rfl;simp at hb;done)
   ·have e2:=tea_ hno (by omega) (by omega);clear hI hge hi hno
    try (simp -implicitDefEqProofs only[go_sem])
    refine al_ (fun n st=>∃i:Nat,i+n=a.trans.length∧st=⟨149,[(2,.ref 2 0 0),(3,.ref 3 0 0),(7,iv i)],[(2,⟨false,taQ_,9,[qeaV a]⟩),(3,⟨false,taQ_,9,[qeaV b]⟩)]⟩∧a.trans.take i=b.trans.take i) a.trans.length ⟨0,by simp,rfl,rfl⟩ ?_;rintro I hI n st ⟨i,hi,rfl,hno⟩;simp -implicitDefEqProofs only[go_sem,qeaV,d_,q_,f_,s_,s10,n_,t_,zX];refine⟨fun hlt=>?_,fun hge=>?_⟩
    ·have hlt':i<a.trans.length:=by omega
     obtain⟨x,hx,hm⟩:=as10 hlt';obtain⟨y,hy,hm'⟩:=as10 (l:=b.trans) (i:=i) (by omega);have hw:=ws_ hlt' (by omega);have hxs:=fa.sets x hm;have hbad:¬x=y→¬(h14 a b∧a.symbols=b.symbols∧a.nodes=b.nodes∧a.trans=b.trans):=fun hne e=>noa_ hx hy hne e.2.2.2;have hok:x=y→a11 I n ⟨149,[(2,.ref 2 0 0),(3,.ref 3 0 0),(7,iv (i+1:Nat))],[(2,⟨false,taQ_,9,[qeaV a]⟩),(3,⟨false,taQ_,9,[qeaV b]⟩)]⟩:=fun e=>aa_ (n - 1) (by omega) (hI _ _ ⟨i+1,by omega,rfl,tes_ hno hx (e ▸ hy)⟩);obtain⟨x1,x2,x3,x4,xs⟩:=x;obtain⟨y1,y2,y3,y4,ys⟩:=y;dsimp only at hxs;by_cases hd:x1=y1∧x2=y2∧x3=y3∧x4=y4∧xs.length=ys.length
     ·obtain⟨rfl,rfl,rfl,rfl,hlen⟩:=hd
      repeat' (first|simp -implicitDefEqProofs only[go_sem,am_ hx,am_ hy,t11,s14,qeaV,d_,q_,f_,s_,s10,n_,t_,zX,hlen]|refine ag_ (fun hb=>?_) (fun hb=>?_)|refine⟨fun hb=>?_,fun hb=>?_⟩|fail)
      all_goals try (exfalso;clear fin0 fin1 hok hbad;simp at hb;done)
      refine al_ (fun m st=>∃k:Nat,k+m=xs.length∧st=⟨149,[(2,.ref 2 0 0),(3,.ref 3 0 0),(7,iv i),(8,.ref 8 0 0),(9,.ref 9 0 0),(10,iv k)],[(2,⟨false,taQ_,9,[qeaV a]⟩),(3,⟨false,taQ_,9,[qeaV b]⟩),(8,⟨false,taT_,5,[t11 ⟨x1,x2,x3,x4,xs⟩]⟩),(9,⟨false,taT_,5,[t11 ⟨x1,x2,x3,x4,ys⟩]⟩)]⟩∧xs.take k=ys.take k) xs.length ⟨0,by simp,rfl,rfl⟩ ?_;rintro J hJ m st ⟨k,hk,rfl,hall⟩;simp -implicitDefEqProofs only[go_sem,t11,s14,zX,hw];refine⟨fun hlt2=>?_,fun hge2=>?_⟩
      ·have hlt2':k<xs.length:=by omega
       obtain⟨u,hu,hum⟩:=as10 hlt2';obtain⟨v,hv,hvm⟩:=as10 (l:=ys) (i:=k) (by omega);have hw2:=ws_ hlt2' (by omega);have heq:=s36 u v;have hgo:u=v→a11 J m ⟨149,[(2,.ref 2 0 0),(3,.ref 3 0 0),(7,iv i),(8,.ref 8 0 0),(9,.ref 9 0 0),(10,iv (k+1:Nat))],[(2,⟨false,taQ_,9,[qeaV a]⟩),(3,⟨false,taQ_,9,[qeaV b]⟩),(8,⟨false,taT_,5,[t11 ⟨x1,x2,x3,x4,xs⟩]⟩),(9,⟨false,taT_,5,[t11 ⟨x1,x2,x3,x4,ys⟩]⟩)]⟩:=fun huv=>aa_ (m - 1) (by omega) (hJ _ _ ⟨k+1,by omega,rfl,tes_ hall hu (huv ▸ hv)⟩);have hbd:¬u=v→¬(h14 a b∧a.symbols=b.symbols∧a.nodes=b.nodes∧a.trans=b.trans):=fun huv=>hbad (fun e=>noa_ hu hv huv (by simpa using e));clear hbad hok
       repeat' (first|simp -implicitDefEqProofs only[go_sem,am_ hu,am_ hv,setV,t11,s14,hw2,zX]|refine ag_ (fun hb=>?_) (fun hb=>?_)|refine⟨fun hb=>?_,fun hb=>?_⟩|fail)
       all_goals first
        | (refine hgo ?_;rw[←zC (a:=u),heq];simpa using hb)
        | (refine fin0 _ (hbd ?_);rintro rfl;simp at hb;done)
      ·exact hok (by rw[tea_ hall (by omega) (by omega)])
     ·have hbad:=hbad (fun e=>hd (by simp at e;obtain⟨h1,h2,h3,h4,h5⟩:=e;exact⟨h1,h2,h3,h4,by rw[h5]⟩))
      repeat' (first|simp -implicitDefEqProofs only[go_sem,am_ hx,am_ hy,t11,s14,qeaV,d_,q_,f_,s_,s10,n_,t_,zX]|refine ag_ (fun hb=>?_) (fun hb=>?_)|refine⟨fun hb=>?_,fun hb=>?_⟩|fail)
      all_goals first | exact fin0 _ hbad | (exfalso;apply hd;clear fin0 fin1 hok hbad hd;simp at*;first | (simp_all;done) | omega)
    ·have e3:=tea_ hno (by omega) (by omega)
     try (simp -implicitDefEqProofs only[go_sem])
     exact fin1 _ ⟨c1,e1,e2,e3⟩
 ·have hbad:¬(h14 a b∧a.symbols=b.symbols∧a.nodes=b.nodes∧a.trans=b.trans):=fun e=>hc ⟨e.1,by rw[e.2.1],by rw[e.2.2.1],by rw[e.2.2.2]⟩;by_cases hh:h14 a b
  ·rw[show decide (h14 a b)=true by simpa using hh] at hH
   repeat' (first|simp -implicitDefEqProofs only[go_sem,qeaV,d_,q_,f_,s_,s10,n_,t_,zX]|refine ag_ (fun hb=>?_) (fun hb=>?_)|refine⟨fun hb=>?_,fun hb=>?_⟩|refine ac_ hH rfl rfl ?_|fail)
   all_goals first | exact fin0 _ hbad | (exfalso;apply hc;clear fin0 fin1 hbad hc hH;refine⟨hh,?_⟩;simp at*;omega)
  ·rw[show decide (h14 a b)=false by simpa using hh] at hH
   repeat' (first|simp -implicitDefEqProofs only[go_sem,qeaV,d_,q_,f_,s_,s10,n_,t_,zX]|refine ag_ (fun hb=>?_) (fun hb=>?_)|refine⟨fun hb=>?_,fun hb=>?_⟩|refine ac_ hH rfl rfl ?_|fail)
   all_goals first | exact fin0 _ hbad | (exfalso;clear fin0 fin1;simp at*;done)
def d15 (d:DeclT):Bool:=d.types.any fun k=>!(decide (1≤k)&&decide (k≤3))
def badI (q:QeaT):Int:=idxF d15 q.decls
theorem po_ (q:QeaT) (hf:fewQ q=true) (hb:badI q<0):q.Plainly:=by
 have hany:q.decls.any d15=false:=by rw[←ia_];unfold badI at hb;simp;omega
 refine⟨fun d hd=>?_,fun d hd k hk=>?_⟩
 ·unfold fewQ at hf;simp only[zK] at hf;obtain⟨i,hi⟩:=zN hd;have:=at10.1 hf.2.1 i d hi;unfold f14 s22 at this;simp only[zK,zU] at this;omega
 ·have h1:=xR.1 hany d hd;unfold d15 at h1;rw[Bool.not_eq_true,xR] at h1;have h2:=h1 k hk;unfold kOk;simp at h2;omega
