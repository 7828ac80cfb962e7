/- Lemmas. -/
import Derived.Test.YtkgcnoghjibiaaaGreatDoorYD5
set_option linter.unusedSimpArgs false
set_option maxHeartbeats 4000000
set_option maxRecDepth 100000
namespace Go.Proofs.YtkgcnoghjibiaaaGreatDoor.Ab
open Go
variable {G:Nat->Option AV}
theorem zAp_:PQ G 288 [iv 0,iv 0] (.tup [iv 0,.bool true]):=by
 refine ppA_ λΦ h=>?_;unfold cpA_
 repeat' (first|simp -implicitDefEqProofs only[go_sem]|apply ai__<;>intro hb)
 all_goals exact hq_ h
theorem zSp_:PQ G 290 [iv 0,iv 0] (.tup [iv 0,.bool true]):=by
 refine ppS_ λΦ h=>?_;unfold cp11
 repeat' (first|simp -implicitDefEqProofs only[go_sem]|apply ai__<;>intro hb)
 all_goals exact hq_ h
set_option maxRecDepth 8000 in
theorem zMp_:PQ G 291 [iv 0,iv 0] (.tup [iv 0,.bool true]):=by
 refine ppM_ λΦ h=>?_;unfold cpM_
 repeat' (first|simp -implicitDefEqProofs only[go_sem]|apply ai__<;>intro hb)
 all_goals exact hq_ h
theorem zDp_:PQ G 292 [iv 0,iv 0] (.tup [iv 0,iv 0,iv 7]):=by
 refine ppD_ λΦ h=>?_;unfold cpD_
 repeat' (first|simp -implicitDefEqProofs only[go_sem]|apply ai__<;>intro hb)
 all_goals exact hq_ h
theorem znp_:PQ G 289 [iv 0,.bool true] (.tup [valV ⟨1,0,[],false⟩,iv 0]):=by
 refine ppn_ λΦ h=>?_;unfold cpn_
 repeat' (first|simp -implicitDefEqProofs only[go_sem,valV]|apply ai__<;>intro hb)
 all_goals exact hq_ h
theorem ztp_ (b:Bool):PQ G 279 [.bool b] (.tup [valV ⟨3,0,[],b⟩,iv 0]):=by
 refine ppt_ λΦ h=>?_;unfold cpt_
 repeat' (first|simp -implicitDefEqProofs only[go_sem,valV]|apply ai__<;>intro hb)
 all_goals exact hq_ h
def a27 (op:Int):Val×Int:=if op=8∨op=9∨op=10 then (⟨1,0,[],false⟩,0) else (v0,7)
theorem zap_ (op:Int):PQ G 280 [iv op,iv 0,iv 0] (.tup [valV (a27 op).1,iv (a27 op).2]):=by
 refine ppa_ λΦ h=>?_;unfold cpa_
 repeat' (first|simp -implicitDefEqProofs only[go_sem,valV]|apply ai__<;>intro hb|refine ac_ zAp_ rfl rfl ?_|refine ac_ zSp_ rfl rfl ?_|refine ac_ zMp_ rfl rfl ?_|refine ac_ zDp_ rfl rfl ?_|refine ac_ znp_ rfl rfl ?_|fail)
 all_goals (refine h _ ⟨_,_,rfl,rfl,fe_ ?_⟩;clear h;simp_all [a27,valV])
theorem zBp_:PQ G 224 [.str [],.str []] (.bool false):=by
 refine ppB_ λΦ h=>?_;unfold cp10;simp -implicitDefEqProofs only[go_sem];refine al_ (λn st=>st=⟨37,[(0,.str []),(1,.str []),(5,iv 0)],[]⟩) 0 rfl ?_;rintro I hI n st rfl;have e0:((0:Nat):Int)=0:=rfl
 repeat' (first|simp -implicitDefEqProofs only[go_sem,e0]|apply ai__<;>intro hb)
 all_goals exact hq_ h
theorem zLp_ (a:Int):PQ G 147 [valV ⟨a,0,[],false⟩,valV ⟨a,0,[],false⟩] (.bool false):=by
 refine ppL_ λΦ h=>?_;unfold cpL_
 repeat' (first|simp -implicitDefEqProofs only[go_sem,valV]|apply ai__<;>intro hb|refine ac_ zBp_ rfl rfl ?_|fail)
 all_goals (refine h _ ⟨_,_,rfl,rfl,fe_ ?_⟩;clear h;simp_all)
def opZ (op a:Int):Val×Int:=
 if op<4∨16<op then (v0,1) else
 if op=4 then (if a=3 then (⟨3,0,[],true⟩,0) else (v0,8)) else
 if op=5 then (if a=1 then (⟨1,0,[],false⟩,0) else (v0,8)) else
 if op=13 then (⟨3,0,[],true⟩,0) else
 if op=14 then (⟨3,0,[],false⟩,0) else
 if a=3 then (if op=6∨op=7 then (⟨3,0,[],false⟩,0) else (v0,8)) else
 if op=15 then (⟨3,0,[],false⟩,0) else
 if op=16 then (⟨3,0,[],true⟩,0) else
 if a=1∧8<=op∧op<=12 then a27 op else
 if a=2∧op=8 then (⟨2,0,[],false⟩,0) else (v0,8)
theorem zOp_ (op a:Int):PQ G 261 [iv op,valV ⟨a,0,[],false⟩,valV ⟨a,0,[],false⟩] (.tup [valV (opZ op a).1,iv (opZ op a).2]):=by
 refine ppO_ λΦ h=>?_;unfold cpO_;have wrap0:IntKind.i64.wrap 0=0:=by decide
 repeat' (first|simp -implicitDefEqProofs only[go_sem,valV,wrap0]|apply ai__<;>intro hb|refine ac_ (ztp_ _) rfl rfl ?_|refine ac_ (zap_ _) rfl rfl ?_|refine ac_ (zLp_ a) rfl rfl ?_|fail)
 all_goals (refine h _ ⟨_,_,rfl,rfl,fe_ ?_⟩;clear h)
 all_goals
  first
  | (rw[opZ,zY (by simp at*;omega)];rfl)
  | (rw[opZ,zK (by simp at*;omega)]
     simp_all [a27,valV]
     try ((repeat' split) <;> first | rfl | omega | (simp_all;done) | (simp_all;omega)))
def t45 (op a b:Int):Int:=if a<1∨¬a=b then 0 else if (opZ op a).2=7 then 1 else if (opZ op a).2=0 then (opZ op a).1.kind else 0
theorem rT10 (op a b:Int):PQ G 216 [iv op,iv a,iv b] (iv (t45 op a b)):=by
 refine pp32 λΦ h=>?_;unfold cp34;by_cases hc:a<1∨¬a=b
 .repeat' (first|simp -implicitDefEqProofs only[go_sem,valV]|apply ai__<;>intro hb)
  all_goals first | exact h _ ⟨_,_,rfl,rfl,fitI (by rw[t45,zY hc])⟩ | (exfalso;simp at*;omega)
 .have hb:a=b:=by omega
  subst hb;have he:=zOp_ (G:=G) op a;simp only[valV] at he
  repeat' (first|simp -implicitDefEqProofs only[go_sem,valV]|apply ai__<;>intro hb|refine ac_ he rfl rfl ?_|fail)
  all_goals first | (exfalso;simp at*;omega) | (refine h _ ⟨_,_,rfl,rfl,fe_ ?_⟩;clear h;rw[t45,zK hc];simp_all)
theorem te_ (op a b:Int) (ha:1<=a∧a<=3):t45 op a b=if a=b then o11 op a b else 0:=by
 unfold t45;by_cases hb:a=b
 .subst hb;rw[zK (by omega),zY rfl];have h1:a=1∨a=2∨a=3:=by omega
  by_cases h0:op<4∨16<op
  .have e1:opZ op a=(v0,1):=by rw[opZ,zY h0]
   have e2:o11 op a a=0:=by unfold o11;rw[zK (by omega),zK (by omega),zK (by omega),zK (by omega),zK (by omega),zK (by omega),zK (by omega)]
   rw[e1,e2];rfl
  .have h2:op=4∨op=5∨op=6∨op=7∨op=8∨op=9∨op=10∨op=11∨op=12∨op=13∨op=14∨op=15∨op=16:=by omega
   rcases h1 with rfl | rfl | rfl <;> rcases h2 with rfl | rfl | rfl | rfl | rfl | rfl | rfl | rfl | rfl | rfl | rfl | rfl | rfl <;> decide
 .rw[zY (by omega),zK hb]
structure ExT where
 kind:Int
 depth:Int
 from_:Int
deriving DecidableEq
def exV (e:ExT):AV:=.agg [iv e.kind,iv e.depth,iv e.from_]
abbrev e0:ExT:=⟨0,0,0⟩
def at? {α:Type} (l:List α) (n:Int):Option α:=if 0<=n then l[n.toNat]? else none
theorem at?_some {α:Type} {l:List α} {n:Int} {y:α} (h:at? l n=some y):∃i:Nat,n=i∧l[i]?=some y:=by
 unfold at? at h;split at h
 .exact⟨n.toNat,by omega,h⟩
 .cases h
theorem at?_none {α:Type} {l:List α} {n:Int} (h:at? l n=none):n<0∨(l.length:Int)<=n:=by
 unfold at? at h;split at h
 .rw[vQ] at h;omega
 .omega
theorem at?_nat {α:Type} {l:List α} {i:Nat} {y:α} (h:l[i]?=some y):at? l (i:Int)=some y:=by unfold at?;rw[zY (by omega)];exact h
def l_ (q:QeaT) (i:Nat) (x:NodeT):Option ExT:=
 if x.op=1 then (if x.a=0∧x.b=0∧x.value.ok=true then some ⟨x.value.kind,1,i⟩ else none)
 else if x.op=2 then (if x.b=0∧x.value=v0 then (at? q.quants x.a).map λy=>⟨y.type,1,i⟩ else none)
 else if x.op=3 then (if x.b=0∧x.value=v0 then (at? q.frees x.a).map λy=>⟨y.init.kind,1,i⟩ else none)
 else none
def l22 (r:Option ExT):AV:=.tup [exV (r.getD e0),.bool r.isSome]
theorem clp_ (q:QeaT) (i:Nat) (x:NodeT) (hx:q.nodes[i]?=some x):PQ G 230 [qeaV q,iv i] (l22 (l_ q i x)):=by
 obtain⟨op,a,b,⟨vk,vn,vs,vb⟩⟩:=x;refine pcl_ λΦ h=>?_;unfold ccl_;have hv:=vRp_ (G:=G) ⟨vk,vn,vs,vb⟩;simp only[valV] at hv;have hok:∀r,l_ q i ⟨op,a,b,⟨vk,vn,vs,vb⟩⟩=some r->Fit (.tup [exV r,.bool true]) (l22 (l_ q i ⟨op,a,b,⟨vk,vn,vs,vb⟩⟩)):=λr hr=>fe_ (by rw[hr];rfl);have hno:l_ q i ⟨op,a,b,⟨vk,vn,vs,vb⟩⟩=none->Fit (.tup [exV e0,.bool false]) (l22 (l_ q i ⟨op,a,b,⟨vk,vn,vs,vb⟩⟩)):=λhr=>fe_ (by rw[hr];rfl);generalize hL:l_ q i ⟨op,a,b,⟨vk,vn,vs,vb⟩⟩=L at*;by_cases h1:op=1
 .subst h1;simp only[l_,zY] at hL
  repeat' (first|simp -implicitDefEqProofs only[go_sem,am_ hx,n11,qeaV,d_,q_,f_,s_,s10,n_,t_,zQ]|apply ai__<;>intro hb|refine ac_ hv rfl rfl ?_|fail)
  all_goals
   first | refine h _ ⟨_,_,rfl,rfl,hno ?_⟩ | refine h _ ⟨_,_,rfl,rfl,hok ⟨vk,1,i⟩ ?_⟩
   rw[<-hL];clear h hno hok hv hL;simp_all
 by_cases h2:op=2
 .subst h2;simp only[l_,zY,show ¬(2:Int)=1 by omega,yI] at hL;cases hq:at? q.quants a with
  | none=>
   rw[hq] at hL;have ha:=at?_none hq
   repeat' (first|simp -implicitDefEqProofs only[go_sem,am_ hx,n11,qeaV,d_,q_,f_,s_,s10,n_,t_,zQ]|apply ai__<;>intro hb)
   all_goals first | (exfalso;simp at*;omega) | skip
   all_goals
    refine h _ ⟨_,_,rfl,rfl,hno ?_⟩;rw[<-hL];simp
  | some y=>
   obtain⟨j,rfl,hy⟩:=at?_some hq;have hj:=(zX.1 hy).1;rw[hq] at hL
   repeat' (first|simp -implicitDefEqProofs only[go_sem,am_ hx,n11,qeaV,d_,q_,f_,s_,s10,n_,t_,zQ,am_ hy,q11]|apply ai__<;>intro hb)
   all_goals first | (exfalso;simp at*;omega) | skip
   all_goals
    first | refine h _ ⟨_,_,rfl,rfl,hno ?_⟩ | refine h _ ⟨_,_,rfl,rfl,hok ⟨y.type,1,i⟩ ?_⟩
    rw[<-hL];clear h hno hok hv hL;simp_all
 by_cases h3:op=3
 .subst h3;simp only[l_,zY,show ¬(3:Int)=1 by omega,show ¬(3:Int)=2 by omega,yI] at hL;cases hq:at? q.frees a with
  | none=>
   rw[hq] at hL;have ha:=at?_none hq
   repeat' (first|simp -implicitDefEqProofs only[go_sem,am_ hx,n11,qeaV,d_,q_,f_,s_,s10,n_,t_,zQ]|apply ai__<;>intro hb)
   all_goals first | (exfalso;simp at*;omega) | skip
   all_goals
    refine h _ ⟨_,_,rfl,rfl,hno ?_⟩;rw[<-hL];simp
  | some y=>
   obtain⟨j,rfl,hy⟩:=at?_some hq;have hj:=(zX.1 hy).1;rw[hq] at hL
   repeat' (first|simp -implicitDefEqProofs only[go_sem,am_ hx,n11,qeaV,d_,q_,f_,s_,s10,n_,t_,zQ,am_ hy,f10]|apply ai__<;>intro hb)
   all_goals first | (exfalso;simp at*;omega) | skip
   all_goals
    first | refine h _ ⟨_,_,rfl,rfl,hno ?_⟩ | refine h _ ⟨_,_,rfl,rfl,hok ⟨y.init.kind,1,i⟩ ?_⟩
    rw[<-hL];clear h hno hok hv hL;simp_all
 .simp only[l_,zK h1,zK h2,zK h3] at hL
  repeat' (first|simp -implicitDefEqProofs only[go_sem,am_ hx,n11,qeaV,d_,q_,f_,s_,s10,n_,t_,zQ]|apply ai__<;>intro hb)
  all_goals first | (exfalso;simp at*;omega) | skip
  all_goals exact h _ ⟨_,_,rfl,rfl,hno hL.symm⟩
def e14 (q:QeaT) (out:List ExT) (i:Nat) (x:NodeT):ExT:=
 match l_ q i x with
 | some e=>e
 | none=>if x.op<4∨16<x.op∨¬x.value=v0 then e0 else
  match at? out ((i:Int) - 1) with
  | none=>e0
  | some b=>if b.kind=0 then e0 else
   if x.op<=5 then (if x.a=(i:Int) - 1∧x.b=0 then ⟨o11 x.op b.kind b.kind,b.depth+1,b.from_⟩ else e0)
   else if x.b=(i:Int) - 1∧x.a=b.from_ - 1 then
    match at? out x.a with
    | none=>e0
    | some a=>if a.kind=0 then e0 else ⟨o11 x.op a.kind b.kind,max a.depth b.depth+1,a.from_⟩
   else e0
def exL (q:QeaT):Nat->List ExT
 | 0=>[]
 | n+1=>match q.nodes[n]? with
  | some x=>exL q n++[e14 q (exL q n) n x]
  | none=>exL q n
def e11 (q:QeaT):List ExT:=exL q q.nodes.length
theorem es_ {q:QeaT} {n:Nat} {x:NodeT} (h:q.nodes[n]?=some x):exL q (n+1)=exL q n++[e14 q (exL q n) n x]:=by rw[exL,h]
theorem el_ (q:QeaT):∀n,n<=q.nodes.length->(exL q n).length=n
 | 0,_ =>rfl
 | n+1,h=>by obtain⟨x,hx,_⟩:=as10 (l:=q.nodes) (i:=n) (by omega);rw[es_ hx,zL,el_ q n (by omega)];rfl
def exOk (l:List ExT):Prop:=∀(j:Nat) (e:ExT),l[j]?=some e->0<=e.from_∧e.from_<=(j:Int)∧0<=e.depth∧e.depth<=(j:Int)+1
theorem lo_ {q:QeaT} {i:Nat} {x:NodeT} {e:ExT} (h:l_ q i x=some e):e.depth=1∧e.from_=i:=by
 unfold l_ at h;split at h
 .split at h <;> simp at h;subst h;exact⟨rfl,rfl⟩
 split at h
 .split at h <;> simp at h;obtain⟨y,_,rfl⟩:=h;exact⟨rfl,rfl⟩
 split at h
 .split at h <;> simp at h;obtain⟨y,_,rfl⟩:=h;exact⟨rfl,rfl⟩
 .simp at h
theorem eo10 {q:QeaT} {out:List ExT} {i:Nat} {x:NodeT} (ho:exOk out) (hl:out.length=i):0<=(e14 q out i x).from_∧(e14 q out i x).from_<=i∧0<=(e14 q out i x).depth∧(e14 q out i x).depth<=i+1:=by
 have hz:0<=e0.from_∧e0.from_<=(i:Int)∧0<=e0.depth∧e0.depth<=(i:Int)+1:=by simp;omega
 unfold e14;split
 .obtain⟨h1,h2⟩:=lo_ ‹_›;omega
 .split
  .exact hz
  .split
   .exact hz
   .rename_i b hb;obtain⟨j,hj,hb⟩:=at?_some hb;have:=ho j b hb;split
    .exact hz
    split
    .split
     .dsimp only;omega
     .exact hz
    .split
     .split
      .exact hz
      .rename_i a ha;obtain⟨k,hk,ha⟩:=at?_some ha;have:=ho k a ha;split
       .exact hz
       .dsimp only;omega
     .exact hz
theorem eo11 (q:QeaT):∀n,n<=q.nodes.length->exOk (exL q n)
 | 0,_ =>λj e h=>by simp [exL] at h
 | n+1,h=>by
  obtain⟨x,hx,_⟩:=as10 (l:=q.nodes) (i:=n) (by omega);have hn:=el_ q n (by omega);rw[es_ hx];intro j e hj;rw[wE] at hj;split at hj
  .exact eo11 q n (by omega) j e hj
  .rename_i hlt;rw[hn] at hj;rw[List.getElem?_cons] at hj;split at hj
   .cases hj;have:=eo10 (q:=q) (x:=x) (eo11 q n (by omega)) hn;have:j=n:=by omega
    subst this;assumption
   .simp at hj
theorem vz_ (v:Val):(v.kind==0&&(v.int==0&&(v.str==[]&& !v.bool)))=decide (v=v0):=by obtain⟨a,b,c,d⟩:=v;rw[yY];simp
theorem aa10 {H:List (Nat×Box)} {sz i k m n:Nat} (hn:n<m):a16 H sz (.arr i k m) (.int .i64 (n:Int))=(hget H i).bind λb=>if b.sz=sz then some (.ref i (k+n) 0) else none:=by
 simp only[a16];cases hget H i with
 | none=>rfl
 | some b=>simp [show (n:Int)<m by omega]
def e19 (q:QeaT) (i:Nat):List AV:=(exL q i).map exV++List.replicate (q.nodes.length - i) (exV e0)
theorem ea10 {q:QeaT} {i j:Nat} {b:ExT} (h:(exL q i)[j]?=some b):(e19 q i)[j]?=some (exV b):=by have hj:=(zX.1 h).1;unfold e19;rw[xJ (by simpa using hj),zS,h];rfl
theorem en_ {q:QeaT} {i:Nat} (h:i<q.nodes.length):(e19 q i)[i]?=some (exV e0):=by have:=el_ q i (by omega);unfold e19;rw[xV (by simp [this]),uJ];simp [this];omega
theorem es12 {q:QeaT} {i:Nat} {x:NodeT} (hx:q.nodes[i]?=some x):(e19 q i).set i (exV (e14 q (exL q i) i x))=e19 q (i+1):=by have hi:=(zX.1 hx).1;have hn:=el_ q i (by omega);unfold e19;rw[es_ hx];obtain⟨m,hm⟩:∃m,q.nodes.length - i=m+1:=⟨q.nodes.length - i - 1,by omega⟩;rw[hm,show q.nodes.length - (i+1)=m by omega];simp [hn,List.replicate_succ,List.set_append]
theorem ea12 (q:QeaT):e19 q q.nodes.length=(e11 q).map exV:=by simp [e19,e11]
theorem cep_ (q:QeaT) (hl:q.nodes.length<=1000000):PQ G 156 [qeaV q] (.seq 3 ((e11 q).map exV)):=by
 refine pce_ λΦ h=>?_;unfold cce_
 have hmk:amks ⟨147,[(12,iv q.nodes.length),(11,n_ q.nodes),(10,.ref 1 0 7),(1,.ref 1 0 0)],[(2,⟨true,266,3,[]⟩),(1,⟨false,30,9,[qeaV q]⟩)]⟩ (some 13) 266 3 24 (.agg [iv 0,iv 0,iv 0]) (iv q.nodes.length) (iv q.nodes.length)=
   some ⟨147,[(13,.arr 13 0 q.nodes.length),(12,iv q.nodes.length),(11,n_ q.nodes),(10,.ref 1 0 7),(1,.ref 1 0 0)],[(13,⟨true,266,3,e19 q 0⟩),(2,⟨true,266,3,[]⟩),(1,⟨false,30,9,[qeaV q]⟩)]⟩:=by
  unfold amks;simp only[zP];rw[zY (by omega)];simp only[e19,exL,yU,tU,uE];rfl
 simp only[qeaV,d_,q_,f_,s_,s10,n_,t_] at hmk
 repeat' (first|simp -implicitDefEqProofs only[go_sem,qeaV,d_,q_,f_,s_,s10,n_,t_,zQ,hmk]|apply ai__<;>intro hb)
 refine al_ (λn st=>∃i:Nat,i+n=q.nodes.length∧st=⟨147,[(1,.ref 1 0 0),(3,.arr 13 0 q.nodes.length),(15,n_ q.nodes),(16,iv q.nodes.length),(17,iv i)],[(1,⟨false,30,9,[qeaV q]⟩),(2,⟨true,266,3,[]⟩),(13,⟨true,266,3,e19 q i⟩)]⟩) q.nodes.length ⟨0,by simp,rfl⟩ ?_;rintro I hI n st ⟨i,hi,rfl⟩;simp -implicitDefEqProofs only[go_sem,qeaV,d_,q_,f_,s_,s10,n_,t_,zQ];refine⟨λhlt=>?_,λhge=>?_⟩
 .have hlt':i<q.nodes.length:=by omega
  obtain⟨x,hx,hm⟩:=as10 hlt';have hw:=ws_ hlt';have hln:=el_ q i (by omega);have hex:=eo11 q i (by omega);have hlf:=clp_ (G:=G) q i x hx;have hnext:=en_ hlt';have fin:a13 I n ⟨147,[(1,.ref 1 0 0),(3,.arr 13 0 q.nodes.length),(15,n_ q.nodes),(16,iv q.nodes.length),(17,iv (i+1:Nat))],[(1,⟨false,30,9,[qeaV q]⟩),(2,⟨true,266,3,[]⟩),(13,⟨true,266,3,(e19 q i).set i (exV (e14 q (exL q i) i x))⟩)]⟩:=by rw[es12 hx];exact aa_ (n - 1) (by omega) (hI _ _ ⟨i+1,by omega,rfl⟩)
  have fin0:e14 q (exL q i) i x=e0->a13 I n ⟨147,[(1,.ref 1 0 0),(3,.arr 13 0 q.nodes.length),(15,n_ q.nodes),(16,iv q.nodes.length),(17,iv (i+1:Nat))],[(1,⟨false,30,9,[qeaV q]⟩),(2,⟨true,266,3,[]⟩),(13,⟨true,266,3,e19 q i⟩)]⟩:=λh0=>by
   rw[h0] at fin
   rwa [show (e19 q i).set i (exV e0)=e19 q i from by obtain⟨hlt,he⟩:=zX.1 hnext;rw[<-he,List.set_getElem_self]] at fin
  have harr:=@aa10;generalize hes:e19 q i=es at*;generalize hv:e14 q (exL q i) i x=v at*;have fin':∀w,w=exV v->a13 I n ⟨147,[(1,.ref 1 0 0),(3,.arr 13 0 q.nodes.length),(15,n_ q.nodes),(16,iv q.nodes.length),(17,iv (i+1:Nat))],[(1,⟨false,30,9,[qeaV q]⟩),(2,⟨true,266,3,[]⟩),(13,⟨true,266,3,es.set i w⟩)]⟩:=λw hw=>hw ▸ fin;obtain⟨op,na,mb,val⟩:=x;simp only[e14] at hv;simp only[qeaV,d_,q_,f_,s_,s10,n_,t_] at hlf;cases hL:l_ q i ⟨op,na,mb,val⟩ with
  | some e=>
   rw[hL] at hv hlf;simp only at hv;subst hv;simp only[l22,xK,Option.isSome_some,exV] at hlf
   repeat' (first|simp -implicitDefEqProofs only[go_sem,am_ hx,n11,qeaV,d_,q_,f_,s_,s10,n_,t_,zQ,exV,aa10 hlt',hnext,hw]|apply ai__<;>intro hb|refine ac_ hlf rfl rfl ?_|fail)
   all_goals exact fin
  | none=>
   rw[hL] at hv hlf;simp only[l22,Option.getD_none,vV,exV] at hlf;simp only at hv;cases hpb:at? (exL q i) ((i:Int) - 1) with
   | none=>
    have hi0:i=0:=by have:=at?_none hpb;omega
    subst hi0;rw[hpb] at hv;simp only[ite_self] at hv
    repeat' (first|simp -implicitDefEqProofs only[go_sem,am_ hx,n11,qeaV,d_,q_,f_,s_,s10,n_,t_,zQ,exV,hnext,hw]|apply ai__<;>intro hb|refine ac_ hlf rfl rfl ?_|fail)
    all_goals first | exact fin0 hv.symm | (exfalso;simp at hb;done)
   | some b=>
    obtain⟨j,hj,hbj⟩:=at?_some hpb;have hij:i=j+1:=by omega
    subst hij;rw[hpb] at hv;have hbrow:es[j]?=some (exV b):=hes ▸ ea10 hbj;have hok:=hex j b hbj;have hwj:IntKind.i64.wrap (((j+1:Nat):Int) - 1)=(j:Int):=by rw[wi_ (by omega) (by omega)];omega
    have hwf:IntKind.i64.wrap (b.from_ - 1)=b.from_ - 1:=wi_ (by omega) (by omega);have hwd:IntKind.i64.wrap (b.depth+1)=b.depth+1:=wi_ (by omega) (by omega);have hjN:j<q.nodes.length:=by omega
    rw[show ((j+1:Nat):Int) - 1=(j:Int) by omega] at hv;simp only at hv;cases ha:at? (exL q (j+1)) na with
    | none=>
     have hna:=at?_none ha;rw[ha] at hv
     repeat' (first|simp -implicitDefEqProofs only[go_sem,am_ hx,n11,qeaV,d_,q_,f_,s_,s10,n_,t_,zQ,exV,hnext,hw,hbrow,aa10 hlt',aa10 hjN,hwj,hwf,hwd]|apply ai__<;>intro hb|refine ac_ hlf rfl rfl ?_|refine ac_ (vTp_ _ _ _) rfl rfl ?_|fail)
     all_goals first | refine fin0 ?_ | refine fin' _ ?_ | exfalso
     all_goals
      try rw[<-hv]
      clear hmk hv fin fin' fin0 hlf hI hx hnext hes hw hex h hm hbrow hL hpb hi hlt hlt' hwj hwf hwd hjN hbj harr;simp only[vz_,yX,wM,vX,zW,yQ,zB,xC,bne_iff_ne,tK,sZ,tG] at*
      first | omega | (simp [exV, *];done) | (exfalso;omega)
    | some a=>
     obtain⟨k,rfl,hak⟩:=at?_some ha;have hkN:k<q.nodes.length:=by have:=(zX.1 hak).1;omega
     have harow:es[k]?=some (exV a):=hes ▸ ea10 hak;have hoka:=hex k a hak;have hwm:IntKind.i64.wrap ((if b.depth>a.depth then b.depth else a.depth)+1)=max a.depth b.depth+1:=by rw[wi_ (by split <;> omega) (by split <;> omega)];split <;> omega
     rw[ha] at hv;simp only at hv
     repeat' (first|simp -implicitDefEqProofs only[go_sem,am_ hx,n11,qeaV,d_,q_,f_,s_,s10,n_,t_,zQ,exV,hnext,hw,hbrow,harow,aa10 hlt',aa10 hjN,aa10 hkN,hwj,hwf,hwd,hwm]|apply ai__<;>intro hb|refine ac_ hlf rfl rfl ?_|refine ac_ (vTp_ _ _ _) rfl rfl ?_|fail)
     all_goals first | refine fin0 ?_ | refine fin' _ ?_ | exfalso
     all_goals
      try rw[<-hv]
      clear hmk hv fin fin' fin0 hlf hI hx hnext hes hw hex h hm hbrow hL hpb hi hlt hlt' hwj hwf hwd hjN hbj harr hak hkN harow hwm;simp only[vz_,yX,wM,vX,zW,yQ,zB,xC,bne_iff_ne,tK,sZ,tG] at*
      first | omega | (simp [exV, *];done) | (exfalso;omega)
 .have:i=q.nodes.length:=by omega
  subst this;rw[ea12];have hln:(e11 q).length=q.nodes.length:=el_ q _ (by omega)
  repeat' (first|simp -implicitDefEqProofs only[go_sem]|apply ai__<;>intro hb)
  refine h _ ⟨_,_,rfl,?_,.refl _⟩;simp -implicitDefEqProofs only[view,one,eget,hget,uD,xW,reduceIte,Nat.reduceEqDiff,Nat.reduceLT,yS,zQ,hln,zN,and_self,xO];rw[<-hln,zT (by simp)]
structure SlotT where
 var:Int
 value:Val
deriving DecidableEq
def s19 (s:SlotT):AV:=.agg [iv s.var,iv s.value.kind,iv s.value.int,.str s.value.str,.bool s.value.bool]
def s11 (l:List SlotT):AV:=.seq 5 (l.map s19)
def v_ (l:List Val):AV:=.seq 4 (l.map valV)
def getR (l:List SlotT) (v:Int):Val×Bool:=match l.find? (λs=>s.var==v) with | some s=>(s.value,true) | none=>(v0,false)
def vbt (r:Val×Bool):AV:=.tup [valV r.1,.bool r.2]
theorem gy10 {x:SlotT} {r:List SlotT} {v:Int} (h:(x.var==v)=true):getR (x::r) v=(x.value,true):=by simp [getR,List.find?_cons,h]
theorem gn_ {x:SlotT} {r:List SlotT} {v:Int} (h:(x.var==v)=false):getR (x::r) v=getR r v:=by simp [getR,List.find?_cons,h]
theorem rGp_ (l:List SlotT) (hl:l.length<9223372036854775807) (v:Int):PQ G 73 [s11 l,iv v] (vbt (getR l v)):=by
 refine pp44 λΦ h=>?_;unfold cp45;simp -implicitDefEqProofs only[go_sem,s11,zQ];refine al_ (λn st=>∃i:Nat,i+n=l.length∧st=⟨26,[(0,.seq 5 (l.map s19)),(1,iv v),(4,.ref 4 0 0),(6,iv i)],[(4,⟨false,48,4,[valV v0]⟩)]⟩∧getR (l.drop i) v=getR l v) l.length ⟨0,by simp,rfl,rfl⟩ ?_;rintro I hI n st ⟨i,hi,rfl,hno⟩;simp -implicitDefEqProofs only[go_sem,zQ];refine⟨λhlt=>?_,λhge=>?_⟩
 .have hlt':i<l.length:=by omega
  obtain⟨x,hx,hm⟩:=as10 hlt';have hw:=ws_ hlt';rw[da10 hx] at hno;cases hv:x.var==v with
  | true=>
   rw[gy10 hv] at hno
   repeat' (first|simp -implicitDefEqProofs only[go_sem,am_ hx,s19,valV,hv]|apply ai__<;>intro hb)
   exact h _ ⟨_,_,rfl,rfl,fe_ (by rw[<-hno];rfl)⟩
  | false=>
   rw[gn_ hv] at hno
   repeat' (first|simp -implicitDefEqProofs only[go_sem,am_ hx,s19,valV,hv,hw]|apply ai__<;>intro hb)
   exact aa_ (n - 1) (by omega) (hI _ _ ⟨i+1,by omega,rfl,hno⟩)
 .have:i=l.length:=by omega
  subst this;rw[yO (zN _)] at hno;simp -implicitDefEqProofs only[go_sem,valV];exact h _ ⟨_,_,rfl,rfl,fe_ (by rw[<-hno];rfl)⟩
def f24 (v:Val) (f:FreeT):Bool:=v.ok&&v.kind==f.init.kind
def f21 (vals:List Val) (l:List FreeT):Bool:=vals.length==l.length&&(vals.zip l).all λx=>f24 x.1 x.2
theorem ft10 {vals:List Val} {l:List FreeT} (hl:vals.length=l.length) (h:∀(i:Nat) v f,vals[i]?=some v->l[i]?=some f->f24 v f=true):f21 vals l=true:=by unfold f21;rw[zJ];refine⟨by simpa using hl,?_⟩;rw[xQ];rintro⟨v,f⟩ hm;obtain⟨i,hi⟩:=zM hm;rw[tX] at hi;exact h i v f hi.1 hi.2
theorem fa_ {vals:List Val} {l:List FreeT} (h:f21 vals l=true):vals.length=l.length∧∀(i:Nat) v f,vals[i]?=some v->l[i]?=some f->v.ok=true∧v.kind=f.init.kind:=by unfold f21 at h;rw[zJ,xQ] at h;refine⟨by simpa using h.1,λi v f hv hf=>?_⟩;have:=h.2 (v,f) (zG (i:=i) (by rw[tX];exact⟨hv,hf⟩));simpa [f24] using this
def q14 (b:List SlotT) (a ty:Int):Val×Int:=if (getR b a).2=true∧(getR b a).1.kind=ty then ((getR b a).1,0) else (v0,9)
