/- Lemmas. -/
import Derived.Test.YtkgcnoghjibiaaaGreatDoorYV5
import Derived.WalkLawsBesides
import Derived.Stop.Asserts
import Derived.Deep.Cut
import Derived.Lib.Hide
import Derived.Deep.Heap
set_option linter.unusedSimpArgs false
set_option maxHeartbeats 4000000
set_option maxRecDepth 100000
namespace Go.Proofs.YtkgcnoghjibiaaaGreatDoor.Ab
open Go
variable {G:Nat->Option AV}
def evOp (op:Int) (r s:Val×Int):Val×Int:=
 if ¬r.2=0 then (v0,r.2) else if op<=5 then opR op r.1 v0 else if (op=6∧r.1.bool=false)∨(op=7∧r.1.bool=true) then (r.1,0) else if ¬s.2=0 then (v0,s.2) else opR op r.1 s.1
def evN (q:QeaT) (b:List SlotT) (vals:List Val) (rec:Int->Val×Int) (x:NodeT):Val×Int:=
 if x.op=1 then (x.value,0)
 else if x.op=2 then (match at? q.quants x.a with | some y=>q14 b x.a y.type | none=>(v0,1))
 else if x.op=3 then (match at? vals x.a with | some v=>(v,0) | none=>(v0,1))
 else evOp x.op (rec x.a) (rec x.b)
def ev (q:QeaT) (b:List SlotT) (vals:List Val) (i:Nat):Val×Int:=
 match q.nodes[i]? with
 | none=>(v0,1)
 | some x=>evN q b vals (λj=>if _h:j.toNat<i then ev q b vals j.toNat else (v0,1)) x
termination_by i
theorem ev_at {q:QeaT} {b:List SlotT} {vals:List Val} {i:Nat} {x:NodeT} (h:q.nodes[i]?=some x):ev q b vals i=evN q b vals (λj=>if j.toNat<i then ev q b vals j.toNat else (v0,1)) x:=by rw[ev,h];rfl
def VOk (v:Val):Prop:=v.ok=true∧i64 v.int
theorem VOk.kind {v:Val} (h:VOk v):1<=v.kind∧v.kind<=3:=by
 have:=h.1;unfold Val.ok at this;split at this
 .omega
 .split at this
  .omega
  .simp only[zJ,zW] at this;omega
theorem VOk.str {v:Val} (h:VOk v):v.str.length<=4096:=by
 have:=h.1;unfold Val.ok at this;split at this
 .simp only[zJ,zB] at this;rw[this.1];simp
 .split at this
  .simp only[zJ,zW] at this;omega
  .simp only[zJ,zW,zB] at this;rw[this.2.2];simp
def ROk (r:Val×Int):Prop:=(r.2=0∧VOk r.1)∨(r.1=v0∧(r.2=3∨r.2=6∨r.2=7∨r.2=8∨r.2=9))
theorem VOk.truth (b:Bool):VOk ⟨3,0,[],b⟩:=⟨rfl,by unfold i64;simp⟩
theorem VOk.num {n:Int} (h:i64 n):VOk ⟨1,n,[],false⟩:=⟨rfl,h⟩
theorem ROk.ovR {n:Int}:(ovR n).2=0∧i64 (ovR n).1∨(ovR n).2=6:=by
 unfold Ab.ovR;split
 .rename_i h;exact .inl ⟨rfl,by unfold i64;have:=ii_.1 h;dsimp only;omega⟩
 .exact .inr rfl
theorem no11 {op a b:Int} (ha:i64 a) (hop:op=5∨(8<=op∧op<=12)):((numR op a b).2=0∧i64 (numR op a b).1)∨(numR op a b).2=6∨(numR op a b).2=7:=by
 have h:∀n,((ovR n).2=0∧i64 (ovR n).1)∨(ovR n).2=6∨(ovR n).2=7:=λn=>(ROk.ovR (n:=n)).imp id .inl;have hop':op=5∨op=8∨op=9∨op=10∨op=11∨op=12:=by omega
 unfold numR;rcases hop' with rfl | rfl | rfl | rfl | rfl | rfl
 .exact h _
 .exact h _
 .exact h _
 .exact h _
 .show ((divR a b).2=0∧i64 (divR a b).1)∨(divR a b).2=6∨(divR a b).2=7;unfold divR;split
  .exact .inr (.inr rfl)
  .exact h _
 .show ((modR a b).2=0∧i64 (modR a b).1)∨(modR a b).2=6∨(modR a b).2=7;unfold modR;split
  .exact .inr (.inr rfl)
  .exact .inl ⟨rfl,ts14 ha⟩
theorem to22 (s:Str):ROk (t46 s):=by
 unfold t46;split
 .exact .inr ⟨rfl,.inl rfl⟩
 .refine .inl ⟨rfl,?_,by unfold i64;simp⟩;simp [Val.ok];omega
theorem oo12 {op:Int} {a b:Val} (ha:VOk a) (hop:4<=op∧op<=16):ROk (opR op a b):=by
 unfold opR;rw[zK (by omega)];split
 .exact .inr ⟨rfl,.inr (.inr (.inr (.inl rfl)))⟩
 rename_i hk;split
 .exact .inl ⟨rfl,.truth _⟩
 split
 .exact .inl ⟨rfl,.truth _⟩
 split
 .exact .inl ⟨rfl,.truth _⟩
 split
 .exact .inl ⟨rfl,.truth _⟩
 split
 .exact .inl ⟨rfl,.truth _⟩
 split
 .exact .inl ⟨rfl,.truth _⟩
 split
 .exact .inl ⟨rfl,.truth _⟩
 split
 .exact to22 _
 rcases no11 (op:=op) (b:=b.int) ha.2 (by omega) with ⟨h1,h2⟩ | h1 | h1
 .rw[zY h1];exact .inl ⟨rfl,.num h2⟩
 .rw[zK (by omega),h1];exact .inr ⟨rfl,by simp⟩
 .rw[zK (by omega),h1];exact .inr ⟨rfl,by simp⟩
inductive NodeW (q:QeaT) (i:Nat) (x:NodeT):Prop where
 | con (h:x.op=1) (hv:VOk x.value)
 | quant (h:x.op=2) (j:Nat) (hj:x.a=j) (y:QuantT) (hy:q.quants[j]?=some y)
 | free (h:x.op=3) (j:Nat) (hj:x.a=j) (y:FreeT) (hy:q.frees[j]?=some y)
 | una (h:x.op=4∨x.op=5) (j:Nat) (hj:x.a=j) (hlt:j<i)
 | bin (h:6<=x.op∧x.op<=16) (j k:Nat) (hj:x.a=j) (hk:x.b=k) (hj':j<i) (hk':k<i)
structure Safe (q:QeaT) (S:Nat->Prop):Prop where
 node:∀i,S i->∃x,q.nodes[i]?=some x∧NodeW q i x
 sub:∀i x,S i->q.nodes[i]?=some x->4<=x.op->S x.a.toNat∧(6<=x.op->S x.b.toNat)
structure Env (q:QeaT) (b:List SlotT) (vals:List Val):Prop where
 bl:b.length<=1000000
 bok:∀s∈b,VOk s.value
 fit:vals.length=q.frees.length
 vok:∀v∈vals,VOk v
 vl:vals.length<=1000000
theorem go11 {b:List SlotT} (h:∀s∈b,VOk s.value) {v:Int} (hg:(getR b v).2=true):VOk (getR b v).1:=by
 unfold getR at hg ⊢;split
 .rename_i s hs;exact h s (vT hs)
 .rename_i hn;rw[hn] at hg;cases hg
theorem qo_ {b:List SlotT} (h:∀s∈b,VOk s.value) (a t:Int):ROk (q14 b a t):=by
 unfold q14;split
 .rename_i hg;exact .inl ⟨rfl,go11 h hg.1⟩
 .exact .inr ⟨rfl,by simp⟩
theorem eu_ {q:QeaT} {b:List SlotT} {vals:List Val} {i j:Nat} {x:NodeT} (hx:q.nodes[i]?=some x) (h:x.op=4∨x.op=5) (hj:x.a=j) (hlt:j<i):ev q b vals i=if ¬(ev q b vals j).2=0 then (v0,(ev q b vals j).2) else opR x.op (ev q b vals j).1 v0:=by
 rw[ev_at hx];unfold evN;rw[zK (by omega),zK (by omega),zK (by omega),hj];dsimp only;rw[zP,zY hlt];unfold evOp;split
 .rfl
 .rw[zY (by omega)]
theorem eb10 {q:QeaT} {b:List SlotT} {vals:List Val} {i j k:Nat} {x:NodeT} (hx:q.nodes[i]?=some x) (h:6<=x.op∧x.op<=16) (hj:x.a=j) (hk:x.b=k) (hlt:j<i) (hlk:k<i):ev q b vals i=evOp x.op (ev q b vals j) (ev q b vals k):=by rw[ev_at hx];unfold evN;rw[zK (by omega),zK (by omega),zK (by omega),hj,hk];dsimp only;rw[zP,zP,zY hlt,zY hlk]
theorem ev_ok {q:QeaT} {b:List SlotT} {vals:List Val} {S:Nat->Prop} (hS:Safe q S) (hE:Env q b vals) (i:Nat) (hi:S i):ROk (ev q b vals i):=by
 induction i using Nat.strongRecOn with
 | _ i ih=>
  obtain⟨x,hx,hw⟩:=hS.node i hi;cases hw with
  | con h hv=>rw[ev_at hx,evN,zY h];exact .inl ⟨rfl,hv⟩
  | quant h j hj y hy=>
   rw[ev_at hx,evN,zK (by omega),zY h,hj,at?_nat hy];exact qo_ hE.bok _ _
  | free h j hj y hy=>
   have hlt:=(zX.1 hy).1;obtain⟨v,hv,hm⟩:=as10 (l:=vals) (i:=j) (by have:=hE.fit;omega);rw[ev_at hx,evN,zK (by omega),zK (by omega),zY h,hj,at?_nat hv];exact .inl ⟨rfl,hE.vok v hm⟩
  | una h j hj hlt=>
   have hs:=(hS.sub i x hi hx (by omega)).1;rw[hj,zP] at hs;rw[eu_ hx h hj hlt];rcases ih j hlt hs with ⟨h1,h2⟩ | ⟨h1,h2⟩
   .rw[zK (by omega)];exact oo12 h2 (by omega)
   .rw[zY (by omega)];exact .inr ⟨rfl,h2⟩
  | bin h j k hj hk hlt hlk=>
   obtain⟨hs,hs2⟩:=hS.sub i x hi hx (by omega);have hs2:=hs2 (by omega);rw[hj,zP] at hs;rw[hk,zP] at hs2;rw[eb10 hx h hj hk hlt hlk];unfold evOp;rcases ih j hlt hs with ⟨h1,h2⟩ | ⟨h1,h2⟩
   .rw[zK (by omega),zK (by omega)];split
    .exact .inl ⟨rfl,h2⟩
    .rcases ih k hlk hs2 with ⟨h3,h4⟩ | ⟨h3,h4⟩
     .rw[zK (by omega)];exact oo12 h2 (by omega)
     .rw[zY (by omega)];exact .inr ⟨rfl,h4⟩
   .rw[zY (by omega)];exact .inr ⟨rfl,h2⟩
theorem VOk.zero:i64 v0.int:=by unfold i64;simp
theorem rVp_ {q:QeaT} {b:List SlotT} {vals:List Val} {S:Nat->Prop} (hS:Safe q S) (hE:Env q b vals) (i:Nat) (hi:S i):PQ G 293 [qeaV q,iv i,s11 b,v_ vals] (vt (ev q b vals i)):=by
 induction i using Nat.strongRecOn with
 | _ i ih=>
  obtain⟨x,hx,hw⟩:=hS.node i hi;refine ppV_ λΦ h=>?_;unfold cpV_;unfold vt at h;have hsub:=hS.sub i x hi hx;obtain⟨op,xa,xb,⟨vk,vn,vs,vb⟩⟩:=x;cases hw with
  | con ho hv=>
   dsimp only at ho;subst ho;rw[ev_at hx,evN,zY rfl] at h
   repeat' (first|simp -implicitDefEqProofs only[go_sem,qeaV,d_,q_,f_,s_,s10,n_,t_,am_ hx,n11,valV]|apply ai__<;>intro hb)
   exact hq_ h
  | quant ho j hj y hy=>
   dsimp only at ho hj;subst ho;subst hj;rw[ev_at hx,evN,zK (by simp),zY rfl,at?_nat hy] at h;dsimp only at h;have hg:=rGp_ (G:=G) b (by have:=hE.bl;omega) j;unfold q14 at h;generalize getR b j=r at*;obtain⟨⟨k,n,s,t⟩,ok⟩:=r;unfold vbt s11 at hg;simp only[valV] at hg h;cases ok
   .repeat' (first|simp -implicitDefEqProofs only[go_sem,qeaV,d_,q_,f_,s_,s10,n_,t_,am_ hx,n11,s11,v_,am_ hy,q11]|apply ai__<;>intro hb|refine ac_ hg rfl rfl ?_|fail)
    exact h _ ⟨_,_,rfl,rfl,fe_ (by simp)⟩
   .by_cases hk:k=y.type
    .subst hk
     repeat' (first|simp -implicitDefEqProofs only[go_sem,qeaV,d_,q_,f_,s_,s10,n_,t_,am_ hx,n11,s11,v_,am_ hy,q11,uP]|apply ai__<;>intro hb|refine ac_ hg rfl rfl ?_|fail)
     exact h _ ⟨_,_,rfl,rfl,fe_ (by simp)⟩
    .have hk':(k != y.type)=true:=by simpa using hk
     repeat' (first|simp -implicitDefEqProofs only[go_sem,qeaV,d_,q_,f_,s_,s10,n_,t_,am_ hx,n11,s11,v_,am_ hy,q11,hk']|apply ai__<;>intro hb|refine ac_ hg rfl rfl ?_|fail)
     exact h _ ⟨_,_,rfl,rfl,fe_ (by simp [hk])⟩
  | free ho j hj y hy=>
   dsimp only at ho hj;subst ho;subst hj;have hlt:=(zX.1 hy).1;obtain⟨v,hv,hm⟩:=as10 (l:=vals) (i:=j) (by have:=hE.fit;omega);rw[ev_at hx,evN,zK (by simp),zK (by simp),zY rfl,at?_nat hv] at h
   repeat' (first|simp -implicitDefEqProofs only[go_sem,qeaV,d_,q_,f_,s_,s10,n_,t_,am_ hx,n11,s11,v_,am_ hv,valV]|apply ai__<;>intro hb)
   exact hq_ h
  | una ho j hj hlt=>
   rw[eu_ hx ho hj hlt] at h;dsimp only at ho hj h;subst hj;have hs:=(hsub (by dsimp only;omega)).1;dsimp only at hs;rw[zP] at hs;have hc:=ih j hlt hs;have hop:PQ G 261 [iv op,valV (ev q b vals j).1,valV v0] (vt (opR op (ev q b vals j).1 v0))∨¬(ev q b vals j).2=0:=by
    rcases ev_ok hS hE j hs with ⟨h1,h2⟩ | ⟨h1,h2⟩
    .exact .inl (rOp_ op _ v0 h2.2 VOk.zero (by have:=h2.str;simp;omega) (by omega) h2.kind)
    .exact .inr (by omega)
   generalize ev q b vals j=r at*;obtain⟨⟨k,n,s,t⟩,e⟩:=r;dsimp only at h hop;generalize opR op ⟨k,n,s,t⟩ v0=z at*;obtain⟨⟨zk,zn,zs,zt⟩,ze⟩:=z;unfold vt s11 v_ at*;simp only[valV,qeaV,d_,q_,f_,s_,s10,n_,t_] at hc hop h;clear ih hsub;rcases hop with hop | hne
   .by_cases he:e=0
    .subst he;simp only[wF,yI] at h;rcases ho with rfl | rfl
     all_goals
      repeat' (first|simp -implicitDefEqProofs only[go_sem,qeaV,d_,q_,f_,s_,s10,n_,t_,am_ hx,n11]|apply ai__<;>intro hb|refine ac_ hc rfl rfl ?_|refine ac_ hop rfl rfl ?_|fail)
      exact hq_ h
    .have he':(e != 0)=true:=by simpa using he
     rw[zY he] at h;rcases ho with rfl | rfl
     all_goals
      repeat' (first|simp -implicitDefEqProofs only[go_sem,qeaV,d_,q_,f_,s_,s10,n_,t_,am_ hx,n11,he']|apply ai__<;>intro hb|refine ac_ hc rfl rfl ?_|fail)
      exact hq_ h
   .have he':(e != 0)=true:=by simpa using hne
    rw[zY hne] at h;rcases ho with rfl | rfl
    all_goals
     repeat' (first|simp -implicitDefEqProofs only[go_sem,qeaV,d_,q_,f_,s_,s10,n_,t_,am_ hx,n11,he']|apply ai__<;>intro hb|refine ac_ hc rfl rfl ?_|fail)
     exact hq_ h
  | bin ho j k hj hk hlt hlk=>
   rw[eb10 hx ho hj hk hlt hlk] at h;dsimp only at ho hj hk h;subst hj;subst hk;obtain⟨hs,hs2⟩:=hsub (by dsimp only;omega);have hs2:=hs2 (by dsimp only;omega);dsimp only at hs hs2;rw[zP] at hs hs2;have hc1:=ih j hlt hs;have hc2:=ih k hlk hs2;have hop:(ev q b vals j).2=0->(ev q b vals k).2=0->PQ G 261 [iv op,valV (ev q b vals j).1,valV (ev q b vals k).1] (vt (opR op (ev q b vals j).1 (ev q b vals k).1)):=λz1 z2=>by
    rcases ev_ok hS hE j hs with ⟨h1,h2⟩ | ⟨h1,h2⟩
    .rcases ev_ok hS hE k hs2 with ⟨h3,h4⟩ | ⟨h3,h4⟩
     .exact rOp_ op _ _ h2.2 h4.2 (by have:=h2.str;have:=h4.str;omega) (by omega) h2.kind
     .omega
    .omega
   unfold evOp at h;generalize ev q b vals j=r at*;generalize ev q b vals k=u at*;obtain⟨⟨rk,rn,rs,rb⟩,e⟩:=r;obtain⟨⟨uk,un,us,ub⟩,f⟩:=u;dsimp only at h hop;generalize opR op ⟨rk,rn,rs,rb⟩ ⟨uk,un,us,ub⟩=z at*;obtain⟨⟨zk,zn,zs,zt⟩,ze⟩:=z;unfold vt s11 v_ at*;simp only[valV,qeaV,d_,q_,f_,s_,s10,n_,t_] at hc1 hc2 hop h;clear ih hsub;have n1:(op==1)=false:=by simp;omega
   have n2:(op==2)=false:=by simp;omega
   have n3:(op==3)=false:=by simp;omega
   have n5:(op<=5)=False:=by simp;omega
   by_cases he:e=0
   .subst he;rw[zK (by omega),zK (by omega)] at h;have tail:(¬((op=6∧rb=false)∨(op=7∧rb=true)))->∀b6 b7:Bool,(op==6)=b6->(op==7)=b7->True:=λ_ _ _ _ _ =>trivial;by_cases hf:f=0
    .subst hf;have hop:=hop rfl rfl;by_cases h6:op=6
     .subst h6;cases rb
      .repeat' (first|simp -implicitDefEqProofs only[go_sem,qeaV,d_,q_,f_,s_,s10,n_,t_,am_ hx,n11]|apply ai__<;>intro hb|refine ac_ hc1 rfl rfl ?_|refine ac_ hc2 rfl rfl ?_|refine ac_ hop rfl rfl ?_|fail)
       exact hq_ h
      .repeat' (first|simp -implicitDefEqProofs only[go_sem,qeaV,d_,q_,f_,s_,s10,n_,t_,am_ hx,n11]|apply ai__<;>intro hb|refine ac_ hc1 rfl rfl ?_|refine ac_ hc2 rfl rfl ?_|refine ac_ hop rfl rfl ?_|fail)
       exact hq_ h
     by_cases h7:op=7
     .subst h7;cases rb
      .repeat' (first|simp -implicitDefEqProofs only[go_sem,qeaV,d_,q_,f_,s_,s10,n_,t_,am_ hx,n11]|apply ai__<;>intro hb|refine ac_ hc1 rfl rfl ?_|refine ac_ hc2 rfl rfl ?_|refine ac_ hop rfl rfl ?_|fail)
       exact hq_ h
      .repeat' (first|simp -implicitDefEqProofs only[go_sem,qeaV,d_,q_,f_,s_,s10,n_,t_,am_ hx,n11]|apply ai__<;>intro hb|refine ac_ hc1 rfl rfl ?_|refine ac_ hc2 rfl rfl ?_|refine ac_ hop rfl rfl ?_|fail)
       exact hq_ h
     rw[zK (by omega),zK (by omega)] at h;have n6:(op==6)=false:=by simpa using h6
     have n7:(op==7)=false:=by simpa using h7
     repeat' (first|simp -implicitDefEqProofs only[go_sem,qeaV,d_,q_,f_,s_,s10,n_,t_,am_ hx,n11,n1,n2,n3,n5,n6,n7,yA]|apply ai__<;>intro hb|refine ac_ hc1 rfl rfl ?_|refine ac_ hc2 rfl rfl ?_|refine ac_ hop rfl rfl ?_|fail)
     exact hq_ h
    .have he':(f != 0)=true:=by simpa using hf
     clear hop;by_cases h6:op=6
     .subst h6;cases rb
      .repeat' (first|simp -implicitDefEqProofs only[go_sem,qeaV,d_,q_,f_,s_,s10,n_,t_,am_ hx,n11,he']|apply ai__<;>intro hb|refine ac_ hc1 rfl rfl ?_|refine ac_ hc2 rfl rfl ?_|fail)
       exact hq_ h
      .rw[zK (by simp),zY hf] at h
       repeat' (first|simp -implicitDefEqProofs only[go_sem,qeaV,d_,q_,f_,s_,s10,n_,t_,am_ hx,n11,he']|apply ai__<;>intro hb|refine ac_ hc1 rfl rfl ?_|refine ac_ hc2 rfl rfl ?_|fail)
       exact hq_ h
     by_cases h7:op=7
     .subst h7;cases rb
      .rw[zK (by simp),zY hf] at h
       repeat' (first|simp -implicitDefEqProofs only[go_sem,qeaV,d_,q_,f_,s_,s10,n_,t_,am_ hx,n11,he']|apply ai__<;>intro hb|refine ac_ hc1 rfl rfl ?_|refine ac_ hc2 rfl rfl ?_|fail)
       exact hq_ h
      .repeat' (first|simp -implicitDefEqProofs only[go_sem,qeaV,d_,q_,f_,s_,s10,n_,t_,am_ hx,n11,he']|apply ai__<;>intro hb|refine ac_ hc1 rfl rfl ?_|refine ac_ hc2 rfl rfl ?_|fail)
       exact hq_ h
     rw[zK (by omega),zY hf] at h;have n6:(op==6)=false:=by simpa using h6
     have n7:(op==7)=false:=by simpa using h7
     repeat' (first|simp -implicitDefEqProofs only[go_sem,qeaV,d_,q_,f_,s_,s10,n_,t_,am_ hx,n11,n1,n2,n3,n5,n6,n7,he',yA]|apply ai__<;>intro hb|refine ac_ hc1 rfl rfl ?_|refine ac_ hc2 rfl rfl ?_|fail)
     exact hq_ h
   .have he':(e != 0)=true:=by simpa using he
    rw[zY he] at h
    repeat' (first|simp -implicitDefEqProofs only[go_sem,qeaV,d_,q_,f_,s_,s10,n_,t_,am_ hx,n11,n1,n2,n3,he']|apply ai__<;>intro hb|refine ac_ hc1 rfl rfl ?_|fail)
    exact hq_ h
open Go.RowKit
theorem ra14 {w:World} {F:Nat->Prop} {nm:N_} {cs:List AV} {v:Value} (h:Rd w F nm (.agg cs) v):∃us:List Value,v= .agg us.toArray∧cs.length=us.length∧∀(j:Nat) c u,cs[j]?=some c->us[j]?=some u->Rd w F nm c u:=by cases h;exact⟨_,rfl,‹_›,‹_›⟩
open Go.Extern.Stop Go.Stop Go.Extern
abbrev hB:Nat:=2
theorem ROk.none {r:Val×Int} (h:ROk r) (h0:¬r.2=0):r.1=v0:=by
 rcases h with ⟨h1,_⟩ | ⟨h1,_⟩
 .exact absurd h1 h0
 .exact h1
def g_ (q:QeaT) (b:List SlotT) (vals:List Val) (t:TransT):Bool×Int:=if t.guard<0 then (true,0) else ((ev q b vals t.guard.toNat).1.bool,(ev q b vals t.guard.toNat).2)
theorem rG10 {q:QeaT} {b:List SlotT} {vals:List Val} {S:Nat->Prop} (hS:Safe q S) (hE:Env q b vals) (j:Nat) (t:TransT) (ht:q.trans[j]?=some t) (hs:0<=t.guard->S t.guard.toNat):
  PQ G 282 [qeaV q,iv j,s11 b,v_ vals] (.tup [.bool (g_ q b vals t).1,iv (g_ q b vals t).2]):=by
 obtain⟨t1,t2,t3,g,sets⟩:=t;dsimp only at hs;unfold g_;dsimp only;by_cases hg:g<0
 .rw[zY hg];have e3:(g<0)=True:=by simp;exact hg
  refine ppG_ λΦ h=>?_;unfold cpG_
  repeat' (first|simp -implicitDefEqProofs only[go_sem,qeaV,d_,q_,f_,s_,s10,n_,t_,v_,s11,zQ,e3,yD,am_ ht,t11,s18]|apply ai__<;>intro hb)
  exact hq_ h
 .rw[zK hg];have e3:(g<0)=False:=by simp;omega
  obtain⟨i,rfl⟩:∃i:Nat,g=i:=⟨g.toNat,by omega⟩;rw[zP] at hs ⊢;have hi:=hs (by omega);have hr:=rVp_ hS hE i hi (G:=G);generalize ev q b vals i=r at*;obtain⟨⟨k,n,s,bt⟩,e⟩:=r;unfold vt at hr;simp only[valV,qeaV,d_,q_,f_,s_,s10,n_,t_,s11,v_] at hr;refine ppG_ λΦ h=>?_;unfold cpG_
  repeat' (first|simp -implicitDefEqProofs only[go_sem,qeaV,d_,q_,f_,s_,s10,n_,t_,v_,s11,zQ,e3,yA,am_ ht,t11,s18]|apply ai__<;>intro hb|refine ac_ hr rfl rfl ?_|fail)
  exact hq_ h
def s25 (q:QeaT) (b:List SlotT) (vals:List Val):List SetT->List Val->List Val×Int
 | [],out=>(out,0)
 | s::r,out=>if ¬(ev q b vals s.expr.toNat).2=0 then ([],(ev q b vals s.expr.toNat).2) else s25 q b vals r (out.set s.free.toNat (ev q b vals s.expr.toNat).1)
theorem se14 {q:QeaT} {b:List SlotT} {vals:List Val} {l:List SetT} {i:Nat} {out:List Val} (h:l.length<=i):s25 q b vals (l.drop i) out=(out,0):=by rw[yO h,s25]
theorem sb10 {q:QeaT} {b:List SlotT} {vals:List Val} {l:List SetT} {i e:Nat} {out:List Val} {s:SetT} (h:l[i]?=some s) (he:s.expr=e) (h0:¬(ev q b vals e).2=0):s25 q b vals (l.drop i) out=([],(ev q b vals e).2):=by rw[da10 h,s25,he,zP,zY h0]
theorem sg10 {q:QeaT} {b:List SlotT} {vals:List Val} {l:List SetT} {i e f:Nat} {out:List Val} {s:SetT} (h:l[i]?=some s) (he:s.expr=e) (hf:s.free=f) (h0:(ev q b vals e).2=0):s25 q b vals (l.drop i) out=s25 q b vals (l.drop (i+1)) (out.set f (ev q b vals e).1):=by rw[da10 h,s25,he,hf,zP,zP,zK (by omega)]
def S11 (S:Nat->Prop) (n:Nat) (l:List SetT):Prop:=∀s∈l,∃e f:Nat,s.expr=e∧s.free=f∧S e∧f<n
theorem ar10 {H:List (Nat×Box)} {i n f:Nat} {b:Box} (h:hget H i=some b) (hs:b.sz=4) (hf:f<n):a16 H 4 (.arr i 0 n) (.int .i64 (f:Int))=some (.ref i f 0):=by rw[aa10 hf,h];simp [hs]
theorem rS14 {q:QeaT} {b:List SlotT} {vals:List Val} {S:Nat->Prop} (hS:Safe q S) (hE:Env q b vals) (j:Nat) (t:TransT) (ht:q.trans[j]?=some t) (hs:S11 S vals.length t.sets) (hsl:t.sets.length<=1000000):
  PQ G 283 [qeaV q,iv j,s11 b,v_ vals] (.tup [v_ (s25 q b vals t.sets vals).1,iv (s25 q b vals t.sets vals).2]):=by
 obtain⟨t1,t2,t3,g,sets⟩:=t;dsimp only at hs hsl ⊢;have hb:vals.length*40<=140737488355328:=by have:=hE.vl;omega
 refine pp31 λΦ h=>?_;unfold cp33
 repeat' (first|simp -implicitDefEqProofs only[go_sem,qeaV,d_,q_,f_,s_,s10,n_,t_,v_,s11,zQ,am_ ht,t11,s18,hb]|apply ai__<;>intro hb)
 refine al_ (λn st=>∃(i:Nat) (out:List Val),i+n=sets.length∧st=⟨54,[(2,.seq 5 (b.map s19)),(3,.seq 4 (vals.map valV)),(4,.ref 4 0 0),(10,.arr 15 0 vals.length),(11,.seq 2 (sets.map setV)),(12,iv i)],[(4,⟨false,30,9,[qeaV q]⟩),(8,⟨true,48,4,[]⟩),(15,⟨true,48,4,out.map valV⟩)]⟩∧out.length=vals.length∧s25 q b vals (sets.drop i) out=s25 q b vals sets vals) sets.length ⟨0,vals,by simp,rfl,rfl,rfl⟩ ?_;rintro I hI n st ⟨i,out,hi,rfl,hol,hno⟩;rw[<-hno] at h;simp -implicitDefEqProofs only[go_sem,zQ];refine⟨λhlt=>?_,λhge=>?_⟩
 .have hlt':i<sets.length:=by omega
  obtain⟨s,hx,hm⟩:=as10 hlt';have hw:=ws_ hlt';obtain⟨e,f,he,hfr,hse,hfn⟩:=hs s hm;have hr:=rVp_ hS hE e hse (G:=G);have hbad:=sb10 (q:=q) (b:=b) (vals:=vals) (out:=out) hx he;have hgo:=sg10 (q:=q) (b:=b) (vals:=vals) (out:=out) hx he hfr;obtain⟨sf,se⟩:=s;dsimp only at he hfr;subst he;subst hfr;generalize ev q b vals e=r at*;obtain⟨⟨k,m,str,bt⟩,er⟩:=r;unfold vt at hr;dsimp only at hr hbad hgo;simp only[valV,qeaV,d_,q_,f_,s_,s10,n_,t_,s11,v_] at hr;by_cases h0:er=0
  .subst h0;have hgo:=hgo rfl;clear hbad;obtain⟨old,hold,_⟩:=as10 (l:=out) (i:=f) (by omega);obtain⟨o1,o2,o3,o4⟩:=old;have hes:(List.map valV out)[f]?=some (.agg [iv o1,iv o2,.str o3,.bool o4]):=by rw[zS,hold];rfl
   have hset:(List.map valV out).set f (.agg [iv k,iv m,.str str,.bool bt])=List.map valV (out.set f ⟨k,m,str,bt⟩):=by rw[List.map_set];rfl
   have hai:∀H:List (Nat×Box),hget H 15=some ⟨true,48,4,out.map valV⟩->a16 H 4 (.arr 15 0 vals.length) (iv f)=some (.ref 15 f 0):=λH hH=>ar10 hH rfl hfn
   repeat' (first|simp -implicitDefEqProofs only[go_sem,am_ hx,setV,qeaV,d_,q_,f_,s_,s10,n_,t_,hw,hes,hset,hai]|apply ai__<;>intro hb|refine ac_ hr rfl rfl ?_|fail)
   exact aa_ (n - 1) (by omega) (hI _ _ ⟨i+1,_,by omega,rfl,by simp [hol],by rw[<-hgo,hno]⟩)
  .have hbad2:=hbad h0;rw[hbad2] at h;have he':(er != 0)=true:=by simpa using h0
   clear hbad hgo hbad2
   repeat' (first|simp -implicitDefEqProofs only[go_sem,am_ hx,setV,qeaV,d_,q_,f_,s_,s10,n_,t_,he']|apply ai__<;>intro hb|refine ac_ hr rfl rfl ?_|fail)
   exact hq_ h
 .rw[se14 (by omega)] at h;have hview:∀H:List (Nat×Box),hget H 15=some ⟨true,48,4,out.map valV⟩->view H (.tup [.arr 15 0 vals.length,iv 0])=some (.tup [v_ out,iv 0]):=λH hH=>by
   simp only[view,view.go,hH,xO,zQ,hol];simp [v_,<-hol];exact zT (by simp)
  repeat' (first|simp -implicitDefEqProofs only[go_sem]|apply ai__<;>intro hb)
  exact h _ ⟨_,_,rfl,hview _ rfl,.refl _⟩
def bAt (out:List ExT) (n:Int):ExT:=(at? out n).getD e0
def b12 (q:QeaT) (out:List ExT) (i:Nat) (x:NodeT):ExT:=
 if x.op=1 then (if x.a=0∧x.b=0∧x.value.ok=true then ⟨x.value.kind,1,i⟩ else e0)
 else if ¬x.value=v0 then e0
 else if x.op=2 then (if x.b=0 then match at? q.quants x.a with | none=>e0 | some y=>⟨y.type,1,i⟩ else e0)
 else if x.op=3 then (if x.b=0 then match at? q.frees x.a with | none=>e0 | some y=>⟨y.init.kind,1,i⟩ else e0)
 else if x.op<4∨16<x.op then e0
 else if x.op<=5 then (if (bAt out ((i:Int) - 1)).kind=0∨¬x.a=(i:Int) - 1∨¬x.b=0 then e0 else ⟨t45 x.op (bAt out ((i:Int) - 1)).kind (bAt out ((i:Int) - 1)).kind,(bAt out ((i:Int) - 1)).depth+1,(bAt out ((i:Int) - 1)).from_⟩)
 else if (bAt out ((i:Int) - 1)).kind=0∨¬x.b=(i:Int) - 1∨¬x.a=(bAt out ((i:Int) - 1)).from_ - 1 then e0
 else ⟨t45 x.op (bAt out ((bAt out ((i:Int) - 1)).from_ - 1)).kind (bAt out ((i:Int) - 1)).kind,max (bAt out ((i:Int) - 1)).depth (bAt out ((bAt out ((i:Int) - 1)).from_ - 1)).depth+1,(bAt out ((bAt out ((i:Int) - 1)).from_ - 1)).from_⟩
def beL (q:QeaT):Nat->List ExT
 | 0=>[]
 | n+1=>match q.nodes[n]? with
  | some x=>beL q n++[b12 q (beL q n) n x]
  | none=>beL q n
theorem bs10 {q:QeaT} {n:Nat} {x:NodeT} (h:q.nodes[n]?=some x):beL q (n+1)=beL q n++[b12 q (beL q n) n x]:=by rw[beL,h]
theorem bl_ (q:QeaT):∀n,n<=q.nodes.length->(beL q n).length=n
 | 0,_ =>rfl
 | n+1,h=>by obtain⟨x,hx,_⟩:=as10 (l:=q.nodes) (i:=n) (by omega);rw[bs10 hx,zL,bl_ q n (by omega)];rfl
theorem bo11 {out:List ExT} (ho:exOk out) (n:Int):0<=(bAt out n).from_∧((bAt out n).from_<=n∨(bAt out n).from_=0)∧0<=(bAt out n).depth∧((bAt out n).depth<=n+1∨(bAt out n).depth=0)∧(bAt out n).depth<=out.length:=by
 unfold bAt;cases h:at? out n with
 | none=>simp
 | some b=>
  obtain⟨j,rfl,hj⟩:=at?_some h;have:=ho j b hj;have:=(zX.1 hj).1;simp only[xK];omega
theorem bo10 {q:QeaT} {out:List ExT} {i:Nat} {x:NodeT} (ho:exOk out) (hl:out.length=i):0<=(b12 q out i x).from_∧(b12 q out i x).from_<=i∧0<=(b12 q out i x).depth∧(b12 q out i x).depth<=i+1:=by
 have hz:0<=e0.from_∧e0.from_<=(i:Int)∧0<=e0.depth∧e0.depth<=(i:Int)+1:=by simp;omega
 have h1:=bo11 ho ((i:Int) - 1);have h2:=bo11 ho ((bAt out ((i:Int) - 1)).from_ - 1);unfold b12
 repeat' split
 all_goals first | exact hz | (dsimp only;omega)
theorem bo12 (q:QeaT):∀n,n<=q.nodes.length->exOk (beL q n)
 | 0,_ =>λj e h=>by simp [beL] at h
 | n+1,h=>by
  obtain⟨x,hx,_⟩:=as10 (l:=q.nodes) (i:=n) (by omega);have hn:=bl_ q n (by omega);rw[bs10 hx];intro j e hj;rw[wE] at hj;split at hj
  .exact bo12 q n (by omega) j e hj
  .rename_i hlt;rw[hn] at hj;rw[List.getElem?_cons] at hj;split at hj
   .cases hj;have:=bo10 (q:=q) (x:=x) (bo12 q n (by omega)) hn;have:j=n:=by omega
    subst this;assumption
   .simp at hj
theorem bs12 (q:QeaT) {i:Nat} (hi:i<=q.nodes.length):∀d,i+d<=q.nodes.length->∀j:Nat,j<i->(beL q (i+d))[j]? =(beL q i)[j]?
 | 0,_,_,_ =>rfl
 | d+1,h,j,hj=>by obtain⟨x,hx,_⟩:=as10 (l:=q.nodes) (i:=i+d) (by omega);rw[show i+(d+1)=i+d+1 by omega,bs10 hx,xJ (by rw[bl_ q _ (by omega)];omega)];exact bs12 q hi d (by omega) j hj
theorem bs11 (q:QeaT) {i:Nat} (hi:i<=q.nodes.length) {n:Int} (hn:n<i):bAt (beL q q.nodes.length) n=bAt (beL q i) n:=by
 unfold bAt at?;split
 .rw[show q.nodes.length=i+(q.nodes.length - i) by omega,bs12 q hi _ (by omega) _ (by omega)]
 .rfl
theorem bh_ (q:QeaT) {i:Nat} {x:NodeT} (hx:q.nodes[i]?=some x):bAt (beL q q.nodes.length) i=b12 q (beL q i) i x:=by have hi:=(zX.1 hx).1;rw[bs11 q (i:=i+1) (by omega) (by omega),bs10 hx];have:=bl_ q i (by omega);unfold bAt;rw[at?_nat (y:=b12 q (beL q i) i x) (by rw[xV (by omega)];simp [this])];rfl
def ex3 (e:ExT):AV:=.tup [iv e.kind,iv e.depth,iv e.from_]
theorem rbp_ (q:QeaT) (hl:q.nodes.length<=1000000):∀(n:Nat) (i:Int),i<n->PQ G 141 [qeaV q,iv i] (ex3 (bAt (beL q q.nodes.length) i))
 | 0,i,hi=>by
  refine ppb_ λΦ h=>?_;unfold cpb_;have hz:bAt (beL q q.nodes.length) i=e0:=by unfold bAt at?;rw[zK (by omega)];rfl
  repeat' (first|simp -implicitDefEqProofs only[go_sem,qeaV,d_,q_,f_,s_,s10,n_,t_,zQ]|apply ai__<;>intro hb)
  all_goals first | exact h _ ⟨_,_,rfl,rfl,fe_ (by rw[hz];rfl)⟩ | (exfalso;simp at*;omega)
 | n+1,i,hi=>by
  have ih:=rbp_ q hl n;cases hx:at? q.nodes i with
  | none=>
   have hi:=at?_none hx;refine ppb_ λΦ h=>?_;unfold cpb_;have hz:bAt (beL q q.nodes.length) i=e0:=by
    have:=bl_ q q.nodes.length (by omega);unfold bAt at?;split
    .rw[wR (by omega)];rfl
    .rfl
   repeat' (first|simp -implicitDefEqProofs only[go_sem,qeaV,d_,q_,f_,s_,s10,n_,t_,zQ]|apply ai__<;>intro hb)
   all_goals first | exact h _ ⟨_,_,rfl,rfl,fe_ (by rw[hz];rfl)⟩ | (exfalso;simp at*;omega)
  | some x=>
   obtain⟨i,rfl,hxi⟩:=at?_some hx;clear hx;have hlt:=(zX.1 hxi).1;have hex:=bo12 q i (by omega);have hln:=bl_ q i (by omega);have hkb:=bo11 hex ((i:Int) - 1);have hka:=bo11 hex ((bAt (beL q i) ((i:Int) - 1)).from_ - 1);have ihb:=ih ((i:Int) - 1) (by omega);have iha:=ih ((bAt (beL q i) ((i:Int) - 1)).from_ - 1) (by omega);rw[bs11 q (i:=i) (by omega) (by omega)] at ihb;rw[bs11 q (i:=i) (by omega) (by omega)] at iha;have hv:bAt (beL q q.nodes.length) i=b12 q (beL q i) i x:=bh_ q hxi;rw[hv];unfold b12 at hv;rw[b12];generalize bAt (beL q i) ((i:Int) - 1)=b at*;generalize bAt (beL q i) (b.from_ - 1)=a at*;clear hv ih;obtain⟨op,na,mb,⟨vk,vn,vs,vb⟩⟩:=x;have hok:=rRp_ (G:=G) ⟨vk,vn,vs,vb⟩;have hwi:IntKind.i64.wrap ((i:Int) - 1)=(i:Int) - 1:=wi_ (by omega) (by omega);have hwf:IntKind.i64.wrap (b.from_ - 1)=b.from_ - 1:=wi_ (by omega) (by omega);have hwd:IntKind.i64.wrap (b.depth+1)=b.depth+1:=wi_ (by omega) (by omega);have hwm:IntKind.i64.wrap ((if a.depth>b.depth then a.depth else b.depth)+1)=max b.depth a.depth+1:=by rw[wi_ (by split <;> omega) (by split <;> omega)];split <;> omega
   simp only[valV] at hok;simp only[qeaV,d_,q_,f_,s_,s10,n_,t_,ex3] at ihb iha;refine ppb_ λΦ h=>?_;unfold cpb_;dsimp only at h;generalize hv:(if op=1 then _ else _ :ExT)=v at h;have hvz:=vz_ ⟨vk,vn,vs,vb⟩;dsimp only at hvz;have fin:∀k d f,⟨k,d,f⟩=v->Fit (.tup [iv k,iv d,iv f]) (ex3 v):=λk d f e=>by subst e;exact .refl _
   have hno:∀w,w=v->w=e0->Fit (ex3 e0) (ex3 v):=λw e1 e2=>by rw[<-e1,e2];exact .refl _
   by_cases h1:op=1
   .subst h1;rw[zY rfl] at hv
    repeat' (first|simp -implicitDefEqProofs only[go_sem,am_ hxi,n11,qeaV,d_,q_,f_,s_,s10,n_,t_,zQ]|apply ai__<;>intro hb|refine ac_ hok rfl rfl ?_|fail)
    all_goals
     try (exfalso;simp at*;omega)
    all_goals
     refine h _ ⟨_,_,rfl,rfl,fin _ _ _ ?_⟩;rw[<-hv];clear hv fin hno h ihb iha hok;simp_all
   rw[zK h1] at hv;by_cases hvv:(⟨vk,vn,vs,vb⟩:Val)=v0
   .cases hvv;rw[zK (by simp)] at hv;by_cases h2:op=2
    .subst h2;rw[zY rfl] at hv;cases hq:at? q.quants na with
     | none=>
      rw[hq] at hv;have ha:=at?_none hq
      repeat' (first|simp -implicitDefEqProofs only[go_sem,am_ hxi,n11,qeaV,d_,q_,f_,s_,s10,n_,t_,zQ]|apply ai__<;>intro hb)
      all_goals try (exfalso;simp at*;omega)
      all_goals
       refine h _ ⟨_,_,rfl,rfl,fin _ _ _ ?_⟩;rw[<-hv];simp
     | some y=>
      obtain⟨j,rfl,hy⟩:=at?_some hq;have hj:=(zX.1 hy).1;rw[hq] at hv
      repeat' (first|simp -implicitDefEqProofs only[go_sem,am_ hxi,n11,qeaV,d_,q_,f_,s_,s10,n_,t_,zQ,am_ hy,q11]|apply ai__<;>intro hb)
      all_goals try (exfalso;simp at*;omega)
      all_goals
       refine h _ ⟨_,_,rfl,rfl,fin _ _ _ ?_⟩;rw[<-hv];clear hv fin hno h ihb iha hok;simp_all
    rw[zK h2] at hv;by_cases h3:op=3
    .subst h3;rw[zY rfl] at hv;cases hq:at? q.frees na with
     | none=>
      rw[hq] at hv;have ha:=at?_none hq
      repeat' (first|simp -implicitDefEqProofs only[go_sem,am_ hxi,n11,qeaV,d_,q_,f_,s_,s10,n_,t_,zQ]|apply ai__<;>intro hb)
      all_goals try (exfalso;simp at*;omega)
      all_goals
       refine h _ ⟨_,_,rfl,rfl,fin _ _ _ ?_⟩;rw[<-hv];simp
     | some y=>
      obtain⟨j,rfl,hy⟩:=at?_some hq;have hj:=(zX.1 hy).1;rw[hq] at hv
      repeat' (first|simp -implicitDefEqProofs only[go_sem,am_ hxi,n11,qeaV,d_,q_,f_,s_,s10,n_,t_,zQ,am_ hy,f10]|apply ai__<;>intro hb)
      all_goals try (exfalso;simp at*;omega)
      all_goals
       refine h _ ⟨_,_,rfl,rfl,fin _ _ _ ?_⟩;rw[<-hv];clear hv fin hno h ihb iha hok;simp_all
    rw[zK h3] at hv
    repeat' (first|simp -implicitDefEqProofs only[go_sem,am_ hxi,n11,qeaV,d_,q_,f_,s_,s10,n_,t_,zQ,hwi,hwf,hwd,hwm]|apply ai__<;>intro hb|refine ac_ ihb rfl rfl ?_|refine ac_ iha rfl rfl ?_|refine ac_ (rT10 _ _ _) rfl rfl ?_|fail)
    all_goals first | refine h _ ⟨_,_,rfl,rfl,fin _ _ _ ?_⟩ | exfalso
    all_goals
     try rw[<-hv]
     clear hv fin hno h ihb iha hok hwi hwf hwd hwm hex hxi hvz;simp only[yX,wM,vX,zW,yQ,zB,xC,bne_iff_ne,tK,sZ,tG] at*
     first | omega | (simp [*];done) | (exfalso;omega)
   .rw[zY hvv] at hv
    repeat' (first|simp -implicitDefEqProofs only[go_sem,am_ hxi,n11,qeaV,d_,q_,f_,s_,s10,n_,t_,zQ,hvz,hvv]|apply ai__<;>intro hb)
    all_goals try (exfalso;simp at*;omega)
    all_goals
     refine h _ ⟨_,_,rfl,rfl,fin _ _ _ hv⟩
