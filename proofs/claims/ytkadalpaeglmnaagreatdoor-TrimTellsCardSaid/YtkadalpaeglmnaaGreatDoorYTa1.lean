/-
  Lemmas. No claim is proved here.
-/
import Derived.Test.YtkadalpaeglmnaaGreatDoorYTa0
set_option linter.unusedSimpArgs false
set_option maxHeartbeats 4000000
set_option maxRecDepth 100000
namespace Go.Proofs.YtkadalpaeglmnaaGreatDoor.Ab
open Go Go.RowKit
variable {G:Nat→Option AV}
def mkTo (out:List Bool) (t:TransT):List Bool:=if out[t.from_.toNat]? =some true then out.set t.to_.toNat true else out
def mkR (l:List TransT) (out:List Bool):List Bool:=l.foldl mkTo out
def mkN (l:List TransT):Nat→List Bool→List Bool
 | 0,out=>out
 | k+1,out=>mkN l k (mkR l out)
def toM (l:List TransT) (n:Nat) (s:Int):List Bool:=mkN l n ((List.replicate n false).set s.toNat true)
theorem ml15 (out:List Bool) (t:TransT):(mkTo out t).length=out.length:=by unfold mkTo;split <;> simp
theorem ml13:∀(l:List TransT) (out:List Bool),(mkR l out).length=out.length
 | [],_ =>rfl
 | t::l,out=>(ml13 l (mkTo out t)).trans (ml15 out t)
def f11 (a:Int) (t:TransT):Int:=match t.sets.getLast? with | some s=>s.expr+1 | none=>if 0≤t.guard then t.guard+1 else a
def f22 (l:List TransT) (i:Nat):Int:=(l.take i).foldl f11 0
theorem fs18 {l:List TransT} {i:Nat} {t:TransT} (h:l[i]? =some t):f22 l (i+1)=f11 (f22 l i) t:=by unfold f22;rw[vV,h,tP];rfl
def T_ (l:List TransT) (n:Nat):Prop:=∀t∈l,(0≤t.from_∧t.from_<n)∧0≤t.to_∧t.to_<n
def m14 (m:List Bool):AV:=.seq 1 (m.map AV.bool)
theorem rT10 (q:QeaT) (s:Nat) (hs:s<q.states.length) (hto:T_ q.trans q.states.length) (hn:q.states.length≤1000) (hl:q.trans.length≤1000000):PQ G np13 [qeaV q,iv s] (m14 (toM q.trans q.states.length (s:Int))):=by
 refine pp29 fun Φ h=>?_;unfold cp29;unfold m14 at h;generalize hv:toM q.trans q.states.length (s:Int)=v at*;unfold toM at hv;rw[zA] at hv;have hbd:q.states.length*1≤140737488355328:=by omega
 have hrp:List.replicate q.states.length (AV.bool false)=List.map AV.bool (List.replicate q.states.length false):=by rw[List.map_replicate]
 have hrl:(List.replicate q.states.length false).length=q.states.length:=vO;have hr0:(List.map AV.bool (List.replicate q.states.length false))[s]? =some (.bool false):=by rw[zT,tG,zG hs];rfl
 have hr1:(List.map AV.bool (List.replicate q.states.length false)).set s (.bool true)=List.map AV.bool ((List.replicate q.states.length false).set s true):=by rw[List.map_set]
 have hsl:((List.replicate q.states.length false).set s true).length=q.states.length:=by simp
 generalize List.replicate q.states.length false=R0 at*;generalize R0.set s true=R1 at*
 repeat' (first|simp -implicitDefEqProofs only[go_sem,qeaV,d_,q_,f_,s_,s10,n_,t_,zX,an_ hbd,hrp,aa10 hs,hr0,hr1]|refine ag_ (fun hb=>?_) (fun hb=>?_)|refine⟨fun hb=>?_,fun hb=>?_⟩|fail)
 refine al_ (fun k st=>∃(i:Nat) (mk:List Bool),i+k=q.states.length∧mk.length=q.states.length∧mkN q.trans k mk=v∧st=⟨47,[(2,.ref 2 0 0),(5,.arr 11 0 q.states.length),(6,iv i)],[(2,⟨false,taQ_,9,[qeaV q]⟩),(4,⟨true,tb_,1,[]⟩),(11,⟨true,tb_,1,mk.map AV.bool⟩)]⟩) q.states.length ⟨0,R1,by simp,hsl,hv,rfl⟩ ?_;rintro I hI k st ⟨i,mk,hi,hml,hgo,rfl⟩;by_cases hlt':i<q.states.length
 ·have hw:=ws_ hlt' (by omega);have hlt:((i:Int)<(q.states.length:Int))=True:=by simp;exact hlt'
  obtain⟨k',rfl⟩:∃k',k=k'+1:=⟨k - 1,by omega⟩;rw[mkN] at hgo
  repeat' (first|simp -implicitDefEqProofs only[go_sem,qeaV,d_,q_,f_,s_,s10,n_,t_,zX,hlt,uD]|refine ag_ (fun hb=>?_) (fun hb=>?_)|refine⟨fun hb=>?_,fun hb=>?_⟩|fail)
  refine al_ (fun n' st=>∃(j:Nat) (m2:List Bool),j+n'=q.trans.length∧m2.length=q.states.length∧(q.trans.drop j).foldl mkTo m2=mkR q.trans mk∧st=⟨47,[(2,.ref 2 0 0),(5,.arr 11 0 q.states.length),(6,iv i),(7,iv j)],[(2,⟨false,taQ_,9,[qeaV q]⟩),(4,⟨true,tb_,1,[]⟩),(11,⟨true,tb_,1,m2.map AV.bool⟩)]⟩) q.trans.length ⟨0,mk,by simp,hml,rfl,rfl⟩ ?_;rintro J hJ n' st ⟨j,m2,hj,hm2,hg2,rfl⟩;by_cases hlj:j<q.trans.length
  ·obtain⟨t,ht,htm⟩:=as10 hlj;have hwj:=ws_ hlj (by omega);have hltj:((j:Int)<(q.trans.length:Int))=True:=by simp;exact hlj
   rw[d16 ht,xU] at hg2;obtain⟨⟨f0,f1⟩,g0,g1⟩:=hto t htm;have hst:mkTo m2 t=if m2[t.from_.toNat]? =some true then m2.set t.to_.toNat true else m2:=rfl;obtain⟨tf,ts,tt,tg,tsets⟩:=t;dsimp only at f0 f1 g0 g1 hst;obtain⟨f,rfl⟩:=zS f0;obtain⟨u,rfl⟩:=zS g0;rw[zA,zA] at hst;obtain⟨b,hb,_⟩:=as10 (l:=m2) (i:=f) (by omega);obtain⟨c,hc,_⟩:=as10 (l:=m2) (i:=u) (by omega);have hfl:f<q.states.length:=by omega
   have hul:u<q.states.length:=by omega
   have hb1:(List.map AV.bool m2)[f]? =some (.bool b):=by rw[zT,hb];rfl
   have hc1:(List.map AV.bool m2)[u]? =some (.bool c):=by rw[zT,hc];rfl
   have hset:(List.map AV.bool m2).set u (.bool true)=List.map AV.bool (m2.set u true):=by rw[List.map_set]
   cases b
   ·rw[zF (by rw[hb];simp)] at hst;rw[hst] at hg2;have hnx:=hJ (n' - 1) _ ⟨j+1,m2,by omega,hm2,hg2,rfl⟩;clear hJ
    repeat' (first|simp -implicitDefEqProofs only[go_sem,qeaV,d_,q_,f_,s_,s10,n_,t_,zX,hltj,uD,am_ ht,t11,s14,aa10 hfl,hb1,hwj]|refine ag_ (fun hb=>?_) (fun hb=>?_)|refine⟨fun hb=>?_,fun hb=>?_⟩|fail)
    exact aa_ (n' - 1) (by omega) hnx
   ·rw[zG hb] at hst;rw[hst] at hg2;have hnx:=hJ (n' - 1) _ ⟨j+1,m2.set u true,by omega,by simpa using hm2,hg2,rfl⟩;clear hJ
    repeat' (first|simp -implicitDefEqProofs only[go_sem,qeaV,d_,q_,f_,s_,s10,n_,t_,zX,hltj,uD,am_ ht,t11,s14,aa10 hfl,hb1,aa10 hul,hc1,hset,hwj]|refine ag_ (fun hb=>?_) (fun hb=>?_)|refine⟨fun hb=>?_,fun hb=>?_⟩|fail)
    exact aa_ (n' - 1) (by omega) hnx
  ·have hltj:((j:Int)<(q.trans.length:Int))=False:=by simp;omega
   rw[uN (by omega),tN] at hg2;subst hg2;have hnx:=hI k' _ ⟨i+1,mkR q.trans mk,by omega,by rw[ml13];exact hml,hgo,rfl⟩;clear hJ hI
   repeat' (first|simp -implicitDefEqProofs only[go_sem,qeaV,d_,q_,f_,s_,s10,n_,t_,zX,hltj,uL,hw]|refine ag_ (fun hb=>?_) (fun hb=>?_)|refine⟨fun hb=>?_,fun hb=>?_⟩|fail)
   exact aa_ k' (by omega) hnx
 ·have hlt:((i:Int)<(q.states.length:Int))=False:=by simp;omega
  obtain rfl:k=0:=by omega
  rw[mkN] at hgo;subst hgo;clear hI
  repeat' (first|simp -implicitDefEqProofs only[go_sem,qeaV,d_,q_,f_,s_,s10,n_,t_,zX,hlt,uL]|refine ag_ (fun hb=>?_) (fun hb=>?_)|refine⟨fun hb=>?_,fun hb=>?_⟩|fail)
  exact h _ ⟨_,_,rfl,vr10 (e:=AV.bool) (l:=mk) (ty:=tb_) (by decide) (by simp [hget]) hml,.refl _⟩
theorem rFp_ (q:QeaT) (hl:q.trans.length≤1000000) (hr:∀t∈q.trans,t.guard<10000000∧t.sets.length≤1000000∧∀s∈t.sets,-1000000<s.expr∧s.expr<10000000) (hg:∀t∈q.trans,-1000000<t.guard) (j:Nat) (hj:j≤q.trans.length):PQ G np27 [qeaV q,iv j] (iv (f22 q.trans j)):=by
 refine ppF_ fun Φ h=>?_;unfold cpF_;simp -implicitDefEqProofs only[go_sem,qeaV,d_,q_,f_,s_,s10,n_,t_];refine al_ (fun n st=>∃i:Nat,i+n=j∧st=⟨49,[(1,iv j),(2,.ref 2 0 0),(5,iv (f22 q.trans i)),(6,iv i)],[(2,⟨false,taQ_,9,[qeaV q]⟩)]⟩) j ⟨0,by simp,rfl⟩ ?_;rintro I hI n st ⟨i,hi,rfl⟩;by_cases hlt':i<j
 ·obtain⟨t,ht,htm⟩:=as10 (l:=q.trans) (i:=i) (by omega);have hw:=ws_ hlt' (by omega);have hlt:((i:Int)<(j:Int))=True:=by simp;exact hlt'
  have hf:=fs18 ht;obtain⟨hr1,hr2,hr3⟩:=hr t htm;have hg1:=hg t htm;have hnx:a11 I n ⟨49,[(1,iv j),(2,.ref 2 0 0),(5,iv (f22 q.trans (i+1))),(6,iv (i+1:Nat))],[(2,⟨false,taQ_,9,[qeaV q]⟩)]⟩:=aa_ (n - 1) (by omega) (hI _ _ ⟨i+1,by omega,rfl⟩);rw[hf] at hnx;clear hI hf;unfold f11 at hnx;generalize f22 q.trans i=a at*;obtain⟨tf,ts,tt,tg,tsets⟩:=t;dsimp only at hr1 hr2 hr3 hg1 hnx;have hwg:IntKind.i64.wrap (tg+1)=tg+1:=wi_ (by omega) (by omega);cases hls:tsets.getLast? with
  | none=>
   have hnil:tsets=[]:=tK.1 hls;subst hnil;rw[hls] at hnx;dsimp only at hnx;have e0:((0:Int)<((0:Nat):Int))=False:=by simp
   by_cases h0:0≤tg
   ·have e1:((0:Int)≤tg)=True:=by simp;exact h0
    rw[zG h0] at hnx
    repeat' (first|simp -implicitDefEqProofs only[go_sem,qeaV,d_,q_,f_,s_,s10,n_,t_,zX,hlt,uD,am_ ht,t11,s14,e1,hwg,e0,uL,hw]|refine ag_ (fun hb=>?_) (fun hb=>?_)|refine⟨fun hb=>?_,fun hb=>?_⟩|fail)
    exact hnx
   ·have e1:((0:Int)≤tg)=False:=by simp;omega
    rw[zF h0] at hnx
    repeat' (first|simp -implicitDefEqProofs only[go_sem,qeaV,d_,q_,f_,s_,s10,n_,t_,zX,hlt,uD,am_ ht,t11,s14,e1,e0,uL,hw]|refine ag_ (fun hb=>?_) (fun hb=>?_)|refine⟨fun hb=>?_,fun hb=>?_⟩|fail)
    exact hnx
  | some s=>
   rw[hls] at hnx;dsimp only at hnx;have hsm:=List.mem_of_getLast? hls;obtain⟨s1,s2⟩:=hr3 s hsm;have hpos:0<tsets.length:=List.length_pos_of_mem hsm;have hat:tsets[tsets.length - 1]? =some s:=by rw[←hls,List.getLast?_eq_getElem?]
   have hws:IntKind.i64.wrap (s.expr+1)=s.expr+1:=wi_ (by omega) (by omega);have hwl:IntKind.i64.wrap ((tsets.length:Int) - 1)=((tsets.length - 1:Nat):Int):=by rw[wi_ (by omega) (by omega)];omega
   have e0:((0:Int)<(tsets.length:Int))=True:=by simp;omega
   have hai:=am_ (e:=setV) (sz:=2) (H:=[(2,(⟨false,taQ_,9,[qeaV q]⟩:Box))]) hat;obtain⟨sf,se⟩:=s;dsimp only at hws hnx;by_cases h0:0≤tg
   ·have e1:((0:Int)≤tg)=True:=by simp;exact h0
    repeat' (first|simp -implicitDefEqProofs only[go_sem,qeaV,d_,q_,f_,s_,s10,n_,t_,zX,hlt,uD,am_ ht,t11,s14,e1,hwg,e0,hwl,am_ hat,setV,hws,hw]|refine ag_ (fun hb=>?_) (fun hb=>?_)|refine⟨fun hb=>?_,fun hb=>?_⟩|fail)
    exact hnx
   ·have e1:((0:Int)≤tg)=False:=by simp;omega
    repeat' (first|simp -implicitDefEqProofs only[go_sem,qeaV,d_,q_,f_,s_,s10,n_,t_,zX,hlt,uD,am_ ht,t11,s14,e1,uL,e0,hwl,am_ hat,setV,hws,hw]|refine ag_ (fun hb=>?_) (fun hb=>?_)|refine⟨fun hb=>?_,fun hb=>?_⟩|fail)
    exact hnx
 ·have hlt:((i:Int)<(j:Int))=False:=by simp;omega
  have hij:i=j:=by omega
  subst hij;clear hI
  repeat' (first|simp -implicitDefEqProofs only[go_sem,qeaV,d_,q_,f_,s_,s10,n_,t_,zX,hlt,uL]|refine ag_ (fun hb=>?_) (fun hb=>?_)|refine⟨fun hb=>?_,fun hb=>?_⟩|fail)
  exact h _ ⟨_,_,rfl,rfl,.refl _⟩
inductive Rch (E:List (Nat×Nat)) (s:Nat):Nat→Prop where
 | refl:Rch E s s
 | step {a b:Nat} (h:Rch E s a) (e:(a,b)∈E):Rch E s b
def mark (m:List Bool) (e:Nat×Nat):List Bool:=if m[e.1]? =some true then m.set e.2 true else m
def r19 (E:List (Nat×Nat)) (m:List Bool):List Bool:=E.foldl mark m
def r17 (E:List (Nat×Nat)):Nat→List Bool→List Bool
 | 0,m=>m
 | k+1,m=>r17 E k (r19 E m)
def Le (m k:List Bool):Prop:=m.length=k.length∧∀i:Nat,m[i]? =some true→k[i]? =some true
theorem Le.refl (m:List Bool):Le m m:=⟨rfl,fun _ h=>h⟩
theorem Le.trans {a b c:List Bool} (h:Le a b) (k:Le b c):Le a c:=⟨h.1.trans k.1,fun i e=>k.2 i (h.2 i e)⟩
theorem ml14 (m:List Bool) (e:Nat×Nat):Le m (mark m e):=by
 unfold mark;split
 ·refine⟨by simp,fun i h=>?_⟩;rw[xP];split
  ·rename_i e2;subst e2;have:=(zZ.1 h).1;rw[zG this]
  ·exact h
 ·exact Le.refl m
theorem rl12:∀(E:List (Nat×Nat)) (m:List Bool),Le m (r19 E m)
 | [],m=>Le.refl m
 | e::E,m=>(ml14 m e).trans (rl12 E (mark m e))
theorem rl11 (E:List (Nat×Nat)):∀(k:Nat) (m:List Bool),Le m (r17 E k m)
 | 0,m=>Le.refl m
 | k+1,m=>(rl12 E m).trans (rl11 E k _)
def C10 (E:List (Nat×Nat)) (m:List Bool):Prop:=∀a b,(a,b)∈E→m[a]? =some true→b<m.length→m[b]? =some true
theorem rc11:∀{E:List (Nat×Nat)} {m:List Bool},Le (r19 E m) m→C10 E m
 | [],m,_ =>fun a b h=>by cases h
 | e::E,m,h=>by
  have h1:Le (mark m e) m:=(rl12 E (mark m e)).trans h;have h2:Le (r19 E m) m:=by
   have e2:mark m e=m:=by
    refine vP fun i=>?_;cases hm:m[i]? with
    | none=>
     have:m.length≤i:=wN.1 hm;exact wN.2 (by have:=h1.1;omega)
    | some b=>
     have hlt:=(zZ.1 hm).1;have hlt2:i<(mark m e).length:=by have:=h1.1;omega
     cases b with
     | true=>exact (ml14 m e).2 i hm
     | false=>
      rw[zY hlt2];cases hb:(mark m e)[i] with
      | false=>rfl
      | true=>
       have:=h1.2 i (by rw[zY hlt2,hb]);rw[hm] at this;cases this
   have:r19 (e::E) m=r19 E m:=by show r19 E (mark m e)=_;rw[e2]
   rw[←this];exact h
  intro a b hab ha hb;rcases yM.1 hab with rfl | hab
  ·have:(mark m (a,b))[b]? =some true:=by
    unfold mark;rw[zG ha,xP,zG rfl,zG hb]
   exact h1.2 b this
  ·exact rc11 h2 a b hab ha hb
def cnt (m:List Bool):Nat:=m.count true
theorem cl_:∀{m k:List Bool},Le m k→cnt m≤cnt k∧(cnt m=cnt k→Le k m)
 | [],[],_ =>⟨zE _,fun _ =>Le.refl _⟩
 | [],_ ::_,h=>by have:=h.1;simp at this
 | _ ::_,[],h=>by have:=h.1;simp at this
 | a::m,b::k,h=>by
  have hl:m.length=k.length:=by have:=h.1;simpa using this
  have ht:Le m k:=⟨hl,fun i e=>by have:=h.2 (i+1) (by simpa using e);simpa using this⟩;obtain⟨i1,i2⟩:=cl_ ht;have h0:=h.2 0;simp only[yZ,zJ] at h0;unfold cnt at*;simp only[uX];cases a <;> cases b
  ·refine⟨by simpa using i1,fun e=>?_⟩;have:=i2 (by simpa using e);refine⟨by simp [hl],fun i hi=>?_⟩;cases i with
   | zero=>simp at hi
   | succ i=>simp at hi ⊢;exact this.2 i hi
  ·refine⟨by simp;omega,fun e=>?_⟩;simp at e;omega
  ·exact absurd (h0 rfl) (by decide)
  ·refine⟨by simpa using i1,fun e=>?_⟩;have:=i2 (by simpa using e);refine⟨by simp [hl],fun i hi=>?_⟩;cases i with
   | zero=>rfl
   | succ i=>simp at hi ⊢;exact this.2 i hi
theorem cr10 {E:List (Nat×Nat)} {m:List Bool} (h:C10 E m):r19 E m=m:=by
 have key:∀(F:List (Nat×Nat)),(∀e∈F,e∈E)→r19 F m=m:=by
  intro F
  induction F with
  | nil=>intro _;rfl
  | cons e F ih=>
   intro hF;have e1:mark m e=m:=by
    unfold mark;split
    ·rename_i ha;by_cases hb:e.2<m.length
     ·have:=h e.1 e.2 (hF e yX) ha hb;refine vP fun i=>?_;rw[xP];split
      ·rename_i e2;subst e2
       first | exact this.symm | rw[zG hb,this]
      ·rfl
     ·exact List.set_eq_of_length_le (by omega)
    ·rfl
   show r19 F (mark m e)=m;rw[e1];exact ih fun x hx=>hF x (zD _ hx)
 exact key E fun _ h=>h
theorem cr_ {E:List (Nat×Nat)} {m:List Bool} (h:C10 E m):∀k,r17 E k m=m
 | 0=>rfl
 | k+1=>by show r17 E k (r19 E m)=m;rw[cr10 h];exact cr_ h k
theorem rg_ (E:List (Nat×Nat)):∀(k:Nat) (m:List Bool),C10 E (r17 E k m)∨cnt m+k≤cnt (r17 E k m)
 | 0,m=>.inr (zE _)
 | k+1,m=>by
  by_cases h:Le (r19 E m) m
  ·left;have hc:=rc11 h;rw[cr_ hc];exact hc
  ·obtain⟨h1,h2⟩:=cl_ (rl12 E m);have h3:cnt m+1≤cnt (r19 E m):=by
    rcases uH (cnt m) (cnt (r19 E m)) with h4 | h4
    ·exact h4
    ·exact absurd (h2 (by omega)) h
   rcases rg_ E k (r19 E m) with h4 | h4
   ·exact .inl h4
   ·exact .inr (by show cnt m+(k+1)≤cnt (r17 E k (r19 E m));omega)
def m15 (E:List (Nat×Nat)) (n s:Nat):List Bool:=r17 E n ((List.replicate n false).set s true)
theorem ms12 {E:List (Nat×Nat)} {s:Nat} {m:List Bool} {e:Nat×Nat} (he:e∈E) (h:∀i,m[i]? =some true→Rch E s i):∀i,(mark m e)[i]? =some true→Rch E s i:=by
 intro i hi;unfold mark at hi;split at hi
 ·rename_i ha;rw[xP] at hi;split at hi
  ·rename_i e2;subst e2;exact .step (h _ ha) he
  ·exact h i hi
 ·exact h i hi
theorem rs18 {E:List (Nat×Nat)} {s:Nat}:∀(F:List (Nat×Nat)),(∀e∈F,e∈E)→∀(m:List Bool),(∀i,m[i]? =some true→Rch E s i)→∀i,(r19 F m)[i]? =some true→Rch E s i
 | [],_,_,h=>h
 | e::F,hF,m,h=>rs18 F (fun x hx=>hF x (zD _ hx)) (mark m e) (ms12 (hF e yX) h)
theorem rs14 {E:List (Nat×Nat)} {s:Nat}:∀(k:Nat) (m:List Bool),(∀i,m[i]? =some true→Rch E s i)→∀i,(r17 E k m)[i]? =some true→Rch E s i
 | 0,_,h=>h
 | k+1,m,h=>rs14 k (r19 E m) (rs18 E (fun _ h=>h) m h)
theorem ml_ (E:List (Nat×Nat)) (n s:Nat):(m15 E n s).length=n:=by have:=(rl11 E n ((List.replicate n false).set s true)).1;unfold m15;rw[←this];simp
theorem mi10 {E:List (Nat×Nat)} {n s:Nat} (hs:s<n) (hE:∀e∈E,e.2<n) (i:Nat):(m15 E n s)[i]? =some true↔Rch E s i:=by
 have h0:((List.replicate n false).set s true)[s]? =some true:=by rw[xP,zG rfl,zG (by simpa using hs)]
 constructor
 ·refine rs14 n _ (fun i h=>?_) i;rw[xP] at h;split at h
  ·rename_i e;subst e;exact .refl
  ·rw[tG] at h;split at h
   ·cases h
   ·cases h
 ·have hc:C10 E (m15 E n s):=by
   rcases rg_ E n ((List.replicate n false).set s true) with h | h
   ·exact h
   ·exfalso;have h1:cnt (r17 E n ((List.replicate n false).set s true))≤n:=by
     have:=List.count_le_length (a:=true) (l:=m15 E n s);rw[ml_] at this;exact this
    have h2:0<cnt ((List.replicate n false).set s true):=List.count_pos_iff.2 (List.mem_of_getElem? h0);omega
  intro h
  induction h with
  | refl=>exact (rl11 E n _).2 s h0
  | step h e ih=>exact hc _ _ e ih (by rw[ml_];exact hE _ e)
def more (a:Nat) (l:List Nat) (e:Nat×Nat):List Nat:=if e.1=a∧e.2∉l then l++[e.2] else l
def m11 (E:List (Nat×Nat)) (a:Nat) (l:List Nat):List Nat:=E.foldl (more a) l
def grow (E:List (Nat×Nat)):Nat→Nat→List Nat→List Nat
 | 0,_,l=>l
 | k+1,i,l=>match l[i]? with | some a=>grow E k (i+1) (m11 E a l) | none=>l
theorem mi11 {E:List (Nat×Nat)} {s n a:Nat} {l:List Nat} {e:Nat×Nat} (he:e∈E) (hE:∀e∈E,e.2<n) (ha:Rch E s a) (hn:l.Nodup) (hl:∀x∈l,Rch E s x∧x<n):
  (more a l e).Nodup∧(∀x∈more a l e,Rch E s x∧x<n)∧(∃r,more a l e=l++r)∧(e.1=a→e.2∈more a l e):=by
 unfold more;split
 ·rename_i h;refine⟨?_,fun x hx=>?_,⟨[e.2],rfl⟩,fun _ =>by simp⟩
  ·rw[xD];exact⟨hn,by simp,fun x hx y hy=>by rw[yP.1 hy];exact fun e2=>h.2 (e2 ▸ hx)⟩
  ·rcases yB.1 hx with hx | hx
   ·exact hl x hx
   ·rw[yP.1 hx];obtain⟨b,c⟩:=e;obtain⟨rfl,_⟩:=h;exact⟨.step ha he,hE _ he⟩
 ·rename_i h;refine⟨hn,hl,⟨[],by simp⟩,fun e1=>?_⟩;by_cases h2:e.2∈l
  ·exact h2
  ·exact absurd ⟨e1,h2⟩ h
theorem mi_ {E:List (Nat×Nat)} {s n a:Nat} (hE:∀e∈E,e.2<n) (ha:Rch E s a):∀(F:List (Nat×Nat)),(∀e∈F,e∈E)→∀{l:List Nat},l.Nodup→(∀x∈l,Rch E s x∧x<n)→
  (F.foldl (more a) l).Nodup∧(∀x∈F.foldl (more a) l,Rch E s x∧x<n)∧(∃r,F.foldl (more a) l=l++r)∧∀b,(a,b)∈F→b∈F.foldl (more a) l
 | [],_,l,hn,hl=>⟨hn,hl,⟨[],by simp⟩,fun b h=>by cases h⟩
 | e::F,hF,l,hn,hl=>by
  obtain⟨h1,h2,⟨r,h3⟩,h4⟩:=mi11 (hF e yX) hE ha hn hl;obtain⟨g1,g2,⟨r2,g3⟩,g4⟩:=mi_ hE ha F (fun x hx=>hF x (zD _ hx)) h1 h2;refine⟨g1,g2,⟨r++r2,?_⟩,fun b hb=>?_⟩
  ·show F.foldl (more a) (more a l e)=_;rw[g3,h3,yI]
  ·show b∈F.foldl (more a) (more a l e);rcases yM.1 hb with rfl | hb
   ·rw[g3];exact vN _ (h4 rfl)
   ·exact g4 b hb
theorem ns_:∀{n:Nat} {l:List Nat},l.Nodup→(∀x∈l,x<n)→l.length≤n
 | 0,[],_,_ =>zE _
 | 0,x::l,_,h=>absurd (h x yX) (by omega)
 | n+1,l,hn,h=>by
  have h1:(l.filter (·≠n)).length≤n:=ns_ (hn.filter _) fun x hx=>by obtain⟨h1,h2⟩:=yG.1 hx;have:=h x h1;simp at h2;omega
  have h2:l.length≤(l.filter (·≠n)).length+1:=by
   have hc:l.count n≤1:=List.nodup_iff_count.1 hn n;have:=List.length_eq_countP_add_countP (fun x=>decide (x≠n)) (l:=l);rw[List.countP_eq_length_filter] at this;have e:(l.countP fun x=>decide ¬(decide (x≠n))=true)=l.count n:=by unfold List.count;congr 1;funext x;by_cases hx:x=n <;> simp [hx]
   omega
  omega
theorem gi_ {E:List (Nat×Nat)} {s n:Nat} (hE:∀e∈E,e.2<n):∀(k i:Nat) {l:List Nat},l.Nodup→(∀x∈l,Rch E s x∧x<n)→s∈l→(∀j a,j<i→l[j]? =some a→∀b,(a,b)∈E→b∈l)→n<i+k→
  (grow E k i l).Nodup∧(∀x,x∈grow E k i l↔Rch E s x)∧(∀x∈grow E k i l,x<n)
 | k,i,l,hn,hl,hs,hc,hk=>by
  have stop:l.length≤i→l.Nodup∧(∀x,x∈l↔Rch E s x)∧∀x∈l,x<n:=fun hi=>by
   refine⟨hn,fun x=>⟨fun h=>(hl x h).1,fun h=>?_⟩,fun x h=>(hl x h).2⟩
   induction h with
   | refl=>exact hs
   | step h e ih=>
    obtain⟨j,hj⟩:=zN ih;have:=(zZ.1 hj).1;exact hc j _ (by omega) hj _ e
  have hlen:=ns_ hn fun x h=>(hl x h).2
  match k with
  | 0=>exact stop (by omega)
  | k+1=>
   unfold grow;split
   ·rename_i a ha;have hm:=List.mem_of_getElem? ha;obtain⟨h1,h2,⟨r,h3⟩,h4⟩:=mi_ hE (hl a hm).1 E (fun _ h=>h) hn hl;have h3':m11 E a l=l++r:=h3;refine gi_ hE k (i+1) h1 h2 (by show s∈m11 E a l;rw[h3'];exact vN _ hs) (fun j x hj hx b hb=>?_) (by omega);have hil:=(zZ.1 ha).1;have hx':l[j]? =some x:=by
     have hx:(m11 E a l)[j]? =some x:=hx;rw[h3',xJ (by omega)] at hx;exact hx
    rcases uH j i with h5 | h5
    ·have:=hc j x h5 hx' b hb;show b∈m11 E a l;rw[h3'];exact vN _ this
    ·obtain rfl:j=i:=by omega
     rw[ha] at hx';cases hx';exact h4 b hb
   ·rename_i ha;exact stop (wN.1 ha)
def edge (t:TransT):Nat×Nat:=(t.from_.toNat,t.to_.toNat)
def e15 (q:QeaT):List (Nat×Nat):=q.trans.map edge
theorem mr10:∀(l:List TransT) (m:List Bool),mkR l m=r19 (l.map edge) m
 | [],_ =>rfl
 | t::l,m=>mr10 l (mkTo m t)
theorem mr_ (l:List TransT):∀(k:Nat) (m:List Bool),mkN l k m=r17 (l.map edge) k m
 | 0,_ =>rfl
 | k+1,m=>by show mkN l k (mkR l m)=r17 (l.map edge) k (r19 (l.map edge) m);rw[mr10,mr_]
theorem tm_ (q:QeaT) (n s:Nat):toM q.trans n (s:Int)=m15 (e15 q) n s:=by show mkN q.trans n _ =_;rw[mr_,zA];rfl
def m_ (q:QeaT):List Bool:=toM q.trans q.states.length q.start
def r11 (q:QeaT):List Nat:=(List.range q.states.length).filter fun i=>(m_ q)[i]? ==some true
theorem rm10 {q:QeaT} {i:Nat}:i∈r11 q↔i<q.states.length∧(m_ q)[i]? =some true:=by unfold r11;rw[yG,yS];simp
theorem hp10 (l:List Nat) (s:Int) (hl:l.length≤10000):PQ G ntrh_ [.agg [.seq 1 ((natI l).map iv)],iv s] (.bool ((natI l).any fun x=>s==x)):=by
 have hc:=sCiip_ (G:=G) (natI l) s (by simp [natI];omega);refine ptrh_ fun Φ h=>?_;unfold ctrh_
 repeat' (first|simp -implicitDefEqProofs only[go_sem]|refine ag_ (fun hb=>?_) (fun hb=>?_)|refine⟨fun hb=>?_,fun hb=>?_⟩|refine ac_ hc rfl rfl ?_|fail)
 exact h _ ⟨_,_,rfl,rfl,.refl _⟩
def h9 (q:QeaT) (l:List Nat):List (Nat×Box):=[(1,⟨false,taQ_,9,[qeaV q]⟩),(2,⟨false,ttr_,1,[.agg [.nils]]⟩),(9,⟨true,ti_,1,(natI l).map iv⟩),(3,⟨false,ttr_,1,[.agg [.arr 9 0 l.length]]⟩)]
theorem fp13 (q:QeaT) (s:Nat) (hs:q.start=(s:Int)) (hn:q.states.length≤12) (hsl:s<q.states.length) (hto:T_ q.trans q.states.length) (htl:q.trans.length≤1000):
  PQ G ntf_ [qeaV q] (.agg [.seq 1 ((natI (r11 q)).map iv)]):=by
 have hE:∀e∈e15 q,e.2<q.states.length:=fun e he=>by obtain⟨t,ht,rfl⟩:=zI.1 he;have:=hto t ht;show t.to_.toNat<_;omega
 have hgr:=gi_ (s:=s) hE (q.states.length+1) 0 (l:=[s]) (by simp) (fun x hx=>by simp at hx;subst hx;exact⟨.refl,hsl⟩) (by simp) (fun j a h=>by omega) (by omega);have hfin:∀l,l=grow (e15 q) (q.states.length+1) 0 [s]→l.Perm (r11 q)∧(r11 q).Pairwise (·≤·)∧l.length≤12:=fun l hl=>by
  subst hl;obtain⟨g1,g2,g3⟩:=hgr;have hm:m_ q=m15 (e15 q) q.states.length s:=by unfold m_;rw[hs];exact tm_ q _ s
  refine⟨?_,?_,wB (ns_ g1 g3) hn⟩
  ·refine (List.perm_ext_iff_of_nodup g1 (tS List.filter_sublist tE)).2 fun x=>?_;refine Iff.trans ?_ rm10.symm;rw[g2 x,hm];constructor
   ·intro h;exact⟨g3 x ((g2 x).2 h),(mi10 hsl hE x).2 h⟩
   ·intro h;exact (mi10 hsl hE x).1 h.2
  ·exact tS List.filter_sublist (List.pairwise_lt_range.imp fun h=>Nat.le_of_lt h)
 refine ptf_ fun Φ h=>?_;unfold ctf_;have hv:=hfin _ rfl;generalize hvv:grow (e15 q) (q.states.length+1) 0 [s]=v at*;clear hfin hgr;obtain⟨v1,v2,v3⟩:=hv;have hsort:=sh10 (G:=G) v (r11 q) v3 v1 v2;have hrl:(r11 q).length=v.length:=v1.length_eq.symm;have hQ:qeaV q=qeaV q:=rfl;unfold rowN at hsort;generalize r11 q=RL at*;have hn1:[iv q.start]=(natI [s]).map iv:=by rw[hs];rfl
 repeat' (first|simp -implicitDefEqProofs only[go_sem,qeaV,d_,q_,f_,s_,s10,n_,t_]|refine ag_ (fun hb=>?_) (fun hb=>?_)|refine⟨fun hb=>?_,fun hb=>?_⟩|fail)
 refine al_ (fun m st=>∃(i:Nat) (l:List Nat) (H:List (Nat×Box)),H=h9 q l∧grow (e15 q) m i l=v∧q.states.length<i+m∧l.Nodup∧(∀x∈l,Rch (e15 q) s x∧x<q.states.length)∧st=⟨52,[(1,.ref 1 0 0),(2,.ref 2 0 0),(3,.ref 3 0 0),(4,iv (i:Int))],H⟩) (q.states.length+1) ⟨0,[s],_,rfl,hvv,by omega,by simp,fun x hx=>by simp at hx;subst hx;exact⟨.refl,hsl⟩,by rw[h9,←hn1];rfl⟩ ?_;rintro I hI m st ⟨i,l,H,hr,hg,him,hnd,hmem,rfl⟩;have hll:=ns_ hnd fun x hx=>(hmem x hx).2;by_cases hlt':i<l.length
 ·have hlt:decide ((i:Int)<(l.length:Int))=true:=by simpa using hlt'
  have hw:=ws_ hlt' (by omega);obtain⟨m,rfl⟩:∃m',m=m'+1:=⟨m - 1,by omega⟩;obtain⟨a,ha,ham⟩:=as10 hlt';have hma:=mi_ hE (hmem a ham).1 (e15 q) (fun _ h=>h) hnd hmem;have hg2:grow (e15 q) m (i+1) (m11 (e15 q) a l)=v:=by rw[←hg,grow];simp only[ha]
  have hout:∀H,H=h9 q (m11 (e15 q) a l)→I m ⟨52,[(1,.ref 1 0 0),(2,.ref 2 0 0),(3,.ref 3 0 0),(4,iv ((i+1:Nat):Int))],H⟩:=fun H hr=>hI m _ ⟨i+1,_,H,hr,hg2,by omega,hma.1,hma.2.1,rfl⟩;clear hI h hsort;have hfold:(q.trans.drop 0).foldl (fun l t=>more a l (edge t)) l=m11 (e15 q) a l:=by unfold m11 e15;rw[List.foldl_map];rfl
  subst hr
  all_goals
   repeat' (first|simp -implicitDefEqProofs only[go_sem,h9,qeaV,d_,q_,f_,s_,s10,n_,t_,zX,hlt]|refine ag_ (fun hb=>?_) (fun hb=>?_)|refine⟨fun hb=>?_,fun hb=>?_⟩|fail)
   refine al_ (fun n' st=>∃(j:Nat) (l2:List Nat) (H:List (Nat×Box)),H=h9 q l2∧j+n'=q.trans.length∧(q.trans.drop j).foldl (fun l t=>more a l (edge t)) l2=m11 (e15 q) a l∧l2[i]? =some a∧l2.length≤l.length+j∧st=⟨52,[(1,.ref 1 0 0),(2,.ref 2 0 0),(3,.ref 3 0 0),(4,iv (i:Int)),(19,.seq 5 (q.trans.map t11)),(20,iv (q.trans.length:Int)),(21,iv (j:Int))],H⟩) q.trans.length ⟨0,l,_,rfl,by simp,hfold,ha,by omega,rfl⟩ ?_;rintro J hJ n' st ⟨j,l2,H,hr,hj,hf,ha2,hl2,rfl⟩;by_cases hlj:j<q.trans.length
   ·obtain⟨t,ht,htm⟩:=as10 hlj;have hwj:=ws_ hlj (by omega);have hltj:decide ((j:Int)<(q.trans.length:Int))=true:=by simpa using hlj
    rw[d16 ht,xU] at hf;obtain⟨⟨f0,f1⟩,g0,g1⟩:=hto t htm;have hst:more a l2 (edge t)=if t.from_.toNat=a∧t.to_.toNat∉l2 then l2++[t.to_.toNat] else l2:=rfl;have hla:((natI l2).map iv)[i]? =some (iv (a:Int)):=na11 ha2;have hil2:i<l2.length:=(zZ.1 ha2).1;have tk:((natI l2).map iv).take l2.length=(natI l2).map iv:=by rw[←nl_];exact t25 _ _
    have hnl:=nl_ l2;have hb1:(l2.length+1)*8≤140737488355328:=by omega
    obtain⟨tf,ts,tt,tg,tsets⟩:=t;dsimp only at f0 f1 g0 g1 hst;obtain⟨f,rfl⟩:=zS f0;obtain⟨u,rfl⟩:=zS g0;rw[zA,zA] at hst;have hc:=hp10 (G:=G) l2 (u:Int) (by omega);rw[na13] at hc;by_cases hfa:f=a
    ·have hfd:((f:Int)==(a:Int))=true:=by simp [hfa]
     by_cases hu:u∈l2
     ·rw[zF (fun h=>h.2 hu)] at hst;rw[hst] at hf;rw[xM hu] at hc;have hnx:=hJ (n' - 1) _ ⟨j+1,l2,H,hr,by omega,hf,ha2,by omega,rfl⟩;clear hJ hout;subst hr
      all_goals
       unfold h9 at hnx
       repeat' (first|simp -implicitDefEqProofs only[go_sem,h9,qeaV,d_,q_,f_,s_,s10,n_,t_,zX,hltj,am_ ht,t11,s14,aa10 hil2,hla,hfd,hwj]|refine ag_ (fun hb=>?_) (fun hb=>?_)|refine⟨fun hb=>?_,fun hb=>?_⟩|(refine ac_ hc (by simp [v_,flat,flat.go,viewBs,viewB,viewK,viewK.go,hget,t25,tk,hnl]) rfl ?_)|fail)
       exact aa_ (n' - 1) (by omega) hnx
     ·rw[zG ⟨hfa,hu⟩] at hst;rw[hst] at hf;rw[wE hu] at hc;have hnx:=hJ (n' - 1) _ ⟨j+1,l2++[u],_,rfl,by omega,hf,by rw[xJ hil2];exact ha2,by simp;omega,rfl⟩;have hap:(natI (l2++[u])).map iv=(natI l2).map iv++[iv (u:Int)]:=by simp [natI]
      unfold h9 at hnx;rw[hap,show (l2++[u]).length=l2.length+1 by simp] at hnx;clear hJ hout;subst hr
      repeat' (first|simp -implicitDefEqProofs only[go_sem,h9,qeaV,d_,q_,f_,s_,s10,n_,t_,zX,hltj,am_ ht,t11,s14,aa10 hil2,hla,hfd,hwj,hb1,tk,hnl]|refine ag_ (fun hb=>?_) (fun hb=>?_)|refine⟨fun hb=>?_,fun hb=>?_⟩|(refine ac_ hc (by simp [v_,flat,flat.go,viewBs,viewB,viewK,viewK.go,hget,t25,tk,hnl]) rfl ?_)|fail)
      exact aa_ (n' - 1) (by omega) hnx
    ·have hfd:((f:Int)==(a:Int))=false:=by simp;omega
     rw[zF (fun h=>hfa h.1)] at hst;rw[hst] at hf;have hnx:=hJ (n' - 1) _ ⟨j+1,l2,H,hr,by omega,hf,ha2,by omega,rfl⟩;clear hJ hout;subst hr
     all_goals
      unfold h9 at hnx
      repeat' (first|simp -implicitDefEqProofs only[go_sem,h9,qeaV,d_,q_,f_,s_,s10,n_,t_,zX,hltj,am_ ht,t11,s14,aa10 hil2,hla,hfd,hwj]|refine ag_ (fun hb=>?_) (fun hb=>?_)|refine⟨fun hb=>?_,fun hb=>?_⟩|fail)
      exact aa_ (n' - 1) (by omega) hnx
   ·have hltj:decide ((j:Int)<(q.trans.length:Int))=false:=by simp;omega
    rw[uN (by omega),tN] at hf;subst hf;have hnx:=hout H hr;clear hJ hout;subst hr
    all_goals
     unfold h9 at hnx
     repeat' (first|simp -implicitDefEqProofs only[go_sem,h9,qeaV,d_,q_,f_,s_,s10,n_,t_,zX,hltj,hw]|refine ag_ (fun hb=>?_) (fun hb=>?_)|refine⟨fun hb=>?_,fun hb=>?_⟩|fail)
     exact aa_ m (by omega) hnx
 ·have hlt:decide ((i:Int)<(l.length:Int))=false:=by simp;omega
  have hlv:l=v:=by
   rw[←hg];cases m with
   | zero=>rfl
   | succ m=>rw[grow,wF (by omega)]
  subst hlv;clear hI;subst hr
  repeat' (first|simp -implicitDefEqProofs only[go_sem,h9,qeaV,d_,q_,f_,s_,s10,n_,t_,zX,hlt]|refine ag_ (fun hb=>?_) (fun hb=>?_)|refine⟨fun hb=>?_,fun hb=>?_⟩|(refine ac10 [(1001,9),(1002,3)] hsort rfl ⟨⟨_,_,rfl,rfl,rfl⟩,⟨_,_,rfl,rfl,rfl⟩,trivial⟩ rfl rfl rfl ?_)|fail)
  have tkr:((natI RL).map iv).take l.length=(natI RL).map iv:=by rw[←hrl,←nl_];exact t25 _ _
  have hnr:(natI RL).length=l.length:=by rw[nl_,hrl]
  refine h _ ⟨_,.agg [.seq 1 ((natI RL).map iv)],rfl,?_,.refl _⟩;simp [one,view,view.go,AV.cells,viewK,viewK.go,viewB,viewBs,hget,t25,tkr,hnr]
