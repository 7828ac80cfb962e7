/-
  Lemmas. No claim is proved here.
-/
import Derived.Test.YtkadalpaeglmnaaGreatDoorYD23
set_option linter.unusedSimpArgs false
set_option maxHeartbeats 4000000
namespace Go.Proofs.YtkadalpaeglmnaaGreatDoor.Ab
open Go
theorem ee_ (q:QeaT) (out:List ExT) (i:Nat) (x:NodeT):e12 q out i x=match l_ q i x with
  | some e=>e
  | none=>if x.op<4∨16<x.op∨¬x.value=v0 then e0 else if (bAt out ((i:Int) - 1)).kind=0 then e0 else
   if x.op≤5 then (if x.a=(i:Int) - 1∧x.b=0 then ⟨o11 x.op (bAt out ((i:Int) - 1)).kind (bAt out ((i:Int) - 1)).kind,(bAt out ((i:Int) - 1)).depth+1,(bAt out ((i:Int) - 1)).from_⟩ else e0)
   else if x.b=(i:Int) - 1∧x.a=(bAt out ((i:Int) - 1)).from_ - 1 then
    (if (bAt out x.a).kind=0 then e0 else ⟨o11 x.op (bAt out x.a).kind (bAt out ((i:Int) - 1)).kind,max (bAt out x.a).depth (bAt out ((i:Int) - 1)).depth+1,(bAt out x.a).from_⟩)
   else e0:=by
 unfold e12;cases l_ q i x with
 | some e=>rfl
 | none=>
  dsimp only;split
  ·rfl
  ·unfold bAt;cases at? out ((i:Int) - 1) with
   | none=>rfl
   | some b=>
    cases at? out x.a <;> simp
structure QeaT.Kinds (q:QeaT):Prop where
 quants:∀y∈q.quants,1≤y.type∧y.type≤3
 frees:∀y∈q.frees,y.init.ok=true
theorem Val.ok_kind {v:Val} (h:v.ok=true):1≤v.kind∧v.kind≤3:=by
 unfold Val.ok at h;split at h
 ·omega
 ·split at h
  ·omega
  ·simp at h;omega
theorem on10 {op a b:Int} (ho:6≤op) (h:¬a=b):o11 op a b=0:=by have h':¬b=a:=fun e=>h e.symm;unfold o11;rw[zF (by omega),zF (by omega)];simp [h']
theorem or_ {op a b:Int} (ha:1≤a∧a≤3):0≤o11 op a b∧o11 op a b≤3:=by
 unfold o11
 repeat' split
 all_goals omega
def s31 (e b:ExT):Prop:=e.kind=b.kind∧(¬e.kind=0→e=b)∧0≤e.kind∧e.kind≤3
theorem sz_:s31 e0 e0:=⟨rfl,fun h=>absurd rfl h,by simp,by simp⟩
theorem ss16 {q:QeaT} (hk:q.Kinds) {o1 o2:List ExT} (ho:∀n,s31 (bAt o1 n) (bAt o2 n)) (i:Nat) (x:NodeT):s31 (e12 q o1 i x) (b11 q o2 i x):=by
 rw[ee_];obtain⟨op,na,mb,v⟩:=x;unfold b11 l_;dsimp only;by_cases h1:op=1
 ·subst h1;simp only[zG];by_cases hc:na=0∧mb=0∧v.ok=true
  ·rw[zG hc,zG hc];have:=Val.ok_kind hc.2.2;exact⟨rfl,fun _ =>rfl,by dsimp only;omega,by dsimp only;omega⟩
  ·rw[zF hc,zF hc];exact sz_
 rw[zF h1,zF h1];by_cases hv:v=v0
 ·rw[zF (show ¬¬v=v0 from not_not_intro hv)];by_cases h2:op=2
  ·subst h2;simp only[zG];by_cases hb:mb=0
   ·rw[zG hb,zG ⟨hb,hv⟩];cases hq:at? q.quants na with
    | none=>exact sz_
    | some y=>
     obtain⟨j,_,hj⟩:=at?_some hq;have:=hk.quants y (List.mem_of_getElem? hj);exact⟨rfl,fun _ =>rfl,by dsimp only[Option.map];omega,by dsimp only[Option.map];omega⟩
   ·rw[zF hb,zF (fun h=>hb h.1)];exact sz_
  rw[zF h2,zF h2];by_cases h3:op=3
  ·subst h3;simp only[zG];by_cases hb:mb=0
   ·rw[zG hb,zG ⟨hb,hv⟩];cases hq:at? q.frees na with
    | none=>exact sz_
    | some y=>
     obtain⟨j,_,hj⟩:=at?_some hq;have:=Val.ok_kind (hk.frees y (List.mem_of_getElem? hj));exact⟨rfl,fun _ =>rfl,by dsimp only[Option.map];omega,by dsimp only[Option.map];omega⟩
   ·rw[zF hb,zF (fun h=>hb h.1)];exact sz_
  rw[zF h3,zF h3];dsimp only;by_cases hr:op<4∨16<op
  ·rw[zG hr,zG (show op<4∨16<op∨¬v=v0 by omega)];exact sz_
  rw[zF hr,zF (show ¬(op<4∨16<op∨¬v=v0) by simp only[hv,vY,or_false];exact hr)];obtain⟨hb1,hb2,hb3,hb4⟩:=ho ((i:Int) - 1);by_cases hz:(bAt o1 ((i:Int) - 1)).kind=0
  ·rw[zG hz];have hz':(bAt o2 ((i:Int) - 1)).kind=0:=by omega
   rw[zG (Or.inl hz'),zG (Or.inl hz'),ite_self];exact sz_
  ·have hbe:=hb2 hz;rw[zF hz,hbe];rw[hbe] at hz hb3 hb4;generalize bAt o2 ((i:Int) - 1)=b at*;by_cases h5:op≤5
   ·rw[zG h5,zG h5];by_cases hc:na=(i:Int) - 1∧mb=0
    ·rw[zG hc,zF (by omega)];have:=or_ (op:=op) (a:=b.kind) (b:=b.kind) (by omega);rw[te_ _ _ _ (by omega),zG rfl];exact⟨rfl,fun _ =>rfl,this.1,this.2⟩
    ·rw[zF hc,zG (by omega)];exact sz_
   ·rw[zF h5,zF h5];by_cases hc:mb=(i:Int) - 1∧na=b.from_ - 1
    ·rw[zG hc,zF (show ¬(b.kind=0∨¬mb=(i:Int) - 1∨¬na=b.from_ - 1) by omega)];rw[hc.2];obtain⟨ha1,ha2,ha3,ha4⟩:=ho (b.from_ - 1);by_cases hza:(bAt o1 (b.from_ - 1)).kind=0
     ·rw[zG hza];have hza':(bAt o2 (b.from_ - 1)).kind=0:=by omega
      rw[hza',show t44 op 0 b.kind=0 from zG (by omega)];exact⟨rfl,fun h=>absurd rfl h,by simp,by simp⟩
     ·have hae:=ha2 hza;rw[zF hza,hae];rw[hae] at hza ha3 ha4;generalize bAt o2 (b.from_ - 1)=a at*;have:=or_ (op:=op) (a:=a.kind) (b:=b.kind) (by omega);rw[te_ _ _ _ (by omega),Int.max_comm b.depth];by_cases hab:a.kind=b.kind
      ·rw[zG hab];exact⟨rfl,fun _ =>rfl,this.1,this.2⟩
      ·rw[zF hab,on10 (by omega) hab];exact⟨rfl,fun _ =>rfl,by simp,by simp⟩
    ·rw[zF hc,zG (by omega)];exact sz_
 ·rw[zG hv];by_cases h2:op=2
  ·rw[zG h2,zF (fun h=>hv h.2)];dsimp only;rw[zG (by omega)];exact sz_
  ·rw[zF h2];by_cases h3:op=3
   ·rw[zG h3,zF (fun h=>hv h.2)];dsimp only;rw[zG (by omega)];exact sz_
   ·rw[zF h3];dsimp only;rw[zG (Or.inr (Or.inr hv))];exact sz_
theorem ba_ {l:List ExT} {e:ExT} {n:Int}:bAt (l++[e]) n=if n=l.length then e else bAt l n:=by
 unfold bAt at?;split
 ·rename_i h0;rw[wM];split
  ·rw[zF (by omega)]
  ·split
   ·rename_i h1;simp [h1]
   ·rw[wF (by simp;omega),wF (by omega)]
 ·rw[zF (by omega)]
theorem sa12 {q:QeaT} (hk:q.Kinds):∀n,n≤q.nodes.length→∀j,s31 (bAt (exL q n) j) (bAt (beL q n) j)
 | 0,_,j=>by
  have:bAt ([]:List ExT) j=e0:=by unfold bAt at?;split <;> simp
  show s31 (bAt [] j) (bAt [] j);rw[this];exact sz_
 | n+1,h,j=>by
  obtain⟨x,hx,_⟩:=as10 (l:=q.nodes) (i:=n) (by omega);rw[es_ hx,bs10 hx,ba_,ba_,el_ q n (by omega),bl_ q n (by omega)];split
  ·exact ss16 hk (sa12 hk n (by omega)) n x
  ·exact sa12 hk n (by omega) j
theorem kw_ {q:QeaT} (hk:q.Kinds) (a r k:Int):w_ (e11 q) a r k=((k16 q a r).1==k&&(!(k==0)&&decide ((k16 q a r).2≤64))):=by
 have hs:=sa12 hk q.nodes.length (zE _) r;have hz:∀b:Bool,((0:Int)==k&&(!(k==0)&&b))=false:=fun b=>by
  by_cases h:k=0
  ·subst h;simp
  ·rw[show ((0:Int)==k)=false by simp;omega,xQ]
 change s31 (bAt (e11 q) r) _ at hs;unfold w_ k16;cases he:at? (e11 q) r with
 | none=>
  have hb:bAt (e11 q) r=e0:=by unfold bAt;rw[he];rfl
  rw[hb] at hs;rw[zG (Or.inl hs.1.symm)];exact (hz _).symm
 | some e=>
  obtain⟨j,rfl,hj⟩:=at?_some he;have hok:=eo10 q q.nodes.length (zE _) j e hj;have hb:bAt (e11 q) j=e:=by unfold bAt;rw[he];rfl
  rw[hb] at hs;obtain⟨h1,h2,h3,h4⟩:=hs;by_cases hz0:e.kind=0
  ·rw[zG (Or.inl (by omega))];dsimp only;rw[hz,hz0];by_cases h:k=0
   ·subst h;simp
   ·rw[show ((0:Int)==k)=false by simp;omega];simp
  ·have hbe:=h2 hz0;rw[←hbe];by_cases hf:e.from_=a
   ·rw[zF (by simp [hz0,hf])];dsimp only;rw[show decide (a≤(j:Int))=true by simp;omega,hf];simp
   ·rw[zG (Or.inr hf)];dsimp only;rw[hz,show (e.from_==a)=false by simp [hf]];simp
variable {G:Nat→Option AV}
theorem ra11 {P:Program} {Φ:St→Prop} (a b c:AC) (κ:List Kt) (st:St):run P G Φ (.seq a (.seq b c)) κ st=run P G Φ (.seq (.seq a b) c) κ st:=by
 simp only[rs13];unfold run;congr 1;funext e st';cases e
 ·exact rs13 b c κ st'
 ·rfl
 ·rfl
theorem ra13 {P:Program} {Φ:St→Prop} (x a b c:AC) (κ:List Kt) (st:St):run P G Φ (.seq x (.seq (.seq a b) c)) κ st=run P G Φ (.seq (.seq x a) (.seq b c)) κ st:=by
 simp only[rs13];unfold run;congr 1;funext e st';cases e
 ·show run P G Φ (.seq (.seq a b) c) κ st'=run P G Φ a (.code (.seq b c)::κ) st';rw[rs13,rs13];unfold run;congr 1;funext e st';cases e
  ·exact (rs13 b c κ st').symm
  ·rfl
  ·rfl
 ·rfl
 ·rfl
def r18 (q:QeaT) (t:TransT) (from_ a1:Int):Int×Bool:=
 let r:=allS (s11 q (e11 q) t.sets) t.sets 0 a1
 if r.1=true then (r.2,match at? q.symbols t.symbol with | some s=>(mid q.nodes from_ r.2).all fun x=>!(x.op==2)||n13 s x.a | none=>false) else (0,false)
def t17 (q:QeaT) (t:TransT) (from_:Int):Int×Bool:=
 if (inR t.from_ q.states.length&&(inR t.to_ q.states.length&&inR t.symbol q.symbols.length))=false then (0,false)
 else if t.guard= -1 then r18 q t from_ from_
 else if w_ (e11 q) from_ t.guard 3=true then r18 q t from_ (t.guard+1) else (0,false)
def tupR (r:Int×Bool):AV:=.tup [iv r.1,.bool r.2]
theorem rt10 (q:QeaT) (hq:q.Few) (hk:q.Kinds) (t:TransT) (ht:t.sets.length≤1000000) (from_:Int) (ha:0≤from_) (hal:from_≤q.nodes.length):PQ G np23 [qeaV q,t11 t,iv from_] (tupR (t17 q t from_)):=by
 have hln:(e11 q).length=q.nodes.length:=el_ q _ (by omega);have hnl:=hq.nodes;refine pp14 fun Φ h=>?_;unfold cp14;have fin:∀a b heap,t17 q t from_=(a,b)→Φ ⟨153,[(6,iv a),(7,.bool b)],heap⟩:=fun a b heap e=>h _ ⟨_,_,rfl,rfl,fe_ (by rw[e];rfl)⟩;clear h;by_cases hc:(inR t.from_ q.states.length&&(inR t.to_ q.states.length&&inR t.symbol q.symbols.length))=false
 ·have fin0:=fun heap=>fin 0 false heap (by rw[t17,zG hc]);clear fin;obtain⟨t1,t2,t3,t4,sets⟩:=t;dsimp only at*;simp only[inR,wX,zU,zO,zK] at hc
  repeat' (first|simp -implicitDefEqProofs only[go_sem,t11,s14,qeaV,d_,q_,f_,s_,s10,n_,t_,zX]|refine ag_ (fun hb=>?_) (fun hb=>?_)|refine⟨fun hb=>?_,fun hb=>?_⟩|fail)
  all_goals first | exact fin0 _ | (exfalso;simp at*;omega)
 ·obtain⟨t1,t2,t3,t4,sets⟩:=t;dsimp only at*;have hin:inR t1 q.states.length=true∧inR t3 q.states.length=true∧inR t2 q.symbols.length=true:=by
   rw[uT] at hc;simpa only[zK] using hc
  obtain⟨hi1,hi2,hi3⟩:=hin;simp only[inR,zK,zU] at hi1 hi2 hi3;obtain⟨j2,rfl⟩:=zS hi3.1;obtain⟨sy,hsy,hsm⟩:=as10 (l:=q.symbols) (i:=j2) (by omega);have hsl:sy.args.length<9223372036854775807:=by have:=hq.args sy hsm;omega
  rw[ra11,ra11,ra11,ra13];refine ac20 (fun st=>∃a1:Int,st=⟨153,[(2,iv from_),(3,.ref 3 0 0),(4,.ref 4 0 0),(8,iv a1),(11,iv 0)],[(4,⟨false,taT_,5,[t11 ⟨t1,j2,t3,t4,sets⟩]⟩),(3,⟨false,taQ_,9,[qeaV q]⟩)]⟩∧0≤a1∧a1≤q.nodes.length∧t17 q ⟨t1,j2,t3,t4,sets⟩ from_=r18 q ⟨t1,j2,t3,t4,sets⟩ from_ a1) ?_ ?_
  ·have hK:=rKp_ (G:=G) q hq.nodes from_ t4;have kw:=kw_ hk from_ t4 3;have hre1:t4= -1→t17 q ⟨t1,j2,t3,t4,sets⟩ from_=r18 q ⟨t1,j2,t3,t4,sets⟩ from_ from_:=fun h=>by rw[t17,zF hc,zG h]
   have hre2:¬t4= -1→w_ (e11 q) from_ t4 3=true→t17 q ⟨t1,j2,t3,t4,sets⟩ from_=r18 q ⟨t1,j2,t3,t4,sets⟩ from_ (t4+1):=fun h hw=>by rw[t17,zF hc,zF h,zG hw]
   have hre3:¬t4= -1→w_ (e11 q) from_ t4 3=false→t17 q ⟨t1,j2,t3,t4,sets⟩ from_=(0,false):=fun h hw=>by rw[t17,zF hc,zF h,zF (by rw[hw];simp)]
   have hwl:=fun h=>wl_ (l:=e11 q) (a:=from_) (r:=t4) (k:=3) h;have hwp:=fun h=>wp_ (l:=e11 q) (a:=from_) (r:=t4) (k:=3) ha h;have hwx:w_ (e11 q) from_ t4 3=true→IntKind.i64.wrap (t4+1)=t4+1:=fun h=>wi_ (by have:=hwp h;omega) (by have:=hwl h;omega);rw[hln] at hwl;generalize w_ (e11 q) from_ t4 3=w at*;generalize k16 q from_ t4=kd at*;obtain⟨k,d⟩:=kd;dsimp only at kw;simp only[qeaV,d_,q_,f_,s_,s10,n_,t_] at hK;by_cases hg:t4= -1
   ·clear hre2 hre3;subst hg
    repeat' (first|simp -implicitDefEqProofs only[go_sem,t11,s14,qeaV,d_,q_,f_,s_,s10,n_,t_,zX]|refine ag_ (fun hb=>?_) (fun hb=>?_)|refine⟨fun hb=>?_,fun hb=>?_⟩|refine ac_ hK rfl rfl ?_|fail)
    all_goals first | exact⟨_,rfl,ha,hal,hre1 rfl⟩ | (exfalso;simp at*;omega)
   ·cases w with
    | false=>
     have hre3:=hre3 hg rfl;clear hre1 hre2 hwl hwp hwx
     repeat' (first|simp -implicitDefEqProofs only[go_sem,t11,s14,qeaV,d_,q_,f_,s_,s10,n_,t_,zX]|refine ag_ (fun hb=>?_) (fun hb=>?_)|refine⟨fun hb=>?_,fun hb=>?_⟩|refine ac_ hK rfl rfl ?_|fail)
     all_goals first | exact fin _ _ _ hre3 | (exfalso;simp at*;omega) | (exfalso;simp_all;omega)
    | true=>
     have hre2:=hre2 hg rfl;have hwl:=hwl rfl;have hwp:=hwp rfl;have hwx:=hwx rfl;clear hre1 hre3
     repeat' (first|simp -implicitDefEqProofs only[go_sem,t11,s14,qeaV,d_,q_,f_,s_,s10,n_,t_,zX,hwx]|refine ag_ (fun hb=>?_) (fun hb=>?_)|refine⟨fun hb=>?_,fun hb=>?_⟩|refine ac_ hK rfl rfl ?_|fail)
     all_goals first | exact⟨_,rfl,hwp,by omega,hre2⟩ | (exfalso;simp at*;omega) | (exfalso;simp_all;omega)
  ·rintro st ⟨a1,rfl,h0,hle1,hre⟩;simp -implicitDefEqProofs only[go_sem,t11,s14,qeaV,d_,q_,f_,s_,s10,n_,t_,zX];refine al_ (fun n st=>∃(i:Nat) (a:Int),i+n=sets.length∧st=⟨153,[(2,iv from_),(3,.ref 3 0 0),(4,.ref 4 0 0),(8,iv a),(11,iv i)],[(3,⟨false,taQ_,9,[qeaV q]⟩),(4,⟨false,taT_,5,[t11 ⟨t1,j2,t3,t4,sets⟩]⟩)]⟩∧0≤a∧a≤q.nodes.length∧allS (s11 q (e11 q) sets) sets 0 a1=allS (s11 q (e11 q) sets) (sets.drop i) i a) sets.length ⟨0,a1,by simp,rfl,h0,hle1,rfl⟩ ?_;rintro I hI n st ⟨i,a,hi,rfl,hpos,hle,hno⟩;simp -implicitDefEqProofs only[go_sem,t11,s14,qeaV,d_,q_,f_,s_,s10,n_,t_,zX];refine⟨fun hlt=>?_,fun hge=>?_⟩
   ·have hlt':i<sets.length:=by omega
    obtain⟨⟨fr,ex⟩,hx,hm⟩:=as10 hlt';have hw:=ws_ hlt' (by omega);have hK:=rKp_ (G:=G) q hq.nodes a ex;rw[as15 hx] at hno;simp only[qeaV,d_,q_,f_,s_,s10,n_,t_] at hK;cases hf:at? q.frees fr with
    | none=>
     have hnf:=at?_none hf;generalize k16 q a ex=kd at*;obtain⟨k,d⟩:=kd;have hs:s11 q (e11 q) sets a i ⟨fr,ex⟩=(false,a):=by simp [s11,hf]
     rw[hs,zF (by simp)] at hno;have hr:t17 q ⟨t1,j2,t3,t4,sets⟩ from_=(0,false):=by rw[hre,r18];dsimp only;rw[hno,zF (by simp)]
     repeat' (first|simp -implicitDefEqProofs only[go_sem,am_ hx,setV,t11,s14,qeaV,d_,q_,f_,s_,s10,n_,t_,hw,zX]|refine ag_ (fun hb=>?_) (fun hb=>?_)|refine⟨fun hb=>?_,fun hb=>?_⟩|refine ac_ hK rfl rfl ?_|fail)
     all_goals first | exact fin _ _ _ hr | (exfalso;simp at*;omega)
    | some f=>
     obtain⟨j,rfl,hfj⟩:=at?_some hf;have hjt:=(zZ.1 hfj).1;have kw:=kw_ hk a ex f.init.kind;have hs:s11 q (e11 q) sets a i ⟨j,ex⟩=if ((sets.take i).any fun x=>x.free==(j:Int))=true then (false,a) else if w_ (e11 q) a ex f.init.kind=true then (true,ex+1) else (false,a):=by simp [s11,hf]
     have hbad:((sets.take i).any fun x=>x.free==(j:Int))=true∨w_ (e11 q) a ex f.init.kind=false→t17 q ⟨t1,j2,t3,t4,sets⟩ from_=(0,false):=fun hor=>by
      have hs':s11 q (e11 q) sets a i ⟨j,ex⟩=(false,a):=by
       rw[hs];rcases hor with h | h
       ·rw[zG h]
       ·rw[h];simp
      rw[hs',zF (by simp)] at hno;rw[hre,r18];dsimp only;rw[hno,zF (by simp)]
     generalize k16 q a ex=kd at*;obtain⟨k,d⟩:=kd;dsimp only at kw
     repeat' (first|simp -implicitDefEqProofs only[go_sem,am_ hx,am_ hfj,f10,setV,t11,s14,qeaV,d_,q_,f_,s_,s10,n_,t_,hw,zX]|refine ag_ (fun hb=>?_) (fun hb=>?_)|refine⟨fun hb=>?_,fun hb=>?_⟩|refine ac_ hK rfl rfl ?_|fail)
     all_goals try (exfalso;simp at*;omega)
     all_goals try (refine fin _ _ _ (hbad (Or.inr ?_));rw[kw];clear hK hno hs hbad kw hI fin hw;simp_all;done)
     have hwt:w_ (e11 q) a ex f.init.kind=true:=by rw[kw];clear hK hno hs hbad kw hI fin hw;simp_all
     have hwl:=wl_ hwt;have hwp:=wp_ hpos hwt;have hwx:IntKind.i64.wrap (ex+1)=ex+1:=wi_ (by omega) (by omega);refine al_ (fun m st=>∃jj:Nat,jj+m=i∧st=⟨153,[(2,iv from_),(3,.ref 3 0 0),(4,.ref 4 0 0),(11,iv i),(12,.ref 12 0 0),(15,iv jj)],[(3,⟨false,taQ_,9,[qeaV q]⟩),(4,⟨false,taT_,5,[t11 ⟨t1,j2,t3,t4,sets⟩]⟩),(12,⟨false,ta19,2,[setV ⟨j,ex⟩]⟩)]⟩∧∀p x,p<jj→sets[p]? =some x→(x.free==(j:Int))=false) i ⟨0,by omega,rfl,fun p x hp=>by omega⟩ ?_;rintro J hJ m st ⟨jj,hjj,rfl,hall⟩;simp -implicitDefEqProofs only[go_sem,setV,t11,s14,qeaV,d_,q_,f_,s_,s10,n_,t_,hw,hwx,zX];refine⟨fun hlt2=>?_,fun hge2=>?_⟩
     ·have hlt2':jj<i:=by omega
      obtain⟨y,hy,hym⟩:=as10 (l:=sets) (i:=jj) (by omega);have hw2:=ws_ hlt2' (by omega)
      repeat' (first|simp -implicitDefEqProofs only[go_sem,am_ hy,setV,t11,s14,qeaV,d_,q_,f_,s_,s10,n_,t_,hw2,zX]|refine ag_ (fun hb=>?_) (fun hb=>?_)|refine⟨fun hb=>?_,fun hb=>?_⟩|fail)
      ·refine fin _ _ _ (hbad (Or.inl (yL.2 ⟨y,?_,?_⟩)))
       ·exact tR.2 ⟨jj,by rw[vL hlt2'];exact hy⟩
       ·simpa using hb
      ·exact aa_ (m - 1) (by omega) (hJ _ _ ⟨jj+1,by omega,rfl,fun p x hp hx=>by
        by_cases e:p=jj
        ·subst e;rw[hy] at hx;cases hx;simpa using hb
        ·exact hall p x (by omega) hx⟩)
     ·have hany:((sets.take i).any fun x=>x.free==(j:Int))=false:=by
       rw[xR];intro y hy;obtain⟨p,hp⟩:=zN hy;rw[yU] at hp;split at hp
       ·rw[hall p y (by omega) hp];simp
       ·cases hp
      rw[hs,hany,hwt] at hno;exact aa_ (n - 1) (by omega) (hI _ _ ⟨i+1,ex+1,by omega,rfl,hwp,by omega,by simpa using hno⟩)
   ·rw[ae_ (by omega)] at hno;have hb:=rb10 (G:=G) q hq.nodes sy hsl from_ a ha hle;have hr:t17 q ⟨t1,j2,t3,t4,sets⟩ from_=(a,(mid q.nodes from_ a).all fun x=>!(x.op==2)||n13 sy x.a):=by
     rw[hre,r18];dsimp only;rw[hno,zG rfl,at?_nat hsy]
    simp only[symV,a_,qeaV,d_,q_,f_,s_,s10,n_,t_] at hb
    repeat' (first|simp -implicitDefEqProofs only[go_sem,am_ hsy,symV,a_,t11,s14,qeaV,d_,q_,f_,s_,s10,n_,t_,zX]|refine ag_ (fun hb=>?_) (fun hb=>?_)|refine⟨fun hb=>?_,fun hb=>?_⟩|refine ac_ hb rfl rfl ?_|fail)
    all_goals exact fin _ _ _ hr
theorem if10 {α:Type} {p:α→Bool} {l:List α} {i:Nat} {x:α} (hx:l[i]? =some x) (hp:p x=true):(idxF p l==(i:Int))= !((l.take i).any p):=by
 have hi:=(zZ.1 hx).1;cases ha:(l.take i).any p with
 | false=>
  have hno:∀j y,j<i→l[j]? =some y→p y=false:=fun j y hj hy=>by have:=xR.1 ha y (tR.2 ⟨j,by rw[vL hj];exact hy⟩);simpa using this
  rw[ia10 hx hp hno];simp
 | true=>
  obtain⟨y,hy,hpy⟩:=yL.1 ha;obtain⟨j,hj⟩:=zN hy;rw[yU] at hj;split at hj
  ·rename_i hji;have hlt:idxF p l<i:=by
    unfold idxF;cases hf:l.findIdx? p with
    | none=>
     exfalso;rw[tJ] at hf;have:=hf x (List.mem_of_getElem? hx);rw[hp] at this;cases this
    | some k=>
     rw[wO] at hf;obtain⟨hk,hpk,hmin⟩:=hf;by_cases hkj:j<k
     ·exfalso;have:=hmin j hkj;obtain⟨h1,h2⟩:=zZ.1 hj;rw[h2] at this;exact this hpy
     ·dsimp only;omega
   simp;omega
  ·cases hj
theorem ac11 {α:Type} {p p':Nat→α→Bool} {l:List α} (h:∀i x,l[i]? =some x→p i x=p' i x):allI p l=allI p' l:=by rw[yY,at10,at10];exact⟨fun g i x hx=>by rw[←h i x hx];exact g i x hx,fun g i x hx=>by rw[h i x hx];exact g i x hx⟩
theorem ne_ (l:List Str):allI (n15 l) l=allI (n17 l) l:=ac11 fun i s hs=>by unfold n15 n17;rw[if10 hs (by simp)];congr 3;funext x;rw[yY];simp only[zC];exact eq_comm
theorem se12 (q:QeaT):allI (s28 q) q.symbols=allI (symR q) q.symbols:=ac11 fun i s hs=>by unfold s28 symR;rw[if10 hs (by simp)];congr 3;funext x;rw[yY];simp only[zU];exact eq_comm
theorem te10 (q:QeaT):allI (fun _ (y:QuantT)=>!(k_ y.type==[])) q.quants=allI (fun _ (y:QuantT)=>t35 y.type) q.quants:=ac11 fun i y _ =>by rw[kb_];simp [t35]
def topR (q:QeaT):Bool:=(d10 q.decls).1==0&&(fewS q&&(decide (0≤q.start)&&(decide (q.start<q.states.length)&&h17 q)))
theorem he_ (q:QeaT):(fewS q&&h18 q)=topR q:=by unfold topR h18 h17;rw[ne_,ne_,te10];generalize fewS q=b1;generalize ((d10 q.decls).1==0)=b2;generalize n12 q.name=b3;generalize allI (n17 q.vars) q.vars=b4;generalize allI (n17 q.names) q.names=b5;generalize allI (fun _ (y:QuantT)=>t35 y.type) q.quants=b6;generalize allI (fun _ (y:FreeT)=>y.init.ok) q.frees=b7;generalize decide (0≤q.start)=b8;generalize decide (q.start<q.states.length)=b9;cases b1 <;> cases b2 <;> cases b3 <;> cases b4 <;> cases b5 <;> cases b6 <;> cases b7 <;> cases b8 <;> cases b9 <;> rfl
theorem tk_ {q:QeaT} (h:h17 q=true):q.Kinds:=by
 unfold h17 at h;simp only[zK] at h;obtain⟨h1,h2,_⟩:=h;refine⟨fun y hy=>?_,fun y hy=>?_⟩
 ·obtain⟨i,hi⟩:=zN hy;have:=at10.1 h1 i y hi;simpa [t35] using this
 ·obtain⟨i,hi⟩:=zN hy;exact at10.1 h2 i y hi
theorem zm_ {α β:Type} {p:α→β→Bool}:∀{l:List α} {k:List β},zipB p l k=true→∀x∈l,∃y∈k,p x y=true
 | [],_,_,x,hx=>by simp at hx
 | a::r,[],h,_,_ =>by simp [zipB] at h
 | a::r,b::s,h,x,hx=>by
  rw[zipB,zK] at h;rcases yM.1 hx with rfl | hx
  ·exact⟨b,yX,h.1⟩
  ·obtain⟨y,hy,hp⟩:=zm_ h.2 x hx;exact⟨y,zD _ hy,hp⟩
theorem ac15 {α:Type} {p p':α→Bool} {l:List α} (h:∀x∈l,p x=p' x):l.any p=l.any p':=by rw[yY,yL,yL];exact⟨fun⟨x,hx,hp⟩=>⟨x,hx,by rw[←h x hx];exact hp⟩,fun⟨x,hx,hp⟩=>⟨x,hx,by rw[h x hx];exact hp⟩⟩
theorem ac19 {α:Type} {p p':α→Bool} {l:List α} (h:∀x∈l,p x=p' x):l.all p=l.all p':=by rw[yY,yH,yH];exact⟨fun g x hx=>by rw[←h x hx];exact g x hx,fun g x hx=>by rw[h x hx];exact g x hx⟩
theorem se10 {q:QeaT} {s:SymT} (h:symS q s=true) (v:Int):s12 s v=n13 s v:=by
 unfold s12 n13;refine ac15 fun x hx=>?_;have hv:x.kind=2→x.value=v0:=fun hk=>by
  unfold symS at h;split at h
  ·cases h
  ·obtain⟨y,_,hp⟩:=zm_ h x hx;unfold argS at hp;rw[zF (by omega),zG hk] at hp;split at hp
   ·cases hp
   ·simp at hp;exact hp.2
 obtain⟨k,n,val⟩:=x;rw[yY];simp only[zC,ArgT.mk.injEq,zK] at*;constructor
 ·rintro⟨h1,h2,h3⟩;exact⟨h1.symm,h2.symm⟩
 ·rintro⟨h1,h2⟩;exact⟨h1.symm,h2.symm,(hv h1).symm⟩
theorem so10 {q:QeaT} (h:allI (symR q) q.symbols=true):∀s∈q.symbols,∀v,s12 s v=n13 s v:=fun s hs v=>by obtain⟨i,hi⟩:=zN hs;have:=at10.1 h i s hi;unfold symR at this;rw[zK] at this;exact se10 this.1 v
theorem se11 (q:QeaT):s19 q=s16 q:=by
 unfold s19 s16;rw[se12];cases h:allI (symR q) q.symbols with
 | false=>rw[xQ,xQ]
 | true=>
  congr 2;refine ac11 fun i y _ =>?_;exact ac15 fun s hs=>so10 h s hs _
theorem oc_ {q:QeaT} {l:List ExT} (h:∀s∈q.symbols,∀v,s12 s v=n13 s v) (a:Int) (t:TransT):o_ q l s12 a t=o_ q l n13 a t:=by
 have hr:∀f a,o12 q l s12 t f a=o12 q l n13 t f a:=fun f a=>by
  unfold o12;cases hs:at? q.symbols t.symbol with
  | none=>rfl
  | some s=>
   obtain⟨j,_,hj⟩:=at?_some hs;dsimp only;congr 2;exact ac19 fun x _ =>by rw[h s (List.mem_of_getElem? hj)]
 unfold o_;rw[hr,hr]
theorem ac13 {α σ:Type} {f g:σ→Nat→α→Bool×σ} (h:∀s i x,f s i x=g s i x):∀(l:List α) (i:Nat) (s:σ),allS f l i s=allS g l i s
 | [],_,_ =>rfl
 | x::r,i,s=>by rw[allS,allS,h,ac13 h r]
def s21 (q:QeaT) (a:Int) (_ :Nat) (t:TransT):Bool×Int:=((t17 q t a).2,(t17 q t a).1)
theorem se14 (q:QeaT) (a:Int) (i:Nat) (t:TransT):(o_ q (e11 q) n13 a t).1=(s21 q a i t).1∧((s21 q a i t).1=true→o_ q (e11 q) n13 a t=s21 q a i t):=by
 have hr:∀f a,(o12 q (e11 q) n13 t f a).1=(r18 q t f a).2∧((r18 q t f a).2=true→o12 q (e11 q) n13 t f a=((r18 q t f a).2,(r18 q t f a).1)):=fun f a=>by
  unfold o12 r18;dsimp only;generalize allS (s11 q (e11 q) t.sets) t.sets 0 a=r;obtain⟨b,A⟩:=r;cases b
  ·simp
  ·simp;exact⟨rfl,fun _ =>rfl⟩
 unfold o_ s21 t17;split
 ·simp
 ·split
  ·exact hr a a
  ·split
   ·exact hr a _
   ·simp
theorem as23 {α σ:Type} {f g:σ→Nat→α→Bool×σ} (h:∀s i x,(f s i x).1=(g s i x).1∧((g s i x).1=true→f s i x=g s i x)):∀(l:List α) (i:Nat) (s:σ),(allS f l i s).1=(allS g l i s).1∧((allS g l i s).1=true→allS f l i s=allS g l i s)
 | [],_,_ =>⟨rfl,fun _ =>rfl⟩
 | x::r,i,s=>by
  obtain⟨h1,h2⟩:=h s i x;rw[allS,allS];cases hg:(g s i x).1 with
  | false=>
   rw[hg] at h1;rw[h1];simp
  | true=>
   rw[h2 hg,hg];simp only[xZ];exact as23 h r (i+1) _
def t31 (q:QeaT):Bool:=(allS (s21 q) q.trans 0 0).1&&(allS (s21 q) q.trans 0 0).2==(q.nodes.length:Int)
def r14 (q:QeaT):Bool:=topR q&&(t31 q&&s16 q)
theorem re_ (q:QeaT):r16 q=r14 q:=by
 unfold r16 r14;rw[←Bool.and_assoc,he_,se11];congr 1;cases h:s16 q with
 | false=>rw[tM,tM]
 | true=>
  congr 1;have hs:allI (symR q) q.symbols=true:=by unfold s16 at h;simp only[zK] at h;exact h.2.1
  have hln:(e11 q).length=q.nodes.length:=el_ q _ (by omega);unfold t41 t31;dsimp only;rw[ac13 (fun a _ t=>oc_ (so10 hs) a t),hln];obtain⟨h1,h2⟩:=as23 (f:=fun a _ t=>o_ q (e11 q) n13 a t) (g:=s21 q) (fun a i t=>se14 q a i t) q.trans 0 0;rw[h1];cases hb:(allS (s21 q) q.trans 0 0).1 with
  | false=>rw[xQ,xQ]
  | true=>rw[h2 hb]
theorem tl13 {q:QeaT} {t:TransT} {a:Int} (h0:0≤a) (hl:a≤q.nodes.length) (h:(t17 q t a).2=true):0≤(t17 q t a).1∧(t17 q t a).1≤q.nodes.length∧inR t.symbol q.symbols.length=true:=by
 have hln:(e11 q).length=q.nodes.length:=el_ q _ (by omega);have hrest:∀f a':Int,0≤a'→a'≤(e11 q).length→(r18 q t f a').2=true→0≤(r18 q t f a').1∧(r18 q t f a').1≤q.nodes.length:=fun f a' h1 h2 h=>by
  have:=al13 (q:=q) (l:=e11 q) (sets:=t.sets) (r:=t.sets) (i:=0) h2;unfold r18 at h ⊢;dsimp only at h ⊢;split
  ·dsimp only;omega
  ·rename_i hn;rw[zF hn] at h;cases h
 unfold t17 at h ⊢;split at h
 ·cases h
 ·rename_i hc;rw[zF hc];rw[uT,zK,zK] at hc;split at h
  ·rename_i hg;rw[zG hg];have:=hrest a a h0 (by omega) h;exact⟨this.1,this.2,hc.2.2⟩
  ·rename_i hg;rw[zF hg];split at h
   ·rename_i hw;rw[zG hw];have h1:=wl_ hw;have h2:=wp_ h0 hw;have:=hrest a _ h2 h1.2 h;exact⟨this.1,this.2,hc.2.2⟩
   ·cases h
theorem ea_ {q:QeaT} {i:Nat} {x:NodeT} (hx:q.nodes[i]? =some x):∀{n:Nat},i<n→n≤q.nodes.length→(exL q n)[i]? =some (e12 q (exL q i) i x)
 | n+1,h,hn=>by
  obtain⟨y,hy,_⟩:=as10 (l:=q.nodes) (i:=n) (by omega);rw[es_ hy];have hl:=el_ q n (by omega);rcases uH i n with h1 | h1
  ·rw[xJ (by omega)];exact ea_ hx h1 (by omega)
  ·obtain rfl:i=n:=by omega
   rw[hx] at hy;cases hy;rw[xV (by omega),hl];simp
def m10 (d:Int) (x:NodeT):NodeT:={x with a:=if 3<x.op then x.a - d else x.a,b:=if 5<x.op then x.b - d else x.b}
def m13 (d:Int) (e:ExT):ExT:=⟨e.kind,e.depth,e.from_ - d⟩
theorem lm12 {q q':QeaT} (hq:q'.quants=q.quants) (hf:q'.frees=q.frees) (i d:Nat) (x:NodeT):l_ q' i (m10 d x)=(l_ q (i+d) x).map (m13 d):=by
 have e:((i+d:Nat):Int) - (d:Int)=i:=by omega
 unfold l_ m10 m13;simp only[hq,hf];by_cases h1:x.op=1
 ·simp [h1,e]
 by_cases h2:x.op=2
 ·simp [h2,e];split <;> simp [e];cases at? q.quants x.a <;> simp [e]
 by_cases h3:x.op=3
 ·simp [h3,e];split <;> simp [e];cases at? q.frees x.a <;> simp [e]
 simp [h1,h2,h3]
theorem lf_ {q:QeaT} {i:Nat} {x:NodeT} {e:ExT} (h:l_ q i x=some e):e.from_=i:=by
 unfold l_ at h;split at h
 ·split at h <;> simp at h;subst h;rfl
 split at h
 ·split at h <;> simp at h;obtain⟨y,_,rfl⟩:=h;rfl
 split at h
 ·split at h <;> simp at h;obtain⟨y,_,rfl⟩:=h;rfl
 ·cases h
theorem ef_ {q:QeaT}:∀(n:Nat),n≤q.nodes.length→∀(i:Nat) (e:ExT),(exL q n)[i]? =some e→e.kind≠0→0≤e.from_∧e.from_≤i
 | 0,_,i,e,h,_ =>by simp [exL] at h
 | n+1,hn,i,e,h,hk=>by
  obtain⟨x,hx,_⟩:=as10 (l:=q.nodes) (i:=n) (by omega);have hl:=el_ q n (by omega);rw[es_ hx] at h;rcases uH i n with h1 | h1
  ·rw[xJ (by omega)] at h;exact ef_ n (by omega) i e h hk
  ·have hi:i=n:=by
    have:=(zZ.1 h).1;rw[zB,hl] at this;simp at this;omega
   subst hi;rw[xV (by omega),hl] at h;simp at h;have ih:=ef_ (q:=q) i (by omega);unfold e12 at h;split at h
   ·rename_i e' he;subst h;have:=lf_ he;omega
   ·split at h
    ·subst h;exact absurd rfl hk
    ·split at h
     ·subst h;exact absurd rfl hk
     ·rename_i b hb;obtain⟨j,ej,hj⟩:=at?_some hb;split at h
      ·subst h;exact absurd rfl hk
      ·rename_i hbk;have i1:=ih j b hj hbk;split at h
       ·split at h
        ·subst h;simp only;omega
        ·subst h;exact absurd rfl hk
       ·split at h
        ·rename_i hab;split at h
         ·subst h;exact absurd rfl hk
         ·rename_i a ha;obtain⟨k,ek,hk2⟩:=at?_some ha;split at h
          ·subst h;exact absurd rfl hk
          ·rename_i hak;have i2:=ih k a hk2 hak;subst h;simp only;omega
        ·subst h;exact absurd rfl hk
theorem em_ {q q':QeaT} (hq:q'.quants=q.quants) (hf:q'.frees=q.frees) {s d m:Nat} (hm:s+m≤q'.nodes.length) (hm2:s+d+m≤q.nodes.length) (hn:∀j,j<m→q'.nodes[s+j]? =(q.nodes[s+d+j]?).map (m10 d)):
  ∀(k:Nat),k<m→∀(x:NodeT),q.nodes[s+d+k]? =some x→(e12 q (exL q (s+d+k)) (s+d+k) x).kind≠0→((s+d:Nat):Int)≤(e12 q (exL q (s+d+k)) (s+d+k) x).from_→
   e12 q' (exL q' (s+k)) (s+k) (m10 d x)=m13 d (e12 q (exL q (s+d+k)) (s+d+k) x):=by
 intro k
 induction k using Nat.strongRecOn with
 | _ k ih=>
 intro hk x hx h1 h2;have sub:∀(n:Int) (e:ExT),at? (exL q (s+d+k)) n=some e→e.kind≠0→((s+d:Nat):Int)≤e.from_→at? (exL q' (s+k)) (n - d)=some (m13 d e):=by
  intro n e he hek hef;obtain⟨j,rfl,hj⟩:=at?_some he;have hjl:=(zZ.1 hj).1;rw[el_ q _ (by omega)] at hjl;have hfr:=(ef_ _ (by omega) j e hj hek).2;obtain⟨k2,rfl⟩:∃k2,j=s+d+k2:=⟨j - (s+d),by omega⟩;obtain⟨y,hy,_⟩:=as10 (l:=q.nodes) (i:=s+d+k2) (by omega);have e1:=ea_ hy (n:=s+d+k) (by omega) (by omega);rw[hj] at e1;cases e1;have:=ih k2 (by omega) (by omega) y hy hek hef;have hy':q'.nodes[s+k2]? =some (m10 d y):=by rw[hn k2 (by omega),hy];rfl
  have e2:=ea_ hy' (n:=s+k) (by omega) (by omega);rw[this] at e2;have e3:(((s+d+k2:Nat):Int) - (d:Int))=((s+k2:Nat):Int):=by omega
  rw[e3];exact at?_nat e2
 have i1:((s+k:Nat):Int) - 1=((s+d+k:Nat):Int) - 1 - d:=by omega
 have hlf:=lm12 hq hf (s+k) d x;rw[show s+k+d=s+d+k by omega] at hlf;unfold e12 at h1 h2 ⊢;rw[hlf];cases hl:l_ q (s+d+k) x with
 | some e=>rfl
 | none=>
  rw[hl] at h1 h2;simp only[tW] at h1 h2 ⊢;have m1:(m10 d x).op=x.op:=rfl;have m2:(m10 d x).value=x.value:=rfl;rw[m1,m2];split at h1
  ·exact absurd rfl h1
  rename_i hc;rw[zF hc] at h2 ⊢;rw[zF hc];cases hb:at? (exL q (s+d+k)) (((s+d+k:Nat):Int) - 1) with
  | none=>rw[hb] at h1;exact absurd rfl h1
  | some b=>
   rw[hb] at h1 h2;simp only at h1 h2 ⊢;split at h1
   ·exact absurd rfl h1
   rename_i hbk;rw[zF hbk] at h2 ⊢;have hbf:=ef_ _ (by omega) _ b (at?_some hb).choose_spec.2 hbk;have hbi:=(at?_some hb).choose_spec.1;split at h1
   ·rename_i h5;rw[zG h5] at h2 ⊢;split at h1
    ·rename_i hab;rw[zG hab] at h2 ⊢;simp only at h1 h2;have hb':=sub _ b hb hbk h2;rw[←i1] at hb';rw[hb'];have ma:(m10 d x).a=x.a - d:=by unfold m10;simp only;rw[zG (by omega)]
     have mb:(m10 d x).b=x.b:=by unfold m10;simp only;rw[zF (by omega)]
     simp only[m13,ma,mb];rw[zF hbk,zG h5,zG ⟨by omega,hab.2⟩]
    ·exact absurd rfl h1
   ·rename_i h5;rw[zF h5] at h2 ⊢;split at h1
    ·rename_i hab;rw[zG hab] at h2 ⊢;cases ha:at? (exL q (s+d+k)) x.a with
     | none=>rw[ha] at h1;exact absurd rfl h1
     | some a=>
      rw[ha] at h1 h2;simp only at h1 h2 ⊢;split at h1
      ·exact absurd rfl h1
      rename_i hak;rw[zF hak] at h2 ⊢;simp only at h1 h2;have haf:=ef_ _ (by omega) _ a (at?_some ha).choose_spec.2 hak;have hai:=(at?_some ha).choose_spec.1;have hb':=sub _ b hb hbk (by omega);rw[←i1] at hb';rw[hb'];have ma:(m10 d x).a=x.a - d:=by unfold m10;simp only;rw[zG (by omega)]
      have mb:(m10 d x).b=x.b - d:=by unfold m10;simp only;rw[zG (by omega)]
      have ha':=sub _ a ha hak h2;simp only[m13,ma,mb];rw[zF hbk,zF h5,zG ⟨by omega,by omega⟩,ha'];exact zF hak
    ·exact absurd rfl h1
theorem el10 (q:QeaT):(e11 q).length=q.nodes.length:=el_ q q.nodes.length (zE _)
theorem wi10 {l:List ExT} {a r k:Int} (h:w_ l a r k=true):a≤r∧0≤r∧r<l.length:=by
 unfold w_ at h;split at h
 ·cases h
 ·rename_i e he;obtain⟨i,rfl,hi⟩:=at?_some he;have:=(zZ.1 hi).1;simp only[zK,zU] at h;exact⟨h.1,by omega,by omega⟩
def endS (sets:List SetT) (a:Int):Int:=match sets.getLast? with | some x=>x.expr+1 | none=>a
theorem ec11 (s:SetT) (r:List SetT) (a:Int):endS (s::r) a=endS r (s.expr+1):=by
 unfold endS;cases r with
 | nil=>rfl
 | cons x r=>rw[List.getLast?_cons_cons];cases h:(x::r).getLast? with
  | none=>simp at h
  | some y=>rfl
theorem se_ {q:QeaT} {l:List ExT} {all:List SetT}:∀(sets:List SetT) (i:Nat) {a:Int},0≤a→a≤l.length→(allS (s11 q l all) sets i a).1=true→
  (allS (s11 q l all) sets i a).2=endS sets a∧a≤endS sets a∧endS sets a≤l.length∧∀s∈sets,0≤s.expr
 | [],i,a,h0,h1,_ =>⟨rfl,wZ _,h1,fun s hs=>by cases hs⟩
 | s::r,i,a,h0,h1,h=>by
  unfold allS at h ⊢;split at h
  ·rename_i hs;rw[zG hs];have hst:(s11 q l all a i s).2=s.expr+1∧a≤s.expr∧s.expr<l.length:=by
    unfold s11 at hs ⊢;cases hf:at? q.frees s.free with
    | none=>rw[hf] at hs;cases hs
    | some f=>
     rw[hf] at hs;simp only at hs ⊢;split at hs
     ·cases hs
     ·rename_i hn;rw[zF hn];split at hs
      ·rename_i hw;rw[zG hw];have:=wi10 hw;exact⟨rfl,this.1,this.2.2⟩
      ·cases hs
   rw[hst.1] at h ⊢;obtain⟨g1,g2,g3,g4⟩:=se_ r (i+1) (a:=s.expr+1) (by omega) (by omega) h;rw[ec11];exact⟨g1,by omega,g3,fun x hx=>by
    rcases yM.1 hx with rfl | hx
    ·omega
    ·exact g4 x hx⟩
  ·cases h
def endT (t:TransT) (a:Int):Int:=endS t.sets (if t.guard= -1 then a else t.guard+1)
structure TIn (q:QeaT) (t:TransT) (a b:Int):Prop where
 hf:0≤t.from_∧t.from_<q.states.length
 ht:0≤t.to_∧t.to_<q.states.length
 hs:0≤t.symbol∧t.symbol<q.symbols.length
 hg:t.guard= -1∨(a≤t.guard∧0≤t.guard)
 he:b=endT t a
 hle:a≤b
 hub:b≤q.nodes.length
theorem to11 {q:QeaT} {t:TransT} {a b:Int} (h0:0≤a) (h1:a≤q.nodes.length) (h:t17 q t a=(b,true)):TIn q t a b:=by
 unfold t17 at h;split at h
 ·cases h
 ·rename_i hr;simp only[inR,uT,zK,zU] at hr;obtain⟨⟨r1,r2⟩,⟨r3,r4⟩,r5,r6⟩:=hr;have rest:∀a1:Int,0≤a1→a1≤q.nodes.length→r18 q t a a1=(b,true)→b=endS t.sets a1∧a1≤b∧b≤q.nodes.length:=by
   intro a1 h2 h3 h4;unfold r18 at h4;simp only at h4;split at h4
   ·rename_i hs;obtain⟨g1,g2,g3,_⟩:=se_ t.sets 0 h2 (by rw[el10];exact h3) hs;simp only[vH] at h4;rw[el10] at g3;rw[g1] at h4;exact⟨h4.1.symm,by omega,by omega⟩
   ·cases h4
  split at h
  ·rename_i hg;obtain⟨g1,g2,g3⟩:=rest a h0 h1 h;exact⟨⟨r1,r2⟩,⟨r3,r4⟩,⟨r5,r6⟩,.inl hg,by rw[g1];unfold endT;rw[zG hg],g2,g3⟩
  ·rename_i hg;split at h
   ·rename_i hw;obtain⟨w1,w2,w3⟩:=wi10 hw;rw[el10] at w3;obtain⟨g1,g2,g3⟩:=rest (t.guard+1) (by omega) (by omega) h;exact⟨⟨r1,r2⟩,⟨r3,r4⟩,⟨r5,r6⟩,.inr ⟨w1,w2⟩,by rw[g1];unfold endT;rw[zF hg],by omega,g3⟩
   ·cases h
def segs:List TransT→Int→List (TransT×Int)
 | [],_ =>[]
 | t::r,a=>(t,a)::segs r (endT t a)
def endA:List TransT→Int→Int
 | [],a=>a
 | t::r,a=>endA r (endT t a)
theorem so16 {q:QeaT}:∀(l:List TransT) (i:Nat) {a b:Int},0≤a→a≤q.nodes.length→allS (s21 q) l i a=(true,b)→
  b=endA l a∧a≤b∧b≤q.nodes.length∧∀x∈segs l a,0≤x.2∧TIn q x.1 x.2 (endT x.1 x.2)
 | [],i,a,b,h0,h1,h=>by simp only[allS,vH,true_and] at h;subst h;exact⟨rfl,wZ _,h1,fun x hx=>by cases hx⟩
 | t::r,i,a,b,h0,h1,h=>by
  unfold allS at h;split at h
  ·rename_i ht;have hk:=to11 (q:=q) (t:=t) (b:=(t17 q t a).1) h0 h1 (Prod.ext rfl ht);have e:(s21 q a i t).2=endT t a:=hk.he;rw[e] at h;have hle:=hk.hle;have hub:=hk.hub;have hE:=hk.he;rw[hE] at hk hle hub;obtain⟨g1,g2,g3,g4⟩:=so16 r (i+1) (by omega) hub h;exact⟨g1,by omega,g3,fun x hx=>by
    rcases yM.1 hx with rfl | hx
    ·exact⟨h0,hk⟩
    ·exact g4 x hx⟩
  ·cases h
def t12 (on:Int→Bool) (nw:Int→Int) (ns:List NodeT) (acc:List NodeT×List TransT) (x:TransT×Int):List NodeT×List TransT:=
 if on x.1.from_=true then
  (acc.1++(mid ns x.2 (endT x.1 x.2)).map (m10 (x.2 - acc.1.length)),
   acc.2++[⟨nw x.1.from_,x.1.symbol,nw x.1.to_,if x.1.guard= -1 then -1 else x.1.guard - (x.2 - acc.1.length),x.1.sets.map fun s=>⟨s.free,s.expr - (x.2 - acc.1.length)⟩⟩])
 else acc
theorem mz_ (x:NodeT):m10 0 x=x:=by unfold m10;obtain⟨o,a,b⟩:=x;simp
theorem tm14 {α:Type} (l:List α) {a b:Int} (_h0:0≤a) (h:a≤b):l.take a.toNat++mid l a b=l.take b.toNat:=by
 unfold mid;have:b.toNat=a.toNat+(b.toNat - a.toNat):=by omega
 conv=>rhs;rw[this,List.take_add]
theorem ta36 {q:QeaT} {on:Int→Bool} {nw:Int→Int} (ho:∀s,0≤s→s<(q.states.length:Int)→on s=true∧nw s=s):∀(l:List TransT) {a:Int} (tr:List TransT),0≤a→a≤q.nodes.length→(∀x∈segs l a,0≤x.2∧TIn q x.1 x.2 (endT x.1 x.2))→
  (segs l a).foldl (t12 on nw q.nodes) (q.nodes.take a.toNat,tr)=(q.nodes.take (endA l a).toNat,tr++l)
 | [],a,tr,_,_,_ =>by simp [segs,endA]
 | t::r,a,tr,h0,h1,h=>by
  obtain⟨_,hk⟩:=h (t,a) yX;have hk:TIn q t a (endT t a):=hk;have hl:((q.nodes.take a.toNat).length:Int)=a:=by rw[xY];omega
  have e:t12 on nw q.nodes (q.nodes.take a.toNat,tr) (t,a)=(q.nodes.take (endT t a).toNat,tr++[t]):=by
   unfold t12;simp only;rw[zG (ho _ hk.hf.1 hk.hf.2).1,hl,Int.sub_self,(ho _ hk.hf.1 hk.hf.2).2,(ho _ hk.ht.1 hk.ht.2).2];have m:(mid q.nodes a (endT t a)).map (m10 0)=mid q.nodes a (endT t a):=by
    conv=>rhs;rw[←tO (mid q.nodes a (endT t a))]
    exact vR fun x _ =>mz_ x
   rw[m,tm14 _ h0 hk.hle];obtain⟨f,s,to,g,ss⟩:=t;have e1:(if g= -1 then -1 else g - 0)=g:=by split <;> omega
   have e2:(ss.map fun s=>(⟨s.free,s.expr - 0⟩:SetT))=ss:=by simp
   simp only[e1,e2]
  show (segs r (endT t a)).foldl (t12 on nw q.nodes) (t12 on nw q.nodes (q.nodes.take a.toNat,tr) (t,a))=_;rw[e,ta36 ho r (tr++[t]) (by have:=hk.hle;omega) hk.hub fun x hx=>h x (zD _ hx)];simp [endA]
