/-
  Expressions: that the code's and the reference's are the same, where kinds are. Whole expressions: the code's and the reference's. proctorref13.trans. No claim is proved here.
-/
import Derived.Test.YtjbcfpkibnhodaaGreatDoorYD17
set_option linter.unusedSimpArgs false
set_option maxHeartbeats 4000000
namespace Go.Proofs.YtjbcfpkibnhodaaGreatDoor.Ab
open Go
theorem ee_ (q:QeaT) (out:List ExT) (i:Nat) (x:NodeT):e15 q out i x=match l12 q i x with
  | some e=>e
  | none=>if x.op<4∨16<x.op∨¬x.value=v0 then e0 else if (bAt out ((i:Int) - 1)).kind=0 then e0 else
   if x.op≤5 then (if x.a=(i:Int) - 1∧x.b=0 then ⟨o11 x.op (bAt out ((i:Int) - 1)).kind (bAt out ((i:Int) - 1)).kind,(bAt out ((i:Int) - 1)).depth+1,(bAt out ((i:Int) - 1)).from_⟩ else e0)
   else if x.b=(i:Int) - 1∧x.a=(bAt out ((i:Int) - 1)).from_ - 1 then
    (if (bAt out x.a).kind=0 then e0 else ⟨o11 x.op (bAt out x.a).kind (bAt out ((i:Int) - 1)).kind,max (bAt out x.a).depth (bAt out ((i:Int) - 1)).depth+1,(bAt out x.a).from_⟩)
   else e0:=by
 unfold e15
 cases l12 q i x with
 | some e=>rfl
 | none=>
  dsimp only
  split
  ·rfl
  ·unfold bAt
   cases at? out ((i:Int) - 1) with
   | none=>rfl
   | some b=>
    cases at? out x.a <;> simp
structure QeaT.Kinds (q:QeaT):Prop where
 quants:∀y∈q.quants,1≤y.type∧y.type≤3
 frees:∀y∈q.frees,y.init.ok=true
theorem Val.ok_kind {v:Val} (h:v.ok=true):1≤v.kind∧v.kind≤3:=by
 unfold Val.ok at h
 split at h
 ·omega
 ·split at h
  ·omega
  ·simp at h;omega
theorem on11 {op a b:Int} (ho:6≤op) (h:¬a=b):o11 op a b=0:=by
 have h':¬b=a:=fun e=>h e.symm
 unfold o11
 rw[if_neg (by omega),if_neg (by omega)]
 simp [h']
theorem or_ {op a b:Int} (ha:1≤a∧a≤3):0≤o11 op a b∧o11 op a b≤3:=by
 unfold o11
 repeat' split
 all_goals omega
def s34 (e b:ExT):Prop:=e.kind=b.kind∧(¬e.kind=0→e=b)∧0≤e.kind∧e.kind≤3
theorem sz_:s34 e0 e0:=⟨rfl,fun h=>absurd rfl h,by simp,by simp⟩
theorem ss15 {q:QeaT} (hk:q.Kinds) {o1 o2:List ExT} (ho:∀n,s34 (bAt o1 n) (bAt o2 n)) (i:Nat) (x:NodeT):s34 (e15 q o1 i x) (b11 q o2 i x):=by
 rw[ee_]
 obtain⟨op,na,mb,v⟩:=x
 unfold b11 l12
 dsimp only
 by_cases h1:op=1
 ·subst h1
  simp only[if_pos]
  by_cases hc:na=0∧mb=0∧v.ok=true
  ·rw[if_pos hc,if_pos hc]
   have:=Val.ok_kind hc.2.2
   exact⟨rfl,fun _ =>rfl,by dsimp only;omega,by dsimp only;omega⟩
  ·rw[if_neg hc,if_neg hc]
   exact sz_
 rw[if_neg h1,if_neg h1]
 by_cases hv:v=v0
 ·rw[if_neg (show ¬¬v=v0 from not_not_intro hv)]
  by_cases h2:op=2
  ·subst h2
   simp only[if_pos]
   by_cases hb:mb=0
   ·rw[if_pos hb,if_pos ⟨hb,hv⟩]
    cases hq:at? q.quants na with
    | none=>exact sz_
    | some y=>
     obtain⟨j,_,hj⟩:=at?_some hq
     have:=hk.quants y (List.mem_of_getElem? hj)
     exact⟨rfl,fun _ =>rfl,by dsimp only[Option.map];omega,by dsimp only[Option.map];omega⟩
   ·rw[if_neg hb,if_neg (fun h=>hb h.1)]
    exact sz_
  rw[if_neg h2,if_neg h2]
  by_cases h3:op=3
  ·subst h3
   simp only[if_pos]
   by_cases hb:mb=0
   ·rw[if_pos hb,if_pos ⟨hb,hv⟩]
    cases hq:at? q.frees na with
    | none=>exact sz_
    | some y=>
     obtain⟨j,_,hj⟩:=at?_some hq
     have:=Val.ok_kind (hk.frees y (List.mem_of_getElem? hj))
     exact⟨rfl,fun _ =>rfl,by dsimp only[Option.map];omega,by dsimp only[Option.map];omega⟩
   ·rw[if_neg hb,if_neg (fun h=>hb h.1)]
    exact sz_
  rw[if_neg h3,if_neg h3]
  dsimp only
  by_cases hr:op<4∨16<op
  ·rw[if_pos hr,if_pos (show op<4∨16<op∨¬v=v0 by omega)]
   exact sz_
  rw[if_neg hr,if_neg (show ¬(op<4∨16<op∨¬v=v0) by simp only[hv,not_true_eq_false,or_false];exact hr)]
  obtain⟨hb1,hb2,hb3,hb4⟩:=ho ((i:Int) - 1)
  by_cases hz:(bAt o1 ((i:Int) - 1)).kind=0
  ·rw[if_pos hz]
   have hz':(bAt o2 ((i:Int) - 1)).kind=0:=by omega
   rw[if_pos (Or.inl hz'),if_pos (Or.inl hz'),ite_self]
   exact sz_
  ·have hbe:=hb2 hz
   rw[if_neg hz,hbe]
   rw[hbe] at hz hb3 hb4
   generalize bAt o2 ((i:Int) - 1)=b at*
   by_cases h5:op≤5
   ·rw[if_pos h5,if_pos h5]
    by_cases hc:na=(i:Int) - 1∧mb=0
    ·rw[if_pos hc,if_neg (by omega)]
     have:=or_ (op:=op) (a:=b.kind) (b:=b.kind) (by omega)
     rw[te_ _ _ _ (by omega),if_pos rfl]
     exact⟨rfl,fun _ =>rfl,this.1,this.2⟩
    ·rw[if_neg hc,if_pos (by omega)]
     exact sz_
   ·rw[if_neg h5,if_neg h5]
    by_cases hc:mb=(i:Int) - 1∧na=b.from_ - 1
    ·rw[if_pos hc,if_neg (show ¬(b.kind=0∨¬mb=(i:Int) - 1∨¬na=b.from_ - 1) by omega)]
     rw[hc.2]
     obtain⟨ha1,ha2,ha3,ha4⟩:=ho (b.from_ - 1)
     by_cases hza:(bAt o1 (b.from_ - 1)).kind=0
     ·rw[if_pos hza]
      have hza':(bAt o2 (b.from_ - 1)).kind=0:=by omega
      rw[hza',show t28 op 0 b.kind=0 from if_pos (by omega)]
      exact⟨rfl,fun h=>absurd rfl h,by simp,by simp⟩
     ·have hae:=ha2 hza
      rw[if_neg hza,hae]
      rw[hae] at hza ha3 ha4
      generalize bAt o2 (b.from_ - 1)=a at*
      have:=or_ (op:=op) (a:=a.kind) (b:=b.kind) (by omega)
      rw[te_ _ _ _ (by omega),Int.max_comm b.depth]
      by_cases hab:a.kind=b.kind
      ·rw[if_pos hab]
       exact⟨rfl,fun _ =>rfl,this.1,this.2⟩
      ·rw[if_neg hab,on11 (by omega) hab]
       exact⟨rfl,fun _ =>rfl,by simp,by simp⟩
    ·rw[if_neg hc,if_pos (by omega)]
     exact sz_
 ·rw[if_pos hv]
  by_cases h2:op=2
  ·rw[if_pos h2,if_neg (fun h=>hv h.2)]
   dsimp only
   rw[if_pos (by omega)]
   exact sz_
  ·rw[if_neg h2]
   by_cases h3:op=3
   ·rw[if_pos h3,if_neg (fun h=>hv h.2)]
    dsimp only
    rw[if_pos (by omega)]
    exact sz_
   ·rw[if_neg h3]
    dsimp only
    rw[if_pos (Or.inr (Or.inr hv))]
    exact sz_
theorem ba_ {l:List ExT} {e:ExT} {n:Int}:bAt (l++[e]) n=if n=l.length then e else bAt l n:=by
 unfold bAt at?
 split
 ·rename_i h0
  rw[List.getElem?_append]
  split
  ·rw[if_neg (by omega)]
  ·split
   ·rename_i h1;simp [h1]
   ·rw[List.getElem?_eq_none (by simp;omega),List.getElem?_eq_none (by omega)]
 ·rw[if_neg (by omega)]
theorem sa_ {q:QeaT} (hk:q.Kinds):∀n,n≤q.nodes.length→∀j,s34 (bAt (exL q n) j) (bAt (beL q n) j)
 | 0,_,j=>by
  have:bAt ([]:List ExT) j=e0:=by unfold bAt at?;split <;> simp
  show s34 (bAt [] j) (bAt [] j)
  rw[this]
  exact sz_
 | n+1,h,j=>by
  obtain⟨x,hx,_⟩:=as10 (l:=q.nodes) (i:=n) (by omega)
  rw[es_ hx,bs10 hx,ba_,ba_,el_ q n (by omega),bl_ q n (by omega)]
  split
  ·exact ss15 hk (sa_ hk n (by omega)) n x
  ·exact sa_ hk n (by omega) j
end Go.Proofs.YtjbcfpkibnhodaaGreatDoor.Ab
namespace Go.Proofs.YtjbcfpkibnhodaaGreatDoor.Ab
open Go
theorem kw_ {q:QeaT} (hk:q.Kinds) (a r k:Int):w_ (e13 q) a r k=((k15 q a r).1==k&&(!(k==0)&&decide ((k15 q a r).2≤64))):=by
 have hs:=sa_ hk q.nodes.length (Nat.le_refl _) r
 have hz:∀b:Bool,((0:Int)==k&&(!(k==0)&&b))=false:=fun b=>by
  by_cases h:k=0
  ·subst h;simp
  ·rw[show ((0:Int)==k)=false by simp;omega,Bool.false_and]
 change s34 (bAt (e13 q) r) _ at hs
 unfold w_ k15
 cases he:at? (e13 q) r with
 | none=>
  have hb:bAt (e13 q) r=e0:=by unfold bAt;rw[he];rfl
  rw[hb] at hs
  rw[if_pos (Or.inl hs.1.symm)]
  exact (hz _).symm
 | some e=>
  obtain⟨j,rfl,hj⟩:=at?_some he
  have hok:=eo_ q q.nodes.length (Nat.le_refl _) j e hj
  have hb:bAt (e13 q) j=e:=by unfold bAt;rw[he];rfl
  rw[hb] at hs
  obtain⟨h1,h2,h3,h4⟩:=hs
  by_cases hz0:e.kind=0
  ·rw[if_pos (Or.inl (by omega))]
   dsimp only
   rw[hz,hz0]
   by_cases h:k=0
   ·subst h;simp
   ·rw[show ((0:Int)==k)=false by simp;omega];simp
  ·have hbe:=h2 hz0
   rw[←hbe]
   by_cases hf:e.from_=a
   ·rw[if_neg (by simp [hz0,hf])]
    dsimp only
    rw[show decide (a≤(j:Int))=true by simp;omega,hf]
    simp
   ·rw[if_pos (Or.inr hf)]
    dsimp only
    rw[hz,show (e.from_==a)=false by simp [hf]]
    simp
end Go.Proofs.YtjbcfpkibnhodaaGreatDoor.Ab
namespace Go.Proofs.YtjbcfpkibnhodaaGreatDoor.Ab
open Go
variable {G:Nat→Option AV}
theorem ra11 {P:Program} {Φ:St→Prop} (a b c:AC) (κ:List Kt) (st:St):run P G Φ (.seq a (.seq b c)) κ st=run P G Φ (.seq (.seq a b) c) κ st:=by
 simp only[rs11]
 unfold run
 congr 1
 funext e st'
 cases e
 ·exact rs11 b c κ st'
 ·rfl
 ·rfl
theorem ra12 {P:Program} {Φ:St→Prop} (x a b c:AC) (κ:List Kt) (st:St):run P G Φ (.seq x (.seq (.seq a b) c)) κ st=run P G Φ (.seq (.seq x a) (.seq b c)) κ st:=by
 simp only[rs11]
 unfold run
 congr 1
 funext e st'
 cases e
 ·show run P G Φ (.seq (.seq a b) c) κ st'=run P G Φ a (.code (.seq b c)::κ) st'
  rw[rs11,rs11]
  unfold run
  congr 1
  funext e st'
  cases e
  ·exact (rs11 b c κ st').symm
  ·rfl
  ·rfl
 ·rfl
 ·rfl
def r14 (q:QeaT) (t:TransT) (from_ a1:Int):Int×Bool:=
 let r:=allS (s13 q (e13 q) t.sets) t.sets 0 a1
 if r.1=true then (r.2,match at? q.symbols t.symbol with | some s=>(mid q.nodes from_ r.2).all fun x=>!(x.op==2)||n12 s x.a | none=>false) else (0,false)
def t12 (q:QeaT) (t:TransT) (from_:Int):Int×Bool:=
 if (inR t.from_ q.states.length&&(inR t.to_ q.states.length&&inR t.symbol q.symbols.length))=false then (0,false)
 else if t.guard= -1 then r14 q t from_ from_
 else if w_ (e13 q) from_ t.guard 3=true then r14 q t from_ (t.guard+1) else (0,false)
def tupR (r:Int×Bool):AV:=.tup [iv r.1,.bool r.2]
theorem rt11 (q:QeaT) (hq:q.Few) (hk:q.Kinds) (t:TransT) (ht:t.sets.length≤1000000) (from_:Int) (ha:0≤from_) (hal:from_≤q.nodes.length):P_ Tryz.prog G np21 [qeaV q,t11 t,iv from_] (tupR (t12 q t from_)):=by
 have hln:(e13 q).length=q.nodes.length:=el_ q _ (by omega)
 have hnl:=hq.nodes
 refine pp16 (Runs.of fun Φ h=>?_)
 unfold cp17
 have fin:∀a b heap,t12 q t from_=(a,b)→Φ ⟨153,[(6,iv a),(7,.bool b)],heap⟩:=fun a b heap e=>h _ ⟨_,_,rfl,rfl,fe_ (by rw[e];rfl)⟩
 clear h
 by_cases hc:(inR t.from_ q.states.length&&(inR t.to_ q.states.length&&inR t.symbol q.symbols.length))=false
 ·have fin0:=fun heap=>fin 0 false heap (by rw[t12,if_pos hc])
  clear fin
  obtain⟨t1,t2,t3,t4,sets⟩:=t
  dsimp only at*
  simp only[inR,Bool.and_eq_false_imp,decide_eq_true_eq,decide_eq_false_iff_not,Bool.and_eq_true] at hc
  repeat' (first|simp -implicitDefEqProofs only[go_sem,t11,s14,qeaV,d_,q_,f_,s_,s10,n_,t_,List.length_map]|refine ag_ (fun hb=>?_) (fun hb=>?_)|refine⟨fun hb=>?_,fun hb=>?_⟩|fail)
  all_goals first | exact fin0 _ | (exfalso;simp at*;omega)
 ·obtain⟨t1,t2,t3,t4,sets⟩:=t
  dsimp only at*
  have hin:inR t1 q.states.length=true∧inR t3 q.states.length=true∧inR t2 q.symbols.length=true:=by
   rw[Bool.not_eq_false] at hc
   simpa only[Bool.and_eq_true] using hc
  obtain⟨hi1,hi2,hi3⟩:=hin
  simp only[inR,Bool.and_eq_true,decide_eq_true_eq] at hi1 hi2 hi3
  obtain⟨j2,rfl⟩:=Int.eq_ofNat_of_zero_le hi3.1
  obtain⟨sy,hsy,hsm⟩:=as10 (l:=q.symbols) (i:=j2) (by omega)
  have hsl:sy.args.length<9223372036854775807:=by have:=hq.args sy hsm;omega
  rw[ra11,ra11,ra11,ra12]
  refine ac19 (fun st=>∃a1:Int,st=⟨153,[(2,iv from_),(3,.ref 3 0 0),(4,.ref 4 0 0),(8,iv a1),(11,iv 0)],[(4,⟨false,taT_,5,[t11 ⟨t1,j2,t3,t4,sets⟩]⟩),(3,⟨false,taQ_,9,[qeaV q]⟩)]⟩∧0≤a1∧a1≤q.nodes.length∧t12 q ⟨t1,j2,t3,t4,sets⟩ from_=r14 q ⟨t1,j2,t3,t4,sets⟩ from_ a1) ?_ ?_
  ·have hK:=rKp_ (G:=G) q hq.nodes from_ t4
   have kw:=kw_ hk from_ t4 3
   have hre1:t4= -1→t12 q ⟨t1,j2,t3,t4,sets⟩ from_=r14 q ⟨t1,j2,t3,t4,sets⟩ from_ from_:=fun h=>by rw[t12,if_neg hc,if_pos h]
   have hre2:¬t4= -1→w_ (e13 q) from_ t4 3=true→t12 q ⟨t1,j2,t3,t4,sets⟩ from_=r14 q ⟨t1,j2,t3,t4,sets⟩ from_ (t4+1):=fun h hw=>by rw[t12,if_neg hc,if_neg h,if_pos hw]
   have hre3:¬t4= -1→w_ (e13 q) from_ t4 3=false→t12 q ⟨t1,j2,t3,t4,sets⟩ from_=(0,false):=fun h hw=>by rw[t12,if_neg hc,if_neg h,if_neg (by rw[hw];simp)]
   have hwl:=fun h=>wl_ (l:=e13 q) (a:=from_) (r:=t4) (k:=3) h
   have hwp:=fun h=>wp_ (l:=e13 q) (a:=from_) (r:=t4) (k:=3) ha h
   have hwx:w_ (e13 q) from_ t4 3=true→IntKind.i64.wrap (t4+1)=t4+1:=fun h=>wrap_i64 (by have:=hwp h;omega) (by have:=hwl h;omega)
   rw[hln] at hwl
   generalize w_ (e13 q) from_ t4 3=w at*
   generalize k15 q from_ t4=kd at*
   obtain⟨k,d⟩:=kd
   dsimp only at kw
   simp only[qeaV,d_,q_,f_,s_,s10,n_,t_] at hK
   by_cases hg:t4= -1
   ·clear hre2 hre3
    subst hg
    repeat' (first|simp -implicitDefEqProofs only[go_sem,t11,s14,qeaV,d_,q_,f_,s_,s10,n_,t_,List.length_map]|refine ag_ (fun hb=>?_) (fun hb=>?_)|refine⟨fun hb=>?_,fun hb=>?_⟩|refine ac_ hK rfl rfl ?_|fail)
    all_goals first | exact⟨_,rfl,ha,hal,hre1 rfl⟩ | (exfalso;simp at*;omega)
   ·cases w with
    | false=>
     have hre3:=hre3 hg rfl
     clear hre1 hre2 hwl hwp hwx
     repeat' (first|simp -implicitDefEqProofs only[go_sem,t11,s14,qeaV,d_,q_,f_,s_,s10,n_,t_,List.length_map]|refine ag_ (fun hb=>?_) (fun hb=>?_)|refine⟨fun hb=>?_,fun hb=>?_⟩|refine ac_ hK rfl rfl ?_|fail)
     all_goals first | exact fin _ _ _ hre3 | (exfalso;simp at*;omega) | (exfalso;simp_all;omega)
    | true=>
     have hre2:=hre2 hg rfl
     have hwl:=hwl rfl
     have hwp:=hwp rfl
     have hwx:=hwx rfl
     clear hre1 hre3
     repeat' (first|simp -implicitDefEqProofs only[go_sem,t11,s14,qeaV,d_,q_,f_,s_,s10,n_,t_,List.length_map,hwx]|refine ag_ (fun hb=>?_) (fun hb=>?_)|refine⟨fun hb=>?_,fun hb=>?_⟩|refine ac_ hK rfl rfl ?_|fail)
     all_goals first | exact⟨_,rfl,hwp,by omega,hre2⟩ | (exfalso;simp at*;omega) | (exfalso;simp_all;omega)
  ·rintro st ⟨a1,rfl,h0,hle1,hre⟩
   simp -implicitDefEqProofs only[go_sem,t11,s14,qeaV,d_,q_,f_,s_,s10,n_,t_,List.length_map]
   refine al_ (fun n st=>∃(i:Nat) (a:Int),i+n=sets.length∧st=⟨153,[(2,iv from_),(3,.ref 3 0 0),(4,.ref 4 0 0),(8,iv a),(11,iv i)],[(3,⟨false,taQ_,9,[qeaV q]⟩),(4,⟨false,taT_,5,[t11 ⟨t1,j2,t3,t4,sets⟩]⟩)]⟩∧0≤a∧a≤q.nodes.length∧allS (s13 q (e13 q) sets) sets 0 a1=allS (s13 q (e13 q) sets) (sets.drop i) i a) sets.length ⟨0,a1,by simp,rfl,h0,hle1,rfl⟩ ?_
   rintro I hI n st ⟨i,a,hi,rfl,hpos,hle,hno⟩
   simp -implicitDefEqProofs only[go_sem,t11,s14,qeaV,d_,q_,f_,s_,s10,n_,t_,List.length_map]
   refine⟨fun hlt=>?_,fun hge=>?_⟩
   ·have hlt':i<sets.length:=by omega
    obtain⟨⟨fr,ex⟩,hx,hm⟩:=as10 hlt'
    have hw:=ws_ hlt' (by omega)
    have hK:=rKp_ (G:=G) q hq.nodes a ex
    rw[as15 hx] at hno
    simp only[qeaV,d_,q_,f_,s_,s10,n_,t_] at hK
    cases hf:at? q.frees fr with
    | none=>
     have hnf:=at?_none hf
     generalize k15 q a ex=kd at*
     obtain⟨k,d⟩:=kd
     have hs:s13 q (e13 q) sets a i ⟨fr,ex⟩=(false,a):=by simp [s13,hf]
     rw[hs,if_neg (by simp)] at hno
     have hr:t12 q ⟨t1,j2,t3,t4,sets⟩ from_=(0,false):=by
      rw[hre,r14]
      dsimp only
      rw[hno,if_neg (by simp)]
     repeat' (first|simp -implicitDefEqProofs only[go_sem,am_ hx,setV,t11,s14,qeaV,d_,q_,f_,s_,s10,n_,t_,hw,List.length_map]|refine ag_ (fun hb=>?_) (fun hb=>?_)|refine⟨fun hb=>?_,fun hb=>?_⟩|refine ac_ hK rfl rfl ?_|fail)
     all_goals first | exact fin _ _ _ hr | (exfalso;simp at*;omega)
    | some f=>
     obtain⟨j,rfl,hfj⟩:=at?_some hf
     have hjt:=(List.getElem?_eq_some_iff.1 hfj).1
     have kw:=kw_ hk a ex f.init.kind
     have hs:s13 q (e13 q) sets a i ⟨j,ex⟩=if ((sets.take i).any fun x=>x.free==(j:Int))=true then (false,a) else if w_ (e13 q) a ex f.init.kind=true then (true,ex+1) else (false,a):=by simp [s13,hf]
     have hbad:((sets.take i).any fun x=>x.free==(j:Int))=true∨w_ (e13 q) a ex f.init.kind=false→t12 q ⟨t1,j2,t3,t4,sets⟩ from_=(0,false):=fun hor=>by
      have hs':s13 q (e13 q) sets a i ⟨j,ex⟩=(false,a):=by
       rw[hs]
       rcases hor with h | h
       ·rw[if_pos h]
       ·rw[h];simp
      rw[hs',if_neg (by simp)] at hno
      rw[hre,r14]
      dsimp only
      rw[hno,if_neg (by simp)]
     generalize k15 q a ex=kd at*
     obtain⟨k,d⟩:=kd
     dsimp only at kw
     repeat' (first|simp -implicitDefEqProofs only[go_sem,am_ hx,am_ hfj,f11,setV,t11,s14,qeaV,d_,q_,f_,s_,s10,n_,t_,hw,List.length_map]|refine ag_ (fun hb=>?_) (fun hb=>?_)|refine⟨fun hb=>?_,fun hb=>?_⟩|refine ac_ hK rfl rfl ?_|fail)
     all_goals try (exfalso;simp at*;omega)
     all_goals try (refine fin _ _ _ (hbad (Or.inr ?_));rw[kw];clear hK hno hs hbad kw hI fin hw;simp_all;done)
     have hwt:w_ (e13 q) a ex f.init.kind=true:=by
      rw[kw]
      clear hK hno hs hbad kw hI fin hw
      simp_all
     have hwl:=wl_ hwt
     have hwp:=wp_ hpos hwt
     have hwx:IntKind.i64.wrap (ex+1)=ex+1:=wrap_i64 (by omega) (by omega)
     refine al_ (fun m st=>∃jj:Nat,jj+m=i∧st=⟨153,[(2,iv from_),(3,.ref 3 0 0),(4,.ref 4 0 0),(11,iv i),(12,.ref 12 0 0),(15,iv jj)],[(3,⟨false,taQ_,9,[qeaV q]⟩),(4,⟨false,taT_,5,[t11 ⟨t1,j2,t3,t4,sets⟩]⟩),(12,⟨false,ta12,2,[setV ⟨j,ex⟩]⟩)]⟩∧∀p x,p<jj→sets[p]? =some x→(x.free==(j:Int))=false) i ⟨0,by omega,rfl,fun p x hp=>by omega⟩ ?_
     rintro J hJ m st ⟨jj,hjj,rfl,hall⟩
     simp -implicitDefEqProofs only[go_sem,setV,t11,s14,qeaV,d_,q_,f_,s_,s10,n_,t_,hw,hwx,List.length_map]
     refine⟨fun hlt2=>?_,fun hge2=>?_⟩
     ·have hlt2':jj<i:=by omega
      obtain⟨y,hy,hym⟩:=as10 (l:=sets) (i:=jj) (by omega)
      have hw2:=ws_ hlt2' (by omega)
      repeat' (first|simp -implicitDefEqProofs only[go_sem,am_ hy,setV,t11,s14,qeaV,d_,q_,f_,s_,s10,n_,t_,hw2,List.length_map]|refine ag_ (fun hb=>?_) (fun hb=>?_)|refine⟨fun hb=>?_,fun hb=>?_⟩|fail)
      ·refine fin _ _ _ (hbad (Or.inl (List.any_eq_true.2 ⟨y,?_,?_⟩)))
       ·exact List.mem_iff_getElem?.2 ⟨jj,by rw[List.getElem?_take_of_lt hlt2'];exact hy⟩
       ·simpa using hb
      ·exact aa_ (m - 1) (by omega) (hJ _ _ ⟨jj+1,by omega,rfl,fun p x hp hx=>by
        by_cases e:p=jj
        ·subst e;rw[hy] at hx;cases hx;simpa using hb
        ·exact hall p x (by omega) hx⟩)
     ·have hany:((sets.take i).any fun x=>x.free==(j:Int))=false:=by
       rw[List.any_eq_false]
       intro y hy
       obtain⟨p,hp⟩:=List.getElem?_of_mem hy
       rw[List.getElem?_take] at hp
       split at hp
       ·rw[hall p y (by omega) hp];simp
       ·cases hp
      rw[hs,hany,hwt] at hno
      exact aa_ (n - 1) (by omega) (hI _ _ ⟨i+1,ex+1,by omega,rfl,hwp,by omega,by simpa using hno⟩)
   ·rw[ae_ (by omega)] at hno
    have hb:=rb10 (G:=G) q hq.nodes sy hsl from_ a ha hle
    have hr:t12 q ⟨t1,j2,t3,t4,sets⟩ from_=(a,(mid q.nodes from_ a).all fun x=>!(x.op==2)||n12 sy x.a):=by
     rw[hre,r14]
     dsimp only
     rw[hno,if_pos rfl,at?_nat hsy]
    simp only[symV,a10,qeaV,d_,q_,f_,s_,s10,n_,t_] at hb
    repeat' (first|simp -implicitDefEqProofs only[go_sem,am_ hsy,symV,a10,t11,s14,qeaV,d_,q_,f_,s_,s10,n_,t_,List.length_map]|refine ag_ (fun hb=>?_) (fun hb=>?_)|refine⟨fun hb=>?_,fun hb=>?_⟩|refine ac_ hb rfl rfl ?_|fail)
    all_goals exact fin _ _ _ hr
end Go.Proofs.YtjbcfpkibnhodaaGreatDoor.Ab
