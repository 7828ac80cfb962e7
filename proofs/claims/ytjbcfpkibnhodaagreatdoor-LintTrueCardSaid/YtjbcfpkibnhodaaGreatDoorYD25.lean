/-
  Which automata may be: that the code's and the reference's answers are the same. proctorref13.Few. No claim is proved here.
-/
import Derived.Test.YtjbcfpkibnhodaaGreatDoorYD23
import Derived.Test.YtjbcfpkibnhodaaGreatDoorYD19
set_option linter.unusedSimpArgs false
set_option maxHeartbeats 4000000
namespace Go.Proofs.YtjbcfpkibnhodaaGreatDoor.Ab
open Go
theorem if10 {α:Type} {p:α→Bool} {l:List α} {i:Nat} {x:α} (hx:l[i]? =some x) (hp:p x=true):(idxF p l==(i:Int))= !((l.take i).any p):=by
 have hi:=(List.getElem?_eq_some_iff.1 hx).1
 cases ha:(l.take i).any p with
 | false=>
  have hno:∀j y,j<i→l[j]? =some y→p y=false:=fun j y hj hy=>by
   have:=List.any_eq_false.1 ha y (List.mem_iff_getElem?.2 ⟨j,by rw[List.getElem?_take_of_lt hj];exact hy⟩)
   simpa using this
  rw[ia10 hx hp hno]
  simp
 | true=>
  obtain⟨y,hy,hpy⟩:=List.any_eq_true.1 ha
  obtain⟨j,hj⟩:=List.getElem?_of_mem hy
  rw[List.getElem?_take] at hj
  split at hj
  ·rename_i hji
   have hlt:idxF p l<i:=by
    unfold idxF
    cases hf:l.findIdx? p with
    | none=>
     exfalso
     rw[List.findIdx?_eq_none_iff] at hf
     have:=hf x (List.mem_of_getElem? hx)
     rw[hp] at this
     cases this
    | some k=>
     rw[List.findIdx?_eq_some_iff_getElem] at hf
     obtain⟨hk,hpk,hmin⟩:=hf
     by_cases hkj:j<k
     ·exfalso
      have:=hmin j hkj
      obtain⟨h1,h2⟩:=List.getElem?_eq_some_iff.1 hj
      rw[h2] at this
      exact this hpy
     ·dsimp only;omega
   simp
   omega
  ·cases hj
theorem ac13 {α:Type} {p p':Nat→α→Bool} {l:List α} (h:∀i x,l[i]? =some x→p i x=p' i x):allI p l=allI p' l:=by
 rw[Bool.eq_iff_iff,at10,at10]
 exact⟨fun g i x hx=>by rw[←h i x hx];exact g i x hx,fun g i x hx=>by rw[h i x hx];exact g i x hx⟩
theorem ne_ (l:List Str):allI (n14 l) l=allI (n17 l) l:=ac13 fun i s hs=>by
 unfold n14 n17
 rw[if10 hs (by simp)]
 congr 3
 funext x
 rw[Bool.eq_iff_iff]
 simp only[beq_iff_eq]
 exact eq_comm
theorem se10 (q:QeaT):allI (s26 q) q.symbols=allI (symR q) q.symbols:=ac13 fun i s hs=>by
 unfold s26 symR
 rw[if10 hs (by simp)]
 congr 3
 funext x
 rw[Bool.eq_iff_iff]
 simp only[decide_eq_true_eq]
 exact eq_comm
theorem te10 (q:QeaT):allI (fun _ (y:QuantT)=>!(k_ y.type==[])) q.quants=allI (fun _ (y:QuantT)=>t17 y.type) q.quants:=ac13 fun i y _ =>by
 rw[kb_]
 simp [t17]
def topR (q:QeaT):Bool:=(d10 q.decls).1==0&&(fewS q&&(decide (0≤q.start)&&(decide (q.start<q.states.length)&&h18 q)))
theorem he10 (q:QeaT):(fewS q&&h20 q)=topR q:=by
 unfold topR h20 h18
 rw[ne_,ne_,te10]
 generalize fewS q=b1
 generalize ((d10 q.decls).1==0)=b2
 generalize n13 q.name=b3
 generalize allI (n17 q.vars) q.vars=b4
 generalize allI (n17 q.names) q.names=b5
 generalize allI (fun _ (y:QuantT)=>t17 y.type) q.quants=b6
 generalize allI (fun _ (y:FreeT)=>y.init.ok) q.frees=b7
 generalize decide (0≤q.start)=b8
 generalize decide (q.start<q.states.length)=b9
 cases b1 <;> cases b2 <;> cases b3 <;> cases b4 <;> cases b5 <;> cases b6 <;> cases b7 <;> cases b8 <;> cases b9 <;> rfl
theorem tk11 {q:QeaT} (h:h18 q=true):q.Kinds:=by
 unfold h18 at h
 simp only[Bool.and_eq_true] at h
 obtain⟨h1,h2,_⟩:=h
 refine⟨fun y hy=>?_,fun y hy=>?_⟩
 ·obtain⟨i,hi⟩:=List.getElem?_of_mem hy
  have:=at10.1 h1 i y hi
  simpa [t17] using this
 ·obtain⟨i,hi⟩:=List.getElem?_of_mem hy
  exact at10.1 h2 i y hi
theorem zm_ {α β:Type} {p:α→β→Bool}:∀{l:List α} {k:List β},zipB p l k=true→∀x∈l,∃y∈k,p x y=true
 | [],_,_,x,hx=>by simp at hx
 | a::r,[],h,_,_ =>by simp [zipB] at h
 | a::r,b::s,h,x,hx=>by
  rw[zipB,Bool.and_eq_true] at h
  rcases List.mem_cons.1 hx with rfl | hx
  ·exact⟨b,List.mem_cons_self,h.1⟩
  ·obtain⟨y,hy,hp⟩:=zm_ h.2 x hx
   exact⟨y,List.mem_cons_of_mem _ hy,hp⟩
theorem ac16 {α:Type} {p p':α→Bool} {l:List α} (h:∀x∈l,p x=p' x):l.any p=l.any p':=by
 rw[Bool.eq_iff_iff,List.any_eq_true,List.any_eq_true]
 exact⟨fun⟨x,hx,hp⟩=>⟨x,hx,by rw[←h x hx];exact hp⟩,fun⟨x,hx,hp⟩=>⟨x,hx,by rw[h x hx];exact hp⟩⟩
theorem ac20 {α:Type} {p p':α→Bool} {l:List α} (h:∀x∈l,p x=p' x):l.all p=l.all p':=by
 rw[Bool.eq_iff_iff,List.all_eq_true,List.all_eq_true]
 exact⟨fun g x hx=>by rw[←h x hx];exact g x hx,fun g x hx=>by rw[h x hx];exact g x hx⟩
theorem se11 {q:QeaT} {s:SymT} (h:symS q s=true) (v:Int):s12 s v=n12 s v:=by
 unfold s12 n12
 refine ac16 fun x hx=>?_
 have hv:x.kind=2→x.value=v0:=fun hk=>by
  unfold symS at h
  split at h
  ·cases h
  ·obtain⟨y,_,hp⟩:=zm_ h x hx
   unfold argS at hp
   rw[if_neg (by omega),if_pos hk] at hp
   split at hp
   ·cases hp
   ·simp at hp;exact hp.2
 obtain⟨k,n,val⟩:=x
 rw[Bool.eq_iff_iff]
 simp only[beq_iff_eq,ArgT.mk.injEq,Bool.and_eq_true] at*
 constructor
 ·rintro⟨h1,h2,h3⟩
  exact⟨h1.symm,h2.symm⟩
 ·rintro⟨h1,h2⟩
  exact⟨h1.symm,h2.symm,(hv h1).symm⟩
theorem so_ {q:QeaT} (h:allI (symR q) q.symbols=true):∀s∈q.symbols,∀v,s12 s v=n12 s v:=fun s hs v=>by
 obtain⟨i,hi⟩:=List.getElem?_of_mem hs
 have:=at10.1 h i s hi
 unfold symR at this
 rw[Bool.and_eq_true] at this
 exact se11 this.1 v
theorem se_ (q:QeaT):s19 q=s15 q:=by
 unfold s19 s15
 rw[se10]
 cases h:allI (symR q) q.symbols with
 | false=>rw[Bool.false_and,Bool.false_and]
 | true=>
  congr 2
  refine ac13 fun i y _ =>?_
  exact ac16 fun s hs=>so_ h s hs _
theorem oc_ {q:QeaT} {l:List ExT} (h:∀s∈q.symbols,∀v,s12 s v=n12 s v) (a:Int) (t:TransT):o_ q l s12 a t=o_ q l n12 a t:=by
 have hr:∀f a,o12 q l s12 t f a=o12 q l n12 t f a:=fun f a=>by
  unfold o12
  cases hs:at? q.symbols t.symbol with
  | none=>rfl
  | some s=>
   obtain⟨j,_,hj⟩:=at?_some hs
   dsimp only
   congr 2
   exact ac20 fun x _ =>by rw[h s (List.mem_of_getElem? hj)]
 unfold o_
 rw[hr,hr]
theorem ac14 {α σ:Type} {f g:σ→Nat→α→Bool×σ} (h:∀s i x,f s i x=g s i x):∀(l:List α) (i:Nat) (s:σ),allS f l i s=allS g l i s
 | [],_,_ =>rfl
 | x::r,i,s=>by
  rw[allS,allS,h,ac14 h r]
def s30 (q:QeaT) (a:Int) (_ :Nat) (t:TransT):Bool×Int:=((t12 q t a).2,(t12 q t a).1)
theorem se13 (q:QeaT) (a:Int) (i:Nat) (t:TransT):(o_ q (e13 q) n12 a t).1=(s30 q a i t).1∧((s30 q a i t).1=true→o_ q (e13 q) n12 a t=s30 q a i t):=by
 have hr:∀f a,(o12 q (e13 q) n12 t f a).1=(r14 q t f a).2∧((r14 q t f a).2=true→o12 q (e13 q) n12 t f a=((r14 q t f a).2,(r14 q t f a).1)):=fun f a=>by
  unfold o12 r14
  dsimp only
  generalize allS (s13 q (e13 q) t.sets) t.sets 0 a=r
  obtain⟨b,A⟩:=r
  cases b
  ·simp
  ·simp
   exact⟨rfl,fun _ =>rfl⟩
 unfold o_ s30 t12
 split
 ·simp
 ·split
  ·exact hr a a
  ·split
   ·exact hr a _
   ·simp
theorem as26 {α σ:Type} {f g:σ→Nat→α→Bool×σ} (h:∀s i x,(f s i x).1=(g s i x).1∧((g s i x).1=true→f s i x=g s i x)):∀(l:List α) (i:Nat) (s:σ),(allS f l i s).1=(allS g l i s).1∧((allS g l i s).1=true→allS f l i s=allS g l i s)
 | [],_,_ =>⟨rfl,fun _ =>rfl⟩
 | x::r,i,s=>by
  obtain⟨h1,h2⟩:=h s i x
  rw[allS,allS]
  cases hg:(g s i x).1 with
  | false=>
   rw[hg] at h1
   rw[h1]
   simp
  | true=>
   rw[h2 hg,hg]
   simp only[if_true]
   exact as26 h r (i+1) _
def t13 (q:QeaT):Bool:=(allS (s30 q) q.trans 0 0).1&&(allS (s30 q) q.trans 0 0).2==(q.nodes.length:Int)
def r10 (q:QeaT):Bool:=topR q&&(t13 q&&s15 q)
theorem re10 (q:QeaT):r17 q=r10 q:=by
 unfold r17 r10
 rw[←Bool.and_assoc,he10,se_]
 congr 1
 cases h:s15 q with
 | false=>rw[Bool.and_false,Bool.and_false]
 | true=>
  congr 1
  have hs:allI (symR q) q.symbols=true:=by
   unfold s15 at h
   simp only[Bool.and_eq_true] at h
   exact h.2.1
  have hln:(e13 q).length=q.nodes.length:=el_ q _ (by omega)
  unfold t23 t13
  dsimp only
  rw[ac14 (fun a _ t=>oc_ (so_ hs) a t),hln]
  obtain⟨h1,h2⟩:=as26 (f:=fun a _ t=>o_ q (e13 q) n12 a t) (g:=s30 q) (fun a i t=>se13 q a i t) q.trans 0 0
  rw[h1]
  cases hb:(allS (s30 q) q.trans 0 0).1 with
  | false=>rw[Bool.false_and,Bool.false_and]
  | true=>rw[h2 hb]
theorem tl11 {q:QeaT} {t:TransT} {a:Int} (h0:0≤a) (hl:a≤q.nodes.length) (h:(t12 q t a).2=true):0≤(t12 q t a).1∧(t12 q t a).1≤q.nodes.length∧inR t.symbol q.symbols.length=true:=by
 have hln:(e13 q).length=q.nodes.length:=el_ q _ (by omega)
 have hrest:∀f a':Int,0≤a'→a'≤(e13 q).length→(r14 q t f a').2=true→0≤(r14 q t f a').1∧(r14 q t f a').1≤q.nodes.length:=fun f a' h1 h2 h=>by
  have:=al12 (q:=q) (l:=e13 q) (sets:=t.sets) (r:=t.sets) (i:=0) h2
  unfold r14 at h ⊢
  dsimp only at h ⊢
  split
  ·dsimp only;omega
  ·rename_i hn;rw[if_neg hn] at h;cases h
 unfold t12 at h ⊢
 split at h
 ·cases h
 ·rename_i hc
  rw[if_neg hc]
  rw[Bool.not_eq_false,Bool.and_eq_true,Bool.and_eq_true] at hc
  split at h
  ·rename_i hg
   rw[if_pos hg]
   have:=hrest a a h0 (by omega) h
   exact⟨this.1,this.2,hc.2.2⟩
  ·rename_i hg
   rw[if_neg hg]
   split at h
   ·rename_i hw
    rw[if_pos hw]
    have h1:=wl_ hw
    have h2:=wp_ h0 hw
    have:=hrest a _ h2 h1.2 h
    exact⟨this.1,this.2,hc.2.2⟩
   ·cases h
end Go.Proofs.YtjbcfpkibnhodaaGreatDoor.Ab
namespace Go.Proofs.YtjbcfpkibnhodaaGreatDoor.Ab
open Go
variable {G:Nat→Option AV}
def s23 (s:Str):Bool:=decide ((s.length:Int)≤100)
def f21 (d:DeclT):Bool:=decide ((d.types.length:Int)≤12)&&s23 d.name
def f24 (s:SymT):Bool:=decide ((s.args.length:Int)≤12)&&allI (fun _ (a:ArgT)=>s23 a.value.str) s.args
def f23 (q:QeaT):Bool:=decide ((q.decls.length:Int)≤12)&&(decide ((q.quants.length:Int)≤9)&&(decide ((q.frees.length:Int)≤12)&&(decide ((q.states.length:Int)≤12)&&(decide ((q.symbols.length:Int)≤12)&&(decide ((q.trans.length:Int)≤12)&&(decide ((q.nodes.length:Int)≤40)&&s23 q.name))))))
def fewQ (q:QeaT):Bool:=f23 q&&(allI (fun _ d=>f21 d) q.decls&&(allI (fun _ s=>f24 s) q.symbols&&(allI (fun _ (f:FreeT)=>s23 f.init.str) q.frees&&(allI (fun _ (x:NodeT)=>s23 x.value.str) q.nodes&&allI (fun _ (t:TransT)=>decide ((t.sets.length:Int)≤12)) q.trans))))
theorem rF11 (q:QeaT):P_ Tryz.prog G np37 [qeaV q] (iv (if fewQ q=true then 1 else 0)):=by
 refine pp36 (Runs.of fun Φ h=>?_)
 unfold cp36
 have fin0:∀heap,fewQ q=false→Φ ⟨166,[(2,iv 0)],heap⟩:=fun heap e=>h _ ⟨_,_,rfl,rfl,fitI (by rw[e];rfl)⟩
 have fin1:∀heap,fewQ q=true→Φ ⟨166,[(2,iv 1)],heap⟩:=fun heap e=>h _ ⟨_,_,rfl,rfl,fitI (by rw[e];rfl)⟩
 clear h
 generalize hR:fewQ q=w at*
 unfold fewQ at hR
 replace hR:=hR.symm
 cases hT:f23 q with
 | false=>
  rw[hT,Bool.false_and] at hR
  unfold f23 s23 at hT
  simp only[Bool.and_eq_false_imp,decide_eq_true_eq,decide_eq_false_iff_not] at hT
  repeat' (first|simp -implicitDefEqProofs only[go_sem,qeaV,d_,q_,f_,s_,s10,n_,t_,List.length_map]|refine ag_ (fun hb=>?_) (fun hb=>?_)|refine⟨fun hb=>?_,fun hb=>?_⟩|fail)
  all_goals first | exact fin0 _ hR | (exfalso;simp at*;omega)
 | true=>
  rw[hT,Bool.true_and] at hR
  unfold f23 s23 at hT
  simp only[Bool.and_eq_true,decide_eq_true_eq] at hT
  obtain⟨t1,t2,t3,t4,t5,t6,t7,t8⟩:=hT
  repeat' (first|simp -implicitDefEqProofs only[go_sem,qeaV,d_,q_,f_,s_,s10,n_,t_,List.length_map]|refine ag_ (fun hb=>?_) (fun hb=>?_)|refine⟨fun hb=>?_,fun hb=>?_⟩|fail)
  all_goals first | (exfalso;simp at hb;omega) | (exfalso;clear fin0 fin1 hR;simp at*;omega) | skip
  refine al_ (fun n st=>∃i:Nat,i+n=q.decls.length∧st=⟨166,[(1,.ref 1 0 0),(3,iv i)],[(1,⟨false,taQ_,9,[qeaV q]⟩)]⟩∧∀j y,j<i→q.decls[j]? =some y→f21 y=true) q.decls.length ⟨0,by simp,rfl,fun j x hj=>by omega⟩ ?_
  rintro I hI n st ⟨i,hi,rfl,hno⟩
  simp -implicitDefEqProofs only[go_sem,qeaV,d_,q_,f_,s_,s10,n_,t_,List.length_map]
  refine⟨fun hlt=>?_,fun hge=>?_⟩
  ·have hlt':i<q.decls.length:=by omega
   obtain⟨y,hy,hm⟩:=as10 hlt'
   have hw:=ws_ hlt' (by omega)
   have hnext:f21 y=true→a12 I n ⟨166,[(1,.ref 1 0 0),(3,iv (i+1:Nat))],[(1,⟨false,taQ_,9,[qeaV q]⟩)]⟩:=fun hv=>aa_ (n - 1) (by omega) (hI _ _ ⟨i+1,by omega,rfl,as11 (p:=fun _ d=>f21 d) hy hv hno⟩)
   have hbad:f21 y=false→w=false:=fun hv=>by rw[hR,af_ hy hv,Bool.false_and]
   unfold f21 s23 at hnext hbad
   clear hno hR
   repeat' (first|simp -implicitDefEqProofs only[go_sem,am_ hy,d12,i11,hw,qeaV,d_,q_,f_,s_,s10,n_,t_,List.length_map]|refine ag_ (fun hb=>?_) (fun hb=>?_)|refine⟨fun hb=>?_,fun hb=>?_⟩|fail)
   all_goals first | (refine hnext ?_;clear hnext hbad fin0 fin1 hI;simp_all;done) | (refine fin0 _ (hbad ?_);clear hnext hbad fin0 fin1 hI;simp_all;done) | (refine hnext ?_;clear hnext hbad fin0 fin1 hI;simp_all;omega) | (refine fin0 _ (hbad ?_);clear hnext hbad fin0 fin1 hI;simp_all;omega)
  ·rw[aa12 (by omega) hno,Bool.true_and] at hR
   clear hI hno hge hi
   try (simp -implicitDefEqProofs only[go_sem,qeaV,d_,q_,f_,s_,s10,n_,t_,List.length_map])
   refine al_ (fun n st=>∃i:Nat,i+n=q.symbols.length∧st=⟨166,[(1,.ref 1 0 0),(4,iv i)],[(1,⟨false,taQ_,9,[qeaV q]⟩)]⟩∧∀j y,j<i→q.symbols[j]? =some y→f24 y=true) q.symbols.length ⟨0,by simp,rfl,fun j x hj=>by omega⟩ ?_
   rintro I hI n st ⟨i,hi,rfl,hno⟩
   simp -implicitDefEqProofs only[go_sem,qeaV,d_,q_,f_,s_,s10,n_,t_,List.length_map]
   refine⟨fun hlt=>?_,fun hge=>?_⟩
   ·have hlt':i<q.symbols.length:=by omega
    obtain⟨s,hs,hm⟩:=as10 hlt'
    have hw:=ws_ hlt' (by omega)
    have hnext:f24 s=true→a12 I n ⟨166,[(1,.ref 1 0 0),(4,iv (i+1:Nat))],[(1,⟨false,taQ_,9,[qeaV q]⟩)]⟩:=fun hv=>aa_ (n - 1) (by omega) (hI _ _ ⟨i+1,by omega,rfl,as11 (p:=fun _ d=>f24 d) hs hv hno⟩)
    have hbad:f24 s=false→w=false:=fun hv=>by rw[hR,af_ hs hv,Bool.false_and]
    unfold f24 at hnext hbad
    clear hno hR
    repeat' (first|simp -implicitDefEqProofs only[go_sem,am_ hs,symV,a10,hw,qeaV,d_,q_,f_,s_,s10,n_,t_,List.length_map]|refine ag_ (fun hb=>?_) (fun hb=>?_)|refine⟨fun hb=>?_,fun hb=>?_⟩|fail)
    ·exact fin0 _ (hbad (by rw[show decide ((s.args.length:Int)≤12)=false by simp;omega];rfl))
    have hle:(s.args.length:Int)≤12:=by omega
    rw[show decide ((s.args.length:Int)≤12)=true by simpa using hle,Bool.true_and] at hnext hbad
    refine al_ (fun m st=>∃k:Nat,k+m=s.args.length∧st=⟨166,[(1,.ref 1 0 0),(4,iv i),(5,iv k)],[(1,⟨false,taQ_,9,[qeaV q]⟩)]⟩∧∀j y,j<k→s.args[j]? =some y→s23 y.value.str=true) s.args.length ⟨0,by simp,rfl,fun j x hj=>by omega⟩ ?_
    rintro J hJ m st ⟨k,hk,rfl,hall⟩
    simp -implicitDefEqProofs only[go_sem,am_ hs,symV,a10,qeaV,d_,q_,f_,s_,s10,n_,t_,List.length_map]
    refine⟨fun hlt2=>?_,fun hge2=>?_⟩
    ·have hlt2':k<s.args.length:=by omega
     obtain⟨a,ha,ham⟩:=as10 hlt2'
     have hw2:=ws_ hlt2' (by omega)
     have hgo:s23 a.value.str=true→a12 J m ⟨166,[(1,.ref 1 0 0),(4,iv i),(5,iv (k+1:Nat))],[(1,⟨false,taQ_,9,[qeaV q]⟩)]⟩:=fun hv=>aa_ (m - 1) (by omega) (hJ _ _ ⟨k+1,by omega,rfl,as11 (p:=fun _ (a:ArgT)=>s23 a.value.str) ha hv hall⟩)
     have hbd:s23 a.value.str=false→w=false:=fun hv=>hbad (af_ ha hv)
     unfold s23 at hgo hbd
     clear hnext hbad hall
     repeat' (first|simp -implicitDefEqProofs only[go_sem,am_ hs,am_ ha,argV,symV,a10,hw2,qeaV,d_,q_,f_,s_,s10,n_,t_,List.length_map]|refine ag_ (fun hb=>?_) (fun hb=>?_)|refine⟨fun hb=>?_,fun hb=>?_⟩|fail)
     all_goals first | (refine hgo ?_;simp;omega) | (refine fin0 _ (hbd ?_);simp;omega)
    ·have:=hnext (aa12 (by omega) hall)
     try (simp -implicitDefEqProofs only[go_sem,hw])
     exact this
   ·rw[aa12 (by omega) hno,Bool.true_and] at hR
    clear hI hno hge hi
    try (simp -implicitDefEqProofs only[go_sem,qeaV,d_,q_,f_,s_,s10,n_,t_,List.length_map])
    refine al_ (fun n st=>∃i:Nat,i+n=q.frees.length∧st=⟨166,[(1,.ref 1 0 0),(6,iv i)],[(1,⟨false,taQ_,9,[qeaV q]⟩)]⟩∧∀j y,j<i→q.frees[j]? =some y→s23 y.init.str=true) q.frees.length ⟨0,by simp,rfl,fun j x hj=>by omega⟩ ?_
    rintro I hI n st ⟨i,hi,rfl,hno⟩
    simp -implicitDefEqProofs only[go_sem,qeaV,d_,q_,f_,s_,s10,n_,t_,List.length_map]
    refine⟨fun hlt=>?_,fun hge=>?_⟩
    ·have hlt':i<q.frees.length:=by omega
     obtain⟨y,hy,hm⟩:=as10 hlt'
     have hw:=ws_ hlt' (by omega)
     have hnext:s23 y.init.str=true→a12 I n ⟨166,[(1,.ref 1 0 0),(6,iv (i+1:Nat))],[(1,⟨false,taQ_,9,[qeaV q]⟩)]⟩:=fun hv=>aa_ (n - 1) (by omega) (hI _ _ ⟨i+1,by omega,rfl,as11 (p:=fun _ (f:FreeT)=>s23 f.init.str) hy hv hno⟩)
     have hbad:s23 y.init.str=false→w=false:=fun hv=>by rw[hR,af_ hy hv,Bool.false_and]
     unfold s23 at hnext hbad
     clear hno hR
     repeat' (first|simp -implicitDefEqProofs only[go_sem,am_ hy,f11,hw,qeaV,d_,q_,f_,s_,s10,n_,t_,List.length_map]|refine ag_ (fun hb=>?_) (fun hb=>?_)|refine⟨fun hb=>?_,fun hb=>?_⟩|fail)
     all_goals first | (refine hnext ?_;simp;omega) | (refine fin0 _ (hbad ?_);simp;omega)
    ·rw[aa12 (by omega) hno,Bool.true_and] at hR
     clear hI hno hge hi
     try (simp -implicitDefEqProofs only[go_sem,qeaV,d_,q_,f_,s_,s10,n_,t_,List.length_map])
     refine al_ (fun n st=>∃i:Nat,i+n=q.nodes.length∧st=⟨166,[(1,.ref 1 0 0),(7,iv i)],[(1,⟨false,taQ_,9,[qeaV q]⟩)]⟩∧∀j y,j<i→q.nodes[j]? =some y→s23 y.value.str=true) q.nodes.length ⟨0,by simp,rfl,fun j x hj=>by omega⟩ ?_
     rintro I hI n st ⟨i,hi,rfl,hno⟩
     simp -implicitDefEqProofs only[go_sem,qeaV,d_,q_,f_,s_,s10,n_,t_,List.length_map]
     refine⟨fun hlt=>?_,fun hge=>?_⟩
     ·have hlt':i<q.nodes.length:=by omega
      obtain⟨y,hy,hm⟩:=as10 hlt'
      have hw:=ws_ hlt' (by omega)
      have hnext:s23 y.value.str=true→a12 I n ⟨166,[(1,.ref 1 0 0),(7,iv (i+1:Nat))],[(1,⟨false,taQ_,9,[qeaV q]⟩)]⟩:=fun hv=>aa_ (n - 1) (by omega) (hI _ _ ⟨i+1,by omega,rfl,as11 (p:=fun _ (f:NodeT)=>s23 f.value.str) hy hv hno⟩)
      have hbad:s23 y.value.str=false→w=false:=fun hv=>by rw[hR,af_ hy hv,Bool.false_and]
      unfold s23 at hnext hbad
      clear hno hR
      repeat' (first|simp -implicitDefEqProofs only[go_sem,am_ hy,n11,hw,qeaV,d_,q_,f_,s_,s10,n_,t_,List.length_map]|refine ag_ (fun hb=>?_) (fun hb=>?_)|refine⟨fun hb=>?_,fun hb=>?_⟩|fail)
      all_goals first | (refine hnext ?_;simp;omega) | (refine fin0 _ (hbad ?_);simp;omega)
     ·rw[aa12 (by omega) hno,Bool.true_and] at hR
      clear hI hno hge hi
      try (simp -implicitDefEqProofs only[go_sem,qeaV,d_,q_,f_,s_,s10,n_,t_,List.length_map])
      refine al_ (fun n st=>∃i:Nat,i+n=q.trans.length∧st=⟨166,[(1,.ref 1 0 0),(8,iv i)],[(1,⟨false,taQ_,9,[qeaV q]⟩)]⟩∧∀j y,j<i→q.trans[j]? =some y→decide ((y.sets.length:Int)≤12)=true) q.trans.length ⟨0,by simp,rfl,fun j x hj=>by omega⟩ ?_
      rintro I hI n st ⟨i,hi,rfl,hno⟩
      simp -implicitDefEqProofs only[go_sem,qeaV,d_,q_,f_,s_,s10,n_,t_,List.length_map]
      refine⟨fun hlt=>?_,fun hge=>?_⟩
      ·have hlt':i<q.trans.length:=by omega
       obtain⟨y,hy,hm⟩:=as10 hlt'
       have hw:=ws_ hlt' (by omega)
       have hnext:decide ((y.sets.length:Int)≤12)=true→a12 I n ⟨166,[(1,.ref 1 0 0),(8,iv (i+1:Nat))],[(1,⟨false,taQ_,9,[qeaV q]⟩)]⟩:=fun hv=>aa_ (n - 1) (by omega) (hI _ _ ⟨i+1,by omega,rfl,as11 (p:=fun _ (t:TransT)=>decide ((t.sets.length:Int)≤12)) hy hv hno⟩)
       have hbad:decide ((y.sets.length:Int)≤12)=false→w=false:=fun hv=>by rw[hR,af_ hy hv]
       clear hno hR
       repeat' (first|simp -implicitDefEqProofs only[go_sem,am_ hy,t11,s14,hw,qeaV,d_,q_,f_,s_,s10,n_,t_,List.length_map]|refine ag_ (fun hb=>?_) (fun hb=>?_)|refine⟨fun hb=>?_,fun hb=>?_⟩|fail)
       all_goals first | (refine hnext ?_;simp;omega) | (refine fin0 _ (hbad ?_);simp;omega)
      ·rw[aa12 (by omega) hno] at hR
       try (simp -implicitDefEqProofs only[go_sem])
       exact fin1 _ hR
end Go.Proofs.YtjbcfpkibnhodaaGreatDoor.Ab
