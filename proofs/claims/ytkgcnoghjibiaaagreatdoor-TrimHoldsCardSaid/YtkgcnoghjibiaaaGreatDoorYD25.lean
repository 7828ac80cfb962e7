/- Lemmas. -/
import Derived.Test.YtkgcnoghjibiaaaGreatDoorYD19
set_option linter.unusedSimpArgs false
set_option maxHeartbeats 4000000
namespace Go.Proofs.YtkgcnoghjibiaaaGreatDoor.Ab
open Go
theorem if10 {α:Type} {p:α->Bool} {l:List α} {i:Nat} {x:α} (hx:l[i]?=some x) (hp:p x=true):(idxF p l==(i:Int))= !((l.take i).any p):=by
 have hi:=(zX.1 hx).1;cases ha:(l.take i).any p with
 | false=>
  have hno:∀j y,j<i->l[j]?=some y->p y=false:=λj y hj hy=>by have:=wU.1 ha y (tS.2 ⟨j,by rw[vH hj];exact hy⟩);simpa using this
  rw[ia_ hx hp hno];simp
 | true=>
  obtain⟨y,hy,hpy⟩:=yE.1 ha;obtain⟨j,hj⟩:=zM hy;rw[yN] at hj;split at hj
  .rename_i hji;have hlt:idxF p l<i:=by
    unfold idxF;cases hf:l.findIdx? p with
    | none=>
     exfalso;rw[tZ] at hf;have:=hf x (zG hx);rw[hp] at this;cases this
    | some k=>
     rw[xA] at hf;obtain⟨hk,hpk,hmin⟩:=hf;by_cases hkj:j<k
     .exfalso;have:=hmin j hkj;obtain⟨h1,h2⟩:=zX.1 hj;rw[h2] at this;exact this hpy
     .dsimp only;omega
   simp;omega
  .cases hj
theorem ac11 {α:Type} {p p':Nat->α->Bool} {l:List α} (h:∀i x,l[i]?=some x->p i x=p' i x):allI p l=allI p' l:=by rw[yY,at10,at10];exact⟨λg i x hx=>by rw[<-h i x hx];exact g i x hx,λg i x hx=>by rw[h i x hx];exact g i x hx⟩
theorem ne_ (l:List Str):allI (n16 l) l=allI (n18 l) l:=ac11 λi s hs=>by unfold n16 n18;rw[if10 hs (by simp)];congr 3;funext x;rw[yY];simp only[zB];exact eq_comm
theorem se12 (q:QeaT):allI (s32 q) q.symbols=allI (symR q) q.symbols:=ac11 λi s hs=>by unfold s32 symR;rw[if10 hs (by simp)];congr 3;funext x;rw[yY];simp only[zW];exact eq_comm
theorem te11 (q:QeaT):allI (λ_ (y:QuantT)=>!(k_ y.type==[])) q.quants=allI (λ_ (y:QuantT)=>t35 y.type) q.quants:=ac11 λi y _ =>by rw[kb_];simp [t35]
def topR (q:QeaT):Bool:=(d10 q.decls).1==0&&(fewS q&&(decide (0<=q.start)&&(decide (q.start<q.states.length)&&h20 q)))
theorem he10 (q:QeaT):(fewS q&&h24 q)=topR q:=by unfold topR h24 h20;rw[ne_,ne_,te11];generalize fewS q=b1;generalize ((d10 q.decls).1==0)=b2;generalize n12 q.name=b3;generalize allI (n18 q.vars) q.vars=b4;generalize allI (n18 q.names) q.names=b5;generalize allI (λ_ (y:QuantT)=>t35 y.type) q.quants=b6;generalize allI (λ_ (y:FreeT)=>y.init.ok) q.frees=b7;generalize decide (0<=q.start)=b8;generalize decide (q.start<q.states.length)=b9;cases b1 <;> cases b2 <;> cases b3 <;> cases b4 <;> cases b5 <;> cases b6 <;> cases b7 <;> cases b8 <;> cases b9 <;> rfl
theorem tk10 {q:QeaT} (h:h20 q=true):q.Kinds:=by
 unfold h20 at h;simp only[zJ] at h;obtain⟨h1,h2,_⟩:=h;refine⟨λy hy=>?_,λy hy=>?_⟩
 .obtain⟨i,hi⟩:=zM hy;have:=at10.1 h1 i y hi;simpa [t35] using this
 .obtain⟨i,hi⟩:=zM hy;exact at10.1 h2 i y hi
theorem zm_ {α β:Type} {p:α->β->Bool}:∀{l:List α} {k:List β},zipB p l k=true->∀x∈l,∃y∈k,p x y=true
 | [],_,_,x,hx=>by simp at hx
 | a::r,[],h,_,_ =>by simp [zipB] at h
 | a::r,b::s,h,x,hx=>by
  rw[zipB,zJ] at h;rcases yV.1 hx with rfl | hx
  .exact⟨b,zD,h.1⟩
  .obtain⟨y,hy,hp⟩:=zm_ h.2 x hx;exact⟨y,zR _ hy,hp⟩
theorem ac13 {α:Type} {p p':α->Bool} {l:List α} (h:∀x∈l,p x=p' x):l.any p=l.any p':=by rw[yY,yE,yE];exact⟨λ⟨x,hx,hp⟩=>⟨x,hx,by rw[<-h x hx];exact hp⟩,λ⟨x,hx,hp⟩=>⟨x,hx,by rw[h x hx];exact hp⟩⟩
theorem ac21 {α:Type} {p p':α->Bool} {l:List α} (h:∀x∈l,p x=p' x):l.all p=l.all p':=by rw[yY,xQ,xQ];exact⟨λg x hx=>by rw[<-h x hx];exact g x hx,λg x hx=>by rw[h x hx];exact g x hx⟩
theorem se10 {q:QeaT} {s:SymT} (h:symS q s=true) (v:Int):s13 s v=n13 s v:=by
 unfold s13 n13;refine ac13 λx hx=>?_;have hv:x.kind=2->x.value=v0:=λhk=>by
  unfold symS at h;split at h
  .cases h
  .obtain⟨y,_,hp⟩:=zm_ h x hx;unfold argS at hp;rw[zK (by omega),zY hk] at hp;split at hp
   .cases hp
   .simp at hp;exact hp.2
 obtain⟨k,n,val⟩:=x;rw[yY];simp only[zB,ArgT.mk.injEq,zJ] at*;constructor
 .rintro⟨h1,h2,h3⟩;exact⟨h1.symm,h2.symm⟩
 .rintro⟨h1,h2⟩;exact⟨h1.symm,h2.symm,(hv h1).symm⟩
theorem so10 {q:QeaT} (h:allI (symR q) q.symbols=true):∀s∈q.symbols,∀v,s13 s v=n13 s v:=λs hs v=>by obtain⟨i,hi⟩:=zM hs;have:=at10.1 h i s hi;unfold symR at this;rw[zJ] at this;exact se10 this.1 v
theorem se11 (q:QeaT):s23 q=s16 q:=by
 unfold s23 s16;rw[se12];cases h:allI (symR q) q.symbols with
 | false=>rw[yM,yM]
 | true=>
  congr 2;refine ac11 λi y _ =>?_;exact ac13 λs hs=>so10 h s hs _
theorem oc_ {q:QeaT} {l:List ExT} (h:∀s∈q.symbols,∀v,s13 s v=n13 s v) (a:Int) (t:TransT):o_ q l s13 a t=o_ q l n13 a t:=by
 have hr:∀f a,o12 q l s13 t f a=o12 q l n13 t f a:=λf a=>by
  unfold o12;cases hs:at? q.symbols t.symbol with
  | none=>rfl
  | some s=>
   obtain⟨j,_,hj⟩:=at?_some hs;dsimp only;congr 2;exact ac21 λx _ =>by rw[h s (zG hj)]
 unfold o_;rw[hr,hr]
theorem ac15 {α σ:Type} {f g:σ->Nat->α->Bool×σ} (h:∀s i x,f s i x=g s i x):∀(l:List α) (i:Nat) (s:σ),allS f l i s=allS g l i s
 | [],_,_ =>rfl
 | x::r,i,s=>by rw[allS,allS,h,ac15 h r]
def s26 (q:QeaT) (a:Int) (_ :Nat) (t:TransT):Bool×Int:=((t15 q t a).2,(t15 q t a).1)
theorem se15 (q:QeaT) (a:Int) (i:Nat) (t:TransT):(o_ q (e11 q) n13 a t).1=(s26 q a i t).1∧((s26 q a i t).1=true->o_ q (e11 q) n13 a t=s26 q a i t):=by
 have hr:∀f a,(o12 q (e11 q) n13 t f a).1=(r16 q t f a).2∧((r16 q t f a).2=true->o12 q (e11 q) n13 t f a=((r16 q t f a).2,(r16 q t f a).1)):=λf a=>by
  unfold o12 r16;dsimp only;generalize allS (s12 q (e11 q) t.sets) t.sets 0 a=r;obtain⟨b,A⟩:=r;cases b
  .simp
  .simp;exact⟨rfl,λ_ =>rfl⟩
 unfold o_ s26 t15;split
 .simp
 .split
  .exact hr a a
  .split
   .exact hr a _
   .simp
theorem as24 {α σ:Type} {f g:σ->Nat->α->Bool×σ} (h:∀s i x,(f s i x).1=(g s i x).1∧((g s i x).1=true->f s i x=g s i x)):∀(l:List α) (i:Nat) (s:σ),(allS f l i s).1=(allS g l i s).1∧((allS g l i s).1=true->allS f l i s=allS g l i s)
 | [],_,_ =>⟨rfl,λ_ =>rfl⟩
 | x::r,i,s=>by
  obtain⟨h1,h2⟩:=h s i x;rw[allS,allS];cases hg:(g s i x).1 with
  | false=>
   rw[hg] at h1;rw[h1];simp
  | true=>
   rw[h2 hg,hg];simp only[xW];exact as24 h r (i+1) _
def t26 (q:QeaT):Bool:=(allS (s26 q) q.trans 0 0).1&&(allS (s26 q) q.trans 0 0).2==(q.nodes.length:Int)
def r10 (q:QeaT):Bool:=topR q&&(t26 q&&s16 q)
theorem re10 (q:QeaT):r20 q=r10 q:=by
 unfold r20 r10;rw[<-Bool.and_assoc,he10,se11];congr 1;cases h:s16 q with
 | false=>rw[tN,tN]
 | true=>
  congr 1;have hs:allI (symR q) q.symbols=true:=by unfold s16 at h;simp only[zJ] at h;exact h.2.1
  have hln:(e11 q).length=q.nodes.length:=el_ q _ (by omega);unfold t44 t26;dsimp only;rw[ac15 (λa _ t=>oc_ (so10 hs) a t),hln];obtain⟨h1,h2⟩:=as24 (f:=λa _ t=>o_ q (e11 q) n13 a t) (g:=s26 q) (λa i t=>se15 q a i t) q.trans 0 0;rw[h1];cases hb:(allS (s26 q) q.trans 0 0).1 with
  | false=>rw[yM,yM]
  | true=>rw[h2 hb]
theorem tl13 {q:QeaT} {t:TransT} {a:Int} (h0:0<=a) (hl:a<=q.nodes.length) (h:(t15 q t a).2=true):0<=(t15 q t a).1∧(t15 q t a).1<=q.nodes.length∧inR t.symbol q.symbols.length=true:=by
 have hln:(e11 q).length=q.nodes.length:=el_ q _ (by omega);have hrest:∀f a':Int,0<=a'->a'<=(e11 q).length->(r16 q t f a').2=true->0<=(r16 q t f a').1∧(r16 q t f a').1<=q.nodes.length:=λf a' h1 h2 h=>by
  have:=al14 (q:=q) (l:=e11 q) (sets:=t.sets) (r:=t.sets) (i:=0) h2;unfold r16 at h ⊢;dsimp only at h ⊢;split
  .dsimp only;omega
  .rename_i hn;rw[zK hn] at h;cases h
 unfold t15 at h ⊢;split at h
 .cases h
 .rename_i hc;rw[zK hc];rw[vB,zJ,zJ] at hc;split at h
  .rename_i hg;rw[zY hg];have:=hrest a a h0 (by omega) h;exact⟨this.1,this.2,hc.2.2⟩
  .rename_i hg;rw[zK hg];split at h
   .rename_i hw;rw[zY hw];have h1:=wl_ hw;have h2:=wp_ h0 hw;have:=hrest a _ h2 h1.2 h;exact⟨this.1,this.2,hc.2.2⟩
   .cases h
variable {G:Nat->Option AV}
def s28 (s:Str):Bool:=decide ((s.length:Int)<=100)
def f16 (d:DeclT):Bool:=decide ((d.types.length:Int)<=12)&&s28 d.name
def f23 (s:SymT):Bool:=decide ((s.args.length:Int)<=12)&&allI (λ_ (a:ArgT)=>s28 a.value.str) s.args
def f18 (q:QeaT):Bool:=decide ((q.decls.length:Int)<=12)&&(decide ((q.quants.length:Int)<=9)&&(decide ((q.frees.length:Int)<=12)&&(decide ((q.states.length:Int)<=12)&&(decide ((q.symbols.length:Int)<=12)&&(decide ((q.trans.length:Int)<=12)&&(decide ((q.nodes.length:Int)<=40)&&s28 q.name))))))
def fewQ (q:QeaT):Bool:=f18 q&&(allI (λ_ d=>f16 d) q.decls&&(allI (λ_ s=>f23 s) q.symbols&&(allI (λ_ (f:FreeT)=>s28 f.init.str) q.frees&&(allI (λ_ (x:NodeT)=>s28 x.value.str) q.nodes&&allI (λ_ (t:TransT)=>decide ((t.sets.length:Int)<=12)) q.trans))))
theorem rF11 (q:QeaT):PQ G 10 [qeaV q] (iv (if fewQ q=true then 1 else 0)):=by
 refine pp43 λΦ h=>?_;unfold cp44;have fin0:∀heap,fewQ q=false->Φ ⟨166,[(2,iv 0)],heap⟩:=λheap e=>h _ ⟨_,_,rfl,rfl,fitI (by rw[e];rfl)⟩;have fin1:∀heap,fewQ q=true->Φ ⟨166,[(2,iv 1)],heap⟩:=λheap e=>h _ ⟨_,_,rfl,rfl,fitI (by rw[e];rfl)⟩;clear h;generalize hR:fewQ q=w at*;unfold fewQ at hR;replace hR:=hR.symm;cases hT:f18 q with
 | false=>
  rw[hT,yM] at hR;unfold f18 s28 at hT;simp only[wK,zW,yQ] at hT
  repeat' (first|simp -implicitDefEqProofs only[go_sem,qeaV,d_,q_,f_,s_,s10,n_,t_,zQ]|apply ai__<;>intro hb)
  all_goals first | exact fin0 _ hR | (exfalso;simp at*;omega)
 | true=>
  rw[hT,yR] at hR;unfold f18 s28 at hT;simp only[zJ,zW] at hT;obtain⟨t1,t2,t3,t4,t5,t6,t7,t8⟩:=hT
  repeat' (first|simp -implicitDefEqProofs only[go_sem,qeaV,d_,q_,f_,s_,s10,n_,t_,zQ]|apply ai__<;>intro hb)
  all_goals first | (exfalso;simp at hb;omega) | (exfalso;clear fin0 fin1 hR;simp at*;omega) | skip
  refine al_ (λn st=>∃i:Nat,i+n=q.decls.length∧st=⟨166,[(1,.ref 1 0 0),(3,iv i)],[(1,⟨false,30,9,[qeaV q]⟩)]⟩∧∀j y,j<i->q.decls[j]?=some y->f16 y=true) q.decls.length ⟨0,by simp,rfl,λj x hj=>by omega⟩ ?_;rintro I hI n st ⟨i,hi,rfl,hno⟩;simp -implicitDefEqProofs only[go_sem,qeaV,d_,q_,f_,s_,s10,n_,t_,zQ];refine⟨λhlt=>?_,λhge=>?_⟩
  .have hlt':i<q.decls.length:=by omega
   obtain⟨y,hy,hm⟩:=as10 hlt';have hw:=ws_ hlt';have hnext:f16 y=true->a13 I n ⟨166,[(1,.ref 1 0 0),(3,iv (i+1:Nat))],[(1,⟨false,30,9,[qeaV q]⟩)]⟩:=λhv=>aa_ (n - 1) (by omega) (hI _ _ ⟨i+1,by omega,rfl,as11 (p:=λ_ d=>f16 d) hy hv hno⟩);have hbad:f16 y=false->w=false:=λhv=>by rw[hR,af_ hy hv,yM]
   unfold f16 s28 at hnext hbad;clear hno hR
   repeat' (first|simp -implicitDefEqProofs only[go_sem,am_ hy,d12,i11,hw,qeaV,d_,q_,f_,s_,s10,n_,t_,zQ]|apply ai__<;>intro hb)
   all_goals first | (refine hnext ?_;clear hnext hbad fin0 fin1 hI;simp_all;done) | (refine fin0 _ (hbad ?_);clear hnext hbad fin0 fin1 hI;simp_all;done) | (refine hnext ?_;clear hnext hbad fin0 fin1 hI;simp_all;omega) | (refine fin0 _ (hbad ?_);clear hnext hbad fin0 fin1 hI;simp_all;omega)
  .rw[aa11 (by omega) hno,yR] at hR;clear hI hno hge hi
   try (simp -implicitDefEqProofs only[go_sem,qeaV,d_,q_,f_,s_,s10,n_,t_,zQ])
   refine al_ (λn st=>∃i:Nat,i+n=q.symbols.length∧st=⟨166,[(1,.ref 1 0 0),(4,iv i)],[(1,⟨false,30,9,[qeaV q]⟩)]⟩∧∀j y,j<i->q.symbols[j]?=some y->f23 y=true) q.symbols.length ⟨0,by simp,rfl,λj x hj=>by omega⟩ ?_;rintro I hI n st ⟨i,hi,rfl,hno⟩;simp -implicitDefEqProofs only[go_sem,qeaV,d_,q_,f_,s_,s10,n_,t_,zQ];refine⟨λhlt=>?_,λhge=>?_⟩
   .have hlt':i<q.symbols.length:=by omega
    obtain⟨s,hs,hm⟩:=as10 hlt';have hw:=ws_ hlt';have hnext:f23 s=true->a13 I n ⟨166,[(1,.ref 1 0 0),(4,iv (i+1:Nat))],[(1,⟨false,30,9,[qeaV q]⟩)]⟩:=λhv=>aa_ (n - 1) (by omega) (hI _ _ ⟨i+1,by omega,rfl,as11 (p:=λ_ d=>f23 d) hs hv hno⟩);have hbad:f23 s=false->w=false:=λhv=>by rw[hR,af_ hs hv,yM]
    unfold f23 at hnext hbad;clear hno hR
    repeat' (first|simp -implicitDefEqProofs only[go_sem,am_ hs,symV,a10,hw,qeaV,d_,q_,f_,s_,s10,n_,t_,zQ]|apply ai__<;>intro hb)
    .exact fin0 _ (hbad (by rw[show decide ((s.args.length:Int)<=12)=false by simp;omega];rfl))
    have hle:(s.args.length:Int)<=12:=by omega
    rw[show decide ((s.args.length:Int)<=12)=true by simpa using hle,yR] at hnext hbad;refine al_ (λm st=>∃k:Nat,k+m=s.args.length∧st=⟨166,[(1,.ref 1 0 0),(4,iv i),(5,iv k)],[(1,⟨false,30,9,[qeaV q]⟩)]⟩∧∀j y,j<k->s.args[j]?=some y->s28 y.value.str=true) s.args.length ⟨0,by simp,rfl,λj x hj=>by omega⟩ ?_;rintro J hJ m st ⟨k,hk,rfl,hall⟩;simp -implicitDefEqProofs only[go_sem,am_ hs,symV,a10,qeaV,d_,q_,f_,s_,s10,n_,t_,zQ];refine⟨λhlt2=>?_,λhge2=>?_⟩
    .have hlt2':k<s.args.length:=by omega
     obtain⟨a,ha,ham⟩:=as10 hlt2';have hw2:=ws_ hlt2';have hgo:s28 a.value.str=true->a13 J m ⟨166,[(1,.ref 1 0 0),(4,iv i),(5,iv (k+1:Nat))],[(1,⟨false,30,9,[qeaV q]⟩)]⟩:=λhv=>aa_ (m - 1) (by omega) (hJ _ _ ⟨k+1,by omega,rfl,as11 (p:=λ_ (a:ArgT)=>s28 a.value.str) ha hv hall⟩);have hbd:s28 a.value.str=false->w=false:=λhv=>hbad (af_ ha hv);unfold s28 at hgo hbd;clear hnext hbad hall
     repeat' (first|simp -implicitDefEqProofs only[go_sem,am_ hs,am_ ha,argV,symV,a10,hw2,qeaV,d_,q_,f_,s_,s10,n_,t_,zQ]|apply ai__<;>intro hb)
     all_goals first | (refine hgo ?_;simp;omega) | (refine fin0 _ (hbd ?_);simp;omega)
    .have:=hnext (aa11 (by omega) hall)
     try (simp -implicitDefEqProofs only[go_sem,hw])
     exact this
   .rw[aa11 (by omega) hno,yR] at hR;clear hI hno hge hi
    try (simp -implicitDefEqProofs only[go_sem,qeaV,d_,q_,f_,s_,s10,n_,t_,zQ])
    refine al_ (λn st=>∃i:Nat,i+n=q.frees.length∧st=⟨166,[(1,.ref 1 0 0),(6,iv i)],[(1,⟨false,30,9,[qeaV q]⟩)]⟩∧∀j y,j<i->q.frees[j]?=some y->s28 y.init.str=true) q.frees.length ⟨0,by simp,rfl,λj x hj=>by omega⟩ ?_;rintro I hI n st ⟨i,hi,rfl,hno⟩;simp -implicitDefEqProofs only[go_sem,qeaV,d_,q_,f_,s_,s10,n_,t_,zQ];refine⟨λhlt=>?_,λhge=>?_⟩
    .have hlt':i<q.frees.length:=by omega
     obtain⟨y,hy,hm⟩:=as10 hlt';have hw:=ws_ hlt';have hnext:s28 y.init.str=true->a13 I n ⟨166,[(1,.ref 1 0 0),(6,iv (i+1:Nat))],[(1,⟨false,30,9,[qeaV q]⟩)]⟩:=λhv=>aa_ (n - 1) (by omega) (hI _ _ ⟨i+1,by omega,rfl,as11 (p:=λ_ (f:FreeT)=>s28 f.init.str) hy hv hno⟩);have hbad:s28 y.init.str=false->w=false:=λhv=>by rw[hR,af_ hy hv,yM]
     unfold s28 at hnext hbad;clear hno hR
     repeat' (first|simp -implicitDefEqProofs only[go_sem,am_ hy,f10,hw,qeaV,d_,q_,f_,s_,s10,n_,t_,zQ]|apply ai__<;>intro hb)
     all_goals first | (refine hnext ?_;simp;omega) | (refine fin0 _ (hbad ?_);simp;omega)
    .rw[aa11 (by omega) hno,yR] at hR;clear hI hno hge hi
     try (simp -implicitDefEqProofs only[go_sem,qeaV,d_,q_,f_,s_,s10,n_,t_,zQ])
     refine al_ (λn st=>∃i:Nat,i+n=q.nodes.length∧st=⟨166,[(1,.ref 1 0 0),(7,iv i)],[(1,⟨false,30,9,[qeaV q]⟩)]⟩∧∀j y,j<i->q.nodes[j]?=some y->s28 y.value.str=true) q.nodes.length ⟨0,by simp,rfl,λj x hj=>by omega⟩ ?_;rintro I hI n st ⟨i,hi,rfl,hno⟩;simp -implicitDefEqProofs only[go_sem,qeaV,d_,q_,f_,s_,s10,n_,t_,zQ];refine⟨λhlt=>?_,λhge=>?_⟩
     .have hlt':i<q.nodes.length:=by omega
      obtain⟨y,hy,hm⟩:=as10 hlt';have hw:=ws_ hlt';have hnext:s28 y.value.str=true->a13 I n ⟨166,[(1,.ref 1 0 0),(7,iv (i+1:Nat))],[(1,⟨false,30,9,[qeaV q]⟩)]⟩:=λhv=>aa_ (n - 1) (by omega) (hI _ _ ⟨i+1,by omega,rfl,as11 (p:=λ_ (f:NodeT)=>s28 f.value.str) hy hv hno⟩);have hbad:s28 y.value.str=false->w=false:=λhv=>by rw[hR,af_ hy hv,yM]
      unfold s28 at hnext hbad;clear hno hR
      repeat' (first|simp -implicitDefEqProofs only[go_sem,am_ hy,n11,hw,qeaV,d_,q_,f_,s_,s10,n_,t_,zQ]|apply ai__<;>intro hb)
      all_goals first | (refine hnext ?_;simp;omega) | (refine fin0 _ (hbad ?_);simp;omega)
     .rw[aa11 (by omega) hno,yR] at hR;clear hI hno hge hi
      try (simp -implicitDefEqProofs only[go_sem,qeaV,d_,q_,f_,s_,s10,n_,t_,zQ])
      refine al_ (λn st=>∃i:Nat,i+n=q.trans.length∧st=⟨166,[(1,.ref 1 0 0),(8,iv i)],[(1,⟨false,30,9,[qeaV q]⟩)]⟩∧∀j y,j<i->q.trans[j]?=some y->decide ((y.sets.length:Int)<=12)=true) q.trans.length ⟨0,by simp,rfl,λj x hj=>by omega⟩ ?_;rintro I hI n st ⟨i,hi,rfl,hno⟩;simp -implicitDefEqProofs only[go_sem,qeaV,d_,q_,f_,s_,s10,n_,t_,zQ];refine⟨λhlt=>?_,λhge=>?_⟩
      .have hlt':i<q.trans.length:=by omega
       obtain⟨y,hy,hm⟩:=as10 hlt';have hw:=ws_ hlt';have hnext:decide ((y.sets.length:Int)<=12)=true->a13 I n ⟨166,[(1,.ref 1 0 0),(8,iv (i+1:Nat))],[(1,⟨false,30,9,[qeaV q]⟩)]⟩:=λhv=>aa_ (n - 1) (by omega) (hI _ _ ⟨i+1,by omega,rfl,as11 (p:=λ_ (t:TransT)=>decide ((t.sets.length:Int)<=12)) hy hv hno⟩);have hbad:decide ((y.sets.length:Int)<=12)=false->w=false:=λhv=>by rw[hR,af_ hy hv]
       clear hno hR
       repeat' (first|simp -implicitDefEqProofs only[go_sem,am_ hy,t11,s18,hw,qeaV,d_,q_,f_,s_,s10,n_,t_,zQ]|apply ai__<;>intro hb)
       all_goals first | (refine hnext ?_;simp;omega) | (refine fin0 _ (hbad ?_);simp;omega)
      .rw[aa11 (by omega) hno] at hR
       try (simp -implicitDefEqProofs only[go_sem])
       exact fin1 _ hR
