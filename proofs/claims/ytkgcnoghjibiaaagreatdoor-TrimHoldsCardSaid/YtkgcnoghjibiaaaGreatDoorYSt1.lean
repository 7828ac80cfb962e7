/- Lemmas. -/
import Derived.Test.YtkgcnoghjibiaaaGreatDoorYC4
import Derived.Shelf.Spec.SlicesInsertGrow
import Derived.RangeFuncNested
import Derived.RangeFuncBound
import Derived.OwnWalkIn
import Derived.LoopNIn
import Derived.LoopIn
import Derived.Shelf.RegionOpen
set_option linter.unusedSimpArgs false
set_option maxHeartbeats 4000000
set_option maxRecDepth 100000
namespace Go.Proofs.YtkgcnoghjibiaaaGreatDoor.Ab
open Go Go.RowKit
variable {G:Nat->Option AV}
def s15 (q:QeaT):CfgT:=⟨q.start,q.frees.map (·.init)⟩
theorem is10 {q:QeaT} {i:Nat} {f:FreeT} (h:q.frees[i]?=some f):(q.frees.take (i+1)).map (·.init)=(q.frees.take i).map (·.init)++[f.init]:=by rw[ta40 h];simp
def s35 (q:QeaT):AV:=.agg [iv q.start,if q.frees=[] then .nils else .seq 4 ((q.frees.map (·.init)).map valV)]
theorem sf12 (q:QeaT):Fit2 (.seq 2 [s35 q]) (c11 [s15 q]):=by
 refine .seq _ _ _ rfl (λf hf=>by obtain rfl:=yZ.1 hf;rfl) λj a b ha hb=>?_
 match j,ha,hb with
 | 0,ha,hb=>
  cases ha;cases hb;refine .agg _ _ rfl λj a b ha hb=>?_
  match j,ha,hb with
  | 0,ha,hb=>cases ha;cases hb;exact .refl _
  | 1,ha,hb=>
   cases ha;cases hb;by_cases h:q.frees=[]
   .rw[zY h];unfold s15;simp only[h,yU];exact .nil _
   .rw[zK h];exact .refl _
theorem rS12 (q:QeaT) (hf:q.frees.length<=1000):PQ G 32 [qeaV q] (.seq 2 [s35 q]):=by
 refine pp15 λΦ h=>?_;unfold cp17;simp -implicitDefEqProofs only[go_sem,qeaV,d_,q_,f_,s_,s10,n_,t_,zQ];refine al_ (λn st=>∃(i:Nat) (m:List Val),i+n=q.frees.length∧m=(q.frees.take i).map (·.init)∧m.length=i∧((i=0∧st=⟨28,[(1,.ref 1 0 0),(3,.ref 3 0 0),(4,iv i)],[(1,⟨false,30,9,[qeaV q]⟩),(2,⟨true,178,2,[]⟩),(3,⟨false,178,2,[.agg [iv q.start,.nils]]⟩)]⟩)∨(0<i∧st=⟨28,[(1,.ref 1 0 0),(3,.ref 3 0 0),(4,iv i)],[(1,⟨false,30,9,[qeaV q]⟩),(2,⟨true,178,2,[]⟩),(3,⟨false,178,2,[.agg [iv q.start,.arr 24 0 m.length]]⟩),(24,⟨true,48,4,m.map valV⟩)]⟩))) q.frees.length ⟨0,[],by simp,rfl,rfl,.inl ⟨rfl,by simp [qeaV,d_,q_,f_,s_,s10,n_,t_];rfl⟩⟩ ?_;rintro I hI n st ⟨i,m,hi,hm,hml,⟨h0,rfl⟩ | ⟨h0,rfl⟩⟩
 .subst h0;obtain rfl:m=[]:=yT hml;simp -implicitDefEqProofs only[go_sem,qeaV,d_,q_,f_,s_,s10,n_,t_,zQ];refine⟨λhlt=>?_,λhge=>?_⟩
  .have hlt':0<q.frees.length:=by omega
   obtain⟨f,hf',_⟩:=as10 hlt';have hw:=ws_ hlt';have hnx:=is10 hf';obtain⟨nm,v⟩:=f;obtain⟨a,b,c,d⟩:=v
   repeat' (first|simp -implicitDefEqProofs only[go_sem,qeaV,d_,q_,f_,s_,s10,n_,t_,am_ hf',f10,hw,zQ]|apply ai__<;>intro hb)
   refine aa_ (n - 1) (by omega) (hI _ _ ⟨1,[⟨a,b,c,d⟩],by omega,hnx.symm,rfl,.inr ⟨by decide,?_⟩⟩);simp [valV,qeaV,d_,q_,f_,s_,s10,n_,t_]
  .have e:s35 q= .agg [iv q.start,.nils]:=by
    unfold s35;rw[zY (yT (by omega))]
   rw[e] at h
   repeat' (first|simp -implicitDefEqProofs only[go_sem,qeaV,d_,q_,f_,s_,s10,n_,t_]|apply ai__<;>intro hb)
   exact hq_ h
 .have hb1:(m.length+1)*40<=140737488355328:=by omega
  simp -implicitDefEqProofs only[go_sem,qeaV,d_,q_,f_,s_,s10,n_,t_,zQ];refine⟨λhlt=>?_,λhge=>?_⟩
  .have hlt':i<q.frees.length:=by omega
   obtain⟨f,hf',_⟩:=as10 hlt';have hw:=ws_ hlt';have hnx:=is10 hf';rw[<-hm] at hnx;obtain⟨nm,v⟩:=f;obtain⟨a,b,c,d⟩:=v
   repeat' (first|simp -implicitDefEqProofs only[go_sem,qeaV,d_,q_,f_,s_,s10,n_,t_,am_ hf',f10,hw,zQ,zL,hb1]|apply ai__<;>intro hb)
   refine aa_ (n - 1) (by omega) (hI _ _ ⟨i+1,m++[⟨a,b,c,d⟩],by omega,hnx.symm,by simp [hml],.inr ⟨by omega,?_⟩⟩);simp [valV,qeaV,d_,q_,f_,s_,s10,n_,t_]
  .have e:s35 q= .agg [iv q.start,.seq 4 (m.map valV)]:=by
    unfold s35;rw[hm,zT (by omega),zK (λe=>by rw[e] at hi;simp at hi;omega)]
   rw[e] at h;have htk:List.take m.length (m.map valV)=m.map valV:=zT (by simp)
   repeat' (first|simp -implicitDefEqProofs only[go_sem,qeaV,d_,q_,f_,s_,s10,n_,t_,zN,htk]|apply ai__<;>intro hb)
   exact hq_ h
theorem da_ {α:Type} {l:List α} {i:Nat} {x:α} (hx:l[i]?=some x):l.drop i=x::l.drop (i+1):=by obtain⟨h1,rfl⟩:=zX.1 hx;exact xU h1
theorem rA11 (q:QeaT) (l:List CfgT) (hl:l.length<=1000000) (hs:∀c∈l,0<=c.state∧c.state<q.states.length):PQ G 145 [qeaV q,c11 l] (.bool (l.any (accR q))):=by
 refine pp12 λΦ h=>?_;unfold cp13;generalize hv:l.any (accR q)=v at*;simp -implicitDefEqProofs only[go_sem,c11,qeaV,d_,q_,f_,s_,s10,n_,t_];refine al_ (λn st=>∃i:Nat,i+n=l.length∧st=⟨22,[(1,.seq 2 (l.map cfgV)),(2,.ref 2 0 0),(5,iv i)],[(2,⟨false,30,9,[qeaV q]⟩)]⟩∧(l.drop i).any (accR q)=v) l.length ⟨0,by simp,by simp [qeaV,d_,q_,f_,s_,s10,n_,t_];rfl,hv⟩ ?_;rintro I hI n st ⟨i,hi,rfl,hva⟩;simp -implicitDefEqProofs only[go_sem,qeaV,d_,q_,f_,s_,s10,n_,t_,zQ];refine⟨λhlt=>?_,λhge=>?_⟩
 .have hlt':i<l.length:=by omega
  obtain⟨c,hc,hcm⟩:=as10 hlt';have hw:=ws_ hlt';obtain⟨h0,h1⟩:=hs c hcm;rw[da_ hc,List.any_cons] at hva;obtain⟨x,vs⟩:=c;simp only at h0 h1;obtain⟨k,rfl⟩:=zA h0;obtain⟨s,hsk,_⟩:=as10 (l:=q.states) (i:=k) (by omega);have ha:accR q ⟨k,vs⟩=s.accept:=by unfold accR at?;simp only;rw[zY h0,zP,hsk]
  rw[ha] at hva;clear ha;obtain⟨nm,s1,s2⟩:=s;simp only at hva;cases s2
  .rw[tE] at hva
   repeat' (first|simp -implicitDefEqProofs only[go_sem,qeaV,d_,q_,f_,s_,s10,n_,t_,am_ hc,am_ hsk,cfgV,s14,hw]|apply ai__<;>intro hb)
   exact aa_ (n - 1) (by omega) (hI _ _ ⟨i+1,by omega,rfl,hva⟩)
  .rw[Bool.true_or] at hva;subst hva
   repeat' (first|simp -implicitDefEqProofs only[go_sem,qeaV,d_,q_,f_,s_,s10,n_,t_,am_ hc,am_ hsk,cfgV,s14,hw]|apply ai__<;>intro hb)
   exact hq_ h
 .rw[yL (by omega)] at hva;simp only[List.any_nil] at hva;subst hva
  repeat' (first|simp -implicitDefEqProofs only[go_sem]|apply ai__<;>intro hb)
  exact hq_ h
theorem wt_ {st:St} {i:Nat} {b:Box} (hi:hget st.heap i=some b) (hrow:b.row=true):Weak st (st.thaw1 i):=λ_ _ _ _ ⟨nm,_,h⟩=>⟨nm,_,h.thaw1 hi hrow⟩
theorem tk_ {s:Str} (h:(t46 s).2=0):(t46 s).1.kind=2:=by
 unfold t46 at*;split at h
 .simp at h
 .rename_i h1;rw[zK h1]
theorem ok_ {op:Int} {a b:Val} (h:(opR op a b).2=0):(opR op a b).1.kind=o11 op a.kind b.kind:=by
 have hk0:¬o11 op a.kind b.kind=0:=λe=>by
  unfold opR at h;split at h
  .simp at h
  .first | (rw[zY e] at h;simp at h;done) | (simp at h;done)
 have hop:¬(op<4∨16<op):=λe=>by unfold opR at h;rw[zY e] at h;simp at h
 have hcase:op=4∨op=5∨op=6∨op=7∨op=8∨op=9∨op=10∨op=11∨op=12∨op=13∨op=14∨op=15∨op=16:=by omega
 unfold opR at h ⊢;rw[zK hop,zK hk0] at h ⊢;have num:∀(r:Int×Int),(if r.2=0 then ((⟨1,r.1,[],false⟩:Val),(0:Int)) else (v0,r.2)).2=0->(if r.2=0 then ((⟨1,r.1,[],false⟩:Val),(0:Int)) else (v0,r.2)).1.kind=1:=λr hr=>by
  by_cases h0:r.2=0
  .rw[zY h0]
  .rw[zK h0] at hr;exact absurd hr h0
 unfold o11 at hk0 ⊢;rcases hcase with rfl | rfl | rfl | rfl | rfl | rfl | rfl | rfl | rfl | rfl | rfl | rfl | rfl
 all_goals simp at hk0 h ⊢
 .exact hk0
 .split at h
  .omega
  .rw[zK (by omega)];rw[num _ h,zY hk0]
 .simp [hk0]
 .simp [hk0]
 .rw[zY (show (a.kind=1∨a.kind=2)∧b.kind=a.kind from ⟨hk0.1,hk0.2.1⟩)];split at h
  .rename_i h2;rw[zY h2,tk_ h,h2]
  .rename_i h2;rw[zK h2,num _ h];omega
 .rw[zK (by omega)] at h ⊢;rw[num _ h,zY ⟨hk0.1,hk0.2.1⟩];omega
 .rw[zK (by omega)] at h ⊢;rw[num _ h,zY ⟨hk0.1,hk0.2.1⟩];omega
 .rw[zK (by omega)] at h ⊢;rw[num _ h,zY ⟨hk0.1,hk0.2.1⟩];omega
 .rw[zK (by omega)] at h ⊢;rw[num _ h,zY ⟨hk0.1,hk0.2.1⟩];omega
 .simp [hk0]
 .simp [hk0]
 .simp [hk0]
 .simp [hk0]
theorem ek10 {q:QeaT} {b:List SlotT} {vals:List Val} (hf:f21 vals q.frees=true):∀(i:Nat) (e:ExT),(e11 q)[i]?=some e->¬e.kind=0->(ev q b vals i).2=0->(ev q b vals i).1.kind=e.kind:=by
 intro i
 induction i using Nat.strongRecOn with
 | _ i ih=>
  intro e he hk h0;have hlen:=el_ q q.nodes.length (zN _);have hi:i<q.nodes.length:=by have:=(zX.1 he).1;unfold e11 at this;omega
  obtain⟨x,hx,hm⟩:=as10 hi;have hel:=el_ q i (by omega);unfold e11 at he;rw[eg_ hx _ hi (zN _)] at he;simp only[zZ] at he;subst he;have sub:∀(j:Nat) c,(exL q i)[j]?=some c->j<i∧(e11 q)[j]?=some c:=λj c h=>⟨by have:=(zX.1 h).1;omega,ep12 (by omega) h⟩;rw[ev_at hx] at h0 ⊢;unfold e14 at hk ⊢;unfold evN at h0 ⊢;cases hleaf:l_ q i x with
  | some e=>
   unfold l_ at hleaf;by_cases h1:x.op=1
   .rw[zY h1] at hleaf;rw[zY h1];split at hleaf
    .cases hleaf;rfl
    .cases hleaf
   rw[zK h1] at hleaf h0 ⊢;by_cases h2:x.op=2
   .rw[zY h2] at hleaf h0 ⊢;split at hleaf
    .obtain⟨y,hy,rfl⟩:=zH.1 hleaf;rw[hy] at h0 ⊢;dsimp only at h0 ⊢;unfold q14 at h0 ⊢;split at h0
     .rename_i hg;rw[zY hg];exact hg.2
     .simp at h0
    .cases hleaf
   rw[zK h2] at hleaf h0 ⊢;by_cases h3:x.op=3
   .rw[zY h3] at hleaf h0 ⊢;split at hleaf
    .obtain⟨y,hy,rfl⟩:=zH.1 hleaf;obtain⟨f1,f2⟩:=fa_ hf;obtain⟨j,hj,hyj⟩:=at?_some hy;obtain⟨v,hv,_⟩:=as10 (l:=vals) (i:=j) (by have:=(zX.1 hyj).1;omega);rw[hj,at?_nat hv] at h0 ⊢;exact (f2 j v y hv hyj).2
    .cases hleaf
   rw[zK h3] at hleaf;cases hleaf
  | none=>
   rw[hleaf] at hk;dsimp only at hk ⊢;split at hk
   .exact absurd rfl hk
   rename_i hop;rw[zK hop];have hop4:4<=x.op∧x.op<=16:=by
    constructor
    .by_cases h:4<=x.op
     .exact h
     .exact absurd (.inl (by omega)) hop
    .by_cases h:x.op<=16
     .exact h
     .exact absurd (.inr (.inl (by omega))) hop
   rw[zK (by omega),zK (by omega),zK (by omega)] at h0 ⊢;cases hb:at? (exL q i) ((i:Int) - 1) with
   | none=>rw[hb] at hk;exact absurd rfl hk
   | some bb=>
    rw[hb] at hk;dsimp only at hk ⊢;obtain⟨j,hj,hbj⟩:=at?_some hb;obtain⟨hji,hbe⟩:=sub j bb hbj;split at hk
    .exact absurd rfl hk
    rename_i hbk;rw[zK hbk];have ihj:=ih j hji bb hbe hbk;split at hk
    .rename_i h5;rw[zY h5];split at hk
     .rename_i hc;rw[zY hc];have hxa:x.a=j:=by omega
      rw[hxa] at h0 ⊢;simp only[zP,zY hji] at h0 ⊢;unfold evOp at h0 ⊢;by_cases hr:(ev q b vals j).2=0
      .rw[zK (by simpa using hr),zY h5] at h0 ⊢;rw[ok_ h0,ihj hr];dsimp only;have:x.op=4∨x.op=5:=by omega
       rcases this with e | e <;> rw[e] <;> simp [o11]
      .rw[zY hr] at h0;exact absurd h0 hr
     .exact absurd rfl hk
    .rename_i h5;rw[zK h5];split at hk
     .rename_i hc;rw[zY hc];cases ha:at? (exL q i) x.a with
      | none=>rw[ha] at hk;exact absurd rfl hk
      | some aa=>
       rw[ha] at hk;dsimp only at hk ⊢;split at hk
       .exact absurd rfl hk
       rename_i hak;rw[zK hak];obtain⟨k,hxk,hak'⟩:=at?_some ha;obtain⟨hki,hae⟩:=sub k aa hak';have ihk:=ih k hki aa hae hak;have hxb:x.b=j:=by omega
       rw[hxk,hxb] at h0 ⊢;simp only[zP,zY hji,zY hki] at h0 ⊢;unfold evOp at h0 ⊢;by_cases hr:(ev q b vals k).2=0
       .rw[zK (by simpa using hr),zK h5] at h0 ⊢;by_cases hs:(x.op=6∧(ev q b vals k).1.bool=false)∨(x.op=7∧(ev q b vals k).1.bool=true)
        .rw[zY hs] at h0 ⊢;dsimp only at hk ⊢;rw[ihk hr];have:x.op=6∨x.op=7:=by omega
         unfold o11 at hk ⊢;rcases this with e | e <;> (rw[e] at hk ⊢;simp at hk ⊢;simp [hk])
        .rw[zK hs] at h0 ⊢;by_cases hs2:(ev q b vals j).2=0
         .rw[zK (by simpa using hs2)] at h0 ⊢;rw[ok_ h0,ihk hr,ihj hs2]
         .rw[zY hs2] at h0;exact absurd h0 hs2
       .rw[zY hr] at h0;exact absurd h0 hr
     .exact absurd rfl hk
theorem wk10 {q:QeaT} {a r k:Int} (h:w_ (e11 q) a r k=true):∃(i:Nat) (e:ExT),r=i∧(e11 q)[i]?=some e∧e.kind=k∧¬e.kind=0:=by
 unfold w_ at h;split at h
 .cases h
 .rename_i e he;obtain⟨i,hi,hei⟩:=at?_some he;simp only[zJ,zB,yX,xC,sZ,zW] at h;exact⟨i,e,hi,hei,h.2.1,by rw[h.2.1];exact h.2.2.1⟩
section
variable {α:Type} [DecidableEq α]
end
structure TO {α:Type} (lt:α->α->Bool) (ok:α->Prop):Prop where
 irr:∀a,lt a a=false
 trans:∀{a b c},lt a b=true->lt b c=true->lt a c=true
 tot:∀{a b},ok a->ok b->a≠b->lt a b=true∨lt b a=true
section
variable {α:Type} {lt:α->α->Bool} {ok:α->Prop}
theorem TO.asy (T:TO lt ok) {a b:α} (h:lt a b=true):lt b a=false:=by
 cases h2:lt b a with
 | false=>rfl
 | true=>
  have:=T.trans h h2;rw[T.irr] at this;cases this
theorem TO.strict_ext (T:TO lt ok):∀{l k:List α},l.Pairwise (λa b=>lt a b=true)->k.Pairwise (λa b=>lt a b=true)->(∀x,x∈l↔x∈k)->l=k
 | [],[],_,_,_ =>rfl
 | [],y::k,_,_,h=>by have:=(h y).2 (by simp);cases this
 | x::l,[],_,_,h=>by have:=(h x).1 (by simp);cases this
 | x::l,y::k,hl,hk,h=>by
  rw[tH] at hl hk;have hxy:x=y:=by
   rcases yV.1 ((h x).1 (by simp)) with e | e
   .exact e
   .rcases yV.1 ((h y).2 (by simp)) with e2 | e2
    .exact e2.symm
    .have h1:=hk.1 x e;have h2:=hl.1 y e2;rw[T.asy h1] at h2;cases h2
  subst hxy;rw[T.strict_ext hl.2 hk.2 λz=>?_];constructor
  .intro hz;rcases yV.1 ((h z).1 (by simp [hz])) with e | e
   .subst e;have:=hl.1 z hz;rw[T.irr] at this;cases this
   .exact e
  .intro hz;rcases yV.1 ((h z).2 (by simp [hz])) with e | e
   .subst e;have:=hk.1 z hz;rw[T.irr] at this;cases this
   .exact e
def goO (lt:α->α->Bool) (b:α) (l:List α):Nat->Nat
 | 0=>0
 | n+1=>match l[n]? with | some x=>if lt b x then goO lt b l n else n+1 | none=>n+1
theorem gl_ (lt:α->α->Bool) (b:α) (l:List α):∀n,goO lt b l n<=n
 | 0=>zN _
 | n+1=>by
  rw[goO];split
  .split
   .exact Nat.le_succ_of_le (gl_ lt b l n)
   .exact zN _
  .exact zN _
theorem gs_ {b:α} {l:List α}:∀(n:Nat),n<=l.length->(∀j x,goO lt b l n<=j->j<n->l[j]?=some x->lt b x=true)∧(∀j x,j+1=goO lt b l n->l[j]?=some x->lt b x=false)
 | 0,_ =>⟨λj x _ h=>by omega,λj x h=>by simp [goO] at h⟩
 | n+1,hn=>by
  obtain⟨y,hy,_⟩:=as10 (l:=l) (i:=n) (by omega);have he:goO lt b l (n+1)=if lt b y then goO lt b l n else n+1:=by rw[goO,hy]
  cases h:lt b y with
  | true=>
   rw[he,h,zY rfl];obtain⟨h1,h2⟩:=gs_ (b:=b) (l:=l) n (by omega);refine⟨λj x hj hjn hx=>?_,h2⟩;by_cases e:j=n
   .subst e;rw[hy] at hx;cases hx;exact h
   .exact h1 j x hj (by omega) hx
  | false=>
   rw[he,h,zK (by simp)];refine⟨λj x hj hjn=>by omega,λj x hj hx=>?_⟩;have:j=n:=by omega
   subst this;rw[hy] at hx;cases hx;exact h
def isO (lt:α->α->Bool) (l:List α) (c:α):Nat->Bool
 | 0=>false
 | n+1=>match l[n]? with
  | some x=>!lt x c&& !lt c x
  | none=>false
def putO (lt:α->α->Bool) (l:List α) (c:α):List α:=if isO lt l c (goO lt c l l.length)=true then l else l.take (goO lt c l l.length)++c::l.drop (goO lt c l l.length)
theorem pm13 {l:List α} {c x:α} (h:x∈putO lt l c):x∈l∨x=c:=by
 unfold putO at h;split at h
 .exact .inl h
 .simp only[yB,yV] at h;rcases h with h | h | h
  .exact .inl (wG h)
  .exact .inr h
  .exact .inl (vJ h)
theorem TO.isO_eq [DecidableEq α] (T:TO lt ok) {l:List α} {c:α} {n:Nat} (hl:∀x∈l,ok x) (hc:ok c) (h:isO lt l c n=true):c∈l:=by
 cases n with
 | zero=>cases h
 | succ n=>
  rw[isO] at h;split at h
  .rename_i x hx;have hm:x∈l:=zG hx;by_cases e:x=c
   .rw[<-e];exact hm
   .simp only[zJ,yX] at h;rcases T.tot (hl x hm) hc e with h3 | h3
    .rw[h.1] at h3;cases h3
    .rw[h.2] at h3;cases h3
  .cases h
theorem TO.putO_strict [DecidableEq α] (T:TO lt ok) {l:List α} {b:α} (hok:∀x∈l,ok x) (okb:ok b) (h:l.Pairwise λa b=>lt a b=true):(putO lt l b).Pairwise (λa b=>lt a b=true)∧∀x,x∈putO lt l b↔x∈l∨x=b:=by
 have hsub:∀{x},x∈putO lt l b->x∈l∨x=b:=pm13;obtain⟨h1,h2⟩:=gs_ (lt:=lt) (b:=b) (l:=l) l.length (zN _);have hle:=gl_ lt b l l.length;unfold putO at hsub ⊢;by_cases his:isO lt l b (goO lt b l l.length)=true
 .rw[zY his];exact⟨h,λx=>⟨.inl,λh2=>h2.elim id λe=>e ▸ T.isO_eq hok okb his⟩⟩
 .rw[zK his] at hsub ⊢;have hne:∀z,l[goO lt b l l.length - 1]?=some z->0<goO lt b l l.length->z≠b:=λz hz h0 e=>by
   apply his;obtain⟨k,hk⟩:∃k,goO lt b l l.length=k+1:=⟨goO lt b l l.length - 1,by omega⟩;rw[hk] at hz ⊢;rw[isO];simp only[Nat.add_sub_cancel] at hz;rw[hz];subst e;simp [T.irr]
  generalize goO lt b l l.length=g at*;have hd:∀y∈l.drop g,lt b y=true:=λy hy=>by obtain⟨j,hj⟩:=zM hy;rw[xX] at hj;exact h1 (g+j) y (by omega) (zX.1 hj).1 hj
  have ht:∀y∈l.take g,lt y b=true:=λy hy=>by
   obtain⟨j,hj⟩:=zM hy;rw[yN] at hj;split at hj
   .rename_i hjg;obtain⟨z,hz,hzm⟩:=as10 (l:=l) (i:=g - 1) (by omega);have hzb:=h2 (g - 1) z (by omega) hz;have hzb2:lt z b=true:=by
     rcases T.tot (hok z hzm) okb (hne z hz (by omega)) with h3 | h3
     .exact h3
     .rw[hzb] at h3;cases h3
    by_cases e:j=g - 1
    .subst e;rw[hz] at hj;cases hj;exact hzb2
    .obtain⟨a1,a2⟩:=zX.1 hj;obtain⟨b1,b2⟩:=zX.1 hz;have:=(wO.1 h) j (g - 1) a1 b1 (by omega);rw[a2,b2] at this;exact T.trans this hzb2
   .cases hj
  refine⟨?_,λx=>⟨hsub,λhx=>?_⟩⟩
  .rw[List.pairwise_append,tH];refine⟨h.sublist (List.take_sublist _ _),⟨hd,h.sublist (List.drop_sublist _ _)⟩,λa ha c hc=>?_⟩;rcases yV.1 hc with e | e
   .rw[e];exact ht a ha
   .exact T.trans (ht a ha) (hd c e)
  .have e:x∈l↔x∈l.take g∨x∈l.drop g:=by rw[<-yB,vS]
   rw[yB,yV];rcases hx with hx | hx
   .rcases e.1 hx with hx | hx
    .exact .inl hx
    .exact .inr (.inr hx)
   .exact .inr (.inl hx)
theorem TO.puts_strict [DecidableEq α] (T:TO lt ok):∀(m w:List α),(∀x∈m,ok x)->(∀x∈w,ok x)->w.Pairwise (λa b=>lt a b=true)->(m.foldl (putO lt) w).Pairwise (λa b=>lt a b=true)∧∀x,x∈m.foldl (putO lt) w↔x∈w∨x∈m
 | [],w,_,_,h=>⟨h,λx=>by simp⟩
 | b::m,w,hm,hw,h=>by obtain⟨p1,p2⟩:=T.putO_strict hw (hm b (by simp)) h;obtain⟨h1,h2⟩:=T.puts_strict m (putO lt w b) (λx hx=>hm x (by simp [hx])) (λx hx=>((p2 x).1 hx).elim (hw x) λe=>e ▸ hm b (by simp)) p1;refine⟨h1,λx=>?_⟩;rw[zO,h2,p2,yV];exact⟨λh=>h.elim (λh=>h.elim .inl λh=>.inr (.inl h)) λh=>.inr (.inr h),λh=>h.elim (λh=>.inl (.inl h)) λh=>h.elim (λh=>.inl (.inr h)) .inr⟩
end
def u11 (a b:List SlotT) (v:Nat):List SlotT:=if (getR a v).2 then [⟨v,(getR a v).1⟩] else if (getR b v).2 then [⟨v,(getR b v).1⟩] else []
def u15 (a b:List SlotT):List SlotT:=(List.range 8).flatMap (u11 a b)
def u13 (a b:List SlotT) (n:Nat):List SlotT:=(List.range n).flatMap (u11 a b)
theorem us_ (a b:List SlotT) (n:Nat):u13 a b (n+1)=u13 a b n++u11 a b n:=by simp [u13,tF]
theorem ul_ (a b:List SlotT) (v:Nat):(u11 a b v).length<=1:=by
 unfold u11;split
 .simp
 .split <;> simp
theorem ul10 (a b:List SlotT):∀n,(u13 a b n).length<=n
 | 0=>by simp [u13]
 | n+1=>by have h1:=ul10 a b n;have h2:=ul_ a b n;rw[us_,zL];omega
theorem rU10 (a b:List SlotT) (ha:a.length<9223372036854775807) (hb:b.length<9223372036854775807):PQ G 222 [s11 a,s11 b] (s11 (u15 a b)):=by
 refine pp23 λΦ h=>?_;unfold cp25;simp -implicitDefEqProofs only[go_sem,s11];refine al_ (λn st=>∃(i:Nat) (m:List SlotT),i+n=8∧st=⟨42,[(0,.seq 5 (a.map s19)),(1,.seq 5 (b.map s19)),(5,.arr 5 0 m.length),(6,iv i)],[(4,⟨true,174,5,[]⟩),(5,⟨true,174,5,m.map s19⟩)]⟩∧m=u13 a b i) 8 ⟨0,[],by simp,rfl,rfl⟩ ?_;rintro I hI n st ⟨i,m,hi,rfl,hm⟩;have hml:m.length<=8:=by have:=ul10 a b i;rw[hm];omega
 simp -implicitDefEqProofs only[go_sem];refine⟨λhlt=>?_,λhge=>?_⟩
 .have hlt':i<8:=by omega
  have hw:=ws_ hlt';have h1:=rGp_ (G:=G) a ha i;have h2:=rGp_ (G:=G) b hb i;have hnx:=us_ a b i;rw[<-hm] at hnx;unfold u11 at hnx;have hb1:(m.length+1)*48<=140737488355328:=by omega
  generalize getR a i=x at*;generalize getR b i=y at*;obtain⟨⟨k1,n1,s1,t1⟩,o1⟩:=x;obtain⟨⟨k2,n2,s2,t2⟩,o2⟩:=y;simp only[s11,vbt,valV] at h1 h2;cases o1
  .cases o2
   .simp only[zF,yI,xT] at hnx
    repeat' (first|simp -implicitDefEqProofs only[go_sem,hw]|apply ai__<;>intro hb|refine ac_ h1 rfl rfl ?_|refine ac_ h2 rfl rfl ?_|fail)
    exact aa_ (n - 1) (by omega) (hI _ _ ⟨i+1,m,by omega,rfl,hnx.symm⟩)
   .simp only[zF,yI,xW] at hnx
    repeat' (first|simp -implicitDefEqProofs only[go_sem,hw,zQ,zL,hb1]|apply ai__<;>intro hb|refine ac_ h1 rfl rfl ?_|refine ac_ h2 rfl rfl ?_|fail)
    refine aa_ (n - 1) (by omega) (hI _ _ ⟨i+1,m++[⟨i,⟨k2,n2,s2,t2⟩⟩],by omega,?_,hnx.symm⟩);simp [s19]
  .simp only[xW] at hnx
   repeat' (first|simp -implicitDefEqProofs only[go_sem,hw,zQ,zL,hb1]|apply ai__<;>intro hb|refine ac_ h1 rfl rfl ?_|refine ac_ h2 rfl rfl ?_|fail)
   refine aa_ (n - 1) (by omega) (hI _ _ ⟨i+1,m++[⟨i,⟨k1,n1,s1,t1⟩⟩],by omega,?_,hnx.symm⟩);simp [s19]
 .have:i=8:=by omega
  subst this;have hm:m=u15 a b:=hm;subst hm
  repeat' (first|simp -implicitDefEqProofs only[go_sem]|apply ai__<;>intro hb)
  exact h _ ⟨_,_,rfl,vm_ (ty:=174) (e:=s19) (by decide) (by simp [hget]) rfl,.refl _⟩
open Go.Shelf
attribute [local go_sem] Oper.semAt_some
def u12 (b:List SlotT) (s:SlotT):Bool:=(getR b s.var).2&&decide ((getR b s.var).1=s.value)
def u10 (a b:List SlotT):Bool:=a.all (u12 b)
attribute [local go_sem] Oper.semAt_some
def f22 (b:List SlotT) (s:SlotT):Bool:=!(getR b s.var).2||decide ((getR b s.var).1=s.value)
def f27 (a b:List SlotT):Bool:=a.all (f22 b)
theorem rU11 (a b:List SlotT) (ha:a.length<9223372036854775807) (hb:b.length<9223372036854775807):PQ G 217 [s11 a,s11 b] (.bool (u10 a b)):=by
 refine pp24 λΦ h=>?_;unfold cp26;have fin:∀β heap,β=u10 a b->Φ ⟨35,[(4,.bool β)],heap⟩:=λβ heap e=>h _ ⟨_,_,rfl,rfl,fitB e⟩;clear h;simp -implicitDefEqProofs only[go_sem,s11,zQ];refine al_ (λn st=>∃i:Nat,i+n=a.length∧st=⟨35,[(0,.seq 5 (a.map s19)),(1,.seq 5 (b.map s19)),(5,iv i)],[]⟩∧∀j x,j<i->a[j]?=some x->u12 b x=true) a.length ⟨0,by simp,rfl,λj x hj=>by omega⟩ ?_;rintro I hI n st ⟨i,hi,rfl,hno⟩;simp -implicitDefEqProofs only[go_sem,zQ];refine⟨λhlt=>?_,λhge=>?_⟩
 .have hlt':i<a.length:=by omega
  obtain⟨x,hx,hxm⟩:=as10 hlt';have hw:=ws_ hlt';have hc:=rGp_ (G:=G) b hb x.var;have hnext:u12 b x=true->a13 I n ⟨35,[(0,.seq 5 (a.map s19)),(1,.seq 5 (b.map s19)),(5,iv (i+1:Nat))],[]⟩:=λhv=>aa_ (n - 1) (by omega) (hI _ _ ⟨i+1,by omega,rfl,λj y hj hy=>by
   by_cases e:j=i
   .subst e;rw[hx] at hy;cases hy;exact hv
   .exact hno j y (by omega) hy⟩)
  have hbad:u12 b x=false->false=u10 a b:=λhv=>by symm;unfold u10;rw[List.all_eq_false];exact⟨x,hxm,by rw[hv];simp⟩
  unfold u12 at hnext hbad;generalize u10 a b=U at*;generalize getR b x.var=r at*;clear hno hI hxm;obtain⟨v1,⟨k1,n1,s1,t1⟩⟩:=x;obtain⟨⟨k2,n2,s2,t2⟩,o2⟩:=r;simp only[s11,vbt,valV] at hc hnext hbad;cases o2
  .have hb':=fin false;rw[yM] at hbad
   repeat' (first|simp -implicitDefEqProofs only[go_sem,am_ hx,s19,valV,hw]|apply ai__<;>intro hb|refine ac_ hc rfl rfl ?_|fail)
   exact fin _ _ (hbad rfl)
  .have hxy:((⟨k2,n2,s2,t2⟩:Val)==⟨k1,n1,s1,t1⟩)=(k2==k1&&(n2==n1&&(s2==s1&&t2==t1))):=vb_ _ _ _ _ _ _ _ _;cases hE:((⟨k2,n2,s2,t2⟩:Val)==⟨k1,n1,s1,t1⟩) with
   | true=>
    rw[hE] at hxy;have:=hnext (by simpa using hE)
    repeat' (first|simp -implicitDefEqProofs only[go_sem,am_ hx,s19,valV,hw,aeqA,aeqs,l10,andO,wX,<-hxy,wM]|apply ai__<;>intro hb|refine ac_ hc rfl rfl ?_|fail)
    exact this
   | false=>
    rw[hE] at hxy;have:=hbad (by simpa using hE)
    repeat' (first|simp -implicitDefEqProofs only[go_sem,am_ hx,s19,valV,hw,aeqA,aeqs,l10,andO,wX,<-hxy,vX]|apply ai__<;>intro hb|refine ac_ hc rfl rfl ?_|fail)
    exact fin _ _ this
 .repeat' (first|simp -implicitDefEqProofs only[go_sem]|apply ai__<;>intro hb)
  refine fin _ _ ?_;symm;unfold u10;rw[xQ];intro x hx;obtain⟨j,hj⟩:=zM hx;exact hno j x (by have:=(zX.1 hj).1;omega) hj
theorem rF10 (a b:List SlotT) (ha:a.length<9223372036854775807) (hb:b.length<9223372036854775807):PQ G 221 [s11 a,s11 b] (.bool (f27 a b)):=by
 refine pp34 λΦ h=>?_;unfold cp36;have fin:∀β heap,β=f27 a b->Φ ⟨34,[(4,.bool β)],heap⟩:=λβ heap e=>h _ ⟨_,_,rfl,rfl,fitB e⟩;clear h;simp -implicitDefEqProofs only[go_sem,s11,zQ];refine al_ (λn st=>∃i:Nat,i+n=a.length∧st=⟨34,[(0,.seq 5 (a.map s19)),(1,.seq 5 (b.map s19)),(5,iv i)],[]⟩∧∀j x,j<i->a[j]?=some x->f22 b x=true) a.length ⟨0,by simp,rfl,λj x hj=>by omega⟩ ?_;rintro I hI n st ⟨i,hi,rfl,hno⟩;simp -implicitDefEqProofs only[go_sem,zQ];refine⟨λhlt=>?_,λhge=>?_⟩
 .have hlt':i<a.length:=by omega
  obtain⟨x,hx,hxm⟩:=as10 hlt';have hw:=ws_ hlt';have hc:=rGp_ (G:=G) b hb x.var;have hnext:f22 b x=true->a13 I n ⟨34,[(0,.seq 5 (a.map s19)),(1,.seq 5 (b.map s19)),(5,iv (i+1:Nat))],[]⟩:=λhv=>aa_ (n - 1) (by omega) (hI _ _ ⟨i+1,by omega,rfl,λj y hj hy=>by
   by_cases e:j=i
   .subst e;rw[hx] at hy;cases hy;exact hv
   .exact hno j y (by omega) hy⟩)
  have hbad:f22 b x=false->false=f27 a b:=λhv=>by symm;unfold f27;rw[List.all_eq_false];exact⟨x,hxm,by rw[hv];simp⟩
  unfold f22 at hnext hbad;generalize f27 a b=U at*;generalize getR b x.var=r at*;clear hno hI hxm;obtain⟨v1,⟨k1,n1,s1,t1⟩⟩:=x;obtain⟨⟨k2,n2,s2,t2⟩,o2⟩:=r;simp only[s11,vbt,valV] at hc hnext hbad;cases o2
  .have:=hnext (by simp)
   repeat' (first|simp -implicitDefEqProofs only[go_sem,am_ hx,s19,valV,hw]|apply ai__<;>intro hb|refine ac_ hc rfl rfl ?_|fail)
   exact this
  .have hxy:((⟨k2,n2,s2,t2⟩:Val)==⟨k1,n1,s1,t1⟩)=(k2==k1&&(n2==n1&&(s2==s1&&t2==t1))):=vb_ _ _ _ _ _ _ _ _;cases hE:((⟨k2,n2,s2,t2⟩:Val)==⟨k1,n1,s1,t1⟩) with
   | true=>
    rw[hE] at hxy;have:=hnext (by simpa using hE)
    repeat' (first|simp -implicitDefEqProofs only[go_sem,am_ hx,s19,valV,hw,aeqA,aeqs,l10,andO,wX,<-hxy,wM]|apply ai__<;>intro hb|refine ac_ hc rfl rfl ?_|fail)
    exact this
   | false=>
    rw[hE] at hxy;have:=hbad (by simpa using hE)
    repeat' (first|simp -implicitDefEqProofs only[go_sem,am_ hx,s19,valV,hw,aeqA,aeqs,l10,andO,wX,<-hxy,vX]|apply ai__<;>intro hb|refine ac_ hc rfl rfl ?_|fail)
    exact fin _ _ this
 .repeat' (first|simp -implicitDefEqProofs only[go_sem]|apply ai__<;>intro hb)
  refine fin _ _ ?_;symm;unfold f27;rw[xQ];intro x hx;obtain⟨j,hj⟩:=zM hx;exact hno j x (by have:=(zX.1 hj).1;omega) hj
theorem bi_:∀(s:Str),Op.bytesLess s s=false
 | []=>by simp [Op.bytesLess]
 | c::s=>by rw[bs14];exact bi_ s
theorem bc_ (x y:UInt8) (s t:Str):Op.bytesLess (x::s) (y::t)=true↔x<y∨(x=y∧Op.bytesLess s t=true):=by
 by_cases h:x=y
 .subst h;rw[bs14];have:¬x<x:=by
   rw[UInt8.lt_iff_toNat_lt];omega
  simp [this]
 .rw[bl_ne h];simp [h]
theorem bt_:∀{s t u:Str},Op.bytesLess s t=true->Op.bytesLess t u=true->Op.bytesLess s u=true
 | [],[],_,h,_ =>by simp [Op.bytesLess] at h
 | [],_ ::_,[],_,h=>by simp [Op.bytesLess] at h
 | [],_ ::_,_ ::_,_,_ =>by simp [Op.bytesLess]
 | _ ::_,[],_,h,_ =>by simp [Op.bytesLess] at h
 | _ ::_,_ ::_,[],_,h=>by simp [Op.bytesLess] at h
 | x::s,y::t,z::u,h1,h2=>by
  rw[bc_] at h1 h2 ⊢;simp only[UInt8.lt_iff_toNat_lt] at*;rcases h1 with h1 | ⟨rfl,h1⟩ <;> rcases h2 with h2 | ⟨rfl,h2⟩
  .exact .inl (by omega)
  .exact .inl h1
  .exact .inl h2
  .exact .inr ⟨rfl,bt_ h1 h2⟩
theorem bt10:∀{s t:Str},s≠t->Op.bytesLess s t=true∨Op.bytesLess t s=true
 | [],[],h=>absurd rfl h
 | [],_ ::_,_ =>.inl (by simp [Op.bytesLess])
 | _ ::_,[],_ =>.inr (by simp [Op.bytesLess])
 | x::s,y::t,h=>by
  rw[bc_,bc_];simp only[UInt8.lt_iff_toNat_lt];by_cases e:x=y
  .subst e;rcases bt10 (s:=s) (t:=t) (λe=>h (by rw[e])) with h | h
   .exact .inl (.inr ⟨rfl,h⟩)
   .exact .inr (.inr ⟨rfl,h⟩)
  .have:x.toNat≠y.toNat:=λh=>e (UInt8.toNat_inj.1 h);rcases Nat.lt_or_gt_of_ne this with h | h
   .exact .inl (.inl h)
   .exact .inr (.inl h)
theorem li_ (a:Val):l11 a a=false:=by
 unfold l11;simp only[wF,yI];split
 .simp
 .split
  .exact bi_ _
  .cases a.bool <;> rfl
theorem lt10 {a b c:Val} (h1:l11 a b=true) (h2:l11 b c=true):l11 a c=true:=by
 unfold l11 at*;by_cases e1:a.kind=b.kind
 .by_cases e2:b.kind=c.kind
  .rw[zK (by simpa using e1)] at h1;rw[zK (by simpa using e2)] at h2;rw[zK (by simp [e1,e2])];rw[e1] at h1 ⊢;split at h1
   .rename_i hk;rw[zY hk] at h2 ⊢;simp only[zW] at*;omega
   .rename_i hk;rw[zK hk] at h2 ⊢;split at h1
    .rename_i hk2;rw[zY hk2] at h2 ⊢;exact bt_ h1 h2
    .rename_i hk2;rw[zK hk2] at h2 ⊢;simp only[zJ,yX] at*;rw[h1.2] at h2;cases h2.1
  .rw[zY e2] at h2;rw[zY (by rw[e1];exact e2),e1];exact h2
 .rw[zY e1] at h1;simp only[zW] at h1;by_cases e2:b.kind=c.kind
  .rw[zY (by rw[<-e2];exact e1),<-e2];simpa using h1
  .rw[zY e2] at h2;simp only[zW] at h2;rw[zY (by omega)];simp only[zW];omega
theorem lt_ {a b:Val} (ha:a.ok=true) (hb:b.ok=true) (h:a≠b):l11 a b=true∨l11 b a=true:=by
 obtain⟨k,n,s,t⟩:=a;obtain⟨k',n',s',t'⟩:=b;unfold l11;simp only;by_cases e:k=k'
 .subst e;simp only[wF,yI];unfold Val.ok at ha hb;simp only at ha hb;by_cases k1:k=1
  .rw[zY k1] at ha hb ⊢;rw[zY k1];simp only[zJ,zB,yX] at ha hb;have:n≠n':=λe=>h (by rw[e,ha.1,ha.2,hb.1,hb.2]);simp only[zW];omega
  .rw[zK k1] at ha hb ⊢;rw[zK k1];by_cases k2:k=2
   .rw[zY k2] at ha hb ⊢;rw[zY k2];simp only[zJ,zB,yX] at ha hb;exact bt10 λe=>h (by rw[e,ha.1,ha.2.1,hb.1,hb.2.1])
   .rw[zK k2] at ha hb ⊢;rw[zK k2];simp only[zJ,zB,zW] at ha hb;have:t≠t':=λe=>h (by rw[e,ha.2.1,ha.2.2,hb.2.1,hb.2.2]);cases t <;> cases t' <;> simp_all
 .rw[zY e,zY (λe'=>e e'.symm)];simp only[zW];omega
def okVs (l:List Val):Prop:=∀v∈l,v.ok=true
def o16 (c:CfgT):Prop:=okVs c.vals
def f12 (out:List Val) (s:SlotT):List Val:=if 0<=s.var∧s.var<out.length then out.set s.var.toNat s.value else out
def f15 (l:List SlotT) (out:List Val):List Val:=l.foldl f12 out
theorem fe11 {l:List SlotT} {i:Nat} {out:List Val} (h:l.length<=i):f15 (l.drop i) out=out:=by rw[yO h];rfl
theorem fg_ {l:List SlotT} {i:Nat} {out:List Val} {s:SlotT} (h:l[i]?=some s):f15 (l.drop (i+1)) (f12 out s)=f15 (l.drop i) out:=by rw[da10 h];rfl
theorem fi_ {out:List Val} {s:SlotT} {f:Nat} (h:s.var=f) (hf:f<out.length):f12 out s=out.set f s.value:=by unfold f12;rw[h,zY (by omega),zP]
theorem vr14 {H:List (Nat×Box)} {i n:Nat} {ty:Nat} {out:List Val} (hH:hget H i=some ⟨true,ty,4,out.map valV⟩) (hn:out.length=n):view H (.arr i 0 n)=some (v_ out):=by simp only[view,hH,xO,zQ,hn];simp [v_,<-hn];exact zT (by simp)
structure HitT where
 symbol:Int
 bind:List SlotT
 frees:List SlotT
deriving DecidableEq
def hitV (h:HitT):AV:=.agg [iv h.symbol,s11 h.bind,s11 h.frees]
def h14 (l:List HitT):AV:=.seq 3 (l.map hitV)
theorem fs18 {out:List Val} {l:List FreeT} {j:Nat} {f:FreeT} {v:Val} (h:f21 out l=true) (hf:l[j]?=some f) (hv:v.ok=true) (hk:v.kind=f.init.kind):f21 (out.set j v) l=true:=by
 obtain⟨h1,h2⟩:=fa_ h;refine ft10 (by simpa using h1) λi x g hx hg=>?_;rw[xP] at hx;unfold f24;split at hx
 .rename_i e;subst e;split at hx
  .cases hx;rw[hf] at hg;cases hg;simp [hv,hk]
  .cases hx
 .have:=h2 i x g hx hg;simp [this.1,this.2]
theorem is11 {out:List Val} {j:Nat} {v:Val} (h:∀x∈out,i64 x.int) (hv:i64 v.int):∀x∈out.set j v,i64 x.int:=λx hx=>by
 rcases tJ hx with h1 | h1
 .exact h x h1
 .rw[h1];exact hv
def F_ (q:QeaT) (s:SlotT):Prop:=∃(j:Nat) (f:FreeT),s.var=j∧q.frees[j]?=some f∧s.value.ok=true∧s.value.kind=f.init.kind
theorem fo_ {q:QeaT}:∀(l:List SlotT) (out:List Val),f21 out q.frees=true->(∀x∈out,i64 x.int)->(∀s∈l,F_ q s∧i64 s.value.int)->f21 (f15 l out) q.frees=true∧∀x∈f15 l out,i64 x.int
 | [],out,h1,h2,_ =>⟨h1,h2⟩
 | s::l,out,h1,h2,h3=>by
  obtain⟨⟨j,f,e,hf,hv,hk⟩,h64⟩:=h3 s (by simp);have hj:j<out.length:=by rw[(fa_ h1).1];exact (zX.1 hf).1
  have hst:f12 out s=out.set j s.value:=fi_ e hj;show f21 (f15 l (f12 out s)) q.frees=true∧∀x∈f15 l (f12 out s),i64 x.int;rw[hst];exact fo_ l _ (fs18 h1 hf hv hk) (is11 h2 h64) λs hs=>h3 s (by simp [hs])
structure HitT.Ok (q:QeaT) (h:HitT):Prop where
 bl:h.bind.length<=1000000
 fl:h.frees.length<=1000000
 bok:∀s∈h.bind,VOk s.value
 fok:∀s∈h.frees,F_ q s∧i64 s.value.int
structure CfgT.Ok (q:QeaT) (c:CfgT):Prop where
 right:cfgR q c=true
 n64:∀v∈c.vals,i64 v.int
theorem CfgT.Ok.st {q:QeaT} {c:CfgT} (h:c.Ok q):0<=c.state∧c.state<q.states.length∧f21 c.vals q.frees=true:=by have:=h.right;unfold cfgR at this;simp only[zJ,zW] at this;exact⟨this.1,this.2.1,this.2.2⟩
theorem CfgT.Ok.vok {q:QeaT} {c:CfgT} (h:c.Ok q):o16 c:=λv hv=>by obtain⟨j,hj⟩:=zM hv;obtain⟨a1,a2⟩:=fa_ h.st.2.2;obtain⟨f,hf,_⟩:=as10 (l:=q.frees) (i:=j) (by have:=(zX.1 hj).1;omega);exact (a2 j v f hj hf).1
theorem fv_ {vals:List Val} {l:List FreeT} (h:f21 vals l=true):∀v∈vals,v.ok=true:=λv hv=>by obtain⟨j,hj⟩:=zM hv;obtain⟨a1,a2⟩:=fa_ h;obtain⟨f,hf,_⟩:=as10 (l:=l) (i:=j) (by have:=(zX.1 hj).1;omega);exact (a2 j v f hj hf).1
def SetK (q:QeaT) (s:SetT):Prop:=∃(e f:Nat) (x:ExT) (fr:FreeT),s.expr=e∧s.free=f∧(e11 q)[e]?=some x∧¬x.kind=0∧q.frees[f]?=some fr∧x.kind=fr.init.kind
structure TransK (q:QeaT) (t:TransT):Prop where
 from0:0<=t.from_
 fromL:t.from_<q.states.length
 to0:0<=t.to_
 toL:t.to_<q.states.length
 sym0:0<=t.symbol
 symL:t.symbol<q.symbols.length
 guard:0<=t.guard->K_ q t.guard.toNat
 sets:∀s∈t.sets,SetK q s
structure QeaT.Good (q:QeaT):Prop where
 tk:∀t∈q.trans,TransK q t
 n64:∀x∈q.nodes,i64 x.value.int
 fl:q.frees.length<=1000
 sl:q.states.length<=1000
theorem eh10 {q:QeaT} {c:CfgT} {h:HitT} (hq:q.Good) (hc:c.Ok q) (hh:h.Ok q):f21 (f15 h.frees c.vals) q.frees=true∧Env q h.bind (f15 h.frees c.vals):=by obtain⟨h1,h2⟩:=fo_ h.frees c.vals hc.st.2.2 hc.n64 hh.fok;have hl:=(fa_ h1).1;exact⟨h1,⟨hh.bl,hh.bok,hl,λv hv=>⟨fv_ h1 v hv,h2 v hv⟩,by have:=hq.fl;omega⟩⟩
theorem t47 {q:QeaT} (h:r10 q=true) {t:TransT} (ht:t∈q.trans):TransK q t:=by
 have hg:=(to20 h ht).1;unfold r10 t26 at h;simp only[zJ] at h;obtain⟨a,j,hs⟩:=aa14 h.2.1.1 t ht;have hs:(t15 q t a).2=true:=hs;have rest:∀a1,(r16 q t a a1).2=true->∀s∈t.sets,SetK q s:=λa1 hr s hsm=>by
  unfold r16 at hr;dsimp only at hr;split at hr
  .rename_i hall;obtain⟨a2,k,hss⟩:=aa14 hall s hsm;unfold s12 at hss;split at hss
   .cases hss
   .rename_i f hf;obtain⟨m,hm,hfm⟩:=at?_some hf;split at hss
    .cases hss
    .split at hss
     .rename_i hw;obtain⟨e,x,he,hx,hk,hk0⟩:=wk10 hw;exact⟨e,m,x,f,he,hm,hx,hk0,hfm,hk⟩
     .cases hss
  .cases hr
 unfold t15 at hs;split at hs
 .cases hs
 .rename_i hin;simp only[Bool.and_eq_false_iff,not_or,vB] at hin;unfold inR at hin;simp only[zJ,zW] at hin;obtain⟨⟨a1,a2⟩,⟨b1,b2⟩,c1,c2⟩:=hin;refine⟨a1,a2,b1,b2,c1,c2,hg,?_⟩;split at hs
  .exact rest _ hs
  .split at hs
   .exact rest _ hs
   .cases hs
def e21 (e:Int):Prop:=e=3∨e=6∨e=7∨e=8∨e=9
theorem so18 {q:QeaT} {b:List SlotT} {vals:List Val} (hq:q.Good) (hf:f21 vals q.frees=true) (hE:Env q b vals):∀(l:List SetT),(∀s∈l,SetK q s)->∀out,f21 out q.frees=true->(∀v∈out,i64 v.int)->
  ((s25 q b vals l out).2=0∧f21 (s25 q b vals l out).1 q.frees=true∧∀v∈(s25 q b vals l out).1,i64 v.int)∨((s25 q b vals l out).1=[]∧e21 (s25 q b vals l out).2)
 | [],_,out,h1,h2=>.inl ⟨rfl,h1,h2⟩
 | s::l,hl,out,h1,h2=>by
  obtain⟨e,f,x,fr,he,hfr,hx,hk0,hfq,hk⟩:=hl s (by simp);have hok:=ev_ok (so19 q hq.n64) hE e ⟨x,hx,hk0⟩;have hkd:=ek10 (b:=b) hf e x hx hk0;rw[s25,he,hfr,zP,zP];rcases hok with ⟨h0,hv⟩ | ⟨_,h0⟩
  .rw[zK (by simpa using h0)];exact so18 hq hf hE l (λs hs=>hl s (by simp [hs])) _ (fs18 h1 hfq hv.1 (by rw[hkd h0,hk])) (is11 h2 hv.2)
  .rw[zY (by omega)];exact .inr ⟨rfl,h0⟩
def f14 (q:QeaT) (c:CfgT) (t:TransT) (h:HitT):CfgT×Bool×Int:=
 if ¬(g_ q h.bind (f15 h.frees c.vals) t).2=0∨(g_ q h.bind (f15 h.frees c.vals) t).1=false then (⟨0,[]⟩,false,(g_ q h.bind (f15 h.frees c.vals) t).2)
 else if (s25 q h.bind (f15 h.frees c.vals) t.sets (f15 h.frees c.vals)).2=0 then (⟨t.to_,(s25 q h.bind (f15 h.frees c.vals) t.sets (f15 h.frees c.vals)).1⟩,true,0)
 else (⟨0,[]⟩,false,(s25 q h.bind (f15 h.frees c.vals) t.sets (f15 h.frees c.vals)).2)
theorem go10 {q:QeaT} {b:List SlotT} {vals:List Val} {t:TransT} (hq:q.Good) (hE:Env q b vals) (ht:TransK q t):(g_ q b vals t).2=0∨e21 (g_ q b vals t).2:=by
 unfold g_;split
 .exact .inl rfl
 .rcases ev_ok (so19 q hq.n64) hE t.guard.toNat (ht.guard (by omega)) with ⟨h0,_⟩ | ⟨_,h0⟩
  .exact .inl h0
  .exact .inr h0
theorem fo11 {q:QeaT} {c:CfgT} {t:TransT} {h:HitT} (hq:q.Good) (ht:t∈q.trans) (hc:c.Ok q) (hh:h.Ok q):
  ((f14 q c t h).2.2=0∨e21 (f14 q c t h).2.2)∧((f14 q c t h).2.1=true->(f14 q c t h).2.2=0∧(f14 q c t h).1.Ok q):=by
 obtain⟨hf,hE⟩:=eh10 hq hc hh;have tk:=hq.tk t ht;have hg:=go10 hq hE tk;have hs:=so18 hq hf hE t.sets tk.sets (f15 h.frees c.vals) hf (fo_ h.frees c.vals hc.st.2.2 hc.n64 hh.fok).2;unfold f14;split
 .exact⟨hg,λh=>by cases h⟩
 .rcases hs with ⟨h0,h1,h2⟩ | ⟨_,h0⟩
  .rw[zY h0];refine⟨.inl rfl,λ_ =>⟨rfl,⟨?_,h2⟩⟩⟩;unfold cfgR;simp only[h1,wX,zJ,zW];exact⟨tk.to0,tk.toL⟩
  .rw[zK (by unfold e21 at h0;omega)];exact⟨.inr h0,λh=>by cases h⟩
