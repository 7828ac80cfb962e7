/- Lemmas. -/
import Derived.Test.YtkgcnoghjibiaaaGreatDoorYD17
set_option linter.unusedSimpArgs false
set_option maxHeartbeats 4000000
namespace Go.Proofs.YtkgcnoghjibiaaaGreatDoor.Ab
open Go
variable {G:Nat->Option AV}
theorem an_ {st:St} {d ty sz bytes:Nat} {z:AV} {a:Nat} (h:a*bytes<=140737488355328):amks st (some d) ty sz bytes z (.int .i64 (a:Int)) (.int .i64 (a:Int))=st.new (some d) ⟨true,ty,sz,List.replicate a z⟩ (.arr d 0 a):=by unfold amks;dsimp only;have hc:=Int.ofNat_le.2 h;rw[Int.natCast_mul] at hc;rw[zY ⟨by omega,by omega,hc⟩,zP]
theorem ats_ {α:Type} {p:α->Bool} {l:List α} {k:Nat} {x:α} (h:l[k]?=some x):(l.take (k+1)).any p=((l.take k).any p||p x):=by rw[vC,h];simp
def u14 (m:Nat) (o:List Int):List AV:=(List.range m).map λ(j:Nat)=>AV.bool (o.any λx=>(j:Int)==x)
theorem un_ (m:Nat):u14 m []=List.replicate m (.bool false):=by unfold u14;rw[List.eq_replicate_iff];simp
theorem ua_ {m j:Nat} (o:List Int) (h:j<m):(u14 m o)[j]?=some (.bool (o.any λx=>(j:Int)==x)):=by unfold u14;rw[zS,xR h];rfl
theorem us10 {m j:Nat} (o:List Int):(u14 m o).set j (.bool true)=u14 m (o10 o j):=by
 apply vM;intro k;rw[xP];by_cases hk:k<m
 .rw[ua_ (o10 o j) hk,ua_ o hk];split
  .rename_i e;subst e;rw[zY (by simp [u14];omega)];unfold o10;split
   .rename_i ho;rw[ho]
   .simp
  .rename_i e;unfold o10;split
   .rfl
   .rw[List.any_append];have:((k:Int)==(j:Int))=false:=by simp;omega
    simp [this]
 .have e1:(u14 m (o10 o j))[k]? =none:=by rw[vQ];simp [u14];omega
  have e2:(u14 m o)[k]? =none:=by rw[vQ];simp [u14];omega
  rw[e1,e2];split
  .rw[zK (by simp [u14];omega)]
  .rfl
def symR (q:QeaT) (i:Nat) (s:SymT):Bool:=symS q s&& !((q.symbols.take i).any λx=>decide (s=x))
def s16 (q:QeaT):Bool:=
 allI (λi s=>s==(q.symbols.length:Int) - (ordL [] q.trans).length+(i:Int)) (ordL [] q.trans)&&(allI (symR q) q.symbols&&allI (λv _ =>q.symbols.any λs=>n13 s (v:Int)) q.quants)
theorem rsp_ (q:QeaT) (hq:q.Few) (hs:∀t∈q.trans,inR t.symbol q.symbols.length=true):PQ G 29 [qeaV q] (.bool (s16 q)):=by
 have htl:=hq.trans;have hsl:=hq.symbols;have hql:=hq.quants;refine pps_ λΦ h=>?_;unfold cps_;have fin:∀b heap,s16 q=b->Φ ⟨118,[(2,.bool b)],heap⟩:=λb heap e=>h _ ⟨_,_,rfl,rfl,fitB e.symm⟩;clear h;have hbd1:q.symbols.length*1<=140737488355328:=by omega
 simp -implicitDefEqProofs only[go_sem,qeaV,d_,q_,f_,s_,s10,n_,t_,zQ,an_ hbd1];refine al_ (λn st=>∃(i:Nat) (o:List Int),i+n=q.trans.length∧st=⟨118,[(1,.ref 1 0 0),(3,.arr 16 0 q.symbols.length),(4,.arr 4 0 o.length),(5,iv i)],[(1,⟨false,30,9,[qeaV q]⟩),(16,⟨true,4,1,u14 q.symbols.length o⟩),(4,⟨true,3,1,o.map iv⟩)]⟩∧o.length<=i∧ordL [] q.trans=ordL o (q.trans.drop i)) q.trans.length ⟨0,[],by simp,by rw[un_];rfl,by simp,rfl⟩ ?_;rintro I hI n st ⟨i,o,hi,rfl,hol,hord⟩;simp -implicitDefEqProofs only[go_sem,qeaV,d_,q_,f_,s_,s10,n_,t_,zQ];refine⟨λhlt=>?_,λhge=>?_⟩
 .have hlt':i<q.trans.length:=by omega
  obtain⟨t,ht,hm⟩:=as10 hlt';have hw:=ws_ hlt';have hin:=hs t hm;obtain⟨t1,t2,t3,t4,t5⟩:=t;simp only[inR,zJ,zW] at hin;obtain⟨j,rfl⟩:=zA hin.1;have hj:j<q.symbols.length:=by omega
  have hbd:(o.length+1)*8<=140737488355328:=by omega
  have hu:=ua_ o hj;rw[os10 ht] at hord
  have hnext:a13 I n ⟨118,[(1,.ref 1 0 0),(3,.arr 16 0 q.symbols.length),(4,.arr 4 0 (o10 o j).length),(5,iv (i+1:Nat))],[(1,⟨false,30,9,[qeaV q]⟩),(16,⟨true,4,1,u14 q.symbols.length (o10 o j)⟩),(4,⟨true,3,1,(o10 o j).map iv⟩)]⟩:=
   aa_ (n - 1) (by omega) (hI _ _ ⟨i+1,_,by omega,rfl,by have:=ol_ o j;omega,hord⟩)
  rw[<-us10] at hnext;generalize u14 q.symbols.length o=us at*
  repeat' (first|simp -implicitDefEqProofs only[go_sem,am_ ht,t11,s18,hw,hbd,aa10 hj,hu,zQ]|apply ai__<;>intro hb)
  .have e1:o10 o j=o++[(j:Int)]:=zK (by simp only[yX] at hb;rw[hb];exact Bool.false_ne_true);rw[e1,zE,zL] at hnext;exact hnext
  .have e1:o10 o j=o:=zY (by simpa using hb);rw[e1] at hnext;exact hnext
 .have hord:ordL [] q.trans=o:=by rw[hord,yO (by omega),ordL]
  have hol':o.length<=1000000:=by omega
  clear hI hge hi;generalize u14 q.symbols.length o=us at*
  try (simp -implicitDefEqProofs only[go_sem])
  refine al_ (λn st=>∃i:Nat,i+n=o.length∧st=⟨118,[(1,.ref 1 0 0),(4,.arr 4 0 o.length),(7,iv i)],[(1,⟨false,30,9,[qeaV q]⟩),(16,⟨true,4,1,us⟩),(4,⟨true,3,1,o.map iv⟩)]⟩∧∀j x,j<i->o[j]?=some x->(x==(q.symbols.length:Int) - o.length+(j:Int))=true) o.length ⟨0,by simp,rfl,λj x hj=>by omega⟩ ?_;rintro I hI n st ⟨i,hi,rfl,hno⟩;simp -implicitDefEqProofs only[go_sem,qeaV,d_,q_,f_,s_,s10,n_,t_,zQ];refine⟨λhlt=>?_,λhge=>?_⟩
  .have hlt':i<o.length:=by omega
   obtain⟨x,hx,hm⟩:=as10 hlt';have hw:=ws_ hlt';have hxm:(o.map iv)[i]?=some (iv x):=by simp [hx]
   have w1:IntKind.i64.wrap ((q.symbols.length:Int) - o.length)=(q.symbols.length:Int) - o.length:=wi_ (by omega) (by omega);have w2:IntKind.i64.wrap ((q.symbols.length:Int) - o.length+i)=(q.symbols.length:Int) - o.length+i:=wi_ (by omega) (by omega)
   repeat' (first|simp -implicitDefEqProofs only[go_sem,aa10 hlt',hxm,w1,w2,hw,qeaV,d_,q_,f_,s_,s10,n_,t_,zQ]|apply ai__<;>intro hb)
   .refine fin _ _ ?_;have:allI (λi s=>s==(q.symbols.length:Int) - o.length+(i:Int)) o=false:=af_ hx (by simpa using hb);rw[s16,hord,this,yM]
   .exact aa_ (n - 1) (by omega) (hI _ _ ⟨i+1,by omega,rfl,λj y hj hy=>by
     by_cases e:j=i
     .subst e;rw[hx] at hy;cases hy;simpa using hb
     .exact hno j y (by omega) hy⟩)
  .have hO:allI (λi s=>s==(q.symbols.length:Int) - o.length+(i:Int)) o=true:=at10.2 λi x hx=>hno i x (by have:=(zX.1 hx).1;omega) hx;have hR:s16 q=(allI (symR q) q.symbols&&allI (λv _ =>q.symbols.any λs=>n13 s (v:Int)) q.quants):=by rw[s16,hord,hO,yR]
   clear hI hge hi hno hO hord;generalize s16 q=w at*
   try (simp -implicitDefEqProofs only[go_sem])
   refine al_ (λn st=>∃i:Nat,i+n=q.symbols.length∧st=⟨118,[(1,.ref 1 0 0),(8,iv i)],[(1,⟨false,30,9,[qeaV q]⟩),(16,⟨true,4,1,us⟩),(4,⟨true,3,1,o.map iv⟩)]⟩∧∀j x,j<i->q.symbols[j]?=some x->symR q j x=true) q.symbols.length ⟨0,by simp,rfl,λj x hj=>by omega⟩ ?_;rintro I hI n st ⟨i,hi,rfl,hno⟩;simp -implicitDefEqProofs only[go_sem,qeaV,d_,q_,f_,s_,s10,n_,t_,zQ];refine⟨λhlt=>?_,λhge=>?_⟩
   .have hlt':i<q.symbols.length:=by omega
    obtain⟨s,hsx,hm⟩:=as10 hlt';have hsa:s.args.length<9223372036854775807:=by have:=hq.args s hm;omega
    have hw:=ws_ hlt';have hc:=rs15 (G:=G) q s hsa;have hbad:symR q i s=false->w=false:=λhv=>by rw[hR,af_ hsx hv,yM]
    simp only[symV,a10,qeaV,d_,q_,f_,s_,s10,n_,t_] at hc
    repeat' (first|simp -implicitDefEqProofs only[go_sem,am_ hsx,symV,a10,hw,qeaV,d_,q_,f_,s_,s10,n_,t_,zQ]|apply ai__<;>intro hb|refine ac_ hc rfl rfl ?_|fail)
    .exact fin _ _ (hbad (by rw[symR,show symS q s=false by simpa using hb,yM]))
    refine al_ (λm st=>∃k:Nat,k+m=i∧st=⟨118,[(1,.ref 1 0 0),(8,iv i),(9,iv k)],[(1,⟨false,30,9,[qeaV q]⟩),(16,⟨true,4,1,us⟩),(4,⟨true,3,1,o.map iv⟩)]⟩∧∀p x,p<k->q.symbols[p]?=some x->decide (s=x)=false) i ⟨0,by omega,rfl,λp x hp=>by omega⟩ ?_;rintro J hJ m st ⟨k,hk,rfl,hall⟩;simp -implicitDefEqProofs only[go_sem,qeaV,d_,q_,f_,s_,s10,n_,t_,zQ,hw];refine⟨λhlt2=>?_,λhge2=>?_⟩
    .have hlt2':k<i:=by omega
     obtain⟨y,hy,hym⟩:=as10 (l:=q.symbols) (i:=k) (by omega);have hya:y.args.length<9223372036854775807:=by have:=hq.args y hym;omega
     have hw2:=ws_ hlt2';have hc2:=rS11 (G:=G) s y hsa;simp only[symV,a10] at hc2;have hsame:a13 J m ⟨118,[(1,.ref 1 0 0),(8,iv i),(9,iv (k+1:Nat))],[(1,⟨false,30,9,[qeaV q]⟩),(16,⟨true,4,1,us⟩),(4,⟨true,3,1,o.map iv⟩)]⟩∨decide (s=y)=true:=by
      cases hd:decide (s=y) with
      | true=>exact .inr rfl
      | false=>exact .inl (aa_ (m - 1) (by omega) (hJ _ _ ⟨k+1,by omega,rfl,λp x hp hx=>by
        by_cases e:p=k
        .subst e;rw[hy] at hx;cases hx;exact hd
        .exact hall p x (by omega) hx⟩))
     have hbad2:decide (s=y)=true->w=false:=λhd=>hbad (by rw[symR,show ((q.symbols.take i).any λx=>decide (s=x))=true from yE.2 ⟨y,tS.2 ⟨k,by rw[vH hlt2'];exact hy⟩,hd⟩];simp)
     generalize decide (s=y)=d at*;clear hno hall hbad hR
     repeat' (first|simp -implicitDefEqProofs only[go_sem,am_ hsx,am_ hy,symV,a10,hw2,qeaV,d_,q_,f_,s_,s10,n_,t_,zQ]|apply ai__<;>intro hb|refine ac_ hc2 rfl rfl ?_|fail)
     all_goals first
      | (exact fin _ _ (hbad2 (by simpa using hb)))
      | (rcases hsame with h | h
         .exact h
         .exfalso;simp [h] at hb)
    .have hany:((q.symbols.take i).any λx=>decide (s=x))=false:=by
      rw[wU];intro y hy;obtain⟨p,hp⟩:=zM hy;rw[yN] at hp;split at hp
      .rw[hall p y (by omega) hp];simp
      .cases hp
     have hok:symR q i s=true:=by rw[symR,hany,show symS q s=true by simpa using hb];rfl
     exact aa_ (n - 1) (by omega) (hI _ _ ⟨i+1,by omega,rfl,λj y hj hy=>by
      by_cases e:j=i
      .subst e;rw[hsx] at hy;cases hy;exact hok
      .exact hno j y (by omega) hy⟩)
   .have hO:allI (symR q) q.symbols=true:=at10.2 λi x hx=>hno i x (by have:=(zX.1 hx).1;omega) hx;rw[hO,yR] at hR;clear hI hge hi hno hO
    try (simp -implicitDefEqProofs only[go_sem])
    refine al_ (λn st=>∃i:Nat,i+n=q.quants.length∧st=⟨118,[(1,.ref 1 0 0),(10,iv i)],[(1,⟨false,30,9,[qeaV q]⟩),(16,⟨true,4,1,us⟩),(4,⟨true,3,1,o.map iv⟩)]⟩∧∀j x,j<i->q.quants[j]?=some x->(q.symbols.any λs=>n13 s (j:Int))=true) q.quants.length ⟨0,by simp,rfl,λj x hj=>by omega⟩ ?_;rintro I hI n st ⟨v,hi,rfl,hno⟩;simp -implicitDefEqProofs only[go_sem,qeaV,d_,q_,f_,s_,s10,n_,t_,zQ];refine⟨λhlt=>?_,λhge=>?_⟩
    .have hlt':v<q.quants.length:=by omega
     obtain⟨y,hy,hm⟩:=as10 hlt';have hw:=ws_ hlt';refine al_ (λm st=>∃k:Nat,k+m=q.symbols.length∧st=⟨118,[(1,.ref 1 0 0),(10,iv v),(11,.bool ((q.symbols.take k).any λs=>n13 s (v:Int))),(12,iv k)],[(1,⟨false,30,9,[qeaV q]⟩),(16,⟨true,4,1,us⟩),(4,⟨true,3,1,o.map iv⟩)]⟩) q.symbols.length ⟨0,by omega,rfl⟩ ?_;rintro J hJ m st ⟨k,hk,rfl⟩;simp -implicitDefEqProofs only[go_sem,qeaV,d_,q_,f_,s_,s10,n_,t_,zQ];refine⟨λhlt2=>?_,λhge2=>?_⟩
     .have hlt2':k<q.symbols.length:=by omega
      obtain⟨s,hsx,hsm⟩:=as10 hlt2';have hsa:s.args.length<9223372036854775807:=by have:=hq.args s hsm;omega
      have hw2:=ws_ hlt2';have hc:=rN10 (G:=G) s hsa v;simp only[symV,a10] at hc;have hnext:a13 J m ⟨118,[(1,.ref 1 0 0),(10,iv v),(11,.bool ((q.symbols.take (k+1)).any λs=>n13 s (v:Int))),(12,iv (k+1:Nat))],[(1,⟨false,30,9,[qeaV q]⟩),(16,⟨true,4,1,us⟩),(4,⟨true,3,1,o.map iv⟩)]⟩:=aa_ (m - 1) (by omega) (hJ _ _ ⟨k+1,by omega,rfl⟩);rw[ats_ hsx] at hnext;generalize ((q.symbols.take k).any λs=>n13 s (v:Int))=B at*;generalize n13 s (v:Int)=D at*;clear hJ hno
      repeat' (first|simp -implicitDefEqProofs only[go_sem,am_ hsx,symV,a10,hw2,qeaV,d_,q_,f_,s_,s10,n_,t_,zQ]|apply ai__<;>intro hb|refine ac_ hc rfl rfl ?_|fail)
      all_goals (subst hb;exact hnext)
     .have hkl:q.symbols.take k=q.symbols:=zT (by omega);rw[hkl];have hbad:(q.symbols.any λs=>n13 s (v:Int))=false->w=false:=λhv=>by rw[hR,af_ hy hv]
      have hgo:(q.symbols.any λs=>n13 s (v:Int))=true->a13 I n ⟨118,[(1,.ref 1 0 0),(10,iv (v+1:Nat))],[(1,⟨false,30,9,[qeaV q]⟩),(16,⟨true,4,1,us⟩),(4,⟨true,3,1,o.map iv⟩)]⟩:=λhv=>aa_ (n - 1) (by omega) (hI _ _ ⟨v+1,by omega,rfl,λj x hj hx=>by
       by_cases e:j=v
       .subst e;exact hv
       .exact hno j x (by omega) hx⟩)
      generalize (q.symbols.any λs=>n13 s (v:Int))=B at*;clear hR hJ hI hno
      repeat' (first|simp -implicitDefEqProofs only[go_sem,hw]|apply ai__<;>intro hb)
      all_goals first | exact fin _ _ (hbad (by simpa using hb)) | exact hgo (by simpa using hb)
    .have hO:allI (λv _ =>q.symbols.any λs=>n13 s (v:Int)) q.quants=true:=at10.2 λi x hx=>hno i x (by have:=(zX.1 hx).1;omega) hx
     try (simp -implicitDefEqProofs only[go_sem])
     exact fin _ _ (by rw[hR,hO])
theorem os12 (l:List Str):OkC [.eptr (.seq 1 (l.map AV.str)) 0]:=⟨λ_ =>rfl,λ_ _ =>rfl,λ_ =>rfl,λ_ _ =>rfl,λ_ =>rfl,λ_ =>rfl⟩
def n16 (l:List Str) (i:Nat) (s:Str):Bool:=n12 s&&idxF (λx=>s==x) l==(i:Int)
theorem cn1p_ (hG:wg_ G) (l:List Str) (hl:l.length<9223372036854775807) (i:Nat) (s:Str):PQ G 229 [iv i,.str s,.eptr (.seq 1 (l.map AV.str)) 0] (.bool (n16 l i s)):=by
 refine pcn1z λΦ h=>?_;unfold ccn1z;have hn:=sNp_ hG s;have hc:=sIssp_ (G:=G) l s hl;unfold n16 at h;generalize idxF (λx=>s==x) l=k at*;generalize n12 s=b at*
 repeat' (first|simp -implicitDefEqProofs only[go_sem]|apply ai__<;>intro hb|refine ac_ hn rfl rfl ?_|refine ac_ hc rfl rfl ?_|fail)
 all_goals (refine h _ ⟨_,_,rfl,rfl,fe_ ?_⟩;clear h;first | rfl | simp_all)
theorem cnp_ (hG:wg_ G) (l:List Str) (hl:l.length<9223372036854775807):PQ G 150 [.seq 1 (l.map AV.str)] (.bool (allI (n16 l) l)):=by
 refine pcn_ λΦ h=>?_;unfold ccn_;have hc:=casp_ (G:=G) 229 [.eptr (.seq 1 (l.map AV.str)) 0] (by kernel_rfl) (os12 l) (n16 l) l (λi x _ =>cn1p_ hG l hl i x) hl
 repeat' (first|simp -implicitDefEqProofs only[go_sem]|apply ai__<;>intro hb|refine ac_ hc rfl rfl ?_|fail)
 all_goals (refine h _ ⟨_,_,rfl,rfl,fe_ ?_⟩;clear h;first | rfl | simp_all)
theorem rtp_ (l:List Str) (hl:l.length<9223372036854775807) (i:Nat) (s:Str) (hs:l[i]?=some s):PQ G 64 [.seq 1 (l.map AV.str),iv i] (.bool ((l.take i).any λx=>x==s)):=by
 have hil:=(zX.1 hs).1;refine pp16 λΦ h=>?_;unfold cp18;generalize hv:((l.take i).any λx=>x==s)=v at*;simp -implicitDefEqProofs only[go_sem];refine al_ (λn st=>∃j:Nat,j+n=i∧st=⟨20,[(0,.seq 1 (l.map AV.str)),(1,iv i),(5,iv j)],[]⟩∧(((l.take i).drop j).any λx=>x==s)=v) i ⟨0,by simp,rfl,hv⟩ ?_;rintro I hI n st ⟨j,hj,rfl,hno⟩;simp -implicitDefEqProofs only[go_sem];refine⟨λhlt=>?_,λhge=>?_⟩
 .have hlt':j<i:=by omega
  obtain⟨x,hx,hm⟩:=as10 (l:=l) (i:=j) (by omega);have hw:=ws_ hlt';rw[show (l.take i).drop j=x::(l.take i).drop (j+1) by obtain⟨h1,rfl⟩:=zX.1 hx;rw[xU (by simp;omega)];simp,List.any_cons] at hno
  repeat' (first|simp -implicitDefEqProofs only[go_sem,am_ hx,am_ hs,hw]|apply ai__<;>intro hb)
  all_goals first
   | (refine h _ ⟨_,_,rfl,rfl,fitB ?_⟩;rw[<-hno];simp_all;done)
   | (refine aa_ (n - 1) (by omega) (hI _ _ ⟨j+1,by omega,rfl,?_⟩);rw[<-hno];simp_all;done)
 .rw[yO (by simp;omega),List.any_nil] at hno;exact h _ ⟨_,_,rfl,rfl,fitB hno⟩
def fewS (q:QeaT):Bool:=decide ((q.quants.length:Int)<=8)&&(decide ((q.frees.length:Int)<=16)&&(decide ((q.states.length:Int)<=32)&&(decide ((q.symbols.length:Int)<=64)&&(decide ((q.nodes.length:Int)<=2048)&&decide ((q.trans.length:Int)<=256)))))
theorem cfp_ (q:QeaT):PQ G 75 [qeaV q] (.bool (fewS q)):=by
 refine pcf_ λΦ h=>?_;unfold ccf_
 repeat' (first|simp -implicitDefEqProofs only[go_sem,qeaV,d_,q_,f_,s_,s10,n_,t_,zQ]|apply ai__<;>intro hb)
 all_goals
  refine h _ ⟨_,_,rfl,rfl,fitB ?_⟩;clear h
  first | (simp_all [fewS];done) | (simp_all [fewS];intros;omega)
theorem ch1p_ (i:Int) (y:QuantT):PQ G 152 [iv i,q11 y] (.bool (!(k_ y.type==[]))):=by
 refine pch1z λΦ h=>?_;unfold cch1z
 repeat' (first|simp -implicitDefEqProofs only[go_sem,q11]|apply ai__<;>intro hb|refine ac_ (vNp_ _) rfl rfl ?_|fail)
 all_goals (refine h _ ⟨_,_,rfl,rfl,fe_ ?_⟩;clear h;first | rfl | simp_all)
theorem ch2p_ (i:Int) (y:FreeT):PQ G 155 [iv i,f10 y] (.bool y.init.ok):=by
 have hc:=vRp_ (G:=G) y.init;simp only[valV] at hc;refine pch2z λΦ h=>?_;unfold cch2z
 repeat' (first|simp -implicitDefEqProofs only[go_sem,f10]|apply ai__<;>intro hb|refine ac_ hc rfl rfl ?_|fail)
 all_goals (refine h _ ⟨_,_,rfl,rfl,fe_ ?_⟩;clear h;first | rfl | simp_all)
