/-
  Lemmas. No claim is proved here.
-/
import Derived.Test.YtkadalpaeglmnaaGreatDoorYD17
set_option linter.unusedSimpArgs false
set_option maxHeartbeats 4000000
namespace Go.Proofs.YtkadalpaeglmnaaGreatDoor.Ab
open Go
variable {G:Nat→Option AV}
theorem an12 {st:St} {d ty sz bytes:Nat} {z:AV} {a:Nat} (h:a*bytes≤140737488355328):amks st (some d) ty sz bytes z (.int .i64 (a:Int)) (.int .i64 (a:Int))=st.new (some d) ⟨true,ty,sz,List.replicate a z⟩ (.arr d 0 a):=by unfold amks;dsimp only;have hc:=Int.ofNat_le.2 h;rw[Int.natCast_mul] at hc;rw[zG ⟨by omega,by omega,hc⟩,zA]
theorem ats_ {α:Type} {p:α→Bool} {l:List α} {k:Nat} {x:α} (h:l[k]? =some x):(l.take (k+1)).any p=((l.take k).any p||p x):=by rw[vV,h];simp
def u_ (m:Nat) (o:List Int):List AV:=(List.range m).map fun (j:Nat)=>AV.bool (o.any fun x=>(j:Int)==x)
theorem un_ (m:Nat):u_ m []=List.replicate m (.bool false):=by unfold u_;rw[List.eq_replicate_iff];simp
theorem ua_ {m j:Nat} (o:List Int) (h:j<m):(u_ m o)[j]? =some (.bool (o.any fun x=>(j:Int)==x)):=by unfold u_;rw[zT,xA h];rfl
theorem us_ {m j:Nat} (o:List Int):(u_ m o).set j (.bool true)=u_ m (o10 o j):=by
 apply vP;intro k;rw[xP];by_cases hk:k<m
 ·rw[ua_ (o10 o j) hk,ua_ o hk];split
  ·rename_i e;subst e;rw[zG (by simp [u_];omega)];unfold o10;split
   ·rename_i ho;rw[ho]
   ·simp
  ·rename_i e;unfold o10;split
   ·rfl
   ·rw[List.any_append];have:((k:Int)==(j:Int))=false:=by simp;omega
    simp [this]
 ·have e1:(u_ m (o10 o j))[k]? =none:=by rw[wN];simp [u_];omega
  have e2:(u_ m o)[k]? =none:=by rw[wN];simp [u_];omega
  rw[e1,e2];split
  ·rw[zF (by simp [u_];omega)]
  ·rfl
def symR (q:QeaT) (i:Nat) (s:SymT):Bool:=symS q s&& !((q.symbols.take i).any fun x=>decide (s=x))
def s16 (q:QeaT):Bool:=
 allI (fun i s=>s==(q.symbols.length:Int) - (ordL [] q.trans).length+(i:Int)) (ordL [] q.trans)&&(allI (symR q) q.symbols&&allI (fun v _ =>q.symbols.any fun s=>n13 s (v:Int)) q.quants)
theorem rs15 (q:QeaT) (hq:q.Few) (hs:∀t∈q.trans,inR t.symbol q.symbols.length=true):PQ G np20 [qeaV q] (.bool (s16 q)):=by
 have htl:=hq.trans;have hsl:=hq.symbols;have hql:=hq.quants;refine pp10 fun Φ h=>?_;unfold cp11;have fin:∀b heap,s16 q=b→Φ ⟨118,[(2,.bool b)],heap⟩:=fun b heap e=>h _ ⟨_,_,rfl,rfl,fitB e.symm⟩;clear h;have hbd1:q.symbols.length*1≤140737488355328:=by omega
 simp -implicitDefEqProofs only[go_sem,qeaV,d_,q_,f_,s_,s10,n_,t_,zX,an12 hbd1];refine al_ (fun n st=>∃(i:Nat) (o:List Int),i+n=q.trans.length∧st=⟨118,[(1,.ref 1 0 0),(3,.arr 16 0 q.symbols.length),(4,.arr 4 0 o.length),(5,iv i)],[(1,⟨false,taQ_,9,[qeaV q]⟩),(16,⟨true,tb_,1,u_ q.symbols.length o⟩),(4,⟨true,ti_,1,o.map iv⟩)]⟩∧o.length≤i∧ordL [] q.trans=ordL o (q.trans.drop i)) q.trans.length ⟨0,[],by simp,by rw[un_];rfl,by simp,rfl⟩ ?_;rintro I hI n st ⟨i,o,hi,rfl,hol,hord⟩;simp -implicitDefEqProofs only[go_sem,qeaV,d_,q_,f_,s_,s10,n_,t_,zX];refine⟨fun hlt=>?_,fun hge=>?_⟩
 ·have hlt':i<q.trans.length:=by omega
  obtain⟨t,ht,hm⟩:=as10 hlt';have hw:=ws_ hlt' (by omega);have hin:=hs t hm;obtain⟨t1,t2,t3,t4,t5⟩:=t;simp only[inR,zK,zU] at hin;obtain⟨j,rfl⟩:=zS hin.1;have hj:j<q.symbols.length:=by omega
  have hbd:(o.length+1)*8≤140737488355328:=by omega
  have hu:=ua_ o hj;rw[os10 ht] at hord
  have hnext:a11 I n ⟨118,[(1,.ref 1 0 0),(3,.arr 16 0 q.symbols.length),(4,.arr 4 0 (o10 o j).length),(5,iv (i+1:Nat))],[(1,⟨false,taQ_,9,[qeaV q]⟩),(16,⟨true,tb_,1,u_ q.symbols.length (o10 o j)⟩),(4,⟨true,ti_,1,(o10 o j).map iv⟩)]⟩:=
   aa_ (n - 1) (by omega) (hI _ _ ⟨i+1,_,by omega,rfl,by have:=ol_ o j;omega,hord⟩)
  rw[←us_] at hnext;generalize u_ q.symbols.length o=us at*
  repeat' (first|simp -implicitDefEqProofs only[go_sem,am_ ht,t11,s14,hw,hbd,aa10 hj,hu,zX]|refine ag_ (fun hb=>?_) (fun hb=>?_)|refine⟨fun hb=>?_,fun hb=>?_⟩|fail)
  ·have e1:o10 o j=o++[(j:Int)]:=zF (by simp only[yQ] at hb;rw[hb];exact Bool.false_ne_true);rw[e1,zR,zB] at hnext;exact hnext
  ·have e1:o10 o j=o:=zG (by simpa using hb);rw[e1] at hnext;exact hnext
 ·have hord:ordL [] q.trans=o:=by rw[hord,xH (by omega),ordL]
  have hol':o.length≤1000000:=by omega
  clear hI hge hi;generalize u_ q.symbols.length o=us at*
  try (simp -implicitDefEqProofs only[go_sem])
  refine al_ (fun n st=>∃i:Nat,i+n=o.length∧st=⟨118,[(1,.ref 1 0 0),(4,.arr 4 0 o.length),(7,iv i)],[(1,⟨false,taQ_,9,[qeaV q]⟩),(16,⟨true,tb_,1,us⟩),(4,⟨true,ti_,1,o.map iv⟩)]⟩∧∀j x,j<i→o[j]? =some x→(x==(q.symbols.length:Int) - o.length+(j:Int))=true) o.length ⟨0,by simp,rfl,fun j x hj=>by omega⟩ ?_;rintro I hI n st ⟨i,hi,rfl,hno⟩;simp -implicitDefEqProofs only[go_sem,qeaV,d_,q_,f_,s_,s10,n_,t_,zX];refine⟨fun hlt=>?_,fun hge=>?_⟩
  ·have hlt':i<o.length:=by omega
   obtain⟨x,hx,hm⟩:=as10 hlt';have hw:=ws_ hlt' (by omega);have hxm:(o.map iv)[i]? =some (iv x):=by simp [hx]
   have w1:IntKind.i64.wrap ((q.symbols.length:Int) - o.length)=(q.symbols.length:Int) - o.length:=wi_ (by omega) (by omega);have w2:IntKind.i64.wrap ((q.symbols.length:Int) - o.length+i)=(q.symbols.length:Int) - o.length+i:=wi_ (by omega) (by omega)
   repeat' (first|simp -implicitDefEqProofs only[go_sem,aa10 hlt',hxm,w1,w2,hw,qeaV,d_,q_,f_,s_,s10,n_,t_,zX]|refine ag_ (fun hb=>?_) (fun hb=>?_)|refine⟨fun hb=>?_,fun hb=>?_⟩|fail)
   ·refine fin _ _ ?_;have:allI (fun i s=>s==(q.symbols.length:Int) - o.length+(i:Int)) o=false:=af_ hx (by simpa using hb);rw[s16,hord,this,xQ]
   ·exact aa_ (n - 1) (by omega) (hI _ _ ⟨i+1,by omega,rfl,fun j y hj hy=>by
     by_cases e:j=i
     ·subst e;rw[hx] at hy;cases hy;simpa using hb
     ·exact hno j y (by omega) hy⟩)
  ·have hO:allI (fun i s=>s==(q.symbols.length:Int) - o.length+(i:Int)) o=true:=at10.2 fun i x hx=>hno i x (by have:=(zZ.1 hx).1;omega) hx;have hR:s16 q=(allI (symR q) q.symbols&&allI (fun v _ =>q.symbols.any fun s=>n13 s (v:Int)) q.quants):=by rw[s16,hord,hO,xG]
   clear hI hge hi hno hO hord;generalize s16 q=w at*
   try (simp -implicitDefEqProofs only[go_sem])
   refine al_ (fun n st=>∃i:Nat,i+n=q.symbols.length∧st=⟨118,[(1,.ref 1 0 0),(8,iv i)],[(1,⟨false,taQ_,9,[qeaV q]⟩),(16,⟨true,tb_,1,us⟩),(4,⟨true,ti_,1,o.map iv⟩)]⟩∧∀j x,j<i→q.symbols[j]? =some x→symR q j x=true) q.symbols.length ⟨0,by simp,rfl,fun j x hj=>by omega⟩ ?_;rintro I hI n st ⟨i,hi,rfl,hno⟩;simp -implicitDefEqProofs only[go_sem,qeaV,d_,q_,f_,s_,s10,n_,t_,zX];refine⟨fun hlt=>?_,fun hge=>?_⟩
   ·have hlt':i<q.symbols.length:=by omega
    obtain⟨s,hsx,hm⟩:=as10 hlt';have hsa:s.args.length<9223372036854775807:=by have:=hq.args s hm;omega
    have hw:=ws_ hlt' (by omega);have hc:=rs17 (G:=G) q s hsa;have hbad:symR q i s=false→w=false:=fun hv=>by rw[hR,af_ hsx hv,xQ]
    simp only[symV,a_,qeaV,d_,q_,f_,s_,s10,n_,t_] at hc
    repeat' (first|simp -implicitDefEqProofs only[go_sem,am_ hsx,symV,a_,hw,qeaV,d_,q_,f_,s_,s10,n_,t_,zX]|refine ag_ (fun hb=>?_) (fun hb=>?_)|refine⟨fun hb=>?_,fun hb=>?_⟩|refine ac_ hc rfl rfl ?_|fail)
    ·exact fin _ _ (hbad (by rw[symR,show symS q s=false by simpa using hb,xQ]))
    refine al_ (fun m st=>∃k:Nat,k+m=i∧st=⟨118,[(1,.ref 1 0 0),(8,iv i),(9,iv k)],[(1,⟨false,taQ_,9,[qeaV q]⟩),(16,⟨true,tb_,1,us⟩),(4,⟨true,ti_,1,o.map iv⟩)]⟩∧∀p x,p<k→q.symbols[p]? =some x→decide (s=x)=false) i ⟨0,by omega,rfl,fun p x hp=>by omega⟩ ?_;rintro J hJ m st ⟨k,hk,rfl,hall⟩;simp -implicitDefEqProofs only[go_sem,qeaV,d_,q_,f_,s_,s10,n_,t_,zX,hw];refine⟨fun hlt2=>?_,fun hge2=>?_⟩
    ·have hlt2':k<i:=by omega
     obtain⟨y,hy,hym⟩:=as10 (l:=q.symbols) (i:=k) (by omega);have hya:y.args.length<9223372036854775807:=by have:=hq.args y hym;omega
     have hw2:=ws_ hlt2' (by omega);have hc2:=rSp_ (G:=G) s y hsa;simp only[symV,a_] at hc2;have hsame:a11 J m ⟨118,[(1,.ref 1 0 0),(8,iv i),(9,iv (k+1:Nat))],[(1,⟨false,taQ_,9,[qeaV q]⟩),(16,⟨true,tb_,1,us⟩),(4,⟨true,ti_,1,o.map iv⟩)]⟩∨decide (s=y)=true:=by
      cases hd:decide (s=y) with
      | true=>exact .inr rfl
      | false=>exact .inl (aa_ (m - 1) (by omega) (hJ _ _ ⟨k+1,by omega,rfl,fun p x hp hx=>by
        by_cases e:p=k
        ·subst e;rw[hy] at hx;cases hx;exact hd
        ·exact hall p x (by omega) hx⟩))
     have hbad2:decide (s=y)=true→w=false:=fun hd=>hbad (by rw[symR,show ((q.symbols.take i).any fun x=>decide (s=x))=true from yL.2 ⟨y,tR.2 ⟨k,by rw[vL hlt2'];exact hy⟩,hd⟩];simp)
     generalize decide (s=y)=d at*;clear hno hall hbad hR
     repeat' (first|simp -implicitDefEqProofs only[go_sem,am_ hsx,am_ hy,symV,a_,hw2,qeaV,d_,q_,f_,s_,s10,n_,t_,zX]|refine ag_ (fun hb=>?_) (fun hb=>?_)|refine⟨fun hb=>?_,fun hb=>?_⟩|refine ac_ hc2 rfl rfl ?_|fail)
     all_goals first
      | (exact fin _ _ (hbad2 (by simpa using hb)))
      | (rcases hsame with h | h
         ·exact h
         ·exfalso;simp [h] at hb)
    ·have hany:((q.symbols.take i).any fun x=>decide (s=x))=false:=by
      rw[xR];intro y hy;obtain⟨p,hp⟩:=zN hy;rw[yU] at hp;split at hp
      ·rw[hall p y (by omega) hp];simp
      ·cases hp
     have hok:symR q i s=true:=by rw[symR,hany,show symS q s=true by simpa using hb];rfl
     exact aa_ (n - 1) (by omega) (hI _ _ ⟨i+1,by omega,rfl,fun j y hj hy=>by
      by_cases e:j=i
      ·subst e;rw[hsx] at hy;cases hy;exact hok
      ·exact hno j y (by omega) hy⟩)
   ·have hO:allI (symR q) q.symbols=true:=at10.2 fun i x hx=>hno i x (by have:=(zZ.1 hx).1;omega) hx;rw[hO,xG] at hR;clear hI hge hi hno hO
    try (simp -implicitDefEqProofs only[go_sem])
    refine al_ (fun n st=>∃i:Nat,i+n=q.quants.length∧st=⟨118,[(1,.ref 1 0 0),(10,iv i)],[(1,⟨false,taQ_,9,[qeaV q]⟩),(16,⟨true,tb_,1,us⟩),(4,⟨true,ti_,1,o.map iv⟩)]⟩∧∀j x,j<i→q.quants[j]? =some x→(q.symbols.any fun s=>n13 s (j:Int))=true) q.quants.length ⟨0,by simp,rfl,fun j x hj=>by omega⟩ ?_;rintro I hI n st ⟨v,hi,rfl,hno⟩;simp -implicitDefEqProofs only[go_sem,qeaV,d_,q_,f_,s_,s10,n_,t_,zX];refine⟨fun hlt=>?_,fun hge=>?_⟩
    ·have hlt':v<q.quants.length:=by omega
     obtain⟨y,hy,hm⟩:=as10 hlt';have hw:=ws_ hlt' (by omega);refine al_ (fun m st=>∃k:Nat,k+m=q.symbols.length∧st=⟨118,[(1,.ref 1 0 0),(10,iv v),(11,.bool ((q.symbols.take k).any fun s=>n13 s (v:Int))),(12,iv k)],[(1,⟨false,taQ_,9,[qeaV q]⟩),(16,⟨true,tb_,1,us⟩),(4,⟨true,ti_,1,o.map iv⟩)]⟩) q.symbols.length ⟨0,by omega,rfl⟩ ?_;rintro J hJ m st ⟨k,hk,rfl⟩;simp -implicitDefEqProofs only[go_sem,qeaV,d_,q_,f_,s_,s10,n_,t_,zX];refine⟨fun hlt2=>?_,fun hge2=>?_⟩
     ·have hlt2':k<q.symbols.length:=by omega
      obtain⟨s,hsx,hsm⟩:=as10 hlt2';have hsa:s.args.length<9223372036854775807:=by have:=hq.args s hsm;omega
      have hw2:=ws_ hlt2' (by omega);have hc:=rN10 (G:=G) s hsa v;simp only[symV,a_] at hc;have hnext:a11 J m ⟨118,[(1,.ref 1 0 0),(10,iv v),(11,.bool ((q.symbols.take (k+1)).any fun s=>n13 s (v:Int))),(12,iv (k+1:Nat))],[(1,⟨false,taQ_,9,[qeaV q]⟩),(16,⟨true,tb_,1,us⟩),(4,⟨true,ti_,1,o.map iv⟩)]⟩:=aa_ (m - 1) (by omega) (hJ _ _ ⟨k+1,by omega,rfl⟩);rw[ats_ hsx] at hnext;generalize ((q.symbols.take k).any fun s=>n13 s (v:Int))=B at*;generalize n13 s (v:Int)=D at*;clear hJ hno
      repeat' (first|simp -implicitDefEqProofs only[go_sem,am_ hsx,symV,a_,hw2,qeaV,d_,q_,f_,s_,s10,n_,t_,zX]|refine ag_ (fun hb=>?_) (fun hb=>?_)|refine⟨fun hb=>?_,fun hb=>?_⟩|refine ac_ hc rfl rfl ?_|fail)
      all_goals (subst hb;exact hnext)
     ·have hkl:q.symbols.take k=q.symbols:=zM (by omega);rw[hkl];have hbad:(q.symbols.any fun s=>n13 s (v:Int))=false→w=false:=fun hv=>by rw[hR,af_ hy hv]
      have hgo:(q.symbols.any fun s=>n13 s (v:Int))=true→a11 I n ⟨118,[(1,.ref 1 0 0),(10,iv (v+1:Nat))],[(1,⟨false,taQ_,9,[qeaV q]⟩),(16,⟨true,tb_,1,us⟩),(4,⟨true,ti_,1,o.map iv⟩)]⟩:=fun hv=>aa_ (n - 1) (by omega) (hI _ _ ⟨v+1,by omega,rfl,fun j x hj hx=>by
       by_cases e:j=v
       ·subst e;exact hv
       ·exact hno j x (by omega) hx⟩)
      generalize (q.symbols.any fun s=>n13 s (v:Int))=B at*;clear hR hJ hI hno
      repeat' (first|simp -implicitDefEqProofs only[go_sem,hw]|refine ag_ (fun hb=>?_) (fun hb=>?_)|refine⟨fun hb=>?_,fun hb=>?_⟩|fail)
      all_goals first | exact fin _ _ (hbad (by simpa using hb)) | exact hgo (by simpa using hb)
    ·have hO:allI (fun v _ =>q.symbols.any fun s=>n13 s (v:Int)) q.quants=true:=at10.2 fun i x hx=>hno i x (by have:=(zZ.1 hx).1;omega) hx
     try (simp -implicitDefEqProofs only[go_sem])
     exact fin _ _ (by rw[hR,hO])
theorem os12 (l:List Str):OkC [.eptr (.seq 1 (l.map AV.str)) 0]:=⟨fun _ =>rfl,fun _ _ =>rfl,fun _ =>rfl,fun _ _ =>rfl,fun _ =>rfl,fun _ =>rfl⟩
def n15 (l:List Str) (i:Nat) (s:Str):Bool:=n12 s&&idxF (fun x=>s==x) l==(i:Int)
theorem cn1p_ (hG:wg_ G) (l:List Str) (hl:l.length<9223372036854775807) (i:Nat) (s:Str):PQ G ncn1_ [iv i,.str s,.eptr (.seq 1 (l.map AV.str)) 0] (.bool (n15 l i s)):=by
 refine pcn1_ fun Φ h=>?_;unfold ccn1_;have hn:=sNp_ hG s;have hc:=sIssp_ (G:=G) l s hl;unfold n15 at h;generalize idxF (fun x=>s==x) l=k at*;generalize n12 s=b at*
 repeat' (first|simp -implicitDefEqProofs only[go_sem]|refine ag_ (fun hb=>?_) (fun hb=>?_)|refine⟨fun hb=>?_,fun hb=>?_⟩|refine ac_ hn rfl rfl ?_|refine ac_ hc rfl rfl ?_|fail)
 all_goals (refine h _ ⟨_,_,rfl,rfl,fe_ ?_⟩;clear h;first | rfl | simp_all)
theorem cnp_ (hG:wg_ G) (l:List Str) (hl:l.length<9223372036854775807):PQ G ncn_ [.seq 1 (l.map AV.str)] (.bool (allI (n15 l) l)):=by
 refine pcn_ fun Φ h=>?_;unfold ccn_;have hc:=casp_ (G:=G) ncn1_ [.eptr (.seq 1 (l.map AV.str)) 0] (by kernel_rfl) (os12 l) (n15 l) l (fun i x _ =>cn1p_ hG l hl i x) hl
 repeat' (first|simp -implicitDefEqProofs only[go_sem]|refine ag_ (fun hb=>?_) (fun hb=>?_)|refine⟨fun hb=>?_,fun hb=>?_⟩|refine ac_ hc rfl rfl ?_|fail)
 all_goals (refine h _ ⟨_,_,rfl,rfl,fe_ ?_⟩;clear h;first | rfl | simp_all)
theorem rtp_ (l:List Str) (hl:l.length<9223372036854775807) (i:Nat) (s:Str) (hs:l[i]? =some s):PQ G np14 [.seq 1 (l.map AV.str),iv i] (.bool ((l.take i).any fun x=>x==s)):=by
 have hil:=(zZ.1 hs).1;refine ppt_ fun Φ h=>?_;unfold cpt_;generalize hv:((l.take i).any fun x=>x==s)=v at*;simp -implicitDefEqProofs only[go_sem];refine al_ (fun n st=>∃j:Nat,j+n=i∧st=⟨20,[(0,.seq 1 (l.map AV.str)),(1,iv i),(5,iv j)],[]⟩∧(((l.take i).drop j).any fun x=>x==s)=v) i ⟨0,by simp,rfl,hv⟩ ?_;rintro I hI n st ⟨j,hj,rfl,hno⟩;simp -implicitDefEqProofs only[go_sem];refine⟨fun hlt=>?_,fun hge=>?_⟩
 ·have hlt':j<i:=by omega
  obtain⟨x,hx,hm⟩:=as10 (l:=l) (i:=j) (by omega);have hw:=ws_ hlt' (by omega);rw[show (l.take i).drop j=x::(l.take i).drop (j+1) by obtain⟨h1,rfl⟩:=zZ.1 hx;rw[yD (by simp;omega)];simp,List.any_cons] at hno
  repeat' (first|simp -implicitDefEqProofs only[go_sem,am_ hx,am_ hs,hw]|refine ag_ (fun hb=>?_) (fun hb=>?_)|refine⟨fun hb=>?_,fun hb=>?_⟩|fail)
  all_goals first
   | (refine h _ ⟨_,_,rfl,rfl,fitB ?_⟩;rw[←hno];simp_all;done)
   | (refine aa_ (n - 1) (by omega) (hI _ _ ⟨j+1,by omega,rfl,?_⟩);rw[←hno];simp_all;done)
 ·rw[xH (by simp;omega),List.any_nil] at hno;exact h _ ⟨_,_,rfl,rfl,fitB hno⟩
def fewS (q:QeaT):Bool:=decide ((q.quants.length:Int)≤8)&&(decide ((q.frees.length:Int)≤16)&&(decide ((q.states.length:Int)≤32)&&(decide ((q.symbols.length:Int)≤64)&&(decide ((q.nodes.length:Int)≤2048)&&decide ((q.trans.length:Int)≤256)))))
theorem cfp_ (q:QeaT):PQ G ncf_ [qeaV q] (.bool (fewS q)):=by
 refine pcf_ fun Φ h=>?_;unfold ccf_
 repeat' (first|simp -implicitDefEqProofs only[go_sem,qeaV,d_,q_,f_,s_,s10,n_,t_,zX]|refine ag_ (fun hb=>?_) (fun hb=>?_)|refine⟨fun hb=>?_,fun hb=>?_⟩|fail)
 all_goals
  refine h _ ⟨_,_,rfl,rfl,fitB ?_⟩;clear h
  first | (simp_all [fewS];done) | (simp_all [fewS];intros;omega)
theorem ch1p_ (i:Int) (y:QuantT):PQ G nch1_ [iv i,q11 y] (.bool (!(k_ y.type==[]))):=by
 refine pch1_ fun Φ h=>?_;unfold cch1_
 repeat' (first|simp -implicitDefEqProofs only[go_sem,q11]|refine ag_ (fun hb=>?_) (fun hb=>?_)|refine⟨fun hb=>?_,fun hb=>?_⟩|refine ac_ (vNp_ _) rfl rfl ?_|fail)
 all_goals (refine h _ ⟨_,_,rfl,rfl,fe_ ?_⟩;clear h;first | rfl | simp_all)
theorem ch2p_ (i:Int) (y:FreeT):PQ G nch2_ [iv i,f10 y] (.bool y.init.ok):=by
 have hc:=vRp_ (G:=G) y.init;simp only[valV] at hc;refine pch2_ fun Φ h=>?_;unfold cch2_
 repeat' (first|simp -implicitDefEqProofs only[go_sem,f10]|refine ag_ (fun hb=>?_) (fun hb=>?_)|refine⟨fun hb=>?_,fun hb=>?_⟩|refine ac_ hc rfl rfl ?_|fail)
 all_goals (refine h _ ⟨_,_,rfl,rfl,fe_ ?_⟩;clear h;first | rfl | simp_all)
theorem tms_ {l:List Str} {k:Nat} {x:Str} (h:l[k]? =some x):(l.take (k+1)).map AV.str=(l.take k).map AV.str++[.str x]:=by rw[vV,h];simp
def QeaT.vars (q:QeaT):List Str:=q.quants.map (·.name)++q.frees.map (·.name)
def QeaT.names (q:QeaT):List Str:=q.states.map (·.name)
theorem vl_ (q:QeaT):q.vars.length=q.quants.length+q.frees.length:=by simp [QeaT.vars]
theorem vq_ {q:QeaT} {i:Nat} {y:QuantT} (h:q.quants[i]? =some y):q.vars[i]? =some y.name:=by have:=(zZ.1 h).1;unfold QeaT.vars;rw[xJ (by simpa using this),zT,h];rfl
theorem vf_ {q:QeaT} {i:Nat} {y:FreeT} (h:q.frees[i]? =some y):q.vars[q.quants.length+i]? =some y.name:=by unfold QeaT.vars;rw[xV (by simp),zT];simp [h]
theorem ns34 {q:QeaT} {i:Nat} {y:StateT} (h:q.states[i]? =some y):q.names[i]? =some y.name:=by unfold QeaT.names;rw[zT,h];rfl
theorem nl11 (q:QeaT):q.names.length=q.states.length:=by simp [QeaT.names]
def h18 (q:QeaT):Bool:=
 (d10 q.decls).1==0&&(n12 q.name&&(allI (n15 q.vars) q.vars&&(allI (n15 q.names) q.names&&(allI (fun _ (y:QuantT)=>!(k_ y.type==[])) q.quants&&(allI (fun _ (y:FreeT)=>y.init.ok) q.frees&&(decide (0≤q.start)&&decide (q.start<q.states.length)))))))
theorem tl_ {l:List Str} {k:Nat} (h:k≤l.length):((l.take k).map AV.str).length=k:=by simp;omega
theorem chp_ (hG:wg_ G) (q:QeaT) (hq:q.Few):PQ G nch_ [qeaV q] (.bool (h18 q)):=by
 have h1:=hq.quants;have h2:=hq.frees;have h3:=hq.states;have h4:=hq.decls;have hvl:=vl_ q;have hnl:=nl11 q;refine pch_ fun Φ h=>?_;unfold cch_
 try (simp -implicitDefEqProofs only[go_sem,qeaV,d_,q_,f_,s_,s10,n_,t_,zX])
 refine al_ (fun n st=>∃i:Nat,i+n=q.quants.length∧st=⟨96,[(1,.ref 1 0 0),(3,.arr 3 0 i),(4,.arr 4 0 0),(14,q_ q.quants),(15,iv q.quants.length),(16,iv i)],[(1,⟨false,taQ_,9,[qeaV q]⟩),(3,⟨true,ts_,1,(q.vars.take i).map AV.str⟩),(4,⟨true,ts_,1,[]⟩)]⟩) q.quants.length ⟨0,by simp,rfl⟩ ?_;rintro I hI n st ⟨i,hi,rfl⟩;simp -implicitDefEqProofs only[go_sem,qeaV,d_,q_,f_,s_,s10,n_,t_,zX];refine⟨fun hlt=>?_,fun hge=>?_⟩
 ·have hlt':i<q.quants.length:=by omega
  obtain⟨y,hy,hm⟩:=as10 hlt';have hw:=ws_ hlt' (by omega);have hbd:(i+1)*16≤140737488355328:=by omega
  have hnext:a11 I n ⟨96,[(1,.ref 1 0 0),(3,.arr 3 0 (i+1)),(4,.arr 4 0 0),(14,q_ q.quants),(15,iv q.quants.length),(16,iv (i+1:Nat))],[(1,⟨false,taQ_,9,[qeaV q]⟩),(3,⟨true,ts_,1,(q.vars.take (i+1)).map AV.str⟩),(4,⟨true,ts_,1,[]⟩)]⟩:=aa_ (n - 1) (by omega) (hI _ _ ⟨i+1,by omega,rfl⟩);have hrl:=tl_ (l:=q.vars) (k:=i) (by omega);rw[tms_ (vq_ hy)] at hnext;generalize (q.vars.take i).map AV.str=R at*
  repeat' (first|simp -implicitDefEqProofs only[go_sem,am_ hy,q11,hw,hrl,hbd]|refine ag_ (fun hb=>?_) (fun hb=>?_)|refine⟨fun hb=>?_,fun hb=>?_⟩|fail)
  exact hnext
 ·have:i=q.quants.length:=by omega
  subst this;clear hI
  try (simp -implicitDefEqProofs only[go_sem,qeaV,d_,q_,f_,s_,s10,n_,t_,zX])
  refine al_ (fun n st=>∃i:Nat,i+n=q.frees.length∧st=⟨96,[(1,.ref 1 0 0),(3,.arr 3 0 (q.quants.length+i)),(4,.arr 4 0 0),(27,f_ q.frees),(28,iv q.frees.length),(29,iv i)],[(1,⟨false,taQ_,9,[qeaV q]⟩),(3,⟨true,ts_,1,(q.vars.take (q.quants.length+i)).map AV.str⟩),(4,⟨true,ts_,1,[]⟩)]⟩) q.frees.length ⟨0,by simp,rfl⟩ ?_;rintro I hI n st ⟨i,hi,rfl⟩;simp -implicitDefEqProofs only[go_sem,qeaV,d_,q_,f_,s_,s10,n_,t_,zX];refine⟨fun hlt=>?_,fun hge=>?_⟩
  ·have hlt':i<q.frees.length:=by omega
   obtain⟨y,hy,hm⟩:=as10 hlt';have hw:=ws_ hlt' (by omega);have hbd:(q.quants.length+i+1)*16≤140737488355328:=by omega
   have hnext:a11 I n ⟨96,[(1,.ref 1 0 0),(3,.arr 3 0 (q.quants.length+i+1)),(4,.arr 4 0 0),(27,f_ q.frees),(28,iv q.frees.length),(29,iv (i+1:Nat))],[(1,⟨false,taQ_,9,[qeaV q]⟩),(3,⟨true,ts_,1,(q.vars.take (q.quants.length+i+1)).map AV.str⟩),(4,⟨true,ts_,1,[]⟩)]⟩:=aa_ (n - 1) (by omega) (hI _ _ ⟨i+1,by omega,rfl⟩);have hrl:=tl_ (l:=q.vars) (k:=q.quants.length+i) (by omega);rw[tms_ (vf_ hy)] at hnext;generalize (q.vars.take (q.quants.length+i)).map AV.str=R at*
   repeat' (first|simp -implicitDefEqProofs only[go_sem,am_ hy,f10,hw,hrl,hbd]|refine ag_ (fun hb=>?_) (fun hb=>?_)|refine⟨fun hb=>?_,fun hb=>?_⟩|fail)
   exact hnext
  ·have:i=q.frees.length:=by omega
   subst this;clear hI;rw[zM (show q.vars.length≤q.quants.length+q.frees.length by omega),←hvl]
   try (simp -implicitDefEqProofs only[go_sem,qeaV,d_,q_,f_,s_,s10,n_,t_,zX])
   refine al_ (fun n st=>∃i:Nat,i+n=q.states.length∧st=⟨96,[(1,.ref 1 0 0),(3,.arr 3 0 q.vars.length),(4,.arr 4 0 i),(40,s_ q.states),(41,iv q.states.length),(42,iv i)],[(1,⟨false,taQ_,9,[qeaV q]⟩),(3,⟨true,ts_,1,q.vars.map AV.str⟩),(4,⟨true,ts_,1,(q.names.take i).map AV.str⟩)]⟩) q.states.length ⟨0,by simp,rfl⟩ ?_;rintro I hI n st ⟨i,hi,rfl⟩;simp -implicitDefEqProofs only[go_sem,qeaV,d_,q_,f_,s_,s10,n_,t_,zX];refine⟨fun hlt=>?_,fun hge=>?_⟩
   ·have hlt':i<q.states.length:=by omega
    obtain⟨y,hy,hm⟩:=as10 hlt';have hw:=ws_ hlt' (by omega);have hbd:(i+1)*16≤140737488355328:=by omega
    have hnext:a11 I n ⟨96,[(1,.ref 1 0 0),(3,.arr 3 0 q.vars.length),(4,.arr 4 0 (i+1)),(40,s_ q.states),(41,iv q.states.length),(42,iv (i+1:Nat))],[(1,⟨false,taQ_,9,[qeaV q]⟩),(3,⟨true,ts_,1,q.vars.map AV.str⟩),(4,⟨true,ts_,1,(q.names.take (i+1)).map AV.str⟩)]⟩:=aa_ (n - 1) (by omega) (hI _ _ ⟨i+1,by omega,rfl⟩);have hrl:=tl_ (l:=q.names) (k:=i) (by omega);rw[tms_ (ns34 hy)] at hnext;generalize (q.names.take i).map AV.str=R at*
    repeat' (first|simp -implicitDefEqProofs only[go_sem,am_ hy,s13,hw,hrl,hbd]|refine ag_ (fun hb=>?_) (fun hb=>?_)|refine⟨fun hb=>?_,fun hb=>?_⟩|fail)
    exact hnext
   ·have:i=q.states.length:=by omega
    subst this;clear hI;rw[zM (show q.names.length≤q.states.length by omega),←hnl];have hck:=sCp_ hG q.decls (by omega) (fun d hd=>by have:=hq.types d hd;omega);have hnm:=sNp_ hG q.name;have hnv:=cnp_ hG q.vars (by omega);have hns:=cnp_ hG q.names (by omega);have haq:=caaQp_ (G:=G) nch1_ [] (by kernel_rfl) on_ (fun _ (y:QuantT)=>!(k_ y.type==[])) q.quants (fun i y _ =>ch1p_ i y) (by omega);have haf:=caaFp_ (G:=G) nch2_ [] (by kernel_rfl) on_ (fun _ (y:FreeT)=>y.init.ok) q.frees (fun i y _ =>ch2p_ i y) (by omega);have htv:List.take q.vars.length (q.vars.map AV.str)=q.vars.map AV.str:=zM (by simp);have htn:List.take q.names.length (q.names.map AV.str)=q.names.map AV.str:=zM (by simp);have hlv:(q.vars.map AV.str).length=q.vars.length:=by simp
    have hln:(q.names.map AV.str).length=q.names.length:=by simp
    unfold h18 at h;generalize d10 q.decls=dc at*;generalize n12 q.name=b1 at*;generalize allI (n15 q.vars) q.vars=b2 at*;generalize allI (n15 q.names) q.names=b3 at*;generalize allI (fun _ (y:QuantT)=>!(k_ y.type==[])) q.quants=b4 at*;generalize allI (fun _ (y:FreeT)=>y.init.ok) q.frees=b5 at*;simp only[qeaV,d_,q_,f_,s_,s10,n_,t_] at hck haq haf
    repeat' (first|simp -implicitDefEqProofs only[go_sem,qeaV,d_,q_,f_,s_,s10,n_,t_,zX]|refine ag_ (fun hb=>?_) (fun hb=>?_)|refine⟨fun hb=>?_,fun hb=>?_⟩|refine ac_ hck rfl rfl ?_|refine ac_ hnm rfl rfl ?_|(refine ac_ hnv ?_ rfl ?_;(focus (simp [v_,flat,viewBs,viewB,viewK,hget,htv,hlv];done)))|(refine ac_ hns ?_ rfl ?_;(focus (simp [v_,flat,viewBs,viewB,viewK,hget,htn,hln];done)))|refine ac_ haq rfl rfl ?_|refine ac_ haf rfl rfl ?_|fail)
    all_goals
     refine h _ ⟨_,_,rfl,rfl,fitB ?_⟩;clear h hck hnm hnv hns haq haf htv htn hlv hln;simp_all
     try (intros;omega)
def r16 (q:QeaT):Bool:=fewS q&&(h18 q&&(t41 q (e11 q) s12&&s19 q))
def n17 (l:List Str) (i:Nat) (s:Str):Bool:=n12 s&& !((l.take i).any fun x=>x==s)
def t35 (n:Int):Bool:=decide (1≤n)&&decide (n≤3)
def h17 (q:QeaT):Bool:=
 allI (fun _ (y:QuantT)=>t35 y.type) q.quants&&(allI (fun _ (y:FreeT)=>y.init.ok) q.frees&&(allI (n17 q.vars) q.vars&&(allI (n17 q.names) q.names&&n12 q.name)))
theorem rnp_ (q:QeaT) (hq:q.Few):PQ G np24 [qeaV q] (.bool (h17 q)):=by
 have h1:=hq.quants;have h2:=hq.frees;have h3:=hq.states;have hvl:=vl_ q;have hnl:=nl11 q;refine pp15 fun Φ h=>?_;unfold cp15;have fin:∀b heap,h17 q=b→Φ ⟨112,[(2,.bool b)],heap⟩:=fun b heap e=>h _ ⟨_,_,rfl,rfl,fitB e.symm⟩;clear h;generalize hR:h17 q=w at*;unfold h17 at hR;replace hR:=hR.symm
 try (simp -implicitDefEqProofs only[go_sem,qeaV,d_,q_,f_,s_,s10,n_,t_,zX])
 refine al_ (fun n st=>∃i:Nat,i+n=q.quants.length∧st=⟨112,[(1,.ref 1 0 0),(3,.arr 3 0 i),(4,iv i)],[(1,⟨false,taQ_,9,[qeaV q]⟩),(3,⟨true,ts_,1,(q.vars.take i).map AV.str⟩)]⟩∧∀j y,j<i→q.quants[j]? =some y→t35 y.type=true) q.quants.length ⟨0,by simp,rfl,fun j x hj=>by omega⟩ ?_;rintro I hI n st ⟨i,hi,rfl,hno⟩;simp -implicitDefEqProofs only[go_sem,qeaV,d_,q_,f_,s_,s10,n_,t_,zX];refine⟨fun hlt=>?_,fun hge=>?_⟩
 ·have hlt':i<q.quants.length:=by omega
  obtain⟨y,hy,hm⟩:=as10 hlt';have hw:=ws_ hlt' (by omega);have hbd:(i+1)*16≤140737488355328:=by omega
  have hnext:t35 y.type=true→a11 I n ⟨112,[(1,.ref 1 0 0),(3,.arr 3 0 (i+1)),(4,iv (i+1:Nat))],[(1,⟨false,taQ_,9,[qeaV q]⟩),(3,⟨true,ts_,1,(q.vars.take (i+1)).map AV.str⟩)]⟩:=fun hv=>aa_ (n - 1) (by omega) (hI _ _ ⟨i+1,by omega,rfl,as11 (p:=fun _ (y:QuantT)=>t35 y.type) hy hv hno⟩);have hbad:t35 y.type=false→w=false:=fun hv=>by rw[hR,af_ hy hv,xQ]
  have hrl:=tl_ (l:=q.vars) (k:=i) (by omega);rw[tms_ (vq_ hy)] at hnext;generalize (q.vars.take i).map AV.str=R at*
  repeat' (first|simp -implicitDefEqProofs only[go_sem,am_ hy,q11,hw,hrl,hbd]|refine ag_ (fun hb=>?_) (fun hb=>?_)|refine⟨fun hb=>?_,fun hb=>?_⟩|fail)
  all_goals first | refine hnext ?_ | refine fin _ _ (hbad ?_)
  all_goals
   clear hnext hbad fin hno hI hR;unfold t35;rw[yY];simp at*;omega
 ·have:i=q.quants.length:=by omega
  subst this;rw[aa12 (zE _) hno,xG] at hR;clear hI hno
  try (simp -implicitDefEqProofs only[go_sem,qeaV,d_,q_,f_,s_,s10,n_,t_,zX])
  refine al_ (fun n st=>∃i:Nat,i+n=q.frees.length∧st=⟨112,[(1,.ref 1 0 0),(3,.arr 3 0 (q.quants.length+i)),(5,iv i)],[(1,⟨false,taQ_,9,[qeaV q]⟩),(3,⟨true,ts_,1,(q.vars.take (q.quants.length+i)).map AV.str⟩)]⟩∧∀j y,j<i→q.frees[j]? =some y→y.init.ok=true) q.frees.length ⟨0,by simp,rfl,fun j x hj=>by omega⟩ ?_;rintro I hI n st ⟨i,hi,rfl,hno⟩;simp -implicitDefEqProofs only[go_sem,qeaV,d_,q_,f_,s_,s10,n_,t_,zX];refine⟨fun hlt=>?_,fun hge=>?_⟩
  ·have hlt':i<q.frees.length:=by omega
   obtain⟨y,hy,hm⟩:=as10 hlt';have hw:=ws_ hlt' (by omega);have hbd:(q.quants.length+i+1)*16≤140737488355328:=by omega
   have hnext:y.init.ok=true→a11 I n ⟨112,[(1,.ref 1 0 0),(3,.arr 3 0 (q.quants.length+i+1)),(5,iv (i+1:Nat))],[(1,⟨false,taQ_,9,[qeaV q]⟩),(3,⟨true,ts_,1,(q.vars.take (q.quants.length+i+1)).map AV.str⟩)]⟩:=fun hv=>aa_ (n - 1) (by omega) (hI _ _ ⟨i+1,by omega,rfl,as11 (p:=fun _ (y:FreeT)=>y.init.ok) hy hv hno⟩);have hbad:y.init.ok=false→w=false:=fun hv=>by rw[hR,af_ hy hv,xQ]
   have hrl:=tl_ (l:=q.vars) (k:=q.quants.length+i) (by omega);have hc:=rRp_ (G:=G) y.init;simp only[valV] at hc;rw[tms_ (vf_ hy)] at hnext;generalize (q.vars.take (q.quants.length+i)).map AV.str=R at*;generalize y.init.ok=b at*
   repeat' (first|simp -implicitDefEqProofs only[go_sem,am_ hy,f10,hw,hrl,hbd]|refine ag_ (fun hb=>?_) (fun hb=>?_)|refine⟨fun hb=>?_,fun hb=>?_⟩|refine ac_ hc rfl rfl ?_|fail)
   all_goals first | exact hnext (by simpa using hb) | exact fin _ _ (hbad (by simpa using hb))
  ·have:i=q.frees.length:=by omega
   subst this;rw[aa12 (zE _) hno,xG] at hR;clear hI hno;rw[zM (show q.vars.length≤q.quants.length+q.frees.length by omega),←hvl];have htv:List.take q.vars.length (q.vars.map AV.str)=q.vars.map AV.str:=zM (by simp);have hlv:(q.vars.map AV.str).length=q.vars.length:=by simp
   try (simp -implicitDefEqProofs only[go_sem,qeaV,d_,q_,f_,s_,s10,n_,t_,zX])
   refine al_ (fun n st=>∃i:Nat,i+n=q.vars.length∧st=⟨112,[(1,.ref 1 0 0),(3,.arr 3 0 q.vars.length),(6,iv i)],[(1,⟨false,taQ_,9,[qeaV q]⟩),(3,⟨true,ts_,1,q.vars.map AV.str⟩)]⟩∧∀j y,j<i→q.vars[j]? =some y→n17 q.vars j y=true) q.vars.length ⟨0,by simp,rfl,fun j x hj=>by omega⟩ ?_;rintro I hI n st ⟨i,hi,rfl,hno⟩;simp -implicitDefEqProofs only[go_sem,qeaV,d_,q_,f_,s_,s10,n_,t_,zX];refine⟨fun hlt=>?_,fun hge=>?_⟩
   ·have hlt':i<q.vars.length:=by omega
    obtain⟨y,hy,hm⟩:=as10 hlt';have hw:=ws_ hlt' (by omega);have hym:(q.vars.map AV.str)[i]? =some (.str y):=by simp [hy]
    have hnext:n17 q.vars i y=true→a11 I n ⟨112,[(1,.ref 1 0 0),(3,.arr 3 0 q.vars.length),(6,iv (i+1:Nat))],[(1,⟨false,taQ_,9,[qeaV q]⟩),(3,⟨true,ts_,1,q.vars.map AV.str⟩)]⟩:=fun hv=>aa_ (n - 1) (by omega) (hI _ _ ⟨i+1,by omega,rfl,as11 hy hv hno⟩);have hbad:n17 q.vars i y=false→w=false:=fun hv=>by rw[hR,af_ hy hv,xQ]
    have hc1:=rNp_ (G:=G) y;have hc2:=rtp_ (G:=G) q.vars (by omega) i y hy;unfold n17 at hnext hbad;generalize n12 y=b1 at*;generalize ((q.vars.take i).any fun x=>x==y)=b2 at*;clear hno hR
    repeat' (first|simp -implicitDefEqProofs only[go_sem,aa10 hlt',hym,hw,zX]|refine ag_ (fun hb=>?_) (fun hb=>?_)|refine⟨fun hb=>?_,fun hb=>?_⟩|refine ac_ hc1 rfl rfl ?_|(refine ac_ hc2 ?_ rfl ?_;(focus (simp [v_,flat,viewBs,viewB,viewK,hget,htv,hlv];done)))|fail)
    all_goals first | (refine hnext ?_;clear hnext hbad fin hI;simp_all;done) | (refine fin _ _ (hbad ?_);clear hnext hbad fin hI;simp_all;done)
   ·have:i=q.vars.length:=by omega
    subst this;rw[aa12 (zE _) hno,xG] at hR;clear hI hno;generalize q.vars.map AV.str=V at*
    try (simp -implicitDefEqProofs only[go_sem,qeaV,d_,q_,f_,s_,s10,n_,t_,zX])
    refine al_ (fun n st=>∃i:Nat,i+n=q.states.length∧st=⟨112,[(1,.ref 1 0 0),(7,.arr 7 0 i),(8,iv i)],[(1,⟨false,taQ_,9,[qeaV q]⟩),(3,⟨true,ts_,1,V⟩),(7,⟨true,ts_,1,(q.names.take i).map AV.str⟩)]⟩∧∀j y,j<i→q.names[j]? =some y→n17 q.names j y=true) q.states.length ⟨0,by simp,rfl,fun j x hj=>by omega⟩ ?_;rintro I hI n st ⟨i,hi,rfl,hno⟩;simp -implicitDefEqProofs only[go_sem,qeaV,d_,q_,f_,s_,s10,n_,t_,zX];refine⟨fun hlt=>?_,fun hge=>?_⟩
    ·have hlt':i<q.states.length:=by omega
     obtain⟨y,hy,hm⟩:=as10 hlt';have hw:=ws_ hlt' (by omega);have hyn:=ns34 hy;have hbd:(i+1)*16≤140737488355328:=by omega
     have hnext:n17 q.names i y.name=true→a11 I n ⟨112,[(1,.ref 1 0 0),(7,.arr 7 0 (i+1)),(8,iv (i+1:Nat))],[(1,⟨false,taQ_,9,[qeaV q]⟩),(3,⟨true,ts_,1,V⟩),(7,⟨true,ts_,1,(q.names.take (i+1)).map AV.str⟩)]⟩:=fun hv=>aa_ (n - 1) (by omega) (hI _ _ ⟨i+1,by omega,rfl,as11 hyn hv hno⟩);have hbad:n17 q.names i y.name=false→w=false:=fun hv=>by rw[hR,af_ hyn hv,xQ]
     have hc1:=rNp_ (G:=G) y.name;have hc2:=rtp_ (G:=G) (q.names.take (i+1)) (by simp;omega) i y.name (by rw[vL (by omega)];exact hyn);have hrl:=tl_ (l:=q.names) (k:=i) (by omega);rw[tms_ hyn,List.take_take,Nat.min_eq_left (by omega)] at hc2;unfold n17 at hnext hbad;rw[tms_ hyn] at hnext;generalize n12 y.name=b1 at*;generalize ((q.names.take i).any fun x=>x==y.name)=b2 at*;generalize (q.names.take i).map AV.str=R at*;have hat:(R++[AV.str y.name])[i]? =some (.str y.name):=by rw[xV (by omega),hrl,Nat.sub_self];rfl
     have htn:List.take (i+1) (R++[AV.str y.name])=R++[AV.str y.name]:=zM (by simp [hrl]);have hln:(R++[AV.str y.name]).length=i+1:=by simp [hrl]
     have hi1:i<i+1:=by omega
     clear hno hR
     repeat' (first|simp -implicitDefEqProofs only[go_sem,am_ hy,s13,aa10 hi1,hat,hw,hrl,hbd,zX]|refine ag_ (fun hb=>?_) (fun hb=>?_)|refine⟨fun hb=>?_,fun hb=>?_⟩|refine ac_ hc1 rfl rfl ?_|(refine ac_ hc2 ?_ rfl ?_;(focus (simp [v_,flat,viewBs,viewB,viewK,hget,htn,hln];done)))|fail)
     all_goals first | (refine hnext ?_;clear hnext hbad fin hI;simp_all;done) | (refine fin _ _ (hbad ?_);clear hnext hbad fin hI;simp_all;done)
    ·have:i=q.states.length:=by omega
     subst this;rw[aa12 (by omega) hno,xG] at hR;clear hI hno;have hc1:=rNp_ (G:=G) q.name
     repeat' (first|simp -implicitDefEqProofs only[go_sem,qeaV,d_,q_,f_,s_,s10,n_,t_]|refine ag_ (fun hb=>?_) (fun hb=>?_)|refine⟨fun hb=>?_,fun hb=>?_⟩|refine ac_ hc1 rfl rfl ?_|fail)
     all_goals exact fin _ _ hR
