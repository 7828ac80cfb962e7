/-
  Lemmas. No claim is proved here.
-/
import Derived.Test.YtkadalpaeglmnaaGreatDoorYTa5
set_option linter.unusedSimpArgs false
set_option maxHeartbeats 4000000
set_option maxRecDepth 100000
namespace Go.Proofs.YtkadalpaeglmnaaGreatDoor.Ab
open Go Go.RowKit
variable {G:Nat→Option AV}
def rowG (n:Nat) (f:Nat→AV):List AV:=(List.range n).map f
theorem ra_ {n:Nat} {f:Nat→AV} {i:Nat} (h:i<n):(rowG n f)[i]? =some (f i):=by simp [rowG,h]
theorem re10 {n:Nat} {f g:Nat→AV} (h:∀i,i<n→f i=g i):rowG n f=rowG n g:=vR fun i hi=>h i (yS.1 hi)
theorem rs19 {n:Nat} {f g:Nat→AV} {i:Nat} {v:AV} (h1:v=g i) (h2:∀j,j<n→j≠i→f j=g j):(rowG n f).set i v=rowG n g:=by
 refine wJ (by simp [rowG]) fun j h3 h4=>?_;rw[List.getElem_set];split
 ·rename_i e;subst e;simp [rowG,h1]
 ·rename_i e;simp only[rowG,vT,uP];exact h2 j (by simpa [rowG] using h4) (fun x=>e x.symm)
def symD (q:QeaT) (i:Nat):SymT:=match q.symbols[i]? with | some s=>s | none=>⟨0,[]⟩
def reT (P:List Nat) (t:TransT):TransT:=⟨t.from_,(P.idxOf t.symbol.toNat:Nat),t.to_,t.guard,t.sets⟩
def ordQ (q:QeaT):QeaT:={q with symbols:=(perm q.symbols.length (symN q.trans)).map (symD q),trans:=q.trans.map (reT (perm q.symbols.length (symN q.trans)))}
theorem dc_:∀(a b o:List Nat),dd o (a++b)=dd (dd o a) b
 | [],_,_ =>rfl
 | x::a,b,o=>by
  show (if x∈o then dd o (a++b) else dd (o++[x]) (a++b))=dd (if x∈o then dd o a else dd (o++[x]) a) b;split
  ·exact dc_ a b o
  ·exact dc_ a b _
theorem im_ {A B:List Nat} {x:Nat} (h:x∉A):(A++x::B).idxOf x=A.length:=by rw[List.idxOf_append,zF h,List.idxOf_cons_self,yT]
theorem rm_ {n x:Nat} {ks:List Nat}:x∈r_ n ks↔x<n∧x∉ks:=by unfold r_;rw[yG,yS];simp
theorem ir11 {n i:Nat} {L D:List Nat} (hi:i<n) (hL:i∉L):(r_ n L++D).idxOf i=(r_ i L).length:=by
 have e:∃B,r_ n L=r_ i L++i::B:=by obtain⟨d,rfl⟩:∃d,n=i+1+d:=⟨n - (i+1),by omega⟩;refine⟨((List.range d).map (i+1+·)).filter fun x=>decide (x∉L),?_⟩;unfold r_;rw[List.range_add,wA,sJ,wA,yI];simp [hL]
 obtain⟨B,hB⟩:=e;rw[hB,yI,uF];exact im_ fun h=>by have:=(rm_.1 h).1;omega
theorem id_ {n k s:Nat} {L:List Nat} (hs:L[k]? =some s) (hn:s∉L.take k):(r_ n L++dd [] L).idxOf s=(r_ n L++dd [] (L.take k)).length:=by
 have hsL:s∈L:=List.mem_of_getElem? hs;have hdo:s∉dd [] (L.take k):=fun h=>hn (by rw[dm_] at h;simpa using h);have e:∃B,dd [] L=dd [] (L.take k)++s::B:=by
  have h1:L=L.take k++s::L.drop (k+1):=by rw[←d16 hs,vA]
  obtain⟨B,hB⟩:=da_ (L.drop (k+1)) (dd [] (L.take k)++[s]);refine⟨B,?_⟩
  conv=>lhs;rw[h1]
  rw[dc_,dd,zF hdo,hB,yI];rfl
 obtain⟨B,hB⟩:=e;rw[hB,←yI];exact im_ fun h=>by
  rcases yB.1 h with h | h
  ·exact (rm_.1 h).2 hsL
  ·exact hdo h
theorem rop_ (q:QeaT) (hn:q.symbols.length≤1000) (htl:q.trans.length≤1000) (hsy:∀t∈q.trans,0≤t.symbol∧t.symbol<q.symbols.length):PQ G npo_ [qeaV q] (qeaV (ordQ q)):=by
 have hb1:q.symbols.length*1≤140737488355328:=by omega
 have hb8:q.symbols.length*8≤140737488355328:=by omega
 refine ppo_ fun Φ h=>?_;unfold cpo_;unfold ordQ at h;generalize hP:perm q.symbols.length (symN q.trans)=P at*;have hr0:List.replicate q.symbols.length (AV.bool false)=rowG q.symbols.length (fun i=>.bool (decide (i∈(symN q.trans).take 0))):=by refine wJ (by simp [rowG]) fun i h1 h2=>by simp [rowG]
 repeat' (first|simp -implicitDefEqProofs only[go_sem,qeaV,d_,q_,f_,s_,s10,n_,t_,zX,an_ hb1]|refine ag_ (fun hb=>?_) (fun hb=>?_)|refine⟨fun hb=>?_,fun hb=>?_⟩|fail)
 refine al_ (fun n st=>∃k:Nat,k+n=q.trans.length∧st=⟨108,[(1,.ref 1 0 0),(2,.ref 2 0 0),(3,.arr 15 0 q.symbols.length),(4,iv (k:Int))],[(1,⟨false,taQ_,9,[qeaV q]⟩),(2,⟨false,taQ_,9,[z_]⟩),(15,⟨true,tb_,1,rowG q.symbols.length (fun i=>.bool (decide (i∈(symN q.trans).take k)))⟩)]⟩) q.trans.length ⟨0,by simp,by rw[←hr0];rfl⟩ ?_;rintro I hI n st ⟨k,hk,rfl⟩;by_cases hlk:k<q.trans.length
 ·have hlt:decide ((k:Int)<(q.trans.length:Int))=true:=by simpa using hlk
  have hw:=ws_ hlk (by omega);obtain⟨t,hx,hxm⟩:=as10 hlk;obtain⟨s0,s1⟩:=hsy t hxm;obtain⟨s,hs⟩:=zS s0;have hsl:s<q.symbols.length:=by omega
  have hst:(symN q.trans).take (k+1)=(symN q.trans).take k++[s]:=by
   have:(symN q.trans)[k]? =some s:=by simp [symN,hx,hs]
   exact t33 this
  have hset:(rowG q.symbols.length (fun i=>.bool (decide (i∈(symN q.trans).take k)))).set s (.bool true)=rowG q.symbols.length (fun i=>.bool (decide (i∈(symN q.trans).take (k+1)))):=rs19 (by rw[hst];simp) (fun j _ hj=>by rw[hst];simp [hj]);have hat:=ra_ (f:=fun i=>AV.bool (decide (i∈(symN q.trans).take k))) hsl;have hnx:=hI (n - 1) _ ⟨k+1,by omega,rfl⟩;rw[←hset] at hnx;clear hI h hset;obtain⟨t1,t2,t3,t4,t5⟩:=t;dsimp only at hs;subst hs
  repeat' (first|simp -implicitDefEqProofs only[go_sem,qeaV,d_,q_,f_,s_,s10,n_,t_,zX,hlt,am_ hx,t11,s14,aa10 hsl,hat,hw]|refine ag_ (fun hb=>?_) (fun hb=>?_)|refine⟨fun hb=>?_,fun hb=>?_⟩|fail)
  exact aa_ (n - 1) (by omega) hnx
 ·have hlt:decide ((k:Int)<(q.trans.length:Int))=false:=by simp;omega
  have hk':(symN q.trans).take k=symN q.trans:=zM (by simp [symN];omega);rw[hk'];clear hI;have hPe:P=r_ q.symbols.length (symN q.trans)++dd [] (symN q.trans):=hP.symm;generalize hLL:symN q.trans=L at*;have hr8:List.replicate q.symbols.length (iv 0)=rowG q.symbols.length (fun j=>iv (if j<0∧j∉L then (P.idxOf j:Nat) else (0:Int))):=by refine wJ (by simp [rowG]) fun i h1 h2=>by simp [rowG]
  have hrl:∀i,(r_ i L).length≤i:=fun i=>wB (xK _ _) (by simp)
  repeat' (first|simp -implicitDefEqProofs only[go_sem,qeaV,d_,q_,f_,s_,s10,n_,t_,zX,hlt,an_ hb8]|refine ag_ (fun hb=>?_) (fun hb=>?_)|refine⟨fun hb=>?_,fun hb=>?_⟩|fail)
  refine al_ (fun n st=>∃i:Nat,i+n=q.symbols.length∧st=⟨108,[(1,.ref 1 0 0),(2,.ref 2 0 0),(3,.arr 15 0 q.symbols.length),(5,.arr 34 0 q.symbols.length),(6,.arr 6 0 (r_ i L).length),(7,iv (i:Int))],[(1,⟨false,taQ_,9,[qeaV q]⟩),(2,⟨false,taQ_,9,[z_]⟩),(15,⟨true,tb_,1,rowG q.symbols.length (fun i=>.bool (decide (i∈L)))⟩),(34,⟨true,ti_,1,rowG q.symbols.length (fun j=>iv (if j<i∧j∉L then (P.idxOf j:Nat) else (0:Int)))⟩),(6,⟨true,taS_,2,(r_ i L).map fun i=>symV (symD q i)⟩)]⟩) q.symbols.length ⟨0,by simp,by rw[←hr8];rfl⟩ ?_;rintro I hI n st ⟨i,hi,rfl⟩;by_cases hli:i<q.symbols.length
  ·have hlt2:decide ((i:Int)<(q.symbols.length:Int))=true:=by simpa using hli
   have hw:=ws_ hli (by omega);have hat:=ra_ (f:=fun i=>AV.bool (decide (i∈L))) hli;have hat2:=ra_ (f:=fun j=>iv (if j<i∧j∉L then (P.idxOf j:Nat) else (0:Int))) hli;obtain⟨y,hy,_⟩:=as10 hli;have hyD:symD q i=y:=by unfold symD;rw[hy]
   have hnx:=hI (n - 1) _ ⟨i+1,by omega,rfl⟩;have hrs:=rs20 i L;by_cases hin:i∈L
   ·rw[xM hin] at hat;rw[zG hin,xW] at hrs;rw[hrs] at hnx;rw[show rowG q.symbols.length (fun j=>iv (if j<i+1∧j∉L then (P.idxOf j:Nat) else (0:Int)))=rowG q.symbols.length (fun j=>iv (if j<i∧j∉L then (P.idxOf j:Nat) else (0:Int))) from re10 fun j _ =>by
     by_cases hj:j=i
     ·subst hj;simp [hin]
     ·simp only[show (j<i+1∧j∉L)↔(j<i∧j∉L) from ⟨fun h=>⟨by omega,h.2⟩,fun h=>⟨by omega,h.2⟩⟩]] at hnx
    clear hI h
    repeat' (first|simp -implicitDefEqProofs only[go_sem,qeaV,d_,q_,f_,s_,s10,n_,t_,zX,hlt2,aa10 hli,hat,hw]|refine ag_ (fun hb=>?_) (fun hb=>?_)|refine⟨fun hb=>?_,fun hb=>?_⟩|fail)
    exact aa_ (n - 1) (by omega) hnx
   ·rw[wE hin] at hat;rw[zF hin] at hrs;have hidx:P.idxOf i=(r_ i L).length:=by rw[hPe];exact ir11 hli hin
    have hb2:((r_ i L).length+1)*32≤140737488355328:=by have:=hrl i;omega
    have hset:(rowG q.symbols.length (fun j=>iv (if j<i∧j∉L then (P.idxOf j:Nat) else (0:Int)))).set i (iv ((r_ i L).length:Int))=rowG q.symbols.length (fun j=>iv (if j<i+1∧j∉L then (P.idxOf j:Nat) else (0:Int))):=rs19 (by rw[zG ⟨by omega,hin⟩,hidx]) (fun j _ hj=>by simp only[show (j<i+1∧j∉L)↔(j<i∧j∉L) from ⟨fun h=>⟨by omega,h.2⟩,fun h=>⟨by omega,h.2⟩⟩]);rw[hrs,zR,show (r_ i L++[i]).length=(r_ i L).length+1 by simp,←hset,wY,hyD] at hnx;clear hI h hset hr8;obtain⟨y1,y2⟩:=y
    repeat' (first|simp -implicitDefEqProofs only[go_sem,qeaV,d_,q_,f_,s_,s10,n_,t_,zX,hlt2,aa10 hli,hat,hat2,hw,am_ hy,symV,a_,hb2]|refine ag_ (fun hb=>?_) (fun hb=>?_)|refine⟨fun hb=>?_,fun hb=>?_⟩|fail)
    exact aa_ (n - 1) (by omega) hnx
  ·have hlt2:decide ((i:Int)<(q.symbols.length:Int))=false:=by simp;omega
   obtain rfl:i=q.symbols.length:=by omega
   clear hI;have hLl:L.length=q.trans.length:=by rw[←hLL];simp [symN]
   have hrl2:=hrl q.symbols.length;have h34:rowG q.symbols.length (fun j=>iv (if j<q.symbols.length∧j∉L then (P.idxOf j:Nat) else (0:Int)))=rowG q.symbols.length (fun j=>iv (if j∉L∨j∈L.take 0 then (P.idxOf j:Nat) else (0:Int))):=re10 fun j hj=>by simp [hj]
   have h15:rowG q.symbols.length (fun i=>.bool (decide (i∈L)))=rowG q.symbols.length (fun j=>.bool (decide (j∈L∧j∉L.take 0))):=re10 fun j hj=>by simp
   have h6:r_ q.symbols.length L=r_ q.symbols.length L++dd [] (L.take 0):=by simp [dd]
   rw[h34,h15]
   repeat' (first|simp -implicitDefEqProofs only[go_sem,qeaV,d_,q_,f_,s_,s10,n_,t_,zX,hlt2]|refine ag_ (fun hb=>?_) (fun hb=>?_)|refine⟨fun hb=>?_,fun hb=>?_⟩|fail)
   refine al_ (fun n st=>∃k:Nat,k+n=q.trans.length∧st=⟨108,[(1,.ref 1 0 0),(2,.ref 2 0 0),(3,.arr 15 0 q.symbols.length),(5,.arr 34 0 q.symbols.length),(6,.arr 6 0 (r_ q.symbols.length L++dd [] (L.take k)).length),(8,.arr 8 0 (q.trans.take k).length),(9,iv (k:Int))],[(1,⟨false,taQ_,9,[qeaV q]⟩),(2,⟨false,taQ_,9,[z_]⟩),(15,⟨true,tb_,1,rowG q.symbols.length (fun j=>.bool (decide (j∈L∧j∉L.take k)))⟩),(34,⟨true,ti_,1,rowG q.symbols.length (fun j=>iv (if j∉L∨j∈L.take k then (P.idxOf j:Nat) else (0:Int)))⟩),(6,⟨true,taS_,2,(r_ q.symbols.length L++dd [] (L.take k)).map fun i=>symV (symD q i)⟩),(8,⟨true,taT_,5,((q.trans.take k).map (reT P)).map t11⟩)]⟩) q.trans.length ⟨0,by simp,by rw[←h6];rfl⟩ ?_;rintro I hI n st ⟨k,hk,rfl⟩;clear h6 h34 h15 hlt hlt2 hli;by_cases hlk:k<q.trans.length
   ·have hlt:decide ((k:Int)<(q.trans.length:Int))=true:=by simpa using hlk
    have hw:=ws_ hlk (by omega);obtain⟨t,hx,hxm⟩:=as10 hlk;obtain⟨s0,s1⟩:=hsy t hxm;obtain⟨s,hs⟩:=zS s0;have hsl:s<q.symbols.length:=by omega
    have hLk:L[k]? =some s:=by rw[←hLL];simp [symN,hx,hs]
    have hsL:=List.mem_of_getElem? hLk;have hst:L.take (k+1)=L.take k++[s]:=t33 hLk;have hat:=ra_ (f:=fun j=>AV.bool (decide (j∈L∧j∉L.take k))) hsl;have hat2:=ra_ (f:=fun j=>iv (if j∉L∨j∈L.take k then (P.idxOf j:Nat) else (0:Int))) hsl;have hdl:(dd [] (L.take k)).length≤1000:=by
     have h1:=dn_ (L.take k) List.nodup_nil;have h2:∀x∈dd [] (L.take k),x<1000:=fun x hx=>by have h3:=(dm_ _ _ _).1 hx;have h4:x∈L:=wH (by simpa using h3);rw[←hLL] at h4;obtain⟨u,hu,rfl⟩:=zI.1 h4;have:=hsy u hu;show u.symbol.toNat<1000;omega
     exact ns_ h1 h2
    have hnx:=hI (n - 1) _ ⟨k+1,by omega,rfl⟩;have hre:reT P t=⟨t.from_,(P.idxOf s:Nat),t.to_,t.guard,t.sets⟩:=by unfold reT;rw[hs];rfl
    have eT:((q.trans.take (k+1)).map (reT P)).map t11=((q.trans.take k).map (reT P)).map t11++[t11 ⟨t.from_,(P.idxOf s:Nat),t.to_,t.guard,t.sets⟩]:=by rw[t33 hx];simp [hre]
    have eTl:(q.trans.take (k+1)).length=k+1:=by simp;omega
    have eD:dd [] (L.take (k+1))=dd (dd [] (L.take k)) [s]:=by rw[hst,dc_]
    rw[eT,eTl,eD,hst] at hnx;have htk:(q.trans.take k).length=k:=by simp;omega
    have hb3:(k+1)*56≤140737488355328:=by omega
    by_cases hin:s∈L.take k
    ·have hm:s∈dd [] (L.take k):=(dm_ _ _ _).2 (.inr hin);rw[show dd (dd [] (L.take k)) [s]=dd [] (L.take k) by simp [dd,hm]] at hnx;rw[wE (fun h=>h.2 hin)] at hat;rw[zG (.inr hin)] at hat2;have e1:rowG q.symbols.length (fun j=>.bool (decide (j∈L∧j∉L.take k++[s])))=rowG q.symbols.length (fun j=>.bool (decide (j∈L∧j∉L.take k))):=re10 fun j _ =>by
      by_cases hj:j=s
      ·subst hj;simp [hin]
      ·simp [hj]
     have e2:rowG q.symbols.length (fun j=>iv (if j∉L∨j∈L.take k++[s] then (P.idxOf j:Nat) else (0:Int)))=rowG q.symbols.length (fun j=>iv (if j∉L∨j∈L.take k then (P.idxOf j:Nat) else (0:Int))):=re10 fun j _ =>by
      by_cases hj:j=s
      ·subst hj;simp [hin]
      ·simp [hj]
     rw[e1,e2] at hnx;clear hI h e1 e2 hre eT eD eTl;obtain⟨t1,t2,t3,t4,t5⟩:=t;dsimp only at hs;subst hs;rw[htk]
     repeat' (first|simp -implicitDefEqProofs only[go_sem,qeaV,d_,q_,f_,s_,s10,n_,t_,zX,hlt,am_ hx,t11,s14,aa10 hsl,hat,hat2,hw,htk,hb3,z_]|refine ag_ (fun hb=>?_) (fun hb=>?_)|refine⟨fun hb=>?_,fun hb=>?_⟩|fail)
     exact aa_ (n - 1) (by omega) hnx
    ·have hm:s∉dd [] (L.take k):=fun h=>hin (by rw[dm_] at h;simpa using h);rw[show dd (dd [] (L.take k)) [s]=dd [] (L.take k)++[s] by simp [dd,hm]] at hnx;rw[xM ⟨hsL,hin⟩] at hat;have hidx:P.idxOf s=(r_ q.symbols.length L++dd [] (L.take k)).length:=by rw[hPe];exact id_ hLk hin
     have e1:(rowG q.symbols.length (fun j=>.bool (decide (j∈L∧j∉L.take k)))).set s (.bool false)=rowG q.symbols.length (fun j=>.bool (decide (j∈L∧j∉L.take k++[s]))):=rs19 (by simp) (fun j _ hj=>by simp [hj]);have e2:(rowG q.symbols.length (fun j=>iv (if j∉L∨j∈L.take k then (P.idxOf j:Nat) else (0:Int)))).set s (iv (((r_ q.symbols.length L++dd [] (L.take k)).length:Nat):Int))=rowG q.symbols.length (fun j=>iv (if j∉L∨j∈L.take k++[s] then (P.idxOf j:Nat) else (0:Int))):=rs19 (by rw[zG (.inr (by simp)),hidx]) (fun j _ hj=>by simp [hj]);obtain⟨y,hy,_⟩:=as10 hsl;have hyD:symD q s=y:=by unfold symD;rw[hy]
     have e3:(rowG q.symbols.length (fun j=>iv (if j∉L∨j∈L.take k++[s] then (P.idxOf j:Nat) else (0:Int))))[s]? =some (iv (((r_ q.symbols.length L++dd [] (L.take k)).length:Nat):Int)):=by rw[ra_ hsl,zG (.inr (by simp)),hidx]
     have hol:(r_ q.symbols.length L++dd [] (L.take k)).length≤2000:=by rw[zB];omega
     rw[←yI,hidx] at hnx;have hb2:((r_ q.symbols.length L++dd [] (L.take k)).length+1)*32≤140737488355328:=by omega
     rw[zF (by simp [hsL,hin])] at hat2;clear hI h hre hidx hrl hrl2 hdl hol;clear eT eD eTl;generalize r_ q.symbols.length L++dd [] (L.take k)=O at*;rw[show (O++[s]).map (fun i=>symV (symD q i))=O.map (fun i=>symV (symD q i))++[symV y] by simp [hyD],show (O++[s]).length=O.length+1 by simp] at hnx;obtain⟨t1,t2,t3,t4,t5⟩:=t;obtain⟨y1,y2⟩:=y;dsimp only at hs;subst hs;rw[htk]
     repeat' (first|simp -implicitDefEqProofs only[go_sem,qeaV,d_,q_,f_,s_,s10,n_,t_,zX,hlt,am_ hx,t11,s14,aa10 hsl,hat,hat2,hw,htk,hb2,hb3,e1,e2,e3,z_,am_ hy,symV,a_]|refine ag_ (fun hb=>?_) (fun hb=>?_)|refine⟨fun hb=>?_,fun hb=>?_⟩|fail)
     exact aa_ (n - 1) (by omega) hnx
   ·have hlt:decide ((k:Int)<(q.trans.length:Int))=false:=by simp;omega
    have t1:q.trans.take k=q.trans:=zM (by omega);have t2:L.take k=L:=zM (by omega);rw[t1,t2,←hPe];clear hI
    repeat' (first|simp -implicitDefEqProofs only[go_sem,qeaV,d_,q_,f_,s_,s10,n_,t_,z_,zX,hlt]|refine ag_ (fun hb=>?_) (fun hb=>?_)|refine⟨fun hb=>?_,fun hb=>?_⟩|fail)
    have k1:(P.map fun i=>symV (symD q i)).take P.length=P.map fun i=>symV (symD q i):=t25 _ _;have k2:((q.trans.map (reT P)).map t11).take q.trans.length=(q.trans.map (reT P)).map t11:=zM (by simp);have k3:((q.trans.map (reT P)).map t11).length=q.trans.length:=by simp
    have k4:(P.map (symD q)).map symV=P.map fun i=>symV (symD q i):=by simp
    refine h _ ⟨_,_,rfl,?_,.refl _⟩;simp only[qeaV,d_,q_,f_,s_,s10,n_,t_,k4];generalize (q.trans.map (reT P)).map t11=TR at*;simp [one,eget,view,view.go,AV.cells,viewK,viewK.go,viewB,viewBs,hget,k1,k2,k3]
def cp10:AFun:=⟨149,1,[.cells 2 9],
 (.seq (.reg [⟨some 1,.box taQ_ 9 (.t 0),none⟩,
⟨some 2,.alloc taQ_ 9 (.agg [.str [],.nils,.nils,.nils,.nils,.int .i64 0,.nils,.nils,.nils]),none⟩]
[1,2])
(.seq (.reg [⟨some 13,.loadN (.t 1) 9,none⟩,
⟨some 14,.call np21 [.t 13],none⟩,
⟨some 3,.mov (.t 14),none⟩]
[1,2,3])
(.seq (.reg [⟨some 15,.loadN (.t 1) 9,none⟩,
⟨some 4,.alloc taQ_ 9 (.agg [.str [],.nils,.nils,.nils,.nils,.int .i64 0,.nils,.nils,.nils]),none⟩,
⟨none,.store (.t 4) (.t 15) 9,none⟩]
[1,2,3,4])
(.seq (.reg [⟨some 16,.faddr (.t 4) 4,none⟩,
⟨none,.store (.t 16) (.k (.nils)) 1,none⟩]
[1,2,3,4])
(.seq (.reg [⟨some 17,.faddr (.t 4) 7,none⟩,
⟨none,.store (.t 17) (.k (.nils)) 1,none⟩]
[1,2,3,4])
(.seq (.reg [⟨some 18,.faddr (.t 4) 8,none⟩,
⟨none,.store (.t 18) (.k (.nils)) 1,none⟩]
[1,2,3,4])
(.seq (.seq (.reg [⟨some 5,.mov (.k (.int .i64 0)),none⟩]
[1,2,3,4,5])
(.block 0
(.loop [1,2,3,4,5] [1,2,4,39]
 (.seq (.seq (.reg [⟨some 19,.mov (.t 5),none⟩,
⟨some 20,.faddr (.t 1) 4,none⟩,
⟨some 21,.load (.t 20),none⟩,
⟨some 22,.len false (.t 21),none⟩,
⟨some 23,.bin .lss (.t 19) (.t 22),none⟩]
[1,2,3,4,5,23])
(.cond (.t 23)
.skip
(.exit 0)))
(.seq (.block 1
(.seq (.reg [⟨some 26,.mov (.t 3),none⟩,
⟨some 27,.mov (.t 5),none⟩,
⟨some 28,.iaddr 1 (.t 26) (.t 27),none⟩,
⟨some 29,.load (.t 28),none⟩,
⟨some 30,.bin .geq (.t 29) (.k (.int .i64 0)),none⟩]
[1,2,3,4,5,30])
(.cond (.t 30)
(.dregC [⟨some 31,.faddr (.t 4) 4,none⟩,
⟨some 32,.load (.t 31),none⟩,
⟨some 33,.faddr (.t 1) 4,none⟩,
⟨some 34,.load (.t 33),none⟩,
⟨some 35,.mov (.t 5),none⟩,
⟨some 36,.iaddr 3 (.t 34) (.t 35),none⟩,
⟨some 37,.loadN (.t 36) 3,none⟩,
⟨some 38,.mkrow ta15 3 1 (.agg [.str [],.bool false,.bool false]) [(0,.t 37)],none⟩,
⟨some 39,.app ta15 3 24 (.t 32) (.t 38),none⟩,
⟨some 40,.faddr (.t 4) 4,none⟩,
⟨none,.store (.t 40) (.t 39) 1,none⟩]
[7,8,10] [0,0,0,0,0,0,0,1,2,2,3] [1,1,0,0,0,0,0,3,3,2,3] [([0,1,2,3,4,5,6],[]),([],[0,1]),([9],[]),([],[])] [1,2,3,4,5,31,32,33,34,35,36,37,38,39,40]
[1,2,3,4,5])
.skip)))
(.reg [⟨some 24,.mov (.t 5),none⟩,
⟨some 25,.bin .add (.t 24) (.k (.int .i64 1)),none⟩,
⟨some 5,.mov (.t 25),none⟩]
[1,2,3,4,5]))))))
(.seq (.reg [⟨some 41,.mov (.t 3),none⟩,
⟨some 42,.faddr (.t 1) 5,none⟩,
⟨some 43,.load (.t 42),none⟩,
⟨some 44,.iaddr 1 (.t 41) (.t 43),none⟩,
⟨some 45,.load (.t 44),none⟩,
⟨some 46,.faddr (.t 4) 5,none⟩,
⟨none,.store (.t 46) (.t 45) 1,none⟩]
[1,2,3,4])
(.seq (.seq (.reg [⟨some 6,.mov (.k (.int .i64 0)),none⟩]
[1,2,3,4,6])
(.block 2
(.loop [1,2,3,4,6] [1,2,4,39,91,145]
 (.seq (.seq (.reg [⟨some 47,.mov (.t 6),none⟩,
⟨some 48,.faddr (.t 1) 8,none⟩,
⟨some 49,.load (.t 48),none⟩,
⟨some 50,.len false (.t 49),none⟩,
⟨some 51,.bin .lss (.t 47) (.t 50),none⟩]
[1,2,3,4,6,51])
(.cond (.t 51)
.skip
(.exit 2)))
(.seq (.block 3
(.seq (.reg [⟨some 54,.faddr (.t 1) 8,none⟩,
⟨some 55,.load (.t 54),none⟩,
⟨some 56,.mov (.t 6),none⟩,
⟨some 57,.iaddr 5 (.t 55) (.t 56),none⟩,
⟨some 58,.loadN (.t 57) 5,none⟩,
⟨some 7,.alloc taT_ 5 (.agg [.int .i64 0,.int .i64 0,.int .i64 0,.int .i64 0,.nils]),none⟩,
⟨none,.store (.t 7) (.t 58) 5,none⟩]
[1,2,3,4,6,7])
(.seq (.seq (.reg [⟨some 59,.mov (.t 3),none⟩,
⟨some 60,.faddr (.t 7) 0,none⟩,
⟨some 61,.load (.t 60),none⟩,
⟨some 62,.iaddr 1 (.t 59) (.t 61),none⟩,
⟨some 63,.load (.t 62),none⟩,
⟨some 64,.bin .lss (.t 63) (.k (.int .i64 0)),none⟩]
[1,2,3,4,6,7,64])
(.cond (.t 64)
(.exit 3)
.skip))
(.seq (.reg [⟨some 65,.loadN (.t 1) 9,none⟩,
⟨some 66,.mov (.t 6),none⟩,
⟨some 67,.call np27 [.t 65,.t 66],none⟩,
⟨some 8,.mov (.t 67),none⟩]
[1,2,3,4,6,7,8])
(.seq (.reg [⟨some 68,.mov (.t 8),none⟩,
⟨some 69,.faddr (.t 4) 7,none⟩,
⟨some 70,.load (.t 69),none⟩,
⟨some 71,.len false (.t 70),none⟩,
⟨some 72,.bin .sub (.t 68) (.t 71),none⟩,
⟨some 9,.mov (.t 72),none⟩]
[1,2,3,4,6,7,8,9])
(.seq (.seq (.reg [⟨some 73,.mov (.t 8),none⟩,
⟨some 10,.mov (.t 73),none⟩]
[1,2,3,4,6,7,8,9,10])
(.block 4
(.loop [1,2,3,4,6,7,8,9,10] [1,2,4,7,39,91,145]
 (.seq (.seq (.reg [⟨some 74,.mov (.t 10),none⟩,
⟨some 75,.loadN (.t 7) 5,none⟩,
⟨some 76,.mov (.t 8),none⟩,
⟨some 77,.call npe_ [.t 75,.t 76],none⟩,
⟨some 78,.bin .lss (.t 74) (.t 77),none⟩]
[1,2,3,4,6,7,8,9,10,78])
(.cond (.t 78)
.skip
(.exit 4)))
(.seq (.block 5
(.dregC [⟨some 81,.faddr (.t 4) 7,none⟩,
⟨some 82,.load (.t 81),none⟩,
⟨some 83,.faddr (.t 1) 7,none⟩,
⟨some 84,.load (.t 83),none⟩,
⟨some 85,.mov (.t 10),none⟩,
⟨some 86,.iaddr 7 (.t 84) (.t 85),none⟩,
⟨some 87,.loadN (.t 86) 7,none⟩,
⟨some 88,.mov (.t 9),none⟩,
⟨some 89,.call npm_ [.t 87,.t 88],none⟩,
⟨some 90,.mkrow taN_ 7 1 (.agg [.int .i64 0,.int .i64 0,.int .i64 0,.int .i64 0,.int .i64 0,.str [],.bool false]) [(0,.t 89)],none⟩,
⟨some 91,.app taN_ 7 64 (.t 82) (.t 90),none⟩,
⟨some 92,.faddr (.t 4) 7,none⟩,
⟨none,.store (.t 92) (.t 91) 1,none⟩]
[9,10,12] [0,0,0,0,0,0,0,0,0,1,2,2,3] [1,1,0,0,0,0,0,0,0,3,3,2,3] [([0,1,2,3,4,5,6,7,8],[]),([],[0,1]),([11],[]),([],[])] [1,2,3,4,6,7,8,9,10,81,82,83,84,85,86,87,88,89,90,91,92]
[1,2,3,4,6,7,8,9,10]))
(.reg [⟨some 79,.mov (.t 10),none⟩,
⟨some 80,.bin .add (.t 79) (.k (.int .i64 1)),none⟩,
⟨some 10,.mov (.t 80),none⟩]
[1,2,3,4,6,7,8,9,10]))))))
(.seq (.dregA [⟨some 93,.mov (.t 3),none⟩,
⟨some 94,.faddr (.t 7) 0,none⟩,
⟨some 95,.load (.t 94),none⟩,
⟨some 96,.iaddr 1 (.t 93) (.t 95),none⟩,
⟨some 97,.load (.t 96),none⟩,
⟨some 98,.faddr (.t 7) 1,none⟩,
⟨some 99,.load (.t 98),none⟩,
⟨some 100,.mov (.t 3),none⟩,
⟨some 101,.faddr (.t 7) 2,none⟩,
⟨some 102,.load (.t 101),none⟩,
⟨some 103,.iaddr 1 (.t 100) (.t 102),none⟩,
⟨some 104,.load (.t 103),none⟩,
⟨some 105,.build [.int .i64 0,.int .i64 0,.int .i64 0,.int .i64 0,.nils] [(0,1,.t 97),(1,1,.t 99),(2,1,.t 104),(3,1,.k (.int .i64 (-1)))],none⟩,
⟨some 11,.alloc taT_ 5 (.agg [.int .i64 0,.int .i64 0,.int .i64 0,.int .i64 0,.nils]),none⟩,
⟨none,.store (.t 11) (.t 105) 5,none⟩] 13 14 [1,2,3,4,6,7,9,11,93,94,95,96,97,98,99,100,101,102,103,104,105]
[1,2,3,4,6,7,9,11])
(.seq (.seq (.reg [⟨some 106,.faddr (.t 7) 3,none⟩,
⟨some 107,.load (.t 106),none⟩,
⟨some 108,.bin .geq (.t 107) (.k (.int .i64 0)),none⟩]
[1,2,3,4,6,7,9,11,108])
(.cond (.t 108)
(.reg [⟨some 109,.faddr (.t 7) 3,none⟩,
⟨some 110,.load (.t 109),none⟩,
⟨some 111,.mov (.t 9),none⟩,
⟨some 112,.bin .sub (.t 110) (.t 111),none⟩,
⟨some 113,.faddr (.t 11) 3,none⟩,
⟨none,.store (.t 113) (.t 112) 1,none⟩]
[1,2,3,4,6,7,9,11])
.skip))
(.seq (.seq (.reg [⟨some 12,.mov (.k (.int .i64 0)),none⟩]
[1,2,3,4,6,7,9,11,12])
(.block 6
(.loop [1,2,3,4,6,7,9,11,12] [1,2,4,7,11,39,91,139,145]
 (.seq (.seq (.reg [⟨some 114,.mov (.t 12),none⟩,
⟨some 115,.faddr (.t 7) 4,none⟩,
⟨some 116,.load (.t 115),none⟩,
⟨some 117,.len false (.t 116),none⟩,
⟨some 118,.bin .lss (.t 114) (.t 117),none⟩]
[1,2,3,4,6,7,9,11,12,118])
(.cond (.t 118)
.skip
(.exit 6)))
(.seq (.block 7
(.dregC [⟨some 121,.faddr (.t 11) 4,none⟩,
⟨some 122,.load (.t 121),none⟩,
⟨some 123,.faddr (.t 7) 4,none⟩,
⟨some 124,.load (.t 123),none⟩,
⟨some 125,.mov (.t 12),none⟩,
⟨some 126,.iaddr 2 (.t 124) (.t 125),none⟩,
⟨some 127,.faddr (.t 126) 0,none⟩,
⟨some 128,.load (.t 127),none⟩,
⟨some 129,.faddr (.t 7) 4,none⟩,
⟨some 130,.load (.t 129),none⟩,
⟨some 131,.mov (.t 12),none⟩,
⟨some 132,.iaddr 2 (.t 130) (.t 131),none⟩,
⟨some 133,.faddr (.t 132) 1,none⟩,
⟨some 134,.load (.t 133),none⟩,
⟨some 135,.mov (.t 9),none⟩,
⟨some 136,.bin .sub (.t 134) (.t 135),none⟩,
⟨some 137,.build [.int .i64 0,.int .i64 0] [(0,1,.t 128),(1,1,.t 136)],none⟩,
⟨some 138,.mkrow ta19 2 1 (.agg [.int .i64 0,.int .i64 0]) [(0,.t 137)],none⟩,
⟨some 139,.app ta19 2 16 (.t 122) (.t 138),none⟩,
⟨some 140,.faddr (.t 11) 4,none⟩,
⟨none,.store (.t 140) (.t 139) 1,none⟩]
[17,18,20] [0,0,0,0,0,0,0,0,0,0,0,0,0,0,0,0,0,1,2,2,3] [1,1,0,0,0,0,0,0,0,0,0,0,0,0,0,0,0,3,3,2,3] [([0,1,2,3,4,5,6,7,8,9,10,11,12,13,14,15,16],[]),([],[0,1]),([19],[]),([],[])] [1,2,3,4,6,7,9,11,12,121,122,123,124,125,126,127,128,129,130,131,132,133,134,135,136,137,138,139,140]
[1,2,3,4,6,7,9,11,12]))
(.reg [⟨some 119,.mov (.t 12),none⟩,
⟨some 120,.bin .add (.t 119) (.k (.int .i64 1)),none⟩,
⟨some 12,.mov (.t 120),none⟩]
[1,2,3,4,6,7,9,11,12]))))))
(.reg [⟨some 141,.faddr (.t 4) 8,none⟩,
⟨some 142,.load (.t 141),none⟩,
⟨some 143,.loadN (.t 11) 5,none⟩,
⟨some 144,.mkrow taT_ 5 1 (.agg [.int .i64 0,.int .i64 0,.int .i64 0,.int .i64 0,.nils]) [(0,.t 143)],none⟩,
⟨some 145,.app taT_ 5 56 (.t 142) (.t 144),none⟩,
⟨some 146,.faddr (.t 4) 8,none⟩,
⟨none,.store (.t 146) (.t 145) 1,none⟩]
[1,2,3,4,6]))))))))))
(.reg [⟨some 52,.mov (.t 6),none⟩,
⟨some 53,.bin .add (.t 52) (.k (.int .i64 1)),none⟩,
⟨some 6,.mov (.t 53),none⟩]
[1,2,3,4,6]))))))
(.seq (.reg [⟨some 147,.loadN (.t 4) 9,none⟩,
⟨some 148,.call npo_ [.t 147],none⟩,
⟨none,.store (.t 2) (.t 148) 9,none⟩]
[2])
.ret))))))))))⟩
theorem kpT_:chkF Tryz.prog Tryz.f12 cp10=true:=by kernel_rfl
abbrev pp13:=pcR np17 cp10 Tryz.func12 kpT_
theorem ks10 {α:Type}:∀(m:List Bool) (l:List α),(k11 m l).Sublist l
 | true::m,x::l=>by unfold k11;exact (ks10 m l).cons_cons x
 | false::m,x::l=>by unfold k11;exact (ks10 m l).cons x
 | [],l=>by simp [k11]
 | b::m,[]=>by cases b <;> simp [k11]
theorem km_ {α β:Type} (f:α→β):∀(m:List Bool) (l:List α),k11 m (l.map f)=(k11 m l).map f
 | true::m,x::l=>by simp [k11,km_ f m l]
 | false::m,x::l=>by simp [k11,km_ f m l]
 | [],l=>by simp [k11]
 | b::m,[]=>by cases b <;> simp [k11]
theorem ni_ (l:List Str):allI (n17 l) l=true↔(∀s∈l,n12 s=true)∧l.Nodup:=by
 rw[at10];unfold n17;simp only[zK,yQ,xR,zC];constructor
 ·intro h;refine⟨fun s hs=>?_,?_⟩
  ·obtain⟨i,hi⟩:=zN hs;exact (h i s hi).1
  ·show List.Pairwise (·≠·) l;rw[vW];intro i j hi hj hij e;have h1:=zY hj;have h2:=(h j _ h1).2 l[i] (List.mem_of_getElem? (i:=i) (by rw[yU,zG hij,zY hi]));exact h2 e
 ·rintro⟨h1,h2⟩ i s hs;refine⟨h1 s (List.mem_of_getElem? hs),fun x hx e=>?_⟩;subst e;obtain⟨k,hk⟩:=zN hx;rw[yU] at hk;split at hk
  ·rename_i hki;obtain⟨q1,q2⟩:=zZ.1 hs;obtain⟨q3,q4⟩:=zZ.1 hk;have h2:List.Pairwise (·≠·) l:=h2;rw[vW] at h2;exact h2 k i q3 q1 hki (by rw[q2,q4])
  ·cases hk
theorem nk10 {m:List Bool} {l:List Str} (h:allI (n17 l) l=true):allI (n17 (k11 m l)) (k11 m l)=true:=by rw[ni_] at h ⊢;exact⟨fun s hs=>h.1 s ((ks10 m l).subset hs),(ks10 m l).nodup h.2⟩
theorem st_ {q:QeaT}:∀(l:List TransT) (i:Nat) {a b:Int},0≤a→a≤q.nodes.length→allS (s21 q) l i a=(true,b)→∀x∈segs l a,t17 q x.1 x.2=(endT x.1 x.2,true)
 | [],_,_,_,_,_,_ =>fun x hx=>by cases hx
 | t::r,i,a,b,h0,h1,h=>by
  unfold allS at h;split at h
  ·rename_i ht;have hk:=to11 (q:=q) (t:=t) (b:=(t17 q t a).1) h0 h1 (Prod.ext rfl ht);have hE:=hk.he;have hle:=hk.hle;have hub:=hk.hub;rw[hE] at hle hub;have e:(s21 q a i t).2=endT t a:=hE;rw[e] at h;intro x hx;rcases yM.1 hx with rfl | hx
   ·exact Prod.ext hE ht
   ·exact st_ r (i+1) (by omega) hub h x hx
  ·cases h
theorem ta_ {on:Int→Bool} {nw:Int→Int} {ns:List NodeT}:∀(l:List (TransT×Int)) (acc:List NodeT×List TransT),∃r1 r2,l.foldl (t12 on nw ns) acc=(acc.1++r1,acc.2++r2)
 | [],acc=>⟨[],[],by simp⟩
 | x::l,acc=>by
  obtain⟨r1,r2,h⟩:=ta_ (on:=on) (nw:=nw) (ns:=ns) l (t12 on nw ns acc x);rw[xU,h];unfold t12;split
  ·exact⟨_,_,Prod.ext (yI _ _ _) (yI _ _ _)⟩
  ·exact⟨r1,r2,rfl⟩
theorem ml11 {α:Type} {l:List α} {a b:Int} (h0:0≤a) (h1:a≤b) (h2:b≤l.length):((mid l a b).length:Int)=b - a:=by unfold mid;rw[xY,uI];omega
theorem to14 {q q':QeaT} {on:Int→Bool} {nw:Int→Int} (hqu:q'.quants=q.quants) (hfr:q'.frees=q.frees) (hst:q'.symbols=q.symbols)
  (hnw:∀s,0≤s→s<(q.states.length:Int)→on s=true→0≤nw s∧nw s<(q'.states.length:Int)):
  ∀(l:List TransT) (i:Nat) {a:Int} (acc:List NodeT×List TransT),0≤a→a≤q.nodes.length→(acc.1.length:Int)≤a→
   (∀x∈segs l a,0≤x.2∧TIn q x.1 x.2 (endT x.1 x.2)∧t17 q x.1 x.2=(endT x.1 x.2,true))→(∀t∈l,on t.from_=true→on t.to_=true)→
   q'.nodes=((segs l a).foldl (t12 on nw q.nodes) acc).1→
   allS (s21 q') (((segs l a).foldl (t12 on nw q.nodes) acc).2.drop acc.2.length) i (acc.1.length:Int)=(true,((((segs l a).foldl (t12 on nw q.nodes) acc).1.length:Nat):Int))
 | [],i,a,acc,_,_,_,_,_,_ =>by simp [segs,allS]
 | t::r,i,a,acc,h0,h1,hle,h,hcl,hn=>by
  obtain⟨_,hk,htr⟩:=h (t,a) yX;have hk:TIn q t a (endT t a):=hk;have htr:t17 q t a=(endT t a,true):=htr;have hr:∀x∈segs r (endT t a),0≤x.2∧TIn q x.1 x.2 (endT x.1 x.2)∧t17 q x.1 x.2=(endT x.1 x.2,true):=fun x hx=>h x (zD _ hx);have hcr:∀t∈r,on t.from_=true→on t.to_=true:=fun x hx=>hcl x (zD _ hx);have k1:=hk.hle;have k2:=hk.hub;have hseg:segs (t::r) a=(t,a)::segs r (endT t a):=rfl;rw[hseg,xU] at hn ⊢;by_cases hon:on t.from_=true
  ·have hml:=ml11 (l:=q.nodes) h0 k1 k2;have e:t12 on nw q.nodes acc (t,a)=(acc.1++(mid q.nodes a (endT t a)).map (m10 (a - acc.1.length)),acc.2++[⟨nw t.from_,t.symbol,nw t.to_,if t.guard= -1 then -1 else t.guard - (a - acc.1.length),t.sets.map (movS (a - acc.1.length))⟩]):=by
    unfold t12;simp only;rw[zG hon];rfl
   rw[e] at hn ⊢;have ih:=to14 (q:=q) (q':=q') (nw:=nw) hqu hfr hst hnw r (i+1) (a:=endT t a) (acc.1++(mid q.nodes a (endT t a)).map (m10 (a - acc.1.length)),acc.2++[⟨nw t.from_,t.symbol,nw t.to_,if t.guard= -1 then -1 else t.guard - (a - acc.1.length),t.sets.map (movS (a - acc.1.length))⟩]) (by omega) k2 (by simp only[zB,zX];omega) hr hcr hn;obtain⟨r1,r2,hF⟩:=ta_ (on:=on) (nw:=nw) (ns:=q.nodes) (segs r (endT t a)) (acc.1++(mid q.nodes a (endT t a)).map (m10 (a - acc.1.length)),acc.2++[⟨nw t.from_,t.symbol,nw t.to_,if t.guard= -1 then -1 else t.guard - (a - acc.1.length),t.sets.map (movS (a - acc.1.length))⟩]);rw[hF] at hn ih ⊢;simp only at hn ih ⊢;have hd:(acc.2++[(⟨nw t.from_,t.symbol,nw t.to_,if t.guard= -1 then -1 else t.guard - (a - acc.1.length),t.sets.map (movS (a - acc.1.length))⟩:TransT)]++r2).drop acc.2.length=⟨nw t.from_,t.symbol,nw t.to_,if t.guard= -1 then -1 else t.guard - (a - acc.1.length),t.sets.map (movS (a - acc.1.length))⟩::r2:=by rw[yI,List.drop_left];rfl
   have hd2:(acc.2++[(⟨nw t.from_,t.symbol,nw t.to_,if t.guard= -1 then -1 else t.guard - (a - acc.1.length),t.sets.map (movS (a - acc.1.length))⟩:TransT)]++r2).drop (acc.2++[(⟨nw t.from_,t.symbol,nw t.to_,if t.guard= -1 then -1 else t.guard - (a - acc.1.length),t.sets.map (movS (a - acc.1.length))⟩:TransT)]).length=r2:=List.drop_left;rw[hd2,show (acc.1++(mid q.nodes a (endT t a)).map (m10 (a - acc.1.length))).length=acc.1.length+(mid q.nodes a (endT t a)).length by rw[zB,zX]] at ih;rw[hd];have hb:Blk q q' acc.1.length (a - acc.1.length).toNat (endT t a - a).toNat:=by
    refine⟨hqu,hfr,hst,?_,by omega,fun j hj=>?_⟩
    ·rw[hn,zB,zB,zX];omega
    ·rw[hn,yI,xV (by omega),tF,xJ (by rw[zX];omega),zT];have e2:acc.1.length+(a - acc.1.length).toNat+j=a.toNat+j:=by omega
     have e3:(((a - acc.1.length).toNat:Nat):Int)=a - acc.1.length:=by omega
     rw[e2,e3];unfold mid;rw[yU,zG (by omega),yE]
   have f1:=hnw _ hk.hf.1 hk.hf.2 hon;have f2:=hnw _ hk.ht.1 hk.ht.2 (hcl t yX hon);have e4:((acc.1.length+(a - acc.1.length).toNat:Nat):Int)=a:=by omega
   have e5:((acc.1.length+(a - acc.1.length).toNat+(endT t a - a).toNat:Nat):Int)=endT t a:=by omega
   have e6:(((a - acc.1.length).toNat:Nat):Int)=a - acc.1.length:=by omega
   have hm:=tm12 hb f1 f2 (t:=t) (by rw[e4,e5];exact htr);rw[e6] at hm;unfold allS;have e7:((acc.1.length+(endT t a - a).toNat:Nat):Int)=((acc.1.length+(mid q.nodes a (endT t a)).length:Nat):Int):=by omega
   rw[e7] at hm;unfold s21 at ih ⊢;simp only at ih ⊢;rw[hm];simp only[xZ];exact ih
  ·have e:t12 on nw q.nodes acc (t,a)=acc:=by unfold t12;rw[zF hon]
   rw[e] at hn ⊢;exact to14 hqu hfr hst hnw r i acc (by omega) k2 (by omega) hr hcr hn
