/-
  Lemmas. No claim is proved here.
-/
import Derived.Test.YtkadalpaeglmnaaGreatDoorYD14
set_option linter.unusedSimpArgs false
set_option maxHeartbeats 4000000
namespace Go.Proofs.YtkadalpaeglmnaaGreatDoor.Ab
open Go
variable {G:Nat→Option AV}
theorem rSp_ (a b:SymT) (ha:a.args.length<9223372036854775807):PQ G np10 [symV a,symV b] (.bool (decide (a=b))):=by
 obtain⟨e,l⟩:=a;obtain⟨f,k⟩:=b;dsimp only at ha;refine ppS_ fun Φ h=>?_;unfold cpS_;generalize hv:decide ((⟨e,l⟩:SymT)=⟨f,k⟩)=v at*;by_cases hc:e=f∧l.length=k.length
 ·obtain⟨rfl,hlk⟩:=hc;have hv':zipB (fun (x y:ArgT)=>x==y) l k=v:=by
   rw[←hv];clear hv h ha
   induction l generalizing k with
   | nil=>cases k with
    | nil=>simp [zipB]
    | cons y s=>simp at hlk
   | cons x r ih=>cases k with
    | nil=>simp at hlk
    | cons y s=>
     rw[zipB,ih s (by simpa using hlk),yY];simp
  clear hv
  repeat' (first|simp -implicitDefEqProofs only[go_sem,symV,a_,zX]|refine ag_ (fun hb=>?_) (fun hb=>?_)|refine⟨fun hb=>?_,fun hb=>?_⟩|fail)
  all_goals try (exfalso;first | omega | (simp at*;done) | (simp at*;omega))
  refine al_ (fun n st=>∃i:Nat,i+n=l.length∧st=⟨38,[(2,.ref 2 0 0),(3,.ref 3 0 0),(5,iv i)],[(2,⟨false,taS_,2,[symV ⟨e,l⟩]⟩),(3,⟨false,taS_,2,[symV ⟨e,k⟩]⟩)]⟩∧zipB (fun (x y:ArgT)=>x==y) (l.drop i) (k.drop i)=v) l.length ⟨0,by simp,rfl,hv'⟩ ?_;rintro I hI n st ⟨i,hi,rfl,hno⟩;simp -implicitDefEqProofs only[go_sem,symV,a_,zX];refine⟨fun hlt=>?_,fun hge=>?_⟩
  ·have hlt':i<l.length:=by omega
   obtain⟨x,hx,hm⟩:=as10 hlt';obtain⟨y,hy,hm'⟩:=as10 (l:=k) (i:=i) (by omega);have hw:=ws_ hlt' (by omega);rw[zs10 hx hy] at hno;have hxy:=a31 x y
   repeat' (first|simp -implicitDefEqProofs only[go_sem,am_ hx,am_ hy,argV,symV,a_,hw]|refine ag_ (fun hb=>?_) (fun hb=>?_)|refine⟨fun hb=>?_,fun hb=>?_⟩|fail)
   ·rw[show (x==y)=false by rw[hxy,tA];simpa only[yQ] using hb,xQ] at hno;exact h _ ⟨_,_,rfl,rfl,fitB hno⟩
   ·rw[show (x==y)=true by rw[hxy];simpa using hb,xG] at hno;exact aa_ (n - 1) (by omega) (hI _ _ ⟨i+1,by omega,rfl,hno⟩)
  ·rw[ze_ (by omega) (by omega)] at hno;exact h _ ⟨_,_,rfl,rfl,fitB hno⟩
 ·have hv':v=false:=by
   rw[←hv,zO];intro e;cases e;exact hc ⟨rfl,rfl⟩
  repeat' (first|simp -implicitDefEqProofs only[go_sem,symV,a_,zX]|refine ag_ (fun hb=>?_) (fun hb=>?_)|refine⟨fun hb=>?_,fun hb=>?_⟩|fail)
  all_goals first | exact h _ ⟨_,_,rfl,rfl,fitB hv'.symm⟩ | (exfalso;first | omega | (simp at*;done) | (simp at*;omega))
def n13 (s:SymT) (v:Int):Bool:=s.args.any fun x=>x.kind==2&&x.n==v
theorem rN10 (s:SymT) (hs:s.args.length<9223372036854775807) (v:Int):PQ G np15 [symV s,iv v] (.bool (n13 s v)):=by
 obtain⟨e,l⟩:=s;dsimp only at hs;refine ppN_ fun Φ h=>?_;unfold cpN_;generalize hv:n13 ⟨e,l⟩ v=w at*;simp only[n13] at hv;simp -implicitDefEqProofs only[go_sem,symV,a_,zX];refine al_ (fun n st=>∃i:Nat,i+n=l.length∧st=⟨30,[(1,iv v),(2,.ref 2 0 0),(5,iv i)],[(2,⟨false,taS_,2,[symV ⟨e,l⟩]⟩)]⟩∧((l.drop i).any fun x=>x.kind==2&&x.n==v)=w) l.length ⟨0,by simp,rfl,hv⟩ ?_;rintro I hI n st ⟨i,hi,rfl,hno⟩;simp -implicitDefEqProofs only[go_sem,symV,a_,zX];refine⟨fun hlt=>?_,fun hge=>?_⟩
 ·have hlt':i<l.length:=by omega
  obtain⟨x,hx,hm⟩:=as10 hlt';have hw:=ws_ hlt' (by omega);rw[show l.drop i=x::l.drop (i+1) by obtain⟨h1,rfl⟩:=zZ.1 hx;exact yD h1,List.any_cons] at hno
  repeat' (first|simp -implicitDefEqProofs only[go_sem,am_ hx,argV,symV,a_,hw]|refine ag_ (fun hb=>?_) (fun hb=>?_)|refine⟨fun hb=>?_,fun hb=>?_⟩|fail)
  all_goals first
   | (refine h _ ⟨_,_,rfl,rfl,fitB ?_⟩;rw[←hno];simp_all;done)
   | (refine aa_ (n - 1) (by omega) (hI _ _ ⟨i+1,by omega,rfl,?_⟩);rw[←hno];simp_all;done)
 ·rw[xH (by omega),List.any_nil] at hno;exact h _ ⟨_,_,rfl,rfl,fitB hno⟩
theorem rb10 (q:QeaT) (hq:q.nodes.length≤1000000) (s:SymT) (hs:s.args.length<9223372036854775807) (a b:Int) (ha:0≤a) (hb:b≤q.nodes.length):PQ G np25 [qeaV q,symV s,iv a,iv b] (.bool ((mid q.nodes a b).all fun x=>!(x.op==2)||n13 s x.a)):=by
 obtain⟨a,rfl⟩:=zS ha;refine pp16 fun Φ h=>?_;unfold cp16;generalize hv:((mid q.nodes a b).all fun x=>!(x.op==2)||n13 s x.a)=w at*;simp -implicitDefEqProofs only[go_sem,symV,a_,qeaV,d_,q_,f_,s_,s10,n_,t_,zX];refine al_ (fun n st=>∃i:Nat,n=b.toNat - i∧st=⟨34,[(3,iv b),(4,.ref 4 0 0),(5,.ref 5 0 0),(9,iv i)],[(4,⟨false,taQ_,9,[qeaV q]⟩),(5,⟨false,taS_,2,[symV s]⟩)]⟩∧((mid q.nodes i b).all fun x=>!(x.op==2)||n13 s x.a)=w) (b.toNat - a) ⟨a,by simp,rfl,hv⟩ ?_;rintro I hI n st ⟨i,hi,rfl,hno⟩;simp -implicitDefEqProofs only[go_sem,symV,a_,qeaV,d_,q_,f_,s_,s10,n_,t_,zX];refine⟨fun hlt=>?_,fun hge=>?_⟩
 ·have hlt':i<q.nodes.length:=by omega
  obtain⟨x,hx,hm⟩:=as10 hlt';have hw:=ws_ hlt' (by omega);have hc:=rN10 (G:=G) s hs x.a;simp only[symV,a_] at hc;rw[show mid q.nodes i b=x::mid q.nodes (i+1:Nat) b by obtain⟨h1,rfl⟩:=zZ.1 hx;unfold mid;rw[show (i:Int).toNat=i from zA i,show ((i+1:Nat):Int).toNat=i+1 from zA _,yD h1,show b.toNat - i=(b.toNat - (i+1))+1 by omega,wU],List.all_cons] at hno
  repeat' (first|simp -implicitDefEqProofs only[go_sem,am_ hx,n11,symV,a_,hw]|refine ag_ (fun hb=>?_) (fun hb=>?_)|refine⟨fun hb=>?_,fun hb=>?_⟩|refine ac_ hc rfl rfl ?_|fail)
  all_goals first
   | (refine h _ ⟨_,_,rfl,rfl,fitB ?_⟩;rw[←hno];simp_all;done)
   | (refine aa_ (n - 1) (by omega) (hI _ _ ⟨i+1,by omega,rfl,?_⟩);rw[←hno];simp_all;done)
 ·rw[show mid q.nodes i b=[] by unfold mid;rw[show b.toNat - (i:Int).toNat=0 by omega,xI],List.all_nil] at hno;exact h _ ⟨_,_,rfl,rfl,fitB hno⟩
theorem os13 (s:SymT):OkC [.eptr (symV s) 0]:=⟨fun _ =>rfl,fun _ _ =>rfl,fun _ =>rfl,fun _ _ =>rfl,fun _ =>rfl,fun _ =>rfl⟩
theorem oi11 (n:Int):OkC [.eptr (iv n) 0]:=⟨fun _ =>rfl,fun _ _ =>rfl,fun _ =>rfl,fun _ _ =>rfl,fun _ =>rfl,fun _ =>rfl⟩
theorem oq_ (q:QeaT) (a:AV):OkC [.eptr (qeaV q) 0,.eptr a 0]:=⟨fun _ =>rfl,fun _ _ =>rfl,fun _ =>rfl,fun _ _ =>rfl,fun _ =>rfl,fun _ =>rfl⟩
theorem cs11p_ (x s:SymT) (hx:x.args.length<9223372036854775807) (hs:s.args.length<9223372036854775807):PQ G ncs11_ [symV x,.eptr (symV s) 0] (.bool (decide (x=s))):=by
 refine pcs11_ fun Φ h=>?_;unfold ccs11_;have hc:=csp_ (G:=G) x s hx hs;simp only[symV,a_] at hc
 repeat' (first|simp -implicitDefEqProofs only[go_sem,symV,a_]|refine ag_ (fun hb=>?_) (fun hb=>?_)|refine⟨fun hb=>?_,fun hb=>?_⟩|refine ac_ hc rfl rfl ?_|fail)
 all_goals (refine h _ ⟨_,_,rfl,rfl,fe_ ?_⟩;clear h;first | rfl | simp_all)
def s28 (q:QeaT) (i:Nat) (s:SymT):Bool:=symS q s&&idxF (fun x=>decide (x=s)) q.symbols==(i:Int)
theorem cs1p_ (q:QeaT) (hq:q.Few) (i:Nat) (s:SymT) (hs:s∈q.symbols):PQ G nc21 [iv i,symV s,.eptr (qeaV q) 0] (.bool (s28 q i s)):=by
 have hb:=hq.args s hs;refine pcs1_ fun Φ h=>?_;unfold ccs1_;have h1:=cs36 (G:=G) q s (by omega);have h2:=sIaSaSp_ (G:=G) ncs11_ [.eptr (symV s) 0] (by kernel_rfl) (os13 s) (fun x=>decide (x=s)) q.symbols (fun x hx=>cs11p_ x s (by have:=hq.args x hx;omega) (by omega)) (by have:=hq.symbols;omega);unfold s28 at h;generalize idxF (fun x=>decide (x=s)) q.symbols=k at*;generalize symS q s=b at*;obtain⟨e,l⟩:=s;simp only[symV,a_,qeaV,d_,q_,f_,s_,s10,n_,t_] at h1 h2
 repeat' (first|simp -implicitDefEqProofs only[go_sem,symV,a_,qeaV,d_,q_,f_,s_,s10,n_,t_]|refine ag_ (fun hb=>?_) (fun hb=>?_)|refine⟨fun hb=>?_,fun hb=>?_⟩|refine ac_ h1 rfl rfl ?_|refine ac_ h2 rfl rfl ?_|fail)
 all_goals (refine h _ ⟨_,_,rfl,rfl,fe_ ?_⟩;clear h;first | rfl | simp_all)
theorem cs2p_ (q:QeaT) (hq:q.Few) (o:List Int) (ho:o.length≤1000000) (i:Nat) (hi:i≤1000000) (s:Int):PQ G ncs2_ [iv i,iv s,.eptr (qeaV q) 0,.eptr (.seq 1 (o.map iv)) 0] (.bool (s==(q.symbols.length:Int) - o.length+i)):=by
 have hs:=hq.symbols;refine pcs2_ fun Φ h=>?_;unfold ccs2_;have w1:IntKind.i64.wrap ((q.symbols.length:Int) - o.length)=(q.symbols.length:Int) - o.length:=wi_ (by omega) (by omega);have w2:IntKind.i64.wrap ((q.symbols.length:Int) - o.length+i)=(q.symbols.length:Int) - o.length+i:=wi_ (by omega) (by omega)
 repeat' (first|simp -implicitDefEqProofs only[go_sem,qeaV,d_,q_,f_,s_,s10,n_,t_,zX,w1,w2]|refine ag_ (fun hb=>?_) (fun hb=>?_)|refine⟨fun hb=>?_,fun hb=>?_⟩|fail)
 all_goals (refine h _ ⟨_,_,rfl,rfl,fe_ ?_⟩;clear h;first | rfl | simp_all)
theorem cs31p_ (s:SymT) (hs:s.args.length<9223372036854775807) (v:Int):PQ G ncs31_ [symV s,.eptr (iv v) 0] (.bool (s12 s v)):=by
 refine pcs31_ fun Φ h=>?_;unfold ccs31_;have hc:=cSp_ (G:=G) s hs v;simp only[symV,a_] at hc
 repeat' (first|simp -implicitDefEqProofs only[go_sem,symV,a_]|refine ag_ (fun hb=>?_) (fun hb=>?_)|refine⟨fun hb=>?_,fun hb=>?_⟩|refine ac_ hc rfl rfl ?_|fail)
 all_goals (refine h _ ⟨_,_,rfl,rfl,fe_ ?_⟩;clear h;first | rfl | simp_all)
theorem cs3p_ (q:QeaT) (hq:q.Few) (v:Int) (y:QuantT):PQ G ncs3_ [iv v,q11 y,.eptr (qeaV q) 0] (.bool (q.symbols.any fun s=>s12 s v)):=by
 refine pcs3_ fun Φ h=>?_;unfold ccs3_;have h2:=sCaSaSp_ (G:=G) ncs31_ [.eptr (iv v) 0] (by kernel_rfl) (oi11 v) (fun s=>s12 s v) q.symbols (fun x hx=>cs31p_ x (by have:=hq.args x hx;omega) v) (by have:=hq.symbols;omega)
 repeat' (first|simp -implicitDefEqProofs only[go_sem,q11,qeaV,d_,q_,f_,s_,s10,n_,t_]|refine ag_ (fun hb=>?_) (fun hb=>?_)|refine⟨fun hb=>?_,fun hb=>?_⟩|refine ac_ h2 rfl rfl ?_|fail)
 all_goals (refine h _ ⟨_,_,rfl,rfl,fe_ ?_⟩;clear h;first | rfl | simp_all)
def o10 (o:List Int) (s:Int):List Int:=if (o.any fun x=>s==x)=true then o else o++[s]
def ordL (o:List Int):List TransT→List Int
 | []=>o
 | t::r=>ordL (o10 o t.symbol) r
theorem os10 {l:List TransT} {i:Nat} {t:TransT} (ht:l[i]? =some t) (o:List Int):ordL o (l.drop i)=ordL (o10 o t.symbol) (l.drop (i+1)):=by obtain⟨h1,rfl⟩:=zZ.1 ht;rw[yD h1,ordL]
theorem ol_ (o:List Int) (s:Int):(o10 o s).length≤o.length+1:=by unfold o10;split <;> simp
def s19 (q:QeaT):Bool:=
 allI (fun i s=>s==(q.symbols.length:Int) - (ordL [] q.trans).length+(i:Int)) (ordL [] q.trans)&&(allI (s28 q) q.symbols&&allI (fun v _ =>q.symbols.any fun s=>s12 s (v:Int)) q.quants)
def ordH (q:QeaT) (o:List Int):List (Nat×Box):=
 if o=[] then [(1,⟨false,taQ_,9,[qeaV q]⟩),(3,⟨false,tS10,1,[.nils]⟩)]
 else [(1,⟨false,taQ_,9,[qeaV q]⟩),(3,⟨false,tS10,1,[.arr 23 0 o.length]⟩),(23,⟨true,ti_,1,o.map iv⟩)]
theorem cs32 (q:QeaT) (hq:q.Few):PQ G nc23 [qeaV q] (.bool (s19 q)):=by
 have htl:=hq.trans;refine pc13 fun Φ h=>?_;unfold cc23;simp -implicitDefEqProofs only[go_sem,qeaV,d_,q_,f_,s_,s10,n_,t_,zX];refine al_ (fun n st=>∃(i:Nat) (o:List Int),i+n=q.trans.length∧st=⟨41,[(1,.ref 1 0 0),(3,.ref 3 0 0),(8,t_ q.trans),(9,iv q.trans.length),(10,iv i)],ordH q o⟩∧o.length≤i∧ordL [] q.trans=ordL o (q.trans.drop i)) q.trans.length ⟨0,[],by simp,rfl,by simp,rfl⟩ ?_;rintro I hI n st ⟨i,o,hi,rfl,hol,hord⟩;have hnext:∀t,q.trans[i]? =some t→a11 I n ⟨41,[(1,.ref 1 0 0),(3,.ref 3 0 0),(8,t_ q.trans),(9,iv q.trans.length),(10,iv (i+1:Nat))],ordH q (o10 o t.symbol)⟩:=fun t ht=>by have hlt:=(zZ.1 ht).1;rw[os10 ht] at hord;exact aa_ (n - 1) (by omega) (hI _ _ ⟨i+1,_,by omega,rfl,by have:=ol_ o t.symbol;omega,hord⟩)
 have hend:q.trans.length≤i→ordL [] q.trans=o:=fun h=>by rw[hord,xH h,ordL]
 have hallS:=caaSp_ (G:=G) nc21 [.eptr (qeaV q) 0] (by kernel_rfl) (okC_q q) (s28 q) q.symbols (fun i x hx=>cs1p_ q hq i x (List.mem_of_getElem? hx)) (by have:=hq.symbols;omega);have hallQ:=caaQp_ (G:=G) ncs3_ [.eptr (qeaV q) 0] (by kernel_rfl) (okC_q q) (fun v _ =>q.symbols.any fun s=>s12 s (v:Int)) q.quants (fun i x _ =>cs3p_ q hq i x) (by have:=hq.quants;omega);simp only[qeaV,d_,q_,f_,s_,s10,n_,t_] at hallS hallQ;by_cases ho:o=[]
 ·subst ho;have e0:ordH q []=[(1,⟨false,taQ_,9,[qeaV q]⟩),(3,⟨false,tS10,1,[.nils]⟩)]:=rfl;rw[e0];simp -implicitDefEqProofs only[go_sem,qeaV,d_,q_,f_,s_,s10,n_,t_,zX];refine⟨fun hlt=>?_,fun hge=>?_⟩
  ·have hlt':i<q.trans.length:=by omega
   obtain⟨t,ht,hm⟩:=as10 hlt';have hw:=ws_ hlt' (by omega);have hnext:=hnext t ht;have e1:ordH q (o10 [] t.symbol)=[(1,⟨false,taQ_,9,[qeaV q]⟩),(3,⟨false,tS10,1,[.arr 23 0 1]⟩),(23,⟨true,ti_,1,[iv t.symbol]⟩)]:=rfl;rw[e1] at hnext;have hc:=sCiip_ (G:=G) [] t.symbol (by simp)
   repeat' (first|simp -implicitDefEqProofs only[go_sem,am_ ht,t11,s14,hw]|refine ag_ (fun hb=>?_) (fun hb=>?_)|refine⟨fun hb=>?_,fun hb=>?_⟩|(refine acf_ hc rfl ⟨.nil _,.refl _,trivial⟩ rfl ?_)|fail)
   all_goals first | exact hnext | (exfalso;simp at hb;done)
  ·have hord:=hend (by omega);have hall0:=caip_ (G:=G) ncs2_ [.eptr (qeaV q) 0,.eptr .nils 0] (by kernel_rfl) (oq_ q .nils) (fun i s=>s==(q.symbols.length:Int) - (0:Nat)+(i:Int)) [] (fun i x hx=>by simp at hx) (by simp);simp only[qeaV,d_,q_,f_,s_,s10,n_,t_] at hall0
   repeat' (first|simp -implicitDefEqProofs only[go_sem,qeaV,d_,q_,f_,s_,s10,n_,t_,zX]|refine ag_ (fun hb=>?_) (fun hb=>?_)|refine⟨fun hb=>?_,fun hb=>?_⟩|(refine acf_ hall0 rfl ⟨.nil _,.refl _,trivial⟩ rfl ?_)|refine ac_ hallS rfl rfl ?_|refine ac_ hallQ rfl rfl ?_|fail)
   all_goals first | (exfalso;simp [allI] at hb;done) | skip
   all_goals
    refine h _ ⟨_,_,rfl,rfl,fitB ?_⟩;rw[s19,hord];clear h hallS hallQ hall0;generalize allI (s28 q) q.symbols=a at*;generalize allI (fun v _ =>q.symbols.any fun s=>s12 s (v:Int)) q.quants=b at*;rw[show allI (fun i s=>s==(q.symbols.length:Int) - (([]:List Int).length:Nat)+(i:Int)) []=true from rfl] at*;simp_all
 ·have htk:List.take o.length (List.map iv o)=List.map iv o:=zM (by simp);have e0:ordH q o=[(1,⟨false,taQ_,9,[qeaV q]⟩),(3,⟨false,tS10,1,[.arr 23 0 o.length]⟩),(23,⟨true,ti_,1,o.map iv⟩)]:=zF ho;rw[e0];simp -implicitDefEqProofs only[go_sem,qeaV,d_,q_,f_,s_,s10,n_,t_,zX];refine⟨fun hlt=>?_,fun hge=>?_⟩
  ·have hlt':i<q.trans.length:=by omega
   obtain⟨t,ht,hm⟩:=as10 hlt';have hw:=ws_ hlt' (by omega);have hnext:=hnext t ht;have hbd:(o.length+1)*8≤140737488355328:=by omega
   have hc:=sCiip_ (G:=G) o t.symbol (by omega)
   repeat' (first|simp -implicitDefEqProofs only[go_sem,am_ ht,t11,s14,hw,hbd,zX]|refine ag_ (fun hb=>?_) (fun hb=>?_)|refine⟨fun hb=>?_,fun hb=>?_⟩|(refine ac_ hc (by simp [v_,flat,viewBs,viewB,viewK,hget,htk]) rfl ?_)|fail)
   ·have e1:o10 o t.symbol=o++[t.symbol]:=zF (by simp only[yQ] at hb;rw[hb];exact Bool.false_ne_true);have e2:ordH q (o10 o t.symbol)=[(1,⟨false,taQ_,9,[qeaV q]⟩),(3,⟨false,tS10,1,[.arr 23 0 (o.length+1)]⟩),(23,⟨true,ti_,1,o.map iv++[iv t.symbol]⟩)]:=by
     rw[e1,ordH,zF (by simp)];simp
    rw[e2] at hnext;exact hnext
   ·have e1:o10 o t.symbol=o:=zG (by simpa using hb);rw[e1,e0] at hnext;exact hnext
  ·have hord:=hend (by omega);have hallO:=caip_ (G:=G) ncs2_ [.eptr (qeaV q) 0,.eptr (.seq 1 (o.map iv)) 0] (by kernel_rfl) (oq_ q _) (fun i s=>s==(q.symbols.length:Int) - o.length+(i:Int)) o (fun i x hx=>cs2p_ q hq o (by omega) i (by have:=(zZ.1 hx).1;omega) x) (by omega);simp only[qeaV,d_,q_,f_,s_,s10,n_,t_] at hallO
   repeat' (first|simp -implicitDefEqProofs only[go_sem,qeaV,d_,q_,f_,s_,s10,n_,t_,zX]|refine ag_ (fun hb=>?_) (fun hb=>?_)|refine⟨fun hb=>?_,fun hb=>?_⟩|(refine ac_ hallO (by simp [v_,flat,viewBs,viewB,viewK,viewK.go,hget,htk]) rfl ?_)|refine ac_ hallS rfl rfl ?_|refine ac_ hallQ rfl rfl ?_|fail)
   all_goals
    refine h _ ⟨_,_,rfl,rfl,fitB ?_⟩;rw[s19,hord];clear h hallS hallQ hallO htk e0 hend hnext hord hI hi hol ho;generalize allI (s28 q) q.symbols=a at*;generalize allI (fun v _ =>q.symbols.any fun s=>s12 s (v:Int)) q.quants=b at*;generalize allI (fun i s=>s==(q.symbols.length:Int) - o.length+(i:Int)) o=c at*;simp_all
theorem rs17 (q:QeaT) (s:SymT) (hs:s.args.length<9223372036854775807):PQ G np22 [qeaV q,symV s] (.bool (symS q s)):=by
 obtain⟨ev,l⟩:=s;dsimp only at hs;refine pp12 fun Φ h=>?_;unfold cp13;generalize hv:symS q ⟨ev,l⟩=v at*;simp only[symS] at hv;cases hd:at? q.decls ev with
 | none=>
  rw[hd] at hv;have hn:=at?_none hd
  repeat' (first|simp -implicitDefEqProofs only[go_sem,symV,a_,qeaV,d_,q_,f_,s_,s10,n_,t_,zX]|refine ag_ (fun hb=>?_) (fun hb=>?_)|refine⟨fun hb=>?_,fun hb=>?_⟩|fail)
  all_goals first | exact h _ ⟨_,_,rfl,rfl,fitB hv⟩ | (exfalso;first | omega | (simp at*;done) | (simp at*;omega))
 | some d=>
  obtain⟨j,rfl,hj⟩:=at?_some hd;have hlt:=(zZ.1 hj).1;rw[hd] at hv;dsimp only at hv;by_cases hlk:l.length=d.types.length
  ·repeat' (first|simp -implicitDefEqProofs only[go_sem,symV,a_,qeaV,d_,q_,f_,s_,s10,n_,t_,zX,am_ hj,d11,i10]|refine ag_ (fun hb=>?_) (fun hb=>?_)|refine⟨fun hb=>?_,fun hb=>?_⟩|fail)
   all_goals try (exfalso;first | omega | (simp at*;done) | (simp at*;omega))
   refine al_ (fun n st=>∃i:Nat,i+n=l.length∧st=⟨56,[(2,.ref 2 0 0),(3,.ref 3 0 0),(5,iv i)],[(2,⟨false,taQ_,9,[qeaV q]⟩),(3,⟨false,taS_,2,[symV ⟨j,l⟩]⟩)]⟩∧zipB (argS q) (l.drop i) (d.types.drop i)=v) l.length ⟨0,by simp,rfl,hv⟩ ?_;rintro I hI n st ⟨i,hi,rfl,hno⟩;simp -implicitDefEqProofs only[go_sem,symV,a_,qeaV,d_,q_,f_,s_,s10,n_,t_,zX];refine⟨fun hlt=>?_,fun hge=>?_⟩
   ·have hlt':i<l.length:=by omega
    obtain⟨x,hx,hm⟩:=as10 hlt';obtain⟨y,hy,hm'⟩:=as10 (l:=d.types) (i:=i) (by omega);have hw:=ws_ hlt' (by omega);have hc:=pap_ (G:=G) q x y;rw[zs10 hx hy] at hno;simp only[argV,qeaV,d_,q_,f_,s_,s10,n_,t_] at hc
    repeat' (first|simp -implicitDefEqProofs only[go_sem,am_ hx,am_ hj,am_ hy,argV,symV,a_,d11,i10,qeaV,d_,q_,f_,s_,s10,n_,t_,hw]|refine ag_ (fun hb=>?_) (fun hb=>?_)|refine⟨fun hb=>?_,fun hb=>?_⟩|refine ac_ hc rfl rfl ?_|fail)
    ·rw[show argS q x y=false by simpa using hb,xQ] at hno;exact h _ ⟨_,_,rfl,rfl,fitB hno⟩
    ·rw[show argS q x y=true by simpa using hb,xG] at hno;exact aa_ (n - 1) (by omega) (hI _ _ ⟨i+1,by omega,rfl,hno⟩)
   ·rw[ze_ (by omega) (by omega)] at hno;exact h _ ⟨_,_,rfl,rfl,fitB hno⟩
  ·rw[zl_ hlk] at hv
   repeat' (first|simp -implicitDefEqProofs only[go_sem,symV,a_,qeaV,d_,q_,f_,s_,s10,n_,t_,zX,am_ hj,d11,i10]|refine ag_ (fun hb=>?_) (fun hb=>?_)|refine⟨fun hb=>?_,fun hb=>?_⟩|fail)
   all_goals first | exact h _ ⟨_,_,rfl,rfl,fitB hv⟩ | (exfalso;first | omega | (simp at*;done) | (simp at*;omega))
