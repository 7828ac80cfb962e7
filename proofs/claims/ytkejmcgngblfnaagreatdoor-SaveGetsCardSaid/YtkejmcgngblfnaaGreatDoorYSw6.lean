/-
  The reader of chapter 38: slots, configurations, rows, lists of them (by program: mksw6.py). No claim is proved here.
-/
import Derived.Test.YtkejmcgngblfnaaGreatDoorYWt
namespace Go.Proofs.YtkejmcgngblfnaaGreatDoor.Ab
open Go Go.RowKit
set_option linter.unusedSimpArgs false
set_option maxHeartbeats 4000000
set_option maxRecDepth 100000
variable {G:Nat→Option AV}
theorem wc_ {st:St} {i:Nat} {b:Box} {cs ds:List AV} (hi:hget st.heap i=some b) (hb:b.es=[.agg cs]) (h0:0<b.sz) (hl:FitL cs ds):Weak st {st with heap:=hset st.heap i {b with es:=[.agg ds]}}:=by
 rintro G C a w ⟨nm,F,h⟩
 rcases h.box i b hi with ⟨_,hn,_⟩ | ⟨m,hm,hx⟩
 ·rw[hb] at hn;cases hn
 obtain⟨h1,h2,h3,arr,h4,h5,h6,h7,h8,h9⟩:=hx.c h0
 obtain⟨f1,f2⟩:=hl.at_
 refine⟨nm,F,h.setBox hi hm rfl rfl rfl rfl rfl (fun _ _ =>rfl) (.inl ⟨h1,h2,h3,arr,h4,h5,by rw[hb] at h6;exact h6,h7,fun e he=>?_,fun k e j c he hc=>?_⟩)⟩
 ·have:=h8 (.agg cs) (by rw[hb];exact List.mem_singleton.2 rfl)
  rw[List.mem_singleton.1 he]
  exact f1.symm.trans this
 ·match k,he with
  | 0,he=>
   cases he
   have hc:ds[j]? =some c:=hc
   have hj:j<cs.length:=by rw[f1];exact (List.getElem?_eq_some_iff.1 hc).1
   obtain⟨u,a1,a2,a3⟩:=h9 0 (.agg cs) j cs[j] (by rw[hb];rfl) (List.getElem?_eq_getElem hj)
   exact⟨u,a1,a2,a3.fit (f2 j cs[j] c (List.getElem?_eq_getElem hj) hc)⟩
  | k+1,he=>simp at he
def tlR {α:Type} (m:List α) (x:List α×Bool×Nat):List α×Bool×Nat:=if x.2.1=true then (m++x.1,true,x.2.2) else ([],false,x.2.2)
theorem ts11 {α:Type} {u:RdF α} {m:List α} {n k k':Nat} {x:α} (h:u k=(x,true,k')):tlR m (t_ u (n+1) k)=tlR (m++[x]) (t_ u n k'):=by
 simp only[tlR,t_,h,if_true]
 generalize t_ u n k'=y
 obtain⟨y1,y2,y3⟩:=y
 cases y2 <;> simp
theorem tb10 {α:Type} {u:RdF α} {m:List α} {n k k':Nat} {x:α} (h:u k=(x,false,k')):tlR m (t_ u (n+1) k)=([],false,k'):=by
 simp [tlR,t_,h]
theorem te_ {α:Type} {u:RdF α} {m:List α} {k:Nat}:tlR m (t_ u 0 k)=(m,true,k):=by simp [tlR,t_]
theorem tn10 {α:Type} {x:List α×Bool×Nat} (h:x.2.1=false→x.1=[]):tlR [] x=x:=by
 obtain⟨x1,x2,x3⟩:=x
 cases x2
 ·simp [tlR] at*;exact h
 ·simp [tlR]
theorem tn_ {α:Type} {u:RdF α}:∀(n k:Nat),(t_ u n k).2.1=false→(t_ u n k).1=[]
 | 0,k,h=>by simp [t_] at h
 | n+1,k,h=>by
  simp only[t_] at h ⊢
  split at h
  ·rename_i h1
   rw[if_pos h1]
   split at h
   ·cases h
   ·rename_i h2;rw[if_neg h2]
  ·rename_i h1;rw[if_neg h1]
def InR {α:Type} (b:Str) (u:RdF α):Prop:=∀k,k≤b.length→(u k).2.2≤b.length
theorem InR.times {α:Type} {b:Str} {u:RdF α} (h:InR b u):∀n,InR b (t_ u n)
 | 0=>fun k hk=>hk
 | n+1=>fun k hk=>by
  have h1:=h k hk
  have h2:=InR.times h n _ h1
  simp only[t_]
  split
  ·split <;> exact h2
  ·exact h1
theorem InR.list {α:Type} {b:Str} {u:RdF α} (h:InR b u):InR b (l_ b u):=fun k hk=>by
 have h1:=nl10 hk
 unfold l_
 split
 ·split
  ·exact h1
  ·exact h.times _ _ h1
 ·exact h1
theorem InR.seq {α β:Type} {b:Str} {z:α×β} {u:RdF α} {v:RdF β} (h:InR b u) (g:InR b v):InR b (seqR z u v):=fun k hk=>by
 have h1:=h k hk
 unfold seqR
 split
 ·exact g _ h1
 ·exact h1
theorem i17 (b:Str):InR b (n10 b):=fun _ hk=>nl10 hk
theorem i16 (b:Str):InR b (valR b):=fun _ hk=>vl11 hk
theorem i13 (b:Str):InR b (s13 b):=(i17 b).seq (i16 b)
theorem i19 (b:Str):InR b (cfgR b):=(i17 b).seq (i16 b).list
theorem i18 (b:Str):InR b (rowR b):=(i13 b).list.seq (i19 b).list
theorem np_ (b:Str) (k:Nat):0≤(n10 b k).1∧(n10 b k).1<2147483648:=by
 unfold n10 intP
 cases h:numP (b.drop k) with
 | none=>simp
 | some x=>
  have:=(np12.bwd _ _ _ h).1
  simp only[Option.map_some]
  omega
theorem dli_ {b:Str} {k:Nat} (hk:k≤b.length):((b.drop k).length:Int)=(b.length:Int) - (k:Int):=by
 rw[List.length_drop];omega
theorem lVh_ {e:Nat×Nat} (hE:ErrG G e) (b:Str) (k:Nat) (hk:k≤b.length) (hb:b.length≤maxB):H_ Tryz.prog G nslaV_ [rdr,.fn (nsrv_+1000000) [rdr]] (plH b k) (outE e (.seq 4 ((l_ b (valR b) k).1.map valV)) (l_ b (valR b) k).2.1) (plH b (l_ b (valR b) k).2.2):=by
 have hn:=rnh_ hE b k hk hb
 have hk1:=nl10 hk
 have hnn:=np_ b k
 have hB:b10 Tryz.prog nsrv_=true:=by kernel_rfl
 have hf:fnN (nsrv_+1000000)=nsrv_:=rfl
 have ha:fnA (nsrv_+1000000) [rdr] []=[rdr]:=rfl
 have key:l_ b (valR b) k=if (n10 b k).2.1=true then (if (b.length:Int) - ((n10 b k).2.2:Int)<(n10 b k).1 then ([],false,(n10 b k).2.2) else t_ (valR b) (n10 b k).1.toNat (n10 b k).2.2) else ([],false,(n10 b k).2.2):=rfl
 refine hs11 (R_.of fun Φ h=>?_)
 unfold cs10
 have fin4:∀st (m:Nat) q,l_ b (valR b) k=([],false,m)→hget st.heap 4=some ⟨true,taV_,4,q⟩→r12 (st.thaw1 4) [.t 4,.t 5]=some [.seq 4 [],errA e]→subH (st.thaw1 4).heap (plH b m)→Φ st:=fun st m q hh hi hv hs=>by
  rw[hh] at h
  exact h _ ⟨_,_,wt_ hi rfl,hv,.refl _,hs.at⟩
 have fin8:∀st (l:List (Val)) (m:Nat),l_ b (valR b) k=(l,true,m)→hget st.heap 8=some ⟨true,taV_,4,l.map valV⟩→r12 (st.thaw1 8) [.t 4,.t 5]=some [.seq 4 (l.map valV),.nili]→subH (st.thaw1 8).heap (plH b m)→Φ st:=fun st l m hh hi hv hs=>by
  rw[hh] at h
  exact h _ ⟨_,_,wt_ hi rfl,hv,.refl _,hs.at⟩
 clear h
 rw[key] at fin4 fin8
 clear key
 have hdl:=dli_ hk1
 have hr:=prh_ (G:=G) b (n10 b k).2.2 hk1
 generalize n10 b k=x at*
 obtain⟨n,ok,k1⟩:=x
 simp only at hn hk1 hnn hdl hr fin4 fin8
 unfold outE at hn
 unfold ErrG at hE
 simp only[plH,plB,List.cons_append,List.nil_append] at*
 cases ok with
 | false=>
  rw[if_neg (by decide)] at hn
  rw[if_neg (by decide)] at fin4 fin8
  clear fin8 hr
  simp only[errA] at*
  repeat' (first|simp -implicitDefEqProofs only[go_sem,hE]|refine ag_ (fun hb=>?_) (fun hb=>?_)|refine⟨fun hb=>?_,fun hb=>?_⟩|(refine ac_ [(1003,1003)] hn rfl ⟨⟨_,_,rfl,rfl,rfl⟩,trivial⟩ rfl rfl rfl ?_)|fail)
  exact fin4 _ _ _ rfl rfl rfl ⟨rfl,trivial⟩
 | true=>
  rw[if_pos rfl] at hn
  rw[if_pos rfl] at fin4 fin8
  by_cases hlt:(b.length:Int) - (k1:Int)<n
  ·rw[if_pos hlt] at fin4 fin8
   rw[←hdl] at hlt
   have e0:=decide_eq_true hlt
   clear fin8
   simp only[errA] at*
   repeat' (first|simp -implicitDefEqProofs only[go_sem,hE,e0,List.length_map]|refine ag_ (fun hb=>?_) (fun hb=>?_)|refine⟨fun hb=>?_,fun hb=>?_⟩|(refine ac_ [(1003,1003)] hn rfl ⟨⟨_,_,rfl,rfl,rfl⟩,trivial⟩ rfl rfl rfl ?_)|(refine ac_ [(1003,1003)] hr rfl ⟨⟨_,_,rfl,rfl,rfl⟩,trivial⟩ rfl rfl rfl ?_)|fail)
   exact fin4 _ _ _ rfl rfl rfl ⟨rfl,trivial⟩
  ·rw[if_neg hlt] at fin4 fin8
   rw[←hdl] at hlt
   have e0:=decide_eq_false hlt
   have hc1:=fun kk hkk=>rvh_ hE b kk hkk hb
   obtain⟨N,rfl⟩:=Int.eq_ofNat_of_zero_le hnn.1
   rw[Int.toNat_natCast] at fin4 fin8
   have ht0:=tn10 (tn_ (u:=valR b) N k1)
   repeat' (first|simp -implicitDefEqProofs only[go_sem,hE,e0,List.length_map]|refine ag_ (fun hb=>?_) (fun hb=>?_)|refine⟨fun hb=>?_,fun hb=>?_⟩|(refine ac_ [(1003,1003)] hn rfl ⟨⟨_,_,rfl,rfl,rfl⟩,trivial⟩ rfl rfl rfl ?_)|(refine ac_ [(1003,1003)] hr rfl ⟨⟨_,_,rfl,rfl,rfl⟩,trivial⟩ rfl rfl rfl ?_)|fail)
   refine al10 (fun n st=>∃(i:Nat) (m:List (Val)) (kk:Nat),i+n=N∧st=⟨44,[(1,.fn (nsrv_+1000000) [rdr]),(8,.arr 8 0 m.length),(27,iv N),(28,iv i)],[(2,⟨false,tsr_,1,[rdr]⟩),(4,⟨true,taV_,4,[]⟩),(8,⟨true,taV_,4,m.map valV⟩),(1003,⟨false,tsp_,2,[.agg [.seq 1 (b.map byV),iv kk]]⟩)]⟩∧
    m.length=i∧kk≤b.length∧tlR m (t_ (valR b) (N - i) kk)=t_ (valR b) N k1) N ⟨0,[],k1,by simp,rfl,rfl,hk1,ht0⟩ ?_
   rintro I hI n st ⟨i,m,kk,hi,rfl,hml,hkk,ht⟩
   clear hn hr ht0
   by_cases hlt2:i<N
   ·have hlt':decide ((i:Int)<(N:Int))=true:=decide_eq_true (by omega)
    have hw:=ws_ hlt2 (by omega)
    have hc:=hc1 kk hkk
    have hin:=i16 b kk hkk
    have hb1:(m.length+1)*40≤140737488355328:=by omega
    rw[show N - i=(N - i - 1)+1 by omega] at ht
    generalize hux:(valR b) kk=x at*
    obtain⟨x,ok,k2⟩:=x
    simp only[outE] at hc hin
    cases ok with
    | true=>
     rw[if_pos rfl] at hc
     rw[ts11 hux,show N - i - 1=N - (i+1) by omega] at ht
     have hnx:=hI (n - 1) _ ⟨i+1,m++[x],k2,by omega,rfl,by simp;omega,hin,ht⟩
     clear hI hux hc1 fin4 fin8 ht
     simp only[List.map_append,List.map_cons,List.map_nil,List.length_append,List.length_cons,List.length_nil,Nat.zero_add] at hnx
     obtain⟨v1,v2,v3,v4⟩:=x
     simp only[valV,plH,plB,List.cons_append,List.nil_append] at hc hnx
     repeat' (first|simp -implicitDefEqProofs only[go_sem,hE,hlt',hw,hf,ha,hb1,List.length_map]|refine ag_ (fun hb=>?_) (fun hb=>?_)|refine⟨fun hb=>?_,fun hb=>?_⟩|(refine⟨hB,ach_ [(1003,1003)] hc rfl ⟨⟨_,_,rfl,rfl,rfl⟩,trivial⟩ rfl rfl rfl ?_⟩)|fail)
     exact aa_ (n - 1) (by omega) hnx
    | false=>
     rw[if_neg (by decide)] at hc
     rw[tb10 hux] at ht
     rw[←ht] at fin4
     clear hI hux hc1 fin8 ht
     obtain⟨v1,v2,v3,v4⟩:=x
     simp only[valV,plH,plB,errA,List.cons_append,List.nil_append] at*
     repeat' (first|simp -implicitDefEqProofs only[go_sem,hE,hlt',hw,hf,ha,hb1,List.length_map]|refine ag_ (fun hb=>?_) (fun hb=>?_)|refine⟨fun hb=>?_,fun hb=>?_⟩|(refine⟨hB,ach_ [(1003,1003)] hc rfl ⟨⟨_,_,rfl,rfl,rfl⟩,trivial⟩ rfl rfl rfl ?_⟩)|fail)
     exact fin4 _ _ _ rfl rfl rfl ⟨rfl,trivial⟩
   ·have hlt':decide ((i:Int)<(N:Int))=false:=decide_eq_false (by omega)
    rw[show N - i=0 by omega,te_] at ht
    rw[←ht] at fin8
    clear hI hc1 fin4 ht
    have htk:List.take m.length (m.map valV)=m.map valV:=List.take_of_length_le (by simp)
    repeat' (first|simp -implicitDefEqProofs only[go_sem,hlt']|refine ag_ (fun hb=>?_) (fun hb=>?_)|refine⟨fun hb=>?_,fun hb=>?_⟩|fail)
    exact fin8 _ _ _ rfl rfl (by simp [r12,St.thaw1,t13,t12,thaw,eget,hget,htk,St.get];done) ⟨rfl,trivial⟩
theorem rs12 {e:Nat×Nat} (hE:ErrG G e) (b:Str) (k:Nat) (hk:k≤b.length) (hb:b.length≤maxB):H_ Tryz.prog G nsrs_ [rdr] (plH b k) (outE e (s17 (s13 b k).1) (s13 b k).2.1) (plH b (s13 b k).2.2):=by
 have hn:=rnh_ hE b k hk hb
 have hv:=fun kk hkk=>rvh_ hE b kk hkk hb
 have hk1:=nl10 hk
 refine hs12 (R_.of fun Φ h=>?_)
 unfold cs11
 have fin:∀st (x:Int×Val) (ok:Bool) (m:Nat),s13 b k=(x,ok,m)→r12 st [.cells 2 5,.t 3]=some [s17 x,if ok then .nili else errA e]→subH st.heap (plH b m)→Φ st:=fun st x ok m hh hv hs=>by
  rw[hh] at h
  exact h _ ⟨_,_,Weak.refl _,hv,.refl _,hs.at⟩
 clear h
 unfold s13 seqR at fin
 generalize n10 b k=x at*
 obtain⟨n,ok,k1⟩:=x
 simp only at hn hk1 fin
 unfold outE at hn
 simp only[plH,plB,errA] at*
 cases ok with
 | false=>
  rw[if_neg (by decide)] at hn fin
  repeat' (first|simp -implicitDefEqProofs only[go_sem]|refine ag_ (fun hb=>?_) (fun hb=>?_)|refine⟨fun hb=>?_,fun hb=>?_⟩|(refine ac_ [(1003,1003)] hn rfl ⟨⟨_,_,rfl,rfl,rfl⟩,trivial⟩ rfl rfl rfl ?_)|fail)
  exact fin _ _ false _ rfl rfl ⟨rfl,trivial⟩
 | true=>
  rw[if_pos rfl] at hn fin
  have hv:=hv k1 hk1
  generalize valR b k1=y at*
  obtain⟨⟨v1,v2,v3,v4⟩,ok,k2⟩:=y
  simp only[outE,valV] at hv fin
  cases ok with
  | false=>
   rw[if_neg (by decide)] at hv
   simp only[errA] at hv
   repeat' (first|simp -implicitDefEqProofs only[go_sem]|refine ag_ (fun hb=>?_) (fun hb=>?_)|refine⟨fun hb=>?_,fun hb=>?_⟩|(refine ac_ [(1003,1003)] hn rfl ⟨⟨_,_,rfl,rfl,rfl⟩,trivial⟩ rfl rfl rfl ?_)|(refine ac_ [(1003,1003)] hv rfl ⟨⟨_,_,rfl,rfl,rfl⟩,trivial⟩ rfl rfl rfl ?_)|fail)
   exact fin _ _ false _ rfl rfl ⟨rfl,trivial⟩
  | true=>
   rw[if_pos rfl] at hv
   repeat' (first|simp -implicitDefEqProofs only[go_sem]|refine ag_ (fun hb=>?_) (fun hb=>?_)|refine⟨fun hb=>?_,fun hb=>?_⟩|(refine ac_ [(1003,1003)] hn rfl ⟨⟨_,_,rfl,rfl,rfl⟩,trivial⟩ rfl rfl rfl ?_)|(refine ac_ [(1003,1003)] hv rfl ⟨⟨_,_,rfl,rfl,rfl⟩,trivial⟩ rfl rfl rfl ?_)|fail)
   exact fin _ _ true _ rfl rfl ⟨rfl,trivial⟩
theorem lSh_ {e:Nat×Nat} (hE:ErrG G e) (b:Str) (k:Nat) (hk:k≤b.length) (hb:b.length≤maxB):H_ Tryz.prog G nslaS_ [rdr,.fn (nsrs_+1000000) [rdr]] (plH b k) (outE e (.seq 5 ((l_ b (s13 b) k).1.map s17)) (l_ b (s13 b) k).2.1) (plH b (l_ b (s13 b) k).2.2):=by
 have hn:=rnh_ hE b k hk hb
 have hk1:=nl10 hk
 have hnn:=np_ b k
 have hB:b10 Tryz.prog nsrs_=true:=by kernel_rfl
 have hf:fnN (nsrs_+1000000)=nsrs_:=rfl
 have ha:fnA (nsrs_+1000000) [rdr] []=[rdr]:=rfl
 have key:l_ b (s13 b) k=if (n10 b k).2.1=true then (if (b.length:Int) - ((n10 b k).2.2:Int)<(n10 b k).1 then ([],false,(n10 b k).2.2) else t_ (s13 b) (n10 b k).1.toNat (n10 b k).2.2) else ([],false,(n10 b k).2.2):=rfl
 refine hslaS_ (R_.of fun Φ h=>?_)
 unfold cslaS_
 have fin4:∀st (m:Nat) q,l_ b (s13 b) k=([],false,m)→hget st.heap 4=some ⟨true,ta10,5,q⟩→r12 (st.thaw1 4) [.t 4,.t 5]=some [.seq 5 [],errA e]→subH (st.thaw1 4).heap (plH b m)→Φ st:=fun st m q hh hi hv hs=>by
  rw[hh] at h
  exact h _ ⟨_,_,wt_ hi rfl,hv,.refl _,hs.at⟩
 have fin8:∀st (l:List (Int×Val)) (m:Nat),l_ b (s13 b) k=(l,true,m)→hget st.heap 8=some ⟨true,ta10,5,l.map s17⟩→r12 (st.thaw1 8) [.t 4,.t 5]=some [.seq 5 (l.map s17),.nili]→subH (st.thaw1 8).heap (plH b m)→Φ st:=fun st l m hh hi hv hs=>by
  rw[hh] at h
  exact h _ ⟨_,_,wt_ hi rfl,hv,.refl _,hs.at⟩
 clear h
 rw[key] at fin4 fin8
 clear key
 have hdl:=dli_ hk1
 have hr:=prh_ (G:=G) b (n10 b k).2.2 hk1
 generalize n10 b k=x at*
 obtain⟨n,ok,k1⟩:=x
 simp only at hn hk1 hnn hdl hr fin4 fin8
 unfold outE at hn
 unfold ErrG at hE
 simp only[plH,plB,List.cons_append,List.nil_append] at*
 cases ok with
 | false=>
  rw[if_neg (by decide)] at hn
  rw[if_neg (by decide)] at fin4 fin8
  clear fin8 hr
  simp only[errA] at*
  repeat' (first|simp -implicitDefEqProofs only[go_sem,hE]|refine ag_ (fun hb=>?_) (fun hb=>?_)|refine⟨fun hb=>?_,fun hb=>?_⟩|(refine ac_ [(1003,1003)] hn rfl ⟨⟨_,_,rfl,rfl,rfl⟩,trivial⟩ rfl rfl rfl ?_)|fail)
  exact fin4 _ _ _ rfl rfl rfl ⟨rfl,trivial⟩
 | true=>
  rw[if_pos rfl] at hn
  rw[if_pos rfl] at fin4 fin8
  by_cases hlt:(b.length:Int) - (k1:Int)<n
  ·rw[if_pos hlt] at fin4 fin8
   rw[←hdl] at hlt
   have e0:=decide_eq_true hlt
   clear fin8
   simp only[errA] at*
   repeat' (first|simp -implicitDefEqProofs only[go_sem,hE,e0,List.length_map]|refine ag_ (fun hb=>?_) (fun hb=>?_)|refine⟨fun hb=>?_,fun hb=>?_⟩|(refine ac_ [(1003,1003)] hn rfl ⟨⟨_,_,rfl,rfl,rfl⟩,trivial⟩ rfl rfl rfl ?_)|(refine ac_ [(1003,1003)] hr rfl ⟨⟨_,_,rfl,rfl,rfl⟩,trivial⟩ rfl rfl rfl ?_)|fail)
   exact fin4 _ _ _ rfl rfl rfl ⟨rfl,trivial⟩
  ·rw[if_neg hlt] at fin4 fin8
   rw[←hdl] at hlt
   have e0:=decide_eq_false hlt
   have hc1:=fun kk hkk=>rs12 hE b kk hkk hb
   obtain⟨N,rfl⟩:=Int.eq_ofNat_of_zero_le hnn.1
   rw[Int.toNat_natCast] at fin4 fin8
   have ht0:=tn10 (tn_ (u:=s13 b) N k1)
   repeat' (first|simp -implicitDefEqProofs only[go_sem,hE,e0,List.length_map]|refine ag_ (fun hb=>?_) (fun hb=>?_)|refine⟨fun hb=>?_,fun hb=>?_⟩|(refine ac_ [(1003,1003)] hn rfl ⟨⟨_,_,rfl,rfl,rfl⟩,trivial⟩ rfl rfl rfl ?_)|(refine ac_ [(1003,1003)] hr rfl ⟨⟨_,_,rfl,rfl,rfl⟩,trivial⟩ rfl rfl rfl ?_)|fail)
   refine al10 (fun n st=>∃(i:Nat) (m:List (Int×Val)) (kk:Nat),i+n=N∧st=⟨44,[(1,.fn (nsrs_+1000000) [rdr]),(8,.arr 8 0 m.length),(27,iv N),(28,iv i)],[(2,⟨false,tsr_,1,[rdr]⟩),(4,⟨true,ta10,5,[]⟩),(8,⟨true,ta10,5,m.map s17⟩),(1003,⟨false,tsp_,2,[.agg [.seq 1 (b.map byV),iv kk]]⟩)]⟩∧
    m.length=i∧kk≤b.length∧tlR m (t_ (s13 b) (N - i) kk)=t_ (s13 b) N k1) N ⟨0,[],k1,by simp,rfl,rfl,hk1,ht0⟩ ?_
   rintro I hI n st ⟨i,m,kk,hi,rfl,hml,hkk,ht⟩
   clear hn hr ht0
   by_cases hlt2:i<N
   ·have hlt':decide ((i:Int)<(N:Int))=true:=decide_eq_true (by omega)
    have hw:=ws_ hlt2 (by omega)
    have hc:=hc1 kk hkk
    have hin:=i13 b kk hkk
    have hb1:(m.length+1)*48≤140737488355328:=by omega
    rw[show N - i=(N - i - 1)+1 by omega] at ht
    generalize hux:(s13 b) kk=x at*
    obtain⟨x,ok,k2⟩:=x
    simp only[outE] at hc hin
    cases ok with
    | true=>
     rw[if_pos rfl] at hc
     rw[ts11 hux,show N - i - 1=N - (i+1) by omega] at ht
     have hnx:=hI (n - 1) _ ⟨i+1,m++[x],k2,by omega,rfl,by simp;omega,hin,ht⟩
     clear hI hux hc1 fin4 fin8 ht
     simp only[List.map_append,List.map_cons,List.map_nil,List.length_append,List.length_cons,List.length_nil,Nat.zero_add] at hnx
     obtain⟨v0,⟨v1,v2,v3,v4⟩⟩:=x
     simp only[s17,plH,plB,List.cons_append,List.nil_append] at hc hnx
     repeat' (first|simp -implicitDefEqProofs only[go_sem,hE,hlt',hw,hf,ha,hb1,List.length_map]|refine ag_ (fun hb=>?_) (fun hb=>?_)|refine⟨fun hb=>?_,fun hb=>?_⟩|(refine⟨hB,ach_ [(1003,1003)] hc rfl ⟨⟨_,_,rfl,rfl,rfl⟩,trivial⟩ rfl rfl rfl ?_⟩)|fail)
     exact aa_ (n - 1) (by omega) hnx
    | false=>
     rw[if_neg (by decide)] at hc
     rw[tb10 hux] at ht
     rw[←ht] at fin4
     clear hI hux hc1 fin8 ht
     obtain⟨v0,⟨v1,v2,v3,v4⟩⟩:=x
     simp only[s17,plH,plB,errA,List.cons_append,List.nil_append] at*
     repeat' (first|simp -implicitDefEqProofs only[go_sem,hE,hlt',hw,hf,ha,hb1,List.length_map]|refine ag_ (fun hb=>?_) (fun hb=>?_)|refine⟨fun hb=>?_,fun hb=>?_⟩|(refine⟨hB,ach_ [(1003,1003)] hc rfl ⟨⟨_,_,rfl,rfl,rfl⟩,trivial⟩ rfl rfl rfl ?_⟩)|fail)
     exact fin4 _ _ _ rfl rfl rfl ⟨rfl,trivial⟩
   ·have hlt':decide ((i:Int)<(N:Int))=false:=decide_eq_false (by omega)
    rw[show N - i=0 by omega,te_] at ht
    rw[←ht] at fin8
    clear hI hc1 fin4 ht
    have htk:List.take m.length (m.map s17)=m.map s17:=List.take_of_length_le (by simp)
    repeat' (first|simp -implicitDefEqProofs only[go_sem,hlt']|refine ag_ (fun hb=>?_) (fun hb=>?_)|refine⟨fun hb=>?_,fun hb=>?_⟩|fail)
    exact fin8 _ _ _ rfl rfl (by simp [r12,St.thaw1,t13,t12,thaw,eget,hget,htk,St.get];done) ⟨rfl,trivial⟩
theorem rch_ {e:Nat×Nat} (hE:ErrG G e) (b:Str) (k:Nat) (hk:k≤b.length) (hb:b.length≤maxB):H_ Tryz.prog G nsrc_ [rdr] (plH b k) (outE e (cfgE (cfgR b k).1) (cfgR b k).2.1) (plH b (cfgR b k).2.2):=by
 have hn:=rnh_ hE b k hk hb
 have hv:=fun kk hkk=>lVh_ hE b kk hkk hb
 have hk1:=i17 b k hk
 refine hsrc_ (R_.of fun Φ h=>?_)
 unfold csrc_
 have fin:∀st (x:Int×List Val) (ok:Bool) (m:Nat),cfgR b k=(x,ok,m)→r12 st [.cells 2 2,.t 3]=some [cfgE x,if ok then .nili else errA e]→subH st.heap (plH b m)→Φ st:=fun st x ok m hh hv hs=>by
  rw[hh] at h
  exact h _ ⟨_,_,Weak.refl _,hv,.refl _,hs.at⟩
 have fin0:∀st (x:Int×List Val) (m:Nat) (bx:Box) cs ds,cfgR b k=(x,false,m)→hget st.heap 2=some bx→bx=⟨false,taC_,2,[.agg cs]⟩→FitL cs ds→cfgE x= .agg ds→r12 {st with heap:=hset st.heap 2 ⟨false,taC_,2,[.agg ds]⟩} [.cells 2 2,.t 3]=some [.agg ds,errA e]→subH (hset st.heap 2 ⟨false,taC_,2,[.agg ds]⟩) (plH b m)→Φ st:=fun st x m bx cs ds hh hi hbx hf hx hv hs=>by
  rw[hh] at h
  subst hbx
  exact h _ ⟨_,_,wc_ hi rfl (Nat.lt_of_sub_eq_succ rfl) hf,hv,fe_ (by simp only[one,outE];rw[hx];rfl),hs.at⟩
 clear h
 unfold cfgR seqR at fin fin0
 generalize n10 b k=x at*
 obtain⟨n,ok,k1⟩:=x
 simp only at hn hk1 fin
 unfold outE at hn
 simp only[plH,plB,errA] at*
 cases ok with
 | false=>
  rw[if_neg (by decide)] at hn fin
  rw[if_neg (by decide)] at fin0
  repeat' (first|simp -implicitDefEqProofs only[go_sem]|refine ag_ (fun hb=>?_) (fun hb=>?_)|refine⟨fun hb=>?_,fun hb=>?_⟩|(refine ac_ [(1003,1003)] hn rfl ⟨⟨_,_,rfl,rfl,rfl⟩,trivial⟩ rfl rfl rfl ?_)|fail)
  exact fin0 _ _ _ _ _ [.int .i64 0,.seq 4 []] rfl rfl rfl ⟨.refl _,.nil 4,trivial⟩ rfl rfl ⟨rfl,trivial⟩
 | true=>
  rw[if_pos rfl] at hn fin
  clear fin0
  have hv:=hv k1 hk1
  generalize l_ b (valR b) k1=y at*
  obtain⟨l,ok,k2⟩:=y
  simp only[outE] at hv fin
  cases ok with
  | false=>
   rw[if_neg (by decide)] at hv
   simp only[errA] at hv
   repeat' (first|simp -implicitDefEqProofs only[go_sem]|refine ag_ (fun hb=>?_) (fun hb=>?_)|refine⟨fun hb=>?_,fun hb=>?_⟩|(refine ac_ [(1003,1003)] hn rfl ⟨⟨_,_,rfl,rfl,rfl⟩,trivial⟩ rfl rfl rfl ?_)|(refine ac_ [(1003,1003)] hv rfl ⟨⟨_,_,rfl,rfl,rfl⟩,trivial⟩ rfl rfl rfl ?_)|fail)
   exact fin _ _ false _ rfl rfl ⟨rfl,trivial⟩
  | true=>
   rw[if_pos rfl] at hv
   repeat' (first|simp -implicitDefEqProofs only[go_sem]|refine ag_ (fun hb=>?_) (fun hb=>?_)|refine⟨fun hb=>?_,fun hb=>?_⟩|(refine ac_ [(1003,1003)] hn rfl ⟨⟨_,_,rfl,rfl,rfl⟩,trivial⟩ rfl rfl rfl ?_)|(refine ac_ [(1003,1003)] hv rfl ⟨⟨_,_,rfl,rfl,rfl⟩,trivial⟩ rfl rfl rfl ?_)|fail)
   exact fin _ _ true _ rfl rfl ⟨rfl,trivial⟩
theorem lCh_ {e:Nat×Nat} (hE:ErrG G e) (b:Str) (k:Nat) (hk:k≤b.length) (hb:b.length≤maxB):H_ Tryz.prog G nslaC_ [rdr,.fn (nsrc_+1000000) [rdr]] (plH b k) (outE e (.seq 2 ((l_ b (cfgR b) k).1.map cfgE)) (l_ b (cfgR b) k).2.1) (plH b (l_ b (cfgR b) k).2.2):=by
 have hn:=rnh_ hE b k hk hb
 have hk1:=nl10 hk
 have hnn:=np_ b k
 have hB:b10 Tryz.prog nsrc_=true:=by kernel_rfl
 have hf:fnN (nsrc_+1000000)=nsrc_:=rfl
 have ha:fnA (nsrc_+1000000) [rdr] []=[rdr]:=rfl
 have key:l_ b (cfgR b) k=if (n10 b k).2.1=true then (if (b.length:Int) - ((n10 b k).2.2:Int)<(n10 b k).1 then ([],false,(n10 b k).2.2) else t_ (cfgR b) (n10 b k).1.toNat (n10 b k).2.2) else ([],false,(n10 b k).2.2):=rfl
 refine hslaC_ (R_.of fun Φ h=>?_)
 unfold cslaC_
 have fin4:∀st (m:Nat) q,l_ b (cfgR b) k=([],false,m)→hget st.heap 4=some ⟨true,taC_,2,q⟩→r12 (st.thaw1 4) [.t 4,.t 5]=some [.seq 2 [],errA e]→subH (st.thaw1 4).heap (plH b m)→Φ st:=fun st m q hh hi hv hs=>by
  rw[hh] at h
  exact h _ ⟨_,_,wt_ hi rfl,hv,.refl _,hs.at⟩
 have fin8:∀st (l:List (Int×List Val)) (m:Nat),l_ b (cfgR b) k=(l,true,m)→hget st.heap 8=some ⟨true,taC_,2,l.map cfgE⟩→r12 (st.thaw1 8) [.t 4,.t 5]=some [.seq 2 (l.map cfgE),.nili]→subH (st.thaw1 8).heap (plH b m)→Φ st:=fun st l m hh hi hv hs=>by
  rw[hh] at h
  exact h _ ⟨_,_,wt_ hi rfl,hv,.refl _,hs.at⟩
 clear h
 rw[key] at fin4 fin8
 clear key
 have hdl:=dli_ hk1
 have hr:=prh_ (G:=G) b (n10 b k).2.2 hk1
 generalize n10 b k=x at*
 obtain⟨n,ok,k1⟩:=x
 simp only at hn hk1 hnn hdl hr fin4 fin8
 unfold outE at hn
 unfold ErrG at hE
 simp only[plH,plB,List.cons_append,List.nil_append] at*
 cases ok with
 | false=>
  rw[if_neg (by decide)] at hn
  rw[if_neg (by decide)] at fin4 fin8
  clear fin8 hr
  simp only[errA] at*
  repeat' (first|simp -implicitDefEqProofs only[go_sem,hE]|refine ag_ (fun hb=>?_) (fun hb=>?_)|refine⟨fun hb=>?_,fun hb=>?_⟩|(refine ac_ [(1003,1003)] hn rfl ⟨⟨_,_,rfl,rfl,rfl⟩,trivial⟩ rfl rfl rfl ?_)|fail)
  exact fin4 _ _ _ rfl rfl rfl ⟨rfl,trivial⟩
 | true=>
  rw[if_pos rfl] at hn
  rw[if_pos rfl] at fin4 fin8
  by_cases hlt:(b.length:Int) - (k1:Int)<n
  ·rw[if_pos hlt] at fin4 fin8
   rw[←hdl] at hlt
   have e0:=decide_eq_true hlt
   clear fin8
   simp only[errA] at*
   repeat' (first|simp -implicitDefEqProofs only[go_sem,hE,e0,List.length_map]|refine ag_ (fun hb=>?_) (fun hb=>?_)|refine⟨fun hb=>?_,fun hb=>?_⟩|(refine ac_ [(1003,1003)] hn rfl ⟨⟨_,_,rfl,rfl,rfl⟩,trivial⟩ rfl rfl rfl ?_)|(refine ac_ [(1003,1003)] hr rfl ⟨⟨_,_,rfl,rfl,rfl⟩,trivial⟩ rfl rfl rfl ?_)|fail)
   exact fin4 _ _ _ rfl rfl rfl ⟨rfl,trivial⟩
  ·rw[if_neg hlt] at fin4 fin8
   rw[←hdl] at hlt
   have e0:=decide_eq_false hlt
   have hc1:=fun kk hkk=>rch_ hE b kk hkk hb
   obtain⟨N,rfl⟩:=Int.eq_ofNat_of_zero_le hnn.1
   rw[Int.toNat_natCast] at fin4 fin8
   have ht0:=tn10 (tn_ (u:=cfgR b) N k1)
   repeat' (first|simp -implicitDefEqProofs only[go_sem,hE,e0,List.length_map]|refine ag_ (fun hb=>?_) (fun hb=>?_)|refine⟨fun hb=>?_,fun hb=>?_⟩|(refine ac_ [(1003,1003)] hn rfl ⟨⟨_,_,rfl,rfl,rfl⟩,trivial⟩ rfl rfl rfl ?_)|(refine ac_ [(1003,1003)] hr rfl ⟨⟨_,_,rfl,rfl,rfl⟩,trivial⟩ rfl rfl rfl ?_)|fail)
   refine al10 (fun n st=>∃(i:Nat) (m:List (Int×List Val)) (kk:Nat),i+n=N∧st=⟨44,[(1,.fn (nsrc_+1000000) [rdr]),(8,.arr 8 0 m.length),(27,iv N),(28,iv i)],[(2,⟨false,tsr_,1,[rdr]⟩),(4,⟨true,taC_,2,[]⟩),(8,⟨true,taC_,2,m.map cfgE⟩),(1003,⟨false,tsp_,2,[.agg [.seq 1 (b.map byV),iv kk]]⟩)]⟩∧
    m.length=i∧kk≤b.length∧tlR m (t_ (cfgR b) (N - i) kk)=t_ (cfgR b) N k1) N ⟨0,[],k1,by simp,rfl,rfl,hk1,ht0⟩ ?_
   rintro I hI n st ⟨i,m,kk,hi,rfl,hml,hkk,ht⟩
   clear hn hr ht0
   by_cases hlt2:i<N
   ·have hlt':decide ((i:Int)<(N:Int))=true:=decide_eq_true (by omega)
    have hw:=ws_ hlt2 (by omega)
    have hc:=hc1 kk hkk
    have hin:=i19 b kk hkk
    have hb1:(m.length+1)*32≤140737488355328:=by omega
    rw[show N - i=(N - i - 1)+1 by omega] at ht
    generalize hux:(cfgR b) kk=x at*
    obtain⟨x,ok,k2⟩:=x
    simp only[outE] at hc hin
    cases ok with
    | true=>
     rw[if_pos rfl] at hc
     rw[ts11 hux,show N - i - 1=N - (i+1) by omega] at ht
     have hnx:=hI (n - 1) _ ⟨i+1,m++[x],k2,by omega,rfl,by simp;omega,hin,ht⟩
     clear hI hux hc1 fin4 fin8 ht
     simp only[List.map_append,List.map_cons,List.map_nil,List.length_append,List.length_cons,List.length_nil,Nat.zero_add] at hnx
     obtain⟨v1,v2⟩:=x
     simp only[cfgE,plH,plB,List.cons_append,List.nil_append] at hc hnx
     repeat' (first|simp -implicitDefEqProofs only[go_sem,hE,hlt',hw,hf,ha,hb1,List.length_map]|refine ag_ (fun hb=>?_) (fun hb=>?_)|refine⟨fun hb=>?_,fun hb=>?_⟩|(refine⟨hB,ach_ [(1003,1003)] hc rfl ⟨⟨_,_,rfl,rfl,rfl⟩,trivial⟩ rfl rfl rfl ?_⟩)|fail)
     exact aa_ (n - 1) (by omega) hnx
    | false=>
     rw[if_neg (by decide)] at hc
     rw[tb10 hux] at ht
     rw[←ht] at fin4
     clear hI hux hc1 fin8 ht
     obtain⟨v1,v2⟩:=x
     simp only[cfgE,plH,plB,errA,List.cons_append,List.nil_append] at*
     repeat' (first|simp -implicitDefEqProofs only[go_sem,hE,hlt',hw,hf,ha,hb1,List.length_map]|refine ag_ (fun hb=>?_) (fun hb=>?_)|refine⟨fun hb=>?_,fun hb=>?_⟩|(refine⟨hB,ach_ [(1003,1003)] hc rfl ⟨⟨_,_,rfl,rfl,rfl⟩,trivial⟩ rfl rfl rfl ?_⟩)|fail)
     exact fin4 _ _ _ rfl rfl rfl ⟨rfl,trivial⟩
   ·have hlt':decide ((i:Int)<(N:Int))=false:=decide_eq_false (by omega)
    rw[show N - i=0 by omega,te_] at ht
    rw[←ht] at fin8
    clear hI hc1 fin4 ht
    have htk:List.take m.length (m.map cfgE)=m.map cfgE:=List.take_of_length_le (by simp)
    repeat' (first|simp -implicitDefEqProofs only[go_sem,hlt']|refine ag_ (fun hb=>?_) (fun hb=>?_)|refine⟨fun hb=>?_,fun hb=>?_⟩|fail)
    exact fin8 _ _ _ rfl rfl (by simp [r12,St.thaw1,t13,t12,thaw,eget,hget,htk,St.get];done) ⟨rfl,trivial⟩
theorem rrh_ {e:Nat×Nat} (hE:ErrG G e) (b:Str) (k:Nat) (hk:k≤b.length) (hb:b.length≤maxB):H_ Tryz.prog G nsrr_ [rdr] (plH b k) (outE e (rowE (rowR b k).1) (rowR b k).2.1) (plH b (rowR b k).2.2):=by
 have hn:=lSh_ hE b k hk hb
 have hv:=fun kk hkk=>lCh_ hE b kk hkk hb
 have hk1:=(i13 b).list k hk
 refine hsrr_ (R_.of fun Φ h=>?_)
 unfold csrr_
 have fin:∀st (x:VRow) (ok:Bool) (m:Nat),rowR b k=(x,ok,m)→r12 st [.cells 2 2,.t 3]=some [rowE x,if ok then .nili else errA e]→subH st.heap (plH b m)→Φ st:=fun st x ok m hh hv hs=>by
  rw[hh] at h
  exact h _ ⟨_,_,Weak.refl _,hv,.refl _,hs.at⟩
 have fin0:∀st (x:VRow) (m:Nat) (bx:Box) cs ds,rowR b k=(x,false,m)→hget st.heap 2=some bx→bx=⟨false,taR_,2,[.agg cs]⟩→FitL cs ds→rowE x= .agg ds→r12 {st with heap:=hset st.heap 2 ⟨false,taR_,2,[.agg ds]⟩} [.cells 2 2,.t 3]=some [.agg ds,errA e]→subH (hset st.heap 2 ⟨false,taR_,2,[.agg ds]⟩) (plH b m)→Φ st:=fun st x m bx cs ds hh hi hbx hf hx hv hs=>by
  rw[hh] at h
  subst hbx
  exact h _ ⟨_,_,wc_ hi rfl (Nat.lt_of_sub_eq_succ rfl) hf,hv,fe_ (by simp only[one,outE];rw[hx];rfl),hs.at⟩
 clear h
 unfold rowR seqR at fin fin0
 generalize l_ b (s13 b) k=x at*
 obtain⟨n,ok,k1⟩:=x
 simp only at hn hk1 fin
 unfold outE at hn
 simp only[plH,plB,errA] at*
 cases ok with
 | false=>
  rw[if_neg (by decide)] at hn fin
  rw[if_neg (by decide)] at fin0
  repeat' (first|simp -implicitDefEqProofs only[go_sem]|refine ag_ (fun hb=>?_) (fun hb=>?_)|refine⟨fun hb=>?_,fun hb=>?_⟩|(refine ac_ [(1003,1003)] hn rfl ⟨⟨_,_,rfl,rfl,rfl⟩,trivial⟩ rfl rfl rfl ?_)|fail)
  exact fin0 _ _ _ _ _ [.seq 5 [],.seq 2 []] rfl rfl rfl ⟨.nil 5,.nil 2,trivial⟩ rfl rfl ⟨rfl,trivial⟩
 | true=>
  rw[if_pos rfl] at hn fin
  clear fin0
  have hv:=hv k1 hk1
  generalize l_ b (cfgR b) k1=y at*
  obtain⟨l,ok,k2⟩:=y
  simp only[outE] at hv fin
  cases ok with
  | false=>
   rw[if_neg (by decide)] at hv
   simp only[errA] at hv
   repeat' (first|simp -implicitDefEqProofs only[go_sem]|refine ag_ (fun hb=>?_) (fun hb=>?_)|refine⟨fun hb=>?_,fun hb=>?_⟩|(refine ac_ [(1003,1003)] hn rfl ⟨⟨_,_,rfl,rfl,rfl⟩,trivial⟩ rfl rfl rfl ?_)|(refine ac_ [(1003,1003)] hv rfl ⟨⟨_,_,rfl,rfl,rfl⟩,trivial⟩ rfl rfl rfl ?_)|fail)
   exact fin _ _ false _ rfl rfl ⟨rfl,trivial⟩
  | true=>
   rw[if_pos rfl] at hv
   repeat' (first|simp -implicitDefEqProofs only[go_sem]|refine ag_ (fun hb=>?_) (fun hb=>?_)|refine⟨fun hb=>?_,fun hb=>?_⟩|(refine ac_ [(1003,1003)] hn rfl ⟨⟨_,_,rfl,rfl,rfl⟩,trivial⟩ rfl rfl rfl ?_)|(refine ac_ [(1003,1003)] hv rfl ⟨⟨_,_,rfl,rfl,rfl⟩,trivial⟩ rfl rfl rfl ?_)|fail)
   exact fin _ _ true _ rfl rfl ⟨rfl,trivial⟩
theorem lRh_ {e:Nat×Nat} (hE:ErrG G e) (b:Str) (k:Nat) (hk:k≤b.length) (hb:b.length≤maxB):H_ Tryz.prog G nslaR_ [rdr,.fn (nsrr_+1000000) [rdr]] (plH b k) (outE e (.seq 2 ((l_ b (rowR b) k).1.map rowE)) (l_ b (rowR b) k).2.1) (plH b (l_ b (rowR b) k).2.2):=by
 have hn:=rnh_ hE b k hk hb
 have hk1:=nl10 hk
 have hnn:=np_ b k
 have hB:b10 Tryz.prog nsrr_=true:=by kernel_rfl
 have hf:fnN (nsrr_+1000000)=nsrr_:=rfl
 have ha:fnA (nsrr_+1000000) [rdr] []=[rdr]:=rfl
 have key:l_ b (rowR b) k=if (n10 b k).2.1=true then (if (b.length:Int) - ((n10 b k).2.2:Int)<(n10 b k).1 then ([],false,(n10 b k).2.2) else t_ (rowR b) (n10 b k).1.toNat (n10 b k).2.2) else ([],false,(n10 b k).2.2):=rfl
 refine hslaR_ (R_.of fun Φ h=>?_)
 unfold cslaR_
 have fin4:∀st (m:Nat) q,l_ b (rowR b) k=([],false,m)→hget st.heap 4=some ⟨true,taR_,2,q⟩→r12 (st.thaw1 4) [.t 4,.t 5]=some [.seq 2 [],errA e]→subH (st.thaw1 4).heap (plH b m)→Φ st:=fun st m q hh hi hv hs=>by
  rw[hh] at h
  exact h _ ⟨_,_,wt_ hi rfl,hv,.refl _,hs.at⟩
 have fin8:∀st (l:List (VRow)) (m:Nat),l_ b (rowR b) k=(l,true,m)→hget st.heap 8=some ⟨true,taR_,2,l.map rowE⟩→r12 (st.thaw1 8) [.t 4,.t 5]=some [.seq 2 (l.map rowE),.nili]→subH (st.thaw1 8).heap (plH b m)→Φ st:=fun st l m hh hi hv hs=>by
  rw[hh] at h
  exact h _ ⟨_,_,wt_ hi rfl,hv,.refl _,hs.at⟩
 clear h
 rw[key] at fin4 fin8
 clear key
 have hdl:=dli_ hk1
 have hr:=prh_ (G:=G) b (n10 b k).2.2 hk1
 generalize n10 b k=x at*
 obtain⟨n,ok,k1⟩:=x
 simp only at hn hk1 hnn hdl hr fin4 fin8
 unfold outE at hn
 unfold ErrG at hE
 simp only[plH,plB,List.cons_append,List.nil_append] at*
 cases ok with
 | false=>
  rw[if_neg (by decide)] at hn
  rw[if_neg (by decide)] at fin4 fin8
  clear fin8 hr
  simp only[errA] at*
  repeat' (first|simp -implicitDefEqProofs only[go_sem,hE]|refine ag_ (fun hb=>?_) (fun hb=>?_)|refine⟨fun hb=>?_,fun hb=>?_⟩|(refine ac_ [(1003,1003)] hn rfl ⟨⟨_,_,rfl,rfl,rfl⟩,trivial⟩ rfl rfl rfl ?_)|fail)
  exact fin4 _ _ _ rfl rfl rfl ⟨rfl,trivial⟩
 | true=>
  rw[if_pos rfl] at hn
  rw[if_pos rfl] at fin4 fin8
  by_cases hlt:(b.length:Int) - (k1:Int)<n
  ·rw[if_pos hlt] at fin4 fin8
   rw[←hdl] at hlt
   have e0:=decide_eq_true hlt
   clear fin8
   simp only[errA] at*
   repeat' (first|simp -implicitDefEqProofs only[go_sem,hE,e0,List.length_map]|refine ag_ (fun hb=>?_) (fun hb=>?_)|refine⟨fun hb=>?_,fun hb=>?_⟩|(refine ac_ [(1003,1003)] hn rfl ⟨⟨_,_,rfl,rfl,rfl⟩,trivial⟩ rfl rfl rfl ?_)|(refine ac_ [(1003,1003)] hr rfl ⟨⟨_,_,rfl,rfl,rfl⟩,trivial⟩ rfl rfl rfl ?_)|fail)
   exact fin4 _ _ _ rfl rfl rfl ⟨rfl,trivial⟩
  ·rw[if_neg hlt] at fin4 fin8
   rw[←hdl] at hlt
   have e0:=decide_eq_false hlt
   have hc1:=fun kk hkk=>rrh_ hE b kk hkk hb
   obtain⟨N,rfl⟩:=Int.eq_ofNat_of_zero_le hnn.1
   rw[Int.toNat_natCast] at fin4 fin8
   have ht0:=tn10 (tn_ (u:=rowR b) N k1)
   repeat' (first|simp -implicitDefEqProofs only[go_sem,hE,e0,List.length_map]|refine ag_ (fun hb=>?_) (fun hb=>?_)|refine⟨fun hb=>?_,fun hb=>?_⟩|(refine ac_ [(1003,1003)] hn rfl ⟨⟨_,_,rfl,rfl,rfl⟩,trivial⟩ rfl rfl rfl ?_)|(refine ac_ [(1003,1003)] hr rfl ⟨⟨_,_,rfl,rfl,rfl⟩,trivial⟩ rfl rfl rfl ?_)|fail)
   refine al10 (fun n st=>∃(i:Nat) (m:List (VRow)) (kk:Nat),i+n=N∧st=⟨44,[(1,.fn (nsrr_+1000000) [rdr]),(8,.arr 8 0 m.length),(27,iv N),(28,iv i)],[(2,⟨false,tsr_,1,[rdr]⟩),(4,⟨true,taR_,2,[]⟩),(8,⟨true,taR_,2,m.map rowE⟩),(1003,⟨false,tsp_,2,[.agg [.seq 1 (b.map byV),iv kk]]⟩)]⟩∧
    m.length=i∧kk≤b.length∧tlR m (t_ (rowR b) (N - i) kk)=t_ (rowR b) N k1) N ⟨0,[],k1,by simp,rfl,rfl,hk1,ht0⟩ ?_
   rintro I hI n st ⟨i,m,kk,hi,rfl,hml,hkk,ht⟩
   clear hn hr ht0
   by_cases hlt2:i<N
   ·have hlt':decide ((i:Int)<(N:Int))=true:=decide_eq_true (by omega)
    have hw:=ws_ hlt2 (by omega)
    have hc:=hc1 kk hkk
    have hin:=i18 b kk hkk
    have hb1:(m.length+1)*48≤140737488355328:=by omega
    rw[show N - i=(N - i - 1)+1 by omega] at ht
    generalize hux:(rowR b) kk=x at*
    obtain⟨x,ok,k2⟩:=x
    simp only[outE] at hc hin
    cases ok with
    | true=>
     rw[if_pos rfl] at hc
     rw[ts11 hux,show N - i - 1=N - (i+1) by omega] at ht
     have hnx:=hI (n - 1) _ ⟨i+1,m++[x],k2,by omega,rfl,by simp;omega,hin,ht⟩
     clear hI hux hc1 fin4 fin8 ht
     simp only[List.map_append,List.map_cons,List.map_nil,List.length_append,List.length_cons,List.length_nil,Nat.zero_add] at hnx
     obtain⟨v1,v2⟩:=x
     simp only[rowE,plH,plB,List.cons_append,List.nil_append] at hc hnx
     repeat' (first|simp -implicitDefEqProofs only[go_sem,hE,hlt',hw,hf,ha,hb1,List.length_map]|refine ag_ (fun hb=>?_) (fun hb=>?_)|refine⟨fun hb=>?_,fun hb=>?_⟩|(refine⟨hB,ach_ [(1003,1003)] hc rfl ⟨⟨_,_,rfl,rfl,rfl⟩,trivial⟩ rfl rfl rfl ?_⟩)|fail)
     exact aa_ (n - 1) (by omega) hnx
    | false=>
     rw[if_neg (by decide)] at hc
     rw[tb10 hux] at ht
     rw[←ht] at fin4
     clear hI hux hc1 fin8 ht
     obtain⟨v1,v2⟩:=x
     simp only[rowE,plH,plB,errA,List.cons_append,List.nil_append] at*
     repeat' (first|simp -implicitDefEqProofs only[go_sem,hE,hlt',hw,hf,ha,hb1,List.length_map]|refine ag_ (fun hb=>?_) (fun hb=>?_)|refine⟨fun hb=>?_,fun hb=>?_⟩|(refine⟨hB,ach_ [(1003,1003)] hc rfl ⟨⟨_,_,rfl,rfl,rfl⟩,trivial⟩ rfl rfl rfl ?_⟩)|fail)
     exact fin4 _ _ _ rfl rfl rfl ⟨rfl,trivial⟩
   ·have hlt':decide ((i:Int)<(N:Int))=false:=decide_eq_false (by omega)
    rw[show N - i=0 by omega,te_] at ht
    rw[←ht] at fin8
    clear hI hc1 fin4 ht
    have htk:List.take m.length (m.map rowE)=m.map rowE:=List.take_of_length_le (by simp)
    repeat' (first|simp -implicitDefEqProofs only[go_sem,hlt']|refine ag_ (fun hb=>?_) (fun hb=>?_)|refine⟨fun hb=>?_,fun hb=>?_⟩|fail)
    exact fin8 _ _ _ rfl rfl (by simp [r12,St.thaw1,t13,t12,thaw,eget,hget,htk,St.get];done) ⟨rfl,trivial⟩
theorem s1h_ {e:Nat×Nat} (hE:ErrG G e) (b:Str) (k:Nat) (hk:k≤b.length) (hb:b.length≤maxB):H_ Tryz.prog G nsrs1_ [.ref 1004 0 0] (plH b k++[(1004,⟨false,tsr_,1,[rdr]⟩)]) (outE e (v_ (l_ b (valR b) k).1) (l_ b (valR b) k).2.1) (plH b (l_ b (valR b) k).2.2++[(1004,⟨false,tsr_,1,[rdr]⟩)]):=by
 have hv:=lVh_ hE b k hk hb
 refine hsrs1_ (R_.of fun Φ h=>?_)
 unfold csrs1_
 generalize l_ b (valR b) k=y at*
 obtain⟨l,ok,k2⟩:=y
 simp only[outE,plH,plB,List.cons_append,List.nil_append,v_] at*
 simp only[errA] at*
 cases ok
 all_goals
  simp only[if_true,if_false,Bool.false_eq_true] at hv h
  repeat' (first|simp -implicitDefEqProofs only[go_sem]|refine ag_ (fun hb=>?_) (fun hb=>?_)|refine⟨fun hb=>?_,fun hb=>?_⟩|(refine ac_ [(1003,1003)] hv rfl ⟨⟨_,_,rfl,rfl,rfl⟩,trivial⟩ rfl rfl rfl ?_)|fail)
  exact h _ ⟨_,_,Weak.refl _,rfl,.refl _,subH.at ⟨rfl,rfl,trivial⟩⟩
theorem lV10 {e:Nat×Nat} (hE:ErrG G e) (b:Str) (k:Nat) (hk:k≤b.length) (hb:b.length≤maxB):H_ Tryz.prog G ns10 [rdr,.fn nsrs1_ [.ref 1004 0 0]] (plH b k++[(1004,⟨false,tsr_,1,[rdr]⟩)]) (outE e (.seq 1 ((l_ b (l_ b (valR b)) k).1.map v_)) (l_ b (l_ b (valR b)) k).2.1) (plH b (l_ b (l_ b (valR b)) k).2.2++[(1004,⟨false,tsr_,1,[rdr]⟩)]):=by
 have hn:=rnh_ hE b k hk hb
 have hk1:=nl10 hk
 have hnn:=np_ b k
 have hB:b10 Tryz.prog nsrs1_=true:=by kernel_rfl
 have hf:fnN nsrs1_=nsrs1_:=rfl
 have ha:fnA nsrs1_ [.ref 1004 0 0] []=[.ref 1004 0 0]:=rfl
 have key:l_ b (l_ b (valR b)) k=if (n10 b k).2.1=true then (if (b.length:Int) - ((n10 b k).2.2:Int)<(n10 b k).1 then ([],false,(n10 b k).2.2) else t_ (l_ b (valR b)) (n10 b k).1.toNat (n10 b k).2.2) else ([],false,(n10 b k).2.2):=rfl
 refine hslaV_ (R_.of fun Φ h=>?_)
 unfold cslaV_
 have fin4:∀st (m:Nat) q,l_ b (l_ b (valR b)) k=([],false,m)→hget st.heap 4=some ⟨true,tSV_,1,q⟩→r12 (st.thaw1 4) [.t 4,.t 5]=some [.seq 1 [],errA e]→subH (st.thaw1 4).heap (plH b m++[(1004,⟨false,tsr_,1,[rdr]⟩)])→Φ st:=fun st m q hh hi hv hs=>by
  rw[hh] at h
  exact h _ ⟨_,_,wt_ hi rfl,hv,.refl _,hs.at⟩
 have fin8:∀st (l:List (List Val)) (m:Nat),l_ b (l_ b (valR b)) k=(l,true,m)→hget st.heap 8=some ⟨true,tSV_,1,l.map v_⟩→r12 (st.thaw1 8) [.t 4,.t 5]=some [.seq 1 (l.map v_),.nili]→subH (st.thaw1 8).heap (plH b m++[(1004,⟨false,tsr_,1,[rdr]⟩)])→Φ st:=fun st l m hh hi hv hs=>by
  rw[hh] at h
  exact h _ ⟨_,_,wt_ hi rfl,hv,.refl _,hs.at⟩
 clear h
 rw[key] at fin4 fin8
 clear key
 have hdl:=dli_ hk1
 have hr:=prh_ (G:=G) b (n10 b k).2.2 hk1
 generalize n10 b k=x at*
 obtain⟨n,ok,k1⟩:=x
 simp only at hn hk1 hnn hdl hr fin4 fin8
 unfold outE at hn
 unfold ErrG at hE
 simp only[plH,plB,List.cons_append,List.nil_append] at*
 cases ok with
 | false=>
  rw[if_neg (by decide)] at hn
  rw[if_neg (by decide)] at fin4 fin8
  clear fin8 hr
  simp only[errA] at*
  repeat' (first|simp -implicitDefEqProofs only[go_sem,hE]|refine ag_ (fun hb=>?_) (fun hb=>?_)|refine⟨fun hb=>?_,fun hb=>?_⟩|(refine ac_ [(1003,1003)] hn rfl ⟨⟨_,_,rfl,rfl,rfl⟩,trivial⟩ rfl rfl rfl ?_)|fail)
  exact fin4 _ _ _ rfl rfl rfl ⟨rfl,rfl,trivial⟩
 | true=>
  rw[if_pos rfl] at hn
  rw[if_pos rfl] at fin4 fin8
  by_cases hlt:(b.length:Int) - (k1:Int)<n
  ·rw[if_pos hlt] at fin4 fin8
   rw[←hdl] at hlt
   have e0:=decide_eq_true hlt
   clear fin8
   simp only[errA] at*
   repeat' (first|simp -implicitDefEqProofs only[go_sem,hE,e0,List.length_map]|refine ag_ (fun hb=>?_) (fun hb=>?_)|refine⟨fun hb=>?_,fun hb=>?_⟩|(refine ac_ [(1003,1003)] hn rfl ⟨⟨_,_,rfl,rfl,rfl⟩,trivial⟩ rfl rfl rfl ?_)|(refine ac_ [(1003,1003)] hr rfl ⟨⟨_,_,rfl,rfl,rfl⟩,trivial⟩ rfl rfl rfl ?_)|fail)
   exact fin4 _ _ _ rfl rfl rfl ⟨rfl,rfl,trivial⟩
  ·rw[if_neg hlt] at fin4 fin8
   rw[←hdl] at hlt
   have e0:=decide_eq_false hlt
   have hc1:=fun kk hkk=>s1h_ hE b kk hkk hb
   obtain⟨N,rfl⟩:=Int.eq_ofNat_of_zero_le hnn.1
   rw[Int.toNat_natCast] at fin4 fin8
   have ht0:=tn10 (tn_ (u:=l_ b (valR b)) N k1)
   repeat' (first|simp -implicitDefEqProofs only[go_sem,hE,e0,List.length_map]|refine ag_ (fun hb=>?_) (fun hb=>?_)|refine⟨fun hb=>?_,fun hb=>?_⟩|(refine ac_ [(1003,1003)] hn rfl ⟨⟨_,_,rfl,rfl,rfl⟩,trivial⟩ rfl rfl rfl ?_)|(refine ac_ [(1003,1003)] hr rfl ⟨⟨_,_,rfl,rfl,rfl⟩,trivial⟩ rfl rfl rfl ?_)|fail)
   refine al10 (fun n st=>∃(i:Nat) (m:List (List Val)) (kk:Nat),i+n=N∧st=⟨44,[(1,.fn nsrs1_ [.ref 1004 0 0]),(8,.arr 8 0 m.length),(27,iv N),(28,iv i)],[(2,⟨false,tsr_,1,[rdr]⟩),(4,⟨true,tSV_,1,[]⟩),(8,⟨true,tSV_,1,m.map v_⟩),(1003,⟨false,tsp_,2,[.agg [.seq 1 (b.map byV),iv kk]]⟩),(1004,⟨false,tsr_,1,[rdr]⟩)]⟩∧
    m.length=i∧kk≤b.length∧tlR m (t_ (l_ b (valR b)) (N - i) kk)=t_ (l_ b (valR b)) N k1) N ⟨0,[],k1,by simp,rfl,rfl,hk1,ht0⟩ ?_
   rintro I hI n st ⟨i,m,kk,hi,rfl,hml,hkk,ht⟩
   clear hn hr ht0
   by_cases hlt2:i<N
   ·have hlt':decide ((i:Int)<(N:Int))=true:=decide_eq_true (by omega)
    have hw:=ws_ hlt2 (by omega)
    have hc:=hc1 kk hkk
    have hin:=(i16 b).list kk hkk
    have hb1:(m.length+1)*24≤140737488355328:=by omega
    rw[show N - i=(N - i - 1)+1 by omega] at ht
    generalize hux:(l_ b (valR b)) kk=x at*
    obtain⟨x,ok,k2⟩:=x
    simp only[outE] at hc hin
    cases ok with
    | true=>
     rw[if_pos rfl] at hc
     rw[ts11 hux,show N - i - 1=N - (i+1) by omega] at ht
     have hnx:=hI (n - 1) _ ⟨i+1,m++[x],k2,by omega,rfl,by simp;omega,hin,ht⟩
     clear hI hux hc1 fin4 fin8 ht
     simp only[List.map_append,List.map_cons,List.map_nil,List.length_append,List.length_cons,List.length_nil,Nat.zero_add] at hnx

     simp only[v_,plH,plB,List.cons_append,List.nil_append] at hc hnx
     repeat' (first|simp -implicitDefEqProofs only[go_sem,hE,hlt',hw,hf,ha,hb1,List.length_map]|refine ag_ (fun hb=>?_) (fun hb=>?_)|refine⟨fun hb=>?_,fun hb=>?_⟩|(refine⟨hB,ach_ [(1003,1003),(1004,1004)] hc rfl ⟨⟨_,_,rfl,rfl,rfl⟩,⟨_,_,rfl,rfl,rfl⟩,trivial⟩ rfl rfl rfl ?_⟩)|fail)
     exact aa_ (n - 1) (by omega) hnx
    | false=>
     rw[if_neg (by decide)] at hc
     rw[tb10 hux] at ht
     rw[←ht] at fin4
     clear hI hux hc1 fin8 ht

     simp only[v_,plH,plB,errA,List.cons_append,List.nil_append] at*
     repeat' (first|simp -implicitDefEqProofs only[go_sem,hE,hlt',hw,hf,ha,hb1,List.length_map]|refine ag_ (fun hb=>?_) (fun hb=>?_)|refine⟨fun hb=>?_,fun hb=>?_⟩|(refine⟨hB,ach_ [(1003,1003),(1004,1004)] hc rfl ⟨⟨_,_,rfl,rfl,rfl⟩,⟨_,_,rfl,rfl,rfl⟩,trivial⟩ rfl rfl rfl ?_⟩)|fail)
     exact fin4 _ _ _ rfl rfl rfl ⟨rfl,rfl,trivial⟩
   ·have hlt':decide ((i:Int)<(N:Int))=false:=decide_eq_false (by omega)
    rw[show N - i=0 by omega,te_] at ht
    rw[←ht] at fin8
    clear hI hc1 fin4 ht
    have htk:List.take m.length (m.map v_)=m.map v_:=List.take_of_length_le (by simp)
    repeat' (first|simp -implicitDefEqProofs only[go_sem,hlt']|refine ag_ (fun hb=>?_) (fun hb=>?_)|refine⟨fun hb=>?_,fun hb=>?_⟩|fail)
    exact fin8 _ _ _ rfl rfl (by simp [r12,St.thaw1,t13,t12,thaw,eget,hget,htk,St.get];done) ⟨rfl,rfl,trivial⟩
end Go.Proofs.YtkejmcgngblfnaaGreatDoor.Ab
