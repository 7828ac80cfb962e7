/-
  Lemmas. No claim is proved here.
-/
import Derived.Test.YtkadalpaeglmnaaGreatDoorYTcA
import Derived.WalkLawsBesides
import Derived.Stop.Asserts
set_option linter.unusedSimpArgs false
set_option maxHeartbeats 4000000
set_option maxRecDepth 100000
namespace Go.Proofs.YtkadalpaeglmnaaGreatDoor.Ab
open Go Go.RowKit
variable {G:Nat→Option AV}
def rowR:List AV:=[.fn nccr1_ [.ref 3 0 0,.ref 2 0 0],.fn nccr2_ [.ref 3 0 0,.ref 2 0 0],.fn nccr3_ [.ref 3 0 0,.ref 2 0 0],.fn nccr4_ [.ref 3 0 0,.ref 2 0 0],.fn nccr5_ [.ref 2 0 0,.ref 3 0 0],.fn nccr6_ [.ref 3 0 0,.ref 2 0 0],.fn nccr7_ [.ref 3 0 0,.ref 2 0 0],.fn nccr8_ [.ref 2 0 0,.ref 3 0 0]]
def qE (q:QeaT):Ents:=numE (fun i:Nat=>n11 ⟨2,(i:Int),0,v0⟩) (q.quants.map (·.name)) 0
structure RunOk (T:TreeT) (q:QeaT) (sl:List StateT) (si:Nat) (A:List SymT) (ix:Int→Nat) (K:List (TransT×Int)):Prop where
 n1:T.name=q.name
 n2:T.decls=q.decls
 n3:T.quants=q.quants
 n4:T.frees=q.frees
 n5:T.states=sl
 n6:∃x,sl[si]? =some x∧T.start=x.name
 n7:T.also=A.map (symT q)
 n8:T.trans=K.map (trT q)
 d1:q.decls.length≤32
 d2:∀x∈q.decls,x.types.length≤8
 d3:(q.decls.map (·.name)).Nodup
 q1:q.quants.length≤8
 f1:q.frees.length≤16
 v1:q.vars.Nodup
 s1:sl.length≤32
 s2:(sl.map (·.name)).Nodup
 a1:∀s∈A,symS q s=true∧s.args.length≤1000
 a2:A.length≤1000
 a3:∀i,i<A.length→((A.take i).foldl putY []).length<64∧∀x∈(A.take i).foldl putY [],x.args.length≤1000
 k0:q.nodes.length≤1000
 k1:∀x∈K,MkOk q sl ix x
 k2:K.length≤1000
 k3:∀i,i≤K.length→M10 ((K.take i).foldl (s15 q ix) (A.foldl putY [],[],[]))
 t1:∀v,v<q.quants.length→((K.foldl (s15 q ix) (A.foldl putY [],[],[])).1.any fun s=>s12 s (v:Int))=true
 o1:∀t∈(K.foldl (s15 q ix) (A.foldl putY [],[],[])).2.2,0≤t.symbol∧t.symbol<(K.foldl (s15 q ix) (A.foldl putY [],[],[])).1.length
 o2:r_ (K.foldl (s15 q ix) (A.foldl putY [],[],[])).1.length (symN (K.foldl (s15 q ix) (A.foldl putY [],[],[])).2.2)++dd [] (symN (K.foldl (s15 q ix) (A.foldl putY [],[],[])).2.2)=List.range (K.foldl (s15 q ix) (A.foldl putY [],[],[])).1.length
def c0:List (Nat×Box):=[(1001,⟨false,tcc_,12,[.agg [.str [],.nils,.nils,.nils,.nils,iv 0,.nils,.nils,.nils,.mapv 1009,.mapv 1010,.mapv 1011]]⟩),(1009,⟨true,1,0,[]⟩),(1010,⟨true,1,0,[]⟩),(1011,⟨true,1,0,[]⟩)]
theorem rh10 (T:TreeT) (q:QeaT) (sl:List StateT) (si:Nat) (A:List SymT) (ix:Int→Nat) (K:List (TransT×Int)) (ok:RunOk T q sl si A ix K):
  HQ G nccr_ [.ref 1001 0 0,t29 T] c0 .nili [(1001,⟨false,tcc_,12,[ckS q sl (si:Int) (K.foldl (s15 q ix) (A.foldl putY [],[],[])).1 (K.foldl (s15 q ix) (A.foldl putY [],[],[])).2.1 (K.foldl (s15 q ix) (A.foldl putY [],[],[])).2.2]⟩)]:=by
 obtain⟨n1,n2,n3,n4,n5,⟨x,hx,n6⟩,n7,n8,d1,d2,d3,q1,f1,v1,s1,s2,a1,a2,a3,k0,k1,k2,k3,t1,o1,o2⟩:=ok;have hfin:=k3 K.length (zE _);rw[xS] at hfin;have r1:=r1h_ (G:=G) T q.name (by rw[n2];exact d1) (by rw[n2];exact d2) (by rw[n2];exact d3);have r2:=r2h_ (G:=G) T q.name q.decls (e10 (dE q)) (by rw[n3];exact q1) (by rw[n3];have h:=v1;unfold QeaT.vars at h;exact (xD.1 h).1);have r3:=r3h_ (G:=G) T q.name q.decls q.quants (e10 (dE q)) (by rw[n4];exact f1) (by rw[n4];exact v1);have r4:=r4h_ (G:=G) T q.name q.decls q.quants q.frees (e10 (dE q)) (e10 (vE q)) (by rw[n5];exact s1) (by rw[n5];exact s2);have r5:=r5h_ (G:=G) T q sl .nils .nils .nils rfl rfl rfl s2 si x hx n6;have r6:=r6h_ (G:=G) T q v1 d3 sl (si:Int) A a1 a2 [] [] a3 n7;have r7:=r7h_ (G:=G) T q v1 d3 k0 sl s2 (si:Int) ix K k1 k2 (A.foldl putY [],[],[]) (fun i hi=>k3 i (by omega)) n8;have r8:=r8h_ (G:=G) T q sl (si:Int) (K.foldl (s15 q ix) (A.foldl putY [],[],[])).1 (K.foldl (s15 q ix) (A.foldl putY [],[],[])).2.1 (K.foldl (s15 q ix) (A.foldl putY [],[],[])).2.2 hfin.2.1 (by have:=hfin.1;omega) (by omega) t1 n3;have r9:=oh_ (G:=G) q sl (si:Int) (K.foldl (s15 q ix) (A.foldl putY [],[],[])).1 (K.foldl (s15 q ix) (A.foldl putY [],[],[])).2.1 (K.foldl (s15 q ix) (A.foldl putY [],[],[])).2.2 (by have:=hfin.1;omega) (by have:=hfin.2.2.2;omega) o1 o2;have g1:numE (fun i:Nat=>iv (i:Int)) (q.decls.map (·.name)) 0=dE q:=rfl;have g2:numE (fun i:Nat=>n11 ⟨2,(i:Int),0,v0⟩) (q.quants.map (·.name)) 0=qE q:=rfl;have g3:qE q++numE (fun i:Nat=>n11 ⟨3,(i:Int),0,v0⟩) (q.frees.map (·.name)) 0=vE q:=rfl;have g4:numE (fun i:Nat=>iv (i:Int)) (sl.map (·.name)) 0=sE sl:=rfl;have g5:∀f,numE f ([]:List Str) 0=[]:=fun _ =>rfl;have g6:e10 []=[]:=rfl;simp only[Hd_,Hq_,Hf_,Hs_,sB,cVar,mapB,n2,n3,n4,n5,g1,g2,g3,g4,g5,g6,yF,xL,xW] at r1 r2 r3 r4;refine H_.of_runs (fn:=Tryz.f59) (A:=cccr_) Tryz.func59 kccr_ rfl (by rfl) (R_.of fun Φ h=>?_);unfold cccr_;unfold c0;simp only[HK,ckB,ckC,sB,cVar,xL,yF] at r5 r6 r7 r8 r9;clear d1 d2 d3 q1 f1 v1 s1 s2 a1 a2 a3 k0 k1 k2 k3 t1 o1 o2 hfin g1 g2 g3 g4 g5 g6 hx n6 n7 n8;simp -implicitDefEqProofs only[go_sem,t29,n1,t24,t15,t23,t18,t26,t34];refine al10 (fun n st'=>(n=8∧st'=⟨37,[(2,.ref 2 0 0),(23,.arr 23 0 8),(24,iv ((8:Nat):Int)),(25,iv ((0:Nat):Int))],[(2,⟨false,tPc_,1,[.ref 1001 0 0]⟩),(3,⟨false,ta14,12,[t29 T]⟩),(23,⟨false,tfe_,1,rowR⟩),(36,⟨true,taD_,2,[]⟩),(1001,⟨false,tcc_,12,[.agg [.str q.name,.arr 36 0 0,.nils,.nils,.nils,iv 0,.nils,.nils,.nils,.mapv 1009,.mapv 1010,.mapv 1011]]⟩),(1009,⟨true,1,0,[]⟩),(1010,⟨true,1,0,[]⟩),(1011,⟨true,1,0,[]⟩)]⟩)∨(n=7∧st'=⟨37,[(2,.ref 2 0 0),(23,.arr 23 0 8),(24,iv ((8:Nat):Int)),(25,iv ((1:Nat):Int))],[(2,⟨false,tPc_,1,[.ref 1001 0 0]⟩),(3,⟨false,ta14,12,[t29 T]⟩),(23,⟨false,tfe_,1,rowR⟩),(36,⟨true,ta21,3,[]⟩),(1001,⟨false,tcc_,12,[.agg [.str q.name,.seq 2 (q.decls.map d11),.arr 36 0 0,.nils,.nils,iv 0,.nils,.nils,.nils,.mapc (e10 (dE q)),.mapv 1010,.mapv 1011]]⟩),(1010,⟨true,1,0,[]⟩),(1011,⟨true,1,0,[]⟩)]⟩)∨(n=6∧st'=⟨37,[(2,.ref 2 0 0),(23,.arr 23 0 8),(24,iv ((8:Nat):Int)),(25,iv ((2:Nat):Int))],[(2,⟨false,tPc_,1,[.ref 1001 0 0]⟩),(3,⟨false,ta14,12,[t29 T]⟩),(23,⟨false,tfe_,1,rowR⟩),(36,⟨true,taF_,5,[]⟩),(1001,⟨false,tcc_,12,[.agg [.str q.name,.seq 2 (q.decls.map d11),.seq 3 (q.quants.map q11),.arr 36 0 0,.nils,iv 0,.nils,.nils,.nils,.mapc (e10 (dE q)),.mapv 1010,.mapv 1011]]⟩),(1010,⟨true,1,0,e10 (qE q)⟩),(1011,⟨true,1,0,[]⟩)]⟩)∨(n=5∧st'=⟨37,[(2,.ref 2 0 0),(23,.arr 23 0 8),(24,iv ((8:Nat):Int)),(25,iv ((3:Nat):Int))],[(2,⟨false,tPc_,1,[.ref 1001 0 0]⟩),(3,⟨false,ta14,12,[t29 T]⟩),(23,⟨false,tfe_,1,rowR⟩),(36,⟨true,ta15,3,[]⟩),(1001,⟨false,tcc_,12,[.agg [.str q.name,.seq 2 (q.decls.map d11),.seq 3 (q.quants.map q11),.seq 5 (q.frees.map f10),.arr 36 0 0,iv 0,.nils,.nils,.nils,.mapc (e10 (dE q)),.mapc (e10 (vE q)),.mapv 1011]]⟩),(1011,⟨true,1,0,[]⟩)]⟩)∨(n=4∧st'=⟨37,[(2,.ref 2 0 0),(23,.arr 23 0 8),(24,iv ((8:Nat):Int)),(25,iv ((4:Nat):Int))],[(2,⟨false,tPc_,1,[.ref 1001 0 0]⟩),(3,⟨false,ta14,12,[t29 T]⟩),(23,⟨false,tfe_,1,rowR⟩),(1001,⟨false,tcc_,12,[.agg [.str q.name,.seq 2 (q.decls.map d11),.seq 3 (q.quants.map q11),.seq 5 (q.frees.map f10),.seq 3 (sl.map s13),iv 0,.nils,.nils,.nils,.mapc (e10 (dE q)),.mapc (e10 (vE q)),.mapc (e10 (sE sl))]]⟩)]⟩)∨(n=3∧st'=⟨37,[(2,.ref 2 0 0),(23,.arr 23 0 8),(24,iv ((8:Nat):Int)),(25,iv ((5:Nat):Int))],[(2,⟨false,tPc_,1,[.ref 1001 0 0]⟩),(3,⟨false,ta14,12,[t29 T]⟩),(23,⟨false,tfe_,1,rowR⟩),(36,⟨true,taS_,2,[]⟩),(35,⟨true,taN_,7,[]⟩),(34,⟨true,taT_,5,[]⟩),(1001,⟨false,tcc_,12,[.agg [.str q.name,.seq 2 (q.decls.map d11),.seq 3 (q.quants.map q11),.seq 5 (q.frees.map f10),.seq 3 (sl.map s13),iv (si:Int),.arr 36 0 0,.arr 35 0 0,.arr 34 0 0,.mapc (e10 (dE q)),.mapc (e10 (vE q)),.mapc (e10 (sE sl))]]⟩)]⟩)∨(n=2∧st'=⟨37,[(2,.ref 2 0 0),(23,.arr 23 0 8),(24,iv ((8:Nat):Int)),(25,iv ((6:Nat):Int))],[(2,⟨false,tPc_,1,[.ref 1001 0 0]⟩),(3,⟨false,ta14,12,[t29 T]⟩),(23,⟨false,tfe_,1,rowR⟩),(36,⟨true,taS_,2,(A.foldl putY []).map symV⟩),(35,⟨true,taN_,7,([]:List NodeT).map n11⟩),(34,⟨true,taT_,5,([]:List TransT).map t11⟩),(1001,⟨false,tcc_,12,[.agg [.str q.name,.seq 2 (q.decls.map d11),.seq 3 (q.quants.map q11),.seq 5 (q.frees.map f10),.seq 3 (sl.map s13),iv (si:Int),.arr 36 0 (A.foldl putY []).length,.arr 35 0 ([]:List NodeT).length,.arr 34 0 ([]:List TransT).length,.mapc (e10 (dE q)),.mapc (e10 (vE q)),.mapc (e10 (sE sl))]]⟩)]⟩)∨(n=1∧st'=⟨37,[(2,.ref 2 0 0),(23,.arr 23 0 8),(24,iv ((8:Nat):Int)),(25,iv ((7:Nat):Int))],[(2,⟨false,tPc_,1,[.ref 1001 0 0]⟩),(3,⟨false,ta14,12,[t29 T]⟩),(23,⟨false,tfe_,1,rowR⟩),(36,⟨true,taS_,2,(K.foldl (s15 q ix) ((A.foldl putY []),[],[])).1.map symV⟩),(35,⟨true,taN_,7,(K.foldl (s15 q ix) ((A.foldl putY []),[],[])).2.1.map n11⟩),(34,⟨true,taT_,5,(K.foldl (s15 q ix) ((A.foldl putY []),[],[])).2.2.map t11⟩),(1001,⟨false,tcc_,12,[.agg [.str q.name,.seq 2 (q.decls.map d11),.seq 3 (q.quants.map q11),.seq 5 (q.frees.map f10),.seq 3 (sl.map s13),iv (si:Int),.arr 36 0 (K.foldl (s15 q ix) ((A.foldl putY []),[],[])).1.length,.arr 35 0 (K.foldl (s15 q ix) ((A.foldl putY []),[],[])).2.1.length,.arr 34 0 (K.foldl (s15 q ix) ((A.foldl putY []),[],[])).2.2.length,.mapc (e10 (dE q)),.mapc (e10 (vE q)),.mapc (e10 (sE sl))]]⟩)]⟩)∨(n=0∧st'=⟨37,[(2,.ref 2 0 0),(23,.arr 23 0 8),(24,iv ((8:Nat):Int)),(25,iv ((8:Nat):Int))],[(2,⟨false,tPc_,1,[.ref 1001 0 0]⟩),(3,⟨false,ta14,12,[t29 T]⟩),(23,⟨false,tfe_,1,rowR⟩),(36,⟨true,taS_,2,(K.foldl (s15 q ix) ((A.foldl putY []),[],[])).1.map symV⟩),(35,⟨true,taN_,7,(K.foldl (s15 q ix) ((A.foldl putY []),[],[])).2.1.map n11⟩),(34,⟨true,taT_,5,(K.foldl (s15 q ix) ((A.foldl putY []),[],[])).2.2.map t11⟩),(1001,⟨false,tcc_,12,[.agg [.str q.name,.seq 2 (q.decls.map d11),.seq 3 (q.quants.map q11),.seq 5 (q.frees.map f10),.seq 3 (sl.map s13),iv (si:Int),.arr 36 0 (K.foldl (s15 q ix) ((A.foldl putY []),[],[])).1.length,.arr 35 0 (K.foldl (s15 q ix) ((A.foldl putY []),[],[])).2.1.length,.arr 34 0 (K.foldl (s15 q ix) ((A.foldl putY []),[],[])).2.2.length,.mapc (e10 (dE q)),.mapc (e10 (vE q)),.mapc (e10 (sE sl))]]⟩)]⟩)) 8 _ (wn_ (c:=1001) 3 36 1 taD_ 2 rfl rfl (yO rfl) rfl (yN _) (yN _) rfl rfl) (.inl ⟨rfl,by rw[←n1];rfl⟩) ?_;clear n1 n2 n3 n4 n5;unfold t29 t24 t15 t23 t18 t26 t34 at r1 r2 r3 r4 r5 r6 r7 r8;unfold ckS ckC at h;generalize e10 (dE q)=E1 at*;generalize e10 (vE q)=E2 at*;generalize e10 (sE sl)=E3 at*;generalize e10 (qE q)=E4 at*;generalize hFF:K.foldl (s15 q ix) (A.foldl putY [],[],[])=FF at*;generalize A.foldl putY []=YY at*;clear hFF;obtain⟨FY,FN,FT⟩:=FF;rintro I hI n st' (⟨rfl,rfl⟩ | ⟨rfl,rfl⟩ | ⟨rfl,rfl⟩ | ⟨rfl,rfl⟩ | ⟨rfl,rfl⟩ | ⟨rfl,rfl⟩ | ⟨rfl,rfl⟩ | ⟨rfl,rfl⟩ | ⟨rfl,rfl⟩)
 ·have hlt:decide (((0:Nat):Int)<((8:Nat):Int))=true:=rfl;have hw:=ws_ (show 0<8 by decide) (by decide);have hr:rowR[0]? =some (.fn nccr1_ [.ref 3 0 0,.ref 2 0 0]):=rfl;have hnx:=hI 7 _ (.inr (.inl ⟨rfl,rfl⟩));clear hI h
  repeat' (first|(simp -implicitDefEqProofs only[go_sem,t29,t24,t15,t23,t18,t26,t34,hlt,hw,aa10 (show 0<8 by decide),hr])|refine ag_ (fun hb=>?_) (fun hb=>?_)|refine⟨fun hb=>?_,fun hb=>?_⟩|(refine⟨by kernel_rfl,ach_ [(1021,3),(1020,2),(1001,1001),(1002,36),(1009,1009),(1010,1010),(1011,1011)] r1 rfl ⟨⟨_,_,rfl,rfl,rfl⟩,⟨_,_,rfl,rfl,rfl⟩,⟨_,_,rfl,rfl,rfl⟩,⟨_,_,rfl,rfl,rfl⟩,⟨_,_,rfl,rfl,rfl⟩,⟨_,_,rfl,rfl,rfl⟩,⟨_,_,rfl,rfl,rfl⟩,trivial⟩ rfl rfl rfl ?_⟩)|fail)
  refine aa11 7 (by decide) _ ?_ hnx;refine (wt_ (i:=36) rfl rfl).trans ?_;simp -implicitDefEqProofs only[go_sem,t25,zX,zE];refine (wt_ (i:=1009) rfl rfl).trans ?_;simp -implicitDefEqProofs only[go_sem,t25,zX,zE];exact Weak.trans (wn_ (c:=1001) 3 36 2 ta21 3 rfl rfl (yO rfl) rfl (yN _) (yN _) rfl rfl) (Weak.refl _)
 ·have hlt:decide (((1:Nat):Int)<((8:Nat):Int))=true:=rfl;have hw:=ws_ (show 1<8 by decide) (by decide);have hr:rowR[1]? =some (.fn nccr2_ [.ref 3 0 0,.ref 2 0 0]):=rfl;have hnx:=hI 6 _ (.inr (.inr (.inl ⟨rfl,rfl⟩)));clear hI h
  repeat' (first|(simp -implicitDefEqProofs only[go_sem,t29,t24,t15,t23,t18,t26,t34,hlt,hw,aa10 (show 1<8 by decide),hr])|refine ag_ (fun hb=>?_) (fun hb=>?_)|refine⟨fun hb=>?_,fun hb=>?_⟩|(refine⟨by kernel_rfl,ach_ [(1021,3),(1020,2),(1001,1001),(1003,36),(1010,1010),(1011,1011)] r2 rfl ⟨⟨_,_,rfl,rfl,rfl⟩,⟨_,_,rfl,rfl,rfl⟩,⟨_,_,rfl,rfl,rfl⟩,⟨_,_,rfl,rfl,rfl⟩,⟨_,_,rfl,rfl,rfl⟩,⟨_,_,rfl,rfl,rfl⟩,trivial⟩ rfl rfl rfl ?_⟩)|fail)
  refine aa11 6 (by decide) _ ?_ hnx;refine (wt_ (i:=36) rfl rfl).trans ?_;simp -implicitDefEqProofs only[go_sem,t25,zX,zE];exact Weak.trans (wn_ (c:=1001) 3 36 3 taF_ 5 rfl rfl (yO rfl) rfl (yN _) (yN _) rfl rfl) (Weak.refl _)
 ·have hlt:decide (((2:Nat):Int)<((8:Nat):Int))=true:=rfl;have hw:=ws_ (show 2<8 by decide) (by decide);have hr:rowR[2]? =some (.fn nccr3_ [.ref 3 0 0,.ref 2 0 0]):=rfl;have hnx:=hI 5 _ (.inr (.inr (.inr (.inl ⟨rfl,rfl⟩))));clear hI h
  repeat' (first|(simp -implicitDefEqProofs only[go_sem,t29,t24,t15,t23,t18,t26,t34,hlt,hw,aa10 (show 2<8 by decide),hr])|refine ag_ (fun hb=>?_) (fun hb=>?_)|refine⟨fun hb=>?_,fun hb=>?_⟩|(refine⟨by kernel_rfl,ach_ [(1021,3),(1020,2),(1001,1001),(1004,36),(1010,1010),(1011,1011)] r3 rfl ⟨⟨_,_,rfl,rfl,rfl⟩,⟨_,_,rfl,rfl,rfl⟩,⟨_,_,rfl,rfl,rfl⟩,⟨_,_,rfl,rfl,rfl⟩,⟨_,_,rfl,rfl,rfl⟩,⟨_,_,rfl,rfl,rfl⟩,trivial⟩ rfl rfl rfl ?_⟩)|fail)
  refine aa11 5 (by decide) _ ?_ hnx;refine (wt_ (i:=36) rfl rfl).trans ?_;simp -implicitDefEqProofs only[go_sem,t25,zX,zE];refine (wt_ (i:=1010) rfl rfl).trans ?_;simp -implicitDefEqProofs only[go_sem,t25,zX,zE];exact Weak.trans (wn_ (c:=1001) 3 36 4 ta15 3 rfl rfl (yO rfl) rfl (yN _) (yN _) rfl rfl) (Weak.refl _)
 ·have hlt:decide (((3:Nat):Int)<((8:Nat):Int))=true:=rfl;have hw:=ws_ (show 3<8 by decide) (by decide);have hr:rowR[3]? =some (.fn nccr4_ [.ref 3 0 0,.ref 2 0 0]):=rfl;have hnx:=hI 4 _ (.inr (.inr (.inr (.inr (.inl ⟨rfl,rfl⟩)))));clear hI h
  repeat' (first|(simp -implicitDefEqProofs only[go_sem,t29,t24,t15,t23,t18,t26,t34,hlt,hw,aa10 (show 3<8 by decide),hr])|refine ag_ (fun hb=>?_) (fun hb=>?_)|refine⟨fun hb=>?_,fun hb=>?_⟩|(refine⟨by kernel_rfl,ach_ [(1021,3),(1020,2),(1001,1001),(1005,36),(1011,1011)] r4 rfl ⟨⟨_,_,rfl,rfl,rfl⟩,⟨_,_,rfl,rfl,rfl⟩,⟨_,_,rfl,rfl,rfl⟩,⟨_,_,rfl,rfl,rfl⟩,⟨_,_,rfl,rfl,rfl⟩,trivial⟩ rfl rfl rfl ?_⟩)|fail)
  refine aa11 4 (by decide) _ ?_ hnx;refine (wt_ (i:=36) rfl rfl).trans ?_;simp -implicitDefEqProofs only[go_sem,t25,zX,zE];refine (wt_ (i:=1011) rfl rfl).trans ?_;simp -implicitDefEqProofs only[go_sem,t25,zX,zE];exact Weak.refl _
 ·have hlt:decide (((4:Nat):Int)<((8:Nat):Int))=true:=rfl;have hw:=ws_ (show 4<8 by decide) (by decide);have hr:rowR[4]? =some (.fn nccr5_ [.ref 2 0 0,.ref 3 0 0]):=rfl;have hnx:=hI 3 _ (.inr (.inr (.inr (.inr (.inr (.inl ⟨rfl,rfl⟩))))));clear hI h
  repeat' (first|(simp -implicitDefEqProofs only[go_sem,t29,t24,t15,t23,t18,t26,t34,hlt,hw,aa10 (show 4<8 by decide),hr])|refine ag_ (fun hb=>?_) (fun hb=>?_)|refine⟨fun hb=>?_,fun hb=>?_⟩|(refine⟨by kernel_rfl,ach_ [(1021,3),(1020,2),(1001,1001)] r5 rfl ⟨⟨_,_,rfl,rfl,rfl⟩,⟨_,_,rfl,rfl,rfl⟩,⟨_,_,rfl,rfl,rfl⟩,trivial⟩ rfl rfl rfl ?_⟩)|fail)
  refine aa11 3 (by decide) _ ?_ hnx;exact Weak.trans (wn_ (c:=1001) 3 36 6 taS_ 2 rfl rfl (yO rfl) rfl (yN _) (yN _) rfl rfl) (Weak.trans (wn_ (c:=1001) 4 35 7 taN_ 7 rfl rfl (yO rfl) rfl (yN _) (yN _) rfl rfl) (Weak.trans (wn_ (c:=1001) 5 34 8 taT_ 5 rfl rfl (yO rfl) rfl (yN _) (yN _) rfl rfl) (Weak.refl _)))
 ·have hlt:decide (((5:Nat):Int)<((8:Nat):Int))=true:=rfl;have hw:=ws_ (show 5<8 by decide) (by decide);have hr:rowR[5]? =some (.fn nccr6_ [.ref 3 0 0,.ref 2 0 0]):=rfl;have hnx:=hI 2 _ (.inr (.inr (.inr (.inr (.inr (.inr (.inl ⟨rfl,rfl⟩)))))));clear hI h
  repeat' (first|(simp -implicitDefEqProofs only[go_sem,t29,t24,t15,t23,t18,t26,t34,hlt,hw,aa10 (show 5<8 by decide),hr])|refine ag_ (fun hb=>?_) (fun hb=>?_)|refine⟨fun hb=>?_,fun hb=>?_⟩|(refine⟨by kernel_rfl,ach_ [(1021,3),(1020,2),(1001,1001),(1006,36),(1007,35),(1008,34)] r6 rfl ⟨⟨_,_,rfl,rfl,rfl⟩,⟨_,_,rfl,rfl,rfl⟩,⟨_,_,rfl,rfl,rfl⟩,⟨_,_,rfl,rfl,rfl⟩,⟨_,_,rfl,rfl,rfl⟩,⟨_,_,rfl,rfl,rfl⟩,trivial⟩ rfl rfl rfl ?_⟩)|fail)
  exact aa_ 2 (by decide) hnx
 ·have hlt:decide (((6:Nat):Int)<((8:Nat):Int))=true:=rfl;have hw:=ws_ (show 6<8 by decide) (by decide);have hr:rowR[6]? =some (.fn nccr7_ [.ref 3 0 0,.ref 2 0 0]):=rfl;have hnx:=hI 1 _ (.inr (.inr (.inr (.inr (.inr (.inr (.inr (.inl ⟨rfl,rfl⟩))))))));clear hI h
  repeat' (first|(simp -implicitDefEqProofs only[go_sem,t29,t24,t15,t23,t18,t26,t34,hlt,hw,aa10 (show 6<8 by decide),hr])|refine ag_ (fun hb=>?_) (fun hb=>?_)|refine⟨fun hb=>?_,fun hb=>?_⟩|(refine⟨by kernel_rfl,ach_ [(1021,3),(1020,2),(1001,1001),(1006,36),(1007,35),(1008,34)] r7 rfl ⟨⟨_,_,rfl,rfl,rfl⟩,⟨_,_,rfl,rfl,rfl⟩,⟨_,_,rfl,rfl,rfl⟩,⟨_,_,rfl,rfl,rfl⟩,⟨_,_,rfl,rfl,rfl⟩,⟨_,_,rfl,rfl,rfl⟩,trivial⟩ rfl rfl rfl ?_⟩)|fail)
  exact aa_ 1 (by decide) hnx
 ·have hlt:decide (((7:Nat):Int)<((8:Nat):Int))=true:=rfl;have hw:=ws_ (show 7<8 by decide) (by decide);have hr:rowR[7]? =some (.fn nccr8_ [.ref 2 0 0,.ref 3 0 0]):=rfl;have hnx:=hI 0 _ (.inr (.inr (.inr (.inr (.inr (.inr (.inr (.inr (⟨rfl,rfl⟩)))))))));clear hI h
  repeat' (first|(simp -implicitDefEqProofs only[go_sem,t29,t24,t15,t23,t18,t26,t34,hlt,hw,aa10 (show 7<8 by decide),hr])|refine ag_ (fun hb=>?_) (fun hb=>?_)|refine⟨fun hb=>?_,fun hb=>?_⟩|(refine⟨by kernel_rfl,ach_ [(1021,3),(1020,2),(1001,1001),(1006,36),(1007,35),(1008,34)] r8 rfl ⟨⟨_,_,rfl,rfl,rfl⟩,⟨_,_,rfl,rfl,rfl⟩,⟨_,_,rfl,rfl,rfl⟩,⟨_,_,rfl,rfl,rfl⟩,⟨_,_,rfl,rfl,rfl⟩,⟨_,_,rfl,rfl,rfl⟩,trivial⟩ rfl rfl rfl ?_⟩)|fail)
  exact aa_ 0 (by decide) hnx
 ·have hlt:decide (((8:Nat):Int)<((8:Nat):Int))=false:=rfl;clear hI
  repeat' (first|simp -implicitDefEqProofs only[go_sem,hlt]|refine ag_ (fun hb=>?_) (fun hb=>?_)|refine⟨fun hb=>?_,fun hb=>?_⟩|(refine ac10 [(1001,1001),(1006,36),(1007,35),(1008,34)] r9 rfl ⟨⟨_,_,rfl,rfl,rfl⟩,⟨_,_,rfl,rfl,rfl⟩,⟨_,_,rfl,rfl,rfl⟩,⟨_,_,rfl,rfl,rfl⟩,trivial⟩ rfl rfl rfl ?_)|fail)
  refine h _ ⟨_,_,((wt_ (i:=35) rfl rfl).trans (wt_ (i:=34) rfl rfl)),rfl,.refl _,subH.at ⟨?_,trivial⟩⟩;simp [St.thaw1,hget,t38,t37,thaw.go,thaw,t25,ckS,ckC]
open Go.Extern.Stop Go.Stop Go.Extern
theorem en10 (v:Value) (w:World):Calls Tryz.prog 58 #[.nilIface,v] w fun e w'=>e= .returned (.bool false)∧w'=w:=by go_enter Tryz.func58,Tryz.ntmps58;go_wp2;go_ret;exact⟨rfl,rfl⟩
theorem eAnp_ (x:AV):PQ G neA_ [.nili,x] (.bool false):=by
 intro w F vs hg ⟨hs,hr⟩;obtain⟨l⟩:=vs
 match l,hs with
 | [x,y],_ =>
  have h0:=hr 0 _ x rfl rfl;cases h0;refine (en10 y w).mono ?_;rintro ev w' ⟨rfl,rfl⟩;exact⟨_,F,rfl,fun _ h=>h,fun _ h=>.inl h,hg.1,.bool _ _,.refl _ _⟩
def m16 (q:QeaT) (sl:List StateT) (si:Nat) (A:List SymT) (ix:Int→Nat) (K:List (TransT×Int)):QeaT:=
 ⟨q.name,q.decls,q.quants,q.frees,sl,(si:Int),(K.foldl (s15 q ix) (A.foldl putY [],[],[])).1,(K.foldl (s15 q ix) (A.foldl putY [],[],[])).2.1,(K.foldl (s15 q ix) (A.foldl putY [],[],[])).2.2⟩
theorem cLp_ (hG:wg_ G) (T:TreeT) (hT:TreeOk T) (q:QeaT) (sl:List StateT) (si:Nat) (A:List SymT) (ix:Int→Nat) (K:List (TransT×Int)) (ok:RunOk T q sl si A ix K):
  PQ G ncL_ [t29 T] (.tup [qeaV (m16 q sl si A ix K),.agg [iv 0,iv 0,iv 0]]):=by
 have r1:=rh10 (G:=G) T q sl si A ix K ok;have r2:=tRp_ hG T hT;have r3:=eAnp_ (G:=G) (.iface tPm_ (.eptr .nilp 0));refine pcL_ fun Φ h=>?_;unfold ccL_;unfold m16 at h;simp only[c0,ckS,ckC] at r1;unfold t29 t24 t15 t23 t18 t26 t34 at*;generalize K.foldl (s15 q ix) (A.foldl putY [],[],[])=FF at*;obtain⟨FY,FN,FT⟩:=FF
 repeat' (first|simp -implicitDefEqProofs only[go_sem]|refine ag_ (fun hb=>?_) (fun hb=>?_)|refine⟨fun hb=>?_,fun hb=>?_⟩|refine ac_ r2 rfl rfl ?_|(refine ac10 [(1001,15),(1009,11),(1010,12),(1011,13)] r1 rfl ⟨⟨_,_,rfl,rfl,rfl⟩,⟨_,_,rfl,rfl,rfl⟩,⟨_,_,rfl,rfl,rfl⟩,⟨_,_,rfl,rfl,rfl⟩,trivial⟩ rfl rfl rfl ?_)|refine ac_ r3 rfl rfl ?_|fail)
 exact h _ ⟨_,_,rfl,rfl,.refl _⟩
def s25 (q:QeaT):List Str:=(r11 q).map (n18 q)
def cutT (stay:List Str) (T:TreeT):TreeT:=
 ⟨T.name,T.decls,T.quants,T.frees,T.states.filter fun x=>stay.any fun y=>x.name==y,T.start,
  a21 T.also (T.trans.filter fun x=>stay.any fun y=>x.from_==y) (T.trans.filter fun x=>!stay.any fun y=>x.from_==y),
  T.trans.filter fun x=>stay.any fun y=>x.from_==y⟩
theorem tTp_ (hG:wg_ G) (q:QeaT) (hq:q.Few) (hr:r16 q=true) (hw:WrOk q) (s:Nat) (hs:q.start=(s:Int)) (hn:q.states.length≤12) (hsl:s<q.states.length) (hto:T_ q.trans q.states.length) (htl:q.trans.length≤1000)
  (hl1:(t22 q).trans.length≤1000) (hl2:(t22 q).states.length≤1000) (hl3:(t22 q).also.length≤1000) (hl4:∀s∈(t22 q).also,s.args.length≤1000) (hl5:∀x∈(t22 q).trans,x.on.args.length≤1000)
  (hT:TreeOk (cutT (s25 q) (t22 q))) (sl:List StateT) (si:Nat) (A:List SymT) (ix:Int→Nat) (K:List (TransT×Int)) (ok:RunOk (cutT (s25 q) (t22 q)) q sl si A ix K):
  PQ G nt17 [qeaV q] (.tup [qeaV (m16 q sl si A ix K),.bool true]):=by
 have hrl:(r11 q).length≤12:=by have:=xK (fun i=>(m_ q)[i]? ==some true) (List.range q.states.length);rw[wG] at this;unfold r11;omega
 have h1:=bTp_ (G:=G) hG q hq hr hw;have h2:=sp_ (G:=G) hG q hq hr s hs hn hsl hto htl;have h3:=np_ (G:=G) q (r11 q) (by omega) (fun i hi=>(rm10.1 hi).1);have hstl:(s25 q).length≤1000:=by unfold s25;rw[zX];omega
 have h4:=tkaTp_ (G:=G) ntT2_ [.eptr (hasF (s25 q)) 0] (by kernel_rfl) of_ (fun x=>(s25 q).any fun y=>x.name==y) (t22 q).states (fun x _ =>T2p_ x _ hstl) (by omega);have h5:=kth_ (G:=G) ntT3_ (s25 q) (by kernel_rfl) (fun x=>!(s25 q).any fun y=>x.from_==y) (t22 q).trans hl1 (fun x _ =>T3p_ x _ hstl);have h6:=kth_ (G:=G) ntT4_ (s25 q) (by kernel_rfl) (fun x=>(s25 q).any fun y=>x.from_==y) (t22 q).trans hl1 (fun x _ =>T4p_ x _ hstl);have h8:=cLp_ (G:=G) hG (cutT (s25 q) (t22 q)) hT q sl si A ix K ok;have hstay:(r11 q).map (n18 q)=s25 q:=rfl;rw[hstay] at h3;generalize (m16 q sl si A ix K)=Z at*;clear ok hT hs hto hsl hw hr hq;generalize s25 q=ST at*;generalize r11 q=RL at*;generalize t22 q=T at*;have hle:∀p:TTrT→Bool,(T.trans.filter p).length≤1000:=fun p=>wB (xK _ _) hl1;have h7:=ap10 (G:=G) q ⟨T.name,T.decls,T.quants,T.frees,T.states.filter fun x=>ST.any fun y=>x.name==y,T.start,T.also,T.trans.filter fun x=>ST.any fun y=>x.from_==y⟩ (T.trans.filter fun x=>!ST.any fun y=>x.from_==y) hl3 hl4 (hle _) (fun x hx=>hl5 x (yG.1 hx).1) (hle _) (fun x hx=>hl5 x (yG.1 hx).1);simp only[cutT] at h8;refine pt22 fun Φ h=>?_;unfold ct25;generalize (T.trans.filter fun x=>!ST.any fun y=>x.from_==y)=GN at*;generalize (T.trans.filter fun x=>ST.any fun y=>x.from_==y)=LF at*;generalize (T.states.filter fun x=>ST.any fun y=>x.name==y)=SS at*;obtain⟨T1,T2,T3,T4,T5,T6,T7,T8⟩:=T;dsimp only at*;generalize a21 T7 LF GN=AL at*;simp only[t29,t24,t15,t23,t18,t26,t34,HS,hasF,uF,uQ] at h1 h4 h5 h6 h7 h8;obtain⟨Z1,Z2,Z3,Z4,Z5,Z6,Z7,Z8,Z9⟩:=Z;have tk1:(GN.map tTrV).take GN.length=GN.map tTrV:=t25 _ _;have tk2:(LF.map tTrV).take LF.length=LF.map tTrV:=t25 _ _
 repeat' (first|simp -implicitDefEqProofs only[go_sem,qeaV,d_,q_,f_,s_,s10,n_,t_,t25,zX,zE]|refine ag_ (fun hb=>?_) (fun hb=>?_)|refine⟨fun hb=>?_,fun hb=>?_⟩|refine ac_ h1 rfl rfl ?_|refine ac_ h2 rfl rfl ?_|refine ac_ h3 rfl rfl ?_|(refine ac12 h4 rfl (FitL.refl _) rfl ?_)|(refine ac10 [(1001,7),(1002,6),(5,32)] h5 rfl ⟨⟨_,_,rfl,rfl,rfl⟩,⟨_,_,rfl,rfl,rfl⟩,trivial⟩ rfl rfl rfl ?_)|(refine ac10 [(1001,7),(1002,6),(5,36)] h6 rfl ⟨⟨_,_,rfl,rfl,rfl⟩,⟨_,_,rfl,rfl,rfl⟩,trivial⟩ rfl rfl rfl ?_)|(refine ac_ h7 (by simp [v_,flat,flat.go,viewAll,viewBs,view,view.go,viewB,viewK,viewK.go,AV.cells,hget,t25,tk1,tk2,qeaV,d_,q_,f_,s_,s10,n_,t_]) rfl ?_)|(refine ac_ h8 (by simp [v_,flat,flat.go,viewAll,viewBs,view,view.go,viewB,viewK,viewK.go,AV.cells,hget,t25,tk1,tk2]) rfl ?_)|fail)
 exact h _ ⟨_,_,rfl,rfl,.refl _⟩
def z_:AV:=.agg [.str [],.nils,.nils,.nils,.nils,iv 0,.nils,.nils,.nils]
theorem tTn_ (hG:wg_ G) (q:QeaT) (hq:q.Few) (hr:r16 q=false):PQ G nt17 [qeaV q] (.tup [z_,.bool false]):=by
 have h1:=bTn_ (G:=G) hG q hq hr;refine pt22 fun Φ h=>?_;unfold ct25;unfold z11 at h1
 repeat' (first|simp -implicitDefEqProofs only[go_sem,qeaV,d_,q_,f_,s_,s10,n_,t_]|refine ag_ (fun hb=>?_) (fun hb=>?_)|refine⟨fun hb=>?_,fun hb=>?_⟩|refine ac_ h1 rfl rfl ?_|fail)
 exact h _ ⟨_,_,rfl,rfl,.refl _⟩
def nu (m:List Bool) (i:Nat):Nat:=(m.take i).count true
def k11 {α:Type}:List Bool→List α→List α
 | true::m,x::l=>x::k11 m l
 | false::m,_ ::l=>k11 m l
 | _,_ =>[]
theorem nc_ (b:Bool) (m:List Bool) (i:Nat):nu (b::m) (i+1)=(if b=true then 1 else 0)+nu m i:=by unfold nu;rw[wU,uX];cases b <;> simp <;> omega
theorem nz_ (m:List Bool):nu m 0=0:=by simp [nu]
theorem nu_lt:∀{m:List Bool} {i:Nat},m[i]? =some true→nu m i<m.count true
 | b::m,0,h=>by simp at h;subst h;rw[nz_,uX];simp
 | b::m,i+1,h=>by have:=nu_lt (m:=m) (i:=i) (by simpa using h);rw[nc_,uX];cases b <;> simp <;> omega
theorem no_:∀{m:List Bool} {j:Nat},j<m.count true→∃i,m[i]? =some true∧nu m i=j
 | b::m,j,h=>by
  rw[uX] at h;cases b with
  | true=>
   cases j with
   | zero=>exact⟨0,rfl,nz_ _⟩
   | succ j=>
    obtain⟨i,h1,h2⟩:=no_ (m:=m) (j:=j) (by simp at h;omega);exact⟨i+1,by simpa using h1,by rw[nc_,zG rfl,h2];omega⟩
  | false=>
   obtain⟨i,h1,h2⟩:=no_ (m:=m) (j:=j) (by simpa using h);exact⟨i+1,by simpa using h1,by rw[nc_,h2];simp⟩
theorem na15 {m:List Bool} (h:∀b∈m,b=true):∀{i:Nat},i≤m.length→nu m i=i:=fun {i} hi=>by
 unfold nu;have:(m.take i).count true=(m.take i).length:=by rw[List.count_eq_length];exact fun b hb=>(h b (wH hb)).symm
 rw[this,xY];omega
theorem ka10 {α:Type}:∀{m:List Bool} {l:List α},(∀b∈m,b=true)→m.length=l.length→k11 m l=l
 | [],[],_,_ =>rfl
 | b::m,x::l,h,hl=>by obtain rfl:=h b yX;unfold k11;rw[ka10 (fun b hb=>h b (zD _ hb)) (by simpa using hl)]
 | [],_ ::_,_,hl=>by simp at hl
 | _ ::_,[],_,hl=>by simp at hl
theorem kl10 {α:Type}:∀{m:List Bool} {l:List α},m.length=l.length→(k11 m l).length=m.count true
 | [],[],_ =>rfl
 | true::m,x::l,h=>by unfold k11;rw[xX,kl10 (by simpa using h),uX];simp
 | false::m,x::l,h=>by unfold k11;rw[kl10 (by simpa using h),uX];simp
 | [],_ ::_,hl=>by simp at hl
 | _ ::_,[],hl=>by simp at hl
theorem ka12 {α:Type}:∀{m:List Bool} {l:List α} {i:Nat},m[i]? =some true→(k11 m l)[nu m i]? =l[i]?
 | b::m,x::l,0,h=>by simp at h;subst h;rw[nz_];rfl
 | b::m,x::l,i+1,h=>by
  have:=ka12 (m:=m) (l:=l) (i:=i) (by simpa using h);rw[nc_];cases b with
  | true=>rw[zG rfl,Nat.add_comm];unfold k11;simpa using this
  | false=>simp only[zW,yA,yT];unfold k11;simpa using this
 | b::m,[],i,h=>by cases b <;> simp [k11]
theorem rn14 {E:List (Nat×Nat)} {s:Nat} {m:List Bool} (hm:∀i,m[i]? =some true↔Rch E s i) {E':List (Nat×Nat)} (hE:∀a b,(a,b)∈E→m[a]? =some true→(nu m a,nu m b)∈E') (j:Nat) (hj:j<m.count true):Rch E' (nu m s) j:=by
 obtain⟨i,hi,rfl⟩:=no_ hj;have hr:=(hm i).1 hi;clear hi hj
 induction hr with
 | refl=>exact .refl
 | step h e ih=>exact .step ih (hE _ _ e ((hm _).2 h))
theorem rep_ (t:TransT) (b:Int) (hl:t.sets.length≤1000000) (hg:t.guard= -1∨0≤t.guard) (hg2:Sm t.guard) (hs:∀s∈t.sets,Sm s.expr):PQ G npe_ [t11 t,iv b] (iv (endT t b)):=by
 refine ppe_ fun Φ h=>?_;unfold cpe_;obtain⟨f,s,to,g,l⟩:=t;simp only at hl hg hg2 hs;have hz:decide ((0:Int)<((0:Nat):Int))=false:=rfl;have hz1:decide ((0:Int)≤-1)=false:=rfl;cases hx:l.getLast? with
 | none=>
  rw[tK] at hx;subst hx;rcases hg with hg | hg
  ·subst hg;have e:endT ⟨f,s,to,-1,[]⟩ b=b:=rfl;rw[e] at h;simp -implicitDefEqProofs only[go_sem,t11,s14,yF,hz,hz1];exact h _ ⟨_,_,rfl,rfl,.refl _⟩
  ·have e:endT ⟨f,s,to,g,[]⟩ b=g+1:=by unfold endT endS;simp;omega
   rw[e] at h;have d:decide (0≤g)=true:=xM hg;have w:IntKind.i64.wrap (g+1)=g+1:=wi_ (by have:=hg2.1;omega) (by have:=hg2.2;omega);simp -implicitDefEqProofs only[go_sem,t11,s14,yF,hz,d,w];exact h _ ⟨_,_,rfl,rfl,.refl _⟩
 | some x=>
  obtain⟨h1,h2⟩:=la12 hx;have e:endT ⟨f,s,to,g,l⟩ b=x.expr+1:=by unfold endT endS;simp [hx]
  rw[e] at h;have hb:=hs x (List.mem_of_getElem? h2);have d:decide ((0:Int)<(l.length:Int))=true:=xM (by omega);have w1:IntKind.i64.wrap ((l.length:Int) - 1)=((l.length - 1:Nat):Int):=by rw[wi_ (by omega) (by omega)];omega
  have w:IntKind.i64.wrap (x.expr+1)=x.expr+1:=wi_ (by have:=hb.1;omega) (by have:=hb.2;omega);obtain⟨x1,x2⟩:=x;simp -implicitDefEqProofs only[go_sem,t11,s14,zX,d,w1,w,am_ h2,setV];exact h _ ⟨_,_,rfl,rfl,.refl _⟩
theorem rmp_ (x:NodeT) (d:Int) (hd:Sm d) (hab:4≤x.op→Sm x.a∧Sm x.b):PQ G npm_ [n11 x,iv d] (n11 (m10 d x)):=by
 refine ppm_ fun Φ h=>?_;unfold cpm_;obtain⟨o,a,b,v1,v2,v3,v4⟩:=x;dsimp only at hab;by_cases h3:3<o
 ·have d3:decide ((3:Int)<o)=true:=xM h3;obtain⟨ha,hb⟩:=hab (by omega);have wa:IntKind.i64.wrap (a - d)=a - d:=wi_ (by have:=ha.1;have:=hd.2;omega) (by have:=ha.2;have:=hd.1;omega);have wb:IntKind.i64.wrap (b - d)=b - d:=wi_ (by have:=hb.1;have:=hd.2;omega) (by have:=hb.2;have:=hd.1;omega);by_cases h5:5<o
  ·have d5:decide ((5:Int)<o)=true:=xM h5;have e:m10 d ⟨o,a,b,v1,v2,v3,v4⟩=⟨o,a - d,b - d,v1,v2,v3,v4⟩:=by unfold m10;simp [h3,h5]
   rw[e] at h
   repeat' (first|simp -implicitDefEqProofs only[go_sem,n11,d3,d5,wa,wb]|refine ag_ (fun hb=>?_) (fun hb=>?_)|refine⟨fun hb=>?_,fun hb=>?_⟩|fail)
   exact h _ ⟨_,_,rfl,rfl,.refl _⟩
  ·have d5:decide ((5:Int)<o)=false:=wE h5;have e:m10 d ⟨o,a,b,v1,v2,v3,v4⟩=⟨o,a - d,b,v1,v2,v3,v4⟩:=by unfold m10;simp [h3,h5]
   rw[e] at h
   repeat' (first|simp -implicitDefEqProofs only[go_sem,n11,d3,d5,wa]|refine ag_ (fun hb=>?_) (fun hb=>?_)|refine⟨fun hb=>?_,fun hb=>?_⟩|fail)
   exact h _ ⟨_,_,rfl,rfl,.refl _⟩
 ·have d3:decide ((3:Int)<o)=false:=wE h3;have e:m10 d ⟨o,a,b,v1,v2,v3,v4⟩=⟨o,a,b,v1,v2,v3,v4⟩:=by unfold m10;simp [h3];omega
  rw[e] at h
  repeat' (first|simp -implicitDefEqProofs only[go_sem,n11,d3]|refine ag_ (fun hb=>?_) (fun hb=>?_)|refine⟨fun hb=>?_,fun hb=>?_⟩|fail)
  exact h _ ⟨_,_,rfl,rfl,.refl _⟩
def nwQ (m:List Bool) (i:Nat):Int:=if m[i]? =some true then (nu m i:Int) else -1
theorem ns38 (m:List Bool) (i:Nat):nu m (i+1)=nu m i+if m[i]? =some true then 1 else 0:=by
 unfold nu;rw[vV,List.count_append];cases h:m[i]? with
 | none=>simp
 | some b=>cases b <;> simp
theorem rs16 (q:QeaT) (s:Nat) (hs:q.start=(s:Int)) (hn:q.states.length≤12) (hsl:s<q.states.length) (hto:T_ q.trans q.states.length) (htl:q.trans.length≤1000):
  PQ G np21 [qeaV q] (.seq 1 ((List.range q.states.length).map fun j=>iv (nwQ (m_ q) j))):=by
 have hT:=rT10 (G:=G) q s hsl hto (by omega) (by omega);have hm:(m_ q).length=q.states.length:=by unfold m_;rw[hs,tm_];exact ml_ _ _ _
 have hb:q.states.length*8≤140737488355328:=by omega
 have e:toM q.trans q.states.length (s:Int)=m_ q:=by unfold m_;rw[hs]
 rw[e,←hs] at hT;generalize m_ q=m at*;unfold m14 at hT;refine pp11 fun Φ h=>?_;unfold cp12;rw[←ra12] at h
 repeat' (first|simp -implicitDefEqProofs only[go_sem,qeaV,d_,q_,f_,s_,s10,n_,t_,zX,an_ hb]|refine ag_ (fun hb=>?_) (fun hb=>?_)|refine⟨fun hb=>?_,fun hb=>?_⟩|refine ac_ hT rfl rfl ?_|fail)
 refine al_ (fun n st=>∃i:Nat,i+n=q.states.length∧st=⟨36,[(1,.ref 1 0 0),(3,.seq 1 (m.map AV.bool)),(4,.arr 14 0 q.states.length),(5,iv (nu m i:Int)),(6,iv (i:Int))],[(1,⟨false,taQ_,9,[qeaV q]⟩),(2,⟨true,ti_,1,[]⟩),(14,⟨true,ti_,1,rowF q.states.length (nwQ m) i⟩)]⟩) q.states.length ⟨0,by simp,by simp only[rz_,nz_];rfl⟩ ?_;rintro I hI n st ⟨i,hi,rfl⟩;by_cases hlt':i<q.states.length
 ·have hlt:decide ((i:Int)<(q.states.length:Int))=true:=by simpa using hlt'
  have hw:=ws_ hlt' (by omega);have s0:=rn10 (f:=nwQ m) hlt';have s1:∀v,v=nwQ m i→(rowF q.states.length (nwQ m) i).set i (iv v)=rowF q.states.length (nwQ m) (i+1):=fun v hv=>by rw[hv];exact rs21 hlt'
  have s2:((rowF q.states.length (nwQ m) i).set i (iv (-1)))[i]? =some (iv (-1)):=by rw[xP,zG rfl,zG (by simp [rowF];exact hlt')]
  obtain⟨b,hb1,_⟩:=as10 (l:=m) (i:=i) (by omega);have hmb:(m.map AV.bool)[i]? =some (.bool b):=by rw[zT,hb1];rfl
  have hnl:nu m i≤i:=by unfold nu;exact wB List.count_le_length (by simp;omega)
  have hnx:=hI (n - 1) _ ⟨i+1,by omega,rfl⟩;rw[ns38,hb1] at hnx;cases b with
  | true=>
   have e1:=s1 (nu m i) (by unfold nwQ;rw[hb1,zG rfl]);have hwn:IntKind.i64.wrap ((nu m i:Int)+1)=((nu m i+1:Nat):Int):=by rw[wi_ (by omega) (by omega)];omega
   rw[zG rfl] at hnx;clear hI h
   repeat' (first|simp -implicitDefEqProofs only[go_sem,qeaV,d_,q_,f_,s_,s10,n_,t_,zX,hlt,hw,aa10 hlt',s0,s2,List.set_set,e1,am_ hb1,hwn]|refine ag_ (fun hb=>?_) (fun hb=>?_)|refine⟨fun hb=>?_,fun hb=>?_⟩|fail)
   exact aa_ (n - 1) (by omega) hnx
  | false=>
   have e1:=s1 (-1) (by unfold nwQ;rw[hb1,zF (by simp)]);rw[zF (by simp)] at hnx;clear hI h
   repeat' (first|simp -implicitDefEqProofs only[go_sem,qeaV,d_,q_,f_,s_,s10,n_,t_,zX,hlt,hw,aa10 hlt',s0,e1,am_ hb1]|refine ag_ (fun hb=>?_) (fun hb=>?_)|refine⟨fun hb=>?_,fun hb=>?_⟩|fail)
   exact aa_ (n - 1) (by omega) hnx
 ·have hlt:decide ((i:Int)<(q.states.length:Int))=false:=by simp;omega
  obtain rfl:i=q.states.length:=by omega
  clear hI
  repeat' (first|simp -implicitDefEqProofs only[go_sem,qeaV,d_,q_,f_,s_,s10,n_,t_,zX,hlt]|refine ag_ (fun hb=>?_) (fun hb=>?_)|refine⟨fun hb=>?_,fun hb=>?_⟩|fail)
  refine h _ ⟨_,_,rfl,?_,.refl _⟩;have hrl:(rowF q.states.length (nwQ m) q.states.length).length=q.states.length:=by simp [rowF]
  have tk:(rowF q.states.length (nwQ m) q.states.length).take q.states.length=rowF q.states.length (nwQ m) q.states.length:=zM (by omega);generalize rowF q.states.length (nwQ m) q.states.length=R at*;simp [one,eget,view,view.go,AV.cells,viewK,viewK.go,viewB,viewBs,hget,hrl,tk]
