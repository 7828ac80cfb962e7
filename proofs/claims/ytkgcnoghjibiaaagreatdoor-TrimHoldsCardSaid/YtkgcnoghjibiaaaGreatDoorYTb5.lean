/- Lemmas. -/
import Derived.Test.YtkgcnoghjibiaaaGreatDoorYTcA
set_option linter.unusedSimpArgs false
set_option maxHeartbeats 4000000
set_option maxRecDepth 100000
namespace Go.Proofs.YtkgcnoghjibiaaaGreatDoor.Ab
open Go Go.RowKit
variable {G:Nat->Option AV}
def rowR:List AV:=[.fn 114 [.ref 3 0 0,.ref 2 0 0],.fn 117 [.ref 3 0 0,.ref 2 0 0],.fn 120 [.ref 3 0 0,.ref 2 0 0],.fn 123 [.ref 3 0 0,.ref 2 0 0],.fn 126 [.ref 2 0 0,.ref 3 0 0],.fn 128 [.ref 3 0 0,.ref 2 0 0],.fn 132 [.ref 3 0 0,.ref 2 0 0],.fn 135 [.ref 2 0 0,.ref 3 0 0]]
def qE (q:QeaT):Ents:=numE (λi:Nat=>n11 ⟨2,(i:Int),0,v0⟩) (q.quants.map (·.name)) 0
structure RunOk (T:TreeT) (q:QeaT) (sl:List StateT) (si:Nat) (A:List SymT) (ix:Int->Nat) (K:List (TransT×Int)):Prop where
 n1:T.name=q.name
 n2:T.decls=q.decls
 n3:T.quants=q.quants
 n4:T.frees=q.frees
 n5:T.states=sl
 n6:∃x,sl[si]?=some x∧T.start=x.name
 n7:T.also=A.map (symT q)
 n8:T.trans=K.map (trT q)
 d1:q.decls.length<=32
 d2:∀x∈q.decls,x.types.length<=8
 d3:(q.decls.map (·.name)).Nodup
 q1:q.quants.length<=8
 f1:q.frees.length<=16
 v1:q.vars.Nodup
 s1:sl.length<=32
 s2:(sl.map (·.name)).Nodup
 a1:∀s∈A,symS q s=true∧s.args.length<=1000
 a2:A.length<=1000
 a3:∀i,i<A.length->((A.take i).foldl putY []).length<64∧∀x∈(A.take i).foldl putY [],x.args.length<=1000
 k0:q.nodes.length<=1000
 k1:∀x∈K,MkOk q sl ix x
 k2:K.length<=1000
 k3:∀i,i<=K.length->M10 ((K.take i).foldl (s17 q ix) (A.foldl putY [],[],[]))
 t1:∀v,v<q.quants.length->((K.foldl (s17 q ix) (A.foldl putY [],[],[])).1.any λs=>s13 s (v:Int))=true
 o1:∀t∈(K.foldl (s17 q ix) (A.foldl putY [],[],[])).2.2,0<=t.symbol∧t.symbol<(K.foldl (s17 q ix) (A.foldl putY [],[],[])).1.length
 o2:r13 (K.foldl (s17 q ix) (A.foldl putY [],[],[])).1.length (symN (K.foldl (s17 q ix) (A.foldl putY [],[],[])).2.2)++dd [] (symN (K.foldl (s17 q ix) (A.foldl putY [],[],[])).2.2)=List.range (K.foldl (s17 q ix) (A.foldl putY [],[],[])).1.length
def c0:List (Nat×Box):=[(1001,⟨false,154,12,[.agg [.str [],.nils,.nils,.nils,.nils,iv 0,.nils,.nils,.nils,.mapv 1009,.mapv 1010,.mapv 1011]]⟩),(1009,⟨true,1,0,[]⟩),(1010,⟨true,1,0,[]⟩),(1011,⟨true,1,0,[]⟩)]
theorem rh_ (T:TreeT) (q:QeaT) (sl:List StateT) (si:Nat) (A:List SymT) (ix:Int->Nat) (K:List (TransT×Int)) (ok:RunOk T q sl si A ix K):
  HQ G 61 [.ref 1001 0 0,t27 T] c0 .nili [(1001,⟨false,154,12,[ckS q sl (si:Int) (K.foldl (s17 q ix) (A.foldl putY [],[],[])).1 (K.foldl (s17 q ix) (A.foldl putY [],[],[])).2.1 (K.foldl (s17 q ix) (A.foldl putY [],[],[])).2.2]⟩)]:=by
 obtain⟨n1,n2,n3,n4,n5,⟨x,hx,n6⟩,n7,n8,d1,d2,d3,q1,f1,v1,s1,s2,a1,a2,a3,k0,k1,k2,k3,t1,o1,o2⟩:=ok;have hfin:=k3 K.length (zN _);rw[wV] at hfin;have r1:=r1h_ (G:=G) T q.name (by rw[n2];exact d1) (by rw[n2];exact d2) (by rw[n2];exact d3);have r2:=r2h_ (G:=G) T q.name q.decls (e13 (dE q)) (by rw[n3];exact q1) (by rw[n3];have h:=v1;unfold QeaT.vars at h;exact (xD.1 h).1);have r3:=r3h_ (G:=G) T q.name q.decls q.quants (e13 (dE q)) (by rw[n4];exact f1) (by rw[n4];exact v1);have r4:=r4h_ (G:=G) T q.name q.decls q.quants q.frees (e13 (dE q)) (e13 (vE q)) (by rw[n5];exact s1) (by rw[n5];exact s2);have r5:=r5h_ (G:=G) T q sl .nils .nils .nils rfl rfl rfl s2 si x hx n6;have r6:=r6h_ (G:=G) T q v1 d3 sl (si:Int) A a1 a2 [] [] a3 n7;have r7:=r7h_ (G:=G) T q v1 d3 k0 sl s2 (si:Int) ix K k1 k2 (A.foldl putY [],[],[]) (λi hi=>k3 i (by omega)) n8;have r8:=r8h_ (G:=G) T q sl (si:Int) (K.foldl (s17 q ix) (A.foldl putY [],[],[])).1 (K.foldl (s17 q ix) (A.foldl putY [],[],[])).2.1 (K.foldl (s17 q ix) (A.foldl putY [],[],[])).2.2 hfin.2.1 (by have:=hfin.1;omega) (by omega) t1 n3;have r9:=oh_ (G:=G) q sl (si:Int) (K.foldl (s17 q ix) (A.foldl putY [],[],[])).1 (K.foldl (s17 q ix) (A.foldl putY [],[],[])).2.1 (K.foldl (s17 q ix) (A.foldl putY [],[],[])).2.2 (by have:=hfin.1;omega) (by have:=hfin.2.2.2;omega) o1 o2;have g1:numE (λi:Nat=>iv (i:Int)) (q.decls.map (·.name)) 0=dE q:=rfl;have g2:numE (λi:Nat=>n11 ⟨2,(i:Int),0,v0⟩) (q.quants.map (·.name)) 0=qE q:=rfl;have g3:qE q++numE (λi:Nat=>n11 ⟨3,(i:Int),0,v0⟩) (q.frees.map (·.name)) 0=vE q:=rfl;have g4:numE (λi:Nat=>iv (i:Int)) (sl.map (·.name)) 0=sE sl:=rfl;have g5:∀f,numE f ([]:List Str) 0=[]:=λ_ =>rfl;have g6:e13 []=[]:=rfl;simp only[Hd_,Hq_,Hf_,Hs_,sB,cVar,mapB,n2,n3,n4,n5,g1,g2,g3,g4,g5,g6,yU,xY,xT] at r1 r2 r3 r4;refine H_.of_runs (fn:=Tryz.f61) (A:=cccr_) Tryz.func61 kccr_ rfl (by rfl) (R10.of λΦ h=>?_);unfold cccr_;unfold c0;simp only[HK,ckB,ckC,sB,cVar,xY,yU] at r5 r6 r7 r8 r9;clear d1 d2 d3 q1 f1 v1 s1 s2 a1 a2 a3 k0 k1 k2 k3 t1 o1 o2 hfin g1 g2 g3 g4 g5 g6 hx n6 n7 n8;simp -implicitDefEqProofs only[go_sem,t27,n1,t22,t13,t21,t16,t23,t33];refine al11 (λn st'=>(n=8∧st'=⟨37,[(2,.ref 2 0 0),(23,.arr 23 0 8),(24,iv ((8:Nat):Int)),(25,iv ((0:Nat):Int))],[(2,⟨false,150,1,[.ref 1001 0 0]⟩),(3,⟨false,63,12,[t27 T]⟩),(23,⟨false,228,1,rowR⟩),(36,⟨true,42,2,[]⟩),(1001,⟨false,154,12,[.agg [.str q.name,.arr 36 0 0,.nils,.nils,.nils,iv 0,.nils,.nils,.nils,.mapv 1009,.mapv 1010,.mapv 1011]]⟩),(1009,⟨true,1,0,[]⟩),(1010,⟨true,1,0,[]⟩),(1011,⟨true,1,0,[]⟩)]⟩)∨(n=7∧st'=⟨37,[(2,.ref 2 0 0),(23,.arr 23 0 8),(24,iv ((8:Nat):Int)),(25,iv ((1:Nat):Int))],[(2,⟨false,150,1,[.ref 1001 0 0]⟩),(3,⟨false,63,12,[t27 T]⟩),(23,⟨false,228,1,rowR⟩),(36,⟨true,124,3,[]⟩),(1001,⟨false,154,12,[.agg [.str q.name,.seq 2 (q.decls.map d12),.arr 36 0 0,.nils,.nils,iv 0,.nils,.nils,.nils,.mapc (e13 (dE q)),.mapv 1010,.mapv 1011]]⟩),(1010,⟨true,1,0,[]⟩),(1011,⟨true,1,0,[]⟩)]⟩)∨(n=6∧st'=⟨37,[(2,.ref 2 0 0),(23,.arr 23 0 8),(24,iv ((8:Nat):Int)),(25,iv ((2:Nat):Int))],[(2,⟨false,150,1,[.ref 1001 0 0]⟩),(3,⟨false,63,12,[t27 T]⟩),(23,⟨false,228,1,rowR⟩),(36,⟨true,110,5,[]⟩),(1001,⟨false,154,12,[.agg [.str q.name,.seq 2 (q.decls.map d12),.seq 3 (q.quants.map q11),.arr 36 0 0,.nils,iv 0,.nils,.nils,.nils,.mapc (e13 (dE q)),.mapv 1010,.mapv 1011]]⟩),(1010,⟨true,1,0,e13 (qE q)⟩),(1011,⟨true,1,0,[]⟩)]⟩)∨(n=5∧st'=⟨37,[(2,.ref 2 0 0),(23,.arr 23 0 8),(24,iv ((8:Nat):Int)),(25,iv ((3:Nat):Int))],[(2,⟨false,150,1,[.ref 1001 0 0]⟩),(3,⟨false,63,12,[t27 T]⟩),(23,⟨false,228,1,rowR⟩),(36,⟨true,53,3,[]⟩),(1001,⟨false,154,12,[.agg [.str q.name,.seq 2 (q.decls.map d12),.seq 3 (q.quants.map q11),.seq 5 (q.frees.map f10),.arr 36 0 0,iv 0,.nils,.nils,.nils,.mapc (e13 (dE q)),.mapc (e13 (vE q)),.mapv 1011]]⟩),(1011,⟨true,1,0,[]⟩)]⟩)∨(n=4∧st'=⟨37,[(2,.ref 2 0 0),(23,.arr 23 0 8),(24,iv ((8:Nat):Int)),(25,iv ((4:Nat):Int))],[(2,⟨false,150,1,[.ref 1001 0 0]⟩),(3,⟨false,63,12,[t27 T]⟩),(23,⟨false,228,1,rowR⟩),(1001,⟨false,154,12,[.agg [.str q.name,.seq 2 (q.decls.map d12),.seq 3 (q.quants.map q11),.seq 5 (q.frees.map f10),.seq 3 (sl.map s14),iv 0,.nils,.nils,.nils,.mapc (e13 (dE q)),.mapc (e13 (vE q)),.mapc (e13 (sE sl))]]⟩)]⟩)∨(n=3∧st'=⟨37,[(2,.ref 2 0 0),(23,.arr 23 0 8),(24,iv ((8:Nat):Int)),(25,iv ((5:Nat):Int))],[(2,⟨false,150,1,[.ref 1001 0 0]⟩),(3,⟨false,63,12,[t27 T]⟩),(23,⟨false,228,1,rowR⟩),(36,⟨true,106,2,[]⟩),(35,⟨true,112,7,[]⟩),(34,⟨true,95,5,[]⟩),(1001,⟨false,154,12,[.agg [.str q.name,.seq 2 (q.decls.map d12),.seq 3 (q.quants.map q11),.seq 5 (q.frees.map f10),.seq 3 (sl.map s14),iv (si:Int),.arr 36 0 0,.arr 35 0 0,.arr 34 0 0,.mapc (e13 (dE q)),.mapc (e13 (vE q)),.mapc (e13 (sE sl))]]⟩)]⟩)∨(n=2∧st'=⟨37,[(2,.ref 2 0 0),(23,.arr 23 0 8),(24,iv ((8:Nat):Int)),(25,iv ((6:Nat):Int))],[(2,⟨false,150,1,[.ref 1001 0 0]⟩),(3,⟨false,63,12,[t27 T]⟩),(23,⟨false,228,1,rowR⟩),(36,⟨true,106,2,(A.foldl putY []).map symV⟩),(35,⟨true,112,7,([]:List NodeT).map n11⟩),(34,⟨true,95,5,([]:List TransT).map t11⟩),(1001,⟨false,154,12,[.agg [.str q.name,.seq 2 (q.decls.map d12),.seq 3 (q.quants.map q11),.seq 5 (q.frees.map f10),.seq 3 (sl.map s14),iv (si:Int),.arr 36 0 (A.foldl putY []).length,.arr 35 0 ([]:List NodeT).length,.arr 34 0 ([]:List TransT).length,.mapc (e13 (dE q)),.mapc (e13 (vE q)),.mapc (e13 (sE sl))]]⟩)]⟩)∨(n=1∧st'=⟨37,[(2,.ref 2 0 0),(23,.arr 23 0 8),(24,iv ((8:Nat):Int)),(25,iv ((7:Nat):Int))],[(2,⟨false,150,1,[.ref 1001 0 0]⟩),(3,⟨false,63,12,[t27 T]⟩),(23,⟨false,228,1,rowR⟩),(36,⟨true,106,2,(K.foldl (s17 q ix) ((A.foldl putY []),[],[])).1.map symV⟩),(35,⟨true,112,7,(K.foldl (s17 q ix) ((A.foldl putY []),[],[])).2.1.map n11⟩),(34,⟨true,95,5,(K.foldl (s17 q ix) ((A.foldl putY []),[],[])).2.2.map t11⟩),(1001,⟨false,154,12,[.agg [.str q.name,.seq 2 (q.decls.map d12),.seq 3 (q.quants.map q11),.seq 5 (q.frees.map f10),.seq 3 (sl.map s14),iv (si:Int),.arr 36 0 (K.foldl (s17 q ix) ((A.foldl putY []),[],[])).1.length,.arr 35 0 (K.foldl (s17 q ix) ((A.foldl putY []),[],[])).2.1.length,.arr 34 0 (K.foldl (s17 q ix) ((A.foldl putY []),[],[])).2.2.length,.mapc (e13 (dE q)),.mapc (e13 (vE q)),.mapc (e13 (sE sl))]]⟩)]⟩)∨(n=0∧st'=⟨37,[(2,.ref 2 0 0),(23,.arr 23 0 8),(24,iv ((8:Nat):Int)),(25,iv ((8:Nat):Int))],[(2,⟨false,150,1,[.ref 1001 0 0]⟩),(3,⟨false,63,12,[t27 T]⟩),(23,⟨false,228,1,rowR⟩),(36,⟨true,106,2,(K.foldl (s17 q ix) ((A.foldl putY []),[],[])).1.map symV⟩),(35,⟨true,112,7,(K.foldl (s17 q ix) ((A.foldl putY []),[],[])).2.1.map n11⟩),(34,⟨true,95,5,(K.foldl (s17 q ix) ((A.foldl putY []),[],[])).2.2.map t11⟩),(1001,⟨false,154,12,[.agg [.str q.name,.seq 2 (q.decls.map d12),.seq 3 (q.quants.map q11),.seq 5 (q.frees.map f10),.seq 3 (sl.map s14),iv (si:Int),.arr 36 0 (K.foldl (s17 q ix) ((A.foldl putY []),[],[])).1.length,.arr 35 0 (K.foldl (s17 q ix) ((A.foldl putY []),[],[])).2.1.length,.arr 34 0 (K.foldl (s17 q ix) ((A.foldl putY []),[],[])).2.2.length,.mapc (e13 (dE q)),.mapc (e13 (vE q)),.mapc (e13 (sE sl))]]⟩)]⟩)) 8 _ (wn_ (c:=1001) 3 36 1 42 2 rfl rfl (xS rfl) rfl (xN _) (xN _) rfl rfl) (.inl ⟨rfl,by rw[<-n1];rfl⟩) ?_;clear n1 n2 n3 n4 n5;unfold t27 t22 t13 t21 t16 t23 t33 at r1 r2 r3 r4 r5 r6 r7 r8;unfold ckS ckC at h;generalize e13 (dE q)=E1 at*;generalize e13 (vE q)=E2 at*;generalize e13 (sE sl)=E3 at*;generalize e13 (qE q)=E4 at*;generalize hFF:K.foldl (s17 q ix) (A.foldl putY [],[],[])=FF at*;generalize A.foldl putY []=YY at*;clear hFF;obtain⟨FY,FN,FT⟩:=FF;rintro I hI n st' (⟨rfl,rfl⟩ | ⟨rfl,rfl⟩ | ⟨rfl,rfl⟩ | ⟨rfl,rfl⟩ | ⟨rfl,rfl⟩ | ⟨rfl,rfl⟩ | ⟨rfl,rfl⟩ | ⟨rfl,rfl⟩ | ⟨rfl,rfl⟩)
 .have hlt:decide (((0:Nat):Int)<((8:Nat):Int))=true:=rfl;have hw:=ws_ (show 0<8 by decide) (by decide);have hr:rowR[0]?=some (.fn 114 [.ref 3 0 0,.ref 2 0 0]):=rfl;have hnx:=hI 7 _ (.inr (.inl ⟨rfl,rfl⟩));clear hI h
  repeat' (first|(simp -implicitDefEqProofs only[go_sem,t27,t22,t13,t21,t16,t23,t33,hlt,hw,aa10 (show 0<8 by decide),hr])|apply ai__<;>intro hb|(refine⟨by kernel_rfl,ach_ [(1021,3),(1020,2),(1001,1001),(1002,36),(1009,1009),(1010,1010),(1011,1011)] r1 rfl ⟨⟨_,_,rfl,rfl,rfl⟩,⟨_,_,rfl,rfl,rfl⟩,⟨_,_,rfl,rfl,rfl⟩,⟨_,_,rfl,rfl,rfl⟩,⟨_,_,rfl,rfl,rfl⟩,⟨_,_,rfl,rfl,rfl⟩,⟨_,_,rfl,rfl,rfl⟩,trivial⟩ rfl rfl rfl ?_⟩)|fail)
  refine aa12 7 (by decide) _ ?_ hnx;refine (wt_ (i:=36) rfl rfl).trans ?_;simp -implicitDefEqProofs only[go_sem,t25,zQ,zN];refine (wt_ (i:=1009) rfl rfl).trans ?_;simp -implicitDefEqProofs only[go_sem,t25,zQ,zN];exact Weak.trans (wn_ (c:=1001) 3 36 2 124 3 rfl rfl (xS rfl) rfl (xN _) (xN _) rfl rfl) (Weak.refl _)
 .have hlt:decide (((1:Nat):Int)<((8:Nat):Int))=true:=rfl;have hw:=ws_ (show 1<8 by decide) (by decide);have hr:rowR[1]?=some (.fn 117 [.ref 3 0 0,.ref 2 0 0]):=rfl;have hnx:=hI 6 _ (.inr (.inr (.inl ⟨rfl,rfl⟩)));clear hI h
  repeat' (first|(simp -implicitDefEqProofs only[go_sem,t27,t22,t13,t21,t16,t23,t33,hlt,hw,aa10 (show 1<8 by decide),hr])|apply ai__<;>intro hb|(refine⟨by kernel_rfl,ach_ [(1021,3),(1020,2),(1001,1001),(1003,36),(1010,1010),(1011,1011)] r2 rfl ⟨⟨_,_,rfl,rfl,rfl⟩,⟨_,_,rfl,rfl,rfl⟩,⟨_,_,rfl,rfl,rfl⟩,⟨_,_,rfl,rfl,rfl⟩,⟨_,_,rfl,rfl,rfl⟩,⟨_,_,rfl,rfl,rfl⟩,trivial⟩ rfl rfl rfl ?_⟩)|fail)
  refine aa12 6 (by decide) _ ?_ hnx;refine (wt_ (i:=36) rfl rfl).trans ?_;simp -implicitDefEqProofs only[go_sem,t25,zQ,zN];exact Weak.trans (wn_ (c:=1001) 3 36 3 110 5 rfl rfl (xS rfl) rfl (xN _) (xN _) rfl rfl) (Weak.refl _)
 .have hlt:decide (((2:Nat):Int)<((8:Nat):Int))=true:=rfl;have hw:=ws_ (show 2<8 by decide) (by decide);have hr:rowR[2]?=some (.fn 120 [.ref 3 0 0,.ref 2 0 0]):=rfl;have hnx:=hI 5 _ (.inr (.inr (.inr (.inl ⟨rfl,rfl⟩))));clear hI h
  repeat' (first|(simp -implicitDefEqProofs only[go_sem,t27,t22,t13,t21,t16,t23,t33,hlt,hw,aa10 (show 2<8 by decide),hr])|apply ai__<;>intro hb|(refine⟨by kernel_rfl,ach_ [(1021,3),(1020,2),(1001,1001),(1004,36),(1010,1010),(1011,1011)] r3 rfl ⟨⟨_,_,rfl,rfl,rfl⟩,⟨_,_,rfl,rfl,rfl⟩,⟨_,_,rfl,rfl,rfl⟩,⟨_,_,rfl,rfl,rfl⟩,⟨_,_,rfl,rfl,rfl⟩,⟨_,_,rfl,rfl,rfl⟩,trivial⟩ rfl rfl rfl ?_⟩)|fail)
  refine aa12 5 (by decide) _ ?_ hnx;refine (wt_ (i:=36) rfl rfl).trans ?_;simp -implicitDefEqProofs only[go_sem,t25,zQ,zN];refine (wt_ (i:=1010) rfl rfl).trans ?_;simp -implicitDefEqProofs only[go_sem,t25,zQ,zN];exact Weak.trans (wn_ (c:=1001) 3 36 4 53 3 rfl rfl (xS rfl) rfl (xN _) (xN _) rfl rfl) (Weak.refl _)
 .have hlt:decide (((3:Nat):Int)<((8:Nat):Int))=true:=rfl;have hw:=ws_ (show 3<8 by decide) (by decide);have hr:rowR[3]?=some (.fn 123 [.ref 3 0 0,.ref 2 0 0]):=rfl;have hnx:=hI 4 _ (.inr (.inr (.inr (.inr (.inl ⟨rfl,rfl⟩)))));clear hI h
  repeat' (first|(simp -implicitDefEqProofs only[go_sem,t27,t22,t13,t21,t16,t23,t33,hlt,hw,aa10 (show 3<8 by decide),hr])|apply ai__<;>intro hb|(refine⟨by kernel_rfl,ach_ [(1021,3),(1020,2),(1001,1001),(1005,36),(1011,1011)] r4 rfl ⟨⟨_,_,rfl,rfl,rfl⟩,⟨_,_,rfl,rfl,rfl⟩,⟨_,_,rfl,rfl,rfl⟩,⟨_,_,rfl,rfl,rfl⟩,⟨_,_,rfl,rfl,rfl⟩,trivial⟩ rfl rfl rfl ?_⟩)|fail)
  refine aa12 4 (by decide) _ ?_ hnx;refine (wt_ (i:=36) rfl rfl).trans ?_;simp -implicitDefEqProofs only[go_sem,t25,zQ,zN];refine (wt_ (i:=1011) rfl rfl).trans ?_;simp -implicitDefEqProofs only[go_sem,t25,zQ,zN];exact Weak.refl _
 .have hlt:decide (((4:Nat):Int)<((8:Nat):Int))=true:=rfl;have hw:=ws_ (show 4<8 by decide) (by decide);have hr:rowR[4]?=some (.fn 126 [.ref 2 0 0,.ref 3 0 0]):=rfl;have hnx:=hI 3 _ (.inr (.inr (.inr (.inr (.inr (.inl ⟨rfl,rfl⟩))))));clear hI h
  repeat' (first|(simp -implicitDefEqProofs only[go_sem,t27,t22,t13,t21,t16,t23,t33,hlt,hw,aa10 (show 4<8 by decide),hr])|apply ai__<;>intro hb|(refine⟨by kernel_rfl,ach_ [(1021,3),(1020,2),(1001,1001)] r5 rfl ⟨⟨_,_,rfl,rfl,rfl⟩,⟨_,_,rfl,rfl,rfl⟩,⟨_,_,rfl,rfl,rfl⟩,trivial⟩ rfl rfl rfl ?_⟩)|fail)
  refine aa12 3 (by decide) _ ?_ hnx;exact Weak.trans (wn_ (c:=1001) 3 36 6 106 2 rfl rfl (xS rfl) rfl (xN _) (xN _) rfl rfl) (Weak.trans (wn_ (c:=1001) 4 35 7 112 7 rfl rfl (xS rfl) rfl (xN _) (xN _) rfl rfl) (Weak.trans (wn_ (c:=1001) 5 34 8 95 5 rfl rfl (xS rfl) rfl (xN _) (xN _) rfl rfl) (Weak.refl _)))
 .have hlt:decide (((5:Nat):Int)<((8:Nat):Int))=true:=rfl;have hw:=ws_ (show 5<8 by decide) (by decide);have hr:rowR[5]?=some (.fn 128 [.ref 3 0 0,.ref 2 0 0]):=rfl;have hnx:=hI 2 _ (.inr (.inr (.inr (.inr (.inr (.inr (.inl ⟨rfl,rfl⟩)))))));clear hI h
  repeat' (first|(simp -implicitDefEqProofs only[go_sem,t27,t22,t13,t21,t16,t23,t33,hlt,hw,aa10 (show 5<8 by decide),hr])|apply ai__<;>intro hb|(refine⟨by kernel_rfl,ach_ [(1021,3),(1020,2),(1001,1001),(1006,36),(1007,35),(1008,34)] r6 rfl ⟨⟨_,_,rfl,rfl,rfl⟩,⟨_,_,rfl,rfl,rfl⟩,⟨_,_,rfl,rfl,rfl⟩,⟨_,_,rfl,rfl,rfl⟩,⟨_,_,rfl,rfl,rfl⟩,⟨_,_,rfl,rfl,rfl⟩,trivial⟩ rfl rfl rfl ?_⟩)|fail)
  exact aa_ 2 (by decide) hnx
 .have hlt:decide (((6:Nat):Int)<((8:Nat):Int))=true:=rfl;have hw:=ws_ (show 6<8 by decide) (by decide);have hr:rowR[6]?=some (.fn 132 [.ref 3 0 0,.ref 2 0 0]):=rfl;have hnx:=hI 1 _ (.inr (.inr (.inr (.inr (.inr (.inr (.inr (.inl ⟨rfl,rfl⟩))))))));clear hI h
  repeat' (first|(simp -implicitDefEqProofs only[go_sem,t27,t22,t13,t21,t16,t23,t33,hlt,hw,aa10 (show 6<8 by decide),hr])|apply ai__<;>intro hb|(refine⟨by kernel_rfl,ach_ [(1021,3),(1020,2),(1001,1001),(1006,36),(1007,35),(1008,34)] r7 rfl ⟨⟨_,_,rfl,rfl,rfl⟩,⟨_,_,rfl,rfl,rfl⟩,⟨_,_,rfl,rfl,rfl⟩,⟨_,_,rfl,rfl,rfl⟩,⟨_,_,rfl,rfl,rfl⟩,⟨_,_,rfl,rfl,rfl⟩,trivial⟩ rfl rfl rfl ?_⟩)|fail)
  exact aa_ 1 (by decide) hnx
 .have hlt:decide (((7:Nat):Int)<((8:Nat):Int))=true:=rfl;have hw:=ws_ (show 7<8 by decide) (by decide);have hr:rowR[7]?=some (.fn 135 [.ref 2 0 0,.ref 3 0 0]):=rfl;have hnx:=hI 0 _ (.inr (.inr (.inr (.inr (.inr (.inr (.inr (.inr (⟨rfl,rfl⟩)))))))));clear hI h
  repeat' (first|(simp -implicitDefEqProofs only[go_sem,t27,t22,t13,t21,t16,t23,t33,hlt,hw,aa10 (show 7<8 by decide),hr])|apply ai__<;>intro hb|(refine⟨by kernel_rfl,ach_ [(1021,3),(1020,2),(1001,1001),(1006,36),(1007,35),(1008,34)] r8 rfl ⟨⟨_,_,rfl,rfl,rfl⟩,⟨_,_,rfl,rfl,rfl⟩,⟨_,_,rfl,rfl,rfl⟩,⟨_,_,rfl,rfl,rfl⟩,⟨_,_,rfl,rfl,rfl⟩,⟨_,_,rfl,rfl,rfl⟩,trivial⟩ rfl rfl rfl ?_⟩)|fail)
  exact aa_ 0 (by decide) hnx
 .have hlt:decide (((8:Nat):Int)<((8:Nat):Int))=false:=rfl;clear hI
  repeat' (first|simp -implicitDefEqProofs only[go_sem,hlt]|apply ai__<;>intro hb|(refine ac10 [(1001,1001),(1006,36),(1007,35),(1008,34)] r9 rfl ⟨⟨_,_,rfl,rfl,rfl⟩,⟨_,_,rfl,rfl,rfl⟩,⟨_,_,rfl,rfl,rfl⟩,⟨_,_,rfl,rfl,rfl⟩,trivial⟩ rfl rfl rfl ?_)|fail)
  refine h _ ⟨_,_,((wt_ (i:=35) rfl rfl).trans (wt_ (i:=34) rfl rfl)),rfl,.refl _,subH.at ⟨?_,trivial⟩⟩;simp [St.thaw1,hget,t37,t36,thaw.go,thaw,t25,ckS,ckC]
open Go.Extern.Stop Go.Stop Go.Extern
theorem en11 (v:Value) (w:World):Calls Tryz.prog 60 #[.nilIface,v] w λe w'=>e= .returned (.bool false)∧w'=w:=by go_enter Tryz.func60,Tryz.ntmps60;go_wp2;go_ret;exact⟨rfl,rfl⟩
theorem eAnp_ (x:AV):PQ G 60 [.nili,x] (.bool false):=by
 intro w F vs hg ⟨hs,hr⟩;obtain⟨l⟩:=vs
 match l,hs with
 | [x,y],_ =>
  have h0:=hr 0 _ x rfl rfl;cases h0;refine (en11 y w).mono ?_;rintro ev w' ⟨rfl,rfl⟩;exact⟨_,F,rfl,λ_ h=>h,λ_ h=>.inl h,hg.1,.bool _ _,.refl _ _⟩
def m17 (q:QeaT) (sl:List StateT) (si:Nat) (A:List SymT) (ix:Int->Nat) (K:List (TransT×Int)):QeaT:=
 ⟨q.name,q.decls,q.quants,q.frees,sl,(si:Int),(K.foldl (s17 q ix) (A.foldl putY [],[],[])).1,(K.foldl (s17 q ix) (A.foldl putY [],[],[])).2.1,(K.foldl (s17 q ix) (A.foldl putY [],[],[])).2.2⟩
theorem cLp_ (hG:wg_ G) (T:TreeT) (hT:TreeOk T) (q:QeaT) (sl:List StateT) (si:Nat) (A:List SymT) (ix:Int->Nat) (K:List (TransT×Int)) (ok:RunOk T q sl si A ix K):
  PQ G 25 [t27 T] (.tup [qeaV (m17 q sl si A ix K),.agg [iv 0,iv 0,iv 0]]):=by
 have r1:=rh_ (G:=G) T q sl si A ix K ok;have r2:=tRp_ hG T hT;have r3:=eAnp_ (G:=G) (.iface 160 (.eptr .nilp 0));refine pcL_ λΦ h=>?_;unfold ccL_;unfold m17 at h;simp only[c0,ckS,ckC] at r1;unfold t27 t22 t13 t21 t16 t23 t33 at*;generalize K.foldl (s17 q ix) (A.foldl putY [],[],[])=FF at*;obtain⟨FY,FN,FT⟩:=FF
 repeat' (first|simp -implicitDefEqProofs only[go_sem]|apply ai__<;>intro hb|refine ac_ r2 rfl rfl ?_|(refine ac10 [(1001,15),(1009,11),(1010,12),(1011,13)] r1 rfl ⟨⟨_,_,rfl,rfl,rfl⟩,⟨_,_,rfl,rfl,rfl⟩,⟨_,_,rfl,rfl,rfl⟩,⟨_,_,rfl,rfl,rfl⟩,trivial⟩ rfl rfl rfl ?_)|refine ac_ r3 rfl rfl ?_|fail)
 exact hq_ h
def s20 (q:QeaT):List Str:=(r15 q).map (n19 q)
def cutT (stay:List Str) (T:TreeT):TreeT:=
 ⟨T.name,T.decls,T.quants,T.frees,T.states.filter λx=>stay.any λy=>x.name==y,T.start,
  a24 T.also (T.trans.filter λx=>stay.any λy=>x.from_==y) (T.trans.filter λx=>!stay.any λy=>x.from_==y),
  T.trans.filter λx=>stay.any λy=>x.from_==y⟩
theorem tTp_ (hG:wg_ G) (q:QeaT) (hq:q.Few) (hr:r20 q=true) (hw:WrOk q) (s:Nat) (hs:q.start=(s:Int)) (hn:q.states.length<=12) (hsl:s<q.states.length) (hto:T_ q.trans q.states.length) (htl:q.trans.length<=1000)
  (hl1:(t19 q).trans.length<=1000) (hl2:(t19 q).states.length<=1000) (hl3:(t19 q).also.length<=1000) (hl4:∀s∈(t19 q).also,s.args.length<=1000) (hl5:∀x∈(t19 q).trans,x.on.args.length<=1000)
  (hT:TreeOk (cutT (s20 q) (t19 q))) (sl:List StateT) (si:Nat) (A:List SymT) (ix:Int->Nat) (K:List (TransT×Int)) (ok:RunOk (cutT (s20 q) (t19 q)) q sl si A ix K):
  PQ G 6 [qeaV q] (.tup [qeaV (m17 q sl si A ix K),.bool true]):=by
 have hrl:(r15 q).length<=12:=by have:=xH (λi=>(m_ q)[i]? ==some true) (List.range q.states.length);rw[xE] at this;unfold r15;omega
 have h1:=bTp_ (G:=G) hG q hq hr hw;have h2:=sp10 (G:=G) hG q hq hr s hs hn hsl hto htl;have h3:=np47 (G:=G) q (r15 q) (by omega) (λi hi=>(rm10.1 hi).1);have hstl:(s20 q).length<=1000:=by unfold s20;rw[zQ];omega
 have h4:=tkaTp_ (G:=G) 20 [.eptr (hasF (s20 q)) 0] (by kernel_rfl) of_ (λx=>(s20 q).any λy=>x.name==y) (t19 q).states (λx _ =>T2p_ x _ hstl) (by omega);have h5:=kth_ (G:=G) 22 (s20 q) (by kernel_rfl) (λx=>!(s20 q).any λy=>x.from_==y) (t19 q).trans hl1 (λx _ =>T3p_ x _ hstl);have h6:=kth_ (G:=G) 23 (s20 q) (by kernel_rfl) (λx=>(s20 q).any λy=>x.from_==y) (t19 q).trans hl1 (λx _ =>T4p_ x _ hstl);have h8:=cLp_ (G:=G) hG (cutT (s20 q) (t19 q)) hT q sl si A ix K ok;have hstay:(r15 q).map (n19 q)=s20 q:=rfl;rw[hstay] at h3;generalize (m17 q sl si A ix K)=Z at*;clear ok hT hs hto hsl hw hr hq;generalize s20 q=ST at*;generalize r15 q=RL at*;generalize t19 q=T at*;have hle:∀p:TTrT->Bool,(T.trans.filter p).length<=1000:=λp=>vY (xH _ _) hl1;have h7:=ap10 (G:=G) q ⟨T.name,T.decls,T.quants,T.frees,T.states.filter λx=>ST.any λy=>x.name==y,T.start,T.also,T.trans.filter λx=>ST.any λy=>x.from_==y⟩ (T.trans.filter λx=>!ST.any λy=>x.from_==y) hl3 hl4 (hle _) (λx hx=>hl5 x (yP.1 hx).1) (hle _) (λx hx=>hl5 x (yP.1 hx).1);simp only[cutT] at h8;refine ptT_ λΦ h=>?_;unfold ctT_;generalize (T.trans.filter λx=>!ST.any λy=>x.from_==y)=GN at*;generalize (T.trans.filter λx=>ST.any λy=>x.from_==y)=LF at*;generalize (T.states.filter λx=>ST.any λy=>x.name==y)=SS at*;obtain⟨T1,T2,T3,T4,T5,T6,T7,T8⟩:=T;dsimp only at*;generalize a24 T7 LF GN=AL at*;simp only[t27,t22,t13,t21,t16,t23,t33,HS,hasF,List.cons_append,tU] at h1 h4 h5 h6 h7 h8;obtain⟨Z1,Z2,Z3,Z4,Z5,Z6,Z7,Z8,Z9⟩:=Z;have tk1:(GN.map tTrV).take GN.length=GN.map tTrV:=t25 _ _;have tk2:(LF.map tTrV).take LF.length=LF.map tTrV:=t25 _ _
 repeat' (first|simp -implicitDefEqProofs only[go_sem,qeaV,d_,q_,f_,s_,s10,n_,t_,t25,zQ,zN]|apply ai__<;>intro hb|refine ac_ h1 rfl rfl ?_|refine ac_ h2 rfl rfl ?_|refine ac_ h3 rfl rfl ?_|(refine ac12 h4 rfl (FitL.refl _) rfl ?_)|(refine ac10 [(1001,7),(1002,6),(5,32)] h5 rfl ⟨⟨_,_,rfl,rfl,rfl⟩,⟨_,_,rfl,rfl,rfl⟩,trivial⟩ rfl rfl rfl ?_)|(refine ac10 [(1001,7),(1002,6),(5,36)] h6 rfl ⟨⟨_,_,rfl,rfl,rfl⟩,⟨_,_,rfl,rfl,rfl⟩,trivial⟩ rfl rfl rfl ?_)|(refine ac_ h7 (by simp [v10,flat,flat.go,viewAll,viewBs,view,view.go,viewB,viewK,viewK.go,AV.cells,hget,t25,tk1,tk2,qeaV,d_,q_,f_,s_,s10,n_,t_]) rfl ?_)|(refine ac_ h8 (by simp [v10,flat,flat.go,viewAll,viewBs,view,view.go,viewB,viewK,viewK.go,AV.cells,hget,t25,tk1,tk2]) rfl ?_)|fail)
 exact hq_ h
def nu (m:List Bool) (i:Nat):Nat:=(m.take i).count true
def k11 {α:Type}:List Bool->List α->List α
 | true::m,x::l=>x::k11 m l
 | false::m,_ ::l=>k11 m l
 | _,_ =>[]
theorem nc_ (b:Bool) (m:List Bool) (i:Nat):nu (b::m) (i+1)=(if b=true then 1 else 0)+nu m i:=by unfold nu;rw[uQ,uG];cases b <;> simp <;> omega
theorem nz_ (m:List Bool):nu m 0=0:=by simp [nu]
theorem nu_lt:∀{m:List Bool} {i:Nat},m[i]?=some true->nu m i<m.count true
 | b::m,0,h=>by simp at h;subst h;rw[nz_,uG];simp
 | b::m,i+1,h=>by have:=nu_lt (m:=m) (i:=i) (by simpa using h);rw[nc_,uG];cases b <;> simp <;> omega
theorem ni11:∀{m:List Bool} {i k:Nat},m[i]?=some true->m[k]?=some true->nu m i=nu m k->i=k
 | b::m,0,0,_,_,_ =>rfl
 | b::m,0,k+1,h,g,e=>by
  simp at h;subst h;rw[nz_,nc_] at e;simp at e
  try omega
 | b::m,i+1,0,h,g,e=>by simp at g;subst g;rw[nz_,nc_] at e;simp at e
 | b::m,i+1,k+1,h,g,e=>by
  rw[nc_,nc_] at e;have e2:nu m i=nu m k:=by omega
  rw[ni11 (m:=m) (by simpa using h) (by simpa using g) e2]
theorem kl_ {α:Type}:∀{m:List Bool} {l:List α},m.length=l.length->(k11 m l).length=m.count true
 | [],[],_ =>rfl
 | true::m,x::l,h=>by unfold k11;rw[yH,kl_ (by simpa using h),uG];simp
 | false::m,x::l,h=>by unfold k11;rw[kl_ (by simpa using h),uG];simp
 | [],_ ::_,hl=>by simp at hl
 | _ ::_,[],hl=>by simp at hl
theorem ka10 {α:Type}:∀{m:List Bool} {l:List α} {i:Nat},m[i]?=some true->(k11 m l)[nu m i]? =l[i]?
 | b::m,x::l,0,h=>by simp at h;subst h;rw[nz_];rfl
 | b::m,x::l,i+1,h=>by
  have:=ka10 (m:=m) (l:=l) (i:=i) (by simpa using h);rw[nc_];cases b with
  | true=>rw[zY rfl,Nat.add_comm];unfold k11;simpa using this
  | false=>simp only[zF,yI,yS];unfold k11;simpa using this
 | b::m,[],i,h=>by cases b <;> simp [k11]
def nwQ (m:List Bool) (i:Nat):Int:=if m[i]?=some true then (nu m i:Int) else -1
def symD (q:QeaT) (i:Nat):SymT:=match q.symbols[i]? with | some s=>s | none=>⟨0,[]⟩
def reT (P:List Nat) (t:TransT):TransT:=⟨t.from_,(P.idxOf t.symbol.toNat:Nat),t.to_,t.guard,t.sets⟩
def ordQ (q:QeaT):QeaT:={q with symbols:=(perm q.symbols.length (symN q.trans)).map (symD q),trans:=q.trans.map (reT (perm q.symbols.length (symN q.trans)))}
theorem dc_:∀(a b o:List Nat),dd o (a++b)=dd (dd o a) b
 | [],_,_ =>rfl
 | x::a,b,o=>by
  show (if x∈o then dd o (a++b) else dd (o++[x]) (a++b))=dd (if x∈o then dd o a else dd (o++[x]) a) b;split
  .exact dc_ a b o
  .exact dc_ a b _
theorem im10 {A B:List Nat} {x:Nat} (h:x∉A):(A++x::B).idxOf x=A.length:=by rw[List.idxOf_append,zK h,List.idxOf_cons_self,yS]
theorem rm_ {n x:Nat} {ks:List Nat}:x∈r13 n ks↔x<n∧x∉ks:=by unfold r13;rw[yP,xF];simp
theorem ks10 {α:Type}:∀(m:List Bool) (l:List α),(k11 m l).Sublist l
 | true::m,x::l=>by unfold k11;exact (ks10 m l).cons_cons x
 | false::m,x::l=>by unfold k11;exact (ks10 m l).cons x
 | [],l=>by simp [k11]
 | b::m,[]=>by cases b <;> simp [k11]
theorem km_ {α β:Type} (f:α->β):∀(m:List Bool) (l:List α),k11 m (l.map f)=(k11 m l).map f
 | true::m,x::l=>by simp [k11,km_ f m l]
 | false::m,x::l=>by simp [k11,km_ f m l]
 | [],l=>by simp [k11]
 | b::m,[]=>by cases b <;> simp [k11]
theorem ni_ (l:List Str):allI (n18 l) l=true↔(∀s∈l,n12 s=true)∧l.Nodup:=by
 rw[at10];unfold n18;simp only[zJ,yX,wU,zB];constructor
 .intro h;refine⟨λs hs=>?_,?_⟩
  .obtain⟨i,hi⟩:=zM hs;exact (h i s hi).1
  .show List.Pairwise (·≠·) l;rw[wO];intro i j hi hj hij e;have h1:=zU hj;have h2:=(h j _ h1).2 l[i] (zG (i:=i) (by rw[yN,zY hij,zU hi]));exact h2 e
 .rintro⟨h1,h2⟩ i s hs;refine⟨h1 s (zG hs),λx hx e=>?_⟩;subst e;obtain⟨k,hk⟩:=zM hx;rw[yN] at hk;split at hk
  .rename_i hki;obtain⟨q1,q2⟩:=zX.1 hs;obtain⟨q3,q4⟩:=zX.1 hk;have h2:List.Pairwise (·≠·) l:=h2;rw[wO] at h2;exact h2 k i q3 q1 hki (by rw[q2,q4])
  .cases hk
theorem nk10 {m:List Bool} {l:List Str} (h:allI (n18 l) l=true):allI (n18 (k11 m l)) (k11 m l)=true:=by rw[ni_] at h ⊢;exact⟨λs hs=>h.1 s ((ks10 m l).subset hs),(ks10 m l).nodup h.2⟩
theorem st_ {q:QeaT}:∀(l:List TransT) (i:Nat) {a b:Int},0<=a->a<=q.nodes.length->allS (s26 q) l i a=(true,b)->∀x∈segs l a,t15 q x.1 x.2=(endT x.1 x.2,true)
 | [],_,_,_,_,_,_ =>λx hx=>by cases hx
 | t::r,i,a,b,h0,h1,h=>by
  unfold allS at h;split at h
  .rename_i ht;have hk:=to10 (q:=q) (t:=t) (b:=(t15 q t a).1) h0 h1 (Prod.ext rfl ht);have hE:=hk.he;have hle:=hk.hle;have hub:=hk.hub;rw[hE] at hle hub;have e:(s26 q a i t).2=endT t a:=hE;rw[e] at h;intro x hx;rcases yV.1 hx with rfl | hx
   .exact Prod.ext hE ht
   .exact st_ r (i+1) (by omega) hub h x hx
  .cases h
theorem ta37 {on:Int->Bool} {nw:Int->Int} {ns:List NodeT}:∀(l:List (TransT×Int)) (acc:List NodeT×List TransT),∃r1 r2,l.foldl (t12 on nw ns) acc=(acc.1++r1,acc.2++r2)
 | [],acc=>⟨[],[],by simp⟩
 | x::l,acc=>by
  obtain⟨r1,r2,h⟩:=ta37 (on:=on) (nw:=nw) (ns:=ns) l (t12 on nw ns acc x);rw[zO,h];unfold t12;split
  .exact⟨_,_,Prod.ext (xL _ _ _) (xL _ _ _)⟩
  .exact⟨r1,r2,rfl⟩
theorem ml10 {α:Type} {l:List α} {a b:Int} (h0:0<=a) (h1:a<=b) (h2:b<=l.length):((mid l a b).length:Int)=b - a:=by unfold mid;rw[xG,wN];omega
theorem to16 {q q':QeaT} {on:Int->Bool} {nw:Int->Int} (hqu:q'.quants=q.quants) (hfr:q'.frees=q.frees) (hst:q'.symbols=q.symbols)
  (hnw:∀s,0<=s->s<(q.states.length:Int)->on s=true->0<=nw s∧nw s<(q'.states.length:Int)):
  ∀(l:List TransT) (i:Nat) {a:Int} (acc:List NodeT×List TransT),0<=a->a<=q.nodes.length->(acc.1.length:Int)<=a->
   (∀x∈segs l a,0<=x.2∧TIn q x.1 x.2 (endT x.1 x.2)∧t15 q x.1 x.2=(endT x.1 x.2,true))->(∀t∈l,on t.from_=true->on t.to_=true)->
   q'.nodes=((segs l a).foldl (t12 on nw q.nodes) acc).1->
   allS (s26 q') (((segs l a).foldl (t12 on nw q.nodes) acc).2.drop acc.2.length) i (acc.1.length:Int)=(true,((((segs l a).foldl (t12 on nw q.nodes) acc).1.length:Nat):Int))
 | [],i,a,acc,_,_,_,_,_,_ =>by simp [segs,allS]
 | t::r,i,a,acc,h0,h1,hle,h,hcl,hn=>by
  obtain⟨_,hk,htr⟩:=h (t,a) zD;have hk:TIn q t a (endT t a):=hk;have htr:t15 q t a=(endT t a,true):=htr;have hr:∀x∈segs r (endT t a),0<=x.2∧TIn q x.1 x.2 (endT x.1 x.2)∧t15 q x.1 x.2=(endT x.1 x.2,true):=λx hx=>h x (zR _ hx);have hcr:∀t∈r,on t.from_=true->on t.to_=true:=λx hx=>hcl x (zR _ hx);have k1:=hk.hle;have k2:=hk.hub;have hseg:segs (t::r) a=(t,a)::segs r (endT t a):=rfl;rw[hseg,zO] at hn ⊢;by_cases hon:on t.from_=true
  .have hml:=ml10 (l:=q.nodes) h0 k1 k2;have e:t12 on nw q.nodes acc (t,a)=(acc.1++(mid q.nodes a (endT t a)).map (m10 (a - acc.1.length)),acc.2++[⟨nw t.from_,t.symbol,nw t.to_,if t.guard= -1 then -1 else t.guard - (a - acc.1.length),t.sets.map (movS (a - acc.1.length))⟩]):=by
    unfold t12;simp only;rw[zY hon];rfl
   rw[e] at hn ⊢;have ih:=to16 (q:=q) (q':=q') (nw:=nw) hqu hfr hst hnw r (i+1) (a:=endT t a) (acc.1++(mid q.nodes a (endT t a)).map (m10 (a - acc.1.length)),acc.2++[⟨nw t.from_,t.symbol,nw t.to_,if t.guard= -1 then -1 else t.guard - (a - acc.1.length),t.sets.map (movS (a - acc.1.length))⟩]) (by omega) k2 (by simp only[zL,zQ];omega) hr hcr hn;obtain⟨r1,r2,hF⟩:=ta37 (on:=on) (nw:=nw) (ns:=q.nodes) (segs r (endT t a)) (acc.1++(mid q.nodes a (endT t a)).map (m10 (a - acc.1.length)),acc.2++[⟨nw t.from_,t.symbol,nw t.to_,if t.guard= -1 then -1 else t.guard - (a - acc.1.length),t.sets.map (movS (a - acc.1.length))⟩]);rw[hF] at hn ih ⊢;simp only at hn ih ⊢;have hd:(acc.2++[(⟨nw t.from_,t.symbol,nw t.to_,if t.guard= -1 then -1 else t.guard - (a - acc.1.length),t.sets.map (movS (a - acc.1.length))⟩:TransT)]++r2).drop acc.2.length=⟨nw t.from_,t.symbol,nw t.to_,if t.guard= -1 then -1 else t.guard - (a - acc.1.length),t.sets.map (movS (a - acc.1.length))⟩::r2:=by rw[xL,tP];rfl
   have hd2:(acc.2++[(⟨nw t.from_,t.symbol,nw t.to_,if t.guard= -1 then -1 else t.guard - (a - acc.1.length),t.sets.map (movS (a - acc.1.length))⟩:TransT)]++r2).drop (acc.2++[(⟨nw t.from_,t.symbol,nw t.to_,if t.guard= -1 then -1 else t.guard - (a - acc.1.length),t.sets.map (movS (a - acc.1.length))⟩:TransT)]).length=r2:=tP;rw[hd2,show (acc.1++(mid q.nodes a (endT t a)).map (m10 (a - acc.1.length))).length=acc.1.length+(mid q.nodes a (endT t a)).length by rw[zL,zQ]] at ih;rw[hd];have hb:Blk q q' acc.1.length (a - acc.1.length).toNat (endT t a - a).toNat:=by
    refine⟨hqu,hfr,hst,?_,by omega,λj hj=>?_⟩
    .rw[hn,zL,zL,zQ];omega
    .rw[hn,xL,xV (by omega),uK,xJ (by rw[zQ];omega),zS];have e2:acc.1.length+(a - acc.1.length).toNat+j=a.toNat+j:=by omega
     have e3:(((a - acc.1.length).toNat:Nat):Int)=a - acc.1.length:=by omega
     rw[e2,e3];unfold mid;rw[yN,zY (by omega),xX]
   have f1:=hnw _ hk.hf.1 hk.hf.2 hon;have f2:=hnw _ hk.ht.1 hk.ht.2 (hcl t zD hon);have e4:((acc.1.length+(a - acc.1.length).toNat:Nat):Int)=a:=by omega
   have e5:((acc.1.length+(a - acc.1.length).toNat+(endT t a - a).toNat:Nat):Int)=endT t a:=by omega
   have e6:(((a - acc.1.length).toNat:Nat):Int)=a - acc.1.length:=by omega
   have hm:=tm12 hb f1 f2 (t:=t) (by rw[e4,e5];exact htr);rw[e6] at hm;unfold allS;have e7:((acc.1.length+(endT t a - a).toNat:Nat):Int)=((acc.1.length+(mid q.nodes a (endT t a)).length:Nat):Int):=by omega
   rw[e7] at hm;unfold s26 at ih ⊢;simp only at ih ⊢;rw[hm];simp only[xW];exact ih
  .have e:t12 on nw q.nodes acc (t,a)=acc:=by unfold t12;rw[zK hon]
   rw[e] at hn ⊢;exact to16 hqu hfr hst hnw r i acc (by omega) k2 (by omega) hr hcr hn
def onM (m:List Bool) (s:Int):Bool:=m[s.toNat]? ==some true
def nwM (m:List Bool) (s:Int):Int:=nwQ m s.toNat
def cutQ (q:QeaT):QeaT:={q with states:=k11 (m_ q) q.states,start:=nwM (m_ q) q.start,nodes:=((segs q.trans 0).foldl (t12 (onM (m_ q)) (nwM (m_ q)) q.nodes) ([],[])).1,trans:=((segs q.trans 0).foldl (t12 (onM (m_ q)) (nwM (m_ q)) q.nodes) ([],[])).2}
theorem sm13:∀(l:List TransT) (a:Int) (t:TransT),t∈l->∃x∈segs l a,x.1=t
 | u::l,a,t,h=>by
  rcases yV.1 h with rfl | h
  .exact⟨_,zD,rfl⟩
  .obtain⟨x,hx,e⟩:=sm13 l (endT u a) t h;exact⟨x,zR _ hx,e⟩
theorem mm10 {q:QeaT} (hy:q.symbols.Nodup) {a:List Nat} (ha:∀x∈a,x<q.symbols.length) {k:Nat} (hk:k<q.symbols.length):symD q k∈a.map (symD q)↔k∈a:=by
 constructor
 .intro h;obtain⟨x,hx,e⟩:=zI.1 h;have hxl:=ha x hx;unfold symD at e;rw[zU hxl,zU hk] at e;have h1:=wZ hy x hxl;have h2:=wZ hy k hk;have e2:q.symbols[x]=q.symbols[k]:=e;rw[e2,h2] at h1;rw[h1];exact hx
 .exact λh=>zI.2 ⟨k,h,rfl⟩
theorem pm15 {q:QeaT} (hy:q.symbols.Nodup) {a:List Nat} (ha:∀x∈a,x<q.symbols.length) {k:Nat} (hk:k<q.symbols.length):putY (a.map (symD q)) (symD q k)=(dd a [k]).map (symD q):=by
 unfold putY;show _ =(if k∈a then dd a [] else dd (a++[k]) []).map (symD q);by_cases h:k∈a
 .rw[zY ((mm10 hy ha hk).2 h),zY h];rfl
 .rw[zK (λe=>h ((mm10 hy ha hk).1 e)),zK h];show _ =(a++[k]).map (symD q);rw[zE];rfl
theorem pa11 {q:QeaT} (hy:q.symbols.Nodup):∀(l:List Nat) (a:List Nat),(∀x∈a,x<q.symbols.length)->(∀x∈l,x<q.symbols.length)->(l.map (symD q)).foldl putY (a.map (symD q))=(dd a l).map (symD q)
 | [],a,_,_ =>rfl
 | k::l,a,ha,hl=>by
  have hk:=hl k zD;rw[yJ,zO,pm15 hy ha hk];have e:dd a (k::l)=dd (dd a [k]) l:=dc_ [k] l a;rw[e];refine pa11 hy l _ (λx hx=>?_) λx hx=>hl x (zR _ hx);rcases (dm_ _ _ _).1 hx with h | h
  .exact ha x h
  .rw[yZ.1 h];exact hk
theorem ds12:∀(a o:List Nat),(o++a).Nodup->dd o a=o++a
 | [],o,_ =>(xT o).symm
 | x::a,o,h=>by
  have hx:x∉o:=λe=>by have:=(xD.1 h).2.2 x e x zD;exact this rfl
  show (if x∈o then dd o a else dd (o++[x]) a)=_;rw[zK hx,ds12 a (o++[x]) (by rw[xL];exact h),xL];rfl
theorem im_ {q:QeaT} (hy:q.symbols.Nodup):∀{a:List Nat},(∀x∈a,x<q.symbols.length)->∀{k:Nat},k<q.symbols.length->(a.map (symD q)).idxOf (symD q k)=a.idxOf k
 | [],_,_,_ =>rfl
 | x::a,ha,k,hk=>by
  rw[yJ,List.idxOf_cons,List.idxOf_cons,im_ hy (λy hy=>ha y (zR _ hy)) hk];have h1:=mm10 hy (a:=[x]) (λy h=>ha y (by rw[yZ.1 h];exact zD)) hk;simp only[yJ,yU,yZ] at h1;by_cases e:k=x
  .subst e;simp
  .have e2:symD q x≠symD q k:=λh=>e (h1.1 h.symm);have e3:(x==k)=false:=by simp;exact λh=>e h.symm
   have e4:(symD q x==symD q k)=false:=by simpa using e2
   rw[e3,e4]
theorem di_ {a:List Nat} {k:Nat} (r:List Nat):(dd a (k::r)).idxOf k=a.idxOf k:=by
 by_cases h:k∈a
 .obtain⟨t,ht⟩:=da11 (k::r) a;rw[ht,List.idxOf_append,zY h]
 .show (if k∈a then dd a r else dd (a++[k]) r).idxOf k=_;rw[zK h];obtain⟨t,ht⟩:=da11 r (a++[k]);rw[ht,xL];show (a++k::t).idxOf k=_;rw[im10 h,List.idxOf_eq_length h]
theorem sa20 {q:QeaT} {t:TransT} (h:0<=t.symbol∧t.symbol<q.symbols.length):symG q t.symbol=symD q t.symbol.toNat:=by
 obtain⟨k,hk⟩:=zA h.1;unfold symG symD;have e:at? q.symbols (k:Int)=q.symbols[k]? :=by unfold at?;rw[zY (vU k),zP]
 rw[hk,zP,e];cases q.symbols[k]? <;> rfl
theorem sf10 {q:QeaT} (hy:q.symbols.Nodup) {ix:Int->Nat} {on:Int->Bool} {nw:Int->Int} {P:List Nat}:∀(K:List (TransT×Int)) (a:List Nat) (ns:List NodeT) (ts:List TransT),(∀x∈a,x<q.symbols.length)->
  (∀x∈K,(0<=x.1.symbol∧x.1.symbol<q.symbols.length)∧0<=x.2∧on x.1.from_=true∧nw x.1.from_=(ix x.1.from_:Int)∧nw x.1.to_=(ix x.1.to_:Int))->dd a (K.map λx=>x.1.symbol.toNat)=P->
  K.foldl (s17 q ix) (a.map (symD q),ns,ts.map (reT P))=(P.map (symD q),(K.foldl (t12 on nw q.nodes) (ns,ts)).1,(K.foldl (t12 on nw q.nodes) (ns,ts)).2.map (reT P))
 | [],a,ns,ts,_,_,hP=>by have hP:a=P:=hP;subst hP;rfl
 | (t,b)::K,a,ns,ts,ha,h,hP=>by
  obtain⟨hs,hb,ho,h1,h2⟩:=h _ zD;dsimp only at hs hb ho h1 h2;obtain⟨k,hk⟩:=zA hs.1;have hkl:k<q.symbols.length:=by omega
  have hP0:dd a (k::K.map λx=>x.1.symbol.toNat)=P:=by rw[<-hP,yJ];simp [hk]
  have hP1:dd (dd a [k]) (K.map λx=>x.1.symbol.toNat)=P:=by rw[<-hP0];exact (dc_ [k] _ a).symm
  have hidx:(a.map (symD q)).idxOf (symD q k)=P.idxOf k:=by rw[im_ hy ha hkl,<-hP0,di_]
  have e1:t12 on nw q.nodes (ns,ts) (t,b)=(ns++(mid q.nodes b (endT t b)).map (m10 (b - ns.length)),ts++[⟨nw t.from_,t.symbol,nw t.to_,if t.guard= -1 then -1 else t.guard - (b - ns.length),t.sets.map λs=>⟨s.free,s.expr - (b - ns.length)⟩⟩]):=by unfold t12;rw[zY ho]
  have e2:s17 q ix (a.map (symD q),ns,ts.map (reT P)) (t,b)=((dd a [k]).map (symD q),ns++(mid q.nodes b (endT t b)).map (m10 (b - ns.length)),(ts++[(⟨nw t.from_,t.symbol,nw t.to_,if t.guard= -1 then -1 else t.guard - (b - ns.length),t.sets.map λs=>⟨s.free,s.expr - (b - ns.length)⟩⟩:TransT)]).map (reT P)):=by unfold s17;dsimp only;rw[sa20 hs,hk,zP,pm15 hy ha hkl,zE,uY];unfold trN nsK reT;dsimp only;rw[hidx,h1,h2,zP,Int.toNat_of_nonneg hb];rfl
  rw[zO,zO,e1,e2];refine sf10 hy K (dd a [k]) _ _ (λx hx=>?_) (λx hx=>h x (zR _ hx)) hP1;rcases (dm_ _ _ _).1 hx with h | h
  .exact ha x h
  .rw[yZ.1 h];exact hkl
theorem tf_ {on:Int->Bool} {nw:Int->Int} {ns:List NodeT}:∀(l:List (TransT×Int)) (acc:List NodeT×List TransT),l.foldl (t12 on nw ns) acc=(l.filter λx=>on x.1.from_).foldl (t12 on nw ns) acc
 | [],_ =>rfl
 | x::l,acc=>by
  rw[zO,uI];cases h:on x.1.from_ with
  | true=>rw[zY rfl,zO];exact tf_ l _
  | false=>
   rw[zK (by simp),show t12 on nw ns acc x=acc by unfold t12;rw[zK (by rw[h];simp)]];exact tf_ l acc
theorem dd_:∀(r o p:List Nat),(∀x∈r,x∉o)->dd (o++p) r=o++dd p r
 | [],o,p,_ =>rfl
 | x::r,o,p,h=>by
  have hx:=h x zD;have hr:∀y∈r,y∉o:=λy hy=>h y (zR _ hy);unfold dd;by_cases hp:x∈p
  .rw[zY hp,zY (List.mem_append_right _ hp)];exact dd_ r o p hr
  .rw[zK hp,zK (λhh=>(yB.1 hh).elim hx hp),xL];exact dd_ r o (p++[x]) hr
def g10 (ks o:List Nat) (x:Nat):List Nat:=if x∈ks∨x∈o then o else o++[x]
theorem ga_ {α:Type} (f:α->Nat) (g:α->Bool) (ks:List Nat):∀(l:List α) (o:List Nat),(∀x∈l,g x=false->f x∈ks)->
  (dd o (l.map f)).filter (λx=>decide (x∉ks))=((l.filter g).map f).foldl (g10 ks) (o.filter λx=>decide (x∉ks))
 | [],o,_ =>rfl
 | x::l,o,h=>by
  have hl:∀y∈l,g y=false->f y∈ks:=λy hy=>h y (zR _ hy);rw[yJ];unfold dd;have hnk:f x∈ks->(o++[f x]).filter (λx=>decide (x∉ks))=o.filter λx=>decide (x∉ks):=λhk=>by rw[vP];simp [hk]
  cases hg:g x with
  | false=>
   have hk:=h x zD hg;rw[List.filter_cons_of_neg (by simp [hg])];split
   .exact ga_ f g ks l o hl
   .rw[ga_ f g ks l (o++[f x]) hl,hnk hk]
  | true=>
   rw[List.filter_cons_of_pos hg,yJ,zO];by_cases hk:f x∈ks
   .rw[show g10 ks (o.filter λx=>decide (x∉ks)) (f x)=o.filter λx=>decide (x∉ks) from zY (.inl hk)];split
    .exact ga_ f g ks l o hl
    .rw[ga_ f g ks l (o++[f x]) hl,hnk hk]
   .by_cases ho:f x∈o
    .rw[zY ho,show g10 ks (o.filter λx=>decide (x∉ks)) (f x)=o.filter λx=>decide (x∉ks) from zY (.inr (yP.2 ⟨ho,by simp [hk]⟩))];exact ga_ f g ks l o hl
    .rw[zK ho,ga_ f g ks l (o++[f x]) hl];congr 1;rw[show g10 ks (o.filter λx=>decide (x∉ks)) (f x)=(o.filter λx=>decide (x∉ks))++[f x] from zK (λhh=>hh.elim hk λh9=>ho (yP.1 h9).1),vP];simp [hk]
theorem gp10 {α:Type} {f:α->Nat} {g:α->Bool} {n:Nat} {l:List α} (hd:dd [] (l.map f)=List.range' (n - (dd [] (l.map f)).length) (dd [] (l.map f)).length) (hn:(dd [] (l.map f)).length<=n):
  ((l.filter g).map f).foldl (g10 ((l.filter λx=>!g x).map f)) (List.range (n - (dd [] (l.map f)).length))=(List.range n).filter λx=>decide (x∉(l.filter λx=>!g x).map f):=by
 generalize hks:(l.filter λx=>!g x).map f=ks;have hm:∀x,x∈l.map f->n - (dd [] (l.map f)).length<=x:=λx hx=>by have h1:=(dm_ (l.map f) [] x).2 (.inr hx);rw[hd] at h1;exact (List.mem_range'_1.1 h1).1
 have hk:∀x∈ks,x∈l.map f:=λx hx=>by rw[<-hks] at hx;obtain⟨y,hy,rfl⟩:=zI.1 hx;exact List.mem_map_of_mem (yP.1 hy).1
 have h:=ga_ f g ks l (List.range (n - (dd [] (l.map f)).length)) λx hx hg=>by rw[<-hks];exact List.mem_map_of_mem (yP.2 ⟨hx,by simp [hg]⟩)
 have e1:(List.range (n - (dd [] (l.map f)).length)).filter (λx=>decide (x∉ks))=List.range (n - (dd [] (l.map f)).length):=by rw[List.filter_eq_self];intro x hx;have hx:=xF.1 hx;simp only[zW];exact λhh=>by have:=hm x (hk x hh);omega
 have e2:dd (List.range (n - (dd [] (l.map f)).length)) (l.map f)=List.range n:=by
  have:=dd_ (l.map f) (List.range (n - (dd [] (l.map f)).length)) [] λx hx hh=>by have:=xF.1 hh;have:=hm x hx;omega
  rw[xT] at this;rw[this];generalize (dd [] (l.map f)).length=k at*;rw[hd,List.range_eq_range',List.range_eq_range'];have e3:List.range' 0 n=List.range' 0 (n - k)++List.range' (0+1*(n - k)) k:=by rw[List.range'_append,Nat.sub_add_cancel hn]
  rw[e3];simp
 rw[e1,e2] at h;exact h.symm
def segK (q:QeaT):List (TransT×Int):=(segs q.trans 0).filter λx=>onM (m_ q) x.1.from_
def ksQ (q:QeaT):List Nat:=(segK q).map λx=>x.1.symbol.toNat
def ownS (q:QeaT):List SymT:=(r13 q.symbols.length (ksQ q)).map (symD q)
def ixQ (q:QeaT) (s:Int):Nat:=nu (m_ q) s.toNat
theorem ts13 {on:Int->Bool} {nw:Int->Int} {ns:List NodeT}:∀(l:List (TransT×Int)) (acc:List NodeT×List TransT),(∀x∈l,on x.1.from_=true)->symN (l.foldl (t12 on nw ns) acc).2=symN acc.2++l.map λx=>x.1.symbol.toNat
 | [],acc,_ =>(xT _).symm
 | x::l,acc,h=>by rw[zO,ts13 l _ λy hy=>h y (zR _ hy)];unfold t12;rw[zY (h x zD)];simp [symN]
theorem cs18 (q:QeaT):symN (cutQ q).trans=ksQ q:=by show symN ((segs q.trans 0).foldl (t12 (onM (m_ q)) (nwM (m_ q)) q.nodes) ([],[])).2=_;rw[tf_,ts13 _ _ λx hx=>(yP.1 hx).2];rfl
theorem rn12 (n:Nat) (ks:List Nat):(r13 n ks).Nodup:=tT List.filter_sublist List.nodup_range
theorem of10 {q:QeaT} (hy:q.symbols.Nodup):(ownS q).foldl putY []=ownS q:=by have h:=pa11 hy (r13 q.symbols.length (ksQ q)) [] (λx hx=>by cases hx) λx hx=>(rm_.1 hx).1;rw[ds12 _ _ (rn12 _ _)] at h;exact h
theorem mi12 {q:QeaT} (hy:q.symbols.Nodup) (hk:∀x∈segK q,(0<=x.1.symbol∧x.1.symbol<q.symbols.length)∧0<=x.2∧(m_ q)[x.1.from_.toNat]?=some true∧(m_ q)[x.1.to_.toNat]?=some true)
  (hs:(m_ q)[q.start.toNat]?=some true):m17 q (k11 (m_ q) q.states) (ixQ q q.start) (ownS q) (ixQ q) (segK q)=ordQ (cutQ q):=by
 have e:dd (r13 q.symbols.length (ksQ q)) (ksQ q)=perm q.symbols.length (ksQ q):=by have:=dd_ (ksQ q) (r13 q.symbols.length (ksQ q)) [] λx hx h=>(rm_.1 h).2 hx;rw[xT] at this;exact this
 have hn:∀s,(m_ q)[s]?=some true->nwQ (m_ q) s=(nu (m_ q) s:Int):=λs h=>by unfold nwQ;rw[zY h]
 have h:=sf10 hy (ix:=ixQ q) (on:=onM (m_ q)) (nw:=nwM (m_ q)) (segK q) (r13 q.symbols.length (ksQ q)) [] [] (λx hx=>(rm_.1 hx).1) (λx hx=>⟨(hk x hx).1,(hk x hx).2.1,(yP.1 hx).2,hn _ (hk x hx).2.2.1,hn _ (hk x hx).2.2.2⟩) e;unfold m17;rw[of10 hy];rw[yU] at h;show (⟨q.name,q.decls,q.quants,q.frees,_,_,((segK q).foldl (s17 q (ixQ q)) ((r13 q.symbols.length (ksQ q)).map (symD q),[],[])).1,_,_⟩:QeaT)=_;have h2:(segK q).foldl (s17 q (ixQ q)) (ownS q,[],[])=_ :=h;rw[h2,h];unfold ordQ;rw[cs18];unfold cutQ;simp only[segK,<-tf_,nwM,hn _ hs];rfl
theorem na_ {α β:Type} [DecidableEq β] {f:α->β} {l:List α} (h:(l.map f).Nodup) {i j:Nat} {x y:α} (hx:l[i]?=some x) (hy:l[j]?=some y) (e:f x=f y):i=j:=by obtain⟨hi,e1⟩:=zX.1 hx;obtain⟨hj,e2⟩:=zX.1 hy;have h1:=wZ h i (by simpa using hi);have h2:=wZ h j (by simpa using hj);simp only[uA,e1,e2] at h1 h2;rw[e,h2] at h1;exact h1.symm
theorem ai_ {q:QeaT} (hv:q.vars.Nodup) {a b:ArgT} {k l:Int} (ha:argS q a k=true) (hb:argS q b l=true) (e:argT q a=argT q b):a=b:=by
 have hq:(q.quants.map (·.name)).Nodup:=(xD.1 hv).1;have hf:(q.frees.map (·.name)).Nodup:=(xD.1 hv).2.1;have hd:=(xD.1 hv).2.2;have cases4:∀{a:ArgT} {k:Int},argS q a k=true->(a.kind=1∧a.n=0∧argT q a=⟨1,[],a.value⟩)∨(∃i y,a.kind=2∧a.n=(i:Nat)∧q.quants[i]?=some y∧a.value=v0∧argT q a=⟨2,y.name,v0⟩)∨(∃i y,a.kind=3∧a.n=(i:Nat)∧q.frees[i]?=some y∧a.value=v0∧argT q a=⟨2,y.name,v0⟩)∨(a.kind=4∧a.n=0∧a.value=v0∧argT q a=⟨3,[],v0⟩):=by
  intro a k h;unfold argS at h;by_cases h1:a.kind=1
  .rw[zY h1] at h;simp only[zJ,zB] at h;exact .inl ⟨h1,h.1,by unfold argT;rw[zY h1]⟩
  .rw[zK h1] at h;by_cases h2:a.kind=2
   .rw[zY h2] at h;cases hx:at? q.quants a.n with
    | none=>rw[hx] at h;cases h
    | some y=>
     rw[hx] at h;simp only[zJ,zB,zW] at h;obtain⟨i,hi,hy⟩:=at?_some hx;exact .inr (.inl ⟨i,y,h2,hi,hy,h.2,by unfold argT;rw[zK h1,zY h2,hx]⟩)
   .rw[zK h2] at h;by_cases h3:a.kind=3
    .rw[zY h3] at h;cases hx:at? q.frees a.n with
     | none=>rw[hx] at h;cases h
     | some y=>
      rw[hx] at h;simp only[zJ,zB,zW] at h;obtain⟨i,hi,hy⟩:=at?_some hx;exact .inr (.inr (.inl ⟨i,y,h3,hi,hy,h.2,by unfold argT;rw[zK h1,zK h2,zY h3,hx]⟩))
    .rw[zK h3] at h;simp only[zJ,zB,zW] at h;exact .inr (.inr (.inr ⟨h.1,h.2.1,h.2.2,by unfold argT;rw[zK h1,zK h2,zK h3]⟩))
 obtain⟨ak,an,av⟩:=a;obtain⟨bk,bn,bv⟩:=b;rcases cases4 ha with ⟨a1,a2,a3⟩ | ⟨i,y,a1,a2,a3,a4,a5⟩ | ⟨i,y,a1,a2,a3,a4,a5⟩ | ⟨a1,a2,a3,a4⟩ <;> rcases cases4 hb with ⟨b1,b2,b3⟩ | ⟨j,z,b1,b2,b3,b4,b5⟩ | ⟨j,z,b1,b2,b3,b4,b5⟩ | ⟨b1,b2,b3,b4⟩ <;> simp_all
 .have h:=na_ hq a3 b3 (by first | assumption | exact e);omega
 .exact hd _ (zG a3) _ (zG b3) (by first | assumption | exact e)
 .exact hd _ (zG b3) _ (zG a3) (by first | assumption | exact e.symm | exact Eq.symm (by assumption))
 .have h:=na_ hf a3 b3 (by first | assumption | exact e);omega
theorem si12 {q:QeaT} (hv:q.vars.Nodup) (hd:(q.decls.map (·.name)).Nodup) {s t:SymT} (hs:symS q s=true) (ht:symS q t=true) (e:symT q s=symT q t):s=t:=by
 obtain⟨i,d,s1,s2,s3,s4⟩:=sa10 hs;obtain⟨j,c,t1,t2,t3,t4⟩:=sa10 ht;unfold symT d15 at e;rw[s1,t1,at?_nat s2,at?_nat t2,TSymT.mk.injEq] at e;have hij:=na_ hd s2 t2 e.1;subst hij;rw[s2] at t2;cases t2;have ha:s.args=t.args:=by
  have hl:s.args.length=t.args.length:=by rw[<-s3,<-t3]
  refine vW hl λk h1 h2=>?_;have hk:=s4 k _ _ (zU h1) (zU (show k<d.types.length by omega));have hk2:=t4 k _ _ (zU h2) (zU (show k<d.types.length by omega));refine ai_ hv hk hk2 ?_;have:=tM (λl=>l[k]?) e.2;simpa [h1,h2] using this
 obtain⟨a,b⟩:=s;obtain⟨a',b'⟩:=t;simp_all
