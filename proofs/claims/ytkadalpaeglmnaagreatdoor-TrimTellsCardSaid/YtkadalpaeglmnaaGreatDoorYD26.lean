/-
  Lemmas. No claim is proved here.
-/
import Derived.Test.YtkadalpaeglmnaaGreatDoorYTr6
import Derived.Deep.Cut
set_option linter.unusedSimpArgs false
set_option maxHeartbeats 4000000
set_option maxRecDepth 100000
namespace Go.Proofs.YtkadalpaeglmnaaGreatDoor.Ab
open Go Go.RowKit
variable {G:Nat→Option AV}
theorem s111 (x:SetT) (v:NodeT):PQ G nc13 [setV x,.eptr (n11 v) 0] (.bool (x.free==v.a)):=by
 refine pc11 fun Φ h=>?_;unfold cc17;obtain⟨x1,x2⟩:=x
 repeat' (first|simp -implicitDefEqProofs only[go_sem,setV,n11]|refine ag_ (fun hb=>?_) (fun hb=>?_)|refine⟨fun hb=>?_,fun hb=>?_⟩|fail)
 exact h _ ⟨_,_,rfl,rfl,.refl _⟩
theorem sh11 (q:QeaT) (hv:q.vars.Nodup) (hq:q.nodes.length≤1000) (sl:List StateT) (st:Int) (ys:List SymT) (ts:List TransT) (A:Nat) (N0:List NodeT) (hn0:N0.length≤1000) (s:SymT) (hsl:s.args.length≤1000) (L:List TExT) (M:Nat) (_hAM:A+M≤q.nodes.length)
  (hok:∀i,i<M→∃x e,NdAt q A s i x e∧L[i]? =some (n14 q A x)) (l:List SetT) (hll:l.length≤1000) (j0 j1:Nat) (hs:SetsOk q [] ((A+j0:Nat):Int) l) (hj1:((A+j1:Nat):Int)=endS l ((A+j0:Nat):Int)) (hM:j1≤M):
  HQ G nc20 [.ref 1001 0 0,.ref 1012 0 0,t19 (l.map (setT q (A:Int)))] (HBd q sl st ys ts A N0 s L j0) (.tup [s14 (l.map (movS ((A:Int) - N0.length))),.nili]) (HBd q sl st ys ts A N0 s L j1):=by
 have hexpr:=fun r kd j0 h1 h2 h3 h4=>eh_ (G:=G) q hv hq sl st ys ts A N0 hn0 s hsl L r kd j0 h1 h2 h3 h4;have hend:∀(l:List SetT) (o:List Int) (a:Int),0≤a→a≤q.nodes.length→SetsOk q o a l→a≤endS l a:=fun l o a h0 h1 h=>(sb_ l o h0 h1 h).h1;refine hc16 fun Φ h=>?_;unfold cc19;unfold HBd ckB ckC bodE at*;simp only[t30,a_] at*;simp -implicitDefEqProofs only[go_sem,t19,zX]
 refine al_ (fun n st'=>∃(i j:Nat),i+n=l.length∧st'=⟨73,[(0,.ref 1001 0 0),(1,.ref 1012 0 0),(8,.arr 8 0 i),(14,.seq 4 ((l.map (setT q (A:Int))).map t36)),(15,iv l.length),(16,iv i)],
  [(6,⟨true,ta19,2,[]⟩),(8,⟨true,ta19,2,((l.take i).map (movS ((A:Int) - N0.length))).map setV⟩),
   (1001,⟨false,tcc_,12,[.agg [.str q.name,.seq 2 (q.decls.map d11),.seq 3 (q.quants.map q11),.seq 5 (q.frees.map f10),.seq 3 (sl.map s13),iv st,.arr 1006 0 ys.length,.arr 1007 0 (N0.length+j),.arr 1008 0 ts.length,.mapc (e10 (dE q)),.mapc (e10 (vE q)),.mapc (e10 (sE sl))]]⟩),(1006,⟨true,taS_,2,ys.map symV⟩),(1007,⟨true,taN_,7,(nsK q A N0 j).map n11⟩),(1008,⟨true,taT_,5,ts.map t11⟩),
   (1012,⟨false,tcb_,6,[.agg [.seq 10 (L.map tExV),iv s.event,.seq 6 (s.args.map argV),iv N0.length,iv j,.arr 1013 0 j]]⟩),(1013,⟨true,ti_,1,(ksK q A j).map iv⟩)]⟩∧
  SetsOk q ((l.take i).map (·.free)) ((A+j:Nat):Int) (l.drop i)∧endS (l.drop i) ((A+j:Nat):Int)=((A+j1:Nat):Int)) l.length ⟨0,j0,by simp,rfl,hs,hj1.symm⟩ ?_
 rintro I hI n st' ⟨i,j,hi,rfl,hS,hE⟩;simp -implicitDefEqProofs only[go_sem];refine⟨fun hlt=>?_,fun hge=>?_⟩
 ·have hlt':i<l.length:=by omega
  obtain⟨x,hx,hxm⟩:=as10 hlt';have hw:=ws_ hlt' (by omega);rw[d16 hx] at hS hE;cases hS with
  | cons f hf hn hwh hS=>
   obtain⟨k,hk,hfk⟩:=at?_some hf;obtain⟨ri,e,hri,hre,hek,hek0,hef,haj,hed⟩:=we_ hwh;have hrl:=ex_lt hre;rw[ec11] at hE;obtain⟨r,rfl⟩:∃r,ri=A+r:=⟨ri - A,by omega⟩;have hle:=hend _ _ _ (by omega) (by rw[hri];omega) hS;have hrM:r<M:=by omega
   have hc:=hexpr r f.init.kind j (by omega) (by omega) (fun i hi=>hok i (by omega)) ⟨e,hre,hek⟩;have hm:=ff_ hv hfk;have hkd:=kfp_ (G:=G) q sl st (.seq 2 (ys.map symV)) (.seq 7 ((nsK q A N0 j).map n11)) (.seq 5 (ts.map t11)) hfk 0 v0;have hct:=sC11 (G:=G) nc13 [.eptr (n11 ⟨3,(k:Int),0,v0⟩) 0] (by kernel_rfl) of_ (fun y=>y.free==(k:Int)) ((l.take i).map (movS ((A:Int) - N0.length))) (fun y _ =>s111 y ⟨3,(k:Int),0,v0⟩) (by simp;omega);have hany:(((l.take i).map (movS ((A:Int) - N0.length))).any fun y=>y.free==(k:Int))=false:=by
    rw[xR];intro y hy e;obtain⟨z,hz,rfl⟩:=zI.1 hy;have:z.free=(k:Int):=by simpa [movS] using e
    exact hn (zI.2 ⟨z,hz,by rw[this,hk]⟩)
   rw[hany] at hct;have e1:x.expr+1=((A+(r+1):Nat):Int):=by omega
   rw[e1] at hS hE;have hnx:=hI (n - 1) _ ⟨i+1,r+1,by omega,rfl,by rw[t33 hx,zR];exact hS,hE⟩;rw[t33 hx,zR,zR] at hnx;have hmv:movS ((A:Int) - N0.length) x=⟨(k:Int),(r:Int)+N0.length⟩:=by unfold movS;rw[hk];congr 1;omega
   simp only[yV,yF,hmv,setV] at hnx;have hxt:(l.map (setT q (A:Int)))[i]? =some ⟨f.name,(r:Int)⟩:=by rw[zT,hx,yW];unfold setT f16;rw[hf];congr 2;omega
   have hPl:((l.take i).map (movS ((A:Int) - N0.length))).length=i:=by simp;omega
   have hnl:=nl12 (q:=q) (A:=A) (j:=j) (N0:=N0) (by omega);have hkl:=kl12 q A j;have w1:IntKind.i64.wrap ((r:Int)+N0.length)=(r:Int)+N0.length:=wi_ (by omega) (by omega);have hb1:(i+1)*16≤140737488355328:=by omega
   have z3:((3:Int) != 3)=false:=rfl;generalize (l.take i).map (movS ((A:Int) - N0.length))=P at*;generalize l.map (setT q (A:Int))=LT at*;generalize nsK q A N0 j=NS at*;generalize ksK q A j=KS at*;generalize nsK q A N0 (r+1)=NS' at*;generalize ksK q A (r+1)=KS' at*;have tk1:(NS.map n11).take (N0.length+j)=NS.map n11:=by rw[←hnl];exact t25 _ _
   have tk2:(KS.map iv).take j=KS.map iv:=by rw[←hkl];exact t25 _ _
   have tkP:(P.map setV).take i=P.map setV:=by rw[←hPl];exact t25 _ _
   simp only[n11] at hct hkd hm;simp only[ckC,n11] at hkd;generalize e10 (dE q)=E1 at*;generalize e10 (vE q)=E2 at*;generalize e10 (sE sl)=E3 at*;clear hI h hok hexpr hend hS hE
   repeat' (first|simp -implicitDefEqProofs only[go_sem,am_ hxt,t36,hm,n11,hw,w1,hb1,hPl,z3,zX]|refine ag_ (fun hb=>?_) (fun hb=>?_)|refine⟨fun hb=>?_,fun hb=>?_⟩|(refine ac_ hct (by simp [v_,flat,flat.go,viewBs,viewB,viewK,viewK.go,hget,t25,tk1,tk2,tkP,hnl,hkl,hPl,n11]) rfl ?_)|(refine ac_ hkd (by simp [v_,flat,flat.go,viewBs,viewB,viewK,viewK.go,hget,t25,tk1,tk2,tkP,hnl,hkl,hPl,n11]) rfl ?_)|(refine ach_ [(1001,1001),(1006,1006),(1007,1007),(1008,1008),(1012,1012),(1013,1013)] hc rfl ⟨⟨_,_,rfl,rfl,rfl⟩,⟨_,_,rfl,rfl,rfl⟩,⟨_,_,rfl,rfl,rfl⟩,⟨_,_,rfl,rfl,rfl⟩,⟨_,_,rfl,rfl,rfl⟩,⟨_,_,rfl,rfl,rfl⟩,trivial⟩ rfl rfl rfl ?_)|fail)
   exact aa_ (n - 1) (by omega) hnx
 ·have:i=l.length:=by omega
  subst this;rw[tX] at hE;have hj:j=j1:=by have:((A+j:Nat):Int)=((A+j1:Nat):Int):=hE;omega
  subst hj;rw[xS]
  repeat' (first|simp -implicitDefEqProofs only[go_sem]|refine ag_ (fun hb=>?_) (fun hb=>?_)|refine⟨fun hb=>?_,fun hb=>?_⟩|fail)
  have e:(l.map (movS ((A:Int) - N0.length))).length=l.length:=by simp
  generalize l.map (movS ((A:Int) - N0.length))=P at*;refine h _ ⟨_,_,wt_ (i:=8) rfl rfl,rfl,fe_ ?_,subH.at ⟨rfl,rfl,rfl,rfl,rfl,rfl,trivial⟩⟩;simp [one,St.get,St.thaw1,hget,t39,thaw,eget,s14,←e,t25]
theorem cin_ (w:World) (cap:Nat):Calls Tryz.prog 40 #[.slice none 0 cap] w fun e w'=>e= .returned (.slice none 0 0)∧w'=w:=by have hq:=fun (w:World)=>Lib.run_eql_slice_nil (P:=Tryz.prog) w 35 3 none 0 cap 0 0 Tryz.underlying35;go_enter Tryz.func40,Tryz.ntmps40;go_wp2;go_ret;exact⟨rfl,rfl⟩
theorem cih_ (vals:List Int) (hl:vals.length≤1000000):HQ G ns28 [i10 vals] [] (.arr 1000 0 vals.length) [(1000,⟨true,ti_,1,vals.map iv⟩)]:=by
 intro w F nm vs hg ha hB;obtain⟨hs,hr⟩:=ha;obtain⟨l⟩:=vs
 match l,hs with
 | [v],_ =>
  have h0:=hr 0 _ v rfl rfl;clear hr;have key:(∃cap,v= .slice none 0 cap∧vals=[])∨∃a n cap,v= .slice (some a) n cap:=by
   generalize hz:i10 vals=z at h0;unfold i10 at hz;cases h0 with
   | seq0 _ _ a cap=>
    cases a with
    | none=>simp only[AV.seq.injEq,List.map_eq_nil_iff,true_and] at hz;exact .inl ⟨cap,rfl,hz.2⟩
    | some a=>exact .inr ⟨a,0,cap,rfl⟩
   | seq=>exact .inr ⟨_,_,_,rfl⟩
   | _ =>cases hz
  rcases key with ⟨cap,rfl,rfl⟩ | ⟨a,n,cap,rfl⟩
  ·refine (cin_ w cap).mono ?_;rintro e w' ⟨rfl,rfl⟩;refine⟨_,F,fun _ =>none,rfl,fun _ h=>h,fun _ h=>.inl h,hg.1,.arrN _ _,⟨fun i b hi=>?_,fun i j b c m m' _ _ h1=>(by cases h1),fun i b m _ h1=>(by cases h1)⟩,fun i b hi=>(by simp [hget] at hi),fun k hk=>?_,⟨rfl,rfl,rfl,zE _⟩,fun _ _ _ =>rfl⟩
   ·simp only[hget] at hi;split at hi
    ·cases hi;exact .inl ⟨rfl,rfl,rfl,by decide⟩
    ·cases hi
   ·obtain⟨i,b,m,_,h1,_⟩:=hk;cases h1
  ·have hq:=fun (w:World)=>Lib.run_eql_slice_nil (P:=Tryz.prog) w 35 3 (some a) n cap 0 0 Tryz.underlying35;have hL:(List.map iv vals).length=vals.length:=by simp
   have hrun:run Tryz.prog G (fun _ =>False) (.reg [⟨some 5,.mkrow ti_ 1 0 (.int .i64 0) [],none⟩,⟨some 6,.mov (.t 0),none⟩,⟨some 7,.app ti_ 1 8 (.t 5) (.t 6),none⟩,⟨some 2,.mov (.t 7),none⟩] [2])
     [.cut fun st=>st=⟨8,[(2,.arr 5 0 vals.length)],[(5,⟨true,ti_,1,vals.map iv⟩)]⟩] ⟨8,[(0,i10 vals)],[]⟩:=by
    have hb:vals.length*8≤140737488355328:=by omega
    repeat' (first|simp -implicitDefEqProofs only[go_sem,i10,zX,hb]|refine ag_ (fun hb=>?_) (fun hb=>?_)|refine⟨fun hb=>?_,fun hb=>?_⟩|fail)
   have hrel:Rel G ⟨w,F,fun _ =>False,fun _ =>False,nm⟩ ⟨8,[(0,i10 vals)],[]⟩ {tmps:=#[.slice (some a) n cap,undef,.slice none 0 0,.slice (some a) n cap,.bool false,undef,undef,undef],defers:=[]} w:=by
    refine⟨nm,F,rfl,rfl,fun t=>?_,fun i b hi=>by simp [hget] at hi,fun i j b c m m' hi=>by simp [hget] at hi,fun i b m hi=>by simp [hget] at hi,fun i b m hi=>by simp [hget] at hi,hg,fun _ h=>h,fun _ h=>.inl h,⟨rfl,rfl,rfl,zE _,fun _ _ _ =>rfl⟩,fun _ h=>h.elim⟩;simp only[St.get,eget];split
    ·rename_i e;subst e;exact h0
    ·exact .top _ _
   go_enter Tryz.func40,Tryz.ntmps40;go_upto_region 3 with (fail)
   rename_i K hK;refine wp_mono (as14 _ _ _ _ _ _ (by kernel_rfl) hrun hrel) (fun e a' w' hq=>?_);cases e with
   | normal=>
    obtain⟨st',hst,nm1,F1,hx⟩:=hq;have hst:st'=⟨8,[(2,.arr 5 0 vals.length)],[(5,⟨true,ti_,1,vals.map iv⟩)]⟩:=hst;subst hst;refine hK _ _ (wp_ret (bodyPost_ret (results_tmp rfl _ _ _) hx.df ?_));have hv:=hx.env 2;refine⟨_,F1,fun i=>if i=1000 then nm1 5 else none,rfl,hx.f0,fun b hb=>?_,hx.good.1,?_,⟨fun i b hi=>?_,fun i j b c m m' hi hj _ _ _ =>?_,fun i b m hi hm=>?_⟩,fun i b hi=>(by simp [hget] at hi),fun k hk=>?_,⟨hx.keep.os,hx.keep.tape,hx.keep.output,hx.keep.size⟩,fun k hk _ =>hx.keep.block k hk (fun h=>h)⟩
    ·rcases hx.fb b hb with h | h | h
     ·exact .inl h
     ·exact .inr (.inl h)
     ·exact h.elim
    ·have hv:Rd w' F1 nm1 (.arr 5 0 vals.length) (a'.tmps.getD 2 undef):=hv;generalize a'.tmps.getD 2 undef=z at hv ⊢;generalize hk:vals.length=k at hv ⊢;cases hv with
     | arr _ _ _ _ m hi hn hp=>exact .arr _ _ _ _ m (by simp [hi]) hn hp
     | arrE _ _ _ _ _ h=>omega
     | arrN=>exact .arrN _ _
    ·simp only[hget] at hi;split at hi
     ·rename_i e;subst e;cases hi;rcases hx.box 5 _ rfl with ⟨h1,h2,h3,h4⟩ | ⟨m,hm,hli⟩
      ·exact .inl ⟨by simp [h1],h2,h3,h4⟩
      ·refine .inr ⟨m,by simp [hm],?_⟩;rcases hli with hli | hli
       ·exact .inl hli
       ·exact .inr hli
     ·cases hi
    ·simp only[hget] at hi hj;split at hi
     ·split at hj
      ·rename_i e1 e2;rw[←e1,←e2]
      ·cases hj
     ·cases hi
    ·simp only[hget] at hi;split at hi
     ·rename_i e;subst e;simp only[xZ] at hm;exact hx.fr 5 _ m rfl hm
     ·cases hi
    ·obtain⟨i,b,m,hi,hm,rfl⟩:=hk;simp only[hget] at hi;split at hi
     ·rename_i e;subst e;simp only[xZ] at hm;rcases hx.own 5 _ m rfl hm with h | h
      ·exact .inl h
      ·exact h.elim
     ·cases hi
   | exit i=>obtain⟨st',h1,_⟩:=hq;exact (h1:False).elim
   | ret=>obtain⟨st',h1,_⟩:=hq;exact (h1:False).elim
   | goto l=>exact hq.elim
   | panic ch=>exact hq.elim
   | outgrown=>exact hq.elim
theorem ct29 (w:World) (cap:Nat):Calls Tryz.prog 53 #[.slice none 0 cap] w fun e w'=>e= .returned (.slice none 0 0)∧w'=w:=by have hq:=fun (w:World)=>Lib.run_eql_slice_nil (P:=Tryz.prog) w 66 83 none 0 cap 0 0 Tryz.underlying66;go_enter Tryz.func53,Tryz.ntmps53;go_wp2;go_ret;exact⟨rfl,rfl⟩
theorem cth_ (vals:List TSymT) (hl:vals.length≤1000000):HQ G ns27 [t26 vals] [] (.arr 1000 0 vals.length) [(1000,⟨true,ta11,4,vals.map t27⟩)]:=by
 intro w F nm vs hg ha hB;obtain⟨hs,hr⟩:=ha;obtain⟨l⟩:=vs
 match l,hs with
 | [v],_ =>
  have h0:=hr 0 _ v rfl rfl;clear hr;have key:(∃cap,v= .slice none 0 cap∧vals=[])∨∃a n cap,v= .slice (some a) n cap:=by
   generalize hz:t26 vals=z at h0;unfold t26 at hz;cases h0 with
   | seq0 _ _ a cap=>
    cases a with
    | none=>simp only[AV.seq.injEq,List.map_eq_nil_iff,true_and] at hz;exact .inl ⟨cap,rfl,hz.2⟩
    | some a=>exact .inr ⟨a,0,cap,rfl⟩
   | seq=>exact .inr ⟨_,_,_,rfl⟩
   | _ =>cases hz
  rcases key with ⟨cap,rfl,rfl⟩ | ⟨a,n,cap,rfl⟩
  ·refine (ct29 w cap).mono ?_;rintro e w' ⟨rfl,rfl⟩;refine⟨_,F,fun _ =>none,rfl,fun _ h=>h,fun _ h=>.inl h,hg.1,.arrN _ _,⟨fun i b hi=>?_,fun i j b c m m' _ _ h1=>(by cases h1),fun i b m _ h1=>(by cases h1)⟩,fun i b hi=>(by simp [hget] at hi),fun k hk=>?_,⟨rfl,rfl,rfl,zE _⟩,fun _ _ _ =>rfl⟩
   ·simp only[hget] at hi;split at hi
    ·cases hi;exact .inl ⟨rfl,rfl,rfl,by decide⟩
    ·cases hi
   ·obtain⟨i,b,m,_,h1,_⟩:=hk;cases h1
  ·have hq:=fun (w:World)=>Lib.run_eql_slice_nil (P:=Tryz.prog) w 66 83 (some a) n cap 0 0 Tryz.underlying66;have hL:(List.map t27 vals).length=vals.length:=by simp
   have hrun:run Tryz.prog G (fun _ =>False) (.reg [⟨some 5,.mkrow ta11 4 0 (.agg [.str [],.nils,.int .i64 0,.int .i64 0]) [],none⟩,⟨some 6,.mov (.t 0),none⟩,⟨some 7,.app ta11 4 56 (.t 5) (.t 6),none⟩,⟨some 2,.mov (.t 7),none⟩] [2])
     [.cut fun st=>st=⟨8,[(2,.arr 5 0 vals.length)],[(5,⟨true,ta11,4,vals.map t27⟩)]⟩] ⟨8,[(0,t26 vals)],[]⟩:=by
    have hb:vals.length*56≤140737488355328:=by omega
    repeat' (first|simp -implicitDefEqProofs only[go_sem,t26,zX,hb]|refine ag_ (fun hb=>?_) (fun hb=>?_)|refine⟨fun hb=>?_,fun hb=>?_⟩|fail)
   have hrel:Rel G ⟨w,F,fun _ =>False,fun _ =>False,nm⟩ ⟨8,[(0,t26 vals)],[]⟩ {tmps:=#[.slice (some a) n cap,undef,.slice none 0 0,.slice (some a) n cap,.bool false,undef,undef,undef],defers:=[]} w:=by
    refine⟨nm,F,rfl,rfl,fun t=>?_,fun i b hi=>by simp [hget] at hi,fun i j b c m m' hi=>by simp [hget] at hi,fun i b m hi=>by simp [hget] at hi,fun i b m hi=>by simp [hget] at hi,hg,fun _ h=>h,fun _ h=>.inl h,⟨rfl,rfl,rfl,zE _,fun _ _ _ =>rfl⟩,fun _ h=>h.elim⟩;simp only[St.get,eget];split
    ·rename_i e;subst e;exact h0
    ·exact .top _ _
   go_enter Tryz.func53,Tryz.ntmps53;go_upto_region 3 with (fail)
   rename_i K hK;refine wp_mono (as14 _ _ _ _ _ _ (by kernel_rfl) hrun hrel) (fun e a' w' hq=>?_);cases e with
   | normal=>
    obtain⟨st',hst,nm1,F1,hx⟩:=hq;have hst:st'=⟨8,[(2,.arr 5 0 vals.length)],[(5,⟨true,ta11,4,vals.map t27⟩)]⟩:=hst;subst hst;refine hK _ _ (wp_ret (bodyPost_ret (results_tmp rfl _ _ _) hx.df ?_));have hv:=hx.env 2;refine⟨_,F1,fun i=>if i=1000 then nm1 5 else none,rfl,hx.f0,fun b hb=>?_,hx.good.1,?_,⟨fun i b hi=>?_,fun i j b c m m' hi hj _ _ _ =>?_,fun i b m hi hm=>?_⟩,fun i b hi=>(by simp [hget] at hi),fun k hk=>?_,⟨hx.keep.os,hx.keep.tape,hx.keep.output,hx.keep.size⟩,fun k hk _ =>hx.keep.block k hk (fun h=>h)⟩
    ·rcases hx.fb b hb with h | h | h
     ·exact .inl h
     ·exact .inr (.inl h)
     ·exact h.elim
    ·have hv:Rd w' F1 nm1 (.arr 5 0 vals.length) (a'.tmps.getD 2 undef):=hv;generalize a'.tmps.getD 2 undef=z at hv ⊢;generalize hk:vals.length=k at hv ⊢;cases hv with
     | arr _ _ _ _ m hi hn hp=>exact .arr _ _ _ _ m (by simp [hi]) hn hp
     | arrE _ _ _ _ _ h=>omega
     | arrN=>exact .arrN _ _
    ·simp only[hget] at hi;split at hi
     ·rename_i e;subst e;cases hi;rcases hx.box 5 _ rfl with ⟨h1,h2,h3,h4⟩ | ⟨m,hm,hli⟩
      ·exact .inl ⟨by simp [h1],h2,h3,h4⟩
      ·refine .inr ⟨m,by simp [hm],?_⟩;rcases hli with hli | hli
       ·exact .inl hli
       ·exact .inr hli
     ·cases hi
    ·simp only[hget] at hi hj;split at hi
     ·split at hj
      ·rename_i e1 e2;rw[←e1,←e2]
      ·cases hj
     ·cases hi
    ·simp only[hget] at hi;split at hi
     ·rename_i e;subst e;simp only[xZ] at hm;exact hx.fr 5 _ m rfl hm
     ·cases hi
    ·obtain⟨i,b,m,hi,hm,rfl⟩:=hk;simp only[hget] at hi;split at hi
     ·rename_i e;subst e;simp only[xZ] at hm;rcases hx.own 5 _ m rfl hm with h | h
      ·exact .inl h
      ·exact h.elim
     ·cases hi
   | exit i=>obtain⟨st',h1,_⟩:=hq;exact (h1:False).elim
   | ret=>obtain⟨st',h1,_⟩:=hq;exact (h1:False).elim
   | goto l=>exact hq.elim
   | panic ch=>exact hq.elim
   | outgrown=>exact hq.elim
theorem cip_ (l:List Int) (hl:l.length≤1000000):PQ G ns28 [i10 l] (i10 l):=by have:=cih_ (G:=G) l hl;rw[show l.length=(l.map iv).length by simp] at this;exact P_.of_row this (by decide)
def s22 (s:Str):Bool:=decide ((s.length:Int)≤100)
def f14 (d:DeclT):Bool:=decide ((d.types.length:Int)≤12)&&s22 d.name
def f20 (s:SymT):Bool:=decide ((s.args.length:Int)≤12)&&allI (fun _ (a:ArgT)=>s22 a.value.str) s.args
def f19 (q:QeaT):Bool:=decide ((q.decls.length:Int)≤12)&&(decide ((q.quants.length:Int)≤9)&&(decide ((q.frees.length:Int)≤12)&&(decide ((q.states.length:Int)≤12)&&(decide ((q.symbols.length:Int)≤12)&&(decide ((q.trans.length:Int)≤12)&&(decide ((q.nodes.length:Int)≤40)&&s22 q.name))))))
def fewQ (q:QeaT):Bool:=f19 q&&(allI (fun _ d=>f14 d) q.decls&&(allI (fun _ s=>f20 s) q.symbols&&(allI (fun _ (f:FreeT)=>s22 f.init.str) q.frees&&(allI (fun _ (x:NodeT)=>s22 x.value.str) q.nodes&&allI (fun _ (t:TransT)=>decide ((t.sets.length:Int)≤12)) q.trans))))
theorem rF11 (q:QeaT):PQ G npF_ [qeaV q] (iv (if fewQ q=true then 1 else 0)):=by
 refine pp27 fun Φ h=>?_;unfold cp27;have fin0:∀heap,fewQ q=false→Φ ⟨166,[(2,iv 0)],heap⟩:=fun heap e=>h _ ⟨_,_,rfl,rfl,fitI (by rw[e];rfl)⟩;have fin1:∀heap,fewQ q=true→Φ ⟨166,[(2,iv 1)],heap⟩:=fun heap e=>h _ ⟨_,_,rfl,rfl,fitI (by rw[e];rfl)⟩;clear h;generalize hR:fewQ q=w at*;unfold fewQ at hR;replace hR:=hR.symm;cases hT:f19 q with
 | false=>
  rw[hT,xQ] at hR;unfold f19 s22 at hT;simp only[wX,zU,zO] at hT
  repeat' (first|simp -implicitDefEqProofs only[go_sem,qeaV,d_,q_,f_,s_,s10,n_,t_,zX]|refine ag_ (fun hb=>?_) (fun hb=>?_)|refine⟨fun hb=>?_,fun hb=>?_⟩|fail)
  all_goals first | exact fin0 _ hR | (exfalso;simp at*;omega)
 | true=>
  rw[hT,xG] at hR;unfold f19 s22 at hT;simp only[zK,zU] at hT;obtain⟨t1,t2,t3,t4,t5,t6,t7,t8⟩:=hT
  repeat' (first|simp -implicitDefEqProofs only[go_sem,qeaV,d_,q_,f_,s_,s10,n_,t_,zX]|refine ag_ (fun hb=>?_) (fun hb=>?_)|refine⟨fun hb=>?_,fun hb=>?_⟩|fail)
  all_goals first | (exfalso;simp at hb;omega) | (exfalso;clear fin0 fin1 hR;simp at*;omega) | skip
  refine al_ (fun n st=>∃i:Nat,i+n=q.decls.length∧st=⟨166,[(1,.ref 1 0 0),(3,iv i)],[(1,⟨false,taQ_,9,[qeaV q]⟩)]⟩∧∀j y,j<i→q.decls[j]? =some y→f14 y=true) q.decls.length ⟨0,by simp,rfl,fun j x hj=>by omega⟩ ?_;rintro I hI n st ⟨i,hi,rfl,hno⟩;simp -implicitDefEqProofs only[go_sem,qeaV,d_,q_,f_,s_,s10,n_,t_,zX];refine⟨fun hlt=>?_,fun hge=>?_⟩
  ·have hlt':i<q.decls.length:=by omega
   obtain⟨y,hy,hm⟩:=as10 hlt';have hw:=ws_ hlt' (by omega);have hnext:f14 y=true→a11 I n ⟨166,[(1,.ref 1 0 0),(3,iv (i+1:Nat))],[(1,⟨false,taQ_,9,[qeaV q]⟩)]⟩:=fun hv=>aa_ (n - 1) (by omega) (hI _ _ ⟨i+1,by omega,rfl,as11 (p:=fun _ d=>f14 d) hy hv hno⟩);have hbad:f14 y=false→w=false:=fun hv=>by rw[hR,af_ hy hv,xQ]
   unfold f14 s22 at hnext hbad;clear hno hR
   repeat' (first|simp -implicitDefEqProofs only[go_sem,am_ hy,d11,i10,hw,qeaV,d_,q_,f_,s_,s10,n_,t_,zX]|refine ag_ (fun hb=>?_) (fun hb=>?_)|refine⟨fun hb=>?_,fun hb=>?_⟩|fail)
   all_goals first | (refine hnext ?_;clear hnext hbad fin0 fin1 hI;simp_all;done) | (refine fin0 _ (hbad ?_);clear hnext hbad fin0 fin1 hI;simp_all;done) | (refine hnext ?_;clear hnext hbad fin0 fin1 hI;simp_all;omega) | (refine fin0 _ (hbad ?_);clear hnext hbad fin0 fin1 hI;simp_all;omega)
  ·rw[aa12 (by omega) hno,xG] at hR;clear hI hno hge hi
   try (simp -implicitDefEqProofs only[go_sem,qeaV,d_,q_,f_,s_,s10,n_,t_,zX])
   refine al_ (fun n st=>∃i:Nat,i+n=q.symbols.length∧st=⟨166,[(1,.ref 1 0 0),(4,iv i)],[(1,⟨false,taQ_,9,[qeaV q]⟩)]⟩∧∀j y,j<i→q.symbols[j]? =some y→f20 y=true) q.symbols.length ⟨0,by simp,rfl,fun j x hj=>by omega⟩ ?_;rintro I hI n st ⟨i,hi,rfl,hno⟩;simp -implicitDefEqProofs only[go_sem,qeaV,d_,q_,f_,s_,s10,n_,t_,zX];refine⟨fun hlt=>?_,fun hge=>?_⟩
   ·have hlt':i<q.symbols.length:=by omega
    obtain⟨s,hs,hm⟩:=as10 hlt';have hw:=ws_ hlt' (by omega);have hnext:f20 s=true→a11 I n ⟨166,[(1,.ref 1 0 0),(4,iv (i+1:Nat))],[(1,⟨false,taQ_,9,[qeaV q]⟩)]⟩:=fun hv=>aa_ (n - 1) (by omega) (hI _ _ ⟨i+1,by omega,rfl,as11 (p:=fun _ d=>f20 d) hs hv hno⟩);have hbad:f20 s=false→w=false:=fun hv=>by rw[hR,af_ hs hv,xQ]
    unfold f20 at hnext hbad;clear hno hR
    repeat' (first|simp -implicitDefEqProofs only[go_sem,am_ hs,symV,a_,hw,qeaV,d_,q_,f_,s_,s10,n_,t_,zX]|refine ag_ (fun hb=>?_) (fun hb=>?_)|refine⟨fun hb=>?_,fun hb=>?_⟩|fail)
    ·exact fin0 _ (hbad (by rw[show decide ((s.args.length:Int)≤12)=false by simp;omega];rfl))
    have hle:(s.args.length:Int)≤12:=by omega
    rw[show decide ((s.args.length:Int)≤12)=true by simpa using hle,xG] at hnext hbad;refine al_ (fun m st=>∃k:Nat,k+m=s.args.length∧st=⟨166,[(1,.ref 1 0 0),(4,iv i),(5,iv k)],[(1,⟨false,taQ_,9,[qeaV q]⟩)]⟩∧∀j y,j<k→s.args[j]? =some y→s22 y.value.str=true) s.args.length ⟨0,by simp,rfl,fun j x hj=>by omega⟩ ?_;rintro J hJ m st ⟨k,hk,rfl,hall⟩;simp -implicitDefEqProofs only[go_sem,am_ hs,symV,a_,qeaV,d_,q_,f_,s_,s10,n_,t_,zX];refine⟨fun hlt2=>?_,fun hge2=>?_⟩
    ·have hlt2':k<s.args.length:=by omega
     obtain⟨a,ha,ham⟩:=as10 hlt2';have hw2:=ws_ hlt2' (by omega);have hgo:s22 a.value.str=true→a11 J m ⟨166,[(1,.ref 1 0 0),(4,iv i),(5,iv (k+1:Nat))],[(1,⟨false,taQ_,9,[qeaV q]⟩)]⟩:=fun hv=>aa_ (m - 1) (by omega) (hJ _ _ ⟨k+1,by omega,rfl,as11 (p:=fun _ (a:ArgT)=>s22 a.value.str) ha hv hall⟩);have hbd:s22 a.value.str=false→w=false:=fun hv=>hbad (af_ ha hv);unfold s22 at hgo hbd;clear hnext hbad hall
     repeat' (first|simp -implicitDefEqProofs only[go_sem,am_ hs,am_ ha,argV,symV,a_,hw2,qeaV,d_,q_,f_,s_,s10,n_,t_,zX]|refine ag_ (fun hb=>?_) (fun hb=>?_)|refine⟨fun hb=>?_,fun hb=>?_⟩|fail)
     all_goals first | (refine hgo ?_;simp;omega) | (refine fin0 _ (hbd ?_);simp;omega)
    ·have:=hnext (aa12 (by omega) hall)
     try (simp -implicitDefEqProofs only[go_sem,hw])
     exact this
   ·rw[aa12 (by omega) hno,xG] at hR;clear hI hno hge hi
    try (simp -implicitDefEqProofs only[go_sem,qeaV,d_,q_,f_,s_,s10,n_,t_,zX])
    refine al_ (fun n st=>∃i:Nat,i+n=q.frees.length∧st=⟨166,[(1,.ref 1 0 0),(6,iv i)],[(1,⟨false,taQ_,9,[qeaV q]⟩)]⟩∧∀j y,j<i→q.frees[j]? =some y→s22 y.init.str=true) q.frees.length ⟨0,by simp,rfl,fun j x hj=>by omega⟩ ?_;rintro I hI n st ⟨i,hi,rfl,hno⟩;simp -implicitDefEqProofs only[go_sem,qeaV,d_,q_,f_,s_,s10,n_,t_,zX];refine⟨fun hlt=>?_,fun hge=>?_⟩
    ·have hlt':i<q.frees.length:=by omega
     obtain⟨y,hy,hm⟩:=as10 hlt';have hw:=ws_ hlt' (by omega);have hnext:s22 y.init.str=true→a11 I n ⟨166,[(1,.ref 1 0 0),(6,iv (i+1:Nat))],[(1,⟨false,taQ_,9,[qeaV q]⟩)]⟩:=fun hv=>aa_ (n - 1) (by omega) (hI _ _ ⟨i+1,by omega,rfl,as11 (p:=fun _ (f:FreeT)=>s22 f.init.str) hy hv hno⟩);have hbad:s22 y.init.str=false→w=false:=fun hv=>by rw[hR,af_ hy hv,xQ]
     unfold s22 at hnext hbad;clear hno hR
     repeat' (first|simp -implicitDefEqProofs only[go_sem,am_ hy,f10,hw,qeaV,d_,q_,f_,s_,s10,n_,t_,zX]|refine ag_ (fun hb=>?_) (fun hb=>?_)|refine⟨fun hb=>?_,fun hb=>?_⟩|fail)
     all_goals first | (refine hnext ?_;simp;omega) | (refine fin0 _ (hbad ?_);simp;omega)
    ·rw[aa12 (by omega) hno,xG] at hR;clear hI hno hge hi
     try (simp -implicitDefEqProofs only[go_sem,qeaV,d_,q_,f_,s_,s10,n_,t_,zX])
     refine al_ (fun n st=>∃i:Nat,i+n=q.nodes.length∧st=⟨166,[(1,.ref 1 0 0),(7,iv i)],[(1,⟨false,taQ_,9,[qeaV q]⟩)]⟩∧∀j y,j<i→q.nodes[j]? =some y→s22 y.value.str=true) q.nodes.length ⟨0,by simp,rfl,fun j x hj=>by omega⟩ ?_;rintro I hI n st ⟨i,hi,rfl,hno⟩;simp -implicitDefEqProofs only[go_sem,qeaV,d_,q_,f_,s_,s10,n_,t_,zX];refine⟨fun hlt=>?_,fun hge=>?_⟩
     ·have hlt':i<q.nodes.length:=by omega
      obtain⟨y,hy,hm⟩:=as10 hlt';have hw:=ws_ hlt' (by omega);have hnext:s22 y.value.str=true→a11 I n ⟨166,[(1,.ref 1 0 0),(7,iv (i+1:Nat))],[(1,⟨false,taQ_,9,[qeaV q]⟩)]⟩:=fun hv=>aa_ (n - 1) (by omega) (hI _ _ ⟨i+1,by omega,rfl,as11 (p:=fun _ (f:NodeT)=>s22 f.value.str) hy hv hno⟩);have hbad:s22 y.value.str=false→w=false:=fun hv=>by rw[hR,af_ hy hv,xQ]
      unfold s22 at hnext hbad;clear hno hR
      repeat' (first|simp -implicitDefEqProofs only[go_sem,am_ hy,n11,hw,qeaV,d_,q_,f_,s_,s10,n_,t_,zX]|refine ag_ (fun hb=>?_) (fun hb=>?_)|refine⟨fun hb=>?_,fun hb=>?_⟩|fail)
      all_goals first | (refine hnext ?_;simp;omega) | (refine fin0 _ (hbad ?_);simp;omega)
     ·rw[aa12 (by omega) hno,xG] at hR;clear hI hno hge hi
      try (simp -implicitDefEqProofs only[go_sem,qeaV,d_,q_,f_,s_,s10,n_,t_,zX])
      refine al_ (fun n st=>∃i:Nat,i+n=q.trans.length∧st=⟨166,[(1,.ref 1 0 0),(8,iv i)],[(1,⟨false,taQ_,9,[qeaV q]⟩)]⟩∧∀j y,j<i→q.trans[j]? =some y→decide ((y.sets.length:Int)≤12)=true) q.trans.length ⟨0,by simp,rfl,fun j x hj=>by omega⟩ ?_;rintro I hI n st ⟨i,hi,rfl,hno⟩;simp -implicitDefEqProofs only[go_sem,qeaV,d_,q_,f_,s_,s10,n_,t_,zX];refine⟨fun hlt=>?_,fun hge=>?_⟩
      ·have hlt':i<q.trans.length:=by omega
       obtain⟨y,hy,hm⟩:=as10 hlt';have hw:=ws_ hlt' (by omega);have hnext:decide ((y.sets.length:Int)≤12)=true→a11 I n ⟨166,[(1,.ref 1 0 0),(8,iv (i+1:Nat))],[(1,⟨false,taQ_,9,[qeaV q]⟩)]⟩:=fun hv=>aa_ (n - 1) (by omega) (hI _ _ ⟨i+1,by omega,rfl,as11 (p:=fun _ (t:TransT)=>decide ((t.sets.length:Int)≤12)) hy hv hno⟩);have hbad:decide ((y.sets.length:Int)≤12)=false→w=false:=fun hv=>by rw[hR,af_ hy hv]
       clear hno hR
       repeat' (first|simp -implicitDefEqProofs only[go_sem,am_ hy,t11,s14,hw,qeaV,d_,q_,f_,s_,s10,n_,t_,zX]|refine ag_ (fun hb=>?_) (fun hb=>?_)|refine⟨fun hb=>?_,fun hb=>?_⟩|fail)
       all_goals first | (refine hnext ?_;simp;omega) | (refine fin0 _ (hbad ?_);simp;omega)
      ·rw[aa12 (by omega) hno] at hR
       try (simp -implicitDefEqProofs only[go_sem])
       exact fin1 _ hR
theorem cRp_ (hG:wg_ G) (q:QeaT) (hq:q.Few):PQ G ncR_ [qeaV q] (.bool (r16 q)):=by
 have h1:=cfp_ (G:=G) q;have h2:=chp_ hG q hq;have h3:=ctp_ (G:=G) q hq;have h4:=cs32 (G:=G) q hq;refine pcR_ fun Φ h=>?_;unfold ccR_;unfold r16 at h;generalize fewS q=b1 at*;generalize h18 q=b2 at*;generalize t41 q (e11 q) s12=b3 at*;generalize s19 q=b4 at*;simp only[qeaV,d_,q_,f_,s_,s10,n_,t_] at h1 h2 h3 h4
 repeat' (first|simp -implicitDefEqProofs only[go_sem,qeaV,d_,q_,f_,s_,s10,n_,t_]|refine ag_ (fun hb=>?_) (fun hb=>?_)|refine⟨fun hb=>?_,fun hb=>?_⟩|refine ac_ h1 rfl rfl ?_|refine ac_ h2 rfl rfl ?_|refine ac_ h3 rfl rfl ?_|refine ac_ h4 rfl rfl ?_|fail)
 all_goals (refine h _ ⟨_,_,rfl,rfl,fe_ ?_⟩;clear h;first | rfl | simp_all)
theorem rR10 (q:QeaT) (hq:q.Few):PQ G npR_ [qeaV q] (.bool (r14 q)):=by
 have hck:=rCp_ (G:=G) q.decls (by have:=hq.decls;omega) (fun d hd=>by have:=hq.types d hd;omega);have hnm:=rnp_ (G:=G) q hq;have htl:=hq.trans;refine ppR_ fun Φ h=>?_;unfold cpR_;have fin:∀b heap,r14 q=b→Φ ⟨101,[(2,.bool b)],heap⟩:=fun b heap e=>h _ ⟨_,_,rfl,rfl,fitB e.symm⟩;clear h;simp only[qeaV,d_,q_,f_,s_,s10,n_,t_] at hck hnm;cases hT:topR q with
 | false=>
  have hR:r14 q=false:=by rw[r14,hT,xQ]
  unfold topR fewS at hT;generalize d10 q.decls=dc at*;generalize h17 q=hd at*;simp only[wX,zU,zO,zK,zC] at hT
  repeat' (first|simp -implicitDefEqProofs only[go_sem,qeaV,d_,q_,f_,s_,s10,n_,t_,zX]|refine ag_ (fun hb=>?_) (fun hb=>?_)|refine⟨fun hb=>?_,fun hb=>?_⟩|refine ac_ hck rfl rfl ?_|refine ac_ hnm rfl rfl ?_|fail)
  all_goals first | exact fin _ _ hR | (exfalso;clear fin hck hnm;simp_all;omega) | (exfalso;clear fin hck hnm;simp_all;done)
 | true=>
  have hR:r14 q=(t31 q&&s16 q):=by rw[r14,hT,xG]
  have hk:q.Kinds:=by unfold topR at hT;simp only[zK] at hT;exact tk_ hT.2.2.2.2
  unfold topR fewS at hT;generalize d10 q.decls=dc at*;generalize h17 q=hd at*;simp only[zU,zK,zC] at hT;obtain⟨t1,⟨t2,t3,t4,t5,t6,t7⟩,t8,t9,t10⟩:=hT;subst t10
  repeat' (first|simp -implicitDefEqProofs only[go_sem,qeaV,d_,q_,f_,s_,s10,n_,t_,zX,t1]|refine ag_ (fun hb=>?_) (fun hb=>?_)|refine⟨fun hb=>?_,fun hb=>?_⟩|refine ac_ hck rfl rfl ?_|refine ac_ hnm rfl rfl ?_|fail)
  all_goals first | (exfalso;clear fin hck hnm;simp at*;omega) | (exfalso;clear fin hck hnm;simp at*;done) | skip
  refine al_ (fun n st=>∃(i:Nat) (a:Int),i+n=q.trans.length∧st=⟨101,[(1,.ref 1 0 0),(5,iv a),(6,iv i)],[(1,⟨false,taQ_,9,[qeaV q]⟩)]⟩∧0≤a∧a≤q.nodes.length∧(∀j t,j<i→q.trans[j]? =some t→inR t.symbol q.symbols.length=true)∧allS (s21 q) q.trans 0 0=allS (s21 q) (q.trans.drop i) i a) q.trans.length ⟨0,0,by simp,rfl,by omega,by omega,fun j x hj=>by omega,rfl⟩ ?_;rintro I hI n st ⟨i,a,hi,rfl,h0,hl,hin,hno⟩;simp -implicitDefEqProofs only[go_sem,qeaV,d_,q_,f_,s_,s10,n_,t_,zX];refine⟨fun hlt=>?_,fun hge=>?_⟩
  ·have hlt':i<q.trans.length:=by omega
   obtain⟨t,ht,hm⟩:=as10 hlt';have hw:=ws_ hlt' (by omega);have hc:=rt10 (G:=G) q hq hk t (by have:=hq.sets t hm;omega) a h0 hl;have hle:=tl13 (t:=t) h0 hl;rw[as15 ht] at hno;unfold s21 at hno;have hno':(if (t17 q t a).2=true then allS (s21 q) (q.trans.drop (i+1)) (i+1) (t17 q t a).1 else (false,(t17 q t a).1))=allS (s21 q) q.trans 0 0:=hno.symm;clear hno;generalize t17 q t a=r at*;obtain⟨A,b⟩:=r;dsimp only at hle hno';simp only[t11,s14,qeaV,d_,q_,f_,s_,s10,n_,t_,tupR] at hc;cases b with
   | false=>
    have hbad:r14 q=false:=by rw[hR,t31,←hno'];rfl
    repeat' (first|simp -implicitDefEqProofs only[go_sem,am_ ht,t11,s14,qeaV,d_,q_,f_,s_,s10,n_,t_,zX,hw]|refine ag_ (fun hb=>?_) (fun hb=>?_)|refine⟨fun hb=>?_,fun hb=>?_⟩|refine ac_ hc rfl rfl ?_|fail)
    exact fin _ _ hbad
   | true=>
    obtain⟨l1,l2,l3⟩:=hle rfl;have hnext:a11 I n ⟨101,[(1,.ref 1 0 0),(5,iv A),(6,iv (i+1:Nat))],[(1,⟨false,taQ_,9,[qeaV q]⟩)]⟩:=aa_ (n - 1) (by omega) (hI _ _ ⟨i+1,A,by omega,rfl,l1,l2,as11 (p:=fun _ (t:TransT)=>inR t.symbol q.symbols.length) ht l3 hin,by rw[←hno',zG rfl]⟩)
    repeat' (first|simp -implicitDefEqProofs only[go_sem,am_ ht,t11,s14,qeaV,d_,q_,f_,s_,s10,n_,t_,zX,hw]|refine ag_ (fun hb=>?_) (fun hb=>?_)|refine⟨fun hb=>?_,fun hb=>?_⟩|refine ac_ hc rfl rfl ?_|fail)
    exact hnext
  ·have hs:∀t∈q.trans,inR t.symbol q.symbols.length=true:=fun t ht=>by
    obtain⟨j,hj⟩:=zN ht;exact hin j t (by have:=(zZ.1 hj).1;omega) hj
   have hsy:=rs15 (G:=G) q hq hs;rw[ae_ (by omega)] at hno;have hA:t31 q=(a==(q.nodes.length:Int)):=by rw[t31,hno];rfl
   rw[hA] at hR;simp only[qeaV,d_,q_,f_,s_,s10,n_,t_] at hsy;generalize s16 q=sy at*;clear hI hin hno hA
   repeat' (first|simp -implicitDefEqProofs only[go_sem,qeaV,d_,q_,f_,s_,s10,n_,t_,zX]|refine ag_ (fun hb=>?_) (fun hb=>?_)|refine⟨fun hb=>?_,fun hb=>?_⟩|refine ac_ hsy rfl rfl ?_|fail)
   all_goals
    refine fin _ _ ?_;rw[hR];clear hR fin hsy hck hnm;simp_all
theorem fo10 (q:QeaT) (h:fewQ q=true):q.Few:=by
 unfold fewQ f19 at h;simp only[zK,zU] at h;obtain⟨⟨h1,h2,h3,h4,h5,h6,h7,h8⟩,h9,h10,h11,h12,h13⟩:=h;refine⟨by omega,fun d hd=>?_,by omega,by omega,by omega,by omega,fun s hs=>?_,by omega,by omega,fun t ht=>?_⟩
 ·obtain⟨i,hi⟩:=zN hd;have:=at10.1 h9 i d hi;unfold f14 at this;simp only[zK,zU] at this;omega
 ·obtain⟨i,hi⟩:=zN hs;have:=at10.1 h10 i s hi;unfold f20 at this;simp only[zK,zU] at this;omega
 ·obtain⟨i,hi⟩:=zN ht;have:=at10.1 h13 i t hi;simp only[zU] at this;omega
