/-
  The law LintTrue. How an automaton is read whose numbers are numbers, and events. No claim is proved here.
-/
import Derived.Test.YtjbcfpkibnhodaaGreatDoorYSb11
set_option linter.unusedSimpArgs false
set_option maxHeartbeats 4000000
set_option maxRecDepth 100000
namespace Go.Proofs.YtjbcfpkibnhodaaGreatDoor.Ab
open Go Go.RowKit
variable {G:Nat→Option AV}
def e10 (l:List EvT):AV:=.seq 2 (l.map e11)
structure SetOk (q:QeaT) (x:List CfgT):Prop where
 ok:∀c∈x,c.Ok q
 reach:∀c∈x,R_ q c
 len:x.length≤256
theorem so13 {q:QeaT} (h:q.LintQ):SetOk q [s29 q]:=by
 refine⟨fun c hc=>?_,fun c hc=>?_,by simp⟩
 ·rw[List.mem_singleton.1 hc]
  refine⟨?_,fun v hv=>?_⟩
  ·unfold cfgR s29
   have:=h.start_in
   have hfi:=if11 h
   unfold i12 at hfi
   simp only[hfi,Bool.and_true,Bool.and_eq_true,decide_eq_true_eq]
   omega
  ·unfold s29 at hv
   obtain⟨f,hf,rfl⟩:=List.mem_map.1 hv
   exact h.f64 f hf
 ·rw[List.mem_singleton.1 hc]
  have:=(to11 (fun t ht=>(h.trans_in t ht).2) h.start_in).1
  exact List.mem_of_getElem? this.st
theorem ek10 {q:QeaT} (h:q.LintQ) {b:List SlotT} {x:List CfgT} {e:EvT} (h0:(e16 q b x e).2=0):e16 (w10 q (allC q)) b x e=e16 q b x e:=by
 unfold e16 at h0 ⊢
 have e1:a_ (w10 q (allC q)) e (w10 q (allC q)).symbols.length=a_ q e q.symbols.length:=rfl
 rw[e1]
 split
 ·rfl
 ·rename_i hL
  rw[if_neg hL] at h0
  exact ak_ (fun i t ht hp=>on12 h ht hp) h0
theorem eo11 {q:QeaT} (h:q.LintQ) {b:List SlotT} {x:List CfgT} {e:EvT} (hx:SetOk q x) (hh:HitsOk q (u_ (a_ q e q.symbols.length) b)) (hl:(u_ (a_ q e q.symbols.length) b).length≤12):SetOk q (e16 q b x e).1:=by
 have hsz:=fs10 h.few
 unfold e16
 split
 ·exact hx
 ·have:=ao11 h.good hh hl hsz.2.2.2.2.1 hx.ok
  exact⟨this.1,ar13 h hx.reach,this.2⟩
theorem lLp_ (hW:wg_ G) (hE:errG G) (hL:LintG G) (q:QeaT) (hn64:∀x∈q.nodes,i64 x.value.int) (hf64:∀x∈q.frees,i64 x.init.int) (b:List SlotT) (l:List EvT) (hl64:∀e∈l,∀v∈e.args,i64 v.int):P_ Tryz.prog G np32 [qeaV q,s11 b,e10 l] (.bool true):=by
 have ha:=lap_ hW hE hL
 have hfw:=rF11 (G:=G) q
 refine pp11 (Runs.of fun Φ h=>?_)
 unfold cp11
 cases hf:fewQ q with
 | false=>
  rw[hf,if_neg (by decide)] at hfw
  simp only[qeaV,d_,q_,f_,s_,s10,n_,t_] at hfw
  repeat' (first|simp -implicitDefEqProofs only[go_sem,qeaV,d_,q_,f_,s_,s10,n_,t_,s11,e10,e11]|refine ag_ (fun hb=>?_) (fun hb=>?_)|refine⟨fun hb=>?_,fun hb=>?_⟩|refine ac_ hfw rfl rfl ?_|refine ac_ ha rfl rfl ?_|fail)
  exact h _ ⟨_,_,rfl,rfl,.refl _⟩
 | true=>
  rw[hf,if_pos rfl] at hfw
  have hfew:=fo11 q hf
  by_cases hll:12<l.length
  ·have e12:((12:Int)<(l.length:Int))=True:=by simp;omega
   simp only[qeaV,d_,q_,f_,s_,s10,n_,t_] at hfw
   repeat' (first|simp -implicitDefEqProofs only[go_sem,qeaV,d_,q_,f_,s_,s10,n_,t_,s11,e10,e11,List.length_map,e12,decide_true]|refine ag_ (fun hb=>?_) (fun hb=>?_)|refine⟨fun hb=>?_,fun hb=>?_⟩|refine ac_ hfw rfl rfl ?_|refine ac_ ha rfl rfl ?_|fail)
   exact h _ ⟨_,_,rfl,rfl,.refl _⟩
  have e12:((12:Int)<(l.length:Int))=False:=by simp;omega
  by_cases hbl:8<b.length
  ·have e8:((8:Int)<(b.length:Int))=True:=by simp;omega
   simp only[qeaV,d_,q_,f_,s_,s10,n_,t_] at hfw
   repeat' (first|simp -implicitDefEqProofs only[go_sem,qeaV,d_,q_,f_,s_,s10,n_,t_,s11,e10,e11,List.length_map,e12,decide_false,e8,decide_true]|refine ag_ (fun hb=>?_) (fun hb=>?_)|refine⟨fun hb=>?_,fun hb=>?_⟩|refine ac_ hfw rfl rfl ?_|refine ac_ ha rfl rfl ?_|fail)
   exact h _ ⟨_,_,rfl,rfl,.refl _⟩
  have e8:((8:Int)<(b.length:Int))=False:=by simp;omega
  have hr13:=rR10 (G:=G) q hfew
  cases hz:r10 q with
  | false=>
   rw[hz] at hr13
   simp only[qeaV,d_,q_,f_,s_,s10,n_,t_] at hfw hr13
   repeat' (first|simp -implicitDefEqProofs only[go_sem,qeaV,d_,q_,f_,s_,s10,n_,t_,s11,e10,e11,List.length_map,e12,decide_false,e8]|refine ag_ (fun hb=>?_) (fun hb=>?_)|refine⟨fun hb=>?_,fun hb=>?_⟩|refine ac_ hfw rfl rfl ?_|refine ac_ hr13 rfl rfl ?_|refine ac_ ha rfl rfl ?_|fail)
   exact h _ ⟨_,_,rfl,rfl,.refl _⟩
  | true=>
   rw[hz] at hr13
   have hq:q.LintQ:=⟨hf,hz,hn64,hf64⟩
   have hsz:=fs10 hf
   simp only[qeaV,d_,q_,f_,s_,s10,n_,t_] at hfw hr13
   repeat' (first|simp -implicitDefEqProofs only[go_sem,qeaV,d_,q_,f_,s_,s10,n_,t_,s11,e10,e11,List.length_map,e12,decide_false,e8]|refine ag_ (fun hb=>?_) (fun hb=>?_)|refine⟨fun hb=>?_,fun hb=>?_⟩|refine ac_ hfw rfl rfl ?_|refine ac_ hr13 rfl rfl ?_|fail)
   clear hfw hr13
   refine al_ (fun n st=>∃i:Nat,i+n=b.length∧st=⟨174,[(1,s11 b),(2,e10 l),(3,.ref 3 0 0),(7,iv i)],[(3,⟨false,taQ_,9,[qeaV q]⟩)]⟩) b.length ⟨0,by simp,by first | rfl | (simp [qeaV,d_,q_,f_,s_,s10,n_,t_,s11,e10,e11];done) | (simp [qeaV,d_,q_,f_,s_,s10,n_,t_,s11,e10,e11];rfl)⟩ ?_
   rintro I hI n st ⟨i,hi,rfl⟩
   by_cases hlt':i<b.length
   ·obtain⟨s,hs,_⟩:=as10 hlt'
    have hw:=ws_ hlt' (by omega)
    have hlt:((i:Int)<(b.length:Int))=True:=by simp;exact hlt'
    have hnx:=hI (n - 1) ⟨174,[(1,s11 b),(2,e10 l),(3,.ref 3 0 0),(7,iv (i+1:Nat))],[(3,⟨false,taQ_,9,[qeaV q]⟩)]⟩ ⟨i+1,by omega,rfl⟩
    clear hI
    obtain⟨sv,⟨s1,s2,s3,s4⟩⟩:=s
    by_cases hv:sv=(i:Int)
    ·have ev:(sv != (i:Int))=false:=by simp [hv]
     by_cases hqi:i<q.quants.length
     ·obtain⟨y,hy,_⟩:=as10 hqi
      have eq:((q.quants.length:Int)≤(i:Int))=False:=by simp;omega
      obtain⟨y1,y2,y3⟩:=y
      by_cases hk:s1=y3
      ·have ek:(s1 != y3)=false:=by simp [hk]
       clear h
       repeat' (first|simp -implicitDefEqProofs only[go_sem,qeaV,d_,q_,f_,s_,s10,n_,t_,s11,List.length_map,hlt,decide_true,am_ hs,s16,ev,eq,decide_false,am_ hy,q11,ek,hw]|refine ag_ (fun hb=>?_) (fun hb=>?_)|refine⟨fun hb=>?_,fun hb=>?_⟩|fail)
       exact aa_ (n - 1) (by omega) hnx
      ·have ek:(s1 != y3)=true:=by simp [hk]
       repeat' (first|simp -implicitDefEqProofs only[go_sem,qeaV,d_,q_,f_,s_,s10,n_,t_,s11,List.length_map,hlt,decide_true,am_ hs,s16,ev,eq,decide_false,am_ hy,q11,ek,hw]|refine ag_ (fun hb=>?_) (fun hb=>?_)|refine⟨fun hb=>?_,fun hb=>?_⟩|refine ac_ ha rfl rfl ?_|fail)
       exact h _ ⟨_,_,rfl,rfl,.refl _⟩
     ·have eq:((q.quants.length:Int)≤(i:Int))=True:=by simp;omega
      repeat' (first|simp -implicitDefEqProofs only[go_sem,qeaV,d_,q_,f_,s_,s10,n_,t_,s11,List.length_map,hlt,decide_true,am_ hs,s16,ev,eq,decide_true,hw]|refine ag_ (fun hb=>?_) (fun hb=>?_)|refine⟨fun hb=>?_,fun hb=>?_⟩|refine ac_ ha rfl rfl ?_|fail)
      exact h _ ⟨_,_,rfl,rfl,.refl _⟩
    ·have ev:(sv != (i:Int))=true:=by simp [hv]
     repeat' (first|simp -implicitDefEqProofs only[go_sem,qeaV,d_,q_,f_,s_,s10,n_,t_,s11,List.length_map,hlt,decide_true,am_ hs,s16,ev,hw]|refine ag_ (fun hb=>?_) (fun hb=>?_)|refine⟨fun hb=>?_,fun hb=>?_⟩|refine ac_ ha rfl rfl ?_|fail)
     exact h _ ⟨_,_,rfl,rfl,.refl _⟩
   ·have hlt:((i:Int)<(b.length:Int))=False:=by simp;omega
    clear hI
    have hal:=lAp_ hW hE hq
    have hac:=al15 hq
    have hwo:=lwp_ (G:=G) q (allC q) (by omega) (by omega)
    have hst:=rS11 (G:=G) q (by omega)
    have hok0:=so13 hq
    have hp:QeaT.Good (w10 q (allC q)):=gt10 hq.good fun t ht=>km_ ht
    have hpl:(w10 q (allC q)).trans.length≤12:=by
     have:=kl10 (g11 (allC q)) q.trans q.trans.length
     show (k12 _ _ _).length≤12
     omega
    have hps:∀t∈(w10 q (allC q)).trans,t.sets.length≤1000000:=fun t ht=>hfew.sets t (km_ ht)
    have hsy:=so14 hf hz
    have hpsy:SymsOk (w10 q (allC q)):=⟨hsy.len,hsy.ok⟩
    have hev:∀(x:List CfgT) (e:EvT),SetOk q x→e∈l→e.args.length≤12→evR q.decls e=true→
      P_ Tryz.prog G npE_ [qeaV q,s11 b,c11 x,e11 e] (.tup [c11 (e16 q b x e).1,iv (e16 q b x e).2])∧SetOk q (e16 q b x e).1∧
      ((e16 q b x e).2=0→P_ Tryz.prog G npE_ [qeaV (w10 q (allC q)),s11 b,c11 x,e11 e] (.tup [c11 (e16 q b x e).1,iv 0])):=fun x e hx he hal he8=>by
     obtain⟨g1,g2,g3⟩:=ho10 b hq he8 (hl64 e he)
     refine⟨rEp_ hq.good hsy (by omega) (by omega) g1 g2 g3 hx.ok (by omega) hfew.sets (by have:=hx.len;omega),eo11 hq hx g1 g2,fun h0=>?_⟩
     have:=rEp_ (G:=G) (q:=w10 q (allC q)) (b:=b) (set:=x) (e:=e) hp hpsy (by omega) (by omega) (ht12 _ g1) g2 g3 (fun c hc=>ct10 _ (hx.ok c hc)) hpl hps (by have:=hx.len;omega)
     rw[ek10 hq h0,h0] at this
     exact this
    have hodd:∀(x:List CfgT),SetOk q x→∀c∈x,∀o∈allC q,o.kind=1→¬o.n=c.state:=fun x hx c hc=>ou_ (hx.reach c hc)
    have hr8:=fun (e:EvT)=>rR11 (G:=G) q.decls e hfew.decls hfew.types
    generalize hP:w10 q (allC q)=P at*
    generalize allC q=odd at*
    have hsm:∀x,SetOk q x→P_ Tryz.prog G np16 [c11 x,c11 x] (.bool true):=fun x hx=>by
     have h1:=rS14 (G:=G) x x (fun c hc=>(hx.ok c hc).sm hq.good) (fun c hc=>(hx.ok c hc).sm hq.good) (by have:=hx.len;omega)
     rw[zr_ (fun x=>by simp [c20,c36.irr])] at h1
     exact h1
    clear hp hpl hps hpsy hsy hP
    generalize s29 q=s0 at*
    simp only[qeaV,d_,q_,f_,s_,s10,n_,t_,o14,c11] at hal hwo hst
    simp only[List.map_cons,List.map_nil] at hst
    repeat' (first|simp -implicitDefEqProofs only[go_sem,qeaV,d_,q_,f_,s_,s10,n_,t_,s11,e10,List.length_map,hlt,decide_false]|refine ag_ (fun hb=>?_) (fun hb=>?_)|refine⟨fun hb=>?_,fun hb=>?_⟩|refine ac_ hal rfl rfl ?_|refine ac_ hwo rfl rfl ?_|refine ac_ hst rfl rfl ?_|refine ac_ hst rfl rfl ?_|fail)
    clear hal hwo hst
    refine al_ (fun n st=>∃(i:Nat) (x:List CfgT),i+n=l.length∧st=⟨174,[(1,s11 b),(2,e10 l),(3,.ref 3 0 0),(8,.seq 2 (odd.map oddV)),(9,.ref 9 0 0),(10,c11 x),(11,c11 x),(12,iv i)],[(3,⟨false,taQ_,9,[qeaV q]⟩),(9,⟨false,taQ_,9,[qeaV P]⟩)]⟩∧SetOk q x) l.length ⟨0,[s0],by simp,by first | rfl | (simp [qeaV,d_,q_,f_,s_,s10,n_,t_,s11,e10,c11];done) | (simp [qeaV,d_,q_,f_,s_,s10,n_,t_,s11,e10,c11];rfl),hok0⟩ ?_
    rintro I hI n st ⟨i,x,hi,rfl,hx⟩
    by_cases hlt':i<l.length
    ·obtain⟨e,he,hem⟩:=as10 hlt'
     have hw:=ws_ hlt' (by omega)
     have hlt:((i:Int)<(l.length:Int))=True:=by simp;exact hlt'
     have hnx:=fun (y:List CfgT) (hy:SetOk q y)=>hI (n - 1) ⟨174,[(1,s11 b),(2,e10 l),(3,.ref 3 0 0),(8,.seq 2 (odd.map oddV)),(9,.ref 9 0 0),(10,c11 y),(11,c11 y),(12,iv (i+1:Nat))],[(3,⟨false,taQ_,9,[qeaV q]⟩),(9,⟨false,taQ_,9,[qeaV P]⟩)]⟩ ⟨i+1,y,by omega,rfl,hy⟩
     clear hI
     have hr8:=hr8 e
     have hev:=hev x e hx hem
     by_cases hal:12<e.args.length
     ·have ea:((12:Int)<(e.args.length:Int))=True:=by simp;omega
      obtain⟨en,eas⟩:=e
      dsimp only at ea
      repeat' (first|simp -implicitDefEqProofs only[go_sem,qeaV,d_,q_,f_,s_,s10,n_,t_,s11,e10,List.length_map,hlt,decide_true,am_ he,e11,ea]|refine ag_ (fun hb=>?_) (fun hb=>?_)|refine⟨fun hb=>?_,fun hb=>?_⟩|refine ac_ ha rfl rfl ?_|fail)
      exact h _ ⟨_,_,rfl,rfl,.refl _⟩
     have ea:((12:Int)<(e.args.length:Int))=False:=by simp;omega
     have hev:=hev (by omega)
     obtain⟨en,eas⟩:=e
     dsimp only at ea
     cases hz8:evR q.decls ⟨en,eas⟩ with
     | false=>
      rw[hz8] at hr8
      simp only[qeaV,d_,q_,f_,s_,s10,n_,t_,e11] at hr8
      repeat' (first|simp -implicitDefEqProofs only[go_sem,qeaV,d_,q_,f_,s_,s10,n_,t_,s11,e10,List.length_map,hlt,decide_true,am_ he,e11,ea,decide_false]|refine ag_ (fun hb=>?_) (fun hb=>?_)|refine⟨fun hb=>?_,fun hb=>?_⟩|refine ac_ hr8 rfl rfl ?_|refine ac_ ha rfl rfl ?_|fail)
      exact h _ ⟨_,_,rfl,rfl,.refl _⟩
     | true=>
      rw[hz8] at hr8
      obtain⟨he1,hok,he2⟩:=hev hz8
      clear hev
      have hsm:=hsm _ hok
      have hodd:=hodd _ hok
      have hyl:=hok.len
      have hnx:=hnx _ hok
      generalize e16 q b x ⟨en,eas⟩=R at*
      obtain⟨y,r⟩:=R
      dsimp only at he1 hok he2 hsm hodd hyl hnx
      by_cases hr0:r=0
      ·subst hr0
       have he2:=he2 rfl
       clear h
       simp only[qeaV,d_,q_,f_,s_,s10,n_,t_,e11,s11,c11] at hr8 he1 he2 hsm
       repeat' (first|simp -implicitDefEqProofs only[go_sem,qeaV,d_,q_,f_,s_,s10,n_,t_,s11,e10,c11,List.length_map,hlt,decide_true,am_ he,e11,ea,decide_false]|refine ag_ (fun hb=>?_) (fun hb=>?_)|refine⟨fun hb=>?_,fun hb=>?_⟩|refine ac_ hr8 rfl rfl ?_|refine ac_ he1 rfl rfl ?_|refine ac_ he2 rfl rfl ?_|refine ac_ hsm rfl rfl ?_|fail)
       clear hr8 he1 he2 hsm
       refine al_ (fun n' st=>∃k:Nat,k+n'=y.length∧st=⟨174,[(1,s11 b),(2,e10 l),(3,.ref 3 0 0),(8,.seq 2 (odd.map oddV)),(9,.ref 9 0 0),(12,iv i),(13,c11 y),(15,c11 y),(17,iv k)],[(3,⟨false,taQ_,9,[qeaV q]⟩),(9,⟨false,taQ_,9,[qeaV P]⟩)]⟩) y.length ⟨0,by simp,by first | rfl | (simp [qeaV,d_,q_,f_,s_,s10,n_,t_,s11,e10,c11,e11];done) | (simp [qeaV,d_,q_,f_,s_,s10,n_,t_,s11,e10,c11,e11];rfl)⟩ ?_
       rintro J hJ n' st ⟨k,hk,rfl⟩
       by_cases hlk:k<y.length
       ·obtain⟨c,hc,hcm⟩:=as10 hlk
        have hwk:=ws_ hlk (by omega)
        have hltk:((k:Int)<(y.length:Int))=True:=by simp;exact hlk
        have hnk:=hJ (n' - 1) ⟨174,[(1,s11 b),(2,e10 l),(3,.ref 3 0 0),(8,.seq 2 (odd.map oddV)),(9,.ref 9 0 0),(12,iv i),(13,c11 y),(15,c11 y),(17,iv (k+1:Nat))],[(3,⟨false,taQ_,9,[qeaV q]⟩),(9,⟨false,taQ_,9,[qeaV P]⟩)]⟩ ⟨k+1,by omega,rfl⟩
        clear hJ
        have hodd:=hodd c hcm
        repeat' (first|simp -implicitDefEqProofs only[go_sem,qeaV,d_,q_,f_,s_,s10,n_,t_,s11,e10,c11,List.length_map,hltk,decide_true]|refine ag_ (fun hb=>?_) (fun hb=>?_)|refine⟨fun hb=>?_,fun hb=>?_⟩|fail)
        refine al_ (fun m' st=>∃j:Nat,j+m'=odd.length∧st=⟨174,[(1,s11 b),(2,e10 l),(3,.ref 3 0 0),(8,.seq 2 (odd.map oddV)),(9,.ref 9 0 0),(12,iv i),(13,c11 y),(15,c11 y),(17,iv k),(18,iv j)],[(3,⟨false,taQ_,9,[qeaV q]⟩),(9,⟨false,taQ_,9,[qeaV P]⟩)]⟩) odd.length ⟨0,by simp,by first | rfl | (simp [qeaV,d_,q_,f_,s_,s10,n_,t_,s11,e10,c11,e11];done) | (simp [qeaV,d_,q_,f_,s_,s10,n_,t_,s11,e10,c11,e11];rfl)⟩ ?_
        rintro K hK m' st ⟨j,hj,rfl⟩
        by_cases hlj:j<odd.length
        ·obtain⟨o,ho,hom⟩:=as10 hlj
         have hwj:=ws_ hlj (by omega)
         have hltj:((j:Int)<(odd.length:Int))=True:=by simp;exact hlj
         have hnj:=hK (m' - 1) ⟨174,[(1,s11 b),(2,e10 l),(3,.ref 3 0 0),(8,.seq 2 (odd.map oddV)),(9,.ref 9 0 0),(12,iv i),(13,c11 y),(15,c11 y),(17,iv k),(18,iv (j+1:Nat))],[(3,⟨false,taQ_,9,[qeaV q]⟩),(9,⟨false,taQ_,9,[qeaV P]⟩)]⟩ ⟨j+1,by omega,rfl⟩
         clear hK
         have hodd:=hodd o hom
         obtain⟨ok,on⟩:=o
         obtain⟨cs,cv⟩:=c
         dsimp only at hodd
         by_cases h1:ok=1
         ·have e1:(ok==1)=true:=by simp [h1]
          have e2:(on==cs)=false:=by simp [hodd h1]
          repeat' (first|simp -implicitDefEqProofs only[go_sem,qeaV,d_,q_,f_,s_,s10,n_,t_,s11,e10,c11,List.length_map,hltj,decide_true,am_ ho,am_ hc,oddV,cfgV,e1,e2,hwj]|refine ag_ (fun hb=>?_) (fun hb=>?_)|refine⟨fun hb=>?_,fun hb=>?_⟩|fail)
          exact aa_ (m' - 1) (by omega) hnj
         ·have e1:(ok==1)=false:=by simp [h1]
          repeat' (first|simp -implicitDefEqProofs only[go_sem,qeaV,d_,q_,f_,s_,s10,n_,t_,s11,e10,c11,List.length_map,hltj,decide_true,am_ ho,oddV,e1,hwj]|refine ag_ (fun hb=>?_) (fun hb=>?_)|refine⟨fun hb=>?_,fun hb=>?_⟩|fail)
          exact aa_ (m' - 1) (by omega) hnj
        ·have hltj:((j:Int)<(odd.length:Int))=False:=by simp;omega
         clear hK
         repeat' (first|simp -implicitDefEqProofs only[go_sem,qeaV,d_,q_,f_,s_,s10,n_,t_,s11,e10,c11,List.length_map,hltj,decide_false,hwk]|refine ag_ (fun hb=>?_) (fun hb=>?_)|refine⟨fun hb=>?_,fun hb=>?_⟩|fail)
         exact aa_ (n' - 1) (by omega) hnk
       ·have hltk:((k:Int)<(y.length:Int))=False:=by simp;omega
        clear hJ
        repeat' (first|simp -implicitDefEqProofs only[go_sem,qeaV,d_,q_,f_,s_,s10,n_,t_,s11,e10,c11,List.length_map,hltk,decide_false,hw]|refine ag_ (fun hb=>?_) (fun hb=>?_)|refine⟨fun hb=>?_,fun hb=>?_⟩|fail)
        exact aa_ (n - 1) (by omega) hnx
      ·have er:(r != 0)=true:=by simp [hr0]
       simp only[qeaV,d_,q_,f_,s_,s10,n_,t_,e11,s11,c11] at hr8 he1
       repeat' (first|simp -implicitDefEqProofs only[go_sem,qeaV,d_,q_,f_,s_,s10,n_,t_,s11,e10,c11,List.length_map,hlt,decide_true,am_ he,e11,ea,decide_false,er]|refine ag_ (fun hb=>?_) (fun hb=>?_)|refine⟨fun hb=>?_,fun hb=>?_⟩|refine ac_ hr8 rfl rfl ?_|refine ac_ he1 rfl rfl ?_|refine ac_ ha rfl rfl ?_|fail)
       exact h _ ⟨_,_,rfl,rfl,.refl _⟩
    ·have hlt:((i:Int)<(l.length:Int))=False:=by simp;omega
     clear hI
     repeat' (first|simp -implicitDefEqProofs only[go_sem,qeaV,d_,q_,f_,s_,s10,n_,t_,s11,e10,c11,List.length_map,hlt,decide_false]|refine ag_ (fun hb=>?_) (fun hb=>?_)|refine⟨fun hb=>?_,fun hb=>?_⟩|refine ac_ ha rfl rfl ?_|fail)
     exact h _ ⟨_,_,rfl,rfl,.refl _⟩
end Go.Proofs.YtjbcfpkibnhodaaGreatDoor.Ab
namespace Go.Proofs.YtjbcfpkibnhodaaGreatDoor.Ab
open Go Go.ChangeShapes Go.WideShapes Go.RowKit
structure QL64 (q:QeaT):Prop where
 nodes:∀x∈q.nodes,i64 x.value.int
 frees:∀x∈q.frees,i64 x.init.int
theorem r23:RdT Tryz.prog 104 5 fun cs=>∃a:FreeT,.agg cs=f11 a∧i64 a.init.int:=
 (rs_ (t:=104) (fs:=(Tryz.prog.fieldsOf 104)) (by kernel_rfl) (by kernel_rfl) (rc_ (f:=(Tryz.prog.fieldsOf 104)[0]!) (rStr (by kernel_rfl) (by kernel_rfl)) (by kernel_rfl) rfl (rc_ (f:=(Tryz.prog.fieldsOf 104)[1]!) r19 (by kernel_rfl) rfl (rn_ _)))).mono (by
  rintro _ ⟨_,_,rfl,⟨a,rfl⟩,_,_,rfl,⟨v,rfl,hv⟩,rfl⟩
  exact⟨⟨a,v⟩,rfl,hv⟩)
theorem r33:RdT Tryz.prog 30 9 fun cs=>∃q:{q:QeaT // QL64 q},.agg cs=qeaV q.1:=
 (rs_ (t:=30) (fs:=(Tryz.prog.fieldsOf 30)) (by kernel_rfl) (by kernel_rfl) (rc_ (f:=(Tryz.prog.fieldsOf 30)[0]!) (rStr (by kernel_rfl) (by kernel_rfl)) (by kernel_rfl) rfl (rc_ (f:=(Tryz.prog.fieldsOf 30)[1]!) (rl10 (t:=22) (by kernel_rfl) (by kernel_rfl) r35 (by decide)) (by kernel_rfl) rfl (rc_ (f:=(Tryz.prog.fieldsOf 30)[2]!) (rl10 (t:=23) (by kernel_rfl) (by kernel_rfl) r29 (by decide)) (by kernel_rfl) rfl (rc_ (f:=(Tryz.prog.fieldsOf 30)[3]!) (rl_ (t:=24) (by kernel_rfl) (by kernel_rfl) r23 (by decide)) (by kernel_rfl) rfl (rc_ (f:=(Tryz.prog.fieldsOf 30)[4]!) (rl10 (t:=25) (by kernel_rfl) (by kernel_rfl) r27 (by decide)) (by kernel_rfl) rfl (rc_ (f:=(Tryz.prog.fieldsOf 30)[5]!) (rInt (by kernel_rfl) (by kernel_rfl)) (by kernel_rfl) rfl (rc_ (f:=(Tryz.prog.fieldsOf 30)[6]!) (rl10 (t:=26) (by kernel_rfl) (by kernel_rfl) rSym (by decide)) (by kernel_rfl) rfl (rc_ (f:=(Tryz.prog.fieldsOf 30)[7]!) (rl_ (t:=27) (by kernel_rfl) (by kernel_rfl) r22 (by decide)) (by kernel_rfl) rfl (rc_ (f:=(Tryz.prog.fieldsOf 30)[8]!) (rl10 (t:=28) (by kernel_rfl) (by kernel_rfl) r26 (by decide)) (by kernel_rfl) rfl (rn_ _))))))))))).mono (by
  rintro _ ⟨_,_,rfl,⟨a,rfl⟩,_,_,rfl,⟨l1,rfl,_⟩,_,_,rfl,⟨l2,rfl,_⟩,_,_,rfl,⟨l3,rfl,_,h3⟩,_,_,rfl,⟨l4,rfl,_⟩,_,_,rfl,⟨s,rfl⟩,_,_,rfl,⟨l5,rfl,_⟩,_,_,rfl,⟨l6,rfl,_,h6⟩,_,_,rfl,⟨l7,rfl,_⟩,rfl⟩
  exact⟨⟨⟨a,l1,l2,l3,l4,s,l5,l6,l7⟩,⟨h6,h3⟩⟩,rfl⟩)
theorem r25:RdT Tryz.prog 72 2 fun cs=>∃e:EvT,.agg cs=e11 e∧∀v∈e.args,i64 v.int:=r30.mono (by
 rintro _ ⟨e,h⟩
 exact⟨e.1,h,e.2⟩)
theorem r24:RdT Tryz.prog 93 1 fun cs=>∃l:{l:List EvT // ∀e∈l,∀v∈e.args,i64 v.int},cs=[e10 l.1]:=
 (rl_ (by kernel_rfl) (by kernel_rfl) r25 (by decide)).mono (by
  rintro _ ⟨l,rfl,_,h⟩
  exact⟨⟨l,h⟩,rfl⟩)
theorem ha11 {W:World} {u:Nat} {x:Value} (h:W.var? Tryz.prog "errors.errorType" =some #[.iface u (.agg #[x])]) {e:AV} (hx:∀F nm,Rd W F nm e x):Rd W (oldF W) n10 (.eptr (.iface u (.agg [e])) 0) (.pointer (some ⟨6,0,none⟩))∧W_ W 6 (.iface u (.agg [e])):=by
 have hg:Tryz.prog.globalNamed "errors.errorType" =some 6:=by kernel_rfl
 simp only[World.var?,hg,Option.bind_some] at h
 split at h
 ·rename_i cs t fz hb
  simp only[Option.some.injEq] at h
  subst h
  refine⟨?_,_,t,fz,hb,rfl⟩
  have key:=Rd.eptr (w:=W) (F:=oldF W) n10 (.iface u (.agg [e])) 0 6 0 (fun _ =>.iface u (.agg #[x])) (Array.getElem?_eq_some_iff.1 hb).1
   (fun p hp=>by
    have:p=0:=by simp [AV.cells] at hp;omega
    subst this
    simp [World.cell?,hb])
   (fun p hp=>rfl)
   (fun j c hj=>by
    match j,hj with
    | 0,hj=>cases hj;exact .iface _ _ _ _ (.agg _ [_] [_] rfl fun j c z hc hz=>by
      match j,hc,hz with
      | 0,hc,hz=>cases hc;cases hz;exact hx _ _))
  simpa using key
 ·cases h
end Go.Proofs.YtjbcfpkibnhodaaGreatDoor.Ab
