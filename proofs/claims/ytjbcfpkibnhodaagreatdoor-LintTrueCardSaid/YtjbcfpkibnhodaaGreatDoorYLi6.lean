/-
  reach.Kind; lint: the closures, changed, first. Of an automaton that may be all nodes' expressions may be. proctorref16.Value at an expression without free variables, whatever the values. lint.never, proctorref39.never: whether a transition never fires, two ways. No claim is proved here.
-/
import Derived.Test.YtjbcfpkibnhodaaGreatDoorYS2
set_option linter.unusedSimpArgs false
set_option maxHeartbeats 4000000
set_option maxRecDepth 100000
namespace Go.Proofs.YtjbcfpkibnhodaaGreatDoor.Ab
open Go Go.RowKit
variable {G:Nat→Option AV}
theorem okC_i (f:Int):OkC [.eptr (iv f) 0]:=⟨fun _ =>rfl,fun _ _ =>rfl,fun _ =>rfl,fun _ _ =>rfl,fun _ =>rfl,fun _ =>rfl⟩
theorem oq12 (q:QeaT) (f:Int):OkC [.eptr (qeaV q) 0,.eptr (iv f) 0]:=⟨fun _ =>rfl,fun _ _ =>rfl,fun _ =>rfl,fun _ _ =>rfl,fun _ =>rfl,fun _ =>rfl⟩
theorem ot11 (l:List Int):OkC [.eptr (.seq 1 (l.map iv)) 0]:=⟨fun _ =>rfl,fun _ _ =>rfl,fun _ =>rfl,fun _ _ =>rfl,fun _ =>rfl,fun _ =>rfl⟩
theorem ot10 (l:List Int) (q:QeaT):OkC [.eptr (.seq 1 (l.map iv)) 0,.eptr (qeaV q) 0]:=⟨fun _ =>rfl,fun _ _ =>rfl,fun _ =>rfl,fun _ _ =>rfl,fun _ =>rfl,fun _ =>rfl⟩
def b16 (q:QeaT) (x:Int):Bool:=match at? q.states x with | some y=>!y.accept||y.next | none=>false
def a45 (q:QeaT) (x:Int):Bool:=match at? q.states x with | some y=>y.accept | none=>false
theorem rK1p_ (q:QeaT) (x:Int) (hx:0≤x∧x<q.states.length):P_ Tryz.prog G nrK1_ [iv x,.eptr (qeaV q) 0] (.bool (b16 q x)):=by
 obtain⟨k,rfl⟩:=Int.eq_ofNat_of_zero_le hx.1
 obtain⟨y,hy,_⟩:=as10 (l:=q.states) (i:=k) (by omega)
 refine prK1_ (Runs.of fun Φ h=>?_)
 unfold crK1_
 unfold b16 at h
 rw[at?_nat hy] at h
 obtain⟨yn,y1,y2⟩:=y
 dsimp only at h
 cases y1 <;> cases y2
 all_goals
  repeat' (first|simp -implicitDefEqProofs only[go_sem,qeaV,d_,q_,f_,s_,s10,n_,t_,am_ hy,s22]|refine ag_ (fun hb=>?_) (fun hb=>?_)|refine⟨fun hb=>?_,fun hb=>?_⟩|fail)
  exact h _ ⟨_,_,rfl,rfl,.refl _⟩
theorem rK2p_ (q:QeaT) (x:Int) (hx:0≤x∧x<q.states.length):P_ Tryz.prog G nrK2_ [iv x,.eptr (qeaV q) 0] (.bool (a45 q x)):=by
 obtain⟨k,rfl⟩:=Int.eq_ofNat_of_zero_le hx.1
 obtain⟨y,hy,_⟩:=as10 (l:=q.states) (i:=k) (by omega)
 refine prK2_ (Runs.of fun Φ h=>?_)
 unfold crK2_
 unfold a45 at h
 rw[at?_nat hy] at h
 obtain⟨yn,y1,y2⟩:=y
 dsimp only at h
 repeat' (first|simp -implicitDefEqProofs only[go_sem,qeaV,d_,q_,f_,s_,s10,n_,t_,am_ hy,s22]|refine ag_ (fun hb=>?_) (fun hb=>?_)|refine⟨fun hb=>?_,fun hb=>?_⟩|fail)
 exact h _ ⟨_,_,rfl,rfl,.refl _⟩
def k16 (q:QeaT) (s:Int):Int:=k20 (!((toL q.trans q.states.length s).any (b16 q))) (!((toL q.trans q.states.length s).any (a45 q)))
theorem rK10 (q:QeaT) (s:Nat) (hs:s<q.states.length) (hto:T_ q.trans q.states.length) (hn:q.states.length≤1000) (hl:q.trans.length≤1000000):P_ Tryz.prog G nrK_ [qeaV q,iv s] (iv (k16 q s)):=by
 have h1:=rt12 (G:=G) q s hs hto hn hl
 obtain⟨hok,_⟩:=to11 (l:=q.trans) (n:=q.states.length) (s:=(s:Int)) (fun t ht=>(hto t ht).2) ⟨by omega,by omega⟩
 have hln:=hok.len
 have h2:=sC10 (G:=G) nrK1_ [.eptr (qeaV q) 0] (by kernel_rfl) (oq_ q) (b16 q) (toL q.trans q.states.length (s:Int)) (fun x hx=>rK1p_ q x (hok.rng x hx)) (by omega)
 have h3:=sC10 (G:=G) nrK2_ [.eptr (qeaV q) 0] (by kernel_rfl) (oq_ q) (a45 q) (toL q.trans q.states.length (s:Int)) (fun x hx=>rK2p_ q x (hok.rng x hx)) (by omega)
 refine prK_ (Runs.of fun Φ h=>?_)
 unfold crK_
 unfold k16 at h
 have e1:((s:Int)<0)=False:=by simp
 have e2:((q.states.length:Int)≤(s:Int))=False:=by simp;omega
 clear hok hln
 generalize toL q.trans q.states.length (s:Int)=L at*
 generalize L.any (b16 q)=z1 at*
 generalize L.any (a45 q)=z2 at*
 simp only[qeaV,d_,q_,f_,s_,s10,n_,t_] at h1 h2 h3
 cases z1 <;> cases z2
 all_goals
  repeat' (first|simp -implicitDefEqProofs only[go_sem,qeaV,d_,q_,f_,s_,s10,n_,t_,List.length_map,e1,e2,decide_false]|refine ag_ (fun hb=>?_) (fun hb=>?_)|refine⟨fun hb=>?_,fun hb=>?_⟩|refine ac_ h1 rfl rfl ?_|refine ac_ h2 rfl rfl ?_|refine ac_ h3 rfl rfl ?_|fail)
  exact h _ ⟨_,_,rfl,rfl,.refl _⟩
theorem lA1p_ (to:List Int) (hl:to.length≤1000000) (i:Nat):P_ Tryz.prog G nlA1_ [iv i,.eptr (.seq 1 (to.map iv)) 0] (.bool (!(to.any fun y=>(i:Int)==y))):=by
 have h1:=sCiip_ (G:=G) to i (by omega)
 refine plA1_ (Runs.of fun Φ h=>?_)
 unfold clA1_
 generalize (to.any fun y=>(i:Int)==y)=z at*
 repeat' (first|simp -implicitDefEqProofs only[go_sem]|refine ag_ (fun hb=>?_) (fun hb=>?_)|refine⟨fun hb=>?_,fun hb=>?_⟩|refine ac_ h1 rfl rfl ?_|fail)
 exact h _ ⟨_,_,rfl,rfl,.refl _⟩
theorem lA2p_ (q:QeaT) (to:List Int) (hl0:to.length≤1000000) (i:Nat) (hs:i<q.states.length) (hto:T_ q.trans q.states.length) (hn:q.states.length≤1000) (hl:q.trans.length≤1000000):P_ Tryz.prog G nlA2_ [iv i,.eptr (.seq 1 (to.map iv)) 0,.eptr (qeaV q) 0] (.bool ((to.any fun y=>(i:Int)==y)&&k16 q i==2)):=by
 have h1:=sCiip_ (G:=G) to i (by omega)
 have h2:=rK10 (G:=G) q i hs hto hn hl
 refine plA2_ (Runs.of fun Φ h=>?_)
 unfold clA2_
 generalize (to.any fun y=>(i:Int)==y)=z at*
 generalize k16 q i=k at*
 simp only[qeaV,d_,q_,f_,s_,s10,n_,t_] at h2
 cases z
 all_goals
  repeat' (first|simp -implicitDefEqProofs only[go_sem,qeaV,d_,q_,f_,s_,s10,n_,t_]|refine ag_ (fun hb=>?_) (fun hb=>?_)|refine⟨fun hb=>?_,fun hb=>?_⟩|refine ac_ h1 rfl rfl ?_|refine ac_ h2 rfl rfl ?_|fail)
  exact h _ ⟨_,_,rfl,rfl,.refl _⟩
theorem sI11 (l:List NodeT) (v:NodeT) (hl:l.length<9223372036854775807):P_ Tryz.prog G ns14 [.seq 7 (l.map n11),n11 v] (iv (idxF (fun x=>v==x) l)):=by
 refine ps13 (Runs.of fun Φ h=>?_)
 unfold cs13
 simp -implicitDefEqProofs only[go_sem,List.length_map,n11]
 refine al_ (fun n st=>∃i:Nat,i+n=l.length∧st=⟨19,[(0,.seq 7 (l.map n11)),(3,.ref 3 0 0),(7,iv l.length),(8,iv i)],[(3,⟨false,taN_,7,[n11 v]⟩)]⟩∧∀j x,j<i→l[j]? =some x→(v==x)=false) l.length ⟨0,by simp,rfl,fun j x hj=>by omega⟩ ?_
 rintro I hI n st ⟨i,hi,rfl,hno⟩
 simp -implicitDefEqProofs only[go_sem,n11]
 refine⟨fun hlt=>?_,fun hge=>?_⟩
 ·have hlt':i<l.length:=by omega
  obtain⟨x,hx,hm⟩:=as10 hlt'
  have hw:=ws_ hlt' (by omega)
  have fin:(v==x)=false→a12 I n ⟨19,[(0,.seq 7 (l.map n11)),(3,.ref 3 0 0),(7,iv l.length),(8,iv (i+1:Nat))],[(3,⟨false,taN_,7,[n11 v]⟩)]⟩:=fun hv=>aa_ (n - 1) (by omega) (hI _ _ ⟨i+1,by omega,rfl,fun j y hj hy=>by
    by_cases e:j=i
    ·subst e;rw[hx] at hy;cases hy;exact hv
    ·exact hno j y (by omega) hy⟩)
  simp -implicitDefEqProofs only[go_sem,am_ hx,n11]
  refine⟨fun hb=>?_,fun hb=>?_⟩
  ·have hv:(v==x)=true:=by rw[n22];simpa using hb
   exact h _ ⟨_,_,rfl,rfl,fitI (ia10 hx hv hno).symm⟩
  ·have hv:(v==x)=false:=by rw[n22];simpa using hb
   simp -implicitDefEqProofs only[go_sem,hw]
   exact fin hv
 ·have:i=l.length:=by omega
  subst this
  exact h _ ⟨_,_,rfl,rfl,fitI (in10 hno).symm⟩
theorem sC12 (l:List NodeT) (v:NodeT) (hl:l.length<9223372036854775807):P_ Tryz.prog G ns12 [.seq 7 (l.map n11),n11 v] (.bool (l.any fun x=>v==x)):=by
 refine ps11 (Runs.of fun Φ h=>?_)
 unfold cs11
 simp -implicitDefEqProofs only[go_sem,n11]
 refine ac_ (sI11 l v hl) rfl rfl ?_
 simp -implicitDefEqProofs only[go_sem]
 exact h _ ⟨_,_,rfl,rfl,fitB (ia_ _ _)⟩
def f31 (i:Int):NodeT:=⟨3,i,0,v0⟩
theorem lA3p_ (q:QeaT) (hl:q.nodes.length≤1000000) (i:Nat):P_ Tryz.prog G nlA3_ [iv i,.eptr (qeaV q) 0] (.bool (!(q.nodes.any fun x=>f31 i==x))):=by
 have h1:=sC12 (G:=G) q.nodes (f31 i) (by omega)
 refine plA3_ (Runs.of fun Φ h=>?_)
 unfold clA3_
 generalize (q.nodes.any fun x=>f31 i==x)=z at*
 simp only[f31,n11,v0] at h1
 repeat' (first|simp -implicitDefEqProofs only[go_sem,qeaV,d_,q_,f_,s_,s10,n_,t_]|refine ag_ (fun hb=>?_) (fun hb=>?_)|refine⟨fun hb=>?_,fun hb=>?_⟩|refine ac_ h1 rfl rfl ?_|fail)
 exact h _ ⟨_,_,rfl,rfl,.refl _⟩
def f32 (f:Int):ArgT:=⟨3,f,v0⟩
def s27 (q:QeaT) (f:Int) (t:TransT):Bool:=match at? q.symbols t.symbol with | some s=>s.args.any (fun a=>f32 f==a) | none=>false
theorem lc11p_ (s:SetT) (f:Int):P_ Tryz.prog G nlc11_ [setV s,.eptr (iv f) 0] (.bool (s.free==f)):=by
 refine plc11_ (Runs.of fun Φ h=>?_)
 unfold clc11_
 repeat' (first|simp -implicitDefEqProofs only[go_sem,setV]|refine ag_ (fun hb=>?_) (fun hb=>?_)|refine⟨fun hb=>?_,fun hb=>?_⟩|fail)
 exact h _ ⟨_,_,rfl,rfl,.refl _⟩
theorem lc1p_ (q:QeaT) (f:Int) (t:TransT) (s:SymT) (hs:at? q.symbols t.symbol=some s) (h1:s.args.length≤1000000) (h2:t.sets.length≤1000000):P_ Tryz.prog G nlc1_ [t11 t,.eptr (qeaV q) 0,.eptr (iv f) 0] (.bool (s27 q f t||s32 f t)):=by
 have g1:=sCaAaAp_ (G:=G) s.args (f32 f) (by omega)
 have g2:=sC11 (G:=G) nlc11_ [.eptr (iv f) 0] (by kernel_rfl) (okC_i f) (fun x=>x.free==f) t.sets (fun x _ =>lc11p_ x f) (by omega)
 obtain⟨j,hj,hsj⟩:=at?_some hs
 refine plc1_ (Runs.of fun Φ h=>?_)
 unfold clc1_
 unfold s27 s32 at h
 rw[hs] at h
 dsimp only at h
 generalize (s.args.any fun a=>f32 f==a)=z1 at*
 generalize (t.sets.any fun x=>x.free==f)=z2 at*
 obtain⟨tf,ts,tt,tg,tsets⟩:=t
 obtain⟨se,sa⟩:=s
 dsimp only at hj
 subst hj
 simp only[f32,argV,v0] at g1
 cases z1
 all_goals
  repeat' (first|simp -implicitDefEqProofs only[go_sem,qeaV,d_,q_,f_,s_,s10,n_,t_,am_ hsj,symV,a10,t11,s14]|refine ag_ (fun hb=>?_) (fun hb=>?_)|refine⟨fun hb=>?_,fun hb=>?_⟩|refine ac_ g1 rfl rfl ?_|refine ac_ g2 rfl rfl ?_|fail)
  exact h _ ⟨_,_,rfl,rfl,.refl _⟩
def c19 (q:QeaT) (f:Int):Bool:=q.trans.any fun t=>s27 q f t||s32 f t
theorem lcp_ (q:QeaT) (hl:q.trans.length≤1000000) (hs:∀t∈q.trans,t.sets.length≤1000000∧∃s,at? q.symbols t.symbol=some s∧s.args.length≤1000000) (f:Int):P_ Tryz.prog G nlc_ [qeaV q,iv f] (.bool (c19 q f)):=by
 have g1:=sCaTaTp_ (G:=G) nlc1_ [.eptr (qeaV q) 0,.eptr (iv f) 0] (by kernel_rfl) (oq12 q f) (fun t=>s27 q f t||s32 f t) q.trans (fun t ht=>by
  obtain⟨h1,s,h2,h3⟩:=hs t ht
  exact lc1p_ q f t s h2 h3 h1) (by omega)
 refine plc_ (Runs.of fun Φ h=>?_)
 unfold clc_
 unfold c19 at h
 generalize (q.trans.any fun t=>s27 q f t||s32 f t)=z at*
 simp only[qeaV,d_,q_,f_,s_,s10,n_,t_] at g1
 repeat' (first|simp -implicitDefEqProofs only[go_sem,qeaV,d_,q_,f_,s_,s10,n_,t_]|refine ag_ (fun hb=>?_) (fun hb=>?_)|refine⟨fun hb=>?_,fun hb=>?_⟩|refine ac_ g1 rfl rfl ?_|fail)
 exact h _ ⟨_,_,rfl,rfl,.refl _⟩
theorem lA4p_ (q:QeaT) (hl:q.trans.length≤1000000) (hs:∀t∈q.trans,t.sets.length≤1000000∧∃s,at? q.symbols t.symbol=some s∧s.args.length≤1000000) (i:Nat):P_ Tryz.prog G nlA4_ [iv i,.eptr (qeaV q) 0] (.bool (!c19 q i)):=by
 have g1:=lcp_ (G:=G) q hl hs i
 refine plA4_ (Runs.of fun Φ h=>?_)
 unfold clA4_
 generalize c19 q i=z at*
 simp only[qeaV,d_,q_,f_,s_,s10,n_,t_] at g1
 repeat' (first|simp -implicitDefEqProofs only[go_sem,qeaV,d_,q_,f_,s_,s10,n_,t_]|refine ag_ (fun hb=>?_) (fun hb=>?_)|refine⟨fun hb=>?_,fun hb=>?_⟩|refine ac_ g1 rfl rfl ?_|fail)
 exact h _ ⟨_,_,rfl,rfl,.refl _⟩
theorem lA61p_ (s:SymT) (i:Int):P_ Tryz.prog G nlA61_ [symV s,.eptr (iv i) 0] (.bool (s.event==i)):=by
 refine plA61_ (Runs.of fun Φ h=>?_)
 unfold clA61_
 repeat' (first|simp -implicitDefEqProofs only[go_sem,symV,a10]|refine ag_ (fun hb=>?_) (fun hb=>?_)|refine⟨fun hb=>?_,fun hb=>?_⟩|fail)
 exact h _ ⟨_,_,rfl,rfl,.refl _⟩
theorem lA6p_ (q:QeaT) (hl:q.symbols.length≤1000000) (i:Nat):P_ Tryz.prog G nlA6_ [iv i,.eptr (qeaV q) 0] (.bool (!u20 q i)):=by
 have g1:=sCaSaSp_ (G:=G) nlA61_ [.eptr (iv i) 0] (by kernel_rfl) (okC_i i) (fun s=>s.event==(i:Int)) q.symbols (fun s _ =>lA61p_ s i) (by omega)
 refine plA6_ (Runs.of fun Φ h=>?_)
 unfold clA6_
 unfold u20 at h
 generalize (q.symbols.any fun s=>s.event==(i:Int))=z at*
 repeat' (first|simp -implicitDefEqProofs only[go_sem,qeaV,d_,q_,f_,s_,s10,n_,t_]|refine ag_ (fun hb=>?_) (fun hb=>?_)|refine⟨fun hb=>?_,fun hb=>?_⟩|refine ac_ g1 rfl rfl ?_|fail)
 exact h _ ⟨_,_,rfl,rfl,.refl _⟩
theorem lfp_ (q:QeaT) (_hl:q.nodes.length≤1000000) (g:Nat) (e:ExT) (he:(e13 q)[g]? =some e) (hk:¬e.kind=0):P_ Tryz.prog G nlf_ [qeaV q,iv g] (iv e.from_):=by
 have hlen:=el_ q q.nodes.length (Nat.le_refl _)
 refine plf_ (Runs.of fun Φ h=>?_)
 unfold clf_
 simp -implicitDefEqProofs only[go_sem,qeaV,d_,q_,f_,s_,s10,n_,t_]
 refine al_ (fun n st=>∃c,(e13 q)[n]? =some c∧¬c.kind=0∧c.from_=e.from_∧st=⟨20,[(1,iv n),(2,.ref 2 0 0)],[(2,⟨false,taQ_,9,[qeaV q]⟩)]⟩) g ⟨e,he,hk,rfl,rfl⟩ ?_
 rintro I hI n st ⟨c,hc,hck,hcf,rfl⟩
 have hn:n<q.nodes.length:=by
  have:=(List.getElem?_eq_some_iff.1 hc).1
  unfold e13 at this
  omega
 obtain⟨x,hx,_⟩:=as10 hn
 have e0:((0:Int)≤(n:Int))=True:=by simp
 have hd:=ed_ hc hck hx
 obtain⟨x1,x2,x3,⟨x4,x5,x6,x7⟩⟩:=x
 dsimp only at hd
 by_cases h3:x1≤3
 ·have e1:(x1≤3)=True:=by simp;exact h3
  have hfn:(n:Int)=e.from_:=by omega
  rw[←hfn] at h
  clear hI
  repeat' (first|simp -implicitDefEqProofs only[go_sem,qeaV,d_,q_,f_,s_,s10,n_,t_,e0,decide_true,am_ hx,n11,e1]|refine ag_ (fun hb=>?_) (fun hb=>?_)|refine⟨fun hb=>?_,fun hb=>?_⟩|fail)
  exact h _ ⟨_,_,rfl,rfl,.refl _⟩
 ·have e1:(x1≤3)=False:=by simp;omega
  obtain⟨j,c',hjn,hxa,hcj,hcjk,hcjf⟩:∃(j:Nat) (c':ExT),j<n∧x2=j∧(e13 q)[j]? =some c'∧¬c'.kind=0∧c'.from_=e.from_:=by
   rcases hd with ⟨h1,h2,_⟩ | ⟨_,_,j,c',rfl,h4,h5,h6,h7⟩ | ⟨_,_,j,k,bb,c',rfl,h4,h5,h6,_,_,_,h10,h11,h12⟩
   ·exact absurd h2 h3
   ·exact⟨j,c',by omega,h4,h5,h6,by omega⟩
   ·exact⟨k,c',by omega,h5,h10,h11,by omega⟩
  subst hxa
  have hnx:=hI j _ ⟨c',hcj,hcjk,hcjf,rfl⟩
  clear hI h
  repeat' (first|simp -implicitDefEqProofs only[go_sem,qeaV,d_,q_,f_,s_,s10,n_,t_,e0,decide_true,decide_false,am_ hx,n11,e1]|refine ag_ (fun hb=>?_) (fun hb=>?_)|refine⟨fun hb=>?_,fun hb=>?_⟩|fail)
  exact aa_ j hjn hnx
end Go.Proofs.YtjbcfpkibnhodaaGreatDoor.Ab
namespace Go.Proofs.YtjbcfpkibnhodaaGreatDoor.Ab
open Go
end Go.Proofs.YtjbcfpkibnhodaaGreatDoor.Ab
namespace Go.Proofs.YtjbcfpkibnhodaaGreatDoor.Ab
open Go
variable {G:Nat→Option AV}
end Go.Proofs.YtjbcfpkibnhodaaGreatDoor.Ab
namespace Go.Proofs.YtjbcfpkibnhodaaGreatDoor.Ab
open Go Go.RowKit
variable {G:Nat→Option AV}
structure QeaT.LintQ (q:QeaT):Prop where
 few:fewQ q=true
 right:r10 q=true
 n64:∀x∈q.nodes,i64 x.value.int
 f64:∀x∈q.frees,i64 x.init.int
def i12 (q:QeaT):List Val:=q.frees.map (·.init)
def o17 (l:List NodeT):Bool:=l.any fun x=>x.op==2||x.op==3
def n21 (q:QeaT) (g:Nat):Bool:=!((ev q [] (i12 q) g).2==0)|| !(ev q [] (i12 q) g).1.bool
def n18 (q:QeaT) (t:TransT):Bool:=if t.guard<0 then false else match at? (e13 q) t.guard with
 | some e=>if o17 (mid q.nodes e.from_ (t.guard+1))=true then false else n21 q t.guard.toNat
 | none=>false
section
variable {q:QeaT}
theorem fs10 (h:fewQ q=true):q.decls.length≤12∧q.frees.length≤12∧q.states.length≤12∧q.symbols.length≤12∧q.trans.length≤12∧q.nodes.length≤40:=by
 unfold fewQ f23 at h
 simp only[Bool.and_eq_true,decide_eq_true_eq] at h
 omega
theorem QeaT.LintQ.good (h:q.LintQ):q.Good:=by
 have hs:=fs10 h.few
 exact⟨fun t ht=>t15 h.right ht,h.n64,by omega,by omega⟩
theorem io_ (h:q.LintQ):∀v∈i12 q,VOk v:=fun v hv=>by
 obtain⟨f,hf,rfl⟩:=List.mem_map.1 hv
 have h1:=(rp_ h.right).1
 unfold h18 at h1
 simp only[Bool.and_eq_true] at h1
 obtain⟨i,hi⟩:=List.getElem?_of_mem hf
 exact⟨at10.1 h1.2.1 i f hi,h.f64 f hf⟩
theorem if11 (h:q.LintQ):f15 (i12 q) q.frees=true:=by
 refine ft_ (by simp [i12]) fun i v f hv hf=>?_
 unfold i12 at hv
 rw[List.getElem?_map,hf] at hv
 cases hv
 have:=(io_ h f.init (List.mem_map.2 ⟨f,List.mem_of_getElem? hf,rfl⟩)).1
 simp [f18,this]
theorem ie_ (h:q.LintQ):Env q [] (i12 q):=by
 have hs:=fs10 h.few
 exact⟨by simp,fun s hs=>(by cases hs),by simp [i12],io_ h,by simp [i12];omega⟩
end
theorem sIaNaNp_ (f:Nat) (caps:List AV) (hf:b_ Tryz.prog f=true) (hcap:OkC caps) (p:NodeT→Bool) (l:List NodeT) (hp:∀x∈l,P_ Tryz.prog G f (n11 x::caps) (.bool (p x))) (hl:l.length<9223372036854775807):
  P_ Tryz.prog G nsIaNaN_ [.seq 7 (l.map n11),.fn f caps] (iv (idxF p l)):=by
 refine psIaNaN_ (Runs.of fun Φ h=>?_)
 unfold csIaNaN_
 simp -implicitDefEqProofs only[go_sem,List.length_map]
 refine al_ (fun n st=>∃i:Nat,i+n=l.length∧st=⟨19,[(0,.seq 7 (l.map n11)),(1,.fn f caps),(7,iv l.length),(8,iv i)],[]⟩∧∀j x,j<i→l[j]? =some x→p x=false) l.length ⟨0,by simp,rfl,fun j x hj=>by omega⟩ ?_
 rintro I hI n st ⟨i,hi,rfl,hno⟩
 simp -implicitDefEqProofs only[go_sem]
 refine⟨fun hlt=>?_,fun hge=>?_⟩
 ·have hlt':i<l.length:=by omega
  obtain⟨x,hx,hm⟩:=as10 hlt'
  have hw:=ws_ hlt' (by omega)
  simp -implicitDefEqProofs only[go_sem,am_ hx,hcap.purge,n11]
  refine⟨hf,ac_ (hp x hm) (by simp [v10,flat,viewBs,viewB,viewK,viewK.go,hcap.viewBs,n11]) rfl ?_⟩
  cases hpx:p x
  ·simp -implicitDefEqProofs only[go_sem,hw,hcap.purge]
   exact aa_ (n - 1) (by omega) (hI _ _ ⟨i+1,by omega,rfl,fun j y hj hy=>by
    by_cases e:j=i
    ·subst e;rw[hx] at hy;cases hy;exact hpx
    ·exact hno j y (by omega) hy⟩)
  ·simp -implicitDefEqProofs only[go_sem,hcap.purge]
   exact h _ ⟨_,_,rfl,rfl,fitI (ia10 hx hpx hno).symm⟩
 ·have:i=l.length:=by omega
  subst this
  exact h _ ⟨_,_,rfl,rfl,fitI (in10 hno).symm⟩
theorem sCaNaNp_ (f:Nat) (caps:List AV) (hf:b_ Tryz.prog f=true) (hcap:OkC caps) (p:NodeT→Bool) (l:List NodeT) (hp:∀x∈l,P_ Tryz.prog G f (n11 x::caps) (.bool (p x))) (hl:l.length<9223372036854775807):
  P_ Tryz.prog G nsCaNaN_ [.seq 7 (l.map n11),.fn f caps] (.bool (l.any p)):=by
 refine psCaNaN_ (Runs.of fun Φ h=>?_)
 unfold csCaNaN_
 simp -implicitDefEqProofs only[go_sem]
 refine ac_ (sIaNaNp_ f caps hf hcap p l hp hl) (by simp [v10,flat,viewBs,viewB,viewK,hcap.viewK]) rfl ?_
 simp -implicitDefEqProofs only[go_sem,hcap.purge]
 exact h _ ⟨_,_,rfl,rfl,fitB (ia_ _ _)⟩
theorem ln1p_ (x:NodeT):P_ Tryz.prog G nln1_ [n11 x] (.bool (x.op==2||x.op==3)):=by
 refine pln1_ (Runs.of fun Φ h=>?_)
 unfold cln1_
 obtain⟨x1,x2,x3,⟨x4,x5,x6,x7⟩⟩:=x
 dsimp only at h
 generalize hz1:(x1==2)=z1 at*
 generalize hz2:(x1==3)=z2 at*
 cases z1 <;> cases z2
 all_goals
  repeat' (first|simp -implicitDefEqProofs only[go_sem,n11,hz1,hz2]|refine ag_ (fun hb=>?_) (fun hb=>?_)|refine⟨fun hb=>?_,fun hb=>?_⟩|fail)
  exact h _ ⟨_,_,rfl,rfl,.refl _⟩
theorem lnp_ (hG:errG G) {q:QeaT} (hq:q.LintQ) (t:TransT) (ht:t∈q.trans):P_ Tryz.prog G nln_ [qeaV q,t11 t] (.bool (n18 q t)):=by
 have hsz:=fs10 hq.few
 refine pln_ (Runs.of fun Φ h=>?_)
 unfold cln_
 unfold n18 at h
 by_cases hg:t.guard<0
 ·rw[if_pos hg] at h
  have e1:(t.guard<0)=True:=by simp;exact hg
  obtain⟨tf,ts,tt,tg,tsets⟩:=t
  dsimp only at e1
  repeat' (first|simp -implicitDefEqProofs only[go_sem,qeaV,d_,q_,f_,s_,s10,n_,t_,t11,s14,e1,decide_true]|refine ag_ (fun hb=>?_) (fun hb=>?_)|refine⟨fun hb=>?_,fun hb=>?_⟩|fail)
  exact h _ ⟨_,_,rfl,rfl,.refl _⟩
 ·rw[if_neg hg] at h
  have e1:(t.guard<0)=False:=by simp;omega
  obtain⟨e,he,hk⟩:=(t15 hq.right ht).guard (by omega)
  obtain⟨tf,ts,tt,tg,tsets⟩:=t
  dsimp only at hg h e1 he
  obtain⟨g,rfl⟩:=Int.eq_ofNat_of_zero_le (show 0≤tg by omega)
  rw[Int.toNat_natCast] at he h
  rw[at?_nat he] at h
  dsimp only at h
  have hlen:=el_ q q.nodes.length (Nat.le_refl _)
  have hgn:g<q.nodes.length:=by
   have:=(List.getElem?_eq_some_iff.1 he).1
   unfold e13 at this
   omega
  have hfr:=ef_ g e he hk
  have hfi:=lfp_ (G:=G) q (by omega) g e he hk
  have hwg:=ws_ hgn (by omega)
  have hcf:=sCaNaNp_ (G:=G) nln1_ [] (by kernel_rfl) on_ (fun x=>x.op==2||x.op==3) (mid q.nodes e.from_ ((g+1:Nat):Int)) (fun x _ =>ln1p_ x) (by unfold mid;simp;omega)
  rw[show (mid q.nodes e.from_ ((g+1:Nat):Int)).any (fun x=>x.op==2||x.op==3)=o17 (mid q.nodes e.from_ ((g+1:Nat):Int)) from rfl] at hcf
  rw[show (g:Int)+1=((g+1:Nat):Int) by omega] at h
  have hev:=eVp_ (G:=G) hG (b:=[]) (vals:=i12 q) (by omega) (so10 q hq.n64) (ie_ hq) (if11 hq) (by omega) g ⟨e,he,hk⟩
  have hev:=P_.fit2 (P:=Tryz.prog) (f:=neV_) (args:=[qeaV q,iv g,.nils,v_ (i12 q)]) (args':=[qeaV q,iv g,s11 [],v_ (i12 q)]) rfl (fun j c d hc hd=>by
   match j,hc,hd with
   | 0,hc,hd=>cases hc;cases hd;exact .refl _
   | 1,hc,hd=>cases hc;cases hd;exact .refl _
   | 2,hc,hd=>cases hc;cases hd;exact .nil _
   | 3,hc,hd=>cases hc;cases hd;exact .refl _) hev
  unfold n21 at h
  have hmid:aslc 7 (.seq 7 (q.nodes.map n11)) (some (.int .i64 e.from_)) (some (.int .i64 ((g+1:Nat):Int)))=some (.seq 7 ((mid q.nodes e.from_ ((g+1:Nat):Int)).map n11)):=am10 (by decide) hfr.1 (by omega) (by omega)
  generalize mid q.nodes e.from_ ((g+1:Nat):Int)=M at*
  generalize ev q [] (i12 q) g=r at*
  generalize e.from_=a at*
  simp only[qeaV,d_,q_,f_,s_,s10,n_,t_] at hfi
  cases hO:o17 M with
  | true=>
   rw[hO,if_pos rfl] at h
   rw[hO] at hcf
   repeat' (first|simp -implicitDefEqProofs only[go_sem,qeaV,d_,q_,f_,s_,s10,n_,t_,t11,s14,e1,decide_false,hwg,hmid]|refine ag_ (fun hb=>?_) (fun hb=>?_)|refine⟨fun hb=>?_,fun hb=>?_⟩|refine ac_ hfi rfl rfl ?_|refine ac_ hcf rfl rfl ?_|fail)
   exact h _ ⟨_,_,rfl,rfl,.refl _⟩
  | false=>
   rw[hO,if_neg (by simp)] at h
   rw[hO] at hcf
   repeat' (first|simp -implicitDefEqProofs only[go_sem,qeaV,d_,q_,f_,s_,s10,n_,t_,t11,s14,e1,decide_false,hwg,hmid,List.length_map]|refine ag_ (fun hb=>?_) (fun hb=>?_)|refine⟨fun hb=>?_,fun hb=>?_⟩|refine ac_ hfi rfl rfl ?_|refine ac_ hcf rfl rfl ?_|fail)
   refine al_ (fun n st=>∃i:Nat,i+n=q.frees.length∧st=⟨54,[(2,.ref 2 0 0),(3,.ref 3 0 0),(6,.arr 6 0 i),(27,.seq 5 (q.frees.map f11)),(28,iv q.frees.length),(29,iv i)],[(2,⟨false,taQ_,9,[qeaV q]⟩),(3,⟨false,taT_,5,[t11 ⟨tf,ts,tt,(g:Int),tsets⟩]⟩),(6,⟨true,taV_,4,((i12 q).take i).map valV⟩)]⟩) q.frees.length ⟨0,by simp,rfl⟩ ?_
   rintro I hI n st ⟨i,hi,rfl⟩
   have hil:(i12 q).length=q.frees.length:=by simp [i12]
   by_cases hlt':i<q.frees.length
   ·obtain⟨f,hf,_⟩:=as10 hlt'
    have hw:=ws_ hlt' (by omega)
    have hlt:((i:Int)<(q.frees.length:Int))=True:=by simp;exact hlt'
    have hfi2:(i12 q)[i]? =some f.init:=by unfold i12;rw[List.getElem?_map,hf];rfl
    have htk:((i12 q).take (i+1)).map valV=((i12 q).take i).map valV++[valV f.init]:=by rw[List.take_add_one,hfi2];simp
    have hlk:(((i12 q).take i).map valV).length=i:=by simp [hil];omega
    have hb1:(i+1)*40≤140737488355328:=by omega
    have hnx:=hI (n - 1) _ ⟨i+1,by omega,rfl⟩
    clear hI h hev
    rw[htk] at hnx
    generalize ((i12 q).take i).map valV=R at*
    obtain⟨fn,⟨f1,f2,f3,f4⟩⟩:=f
    simp only[valV] at hnx
    repeat' (first|simp -implicitDefEqProofs only[go_sem,hlt,decide_true,am_ hf,f11,hw,hlk,hb1]|refine ag_ (fun hb=>?_) (fun hb=>?_)|refine⟨fun hb=>?_,fun hb=>?_⟩|fail)
    exact aa_ (n - 1) (by omega) hnx
   ·have hlt:((i:Int)<(q.frees.length:Int))=False:=by simp;omega
    have hin:i=q.frees.length:=by omega
    subst hin
    rw[List.take_of_length_le (by omega)]
    have hlk:((i12 q).map valV).length=q.frees.length:=by simp [hil]
    have htk:List.take q.frees.length ((i12 q).map valV)=(i12 q).map valV:=List.take_of_length_le (by omega)
    clear hI
    simp only[v_,qeaV,d_,q_,f_,s_,s10,n_,t_] at hev
    obtain⟨⟨k,m,s,bt⟩,er⟩:=r
    unfold vt at hev
    simp only[valV] at hev
    generalize (i12 q).map valV=R at*
    dsimp only at h
    by_cases h0:er=0
    ·subst h0
     repeat' (first|simp -implicitDefEqProofs only[go_sem,hlt,decide_false,qeaV,d_,q_,f_,s_,s10,n_,t_,t11,s14]|refine ag_ (fun hb=>?_) (fun hb=>?_)|refine⟨fun hb=>?_,fun hb=>?_⟩|(refine ac_ hev ?_ rfl ?_;(focus (simp [v10,flat,flat.go,viewBs,viewB,viewK,viewK.go,hget,htk,hlk];done)))|fail)
     exact h _ ⟨_,_,rfl,rfl,.refl _⟩
    ·have e2:(er != 0)=true:=by simp [h0]
     have e3:(er==0)=false:=by simp [h0]
     rw[e3] at h
     repeat' (first|simp -implicitDefEqProofs only[go_sem,hlt,decide_false,qeaV,d_,q_,f_,s_,s10,n_,t_,t11,s14,e2]|refine ag_ (fun hb=>?_) (fun hb=>?_)|refine⟨fun hb=>?_,fun hb=>?_⟩|(refine ac_ hev ?_ rfl ?_;(focus (simp [v10,flat,flat.go,viewBs,viewB,viewK,viewK.go,hget,htk,hlk];done)))|fail)
     exact h _ ⟨_,_,rfl,rfl,.refl _⟩
theorem co_ {q:QeaT} {a g:Nat} (h:o17 (mid q.nodes (a:Int) ((g+1:Nat):Int))=false):C10 q a g:=by
 intro j x h1 h2 hx
 unfold o17 at h
 rw[List.any_eq_false] at h
 have hm:x∈mid q.nodes (a:Int) ((g+1:Nat):Int):=by
  unfold mid
  rw[Int.toNat_natCast,Int.toNat_natCast]
  refine List.mem_of_getElem? (i:=j - a) ?_
  rw[List.getElem?_take_of_lt (by omega),List.getElem?_drop,show a+(j - a)=j by omega]
  exact hx
 have:=h x hm
 simp only[Bool.or_eq_true,beq_iff_eq,not_or] at this
 exact this
end Go.Proofs.YtjbcfpkibnhodaaGreatDoor.Ab
