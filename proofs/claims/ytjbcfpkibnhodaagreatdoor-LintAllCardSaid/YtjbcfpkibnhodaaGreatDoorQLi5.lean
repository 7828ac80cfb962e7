/-
  core.Same, and what it calls. reach.Kind; lint: the closures, changed, first. No claim is proved here.
-/
import Derived.Test.YtjbcfpkibnhodaaGreatDoorQLi4
namespace Go.Proofs.YtjbcfpkibnhodaaGreatDoor.Ab
open Go
set_option linter.unusedSimpArgs false
set_option maxHeartbeats 4000000
variable {G:Nat→Option AV}
theorem n21 (a b:NodeT):(a==b)=(a.op==b.op&&(a.a==b.a&&(a.b==b.b&&(a.value.kind==b.value.kind&&(a.value.int==b.value.int&&(a.value.str==b.value.str&&(a.value.bool==b.value.bool&&true))))))):=by
 obtain⟨a1,a2,a3,a4,a5,a6,a7⟩:=a
 obtain⟨b1,b2,b3,b4,b5,b6,b7⟩:=b
 rw[Bool.eq_iff_iff]
 simp
end Go.Proofs.YtjbcfpkibnhodaaGreatDoor.Ab
namespace Go.Proofs.YtjbcfpkibnhodaaGreatDoor.Ab
open Go Go.RowKit
set_option linter.unusedSimpArgs false
set_option maxHeartbeats 4000000
set_option maxRecDepth 100000
variable {G:Nat→Option AV}
theorem okC_i (f:Int):OkC [.eptr (iv f) 0]:=⟨fun _ =>rfl,fun _ _ =>rfl,fun _ =>rfl,fun _ _ =>rfl,fun _ =>rfl,fun _ =>rfl⟩
theorem oq12 (q:QeaT) (f:Int):OkC [.eptr (qeaV q) 0,.eptr (iv f) 0]:=⟨fun _ =>rfl,fun _ _ =>rfl,fun _ =>rfl,fun _ _ =>rfl,fun _ =>rfl,fun _ =>rfl⟩
theorem ot11 (l:List Int):OkC [.eptr (.seq 1 (l.map iv)) 0]:=⟨fun _ =>rfl,fun _ _ =>rfl,fun _ =>rfl,fun _ _ =>rfl,fun _ =>rfl,fun _ =>rfl⟩
theorem ot10 (l:List Int) (q:QeaT):OkC [.eptr (.seq 1 (l.map iv)) 0,.eptr (qeaV q) 0]:=⟨fun _ =>rfl,fun _ _ =>rfl,fun _ =>rfl,fun _ _ =>rfl,fun _ =>rfl,fun _ =>rfl⟩
def b16 (q:QeaT) (x:Int):Bool:=match at? q.states x with | some y=>!y.accept||y.next | none=>false
def a32 (q:QeaT) (x:Int):Bool:=match at? q.states x with | some y=>y.accept | none=>false
theorem rK1p_ (q:QeaT) (x:Int) (hx:0≤x∧x<q.states.length):P_ Tryz.prog G nrK1_ [iv x,.eptr (qeaV q) 0] (.bool (b16 q x)):=by
 obtain⟨k,rfl⟩:=Int.eq_ofNat_of_zero_le hx.1
 obtain⟨y,hy,_⟩:=as10 (l:=q.states) (i:=k) (by omega)
 refine prK1_ (Runs.of fun Φ h=>?_)
 unfold crK1_
 unfold b16 at h
 rw[at?_nat hy] at h
 obtain⟨yn,y1,y2⟩:=y
 dsimp only at h
 cases y1 <;> cases y2
 all_goals
  repeat' (first | (simp -implicitDefEqProofs only[go_sem,qeaV,d_,q_,f_,s_,s10,n_,t_,am_ hy,s19]) | refine ag_ (fun hb=>?_) (fun hb=>?_) | refine⟨fun hb=>?_,fun hb=>?_⟩ | fail)
  exact h _ ⟨_,_,rfl,rfl,.refl _⟩
theorem rK2p_ (q:QeaT) (x:Int) (hx:0≤x∧x<q.states.length):P_ Tryz.prog G nrK2_ [iv x,.eptr (qeaV q) 0] (.bool (a32 q x)):=by
 obtain⟨k,rfl⟩:=Int.eq_ofNat_of_zero_le hx.1
 obtain⟨y,hy,_⟩:=as10 (l:=q.states) (i:=k) (by omega)
 refine prK2_ (Runs.of fun Φ h=>?_)
 unfold crK2_
 unfold a32 at h
 rw[at?_nat hy] at h
 obtain⟨yn,y1,y2⟩:=y
 dsimp only at h
 repeat' (first | (simp -implicitDefEqProofs only[go_sem,qeaV,d_,q_,f_,s_,s10,n_,t_,am_ hy,s19]) | refine ag_ (fun hb=>?_) (fun hb=>?_) | refine⟨fun hb=>?_,fun hb=>?_⟩ | fail)
 exact h _ ⟨_,_,rfl,rfl,.refl _⟩
def k16 (q:QeaT) (s:Int):Int:=k18 (!((toL q.trans q.states.length s).any (b16 q))) (!((toL q.trans q.states.length s).any (a32 q)))
theorem rK11 (q:QeaT) (s:Nat) (hs:s<q.states.length) (hto:T_ q.trans q.states.length) (hn:q.states.length≤1000) (hl:q.trans.length≤1000000):P_ Tryz.prog G nrK_ [qeaV q,iv s] (iv (k16 q s)):=by
 have h1:=rt12 (G:=G) q s hs hto hn hl
 obtain⟨hok,_⟩:=to11 (l:=q.trans) (n:=q.states.length) (s:=(s:Int)) (fun t ht=>(hto t ht).2) ⟨by omega,by omega⟩
 have hln:=hok.len
 have h2:=sC10 (G:=G) nrK1_ [.eptr (qeaV q) 0] (by kernel_rfl) (oq_ q) (b16 q) (toL q.trans q.states.length (s:Int)) (fun x hx=>rK1p_ q x (hok.rng x hx)) (by omega)
 have h3:=sC10 (G:=G) nrK2_ [.eptr (qeaV q) 0] (by kernel_rfl) (oq_ q) (a32 q) (toL q.trans q.states.length (s:Int)) (fun x hx=>rK2p_ q x (hok.rng x hx)) (by omega)
 refine prK_ (Runs.of fun Φ h=>?_)
 unfold crK_
 unfold k16 at h
 have e1:((s:Int)<0)=False:=by simp
 have e2:((q.states.length:Int)≤(s:Int))=False:=by simp;omega
 clear hok hln
 generalize toL q.trans q.states.length (s:Int)=L at*
 generalize L.any (b16 q)=z1 at*
 generalize L.any (a32 q)=z2 at*
 simp only[qeaV,d_,q_,f_,s_,s10,n_,t_] at h1 h2 h3
 cases z1 <;> cases z2
 all_goals
  repeat' (first | (simp -implicitDefEqProofs only[go_sem,qeaV,d_,q_,f_,s_,s10,n_,t_,List.length_map,e1,e2,decide_false]) | refine ag_ (fun hb=>?_) (fun hb=>?_) | refine⟨fun hb=>?_,fun hb=>?_⟩ | refine ac_ (h1) rfl rfl ?_ | refine ac_ (h2) rfl rfl ?_ | refine ac_ (h3) rfl rfl ?_ | fail)
  exact h _ ⟨_,_,rfl,rfl,.refl _⟩
theorem lA1p_ (to:List Int) (hl:to.length≤1000000) (i:Nat):P_ Tryz.prog G nlA1_ [iv i,.eptr (.seq 1 (to.map iv)) 0] (.bool (!(to.any fun y=>(i:Int)==y))):=by
 have h1:=sCiip_ (G:=G) to i (by omega)
 refine plA1_ (Runs.of fun Φ h=>?_)
 unfold clA1_
 generalize (to.any fun y=>(i:Int)==y)=z at*
 repeat' (first | (simp -implicitDefEqProofs only[go_sem]) | refine ag_ (fun hb=>?_) (fun hb=>?_) | refine⟨fun hb=>?_,fun hb=>?_⟩ | refine ac_ (h1) rfl rfl ?_ | fail)
 exact h _ ⟨_,_,rfl,rfl,.refl _⟩
theorem lA2p_ (q:QeaT) (to:List Int) (hl0:to.length≤1000000) (i:Nat) (hs:i<q.states.length) (hto:T_ q.trans q.states.length) (hn:q.states.length≤1000) (hl:q.trans.length≤1000000):P_ Tryz.prog G nlA2_ [iv i,.eptr (.seq 1 (to.map iv)) 0,.eptr (qeaV q) 0] (.bool ((to.any fun y=>(i:Int)==y)&&k16 q i==2)):=by
 have h1:=sCiip_ (G:=G) to i (by omega)
 have h2:=rK11 (G:=G) q i hs hto hn hl
 refine plA2_ (Runs.of fun Φ h=>?_)
 unfold clA2_
 generalize (to.any fun y=>(i:Int)==y)=z at*
 generalize k16 q i=k at*
 simp only[qeaV,d_,q_,f_,s_,s10,n_,t_] at h2
 cases z
 all_goals
  repeat' (first | (simp -implicitDefEqProofs only[go_sem,qeaV,d_,q_,f_,s_,s10,n_,t_]) | refine ag_ (fun hb=>?_) (fun hb=>?_) | refine⟨fun hb=>?_,fun hb=>?_⟩ | refine ac_ (h1) rfl rfl ?_ | refine ac_ (h2) rfl rfl ?_ | fail)
  exact h _ ⟨_,_,rfl,rfl,.refl _⟩
theorem sI11 (l:List NodeT) (v:NodeT) (hl:l.length<9223372036854775807):P_ Tryz.prog G ns14 [.seq 7 (l.map n11),n11 v] (iv (idxF (fun x=>v==x) l)):=by
 refine ps13 (Runs.of fun Φ h=>?_)
 unfold cs13
 simp -implicitDefEqProofs only[go_sem,List.length_map,n11]
 refine al_ (fun n st=>∃i:Nat,i+n=l.length∧st=⟨19,[(0,.seq 7 (l.map n11)),(3,.ref 3 0 0),(7,iv l.length),(8,iv i)],[(3,⟨false,taN_,7,[n11 v]⟩)]⟩∧∀j x,j<i→l[j]? =some x→(v==x)=false) l.length ⟨0,by simp,rfl,fun j x hj=>by omega⟩ ?_
 rintro I hI n st ⟨i,hi,rfl,hno⟩
 simp -implicitDefEqProofs only[go_sem,n11]
 refine⟨fun hlt=>?_,fun hge=>?_⟩
 ·have hlt':i<l.length:=by omega
  obtain⟨x,hx,hm⟩:=as10 hlt'
  have hw:=ws_ hlt' (by omega)
  have fin:(v==x)=false→a12 I n ⟨19,[(0,.seq 7 (l.map n11)),(3,.ref 3 0 0),(7,iv l.length),(8,iv (i+1:Nat))],[(3,⟨false,taN_,7,[n11 v]⟩)]⟩:=fun hv=>aa_ (n - 1) (by omega) (hI _ _ ⟨i+1,by omega,rfl,fun j y hj hy=>by
    by_cases e:j=i
    ·subst e;rw[hx] at hy;cases hy;exact hv
    ·exact hno j y (by omega) hy⟩)
  simp -implicitDefEqProofs only[go_sem,am_ hx,n11]
  refine⟨fun hb=>?_,fun hb=>?_⟩
  ·have hv:(v==x)=true:=by rw[n21];simpa using hb
   exact h _ ⟨_,_,rfl,rfl,fitI (ia10 hx hv hno).symm⟩
  ·have hv:(v==x)=false:=by rw[n21];simpa using hb
   simp -implicitDefEqProofs only[go_sem,hw]
   exact fin hv
 ·have:i=l.length:=by omega
  subst this
  exact h _ ⟨_,_,rfl,rfl,fitI (in10 hno).symm⟩
theorem sC12 (l:List NodeT) (v:NodeT) (hl:l.length<9223372036854775807):P_ Tryz.prog G ns12 [.seq 7 (l.map n11),n11 v] (.bool (l.any fun x=>v==x)):=by
 refine ps11 (Runs.of fun Φ h=>?_)
 unfold cs11
 simp -implicitDefEqProofs only[go_sem,n11]
 refine ac_ (sI11 l v hl) rfl rfl ?_
 simp -implicitDefEqProofs only[go_sem]
 exact h _ ⟨_,_,rfl,rfl,fitB (ia_ _ _)⟩
def f22 (i:Int):NodeT:=⟨3,i,0,v0⟩
theorem lA3p_ (q:QeaT) (hl:q.nodes.length≤1000000) (i:Nat):P_ Tryz.prog G nlA3_ [iv i,.eptr (qeaV q) 0] (.bool (!(q.nodes.any fun x=>f22 i==x))):=by
 have h1:=sC12 (G:=G) q.nodes (f22 i) (by omega)
 refine plA3_ (Runs.of fun Φ h=>?_)
 unfold clA3_
 generalize (q.nodes.any fun x=>f22 i==x)=z at*
 simp only[f22,n11,v0] at h1
 repeat' (first | (simp -implicitDefEqProofs only[go_sem,qeaV,d_,q_,f_,s_,s10,n_,t_]) | refine ag_ (fun hb=>?_) (fun hb=>?_) | refine⟨fun hb=>?_,fun hb=>?_⟩ | refine ac_ (h1) rfl rfl ?_ | fail)
 exact h _ ⟨_,_,rfl,rfl,.refl _⟩
def f23 (f:Int):ArgT:=⟨3,f,v0⟩
def s21 (q:QeaT) (f:Int) (t:TransT):Bool:=match at? q.symbols t.symbol with | some s=>s.args.any (fun a=>f23 f==a) | none=>false
theorem lc11p_ (s:SetT) (f:Int):P_ Tryz.prog G nlc11_ [setV s,.eptr (iv f) 0] (.bool (s.free==f)):=by
 refine plc11_ (Runs.of fun Φ h=>?_)
 unfold clc11_
 repeat' (first | (simp -implicitDefEqProofs only[go_sem,setV]) | refine ag_ (fun hb=>?_) (fun hb=>?_) | refine⟨fun hb=>?_,fun hb=>?_⟩ | fail)
 exact h _ ⟨_,_,rfl,rfl,.refl _⟩
theorem lc1p_ (q:QeaT) (f:Int) (t:TransT) (s:SymT) (hs:at? q.symbols t.symbol=some s) (h1:s.args.length≤1000000) (h2:t.sets.length≤1000000):P_ Tryz.prog G nlc1_ [t11 t,.eptr (qeaV q) 0,.eptr (iv f) 0] (.bool (s21 q f t||s25 f t)):=by
 have g1:=sCaAaAp_ (G:=G) s.args (f23 f) (by omega)
 have g2:=sC11 (G:=G) nlc11_ [.eptr (iv f) 0] (by kernel_rfl) (okC_i f) (fun x=>x.free==f) t.sets (fun x _ =>lc11p_ x f) (by omega)
 obtain⟨j,hj,hsj⟩:=at?_some hs
 refine plc1_ (Runs.of fun Φ h=>?_)
 unfold clc1_
 unfold s21 s25 at h
 rw[hs] at h
 dsimp only at h
 generalize (s.args.any fun a=>f23 f==a)=z1 at*
 generalize (t.sets.any fun x=>x.free==f)=z2 at*
 obtain⟨tf,ts,tt,tg,tsets⟩:=t
 obtain⟨se,sa⟩:=s
 dsimp only at hj
 subst hj
 simp only[f23,argV,v0] at g1
 cases z1
 all_goals
  repeat' (first | (simp -implicitDefEqProofs only[go_sem,qeaV,d_,q_,f_,s_,s10,n_,t_,am_ hsj,symV,a_,t11,s14]) | refine ag_ (fun hb=>?_) (fun hb=>?_) | refine⟨fun hb=>?_,fun hb=>?_⟩ | refine ac_ (g1) rfl rfl ?_ | refine ac_ (g2) rfl rfl ?_ | fail)
  exact h _ ⟨_,_,rfl,rfl,.refl _⟩
def c16 (q:QeaT) (f:Int):Bool:=q.trans.any fun t=>s21 q f t||s25 f t
theorem lcp_ (q:QeaT) (hl:q.trans.length≤1000000) (hs:∀t∈q.trans,t.sets.length≤1000000∧∃s,at? q.symbols t.symbol=some s∧s.args.length≤1000000) (f:Int):P_ Tryz.prog G nlc_ [qeaV q,iv f] (.bool (c16 q f)):=by
 have g1:=sCaTaTp_ (G:=G) nlc1_ [.eptr (qeaV q) 0,.eptr (iv f) 0] (by kernel_rfl) (oq12 q f) (fun t=>s21 q f t||s25 f t) q.trans (fun t ht=>by
  obtain⟨h1,s,h2,h3⟩:=hs t ht
  exact lc1p_ q f t s h2 h3 h1) (by omega)
 refine plc_ (Runs.of fun Φ h=>?_)
 unfold clc_
 unfold c16 at h
 generalize (q.trans.any fun t=>s21 q f t||s25 f t)=z at*
 simp only[qeaV,d_,q_,f_,s_,s10,n_,t_] at g1
 repeat' (first | (simp -implicitDefEqProofs only[go_sem,qeaV,d_,q_,f_,s_,s10,n_,t_]) | refine ag_ (fun hb=>?_) (fun hb=>?_) | refine⟨fun hb=>?_,fun hb=>?_⟩ | refine ac_ (g1) rfl rfl ?_ | fail)
 exact h _ ⟨_,_,rfl,rfl,.refl _⟩
theorem lA4p_ (q:QeaT) (hl:q.trans.length≤1000000) (hs:∀t∈q.trans,t.sets.length≤1000000∧∃s,at? q.symbols t.symbol=some s∧s.args.length≤1000000) (i:Nat):P_ Tryz.prog G nlA4_ [iv i,.eptr (qeaV q) 0] (.bool (!c16 q i)):=by
 have g1:=lcp_ (G:=G) q hl hs i
 refine plA4_ (Runs.of fun Φ h=>?_)
 unfold clA4_
 generalize c16 q i=z at*
 simp only[qeaV,d_,q_,f_,s_,s10,n_,t_] at g1
 repeat' (first | (simp -implicitDefEqProofs only[go_sem,qeaV,d_,q_,f_,s_,s10,n_,t_]) | refine ag_ (fun hb=>?_) (fun hb=>?_) | refine⟨fun hb=>?_,fun hb=>?_⟩ | refine ac_ (g1) rfl rfl ?_ | fail)
 exact h _ ⟨_,_,rfl,rfl,.refl _⟩
theorem lA61p_ (s:SymT) (i:Int):P_ Tryz.prog G nlA61_ [symV s,.eptr (iv i) 0] (.bool (s.event==i)):=by
 refine plA61_ (Runs.of fun Φ h=>?_)
 unfold clA61_
 repeat' (first | (simp -implicitDefEqProofs only[go_sem,symV,a_]) | refine ag_ (fun hb=>?_) (fun hb=>?_) | refine⟨fun hb=>?_,fun hb=>?_⟩ | fail)
 exact h _ ⟨_,_,rfl,rfl,.refl _⟩
theorem lA6p_ (q:QeaT) (hl:q.symbols.length≤1000000) (i:Nat):P_ Tryz.prog G nlA6_ [iv i,.eptr (qeaV q) 0] (.bool (!u14 q i)):=by
 have g1:=sCaSaSp_ (G:=G) nlA61_ [.eptr (iv i) 0] (by kernel_rfl) (okC_i i) (fun s=>s.event==(i:Int)) q.symbols (fun s _ =>lA61p_ s i) (by omega)
 refine plA6_ (Runs.of fun Φ h=>?_)
 unfold clA6_
 unfold u14 at h
 generalize (q.symbols.any fun s=>s.event==(i:Int))=z at*
 repeat' (first | (simp -implicitDefEqProofs only[go_sem,qeaV,d_,q_,f_,s_,s10,n_,t_]) | refine ag_ (fun hb=>?_) (fun hb=>?_) | refine⟨fun hb=>?_,fun hb=>?_⟩ | refine ac_ (g1) rfl rfl ?_ | fail)
 exact h _ ⟨_,_,rfl,rfl,.refl _⟩
theorem lfp_ (q:QeaT) (_hl:q.nodes.length≤1000000) (g:Nat) (e:ExT) (he:(e10 q)[g]? =some e) (hk:¬e.kind=0):P_ Tryz.prog G nlf_ [qeaV q,iv g] (iv e.from_):=by
 have hlen:=el_ q q.nodes.length (Nat.le_refl _)
 refine plf_ (Runs.of fun Φ h=>?_)
 unfold clf_
 simp -implicitDefEqProofs only[go_sem,qeaV,d_,q_,f_,s_,s10,n_,t_]
 refine al_ (fun n st=>∃c,(e10 q)[n]? =some c∧¬c.kind=0∧c.from_=e.from_∧st=⟨20,[(1,iv n),(2,.ref 2 0 0)],[(2,⟨false,taQ_,9,[qeaV q]⟩)]⟩) g ⟨e,he,hk,rfl,rfl⟩ ?_
 rintro I hI n st ⟨c,hc,hck,hcf,rfl⟩
 have hn:n<q.nodes.length:=by
  have:=(List.getElem?_eq_some_iff.1 hc).1
  unfold e10 at this
  omega
 obtain⟨x,hx,_⟩:=as10 hn
 have e0:((0:Int)≤(n:Int))=True:=by simp
 have hd:=ed_ hc hck hx
 obtain⟨x1,x2,x3,⟨x4,x5,x6,x7⟩⟩:=x
 dsimp only at hd
 by_cases h3:x1≤3
 ·have e1:(x1≤3)=True:=by simp;exact h3
  have hfn:(n:Int)=e.from_:=by omega
  rw[←hfn] at h
  clear hI
  repeat' (first | (simp -implicitDefEqProofs only[go_sem,qeaV,d_,q_,f_,s_,s10,n_,t_,e0,decide_true,am_ hx,n11,e1]) | refine ag_ (fun hb=>?_) (fun hb=>?_) | refine⟨fun hb=>?_,fun hb=>?_⟩ | fail)
  exact h _ ⟨_,_,rfl,rfl,.refl _⟩
 ·have e1:(x1≤3)=False:=by simp;omega
  obtain⟨j,c',hjn,hxa,hcj,hcjk,hcjf⟩:∃(j:Nat) (c':ExT),j<n∧x2=j∧(e10 q)[j]? =some c'∧¬c'.kind=0∧c'.from_=e.from_:=by
   rcases hd with ⟨h1,h2,_⟩ | ⟨_,_,j,c',rfl,h4,h5,h6,h7⟩ | ⟨_,_,j,k,bb,c',rfl,h4,h5,h6,_,_,_,h10,h11,h12⟩
   ·exact absurd h2 h3
   ·exact⟨j,c',by omega,h4,h5,h6,by omega⟩
   ·exact⟨k,c',by omega,h5,h10,h11,by omega⟩
  subst hxa
  have hnx:=hI j _ ⟨c',hcj,hcjk,hcjf,rfl⟩
  clear hI h
  repeat' (first | (simp -implicitDefEqProofs only[go_sem,qeaV,d_,q_,f_,s_,s10,n_,t_,e0,decide_true,decide_false,am_ hx,n11,e1]) | refine ag_ (fun hb=>?_) (fun hb=>?_) | refine⟨fun hb=>?_,fun hb=>?_⟩ | fail)
  exact aa_ j hjn hnx
end Go.Proofs.YtjbcfpkibnhodaaGreatDoor.Ab
