/-
  config, proctorref18: the order of configurations, and whether they are the same. proctorref18: sets of configurations; the law's own words. No claim is proved here.
-/
import Derived.Test.YtjbcfpkibnhodaaGreatDoorYD14
set_option linter.unusedSimpArgs false
set_option maxHeartbeats 4000000
set_option maxRecDepth 100000
namespace Go.Proofs.YtjbcfpkibnhodaaGreatDoor.Ab
open Go Go.RowKit
variable {G:Nat→Option AV}
structure CfgT where
 state:Int
 vals:List Val
deriving DecidableEq
def cfgV (c:CfgT):AV:=.agg [iv c.state,.seq 4 (c.vals.map valV)]
def c11 (l:List CfgT):AV:=.seq 2 (l.map cfgV)
theorem val4 {k n:Int} {s:Str} {t:Bool} {k' n':Int} {s':Str} {t':Bool} {β:Bool} (h:decide ((⟨k,n,s,t⟩:Val)=⟨k',n',s',t'⟩)=β):(k==k'&&(n==n'&&(s==s'&&t==t')))=β:=by
 rw[←h,Bool.eq_iff_iff]
 simp
def l_:List Val→List Val→Bool
 | [],[]=>false
 | [],_ ::_ =>true
 | _ ::_,[]=>false
 | x::l,y::k=>if ¬x=y then l14 x y else l_ l k
def c13 (a b:CfgT):Bool:=if ¬a.state=b.state then decide (a.state<b.state) else l_ a.vals b.vals
def CfgT.St (c:CfgT):Prop:=0≤c.state∧c.state<1000∧c.vals.length≤1000
theorem ls10 {l k:List Val} {i:Nat} {x y:Val} (hx:l[i]? =some x) (hy:k[i]? =some y):l_ (l.drop i) (k.drop i)=if ¬x=y then l14 x y else l_ (l.drop (i+1)) (k.drop (i+1)):=by
 rw[da10 hx,da10 hy,l_]
theorem le_ {l k:List Val} {i:Nat} (h1:i≤l.length) (h2:i≤k.length) (h:l.length≤i∨k.length≤i):l_ (l.drop i) (k.drop i)=decide ((l.length:Int)<k.length):=by
 by_cases hl:l.length≤i
 ·rw[List.drop_of_length_le hl]
  by_cases hk:k.length≤i
  ·rw[List.drop_of_length_le hk,l_,eq_comm,decide_eq_false_iff_not];omega
  ·obtain⟨y,hy,_⟩:=as10 (l:=k) (i:=i) (by omega)
   rw[da10 hy,l_,eq_comm,decide_eq_true_eq];omega
 ·obtain⟨x,hx,_⟩:=as10 (l:=l) (i:=i) (by omega)
  rw[da10 hx,List.drop_of_length_le (l:=k) (by omega),l_,eq_comm,decide_eq_false_iff_not];omega
theorem rLp_ (a b:CfgT) (ha:∀v∈a.vals,v.str.length<9223372036854775807) (hl:a.vals.length≤1000) (hk:b.vals.length≤1000):P_ Tryz.prog G np12 [cfgV a,cfgV b] (.bool (c13 a b)):=by
 obtain⟨s,l⟩:=a
 obtain⟨t,k⟩:=b
 dsimp only at ha hl hk
 refine pp27 (Runs.of fun Φ h=>?_)
 unfold cp27
 unfold c13 at h
 dsimp only at h
 by_cases hst:s=t
 ·subst hst
  rw[if_neg (by simp)] at h
  repeat' (first|simp -implicitDefEqProofs only[go_sem,cfgV,bne_self_eq_false]|refine ag_ (fun hb=>?_) (fun hb=>?_)|refine⟨fun hb=>?_,fun hb=>?_⟩|fail)
  refine al_ (fun n st=>∃i:Nat,i+n=l.length∧st=⟨59,[(2,.ref 2 0 0),(3,.ref 3 0 0),(5,iv i)],[(2,⟨false,taC_,2,[.agg [iv s,.seq 4 (l.map valV)]]⟩),(3,⟨false,taC_,2,[.agg [iv s,.seq 4 (k.map valV)]]⟩)]⟩∧i≤k.length∧l_ (l.drop i) (k.drop i)=l_ l k) l.length ⟨0,by simp,rfl,by omega,rfl⟩ ?_
  rintro I hI n st ⟨i,hi,rfl,hik,hno⟩
  rw[←hno] at h
  by_cases hlt:i<l.length
  ·have e1:((i:Int)<l.length)=True:=by simp;omega
   by_cases hkt:i<k.length
   ·have e2:((i:Int)<k.length)=True:=by simp;omega
    obtain⟨x,hx,hxm⟩:=as10 hlt
    obtain⟨y,hy,_⟩:=as10 hkt
    have hw:=ws_ hlt (by omega)
    have hc:=rL10 (G:=G) x y (ha x hxm)
    rw[ls10 hx hy] at h hno
    by_cases hxy:x=y
    ·rw[if_neg (by simpa using hxy)] at hno
     obtain⟨x1,x2,x3,x4⟩:=x
     obtain⟨y1,y2,y3,y4⟩:=y
     have he:=val4 (decide_eq_true hxy)
     repeat' (first|simp -implicitDefEqProofs only[go_sem,List.length_map,am_ hx,am_ hy,valV,hw,e1,e2,decide_true,he]|refine ag_ (fun hb=>?_) (fun hb=>?_)|refine⟨fun hb=>?_,fun hb=>?_⟩|fail)
     exact aa_ (n - 1) (by omega) (hI _ _ ⟨i+1,by omega,rfl,by omega,hno⟩)
    ·rw[if_pos hxy] at h
     generalize l14 x y=z at*
     obtain⟨x1,x2,x3,x4⟩:=x
     obtain⟨y1,y2,y3,y4⟩:=y
     have he:=val4 (decide_eq_false hxy)
     simp only[valV] at hc
     repeat' (first|simp -implicitDefEqProofs only[go_sem,List.length_map,am_ hx,am_ hy,valV,hw,e1,e2,decide_true,he]|refine ag_ (fun hb=>?_) (fun hb=>?_)|refine⟨fun hb=>?_,fun hb=>?_⟩|refine ac_ hc rfl rfl ?_|fail)
     exact h _ ⟨_,_,rfl,rfl,.refl _⟩
   ·have e2:((i:Int)<k.length)=False:=by simp;omega
    rw[le_ (by omega) hik (by omega)] at h
    repeat' (first|simp -implicitDefEqProofs only[go_sem,List.length_map,e1,e2,decide_true,decide_false]|refine ag_ (fun hb=>?_) (fun hb=>?_)|refine⟨fun hb=>?_,fun hb=>?_⟩|fail)
    exact h _ ⟨_,_,rfl,rfl,.refl _⟩
  ·have e1:((i:Int)<l.length)=False:=by simp;omega
   rw[le_ (by omega) hik (by omega)] at h
   repeat' (first|simp -implicitDefEqProofs only[go_sem,List.length_map,e1,decide_false]|refine ag_ (fun hb=>?_) (fun hb=>?_)|refine⟨fun hb=>?_,fun hb=>?_⟩|fail)
   exact h _ ⟨_,_,rfl,rfl,.refl _⟩
 ·rw[if_pos hst] at h
  have e1:(s != t)=true:=by simpa using hst
  repeat' (first|simp -implicitDefEqProofs only[go_sem,cfgV,e1]|refine ag_ (fun hb=>?_) (fun hb=>?_)|refine⟨fun hb=>?_,fun hb=>?_⟩|fail)
  exact h _ ⟨_,_,rfl,rfl,.refl _⟩
def c20 (a b:CfgT):Bool:=!c13 a b&& !c13 b a
theorem rOp_ (a b:CfgT) (ha:∀v∈a.vals,v.str.length<9223372036854775807) (hb:∀v∈b.vals,v.str.length<9223372036854775807) (hl:a.vals.length≤1000) (hk:b.vals.length≤1000):P_ Tryz.prog G np18 [cfgV a,cfgV b] (.bool (c20 a b)):=by
 have h1:=rLp_ (G:=G) a b ha hl hk
 have h2:=rLp_ (G:=G) b a hb hk hl
 refine pp33 (Runs.of fun Φ h=>?_)
 unfold cp33
 unfold c20 at h
 generalize c13 a b=y at*
 generalize c13 b a=z at*
 obtain⟨s,l⟩:=a
 obtain⟨t,k⟩:=b
 simp only[cfgV] at h1 h2
 cases y
 ·rw[Bool.not_false,Bool.true_and] at h
  repeat' (first|simp -implicitDefEqProofs only[go_sem,cfgV]|refine ag_ (fun hb=>?_) (fun hb=>?_)|refine⟨fun hb=>?_,fun hb=>?_⟩|refine ac_ h1 rfl rfl ?_|refine ac_ h2 rfl rfl ?_|fail)
  exact h _ ⟨_,_,rfl,rfl,.refl _⟩
 ·rw[Bool.not_true,Bool.false_and] at h
  repeat' (first|simp -implicitDefEqProofs only[go_sem,cfgV]|refine ag_ (fun hb=>?_) (fun hb=>?_)|refine⟨fun hb=>?_,fun hb=>?_⟩|refine ac_ h1 rfl rfl ?_|refine ac_ h2 rfl rfl ?_|fail)
  exact h _ ⟨_,_,rfl,rfl,.refl _⟩
end Go.Proofs.YtjbcfpkibnhodaaGreatDoor.Ab
namespace Go.Proofs.YtjbcfpkibnhodaaGreatDoor.Ab
open Go Go.RowKit
variable {G:Nat→Option AV}
theorem ra_ {P:Program} {Φ:St→Prop} (a b c:AC) (κ:List Kt) (st:St):run P G Φ (.seq a (.seq b c)) κ st=run P G Φ (.seq (.seq a b) c) κ st:=by
 simp only[rs11]
 unfold run
 congr 1
 funext e st'
 cases e
 ·exact rs11 b c κ st'
 ·rfl
 ·rfl
theorem at12 {α:Type} {e:α→AV} {sz:Nat} {l:List α} {i:Nat} (hs:0<sz) (h:i≤l.length):aslc sz (.seq sz (l.map e)) none (some (.int .i64 (i:Int)))=some (.seq sz ((l.take i).map e)):=by
 simp [aslc,hs,h,List.map_take]
theorem vm_ {α:Type} {e:α→AV} {sz:Nat} {H:List (Nat×Box)} {i n:Nat} {ty:Nat} {l:List α} (h0:0<sz) (hH:hget H i=some ⟨true,ty,sz,l.map e⟩) (hn:l.length=n):view H (.arr i 0 n)=some (.seq sz (l.map e)):=by
 simp only[view,hH,List.drop_zero,List.length_map,hn]
 simp [h0,←hn]
 exact List.take_of_length_le (by simp)
def CfgT.Sm (c:CfgT):Prop:=c.vals.length≤1000∧∀v∈c.vals,v.str.length<9223372036854775807
def p15 (l:List CfgT) (c:CfgT):Nat→Nat
 | 0=>0
 | n+1=>match l[n]? with
  | some x=>if c13 c x=true then p15 l c n else n+1
  | none=>n+1
theorem pl11 (l:List CfgT) (c:CfgT):∀n,p15 l c n≤n
 | 0=>Nat.le_refl _
 | n+1=>by
  rw[p15]
  split
  ·split
   ·have:=pl11 l c n;omega
   ·exact Nat.le_refl _
  ·exact Nat.le_refl _
def isAt (l:List CfgT) (c:CfgT):Nat→Bool
 | 0=>false
 | n+1=>match l[n]? with
  | some x=>c20 x c
  | none=>false
def putR (l:List CfgT) (c:CfgT):List CfgT:=if isAt l c (p15 l c l.length)=true then l else l.take (p15 l c l.length)++c::l.drop (p15 l c l.length)
theorem pm_ {l:List CfgT} {c x:CfgT} (h:x∈putR l c):x∈l∨x=c:=by
 unfold putR at h
 split at h
 ·exact .inl h
 ·simp only[List.mem_append,List.mem_cons] at h
  rcases h with h | h | h
  ·exact .inl (List.mem_of_mem_take h)
  ·exact .inr h
  ·exact .inl (List.mem_of_mem_drop h)
theorem pl10 (l:List CfgT) (c:CfgT):(putR l c).length≤l.length+1:=by
 unfold putR
 split
 ·omega
 ·have:=pl11 l c l.length
  simp only[List.length_append,List.length_cons,List.length_take,List.length_drop]
  omega
theorem ad_ {α:Type} {e:α→AV} {sz:Nat} {l:List α} {i:Nat} (hs:0<sz) (h:i≤l.length):aslc sz (.seq sz (l.map e)) (some (.int .i64 (i:Int))) none=some (.seq sz ((l.drop i).map e)):=by
 simp [aslc,hs,h,List.map_drop]
 rw[List.take_of_length_le (by simp)]
theorem rPp_ (l:List CfgT) (c:CfgT) (hl:l.length≤1000000) (hls:∀x∈l,x.Sm) (hc:c.Sm):P_ Tryz.prog G npP_ [c11 l,cfgV c] (c11 (putR l c)):=by
 refine ppP_ (Runs.of fun Φ h=>?_)
 unfold cpP_
 dsimp only
 rw[ra_,ra_]
 refine ac19 (fun st=>st=⟨48,[(0,c11 l),(3,.ref 3 0 0),(5,iv (p15 l c l.length:Nat)),(19,.bool false)],[(3,⟨false,taC_,2,[cfgV c]⟩),(4,⟨true,taC_,2,[]⟩)]⟩) ?_ ?_
 ·simp -implicitDefEqProofs only[go_sem,c11,cfgV,List.length_map]
  refine al_ (fun n st=>st=⟨48,[(0,c11 l),(3,.ref 3 0 0),(5,iv n)],[(3,⟨false,taC_,2,[cfgV c]⟩),(4,⟨true,taC_,2,[]⟩)]⟩∧n≤l.length∧p15 l c n=p15 l c l.length) l.length ⟨rfl,Nat.le_refl _,rfl⟩ ?_
  rintro I hI n st ⟨rfl,hn,hp⟩
  rw[←hp]
  cases n with
  | zero=>
   have e1:((0:Int)<((0:Nat):Int))=False:=by simp
   repeat' (first|simp -implicitDefEqProofs only[go_sem,e1,decide_false,cfgV,c11]|refine ag_ (fun hb=>?_) (fun hb=>?_)|refine⟨fun hb=>?_,fun hb=>?_⟩|fail)
   try rfl
  | succ n=>
   obtain⟨x,hx,hxm⟩:=as10 (l:=l) (i:=n) (by omega)
   have e1:((0:Int)<((n+1:Nat):Int))=True:=by rw[eq_iff_iff];exact⟨fun _ =>trivial,fun _ =>by omega⟩
   have hw:IntKind.wrap .i64 (((n+1:Nat):Int) - 1)=(n:Int):=by rw[wrap_i64 (by omega) (by omega)];omega
   have hls:=rLp_ (G:=G) c x hc.2 hc.1 (hls x hxm).1
   have hps:p15 l c (n+1)=if c13 c x=true then p15 l c n else n+1:=by rw[p15,hx]
   generalize c13 c x=z at*
   obtain⟨xs,xl⟩:=x
   simp only[cfgV] at hls
   cases z
   ·rw[if_neg (by decide)] at hps
    rw[hps]
    repeat' (first|simp -implicitDefEqProofs only[go_sem,e1,hw,am_ hx,decide_true,cfgV,c11]|refine ag_ (fun hb=>?_) (fun hb=>?_)|refine⟨fun hb=>?_,fun hb=>?_⟩|refine ac_ hls rfl rfl ?_|fail)
    try rfl
   ·rw[if_pos rfl] at hps
    rw[hps] at hp
    repeat' (first|simp -implicitDefEqProofs only[go_sem,e1,hw,am_ hx,decide_true,cfgV,c11]|refine ag_ (fun hb=>?_) (fun hb=>?_)|refine⟨fun hb=>?_,fun hb=>?_⟩|refine ac_ hls rfl rfl ?_|fail)
    exact aa_ n (by omega) (hI _ _ ⟨rfl,by omega,hp⟩)
 ·rintro st hst
  subst hst
  have hple:=pl11 l c l.length
  unfold putR at h
  generalize p15 l c l.length=n at*
  refine ac19 (fun st=>st=⟨48,[(0,c11 l),(3,.ref 3 0 0),(5,iv n),(32,.bool false)],[(3,⟨false,taC_,2,[cfgV c]⟩),(4,⟨true,taC_,2,[]⟩)]⟩∧isAt l c n=false) ?_ ?_
  ·cases n with
   | zero=>
    have e1:((0:Int)<((0:Nat):Int))=False:=by simp
    repeat' (first|simp -implicitDefEqProofs only[go_sem,e1,decide_false,cfgV,c11,List.length_map]|refine ag_ (fun hb=>?_) (fun hb=>?_)|refine⟨fun hb=>?_,fun hb=>?_⟩|fail)
    first | rfl | exact⟨rfl,rfl⟩
   | succ n=>
    obtain⟨x,hx,hxm⟩:=as10 (l:=l) (i:=n) (by omega)
    have e1:((0:Int)<((n+1:Nat):Int))=True:=by rw[eq_iff_iff];exact⟨fun _ =>trivial,fun _ =>by omega⟩
    have hw:IntKind.wrap .i64 (((n+1:Nat):Int) - 1)=(n:Int):=by rw[wrap_i64 (by omega) (by omega)];omega
    have ho:=rOp_ (G:=G) x c (hls x hxm).2 hc.2 (hls x hxm).1 hc.1
    have his:isAt l c (n+1)=c20 x c:=by rw[isAt,hx]
    generalize c20 x c=z at*
    obtain⟨xs,xl⟩:=x
    simp only[cfgV] at ho
    cases z
    ·repeat' (first|simp -implicitDefEqProofs only[go_sem,e1,hw,am_ hx,decide_true,cfgV,c11]|refine ag_ (fun hb=>?_) (fun hb=>?_)|refine⟨fun hb=>?_,fun hb=>?_⟩|refine ac_ ho rfl rfl ?_|fail)
     first | exact his | exact⟨rfl,his⟩
    ·rw[his,if_pos rfl] at h
     repeat' (first|simp -implicitDefEqProofs only[go_sem,e1,hw,am_ hx,decide_true,cfgV,c11]|refine ag_ (fun hb=>?_) (fun hb=>?_)|refine⟨fun hb=>?_,fun hb=>?_⟩|refine ac_ ho rfl rfl ?_|fail)
     exact h _ ⟨_,_,rfl,rfl,.refl _⟩
  ·rintro st ⟨rfl,hat⟩
   rw[hat,if_neg (by decide)] at h
   have hs1:=at12 (e:=cfgV) (sz:=2) (l:=l) (i:=n) (by decide) hple
   have hs2:=ad_ (e:=cfgV) (sz:=2) (l:=l) (i:=n) (by decide) hple
   have ht:(l.take n).length=n:=by simp;omega
   have hb1:n*32≤140737488355328:=by omega
   have hb2:(n+1)*32≤140737488355328:=by omega
   have hb3:(n+1+(l.length - n))*32≤140737488355328:=by omega
   repeat' (first|simp -implicitDefEqProofs only[go_sem,hs1,hs2,cfgV,c11,List.length_map,List.length_append,List.length_drop,ht,hb1,hb2,hb3]|refine ag_ (fun hb=>?_) (fun hb=>?_)|refine⟨fun hb=>?_,fun hb=>?_⟩|fail)
   exact h _ ⟨_,_,rfl,vm_ (e:=cfgV) (l:=l.take n++c::l.drop n) (by decide) (by simp [hget,cfgV];rfl) (by simp;omega),.refl _⟩
theorem rS14 (a b:List CfgT) (ha:∀x∈a,x.Sm) (hb:∀x∈b,x.Sm) (hl:a.length≤1000):P_ Tryz.prog G np16 [c11 a,c11 b] (.bool (zipB c20 a b)):=by
 refine pp26 (Runs.of fun Φ h=>?_)
 unfold cp26
 by_cases hlk:a.length=b.length
 ·have e0:((a.length:Int) != (b.length:Int))=false:=by simp [hlk]
  generalize hv:zipB c20 a b=v at*
  simp -implicitDefEqProofs only[go_sem,c11,List.length_map,e0]
  refine al_ (fun n st=>∃i:Nat,i+n=a.length∧st=⟨27,[(0,c11 a),(1,c11 b),(5,iv i)],[]⟩∧zipB c20 (a.drop i) (b.drop i)=v) a.length ⟨0,by simp,rfl,hv⟩ ?_
  rintro I hI n st ⟨i,hi,rfl,hno⟩
  simp -implicitDefEqProofs only[go_sem,c11,List.length_map]
  refine⟨fun hlt=>?_,fun hge=>?_⟩
  ·have hlt':i<a.length:=by omega
   obtain⟨x,hx,hm⟩:=as10 hlt'
   obtain⟨y,hy,hm'⟩:=as10 (l:=b) (i:=i) (by omega)
   have hw:=ws_ hlt' (by omega)
   have hc:=rOp_ (G:=G) x y (ha x hm).2 (hb y hm').2 (ha x hm).1 (hb y hm').1
   rw[zs10 hx hy] at hno
   obtain⟨x1,x2⟩:=x
   obtain⟨y1,y2⟩:=y
   simp only[cfgV] at hc
   generalize c20 ⟨x1,x2⟩ ⟨y1,y2⟩=β at*
   cases β
   ·rw[Bool.false_and] at hno
    subst hno
    repeat' (first|simp -implicitDefEqProofs only[go_sem,am_ hx,am_ hy,hw,cfgV,c11]|refine ag_ (fun hb=>?_) (fun hb=>?_)|refine⟨fun hb=>?_,fun hb=>?_⟩|refine ac_ hc rfl rfl ?_|fail)
    exact h _ ⟨_,_,rfl,rfl,.refl _⟩
   ·rw[Bool.true_and] at hno
    repeat' (first|simp -implicitDefEqProofs only[go_sem,am_ hx,am_ hy,hw,cfgV,c11]|refine ag_ (fun hb=>?_) (fun hb=>?_)|refine⟨fun hb=>?_,fun hb=>?_⟩|refine ac_ hc rfl rfl ?_|fail)
    exact aa_ (n - 1) (by omega) (hI _ _ ⟨i+1,by omega,rfl,hno⟩)
  ·rw[ze_ (by omega) (by omega)] at hno
   subst hno
   exact h _ ⟨_,_,rfl,rfl,.refl _⟩
 ·have hv:=zl_ (p:=c20) hlk
  rw[hv] at h
  have e0:((a.length:Int) != (b.length:Int))=true:=by simp;omega
  repeat' (first|simp -implicitDefEqProofs only[go_sem,c11,List.length_map,e0]|refine ag_ (fun hb=>?_) (fun hb=>?_)|refine⟨fun hb=>?_,fun hb=>?_⟩|fail)
  exact h _ ⟨_,_,rfl,rfl,.refl _⟩
end Go.Proofs.YtjbcfpkibnhodaaGreatDoor.Ab
