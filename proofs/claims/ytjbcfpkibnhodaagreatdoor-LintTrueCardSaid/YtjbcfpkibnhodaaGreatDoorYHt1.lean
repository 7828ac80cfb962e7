/-
  proctorref17: which symbols an event is of; slots in order. No claim is proved here.
-/
import Derived.Test.YtjbcfpkibnhodaaGreatDoorYSb10
namespace Go.Proofs.YtjbcfpkibnhodaaGreatDoor.Ab
open Go Go.RowKit
set_option linter.unusedSimpArgs false
set_option maxHeartbeats 4000000
set_option maxRecDepth 100000
variable {G:Nat→Option AV}
def p13 (l:List SlotT) (s:SlotT):Nat→Nat
 | 0=>0
 | n+1=>match l[n]? with
  | some x=>if s.var<x.var then p13 l s n else n+1
  | none=>n+1
theorem pl_ (l:List SlotT) (s:SlotT):∀n,p13 l s n≤n
 | 0=>Nat.le_refl _
 | n+1=>by
  unfold p13
  split
  ·split
   ·exact Nat.le_trans (pl_ l s n) (by omega)
   ·exact Nat.le_refl _
  ·exact Nat.le_refl _
def putS (l:List SlotT) (s:SlotT):List SlotT:=l.take (p13 l s l.length)++s::l.drop (p13 l s l.length)
theorem pl15 (l:List SlotT) (s:SlotT):(putS l s).length=l.length+1:=by
 unfold putS
 have:=pl_ l s l.length
 simp only[List.length_append,List.length_cons,List.length_take,List.length_drop]
 omega
theorem rpp_ (l:List SlotT) (s:SlotT) (hl:l.length≤1000):P_ Tryz.prog G npp_ [s11 l,s16 s] (s11 (putS l s)):=by
 refine ppp_ (Runs.of fun Φ h=>?_)
 unfold cpp_
 dsimp only
 rw[ra_,ra_]
 refine ac19 (fun st=>st=⟨38,[(0,s11 l),(3,.ref 3 0 0),(5,iv (p13 l s l.length:Nat)),(21,.bool false)],[(3,⟨false,ta10,5,[s16 s]⟩),(4,⟨true,ta10,5,[]⟩)]⟩) ?_ ?_
 ·clear h
  simp -implicitDefEqProofs only[go_sem,s11,s16,List.length_map]
  refine al_ (fun n st=>st=⟨38,[(0,s11 l),(3,.ref 3 0 0),(5,iv n)],[(3,⟨false,ta10,5,[s16 s]⟩),(4,⟨true,ta10,5,[]⟩)]⟩∧n≤l.length∧p13 l s n=p13 l s l.length) l.length ⟨rfl,Nat.le_refl _,rfl⟩ ?_
  rintro I hI n st ⟨rfl,hn,hp⟩
  rw[←hp]
  cases n with
  | zero=>
   have e1:((0:Int)<((0:Nat):Int))=False:=by simp
   repeat' (first|simp -implicitDefEqProofs only[go_sem,e1,decide_false,s16,s11]|refine ag_ (fun hb=>?_) (fun hb=>?_)|refine⟨fun hb=>?_,fun hb=>?_⟩|fail)
   try rfl
  | succ n=>
   obtain⟨x,hx,hxm⟩:=as10 (l:=l) (i:=n) (by omega)
   have e1:((0:Int)<((n+1:Nat):Int))=True:=by rw[eq_iff_iff];exact⟨fun _ =>trivial,fun _ =>by omega⟩
   have hw:IntKind.wrap .i64 (((n+1:Nat):Int) - 1)=(n:Int):=by rw[wrap_i64 (by omega) (by omega)];omega
   have hps:p13 l s (n+1)=if s.var<x.var then p13 l s n else n+1:=by rw[p13,hx]
   obtain⟨x1,⟨x2,x3,x4,x5⟩⟩:=x
   by_cases hv:s.var<x1
   ·have e2:(s.var<x1)=True:=by simp;exact hv
    rw[if_pos hv] at hps
    rw[hps] at hp
    repeat' (first|simp -implicitDefEqProofs only[go_sem,e1,e2,hw,am_ hx,decide_true,s16,s11]|refine ag_ (fun hb=>?_) (fun hb=>?_)|refine⟨fun hb=>?_,fun hb=>?_⟩|fail)
    exact aa_ n (by omega) (hI _ _ ⟨rfl,by omega,hp⟩)
   ·have e2:(s.var<x1)=False:=by simp;omega
    rw[if_neg hv] at hps
    rw[hps]
    repeat' (first|simp -implicitDefEqProofs only[go_sem,e1,e2,hw,am_ hx,decide_true,decide_false,s16,s11]|refine ag_ (fun hb=>?_) (fun hb=>?_)|refine⟨fun hb=>?_,fun hb=>?_⟩|fail)
    try rfl
 ·rintro st hst
  subst hst
  have hple:=pl_ l s l.length
  unfold putS at h
  generalize p13 l s l.length=n at*
  have hs1:=at12 (e:=s16) (sz:=5) (l:=l) (i:=n) (by decide) hple
  have hs2:=ad_ (e:=s16) (sz:=5) (l:=l) (i:=n) (by decide) hple
  have ht:(l.take n).length=n:=by simp;omega
  have hb1:n*48≤140737488355328:=by omega
  have hb2:(n+1)*48≤140737488355328:=by omega
  have hb3:(n+1+(l.length - n))*48≤140737488355328:=by omega
  repeat' (first|simp -implicitDefEqProofs only[go_sem,hs1,hs2,s16,s11,List.length_map,List.length_append,List.length_drop,ht,hb1,hb2,hb3]|refine ag_ (fun hb=>?_) (fun hb=>?_)|refine⟨fun hb=>?_,fun hb=>?_⟩|fail)
  exact h _ ⟨_,_,rfl,vm_ (e:=s16) (l:=l.take n++s::l.drop n) (by decide) (by simp [hget,s16];rfl) (by simp;omega),.refl _⟩
structure EvT where
 name:Str
 args:List Val
deriving DecidableEq
def e11 (e:EvT):AV:=.agg [.str e.name,.seq 4 (e.args.map valV)]
def h17 (a:ArgT) (v:Val) (b f:List SlotT):Option (List SlotT×List SlotT):=
 if a.kind=1 then (if a.value=v then some (b,f) else none)
 else if a.kind=2 then (if f29 b [⟨a.n,v⟩]=true then some (u18 b [⟨a.n,v⟩],f) else none)
 else if a.kind=3 then (if (getR f a.n).2=true then (if (getR f a.n).1=v then some (b,f) else none) else some (b,putS f ⟨a.n,v⟩))
 else some (b,f)
def h19:List ArgT→List Val→List SlotT→List SlotT→Option (List SlotT×List SlotT)
 | a::al,v::vs,b,f=>match h17 a v b f with | some r=>h19 al vs r.1 r.2 | none=>none
 | _,_,b,f=>some (b,f)
def hitR (q:QeaT) (e:EvT) (s:Nat):Option HitT:=match q.symbols[s]? with
 | none=>none
 | some x=>match at? q.decls x.event with
  | none=>none
  | some d=>if d.name=e.name∧x.args.length=e.args.length then (h19 x.args e.args [] []).map fun r=>⟨(s:Int),r.1,r.2⟩ else none
def h22:Option HitT→AV
 | some h=>.tup [hitV h,.bool true]
 | none=>.tup [.agg [iv 0,.nils,.nils],.bool false]
theorem ul11 (a b:List SlotT):(u18 a b).length≤8:=by
 have:∀n,(u15 a b n).length≤n:=by
  intro n
  induction n with
  | zero=>simp [u15]
  | succ n ih=>
   rw[us_,List.length_append]
   have:=ul_ a b n
   omega
 exact this 8
theorem hl_ {a:ArgT} {v:Val} {b f:List SlotT} {r:List SlotT×List SlotT} (h:h17 a v b f=some r) (hb:b.length≤8):r.1.length≤8∧r.2.length≤f.length+1:=by
 unfold h17 at h
 split at h
 ·split at h
  ·cases h;exact⟨hb,by dsimp only;omega⟩
  ·cases h
 split at h
 ·split at h
  ·cases h;exact⟨ul11 _ _,by dsimp only;omega⟩
  ·cases h
 split at h
 ·split at h
  ·split at h
   ·cases h;exact⟨hb,by dsimp only;omega⟩
   ·cases h
  ·cases h;exact⟨hb,by dsimp only;rw[pl15];omega⟩
 ·cases h;exact⟨hb,by dsimp only;omega⟩
theorem ha13 {al:List ArgT} {vs:List Val} {i:Nat} {a:ArgT} {v:Val} (ha:al[i]? =some a) (hv:vs[i]? =some v) (b f:List SlotT):h19 (al.drop i) (vs.drop i) b f=match h17 a v b f with | some r=>h19 (al.drop (i+1)) (vs.drop (i+1)) r.1 r.2 | none=>none:=by
 rw[da_ ha,da_ hv,h19]
theorem he_ {al:List ArgT} {vs:List Val} {i:Nat} (h:al.length≤i) (b f:List SlotT):h19 (al.drop i) (vs.drop i) b f=some (b,f):=by
 rw[List.drop_eq_nil_of_le h]
 cases vs.drop i <;> rfl
theorem rHp_ (q:QeaT) (e:EvT) (s:Nat) (x:SymT) (d:DeclT) (hx:q.symbols[s]? =some x) (hd:at? q.decls x.event=some d) (hal:x.args.length≤100) (hel:e.args.length≤1000000):
  P_ Tryz.prog G npH_ [qeaV q,iv s,e11 e] (h22 (hitR q e s)):=by
 obtain⟨j,hxe,hj⟩:=at?_some hd
 refine ppH_ (Runs.of fun Φ h=>?_)
 unfold cpH_
 have fin0:∀heap,hitR q e s=none→hget heap 6=some ⟨false,taH_,3,[.agg [iv 0,.nils,.nils]]⟩→Φ ⟨121,[(6,.ref 6 0 0),(7,.bool false)],heap⟩:=fun heap e1 e2=>h _ ⟨[.agg [iv 0,.nils,.nils],.bool false],_,by simp [r15,a18,h15,e2,eget,cpH_,AV.cells],rfl,fe_ (by rw[e1];rfl)⟩
 have fin1:∀b f heap,hitR q e s=some ⟨s,b,f⟩→hget heap 6=some ⟨false,taH_,3,[.agg [iv s,s11 b,s11 f]]⟩→Φ ⟨121,[(6,.ref 6 0 0),(7,.bool true)],heap⟩:=fun b f heap e1 e2=>h _ ⟨[.agg [iv s,s11 b,s11 f],.bool true],_,by simp [r15,a18,h15,e2,eget,cpH_,AV.cells],rfl,fe_ (by rw[e1];rfl)⟩
 clear h
 have hR:hitR q e s=if d.name=e.name∧x.args.length=e.args.length then (h19 x.args e.args [] []).map fun r=>⟨(s:Int),r.1,r.2⟩ else none:=by
  unfold hitR
  rw[hx]
  dsimp only
  rw[hd]
 obtain⟨xe,xa⟩:=x
 obtain⟨en,ea⟩:=e
 obtain⟨dn,dt⟩:=d
 dsimp only at hxe hal hel hR
 subst hxe
 generalize hitR q ⟨en,ea⟩ s=R at*
 by_cases hn:dn=en
 ·subst hn
  by_cases hln:xa.length=ea.length
  ·rw[if_pos ⟨rfl,hln⟩] at hR
   have e1:(dn==dn)=true:=by simp
   have e2:((xa.length:Int) != (ea.length:Int))=false:=by simp;omega
   repeat' (first|simp -implicitDefEqProofs only[go_sem,qeaV,d_,q_,f_,s_,s10,n_,t_,e11,List.length_map,am_ hx,am_ hj,symV,a10,d12,i11,e1,e2]|refine ag_ (fun hb=>?_) (fun hb=>?_)|refine⟨fun hb=>?_,fun hb=>?_⟩|fail)
   refine al13 (fun n st=>∃(i:Nat) (b f:List SlotT),i+n=xa.length∧st=⟨121,[(1,iv s),(5,.ref 5 0 0),(6,.ref 6 0 0),(8,.ref 8 0 0),(9,.ref 9 0 0),(10,s11 b),(11,s11 f),(12,iv i)],[(3,⟨false,taQ_,9,[qeaV q]⟩),(5,⟨false,ta11,2,[e11 ⟨dn,ea⟩]⟩),(6,⟨false,taH_,3,[.agg [iv 0,.nils,.nils]]⟩),(8,⟨false,taS_,2,[symV ⟨(j:Int),xa⟩]⟩),(9,⟨false,taH_,3,[.agg [iv 0,.nils,.nils]]⟩)]⟩∧b.length≤8∧f.length≤i∧(h19 (xa.drop i) (ea.drop i) b f).map (fun r=>(⟨(s:Int),r.1,r.2⟩:HitT))=R) xa.length
    ⟨121,[(1,iv s),(5,.ref 5 0 0),(6,.ref 6 0 0),(8,.ref 8 0 0),(9,.ref 9 0 0),(10,s11 []),(11,s11 []),(12,iv 0)],[(3,⟨false,taQ_,9,[qeaV q]⟩),(5,⟨false,ta11,2,[e11 ⟨dn,ea⟩]⟩),(6,⟨false,taH_,3,[.agg [iv 0,.nils,.nils]]⟩),(8,⟨false,taS_,2,[symV ⟨(j:Int),xa⟩]⟩),(9,⟨false,taH_,3,[.agg [iv 0,.nils,.nils]]⟩)]⟩
    ((wt_ (i:=10) rfl rfl).trans (wt_ (i:=11) rfl rfl)) ⟨0,[],[],by simp,rfl,by simp,by simp,hR.symm⟩ ?_
   rintro I hI n st ⟨i,b,f,hi,rfl,hbl,hfl,hgo⟩
   simp -implicitDefEqProofs only[go_sem,qeaV,d_,q_,f_,s_,s10,n_,t_,e11,symV,a10,List.length_map]
   refine⟨fun hlt=>?_,fun hge=>?_⟩
   ·have hlt':i<xa.length:=by omega
    obtain⟨a,ha,_⟩:=as10 hlt'
    obtain⟨v,hv,_⟩:=as10 (l:=ea) (i:=i) (by omega)
    have hw:=ws_ hlt' (by omega)
    rw[ha13 ha hv] at hgo
    have hal2:∀r,h17 a v b f=some r→r.1.length≤8∧r.2.length≤f.length+1:=fun r hr=>hl_ hr hbl
    have hnext:∀b' f',h17 a v b f=some (b',f')→a12 I n ⟨121,[(1,iv s),(5,.ref 5 0 0),(6,.ref 6 0 0),(8,.ref 8 0 0),(9,.ref 9 0 0),(10,s11 b'),(11,s11 f'),(12,iv (i+1:Nat))],[(3,⟨false,taQ_,9,[qeaV q]⟩),(5,⟨false,ta11,2,[e11 ⟨dn,ea⟩]⟩),(6,⟨false,taH_,3,[.agg [iv 0,.nils,.nils]]⟩),(8,⟨false,taS_,2,[symV ⟨(j:Int),xa⟩]⟩),(9,⟨false,taH_,3,[.agg [iv 0,.nils,.nils]]⟩)]⟩:=fun b' f' hr=>by
     rw[hr] at hgo
     have:=hal2 _ hr
     dsimp only at this
     exact aa_ (n - 1) (by omega) (hI _ _ ⟨i+1,b',f',by omega,rfl,this.1,by omega,hgo⟩)
    have hbad:h17 a v b f=none→R=none:=fun hr=>by rw[hr] at hgo;exact hgo.symm
    clear hgo hal2 hI
    have hc1:=rF10 (G:=G) b [⟨a.n,v⟩] (by omega) (by simp)
    have hc2:=rU10 (G:=G) b [⟨a.n,v⟩] (by omega) (by simp)
    have hc3:=rGp_ (G:=G) f (by omega) a.n
    have hc4:=rpp_ (G:=G) f ⟨a.n,v⟩ (by omega)
    unfold h17 at hnext hbad
    obtain⟨ak,an,⟨w1,w2,w3,w4⟩⟩:=a
    obtain⟨v1,v2,v3,v4⟩:=v
    have hxy:((⟨w1,w2,w3,w4⟩:Val)==⟨v1,v2,v3,v4⟩)=(w1==v1&&(w2==v2&&(w3==v3&&w4==v4))):=vb_ _ _ _ _ _ _ _ _
    dsimp only at*
    simp only[s11,List.map_cons,List.map_nil,s16] at hc1 hc2 hc3 hc4
    by_cases h1:ak=1
    ·rw[if_pos h1] at hnext hbad
     subst h1
     by_cases hav:(⟨w1,w2,w3,w4⟩:Val)=⟨v1,v2,v3,v4⟩
     ·rw[if_pos hav] at hnext
      have hnext:=hnext _ _ rfl
      rw[show ((⟨w1,w2,w3,w4⟩:Val)==⟨v1,v2,v3,v4⟩)=true by simpa using hav] at hxy
      repeat' (first|simp -implicitDefEqProofs only[go_sem,am_ ha,am_ hv,argV,valV,hw,s11,←hxy,Bool.not_true]|refine ag_ (fun hb=>?_) (fun hb=>?_)|refine⟨fun hb=>?_,fun hb=>?_⟩|fail)
      exact hnext
     ·rw[if_neg hav] at hbad
      have hbad:=hbad rfl
      rw[show ((⟨w1,w2,w3,w4⟩:Val)==⟨v1,v2,v3,v4⟩)=false by simpa using hav] at hxy
      repeat' (first|simp -implicitDefEqProofs only[go_sem,am_ ha,am_ hv,argV,valV,hw,s11,←hxy,Bool.not_false]|refine ag_ (fun hb=>?_) (fun hb=>?_)|refine⟨fun hb=>?_,fun hb=>?_⟩|fail)
      exact fin0 _ hbad rfl
    ·rw[if_neg h1] at hnext hbad
     have k1:(ak==1)=false:=by simp [h1]
     clear hxy
     by_cases h2:ak=2
     ·rw[if_pos h2] at hnext hbad
      subst h2
      generalize f29 b [⟨an,⟨v1,v2,v3,v4⟩⟩]=z at*
      generalize u18 b [⟨an,⟨v1,v2,v3,v4⟩⟩]=u at*
      cases z
      ·have hbad:=hbad (if_neg (by decide))
       repeat' (first|simp -implicitDefEqProofs only[go_sem,am_ ha,am_ hv,argV,valV,hw,s11,k1]|refine ag_ (fun hb=>?_) (fun hb=>?_)|refine⟨fun hb=>?_,fun hb=>?_⟩|refine ac_ hc1 rfl rfl ?_|fail)
       exact fin0 _ hbad rfl
      ·have hnext:=hnext _ _ (if_pos rfl)
       repeat' (first|simp -implicitDefEqProofs only[go_sem,am_ ha,am_ hv,argV,valV,hw,s11,k1]|refine ag_ (fun hb=>?_) (fun hb=>?_)|refine⟨fun hb=>?_,fun hb=>?_⟩|refine ac_ hc1 rfl rfl ?_|refine ac_ hc2 rfl rfl ?_|fail)
       exact hnext
     ·rw[if_neg h2] at hnext hbad
      have k2:(ak==2)=false:=by simp [h2]
      clear hc1 hc2
      by_cases h3:ak=3
      ·rw[if_pos h3] at hnext hbad
       subst h3
       generalize getR f an=g at*
       obtain⟨⟨g1,g2,g3,g4⟩,ok⟩:=g
       simp only[vbt,valV] at hc3
       cases ok
       ·have hnext:=hnext _ _ (if_neg (by simp))
        have hai:∀H:List (Nat×Box),hget H 63=some ⟨true,ta10,5,[.agg [iv an,iv v1,iv v2,.str v3,.bool v4]]⟩→a14 H 5 (.arr 63 0 1) (.int .i64 0)=some (.ref 63 0 0):=fun H hH=>by simp [a14,hH]
        generalize putS f ⟨an,⟨v1,v2,v3,v4⟩⟩=u at*
        repeat' (first|simp -implicitDefEqProofs only[go_sem,am_ ha,am_ hv,argV,valV,hw,s11,k1,k2,hai]|refine ag_ (fun hb=>?_) (fun hb=>?_)|refine⟨fun hb=>?_,fun hb=>?_⟩|refine ac_ hc3 rfl rfl ?_|refine ac_ hc4 rfl rfl ?_|fail)
        exact hnext
       ·rw[if_pos rfl] at hnext hbad
        have hxy:((⟨g1,g2,g3,g4⟩:Val)==⟨v1,v2,v3,v4⟩)=(g1==v1&&(g2==v2&&(g3==v3&&g4==v4))):=vb_ _ _ _ _ _ _ _ _
        dsimp only at hnext hbad
        by_cases hav:(⟨g1,g2,g3,g4⟩:Val)=⟨v1,v2,v3,v4⟩
        ·rw[if_pos hav] at hnext
         have hnext:=hnext _ _ rfl
         rw[show ((⟨g1,g2,g3,g4⟩:Val)==⟨v1,v2,v3,v4⟩)=true by simpa using hav] at hxy
         repeat' (first|simp -implicitDefEqProofs only[go_sem,am_ ha,am_ hv,argV,valV,hw,s11,←hxy,Bool.not_true,k1,k2]|refine ag_ (fun hb=>?_) (fun hb=>?_)|refine⟨fun hb=>?_,fun hb=>?_⟩|refine ac_ hc3 rfl rfl ?_|fail)
         exact hnext
        ·rw[if_neg hav] at hbad
         have hbad:=hbad rfl
         rw[show ((⟨g1,g2,g3,g4⟩:Val)==⟨v1,v2,v3,v4⟩)=false by simpa using hav] at hxy
         repeat' (first|simp -implicitDefEqProofs only[go_sem,am_ ha,am_ hv,argV,valV,hw,s11,←hxy,Bool.not_false,k1,k2]|refine ag_ (fun hb=>?_) (fun hb=>?_)|refine⟨fun hb=>?_,fun hb=>?_⟩|refine ac_ hc3 rfl rfl ?_|fail)
         exact fin0 _ hbad rfl
      ·rw[if_neg h3] at hnext
       have k3:(ak==3)=false:=by simp [h3]
       have hnext:=hnext _ _ rfl
       repeat' (first|simp -implicitDefEqProofs only[go_sem,am_ ha,am_ hv,argV,valV,hw,s11,k1,k2,k3]|refine ag_ (fun hb=>?_) (fun hb=>?_)|refine⟨fun hb=>?_,fun hb=>?_⟩|fail)
       exact hnext
   ·rw[he_ (by omega)] at hgo
    repeat' (first|simp -implicitDefEqProofs only[go_sem]|refine ag_ (fun hb=>?_) (fun hb=>?_)|refine⟨fun hb=>?_,fun hb=>?_⟩|fail)
    exact fin1 b f _ hgo.symm rfl
  ·rw[if_neg (fun hz=>hln hz.2)] at hR
   have e1:(dn==dn)=true:=by simp
   have e2:((xa.length:Int) != (ea.length:Int))=true:=by simp;omega
   repeat' (first|simp -implicitDefEqProofs only[go_sem,qeaV,d_,q_,f_,s_,s10,n_,t_,e11,List.length_map,am_ hx,am_ hj,symV,a10,d12,i11,e1,e2]|refine ag_ (fun hb=>?_) (fun hb=>?_)|refine⟨fun hb=>?_,fun hb=>?_⟩|fail)
   exact fin0 _ hR rfl
 ·rw[if_neg (fun hz=>hn hz.1)] at hR
  have e1:(dn==en)=false:=by simp [hn]
  repeat' (first|simp -implicitDefEqProofs only[go_sem,qeaV,d_,q_,f_,s_,s10,n_,t_,e11,List.length_map,am_ hx,am_ hj,symV,a10,d12,i11,e1]|refine ag_ (fun hb=>?_) (fun hb=>?_)|refine⟨fun hb=>?_,fun hb=>?_⟩|fail)
  exact fin0 _ hR rfl
end Go.Proofs.YtjbcfpkibnhodaaGreatDoor.Ab
