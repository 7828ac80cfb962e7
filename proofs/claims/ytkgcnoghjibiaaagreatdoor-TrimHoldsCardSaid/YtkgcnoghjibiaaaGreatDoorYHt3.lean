/- Lemmas. -/
import Derived.Test.YtkgcnoghjibiaaaGreatDoorYSt1
set_option linter.unusedSimpArgs false
set_option maxHeartbeats 4000000
set_option maxRecDepth 100000
namespace Go.Proofs.YtkgcnoghjibiaaaGreatDoor.Ab
open Go Go.RowKit
variable {G:Nat->Option AV}
def p14 (l:List SlotT) (s:SlotT):Nat->Nat
 | 0=>0
 | n+1=>match l[n]? with
  | some x=>if s.var<x.var then p14 l s n else n+1
  | none=>n+1
theorem pl10 (l:List SlotT) (s:SlotT):∀n,p14 l s n<=n
 | 0=>zN _
 | n+1=>by
  unfold p14;split
  .split
   .exact vY (pl10 l s n) (by omega)
   .exact zN _
  .exact zN _
def putS (l:List SlotT) (s:SlotT):List SlotT:=l.take (p14 l s l.length)++s::l.drop (p14 l s l.length)
theorem pl17 (l:List SlotT) (s:SlotT):(putS l s).length=l.length+1:=by unfold putS;have:=pl10 l s l.length;simp only[zL,yH,xG,wN];omega
theorem rpp_ (l:List SlotT) (s:SlotT) (hl:l.length<=1000):PQ G 223 [s11 l,s19 s] (s11 (putS l s)):=by
 refine ppp_ λΦ h=>?_;unfold cpp_;dsimp only;rw[ra_,ra_];refine ac18 (λst=>st=⟨38,[(0,s11 l),(3,.ref 3 0 0),(5,iv (p14 l s l.length:Nat)),(21,.bool false)],[(3,⟨false,174,5,[s19 s]⟩),(4,⟨true,174,5,[]⟩)]⟩) ?_ ?_
 .clear h;simp -implicitDefEqProofs only[go_sem,s11,s19,zQ];refine al_ (λn st=>st=⟨38,[(0,s11 l),(3,.ref 3 0 0),(5,iv n)],[(3,⟨false,174,5,[s19 s]⟩),(4,⟨true,174,5,[]⟩)]⟩∧n<=l.length∧p14 l s n=p14 l s l.length) l.length ⟨rfl,zN _,rfl⟩ ?_;rintro I hI n st ⟨rfl,hn,hp⟩;rw[<-hp];cases n with
  | zero=>
   have e1:((0:Int)<((0:Nat):Int))=False:=by simp
   repeat' (first|simp -implicitDefEqProofs only[go_sem,e1,yA,s19,s11]|apply ai__<;>intro hb)
   try rfl
  | succ n=>
   obtain⟨x,hx,hxm⟩:=as10 (l:=l) (i:=n) (by omega);have e1:((0:Int)<((n+1:Nat):Int))=True:=by rw[eq_iff_iff];exact⟨λ_ =>trivial,λ_ =>by omega⟩
   have hw:IntKind.wrap .i64 (((n+1:Nat):Int) - 1)=(n:Int):=by rw[wi_ (by omega) (by omega)];omega
   have hps:p14 l s (n+1)=if s.var<x.var then p14 l s n else n+1:=by rw[p14,hx]
   obtain⟨x1,⟨x2,x3,x4,x5⟩⟩:=x;by_cases hv:s.var<x1
   .have e2:(s.var<x1)=True:=by simp;exact hv
    rw[zY hv] at hps;rw[hps] at hp
    repeat' (first|simp -implicitDefEqProofs only[go_sem,e1,e2,hw,am_ hx,yD,s19,s11]|apply ai__<;>intro hb)
    exact aa_ n (by omega) (hI _ _ ⟨rfl,by omega,hp⟩)
   .have e2:(s.var<x1)=False:=by simp;omega
    rw[zK hv] at hps;rw[hps]
    repeat' (first|simp -implicitDefEqProofs only[go_sem,e1,e2,hw,am_ hx,yD,yA,s19,s11]|apply ai__<;>intro hb)
    try rfl
 .rintro st hst;subst hst;have hple:=pl10 l s l.length;unfold putS at h;generalize p14 l s l.length=n at*;have hs1:=at11 (e:=s19) (sz:=5) (l:=l) (i:=n) (by decide) hple;have hs2:=ad_ (e:=s19) (sz:=5) (l:=l) (i:=n) (by decide) hple;have ht:(l.take n).length=n:=by simp;omega
  have hb1:n*48<=140737488355328:=by omega
  have hb2:(n+1)*48<=140737488355328:=by omega
  have hb3:(n+1+(l.length - n))*48<=140737488355328:=by omega
  repeat' (first|simp -implicitDefEqProofs only[go_sem,hs1,hs2,s19,s11,zQ,zL,wN,ht,hb1,hb2,hb3]|apply ai__<;>intro hb)
  exact h _ ⟨_,_,rfl,vm_ (e:=s19) (l:=l.take n++s::l.drop n) (by decide) (by simp [hget,s19];rfl) (by simp;omega),.refl _⟩
structure EvT where
 name:Str
 args:List Val
deriving DecidableEq
def e10 (e:EvT):AV:=.agg [.str e.name,.seq 4 (e.args.map valV)]
def h17 (a:ArgT) (v:Val) (b f:List SlotT):Option (List SlotT×List SlotT):=
 if a.kind=1 then (if a.value=v then some (b,f) else none)
 else if a.kind=2 then (if f27 b [⟨a.n,v⟩]=true then some (u15 b [⟨a.n,v⟩],f) else none)
 else if a.kind=3 then (if (getR f a.n).2=true then (if (getR f a.n).1=v then some (b,f) else none) else some (b,putS f ⟨a.n,v⟩))
 else some (b,f)
def h22:List ArgT->List Val->List SlotT->List SlotT->Option (List SlotT×List SlotT)
 | a::al,v::vs,b,f=>match h17 a v b f with | some r=>h22 al vs r.1 r.2 | none=>none
 | _,_,b,f=>some (b,f)
def hitR (q:QeaT) (e:EvT) (s:Nat):Option HitT:=match q.symbols[s]? with
 | none=>none
 | some x=>match at? q.decls x.event with
  | none=>none
  | some d=>if d.name=e.name∧x.args.length=e.args.length then (h22 x.args e.args [] []).map λr=>⟨(s:Int),r.1,r.2⟩ else none
def h26:Option HitT->AV
 | some h=>.tup [hitV h,.bool true]
 | none=>.tup [.agg [iv 0,.nils,.nils],.bool false]
theorem ul11 (a b:List SlotT):(u15 a b).length<=8:=by
 have:∀n,(u13 a b n).length<=n:=by
  intro n
  induction n with
  | zero=>simp [u13]
  | succ n ih=>
   rw[us_,zL];have:=ul_ a b n;omega
 exact this 8
theorem hl_ {a:ArgT} {v:Val} {b f:List SlotT} {r:List SlotT×List SlotT} (h:h17 a v b f=some r) (hb:b.length<=8):r.1.length<=8∧r.2.length<=f.length+1:=by
 unfold h17 at h;split at h
 .split at h
  .cases h;exact⟨hb,by dsimp only;omega⟩
  .cases h
 split at h
 .split at h
  .cases h;exact⟨ul11 _ _,by dsimp only;omega⟩
  .cases h
 split at h
 .split at h
  .split at h
   .cases h;exact⟨hb,by dsimp only;omega⟩
   .cases h
  .cases h;exact⟨hb,by dsimp only;rw[pl17];omega⟩
 .cases h;exact⟨hb,by dsimp only;omega⟩
theorem ha12 {al:List ArgT} {vs:List Val} {i:Nat} {a:ArgT} {v:Val} (ha:al[i]?=some a) (hv:vs[i]?=some v) (b f:List SlotT):h22 (al.drop i) (vs.drop i) b f=match h17 a v b f with | some r=>h22 (al.drop (i+1)) (vs.drop (i+1)) r.1 r.2 | none=>none:=by rw[da_ ha,da_ hv,h22]
theorem he_ {al:List ArgT} {vs:List Val} {i:Nat} (h:al.length<=i) (b f:List SlotT):h22 (al.drop i) (vs.drop i) b f=some (b,f):=by rw[yL h];cases vs.drop i <;> rfl
theorem rH10 (q:QeaT) (e:EvT) (s:Nat) (x:SymT) (d:DeclT) (hx:q.symbols[s]?=some x) (hd:at? q.decls x.event=some d) (hal:x.args.length<=100) (hel:e.args.length<=1000000):
  PQ G 146 [qeaV q,iv s,e10 e] (h26 (hitR q e s)):=by
 obtain⟨j,hxe,hj⟩:=at?_some hd;refine pp40 λΦ h=>?_;unfold cpH_;have fin0:∀heap,hitR q e s=none->hget heap 6=some ⟨false,185,3,[.agg [iv 0,.nils,.nils]]⟩->Φ ⟨121,[(6,.ref 6 0 0),(7,.bool false)],heap⟩:=λheap e1 e2=>h _ ⟨[.agg [iv 0,.nils,.nils],.bool false],_,by simp [r19,a19,h16,e2,eget,cpH_,AV.cells],rfl,fe_ (by rw[e1];rfl)⟩;have fin1:∀b f heap,hitR q e s=some ⟨s,b,f⟩->hget heap 6=some ⟨false,185,3,[.agg [iv s,s11 b,s11 f]]⟩->Φ ⟨121,[(6,.ref 6 0 0),(7,.bool true)],heap⟩:=λb f heap e1 e2=>h _ ⟨[.agg [iv s,s11 b,s11 f],.bool true],_,by simp [r19,a19,h16,e2,eget,cpH_,AV.cells],rfl,fe_ (by rw[e1];rfl)⟩;clear h;have hR:hitR q e s=if d.name=e.name∧x.args.length=e.args.length then (h22 x.args e.args [] []).map λr=>⟨(s:Int),r.1,r.2⟩ else none:=by unfold hitR;rw[hx];dsimp only;rw[hd]
 obtain⟨xe,xa⟩:=x;obtain⟨en,ea⟩:=e;obtain⟨dn,dt⟩:=d;dsimp only at hxe hal hel hR;subst hxe;generalize hitR q ⟨en,ea⟩ s=R at*;by_cases hn:dn=en
 .subst hn;by_cases hln:xa.length=ea.length
  .rw[zY ⟨rfl,hln⟩] at hR;have e1:(dn==dn)=true:=by simp
   have e2:((xa.length:Int) != (ea.length:Int))=false:=by simp;omega
   repeat' (first|simp -implicitDefEqProofs only[go_sem,qeaV,d_,q_,f_,s_,s10,n_,t_,e10,zQ,am_ hx,am_ hj,symV,a10,d12,i11,e1,e2]|apply ai__<;>intro hb)
   refine al11 (λn st=>∃(i:Nat) (b f:List SlotT),i+n=xa.length∧st=⟨121,[(1,iv s),(5,.ref 5 0 0),(6,.ref 6 0 0),(8,.ref 8 0 0),(9,.ref 9 0 0),(10,s11 b),(11,s11 f),(12,iv i)],[(3,⟨false,30,9,[qeaV q]⟩),(5,⟨false,45,2,[e10 ⟨dn,ea⟩]⟩),(6,⟨false,185,3,[.agg [iv 0,.nils,.nils]]⟩),(8,⟨false,106,2,[symV ⟨(j:Int),xa⟩]⟩),(9,⟨false,185,3,[.agg [iv 0,.nils,.nils]]⟩)]⟩∧b.length<=8∧f.length<=i∧(h22 (xa.drop i) (ea.drop i) b f).map (λr=>(⟨(s:Int),r.1,r.2⟩:HitT))=R) xa.length
    ⟨121,[(1,iv s),(5,.ref 5 0 0),(6,.ref 6 0 0),(8,.ref 8 0 0),(9,.ref 9 0 0),(10,s11 []),(11,s11 []),(12,iv 0)],[(3,⟨false,30,9,[qeaV q]⟩),(5,⟨false,45,2,[e10 ⟨dn,ea⟩]⟩),(6,⟨false,185,3,[.agg [iv 0,.nils,.nils]]⟩),(8,⟨false,106,2,[symV ⟨(j:Int),xa⟩]⟩),(9,⟨false,185,3,[.agg [iv 0,.nils,.nils]]⟩)]⟩
    ((wt_ (i:=10) rfl rfl).trans (wt_ (i:=11) rfl rfl)) ⟨0,[],[],by simp,rfl,by simp,by simp,hR.symm⟩ ?_
   rintro I hI n st ⟨i,b,f,hi,rfl,hbl,hfl,hgo⟩;simp -implicitDefEqProofs only[go_sem,qeaV,d_,q_,f_,s_,s10,n_,t_,e10,symV,a10,zQ];refine⟨λhlt=>?_,λhge=>?_⟩
   .have hlt':i<xa.length:=by omega
    obtain⟨a,ha,_⟩:=as10 hlt';obtain⟨v,hv,_⟩:=as10 (l:=ea) (i:=i) (by omega);have hw:=ws_ hlt';rw[ha12 ha hv] at hgo;have hal2:∀r,h17 a v b f=some r->r.1.length<=8∧r.2.length<=f.length+1:=λr hr=>hl_ hr hbl;have hnext:∀b' f',h17 a v b f=some (b',f')->a13 I n ⟨121,[(1,iv s),(5,.ref 5 0 0),(6,.ref 6 0 0),(8,.ref 8 0 0),(9,.ref 9 0 0),(10,s11 b'),(11,s11 f'),(12,iv (i+1:Nat))],[(3,⟨false,30,9,[qeaV q]⟩),(5,⟨false,45,2,[e10 ⟨dn,ea⟩]⟩),(6,⟨false,185,3,[.agg [iv 0,.nils,.nils]]⟩),(8,⟨false,106,2,[symV ⟨(j:Int),xa⟩]⟩),(9,⟨false,185,3,[.agg [iv 0,.nils,.nils]]⟩)]⟩:=λb' f' hr=>by rw[hr] at hgo;have:=hal2 _ hr;dsimp only at this;exact aa_ (n - 1) (by omega) (hI _ _ ⟨i+1,b',f',by omega,rfl,this.1,by omega,hgo⟩)
    have hbad:h17 a v b f=none->R=none:=λhr=>by rw[hr] at hgo;exact hgo.symm
    clear hgo hal2 hI;have hc1:=rF10 (G:=G) b [⟨a.n,v⟩] (by omega) (by simp);have hc2:=rU10 (G:=G) b [⟨a.n,v⟩] (by omega) (by simp);have hc3:=rGp_ (G:=G) f (by omega) a.n;have hc4:=rpp_ (G:=G) f ⟨a.n,v⟩ (by omega);unfold h17 at hnext hbad;obtain⟨ak,an,⟨w1,w2,w3,w4⟩⟩:=a;obtain⟨v1,v2,v3,v4⟩:=v;have hxy:((⟨w1,w2,w3,w4⟩:Val)==⟨v1,v2,v3,v4⟩)=(w1==v1&&(w2==v2&&(w3==v3&&w4==v4))):=vb_ _ _ _ _ _ _ _ _;dsimp only at*;simp only[s11,yJ,yU,s19] at hc1 hc2 hc3 hc4;by_cases h1:ak=1
    .rw[zY h1] at hnext hbad;subst h1;by_cases hav:(⟨w1,w2,w3,w4⟩:Val)=⟨v1,v2,v3,v4⟩
     .rw[zY hav] at hnext;have hnext:=hnext _ _ rfl;rw[show ((⟨w1,w2,w3,w4⟩:Val)==⟨v1,v2,v3,v4⟩)=true by simpa using hav] at hxy
      repeat' (first|simp -implicitDefEqProofs only[go_sem,am_ ha,am_ hv,argV,valV,hw,s11,<-hxy,wM]|apply ai__<;>intro hb)
      exact hnext
     .rw[zK hav] at hbad;have hbad:=hbad rfl;rw[show ((⟨w1,w2,w3,w4⟩:Val)==⟨v1,v2,v3,v4⟩)=false by simpa using hav] at hxy
      repeat' (first|simp -implicitDefEqProofs only[go_sem,am_ ha,am_ hv,argV,valV,hw,s11,<-hxy,vX]|apply ai__<;>intro hb)
      exact fin0 _ hbad rfl
    .rw[zK h1] at hnext hbad;have k1:(ak==1)=false:=by simp [h1]
     clear hxy;by_cases h2:ak=2
     .rw[zY h2] at hnext hbad;subst h2;generalize f27 b [⟨an,⟨v1,v2,v3,v4⟩⟩]=z at*;generalize u15 b [⟨an,⟨v1,v2,v3,v4⟩⟩]=u at*;cases z
      .have hbad:=hbad (zK (by decide))
       repeat' (first|simp -implicitDefEqProofs only[go_sem,am_ ha,am_ hv,argV,valV,hw,s11,k1]|apply ai__<;>intro hb|refine ac_ hc1 rfl rfl ?_|fail)
       exact fin0 _ hbad rfl
      .have hnext:=hnext _ _ (zY rfl)
       repeat' (first|simp -implicitDefEqProofs only[go_sem,am_ ha,am_ hv,argV,valV,hw,s11,k1]|apply ai__<;>intro hb|refine ac_ hc1 rfl rfl ?_|refine ac_ hc2 rfl rfl ?_|fail)
       exact hnext
     .rw[zK h2] at hnext hbad;have k2:(ak==2)=false:=by simp [h2]
      clear hc1 hc2;by_cases h3:ak=3
      .rw[zY h3] at hnext hbad;subst h3;generalize getR f an=g at*;obtain⟨⟨g1,g2,g3,g4⟩,ok⟩:=g;simp only[vbt,valV] at hc3;cases ok
       .have hnext:=hnext _ _ (zK (by simp));have hai:∀H:List (Nat×Box),hget H 63=some ⟨true,174,5,[.agg [iv an,iv v1,iv v2,.str v3,.bool v4]]⟩->a16 H 5 (.arr 63 0 1) (.int .i64 0)=some (.ref 63 0 0):=λH hH=>by simp [a16,hH]
        generalize putS f ⟨an,⟨v1,v2,v3,v4⟩⟩=u at*
        repeat' (first|simp -implicitDefEqProofs only[go_sem,am_ ha,am_ hv,argV,valV,hw,s11,k1,k2,hai]|apply ai__<;>intro hb|refine ac_ hc3 rfl rfl ?_|refine ac_ hc4 rfl rfl ?_|fail)
        exact hnext
       .rw[zY rfl] at hnext hbad;have hxy:((⟨g1,g2,g3,g4⟩:Val)==⟨v1,v2,v3,v4⟩)=(g1==v1&&(g2==v2&&(g3==v3&&g4==v4))):=vb_ _ _ _ _ _ _ _ _;dsimp only at hnext hbad;by_cases hav:(⟨g1,g2,g3,g4⟩:Val)=⟨v1,v2,v3,v4⟩
        .rw[zY hav] at hnext;have hnext:=hnext _ _ rfl;rw[show ((⟨g1,g2,g3,g4⟩:Val)==⟨v1,v2,v3,v4⟩)=true by simpa using hav] at hxy
         repeat' (first|simp -implicitDefEqProofs only[go_sem,am_ ha,am_ hv,argV,valV,hw,s11,<-hxy,wM,k1,k2]|apply ai__<;>intro hb|refine ac_ hc3 rfl rfl ?_|fail)
         exact hnext
        .rw[zK hav] at hbad;have hbad:=hbad rfl;rw[show ((⟨g1,g2,g3,g4⟩:Val)==⟨v1,v2,v3,v4⟩)=false by simpa using hav] at hxy
         repeat' (first|simp -implicitDefEqProofs only[go_sem,am_ ha,am_ hv,argV,valV,hw,s11,<-hxy,vX,k1,k2]|apply ai__<;>intro hb|refine ac_ hc3 rfl rfl ?_|fail)
         exact fin0 _ hbad rfl
      .rw[zK h3] at hnext;have k3:(ak==3)=false:=by simp [h3]
       have hnext:=hnext _ _ rfl
       repeat' (first|simp -implicitDefEqProofs only[go_sem,am_ ha,am_ hv,argV,valV,hw,s11,k1,k2,k3]|apply ai__<;>intro hb)
       exact hnext
   .rw[he_ (by omega)] at hgo
    repeat' (first|simp -implicitDefEqProofs only[go_sem]|apply ai__<;>intro hb)
    exact fin1 b f _ hgo.symm rfl
  .rw[zK (λhz=>hln hz.2)] at hR;have e1:(dn==dn)=true:=by simp
   have e2:((xa.length:Int) != (ea.length:Int))=true:=by simp;omega
   repeat' (first|simp -implicitDefEqProofs only[go_sem,qeaV,d_,q_,f_,s_,s10,n_,t_,e10,zQ,am_ hx,am_ hj,symV,a10,d12,i11,e1,e2]|apply ai__<;>intro hb)
   exact fin0 _ hR rfl
 .rw[zK (λhz=>hn hz.1)] at hR;have e1:(dn==en)=false:=by simp [hn]
  repeat' (first|simp -implicitDefEqProofs only[go_sem,qeaV,d_,q_,f_,s_,s10,n_,t_,e10,zQ,am_ hx,am_ hj,symV,a10,d12,i11,e1]|apply ai__<;>intro hb)
  exact fin0 _ hR rfl
open Go.ChangeShapes Go.WideShapes
theorem r32:RdT Tryz.prog 45 2 λcs=>∃e:{e:EvT // ∀v∈e.args,i64 v.int},.agg cs=e10 e.1:=
 (rs_ (t:=45) (fs:=(Tryz.prog.fieldsOf 45)) (by kernel_rfl) (by kernel_rfl) (rc_ (f:=(Tryz.prog.fieldsOf 45)[0]!) (rStr (by kernel_rfl) (by kernel_rfl)) (by kernel_rfl) rfl (rc_ (f:=(Tryz.prog.fieldsOf 45)[1]!) r33 (by kernel_rfl) rfl (rn_ _)))).mono (by rintro _ ⟨_,_,rfl,⟨a,rfl⟩,_,_,rfl,⟨⟨l,hl⟩,rfl⟩,rfl⟩;exact⟨⟨⟨a,l⟩,hl⟩,rfl⟩)
def a_ (q:QeaT) (e:EvT) (n:Nat):List HitT:=(List.range n).filterMap (hitR q e)
theorem as17 (q:QeaT) (e:EvT) (n:Nat):a_ q e (n+1)=a_ q e n++(hitR q e n).toList:=by unfold a_;rw[tF,List.filterMap_append];cases h:hitR q e n <;> simp [h]
theorem al10 (q:QeaT) (e:EvT) (n:Nat):(a_ q e n).length<=n:=by have:=List.length_filterMap_le (hitR q e) (List.range n);rw[xE] at this;exact this
theorem ft11 {p:HitT->Bool} {l:List HitT} {i:Nat} {x:HitT} (h:l[i]?=some x):(l.take (i+1)).filter p=(l.take i).filter p++if p x then [x] else []:=by rw[vC,h,vP];cases hp:p x <;> simp [hp]
structure SymsOk (q:QeaT):Prop where
 len:q.symbols.length<=1000
 ok:∀x∈q.symbols,(∃d,at? q.decls x.event=some d)∧x.args.length<=100
theorem rA12 (q:QeaT) (e:EvT) (hq:SymsOk q) (hel:e.args.length<=1000000):PQ G 72 [qeaV q,e10 e] (h14 (a_ q e q.symbols.length)):=by
 have hsl:=hq.len;refine pp41 λΦ h=>?_;unfold cp42;simp -implicitDefEqProofs only[go_sem,qeaV,d_,q_,f_,s_,s10,n_,t_,e10];refine al_ (λn st=>∃(i:Nat) (m:List HitT),i+n=q.symbols.length∧st=⟨29,[(2,.ref 2 0 0),(3,.ref 3 0 0),(5,.arr 5 0 m.length),(6,iv i)],[(2,⟨false,30,9,[qeaV q]⟩),(3,⟨false,45,2,[e10 e]⟩),(4,⟨true,185,3,[]⟩),(5,⟨true,185,3,m.map hitV⟩)]⟩∧m=a_ q e i) q.symbols.length ⟨0,[],by simp,rfl,rfl⟩ ?_;rintro I hI n st ⟨i,m,hi,rfl,hm⟩;have hml:m.length<=i:=by rw[hm];exact al10 q e i
 simp -implicitDefEqProofs only[go_sem,qeaV,d_,q_,f_,s_,s10,n_,t_,e10,zQ];refine⟨λhlt=>?_,λhge=>?_⟩
 .have hlt':i<q.symbols.length:=by omega
  obtain⟨x,hx,hxm⟩:=as10 hlt';have hw:=ws_ hlt';obtain⟨⟨d,hd⟩,hal⟩:=hq.ok x hxm;have hc:=rH10 (G:=G) q e i x d hx hd hal hel;have hnx:=as17 q e i;rw[<-hm] at hnx;have hb1:(m.length+1)*56<=140737488355328:=by omega
  generalize hitR q e i=r at*;cases r with
  | none=>
   rw[show m++(none:Option HitT).toList=m by simp] at hnx;simp only[h26,qeaV,d_,q_,f_,s_,s10,n_,t_,e10] at hc
   repeat' (first|simp -implicitDefEqProofs only[go_sem,qeaV,d_,q_,f_,s_,s10,n_,t_,e10,hw,zQ]|apply ai__<;>intro hb|refine ac_ hc rfl rfl ?_|fail)
   exact aa_ (n - 1) (by omega) (hI _ _ ⟨i+1,m,by omega,rfl,hnx.symm⟩)
  | some y=>
   obtain⟨y1,y2,y3⟩:=y;rw[show m++(some (⟨y1,y2,y3⟩:HitT)).toList=m++[⟨y1,y2,y3⟩] by simp] at hnx;simp only[h26,hitV,s11,qeaV,d_,q_,f_,s_,s10,n_,t_,e10] at hc
   repeat' (first|simp -implicitDefEqProofs only[go_sem,qeaV,d_,q_,f_,s_,s10,n_,t_,e10,hw,zQ,hb1]|apply ai__<;>intro hb|refine ac_ hc rfl rfl ?_|fail)
   refine aa_ (n - 1) (by omega) (hI _ _ ⟨i+1,m++[⟨y1,y2,y3⟩],by omega,?_,hnx.symm⟩);simp [qeaV,d_,q_,f_,s_,s10,n_,t_,e10,hitV,s11]
 .have hi':i=q.symbols.length:=by omega
  subst hi';rw[<-hm] at h;clear hI hm
  repeat' (first|simp -implicitDefEqProofs only[go_sem]|apply ai__<;>intro hb)
  exact h _ ⟨_,_,rfl,vm_ (e:=hitV) (l:=m) (ty:=185) (by decide) (by simp [hget]) rfl,.refl _⟩
def u_ (l:List HitT) (b:List SlotT):List HitT:=l.filter λh=>u10 h.bind b
theorem rUp_ (l:List HitT) (b:List SlotT) (hl:l.length<=1000) (hbl:∀h∈l,h.bind.length<=1000000) (hb:b.length<=1000000):PQ G 143 [h14 l,s11 b] (h14 (u_ l b)):=by
 refine ppU_ λΦ h=>?_;unfold cpU_;simp -implicitDefEqProofs only[go_sem,h14,s11];refine al_ (λn st=>∃(i:Nat) (m:List HitT),i+n=l.length∧st=⟨28,[(0,h14 l),(1,s11 b),(5,.arr 5 0 m.length),(6,iv i)],[(4,⟨true,185,3,[]⟩),(5,⟨true,185,3,m.map hitV⟩)]⟩∧m=(l.take i).filter (λh=>u10 h.bind b)) l.length ⟨0,[],by simp,rfl,rfl⟩ ?_;rintro I hI n st ⟨i,m,hi,rfl,hm⟩;have hml:m.length<=i:=by
  have:m.length<=(l.take i).length:=by rw[hm];exact xH _ _
  rw[xG] at this;omega
 simp -implicitDefEqProofs only[go_sem,h14,s11,zQ];refine⟨λhlt=>?_,λhge=>?_⟩
 .have hlt':i<l.length:=by omega
  obtain⟨x,hx,hxm⟩:=as10 hlt';have hw:=ws_ hlt';have hc:=rU11 (G:=G) x.bind b (by have:=hbl x hxm;omega) (by omega);have hnx:=ft11 (p:=λh:HitT=>u10 h.bind b) hx;rw[<-hm] at hnx;have hb1:(m.length+1)*56<=140737488355328:=by omega
  generalize u10 x.bind b=z at*;obtain⟨x1,x2,x3⟩:=x;simp only[s11] at hc;cases z
  .rw[zK (by simp),xT] at hnx
   repeat' (first|simp -implicitDefEqProofs only[go_sem,am_ hx,hitV,s11,hw,zQ]|apply ai__<;>intro hb|refine ac_ hc rfl rfl ?_|fail)
   exact aa_ (n - 1) (by omega) (hI _ _ ⟨i+1,m,by omega,rfl,hnx.symm⟩)
  .rw[zY rfl] at hnx
   repeat' (first|simp -implicitDefEqProofs only[go_sem,am_ hx,hitV,s11,hw,zQ,hb1]|apply ai__<;>intro hb|refine ac_ hc rfl rfl ?_|fail)
   refine aa_ (n - 1) (by omega) (hI _ _ ⟨i+1,m++[⟨x1,x2,x3⟩],by omega,?_,hnx.symm⟩);simp [h14,hitV,s11]
 .rw[zT (by omega)] at hm;unfold u_ at h;rw[<-hm] at h;clear hI hm
  repeat' (first|simp -implicitDefEqProofs only[go_sem]|apply ai__<;>intro hb)
  exact h _ ⟨_,_,rfl,vm_ (e:=hitV) (l:=m) (ty:=185) (by decide) (by simp [hget]) rfl,.refl _⟩
def w13 (a b:Int):Int:=if a=0∨(¬b=0∧b<a) then b else a
def l19 (l:List Int):Int:=l.foldl w13 0
def resT (q:QeaT) (c:CfgT) (hits:List HitT) (t:TransT):Option (CfgT×Bool×Int):=if t.from_=c.state then (hits.find? λh=>h.symbol==t.symbol).map (f14 q c t) else none
def okT (q:QeaT) (c:CfgT) (hits:List HitT) (t:TransT):List CfgT:=match resT q c hits t with | some (n,true,_)=>[n] | _ =>[]
def badT (q:QeaT) (c:CfgT) (hits:List HitT) (t:TransT):List Int:=match resT q c hits t with | some (_,_,e)=>if e=0 then [] else [e] | none=>[]
def n17 (q:QeaT) (c:CfgT):Bool:=match at? q.states c.state with | some s=>s.next | none=>false
def oksR (q:QeaT) (c:CfgT) (hits:List HitT):List CfgT:=q.trans.flatMap (okT q c hits)
def b15 (q:QeaT) (c:CfgT) (hits:List HitT):List Int:=q.trans.flatMap (badT q c hits)
def oneQ (q:QeaT) (c:CfgT) (hits:List HitT):List CfgT×Int:=
 if ¬l19 (b15 q c hits)=0 then ([],l19 (b15 q c hits)) else if oksR q c hits=[]∧n17 q c=false then ([c],0) else (ofR (oksR q c hits),0)
def a20 (q:QeaT) (hits:List HitT) (s:List CfgT×Int) (c:CfgT):List CfgT×Int:=((oneQ q c hits).1.foldl putR s.1,w13 s.2 (oneQ q c hits).2)
def allQ (q:QeaT) (set:List CfgT) (hits:List HitT):List CfgT×Int:=
 let s:=set.foldl (a20 q hits) ([],0)
 if ¬s.2=0 then ([],s.2) else if 256<s.1.length then ([],14) else (s.1,0)
structure HitsOk (q:QeaT) (hits:List HitT):Prop where
 ok:∀h∈hits,h.Ok q
 len:hits.length<=1000
theorem e21.pos {x:Int} (h:e21 x):0<x:=by unfold e21 at h;omega
theorem rwp_ (a b:Int):PQ G 219 [iv a,iv b] (iv (w13 a b)):=by
 refine ppw_ λΦ h=>?_;unfold cpw_;unfold w13 at h;by_cases h1:a=0
 .rw[zY (.inl h1)] at h;have e1:(a==0)=true:=by simp [h1]
  repeat' (first|simp -implicitDefEqProofs only[go_sem,e1]|apply ai__<;>intro hb)
  exact hq_ h
 .have e1:(a==0)=false:=by simp [h1]
  by_cases h2:b=0
  .rw[zK (by omega)] at h;have e2:(b != 0)=false:=by simp [h2]
   repeat' (first|simp -implicitDefEqProofs only[go_sem,e1,e2]|apply ai__<;>intro hb)
   exact hq_ h
  .have e2:(b != 0)=true:=by simp [h2]
   by_cases h3:b<a
   .rw[zY (.inr ⟨h2,h3⟩)] at h;have e3:(b<a)=True:=by simp;exact h3
    repeat' (first|simp -implicitDefEqProofs only[go_sem,e1,e2,e3,yD]|apply ai__<;>intro hb)
    exact hq_ h
   .rw[zK (by omega)] at h;have e3:(b<a)=False:=by simp;omega
    repeat' (first|simp -implicitDefEqProofs only[go_sem,e1,e2,e3,yA]|apply ai__<;>intro hb)
    exact hq_ h
theorem rf10 (vals:List Val) (l:List SlotT) (hv:vals.length<=1000000) (hl:l.length<=1000000) (hin:∀s∈l,∃f:Nat,s.var=f∧f<vals.length):PQ G 281 [v_ vals,s11 l] (v_ (f15 l vals)):=by
 have hb:vals.length*40<=140737488355328:=by omega
 refine pp29 λΦ h=>?_;unfold cp31
 repeat' (first|simp -implicitDefEqProofs only[go_sem,v_,s11,zQ,hb]|apply ai__<;>intro hb)
 refine al_ (λn st=>∃(i:Nat) (out:List Val),i+n=l.length∧st=⟨29,[(1,.seq 5 (l.map s19)),(5,.arr 7 0 vals.length),(6,iv i)],[(4,⟨true,48,4,[]⟩),(7,⟨true,48,4,out.map valV⟩)]⟩∧out.length=vals.length∧f15 (l.drop i) out=f15 l vals) l.length ⟨0,vals,by simp,rfl,rfl,rfl⟩ ?_;rintro I hI n st ⟨i,out,hi,rfl,hol,hno⟩;rw[<-hno] at h;simp -implicitDefEqProofs only[go_sem,zQ];refine⟨λhlt=>?_,λhge=>?_⟩
 .have hlt':i<l.length:=by omega
  obtain⟨s,hx,hxm⟩:=as10 hlt';have hw:=ws_ hlt';have hgo:=fg_ (out:=out) hx;obtain⟨f,hf,hfn⟩:=hin s hxm;have hst:=fi_ hf (by omega:f<out.length);obtain⟨sv,⟨k,m,str,bt⟩⟩:=s;dsimp only at hf hst;subst hf;rw[hst] at hgo;obtain⟨old,hold,_⟩:=as10 (l:=out) (i:=f) (by omega);obtain⟨o1,o2,o3,o4⟩:=old;have hes:(List.map valV out)[f]?=some (.agg [iv o1,iv o2,.str o3,.bool o4]):=by rw[zS,hold];rfl
  have hset:(List.map valV out).set f (.agg [iv k,iv m,.str str,.bool bt])=List.map valV (out.set f ⟨k,m,str,bt⟩):=by rw[List.map_set];rfl
  have hai:∀H:List (Nat×Box),hget H 7=some ⟨true,48,4,out.map valV⟩->a16 H 4 (.arr 7 0 vals.length) (iv f)=some (.ref 7 f 0):=λH hH=>ar10 hH rfl hfn
  repeat' (first|simp -implicitDefEqProofs only[go_sem,am_ hx,s19,hw,hes,hset,hai]|apply ai__<;>intro hb)
  exact aa_ (n - 1) (by omega) (hI _ _ ⟨i+1,_,by omega,rfl,by simp [hol],by rw[hgo,hno]⟩)
 .rw[fe11 (by omega)] at h;have hview:∀H:List (Nat×Box),hget H 7=some ⟨true,48,4,out.map valV⟩->view H (.arr 7 0 vals.length)=some (v_ out):=λH hH=>vr14 hH hol
  repeat' (first|simp -implicitDefEqProofs only[go_sem]|apply ai__<;>intro hb)
  exact h _ ⟨_,_,rfl,hview _ rfl,.refl _⟩
def f29 (r:CfgT×Bool×Int):AV:=if r.2.1=true then .tup [cfgV r.1,.bool true,iv r.2.2] else .tup [.agg [iv 0,.nils],.bool false,iv r.2.2]
theorem rfp_ {q:QeaT} {c:CfgT} {h:HitT} (hq:q.Good) (hc:c.Ok q) (hh:h.Ok q) (j:Nat) (t:TransT) (ht:q.trans[j]?=some t) (hsl:t.sets.length<=1000000):PQ G 262 [qeaV q,iv j,cfgV c,hitV h] (f29 (f14 q c t h)):=by
 have htm:=zG ht;obtain⟨hf,hE⟩:=eh10 hq hc hh;have tk:=hq.tk t htm;have hS:=so19 q hq.n64;have hlen:=(fa_ hf).1;have hcl:c.vals.length=q.frees.length:=(fa_ hc.st.2.2).1;have hfl:=hq.fl;have h1:=rf10 (G:=G) c.vals h.frees (by omega) hh.fl λs hs=>by obtain⟨⟨f,fr,e,hfr,_⟩,_⟩:=hh.fok s hs;exact⟨f,e,by have:=(zX.1 hfr).1;omega⟩
 have h2:=rG10 (G:=G) hS hE j t ht tk.guard;have h3:=rS14 (G:=G) hS hE j t ht (λs hs=>by obtain⟨e,f,x,fr,he,hfr,hx,hk0,hfq,_⟩:=tk.sets s hs;exact⟨e,f,he,hfr,⟨x,hx,hk0⟩,by have:=(zX.1 hfq).1;omega⟩) hsl
 refine ppf_ λΦ hh=>?_;unfold cpf_;have fin0:∀e heap,f14 q c t h=(⟨0,[]⟩,false,e)->hget heap 8=some ⟨false,178,2,[.agg [iv 0,.nils]]⟩->Φ ⟨58,[(8,.ref 8 0 0),(9,.bool false),(10,iv e)],heap⟩:=λe heap e1 e2=>hh _ ⟨[.agg [iv 0,.nils],.bool false,iv e],_,by simp [r19,a19,h16,e2,eget,cpf_,AV.cells],rfl,fe_ (by rw[e1];rfl)⟩;have fin1:∀s vs heap,f14 q c t h=(⟨s,vs⟩,true,0)->hget heap 8=some ⟨false,178,2,[.agg [iv s,v_ vs]]⟩->Φ ⟨58,[(8,.ref 8 0 0),(9,.bool true),(10,iv 0)],heap⟩:=λs vs heap e1 e2=>hh _ ⟨[.agg [iv s,v_ vs],.bool true,iv 0],_,by simp [r19,a19,h16,e2,eget,cpf_,AV.cells],rfl,fe_ (by rw[e1];rfl)⟩;clear hh;have hR:f14 q c t h=f14 q c t h:=rfl
 conv at hR=>rhs;unfold f14
 clear hlen hE hf hcl;generalize f14 q c t h=R at*;obtain⟨cs,cv⟩:=c;obtain⟨hs,hb,hfr⟩:=h;obtain⟨t1,t2,t3,t4,sets⟩:=t;dsimp only at*;generalize f15 hfr cv=vals at*;generalize g_ q hb vals ⟨t1,t2,t3,t4,sets⟩=g at*;generalize s25 q hb vals sets vals=r at*;obtain⟨gb,ge⟩:=g;obtain⟨rv,re⟩:=r;dsimp only at*;simp only[v_,s11,qeaV,d_,q_,f_,s_,s10,n_,t_] at h1 h2 h3;by_cases hge:ge=0
 .subst hge;cases gb
  .rw[zY (.inr rfl)] at hR
   repeat' (first|simp -implicitDefEqProofs only[go_sem,qeaV,d_,q_,f_,s_,s10,n_,t_,cfgV,hitV,s11,v_]|apply ai__<;>intro hb|refine ac_ h1 rfl rfl ?_|refine ac_ h2 rfl rfl ?_|fail)
   exact fin0 _ _ hR rfl
  .rw[zK (by simp)] at hR;by_cases hre:re=0
   .subst hre;rw[zY rfl] at hR
    repeat' (first|simp -implicitDefEqProofs only[go_sem,qeaV,d_,q_,f_,s_,s10,n_,t_,cfgV,hitV,s11,v_,am_ ht,t11,s18]|apply ai__<;>intro hb|refine ac_ h1 rfl rfl ?_|refine ac_ h2 rfl rfl ?_|refine ac_ h3 rfl rfl ?_|fail)
    exact fin1 _ _ _ hR rfl
   .rw[zK hre] at hR;have e1:(re != 0)=true:=by simp [hre]
    repeat' (first|simp -implicitDefEqProofs only[go_sem,qeaV,d_,q_,f_,s_,s10,n_,t_,cfgV,hitV,s11,v_,e1]|apply ai__<;>intro hb|refine ac_ h1 rfl rfl ?_|refine ac_ h2 rfl rfl ?_|refine ac_ h3 rfl rfl ?_|fail)
    exact fin0 _ _ hR rfl
 .rw[zY (.inl hge)] at hR;have e1:(ge != 0)=true:=by simp [hge]
  repeat' (first|simp -implicitDefEqProofs only[go_sem,qeaV,d_,q_,f_,s_,s10,n_,t_,cfgV,hitV,s11,v_,e1]|apply ai__<;>intro hb|refine ac_ h1 rfl rfl ?_|refine ac_ h2 rfl rfl ?_|fail)
  exact fin0 _ _ hR rfl
