/-
  The reader of chapter 38, plainly: by places. key.Cut, plainly: the value at the beginning of bytes, by places. The arithmetic of chapter 38's bytes: shifts, ors, the top bit. No claim is proved here.
-/
import Derived.Test.YtkejmcgngblfnaaGreatDoorYSv3
namespace Go.Proofs.YtkejmcgngblfnaaGreatDoor.Ab
open Go
abbrev RdF (α:Type):=Nat→α×Bool×Nat
def RdP {α:Type} (b:List UInt8) (pr:α→List UInt8) (p:List UInt8→Option (α×List UInt8)) (q:RdF α):Prop:=
 ∀k,k≤b.length→(∀x r,p (b.drop k)=some (x,r)→q k=(x,true,k+(pr x).length))∧(p (b.drop k)=none→(q k).2.1=false)
theorem do11 {b x r:List UInt8} {k:Nat} (h:b.drop k=x++r):b.drop (k+x.length)=r:=by
 rw[←List.drop_drop,h,List.drop_left]
theorem di_ {b x r:List UInt8} {k:Nat} (hk:k≤b.length) (h:b.drop k=x++r):k+x.length≤b.length:=by
 have:=congrArg List.length h
 rw[List.length_drop,List.length_append] at this
 omega
def n10 (b:List UInt8):RdF Int:=fun k=>match intP (b.drop k) with | some (n,_)=>(n,true,k+4) | none=>(0,false,k)
theorem nr_ (b:List UInt8):RdP b intB intP (n10 b):=fun k _ =>⟨fun x r h=>by unfold n10;rw[h];rfl,fun h=>by unfold n10;rw[h]⟩
def Val.zero:Val:=⟨0,0,[],false⟩
def valR (b:List UInt8):RdF Val:=fun k=>match valP (b.drop k) with | some (v,_)=>(v,true,k+(k_ v).length) | none=>(Val.zero,false,k)
theorem vr14 (b:List UInt8):RdP b k_ valP (valR b):=fun k _ =>⟨fun x r h=>by unfold valR;rw[h],fun h=>by unfold valR;rw[h]⟩
def seqR {α β:Type} (z:α×β) (u:RdF α) (v:RdF β):RdF (α×β):=fun k=>
 if (u k).2.1=true then (((u k).1,(v (u k).2.2).1),(v (u k).2.2).2) else (z,false,(u k).2.2)
theorem sr10 {α β:Type} {b:List UInt8} {ga:α→Prop} {pa:α→List UInt8} {pb:β→List UInt8} {p:List UInt8→Option (α×List UInt8)} {q:List UInt8→Option (β×List UInt8)} {u:RdF α} {v:RdF β} (z:α×β)
  (hp:PP ga pa p) (h:RdP b pa p u) (g:RdP b pb q v):RdP b (fun x:α×β=>pa x.1++pb x.2) (seqP p q) (seqR z u v):=fun k hk=>by
 unfold seqP seqR
 generalize hx:p (b.drop k)=o
 match o,hx with
 | none,hx=>
  have e:=(h k hk).2 hx
  exact⟨fun x r hh=>(by cases hh),fun _ =>by rw[e,if_neg (by decide)]⟩
 | some (x,r),hx=>
  have e:=(h k hk).1 x r hx
  have hd:=(hp.bwd _ _ _ hx).2
  have h1:=do11 hd
  have h2:=di_ hk hd
  simp only[e,if_true]
  generalize hy:q r=o
  match o,hy with
  | none,hy=>exact⟨fun x r hh=>(by cases hh),fun _ =>(g _ h2).2 (by rw[h1];exact hy)⟩
  | some (y,s),hy=>
   have e2:=(g _ h2).1 y s (by rw[h1];exact hy)
   refine⟨fun w t hh=>?_,fun hh=>by cases hh⟩
   simp only[Option.some.injEq,Prod.mk.injEq] at hh
   obtain⟨rfl,rfl⟩:=hh
   rw[e2,List.length_append]
   simp only[Nat.add_assoc]
def t_ {α:Type} (u:RdF α):Nat→RdF (List α)
 | 0,k=>([],true,k)
 | n+1,k=>if (u k).2.1=true then (if (t_ u n (u k).2.2).2.1=true then ((u k).1::(t_ u n (u k).2.2).1,true,(t_ u n (u k).2.2).2.2) else ([],false,(t_ u n (u k).2.2).2.2)) else ([],false,(u k).2.2)
def l_ {α:Type} (b:List UInt8) (u:RdF α):RdF (List α):=fun k=>
 if (n10 b k).2.1=true then (if (b.length:Int) - ((n10 b k).2.2:Int)<(n10 b k).1 then ([],false,(n10 b k).2.2) else t_ u (n10 b k).1.toNat (n10 b k).2.2) else ([],false,(n10 b k).2.2)
theorem tr_ {α:Type} {b:List UInt8} {ga:α→Prop} {pa:α→List UInt8} {p:List UInt8→Option (α×List UInt8)} {u:RdF α} (hp:PP ga pa p) (h:RdP b pa p u):
  ∀n,RdP b (fun l:List α=>l.flatMap pa) (t11 p n) (t_ u n)
 | 0=>fun k hk=>⟨fun x r hh=>by
    simp only[t11,Option.some.injEq,Prod.mk.injEq] at hh
    obtain⟨rfl,rfl⟩:=hh
    rfl,fun hh=>by simp [t11] at hh⟩
 | n+1=>fun k hk=>by
  simp only[t11,t_]
  generalize hx:p (b.drop k)=o
  match o,hx with
  | none,hx=>
   have e:=(h k hk).2 hx
   exact⟨fun x r hh=>(by cases hh),fun _ =>by rw[e,if_neg (by decide)]⟩
  | some (x,r),hx=>
   have e:=(h k hk).1 x r hx
   have hd:=(hp.bwd _ _ _ hx).2
   have h1:=do11 hd
   have h2:=di_ hk hd
   simp only[e,if_true]
   generalize hy:t11 p n r=o
   match o,hy with
   | none,hy=>
    have e2:=(tr_ hp h n _ h2).2 (by rw[h1];exact hy)
    exact⟨fun x r hh=>(by cases hh),fun _ =>by rw[e2,if_neg (by decide)]⟩
   | some (y,s),hy=>
    have e2:=(tr_ hp h n _ h2).1 y s (by rw[h1];exact hy)
    refine⟨fun w t hh=>?_,fun hh=>by cases hh⟩
    simp only[Option.some.injEq,Prod.mk.injEq] at hh
    obtain⟨rfl,rfl⟩:=hh
    rw[e2,if_pos rfl,List.flatMap_cons,List.length_append]
    simp only[Nat.add_assoc]
theorem lr_ {α:Type} {b:List UInt8} {ga:α→Prop} {pa:α→List UInt8} {p:List UInt8→Option (α×List UInt8)} {u:RdF α} (hp:PP ga pa p) (h:RdP b pa p u):
  RdP b (l10 pa) (l17 p) (l_ b u):=fun k hk=>by
 unfold l17 l_
 have hn:n10 b k=(match numP (b.drop k) with | some (n,_)=>((n:Int),true,k+4) | none=>(0,false,k)):=by
  unfold n10 intP
  cases numP (b.drop k) <;> rfl
 rw[hn]
 generalize hx:numP (b.drop k)=o
 match o,hx with
 | none,hx=>exact⟨fun x r hh=>(by cases hh),fun _ =>rfl⟩
 | some (n,r),hx=>
  have hd:=(np12.bwd _ _ _ hx).2
  have h1:=do11 hd
  have h2:=di_ hk hd
  rw[fl10] at h1 h2
  have hr:r.length=b.length - (k+4):=by rw[←h1,List.length_drop]
  simp only[if_true,Int.toNat_natCast]
  by_cases hs:r.length<n
  ·rw[if_pos hs,if_pos (by omega)]
   exact⟨fun x r hh=>(by cases hh),fun _ =>rfl⟩
  ·rw[if_neg hs,if_neg (by omega)]
   refine⟨fun x s hh=>?_,fun hh=>(tr_ hp h n _ h2).2 (by rw[h1];exact hh)⟩
   have e:=(tr_ hp h n _ h2).1 x s (by rw[h1];exact hh)
   rw[e]
   unfold l10
   rw[List.length_append,fl10]
   simp only[Nat.add_assoc]
def s13 (b:List UInt8):RdF (Int×Val):=seqR (0,Val.zero) (n10 b) (valR b)
def cfgR (b:List UInt8):RdF (Int×List Val):=seqR (0,[]) (n10 b) (l_ b (valR b))
def rowR (b:List UInt8):RdF VRow:=seqR ([],[]) (l_ b (s13 b)) (l_ b (cfgR b))
theorem sr12 (b:List UInt8):RdP b s20 s34 (s13 b):=sr10 _ ip_ (nr_ b) (vr14 b)
theorem vr13 (b:List UInt8):RdP b (l10 k_) (l17 valP) (l_ b (valR b)):=lr_ vp10 (vr14 b)
theorem cr10 (b:List UInt8):RdP b cfgB cfgP (cfgR b):=sr10 _ ip_ (nr_ b) (vr13 b)
theorem rr13 (b:List UInt8):RdP b rowB rowP (rowR b):=sr10 _ (lp_ sp11 fun s=>an_ (in10 s.1)) (lr_ sp11 (sr12 b)) (lr_ cp12 (cr10 b))
def s12 (b:List UInt8):V_×Bool:=
 if b.head?≠some 81 then (V_.none,false) else
 let t:=n10 b 1
 if t.2.1=false then (⟨t.1,0,0,0,[],[]⟩,false) else
 let m:=n10 b t.2.2
 if m.2.1=false then (⟨t.1,m.1,0,0,[],[]⟩,false) else
 let n:=n10 b m.2.2
 if n.2.1=false then (⟨t.1,m.1,n.1,0,[],[]⟩,false) else
 let s:=n10 b n.2.2
 if s.2.1=false then (⟨t.1,m.1,n.1,0,[],[]⟩,false) else
 let d:=l_ b (l_ b (valR b)) s.2.2
 if d.2.1=false then (⟨t.1,m.1,n.1,s.1,d.1,[]⟩,false) else
 let r:=l_ b (rowR b) d.2.2
 if r.2.1=false then (⟨t.1,m.1,n.1,s.1,d.1,r.1⟩,false) else
 (⟨t.1,m.1,n.1,s.1,d.1,r.1⟩,decide (r.2.2=b.length))
def s22 (b:List UInt8):RdF (Int×Int×Int×Int×List (List Val)×List VRow):=
 seqR (0,0,0,0,[],[]) (n10 b) (seqR (0,0,0,[],[]) (n10 b) (seqR (0,0,[],[]) (n10 b) (seqR (0,[],[]) (n10 b) (seqR ([],[]) (l_ b (l_ b (valR b))) (l_ b (rowR b))))))
theorem sr11 (b:List UInt8):RdP b (fun x:Int×Int×Int×Int×List (List Val)×List VRow=>intB x.1++(intB x.2.1++(intB x.2.2.1++(intB x.2.2.2.1++(l10 (l10 k_) x.2.2.2.2.1++l10 rowB x.2.2.2.2.2))))) s27 (s22 b):=
 sr10 _ ip_ (nr_ b) (sr10 _ ip_ (nr_ b) (sr10 _ ip_ (nr_ b) (sr10 _ ip_ (nr_ b) (sr10 _ (lp_ vp_ ln_) (lr_ vp_ (vr13 b)) (lr_ rp_ (rr13 b))))))
theorem ss17 (b:List UInt8) (h:b.head? =some 81):
  ((s22 b 1).2.1=true→s12 b=(⟨(s22 b 1).1.1,(s22 b 1).1.2.1,(s22 b 1).1.2.2.1,(s22 b 1).1.2.2.2.1,(s22 b 1).1.2.2.2.2.1,(s22 b 1).1.2.2.2.2.2⟩,decide ((s22 b 1).2.2=b.length)))∧((s22 b 1).2.1=false→(s12 b).2=false):=by
 have hh:¬b.head?≠some 81:=fun e=>e h
 unfold s12 s22 seqR
 simp only[if_neg hh]
 generalize n10 b 1=t
 obtain⟨t1,t2,t3⟩:=t
 cases t2
 ·simp
 simp only[Bool.true_eq_false,if_true,if_false]
 generalize n10 b t3=m
 obtain⟨m1,m2,m3⟩:=m
 cases m2
 ·simp
 simp only[Bool.true_eq_false,if_true,if_false]
 generalize n10 b m3=n
 obtain⟨n1,n2,n3⟩:=n
 cases n2
 ·simp
 simp only[Bool.true_eq_false,if_true,if_false]
 generalize n10 b n3=s
 obtain⟨s1,s2,s3⟩:=s
 cases s2
 ·simp
 simp only[Bool.true_eq_false,if_true,if_false]
 generalize l_ b (l_ b (valR b)) s3=d
 obtain⟨d1,d2,d3⟩:=d
 cases d2
 ·simp
 simp only[Bool.true_eq_false,if_true,if_false]
 generalize l_ b (rowR b) d3=r
 obtain⟨r1,r2,r3⟩:=r
 cases r2 <;> simp
theorem si_ (b:List UInt8):(∀s,s30 b=some s→s12 b=(s,true))∧(s30 b=none→(s12 b).2=false):=by
 match b with
 | []=>exact⟨fun s h=>(by cases h),fun _ =>rfl⟩
 | c::r=>
  rw[sc_]
  by_cases hc:c=81
  ·rw[if_pos hc]
   obtain⟨h1,h2⟩:=sr11 (c::r) 1 (by simp)
   obtain⟨g1,g2⟩:=ss17 (c::r) (by rw[hc];rfl)
   rw[List.drop_succ_cons,List.drop_zero] at h1 h2
   generalize hq:s27 r=o at*
   match o,h1,h2 with
   | none,h1,h2=>exact⟨fun s h=>(by cases h),fun _ =>g2 (h2 rfl)⟩
   | some (x,q),h1,h2=>
    have e:=h1 x q rfl
    have g:=g1 (by rw[e])
    rw[e] at g
    have hd:=(sp10.bwd _ _ _ hq).2
    have hl:=congrArg List.length hd
    rw[List.length_append] at hl
    refine⟨fun s h=>?_,fun h=>?_⟩
    ·match q,h with
     | [],h=>
      cases h
      rw[g]
      have:decide (1+(intB x.1++(intB x.2.1++(intB x.2.2.1++(intB x.2.2.2.1++(l10 (l10 k_) x.2.2.2.2.1++l10 rowB x.2.2.2.2.2))))).length=(c::r).length)=true:=by
       rw[List.length_cons,hl]
       simp only[List.length_nil]
       exact decide_eq_true (by omega)
      rw[this]
    ·match q,h with
     | d::q,h=>
      rw[g]
      refine decide_eq_false fun e=>?_
      have e:1+(intB x.1++(intB x.2.1++(intB x.2.2.1++(intB x.2.2.2.1++(l10 (l10 k_) x.2.2.2.2.1++l10 rowB x.2.2.2.2.2))))).length=(c::r).length:=e
      rw[List.length_cons,hl,List.length_cons] at e
      omega
  ·rw[if_neg hc]
   unfold s12
   rw[if_pos (by simpa using hc)]
   exact⟨fun s h=>(by cases h),fun _ =>rfl⟩
end Go.Proofs.YtkejmcgngblfnaaGreatDoor.Ab
namespace Go.Proofs.YtkejmcgngblfnaaGreatDoor.Ab
open Go
theorem do10 {b:List UInt8} {i:Nat} (h:i<b.length):b.drop i=b[i]::b.drop (i+1):=List.drop_eq_getElem_cons h
def cutL (b s:List UInt8) (i:Nat):List UInt8×Nat:=
 match txtP (b.drop i) with
 | some (t,_)=>(s++t,i+(k11 t).length)
 | none=>([],0)
theorem ce_ {b:List UInt8} (s:List UInt8) {i:Nat} (h:¬i<b.length):cutL b s i=([],0):=by
 unfold cutL
 rw[List.drop_of_length_le (by omega)]
 rfl
theorem co10 {b:List UInt8} (s:List UInt8) {i:Nat} (h:i<b.length) (hc:b[i]≠0):cutL b s i=cutL b (s++[b[i]]) (i+1):=by
 unfold cutL
 rw[do10 h]
 unfold txtP
 simp only[txtQ,if_neg hc]
 cases txtQ false (b.drop (i+1)) with
 | none=>rfl
 | some x=>
  simp only[Option.map_some,k11,if_neg hc,List.append_assoc,List.cons_append,List.nil_append,List.length_cons,Prod.mk.injEq,true_and]
  omega
theorem ct11 {b:List UInt8} (s:List UInt8) {i:Nat} (h:i+1<b.length) (hc:b[i]=0) (hd:b[i+1]=255):cutL b s i=cutL b (s++[0]) (i+2):=by
 unfold cutL
 rw[do10 (by omega),do10 h,hc,hd]
 unfold txtP
 simp only[txtQ,if_true]
 cases txtQ false (b.drop (i+1+1)) with
 | none=>rfl
 | some x=>
  simp only[Option.map_some,k11,if_true,List.append_assoc,List.cons_append,List.nil_append,List.length_cons,Prod.mk.injEq,true_and]
  omega
theorem cs23 {b:List UInt8} (s:List UInt8) {i:Nat} (h:i+1<b.length) (hc:b[i]=0) (hd:b[i+1]=1):cutL b s i=(s,i+2):=by
 unfold cutL
 rw[do10 (by omega),do10 h,hc,hd]
 unfold txtP
 simp [txtQ,k11]
theorem cb_ {b:List UInt8} (s:List UInt8) {i:Nat} (h:i<b.length) (hc:b[i]=0) (hd:∀h:i+1<b.length,b[i+1]≠255∧b[i+1]≠1):cutL b s i=([],0):=by
 unfold cutL
 rw[do10 h,hc]
 unfold txtP
 simp only[txtQ,if_true]
 by_cases hh:i+1<b.length
 ·rw[do10 hh]
  simp only[txtQ,if_neg (hd hh).1,if_neg (hd hh).2]
 ·rw[List.drop_of_length_le (by omega)]
  rfl
theorem kl11:∀t:List UInt8,2≤(k11 t).length
 | []=>Nat.le_refl 2
 | c::t=>by
  have:=kl11 t
  unfold k11
  split <;> simp only[List.length_cons] <;> omega
def cutT (b:List UInt8):List UInt8×Nat:=cutL b [] 0
theorem ci_ (b:List UInt8):cutT b=(match txtP b with | some (t,_)=>(t,(k11 t).length) | none=>([],0)):=by
 unfold cutT cutL
 rw[List.drop_zero]
 cases txtP b with
 | none=>rfl
 | some x=>simp
def cutV (b:List UInt8):Val×Nat:=
 match valP b with
 | some (v,_)=>(v,(k_ v).length)
 | none=>(Val.zero,0)
theorem cs21 {b:List UInt8} (h:b.length<2):cutV b=(Val.zero,0):=by
 unfold cutV
 match b,h with
 | [],_ =>rfl
 | [c],_ =>
  rw[vc_]
  by_cases h1:c=1
  ·rw[if_pos h1];rfl
  rw[if_neg h1]
  by_cases h2:c=2
  ·rw[if_pos h2];rfl
  rw[if_neg h2]
  by_cases h3:c=3
  ·rw[if_pos h3]
  rw[if_neg h3]
theorem cb10 (c:UInt8) (r:List UInt8):cutV (3::c::r)=if c.toNat≤1 then (⟨3,0,[],c==1⟩,2) else (Val.zero,0):=by
 unfold cutV
 rw[vc_,if_neg (by decide),if_neg (by decide),if_pos rfl]
 simp only
 by_cases h0:c=0
 ·rw[h0];rfl
 rw[if_neg h0]
 by_cases h1:c=1
 ·rw[h1];rfl
 rw[if_neg h1,if_neg]
 intro h
 have a0:c.toNat≠0:=fun e=>h0 (UInt8.toNat_inj.1 e)
 have a1:c.toNat≠1:=fun e=>h1 (UInt8.toNat_inj.1 e)
 omega
theorem cs24 (r:List UInt8):cutV (2::r)=if 0<(cutT r).2∧(cutT r).1.length≤4096 then (⟨2,0,(cutT r).1,false⟩,(cutT r).2+1) else (Val.zero,0):=by
 unfold cutV
 rw[vc_,if_neg (by decide),if_pos rfl,ci_]
 cases txtP r with
 | none=>rfl
 | some x=>
  have:=kl11 x.1
  simp only
  by_cases hl:x.1.length≤4096
  ·rw[if_pos hl,if_pos ⟨by omega,hl⟩]
   simp [k_]
  ·rw[if_neg hl,if_neg (fun h=>hl h.2)]
theorem bs11:∀{r:List UInt8},r.length<8→bigP r=none
 | [],_ =>rfl
 | [_],_ =>rfl
 | [_,_],_ =>rfl
 | [_,_,_],_ =>rfl
 | [_,_,_,_],_ =>rfl
 | [_,_,_,_,_],_ =>rfl
 | [_,_,_,_,_,_],_ =>rfl
 | [_,_,_,_,_,_,_],_ =>rfl
 | _ ::_ ::_ ::_ ::_ ::_ ::_ ::_ ::_,h=>by simp at h;omega
def bigN (l:List UInt8):Nat:=l.foldl (fun u c=>u*256+c.toNat) 0
theorem ci10 (r:List UInt8):cutV (1::r)=if 8≤r.length then (⟨1,(bigN (r.take 8):Int) - 9223372036854775808,[],false⟩,9) else (Val.zero,0):=by
 unfold cutV
 rw[vc_,if_pos rfl]
 by_cases h:8≤r.length
 ·rw[if_pos h]
  match r,h with
  | a::b::c::d::e::f::g::k::q,_ =>
   simp only[bigP,Option.map_some,bigN,List.take_succ_cons,List.take_zero,List.foldl_cons,List.foldl_nil]
   refine Prod.ext ?_ rfl
   simp only[Val.mk.injEq,and_true,true_and]
   omega
 ·rw[if_neg h,bs11 (by omega)]
  rfl
theorem co_ {c:UInt8} (r:List UInt8) (h1:c≠1) (h2:c≠2) (h3:c≠3):cutV (c::r)=(Val.zero,0):=by
 unfold cutV
 rw[vc_,if_neg h1,if_neg h2,if_neg h3]
theorem kp_ (v:Val):0<(k_ v).length:=List.length_pos_iff.2 (kn_ v)
theorem vc13 (b:List UInt8) (k:Nat):valR b k=if 0<(cutV (b.drop k)).2 then ((cutV (b.drop k)).1,true,k+(cutV (b.drop k)).2) else (Val.zero,false,k):=by
 unfold valR cutV
 cases valP (b.drop k) with
 | none=>rfl
 | some x=>simp only;rw[if_pos (kp_ x.1)]
end Go.Proofs.YtkejmcgngblfnaaGreatDoor.Ab
namespace Go.Proofs.YtkejmcgngblfnaaGreatDoor.Ab
open Go
theorem sb_ {n:Int} (h0:0≤n) {b d:Nat} (hb:b≤64) (hd:2 ^ b=d):IntKind.u8.wrap (bShr .i64 n (b:Int))=((UInt8.ofNat (n.toNat / d)).toNat:Int):=by
 have:bShr .i64 n (b:Int)=((n.toNat / d:Nat):Int):=by
  unfold bShr
  rw[show min (b:Int).toNat (IntKind.bits .i64)=b by simp [IntKind.bits];omega,Int.fdiv_eq_ediv_of_nonneg _ (Int.pow_nonneg (by decide)),←hd]
  obtain⟨m,rfl⟩:=Int.eq_ofNat_of_zero_le h0
  simp
 rw[this]
 simp [IntKind.wrap,IntKind.bits,IntKind.signed]
theorem lb10 {n:Int} (h0:0≤n):IntKind.u8.wrap n=((UInt8.ofNat n.toNat).toNat:Int):=by
 simp [IntKind.wrap,IntKind.bits,IntKind.signed]
 omega
theorem um_ (n:Nat):UInt8.ofNat (n % 256)=UInt8.ofNat n:=by
 apply UInt8.toNat_inj.1
 simp
theorem fi_ {n:Int} (h0:0≤n):[IntKind.u8.wrap (bShr .i64 n 24),IntKind.u8.wrap (bShr .i64 n 16),IntKind.u8.wrap (bShr .i64 n 8),IntKind.u8.wrap n]=(intB n).map fun b=>((b.toNat:Nat):Int):=by
 rw[show (24:Int)=((24:Nat):Int) from rfl,show (16:Int)=((16:Nat):Int) from rfl,show (8:Int)=((8:Nat):Int) from rfl,sb_ h0 (b:=24) (by decide) rfl,sb_ h0 (b:=16) (by decide) rfl,sb_ h0 (b:=8) (by decide) rfl,lb10 h0]
 simp only[intB,f10,um_,List.map_cons,List.map_nil]
theorem wp_ {n:Nat} (h:n<9223372036854775808):IntKind.i64.wrap (n:Int)=n:=by
 simp [IntKind.wrap,IntKind.bits,IntKind.signed]
 omega
theorem wu_ {n:Nat} (h:n<18446744073709551616):IntKind.u64.wrap (n:Int)=n:=by
 simp [IntKind.wrap,IntKind.bits,IntKind.signed]
 omega
theorem shl_i {a:Nat} {b d:Nat} (hb:b≤64) (hd:2 ^ b=d) (h:a*d<9223372036854775808):bShl .i64 (a:Int) (b:Int)=((a*d:Nat):Int):=by
 unfold bShl
 rw[show min (b:Int).toNat (IntKind.bits .i64)=b by simp [IntKind.bits];omega]
 have:((a:Int)*2 ^ b)=((a*d:Nat):Int):=by rw[←hd];simp
 rw[this,wp_ h]
theorem or_i {a b:Nat} (ha:a<9223372036854775808) (hb:b<9223372036854775808):bOr .i64 (a:Int) (b:Int)=((a||| b:Nat):Int):=by
 unfold bOr
 have hlt:a||| b<2 ^ 63:=Nat.or_lt_two_pow (by omega) (by omega)
 have e:(BitVec.ofInt 64 (a:Int)||| BitVec.ofInt 64 (b:Int)).toNat=a||| b:=by
  rw[BitVec.toNat_or]
  congr 1
  ·simp;omega
  ·simp;omega
 show IntKind.wrap .i64 ((BitVec.ofInt 64 (a:Int)||| BitVec.ofInt 64 (b:Int)).toNat:Int)=_
 rw[e,wp_ (by omega)]
theorem oa_ {a d b:Nat} (i:Nat) (hd:2 ^ i=d) (h:b<d):(a*d)||| b=a*d+b:=by
 subst hd
 rw[Nat.mul_comm]
 exact (Nat.two_pow_add_eq_or_of_lt h a).symm
theorem fr10 (a b c d:UInt8) (ha:a.toNat≤127):
  bOr .i64 (bOr .i64 (bOr .i64 (bShl .i64 (a.toNat:Int) 24) (bShl .i64 (b.toNat:Int) 16)) (bShl .i64 (c.toNat:Int) 8)) (d.toNat:Int)=((a.toNat*16777216+b.toNat*65536+c.toNat*256+d.toNat:Nat):Int):=by
 have hb:=b.toNat_lt
 have hc:=c.toNat_lt
 have hd:=d.toNat_lt
 rw[show (24:Int)=((24:Nat):Int) from rfl,show (16:Int)=((16:Nat):Int) from rfl,show (8:Int)=((8:Nat):Int) from rfl,shl_i (b:=24) (d:=16777216) (by decide) rfl (by omega),shl_i (b:=16) (d:=65536) (by decide) rfl (by omega),shl_i (b:=8) (d:=256) (by decide) rfl (by omega)]
 rw[or_i (by omega) (by omega),oa_ 24 rfl (by omega)]
 rw[or_i (by omega) (by omega),show a.toNat*16777216+b.toNat*65536=(a.toNat*256+b.toNat)*65536 by omega,oa_ 16 rfl (by omega)]
 rw[or_i (by omega) (by omega),show (a.toNat*256+b.toNat)*65536+c.toNat*256=(a.toNat*65536+b.toNat*256+c.toNat)*256 by omega,oa_ 8 rfl (by omega)]
theorem su_ {a:Nat} {b d:Nat} (hb:b≤64) (hd:2 ^ b=d) (h:a*d<18446744073709551616):bShl .u64 (a:Int) (b:Int)=((a*d:Nat):Int):=by
 unfold bShl
 rw[show min (b:Int).toNat (IntKind.bits .u64)=b by simp [IntKind.bits];omega]
 have:((a:Int)*2 ^ b)=((a*d:Nat):Int):=by rw[←hd];simp
 rw[this,wu_ h]
theorem or_u {a b:Nat} (ha:a<18446744073709551616) (hb:b<18446744073709551616):bOr .u64 (a:Int) (b:Int)=((a||| b:Nat):Int):=by
 unfold bOr
 have hlt:a||| b<2 ^ 64:=Nat.or_lt_two_pow (by omega) (by omega)
 have e:(BitVec.ofInt 64 (a:Int)||| BitVec.ofInt 64 (b:Int)).toNat=a||| b:=by
  rw[BitVec.toNat_or]
  congr 1
  ·simp;omega
  ·simp;omega
 show IntKind.wrap .u64 ((BitVec.ofInt 64 (a:Int)||| BitVec.ofInt 64 (b:Int)).toNat:Int)=_
 rw[e,wu_ (by omega)]
theorem bm_ {u:Nat} (c:UInt8) (h:u<72057594037927936):bOr .u64 (bShl .u64 (u:Int) 8) (c.toNat:Int)=((u*256+c.toNat:Nat):Int):=by
 have hc:=c.toNat_lt
 rw[show (8:Int)=((8:Nat):Int) from rfl,su_ (b:=8) (d:=256) (by decide) rfl (by omega),or_u (by omega) (by omega),oa_ 8 rfl (by omega)]
theorem x33 {m:Nat} (h:m<18446744073709551616):m ^^^ 9223372036854775808=(m+9223372036854775808) % 18446744073709551616:=by
 have h1:(m ^^^ 9223372036854775808) % 2 ^ 63=m % 2 ^ 63:=by
  rw[Nat.xor_mod_two_pow]
  simp
 have h2:(m ^^^ 9223372036854775808) / 2 ^ 63=(m / 2 ^ 63) ^^^ 1:=by
  rw[←Nat.shiftRight_eq_div_pow,Nat.shiftRight_xor_distrib,Nat.shiftRight_eq_div_pow,Nat.shiftRight_eq_div_pow]
 have h3:m / 2 ^ 63=0∨m / 2 ^ 63=1:=by omega
 have e1:(0:Nat) ^^^ 1=1:=rfl
 have e2:(1:Nat) ^^^ 1=0:=rfl
 rcases h3 with h3 | h3
 ·rw[h3,e1] at h2;omega
 ·rw[h3,e2] at h2;omega
theorem bi_ {m:Nat} (h:m<18446744073709551616):IntKind.i64.wrap (bXor .u64 (m:Int) 9223372036854775808)=(m:Int) - 9223372036854775808:=by
 unfold bXor
 have e:(BitVec.ofInt 64 (m:Int) ^^^ BitVec.ofInt 64 9223372036854775808).toNat=m ^^^ 9223372036854775808:=by
  rw[BitVec.toNat_xor]
  congr 1
  ·simp;omega
 have:IntKind.wrap .u64 ((BitVec.ofInt 64 (m:Int) ^^^ BitVec.ofInt 64 9223372036854775808).toNat:Int)=(((m+9223372036854775808) % 18446744073709551616:Nat):Int):=by
  rw[e,x33 h,wu_ (by omega)]
 show IntKind.i64.wrap (IntKind.wrap .u64 ((BitVec.ofInt 64 (m:Int) ^^^ BitVec.ofInt 64 9223372036854775808).toNat:Int))=_
 rw[this]
 simp [IntKind.wrap,IntKind.bits,IntKind.signed]
 omega
theorem fr_ {n:Int} (h0:0≤n) (h:n<9223372036854775808):
  [IntKind.u8.wrap (IntKind.i64.wrap (n.tdiv 16777216)),IntKind.u8.wrap ((IntKind.i64.wrap (n.tdiv 65536)).tmod 256),IntKind.u8.wrap ((IntKind.i64.wrap (n.tdiv 256)).tmod 256),IntKind.u8.wrap (n.tmod 256)]=(intB n).map fun b=>((b.toNat:Nat):Int):=by
 obtain⟨m,rfl⟩:=Int.eq_ofNat_of_zero_le h0
 have d:∀k:Nat,((m:Int).tdiv (k:Int))=((m / k:Nat):Int):=fun k=>by simp
 have r:∀a k:Nat,((a:Int).tmod (k:Int))=((a % k:Nat):Int):=fun a k=>(Int.ofNat_tmod a k).symm
 have b:∀a:Nat,IntKind.u8.wrap (a:Int)=((UInt8.ofNat a).toNat:Int):=fun a=>(lb10 (by omega)).trans (by simp)
 have e1:(m:Int).tdiv 16777216=((m / 16777216:Nat):Int):=d 16777216
 have e2:(m:Int).tdiv 65536=((m / 65536:Nat):Int):=d 65536
 have e3:(m:Int).tdiv 256=((m / 256:Nat):Int):=d 256
 have e4:(m:Int).tmod 256=((m % 256:Nat):Int):=r m 256
 have e5:((m / 65536:Nat):Int).tmod 256=((m / 65536 % 256:Nat):Int):=r _ 256
 have e6:((m / 256:Nat):Int).tmod 256=((m / 256 % 256:Nat):Int):=r _ 256
 rw[e1,e2,e3,e4,wp_ (by omega),wp_ (by omega),wp_ (by omega),e5,e6,b,b,b,b]
 simp [intB,f10]
end Go.Proofs.YtkejmcgngblfnaaGreatDoor.Ab
