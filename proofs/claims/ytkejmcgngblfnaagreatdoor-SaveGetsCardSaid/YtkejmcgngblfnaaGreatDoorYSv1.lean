/-
  The functions' abstract code: all of it. num, proctorref01: sums, differences, products, quotients. value, proctorref03: values. Keys of values: no two rows of values of one length have one key. Values as bytes and back, plainly (for chapter 38). No claim is proved here.
-/
import Derived.Test.YtkejmcgngblfnaaGreatDoorYAcR1
import Derived.Test.YtkejmcgngblfnaaGreatDoorYAcR2
import Derived.Test.YtkejmcgngblfnaaGreatDoorYAcR3
set_option linter.unusedSimpArgs false
set_option maxHeartbeats 4000000
namespace Go.Proofs.YtkejmcgngblfnaaGreatDoor.Ab
end Go.Proofs.YtkejmcgngblfnaaGreatDoor.Ab
namespace Go.Proofs.YtkejmcgngblfnaaGreatDoor.Ab
open Go
variable {G:Nat→Option AV}
def t2 (r:Int×Int):AV:=.tup [iv r.1,iv r.2]
end Go.Proofs.YtkejmcgngblfnaaGreatDoor.Ab
namespace Go.Proofs.YtkejmcgngblfnaaGreatDoor.Ab
open Go
variable {G:Nat→Option AV}
structure Val where
 kind:Int
 int:Int
 str:Str
 bool:Bool
deriving DecidableEq
abbrev v0:Val:=⟨0,0,[],false⟩
def valV (v:Val):AV:=.agg [iv v.kind,iv v.int,.str v.str,.bool v.bool]
theorem vIp_ (n:Int):P_ Tryz.prog G nvI_ [iv n] (valV ⟨1,n,[],false⟩):=by
 refine pvI_ (Runs.of fun Φ h=>?_)
 unfold cvI_
 simp -implicitDefEqProofs only[go_sem]
 exact h _ ⟨_,_,rfl,rfl,.refl _⟩
theorem vSp_ (s:Str):P_ Tryz.prog G nvS_ [.str s] (valV ⟨2,0,s,false⟩):=by
 refine pvS_ (Runs.of fun Φ h=>?_)
 unfold cvS_
 simp -implicitDefEqProofs only[go_sem]
 exact h _ ⟨_,_,rfl,rfl,.refl _⟩
theorem vBp_ (b:Bool):P_ Tryz.prog G nvB_ [.bool b] (valV ⟨3,0,[],b⟩):=by
 refine pvB_ (Runs.of fun Φ h=>?_)
 unfold cvB_
 simp -implicitDefEqProofs only[go_sem]
 exact h _ ⟨_,_,rfl,rfl,.refl _⟩
def Val.ok (v:Val):Bool:=
 if v.kind=1 then v.str==[]&& !v.bool else if v.kind=2 then v.int==0&&(!v.bool&&decide ((v.str.length:Int)≤4096)) else decide (v.kind=3)&&(v.int==0&&v.str==[])
theorem vRp_ (v:Val):P_ Tryz.prog G nvR_ [valV v] (.bool v.ok):=by
 obtain⟨k,n,s,b⟩:=v
 refine pvR_ (Runs.of fun Φ h=>?_)
 unfold cvR_
 repeat' (first|simp -implicitDefEqProofs only[go_sem,valV]|refine ag_ (fun hb=>?_) (fun hb=>?_)|refine⟨fun hb=>?_,fun hb=>?_⟩|refine ac10 (vIp_ _) rfl rfl ?_|refine ac10 (vSp_ _) rfl rfl ?_|refine ac10 (vBp_ _) rfl rfl ?_|fail)
 all_goals (refine h _ ⟨_,_,rfl,rfl,fe_ ?_⟩;clear h;first | rfl | simp_all [Val.ok])
end Go.Proofs.YtkejmcgngblfnaaGreatDoor.Ab
namespace Go.Proofs.YtkejmcgngblfnaaGreatDoor.Ab
open Go
def beB (u:Nat):Str:=[UInt8.ofNat (u / 72057594037927936),UInt8.ofNat (u / 281474976710656),UInt8.ofNat (u / 1099511627776),UInt8.ofNat (u / 4294967296),UInt8.ofNat (u / 16777216),UInt8.ofNat (u / 65536),UInt8.ofNat (u / 256),UInt8.ofNat u]
def k12 (n:Int):Str:=beB (n+9223372036854775808).toNat
def k11:Str→Str
 | []=>[0,1]
 | c::r=>if c=0 then 0::255::k11 r else c::k11 r
def k_ (v:Val):Str:=UInt8.ofNat v.kind.toNat::(if v.kind=1 then k12 v.int else if v.kind=2 then k11 v.str else [if v.bool then 1 else 0])
def k14 (l:List Val):Str:=l.flatMap k_
end Go.Proofs.YtkejmcgngblfnaaGreatDoor.Ab
namespace Go.Proofs.YtkejmcgngblfnaaGreatDoor.Ab
open Go
def txtQ:Bool→List UInt8→Option (List UInt8×List UInt8)
 | _,[]=>none
 | false,c::r=>if c=0 then txtQ true r else (txtQ false r).map fun x=>(c::x.1,x.2)
 | true,d::r=>if d=255 then (txtQ false r).map fun x=>(0::x.1,x.2) else if d=1 then some ([],r) else none
def txtP (b:List UInt8):Option (List UInt8×List UInt8):=txtQ false b
theorem tf11:∀(s r:List UInt8),txtP (k11 s++r)=some (s,r)
 | [],r=>by simp [k11,txtP,txtQ]
 | c::s,r=>by
  have ih:=tf11 s r
  unfold txtP at ih ⊢
  by_cases hc:c=0
  ·subst hc
   simp [k11,txtQ,ih]
  ·simp [k11,txtQ,hc,ih]
theorem tb_:∀(b s r:List UInt8),(txtQ false b=some (s,r)→b=k11 s++r)∧(txtQ true b=some (s,r)→0::b=k11 s++r)
 | [],s,r=>⟨fun h=>by simp [txtQ] at h,fun h=>by simp [txtQ] at h⟩
 | c::b,s,r=>by
  constructor
  ·intro h
   simp only[txtQ] at h
   split at h
   ·rename_i hc
    subst hc
    exact (tb_ b s r).2 h
   ·rename_i hc
    obtain⟨⟨t,u⟩,ht,e⟩:=Option.map_eq_some_iff.1 h
    simp only[Prod.mk.injEq] at e
    obtain⟨rfl,rfl⟩:=e
    rw[(tb_ b t u).1 ht]
    simp [k11,hc]
  ·intro h
   simp only[txtQ] at h
   split at h
   ·rename_i hc
    subst hc
    obtain⟨⟨t,u⟩,ht,e⟩:=Option.map_eq_some_iff.1 h
    simp only[Prod.mk.injEq] at e
    obtain⟨rfl,rfl⟩:=e
    rw[(tb_ b t u).1 ht]
    simp [k11]
   ·split at h
    ·rename_i hc
     subst hc
     simp only[Option.some.injEq,Prod.mk.injEq] at h
     obtain⟨rfl,rfl⟩:=h
     simp [k11]
    ·cases h
theorem tb12 (b s r:List UInt8) (h:txtP b=some (s,r)):b=k11 s++r:=(tb_ b s r).1 h
def bigP:List UInt8→Option (Int×List UInt8)
 | a::b::c::d::e::f::g::h::r=>some (((a.toNat*72057594037927936+b.toNat*281474976710656+c.toNat*1099511627776+d.toNat*4294967296+e.toNat*16777216+f.toNat*65536+g.toNat*256+h.toNat:Nat):Int) - 9223372036854775808,r)
 | _ =>none
theorem bf_ (n:Int) (hn:i64 n) (r:List UInt8):bigP (k12 n++r)=some (n,r):=by
 unfold i64 at hn
 simp only[k12,beB,List.cons_append,List.nil_append,bigP,Option.some.injEq,Prod.mk.injEq,and_true]
 generalize hu:(n+9223372036854775808).toNat=u
 have h0:u<18446744073709551616:=by omega
 have e:∀k:Nat,(UInt8.ofNat k).toNat=k % 256:=fun k=>by simp
 simp only[e]
 omega
theorem bb10 (b r:List UInt8) (n:Int) (h:bigP b=some (n,r)):i64 n∧b=k12 n++r:=by
 match b,h with
 | a::b::c::d::e::f::g::k::q,h=>
  simp only[bigP,Option.some.injEq,Prod.mk.injEq] at h
  obtain⟨rfl,rfl⟩:=h
  have h1:=a.toNat_lt;have h2:=b.toNat_lt;have h3:=c.toNat_lt;have h4:=d.toNat_lt;have h5:=e.toNat_lt;have h6:=f.toNat_lt;have h7:=g.toNat_lt;have h8:=k.toNat_lt
  refine⟨by unfold i64;omega,?_⟩
  have hu:((((a.toNat*72057594037927936+b.toNat*281474976710656+c.toNat*1099511627776+d.toNat*4294967296+e.toNat*16777216+f.toNat*65536+g.toNat*256+k.toNat:Nat):Int) - 9223372036854775808)+9223372036854775808).toNat=a.toNat*72057594037927936+b.toNat*281474976710656+c.toNat*1099511627776+d.toNat*4294967296+e.toNat*16777216+f.toNat*65536+g.toNat*256+k.toNat:=by omega
  simp only[k12,beB,hu,List.cons_append,List.nil_append,List.cons.injEq,and_true]
  refine⟨?_,?_,?_,?_,?_,?_,?_,?_⟩ <;> (apply UInt8.toNat_inj.1;simp <;> omega)
def valP:List UInt8→Option (Val×List UInt8)
 | []=>none
 | k::r=>if k=1 then (bigP r).map fun x=>(⟨1,x.1,[],false⟩,x.2)
  else if k=2 then (match txtP r with | some (s,q)=>if s.length≤4096 then some (⟨2,0,s,false⟩,q) else none | none=>none)
  else if k=3 then (match r with | []=>none | b::q=>if b=0 then some (⟨3,0,[],false⟩,q) else if b=1 then some (⟨3,0,[],true⟩,q) else none)
  else none
theorem vc_ (k:UInt8) (r:List UInt8):valP (k::r)=(if k=1 then (bigP r).map fun x=>(⟨1,x.1,[],false⟩,x.2)
  else if k=2 then (match txtP r with | some (s,q)=>if s.length≤4096 then some (⟨2,0,s,false⟩,q) else none | none=>none)
  else if k=3 then (match r with | []=>none | b::q=>if b=0 then some (⟨3,0,[],false⟩,q) else if b=1 then some (⟨3,0,[],true⟩,q) else none)
  else none):=rfl
theorem vp10:PP (fun v:Val=>v.ok=true∧i64 v.int) k_ valP where
 fwd:=by
  rintro⟨k,n,s,b⟩ r ⟨hok,hn⟩
  simp only at hn
  by_cases h1:k=1
  ·subst h1
   simp [Val.ok] at hok
   obtain⟨rfl,rfl⟩:=hok
   have e:k_ ⟨1,n,[],false⟩=1::k12 n:=by simp [k_]
   rw[e,List.cons_append,vc_,if_pos rfl,bf_ n hn]
   rfl
  by_cases h2:k=2
  ·subst h2
   simp [Val.ok] at hok
   obtain⟨rfl,rfl,hl⟩:=hok
   have e:k_ ⟨2,0,s,false⟩=2::k11 s:=by simp [k_]
   rw[e,List.cons_append,vc_,if_neg (by decide),if_pos rfl,tf11 s r]
   simp only
   rw[if_pos (by omega)]
  ·simp [Val.ok,h1,h2] at hok
   obtain⟨rfl,rfl,rfl⟩:=hok
   cases b <;> simp [k_,valP]
 bwd:=by
  intro b v r h
  match b,h with
  | k::b,h=>
   rw[vc_] at h
   split at h
   ·rename_i hk
    subst hk
    obtain⟨⟨n,q⟩,hq,e⟩:=Option.map_eq_some_iff.1 h
    simp only[Prod.mk.injEq] at e
    obtain⟨rfl,rfl⟩:=e
    obtain⟨hn,e⟩:=bb10 _ _ _ hq
    exact⟨⟨by simp [Val.ok],hn⟩,by rw[e];simp [k_]⟩
   ·split at h
    ·rename_i hk
     subst hk
     split at h
     ·rename_i s q hs
      split at h
      ·rename_i hl
       simp only[Option.some.injEq,Prod.mk.injEq] at h
       obtain⟨rfl,rfl⟩:=h
       have e:=tb12 _ _ _ hs
       exact⟨⟨by simp [Val.ok];omega,by simp [i64]⟩,by rw[e];simp [k_]⟩
      ·cases h
     ·cases h
    ·split at h
     ·rename_i hk
      subst hk
      split at h
      ·cases h
      ·rename_i d q
       split at h
       ·rename_i hd
        subst hd
        simp only[Option.some.injEq,Prod.mk.injEq] at h
        obtain⟨rfl,rfl⟩:=h
        exact⟨⟨by simp [Val.ok],by simp [i64]⟩,by simp [k_]⟩
       ·split at h
        ·rename_i hd
         subst hd
         simp only[Option.some.injEq,Prod.mk.injEq] at h
         obtain⟨rfl,rfl⟩:=h
         exact⟨⟨by simp [Val.ok],by simp [i64]⟩,by simp [k_]⟩
        ·cases h
     ·cases h
theorem kn_ (v:Val):k_ v≠[]:=by simp [k_]
end Go.Proofs.YtkejmcgngblfnaaGreatDoor.Ab
