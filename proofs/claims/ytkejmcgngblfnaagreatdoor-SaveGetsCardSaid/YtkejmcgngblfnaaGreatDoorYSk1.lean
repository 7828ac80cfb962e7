/-
  Keys of values whose texts are long: key.Of, proctorref04.Keys (by program: mksk1.py). No claim is proved here.
-/
import Derived.Test.YtkejmcgngblfnaaGreatDoorYPa1
namespace Go.Proofs.YtkejmcgngblfnaaGreatDoor.Ab
open Go Go.RowKit
set_option linter.unusedSimpArgs false
set_option maxHeartbeats 4000000
set_option maxRecDepth 100000
variable {G:Nat→Option AV}
theorem kl_:∀(l:List Val),(∀v∈l,v.str.length≤10000)→(k14 l).length≤20009*l.length
 | [],_ =>by simp [k14]
 | v::l,h=>by
  have h1:=kl10 v
  have h2:=h v (by simp)
  have h3:=kl_ l fun x hx=>h x (by simp [hx])
  simp only[k14,List.flatMap_cons,List.length_append,List.length_cons] at*
  omega
theorem kop_ (v:Val) (hok:v.ok=true) (hn:i64 v.int) (hs:v.str.length≤10000):P_ Tryz.prog G nko_ [valV v] (b_ (k_ v)):=by
 have h1:=knp_ (G:=G) v.int hn
 have h2:=ktp_ (G:=G) v.str (by omega)
 have hk:=ok_ hok
 clear hok
 obtain⟨k,n,s,b⟩:=v
 simp only at h1 h2 hn hs hk
 refine pko_ (Runs.of fun Φ h=>?_)
 unfold cko_
 have w1:IntKind.u8.wrap 1=1:=by decide
 have w2:IntKind.u8.wrap 2=2:=by decide
 have w3:IntKind.u8.wrap 3=3:=by decide
 rcases hk with rfl | rfl | rfl
 ·have e:k_ ⟨1,n,s,b⟩=1::k12 n:=by simp [k_]
  rw[e] at h
  have hl:(k12 n).length=8:=rfl
  clear e h2
  generalize k12 n=m at*
  repeat' (first|simp -implicitDefEqProofs only[go_sem,valV,w1,b_,List.length_map,hl]|refine ag_ (fun hb=>?_) (fun hb=>?_)|refine⟨fun hb=>?_,fun hb=>?_⟩|refine ac10 h1 rfl rfl ?_|fail)
  exact h _ ⟨_,_,rfl,vb_ (ty:=tu_) (out:=1::m) (by simp [hget,byV]) (by simp;omega),.refl _⟩
 ·have e:k_ ⟨2,n,s,b⟩=2::k11 s:=by simp [k_]
  rw[e] at h
  have hl:(k11 s).length≤20002:=by have:=kl12 s;omega
  have hb1:1+(k11 s).length≤140737488355328:=by omega
  have hb2:(k11 s).length+1≤140737488355328:=by omega
  clear e h1
  generalize k11 s=m at*
  repeat' (first|simp -implicitDefEqProofs only[go_sem,valV,w2,b_,List.length_map,hb1,hb2,Nat.mul_one]|refine ag_ (fun hb=>?_) (fun hb=>?_)|refine⟨fun hb=>?_,fun hb=>?_⟩|refine ac10 h2 rfl rfl ?_|fail)
  exact h _ ⟨_,_,rfl,vb_ (ty:=tu_) (out:=2::m) (by simp [hget,byV]) (by simp;omega),.refl _⟩
 ·have e:k_ ⟨3,n,s,b⟩=[3,if b then 1 else 0]:=by simp [k_]
  rw[e] at h
  clear e h1 h2
  cases b
  ·repeat' (first|simp -implicitDefEqProofs only[go_sem,valV,w3,b_]|refine ag_ (fun hb=>?_) (fun hb=>?_)|refine⟨fun hb=>?_,fun hb=>?_⟩|fail)
   exact h _ ⟨_,_,rfl,vb_ (ty:=tu_) (out:=[3,0]) (by simp [hget,byV]) (by simp),.refl _⟩
  ·repeat' (first|simp -implicitDefEqProofs only[go_sem,valV,w3,b_]|refine ag_ (fun hb=>?_) (fun hb=>?_)|refine⟨fun hb=>?_,fun hb=>?_⟩|fail)
   exact h _ ⟨_,_,rfl,vb_ (ty:=tu_) (out:=[3,1]) (by simp [hget,byV]) (by simp),.refl _⟩
theorem kOp_ (l:List Val) (hl:l.length≤10000) (hok:∀v∈l,v.ok=true∧i64 v.int∧v.str.length≤10000):P_ Tryz.prog G nkO_ [v_ l] (b_ (k14 l)):=by
 refine pkO_ (Runs.of fun Φ h=>?_)
 unfold ckO_
 simp -implicitDefEqProofs only[go_sem,v_,List.length_map]
 refine al10 (fun n st=>∃(i:Nat) (m:Str),i+n=l.length∧st=⟨21,[(3,.arr 3 0 m.length),(6,.seq 4 (l.map valV)),(7,iv l.length),(8,iv i)],[(2,⟨true,tu_,1,[]⟩),(3,⟨true,tu_,1,m.map byV⟩)]⟩∧m=k14 (l.take i)) l.length ⟨0,[],by simp,rfl,rfl⟩ ?_
 rintro I hI n st ⟨i,m,hi,rfl,hm⟩
 have hml:m.length≤200090000:=by
  have:=kl_ (l.take i) fun v hv=>(hok v (List.mem_of_mem_take hv)).2.2
  rw[hm]
  simp only[List.length_take] at this
  omega
 simp -implicitDefEqProofs only[go_sem,List.length_map]
 refine⟨fun hlt=>?_,fun hge=>?_⟩
 ·have hlt':i<l.length:=by omega
  obtain⟨v,hv,hvm⟩:=as10 hlt'
  have hw:=ws_ hlt' (by omega)
  obtain⟨k1,k2,k3⟩:=hok v hvm
  have h1:=vRp_ (G:=G) v
  rw[k1] at h1
  have h2:=kop_ (G:=G) v k1 k2 k3
  have hkl:=kl10 v
  have hb1:m.length+(k_ v).length≤140737488355328:=by omega
  have hnx:=ks16 hv
  rw[←hm] at hnx
  clear k1 k2 k3
  generalize k_ v=y at*
  obtain⟨k,n',s,b⟩:=v
  simp only[valV] at h1 h2
  repeat' (first|simp -implicitDefEqProofs only[go_sem,am_ hv,valV,b_,hw,List.length_map,List.length_append,hb1,Nat.mul_one]|refine ag_ (fun hb=>?_) (fun hb=>?_)|refine⟨fun hb=>?_,fun hb=>?_⟩|refine ac10 h1 rfl rfl ?_|refine ac10 h2 rfl rfl ?_|fail)
  refine aa_ (n - 1) (by omega) (hI _ _ ⟨i+1,m++y,by omega,?_,hnx.symm⟩)
  simp [byV]
 ·rw[List.take_of_length_le (by omega)] at hm
  subst hm
  repeat' (first|simp -implicitDefEqProofs only[go_sem]|refine ag_ (fun hb=>?_) (fun hb=>?_)|refine⟨fun hb=>?_,fun hb=>?_⟩|fail)
  exact h _ ⟨_,_,rfl,vb_ (ty:=tu_) (out:=k14 l) (by simp [hget,byV]) rfl,.refl _⟩
theorem rKp_ (v:Val) (hok:v.ok=true) (hn:i64 v.int) (hs:v.str.length≤10000):P_ Tryz.prog G npK_ [valV v] (b_ (k_ v)):=by
 have hk:=ok_ hok
 clear hok
 obtain⟨k,n,s,b⟩:=v
 simp only at hn hs hk
 refine pp11 (Runs.of fun Φ h=>?_)
 unfold cp11
 have w1:IntKind.u8.wrap 1=1:=by decide
 have w2:IntKind.u8.wrap 2=2:=by decide
 have w3:IntKind.u8.wrap 3=3:=by decide
 rcases hk with rfl | rfl | rfl
 ·have e:k_ ⟨1,n,s,b⟩=1::k12 n:=by simp [k_]
  rw[e] at h
  have hU:=ut_ hn
  have hUlt:(n+9223372036854775808).toNat<18446744073709551616:=by unfold i64 at hn;omega
  unfold k12 at h
  generalize (n+9223372036854775808).toNat=U at*
  repeat' (first|simp -implicitDefEqProofs only[go_sem,valV,w1,hU]|refine ag_ (fun hb=>?_) (fun hb=>?_)|refine⟨fun hb=>?_,fun hb=>?_⟩|fail)
  refine al10 (fun n2 st=>∃(i:Nat) (m:Str),i+n2=8∧st=⟨70,[(3,.arr 11 0 m.length),(5,.int .u64 (U:Int)),(6,.int .u64 (divU i:Int)),(7,iv i)],[(1,⟨false,taV_,4,[.agg [iv 1,iv n,.str s,.bool b]]⟩),(2,⟨true,tu_,1,[]⟩),(11,⟨true,tu_,1,m.map byV⟩)]⟩∧m=1::(beB U).take i) 8 ⟨0,[1],by simp,by rfl,rfl⟩ ?_
  rintro I hI n2 st ⟨i,m,hi,rfl,hm⟩
  have hml:m.length=i+1:=by
   rw[hm]
   simp only[List.length_cons,List.length_take]
   have:(beB U).length=8:=rfl
   omega
  simp -implicitDefEqProofs only[go_sem]
  refine⟨fun hlt=>?_,fun hge=>?_⟩
  ·have hlt':i<8:=by omega
   have hw:=ws_ hlt' (by omega)
   obtain⟨d1,d2⟩:=dl_ i hlt'
   have q1:=quoU hUlt d1
   have q2:=remU (U / divU i)
   have q3:=b18 (U / divU i)
   have q4:=quoU d2 (show 0<256 by decide)
   have q4':abin .quo (.int .u64 (divU i:Int)) (.int .u64 256)=some (.int .u64 (divU (i+1):Int)):=by rw[←dn_ i hlt'];exact q4
   have hnx:=ta_ (ba10 U i hlt')
   have hb1:m.length+1≤140737488355328:=by omega
   clear q4 d1 d2
   repeat' (first|simp -implicitDefEqProofs only[go_sem,q1,q2,q3,q4',hw,List.length_map,List.length_append,hb1,Nat.mul_one]|refine ag_ (fun hb=>?_) (fun hb=>?_)|refine⟨fun hb=>?_,fun hb=>?_⟩|fail)
   refine aa_ (n2 - 1) (by omega) (hI _ _ ⟨i+1,m++[UInt8.ofNat (U / divU i)],by omega,?_,by rw[hnx,hm];rfl⟩)
   simp [byV]
  ·have hi8:i=8:=by omega
   subst hi8
   have hm8:m=1::beB U:=hm
   clear hm hI
   subst hm8
   repeat' (first|simp -implicitDefEqProofs only[go_sem]|refine ag_ (fun hb=>?_) (fun hb=>?_)|refine⟨fun hb=>?_,fun hb=>?_⟩|fail)
   exact h _ ⟨_,_,rfl,vb_ (ty:=tu_) (out:=1::beB U) (by simp [hget]) rfl,.refl _⟩
 ·have e:k_ ⟨2,n,s,b⟩=2::k11 s:=by simp [k_]
  rw[e,ke_] at h
  repeat' (first|simp -implicitDefEqProofs only[go_sem,valV,w2]|refine ag_ (fun hb=>?_) (fun hb=>?_)|refine⟨fun hb=>?_,fun hb=>?_⟩|fail)
  refine al10 (fun n2 st=>∃(i:Nat) (m:Str),i+n2=s.length∧st=⟨70,[(1,.ref 1 0 0),(3,.arr 11 0 m.length),(4,iv i)],[(1,⟨false,taV_,4,[.agg [iv 2,iv n,.str s,.bool b]]⟩),(2,⟨true,tu_,1,[]⟩),(11,⟨true,tu_,1,m.map byV⟩)]⟩∧m=2::escT (s.take i)) s.length ⟨0,[2],by simp,by rfl,rfl⟩ ?_
  rintro I hI n2 st ⟨i,m,hi,rfl,hm⟩
  have hml:m.length≤20001:=by
   have:=el_ (s.take i)
   rw[hm]
   simp only[List.length_take,List.length_cons] at this ⊢
   omega
  simp -implicitDefEqProofs only[go_sem]
  refine⟨fun hlt=>?_,fun hge=>?_⟩
  ·have hlt':i<s.length:=by omega
   obtain⟨c,hc,_⟩:=as10 hlt'
   have hw:=ws_ hlt' (by omega)
   have hnx:2::escT (s.take (i+1))=m++(if c=0 then [0,255] else [c]):=by rw[ta_ hc,ea_,hm,escT,escT];simp
   have hb1:m.length+1≤140737488355328:=by omega
   have hb2:m.length+1+1≤140737488355328:=by omega
   by_cases h0:c=0
   ·subst h0
    rw[if_pos rfl] at hnx
    have e0:(((0:UInt8).toNat:Int)==0)=true:=rfl
    repeat' (first|simp -implicitDefEqProofs only[go_sem,aa13 hc,hw,e0,List.length_map,List.length_append,hb1,hb2,Nat.mul_one]|refine ag_ (fun hb=>?_) (fun hb=>?_)|refine⟨fun hb=>?_,fun hb=>?_⟩|fail)
    refine aa_ (n2 - 1) (by omega) (hI _ _ ⟨i+1,m++[0,255],by omega,?_,hnx.symm⟩)
    simp [byV]
   ·rw[if_neg h0] at hnx
    have e0:((c.toNat:Int)==0)=false:=by
     have:c.toNat≠0:=fun e=>h0 (UInt8.toNat_inj.1 e)
     simp;omega
    repeat' (first|simp -implicitDefEqProofs only[go_sem,aa13 hc,hw,e0,List.length_map,List.length_append,hb1,hb2,Nat.mul_one]|refine ag_ (fun hb=>?_) (fun hb=>?_)|refine⟨fun hb=>?_,fun hb=>?_⟩|fail)
    refine aa_ (n2 - 1) (by omega) (hI _ _ ⟨i+1,m++[c],by omega,?_,hnx.symm⟩)
    simp [byV]
  ·rw[List.take_of_length_le (by omega)] at hm
   rw[show 2::(escT s++[0,1])=m++[0,1] by rw[hm];rfl] at h
   have hb1:m.length+2≤140737488355328:=by omega
   have hb2:m.length+1+1≤140737488355328:=by omega
   repeat' (first|simp -implicitDefEqProofs only[go_sem,List.length_map,List.length_append,hb1,hb2,Nat.mul_one]|refine ag_ (fun hb=>?_) (fun hb=>?_)|refine⟨fun hb=>?_,fun hb=>?_⟩|fail)
   exact h _ ⟨_,_,rfl,vb_ (ty:=tu_) (out:=m++[0,1]) (by simp [hget,byV]) (by simp),.refl _⟩
 ·have e:k_ ⟨3,n,s,b⟩=[3,if b then 1 else 0]:=by simp [k_]
  rw[e] at h
  clear e
  cases b
  ·repeat' (first|simp -implicitDefEqProofs only[go_sem,valV,w3,b_]|refine ag_ (fun hb=>?_) (fun hb=>?_)|refine⟨fun hb=>?_,fun hb=>?_⟩|fail)
   exact h _ ⟨_,_,rfl,vb_ (ty:=tu_) (out:=[3,0]) (by simp [hget,byV]) (by simp),.refl _⟩
  ·repeat' (first|simp -implicitDefEqProofs only[go_sem,valV,w3,b_]|refine ag_ (fun hb=>?_) (fun hb=>?_)|refine⟨fun hb=>?_,fun hb=>?_⟩|fail)
   exact h _ ⟨_,_,rfl,vb_ (ty:=tu_) (out:=[3,1]) (by simp [hget,byV]) (by simp),.refl _⟩
theorem rK10 (l:List Val) (hl:l.length≤10000) (hok:∀v∈l,v.ok=true∧i64 v.int∧v.str.length≤10000):P_ Tryz.prog G np10 [v_ l] (b_ (k14 l)):=by
 refine ppK_ (Runs.of fun Φ h=>?_)
 unfold cpK_
 simp -implicitDefEqProofs only[go_sem,v_,List.length_map]
 refine al10 (fun n st=>∃(i:Nat) (m:Str),i+n=l.length∧st=⟨19,[(0,.seq 4 (l.map valV)),(3,.arr 3 0 m.length),(4,iv i)],[(2,⟨true,tu_,1,[]⟩),(3,⟨true,tu_,1,m.map byV⟩)]⟩∧m=k14 (l.take i)) l.length ⟨0,[],by simp,rfl,rfl⟩ ?_
 rintro I hI n st ⟨i,m,hi,rfl,hm⟩
 have hml:m.length≤200090000:=by
  have:=kl_ (l.take i) fun v hv=>(hok v (List.mem_of_mem_take hv)).2.2
  rw[hm]
  simp only[List.length_take] at this
  omega
 simp -implicitDefEqProofs only[go_sem,List.length_map]
 refine⟨fun hlt=>?_,fun hge=>?_⟩
 ·have hlt':i<l.length:=by omega
  obtain⟨v,hv,hvm⟩:=as10 hlt'
  have hw:=ws_ hlt' (by omega)
  obtain⟨k1,k2,k3⟩:=hok v hvm
  have h2:=rKp_ (G:=G) v k1 k2 k3
  have hkl:=kl10 v
  have hb1:m.length+(k_ v).length≤140737488355328:=by omega
  have hnx:=ks16 hv
  rw[←hm] at hnx
  clear k1 k2 k3
  generalize k_ v=y at*
  obtain⟨k,n',s,b⟩:=v
  simp only[valV] at h2
  repeat' (first|simp -implicitDefEqProofs only[go_sem,am_ hv,valV,b_,hw,List.length_map,List.length_append,hb1,Nat.mul_one]|refine ag_ (fun hb=>?_) (fun hb=>?_)|refine⟨fun hb=>?_,fun hb=>?_⟩|refine ac10 h2 rfl rfl ?_|fail)
  refine aa_ (n - 1) (by omega) (hI _ _ ⟨i+1,m++y,by omega,?_,hnx.symm⟩)
  simp [byV]
 ·rw[List.take_of_length_le (by omega)] at hm
  subst hm
  repeat' (first|simp -implicitDefEqProofs only[go_sem]|refine ag_ (fun hb=>?_) (fun hb=>?_)|refine⟨fun hb=>?_,fun hb=>?_⟩|fail)
  exact h _ ⟨_,_,rfl,vb_ (ty:=tu_) (out:=k14 l) (by simp [hget,byV]) rfl,.refl _⟩
end Go.Proofs.YtkejmcgngblfnaaGreatDoor.Ab
