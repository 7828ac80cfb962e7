/-
  key.cutText, key.cut, key.Cut: the value at the beginning of bytes. No claim is proved here.
-/
import Derived.Test.YtkejmcgngblfnaaGreatDoorYSw3
namespace Go.Proofs.YtkejmcgngblfnaaGreatDoor.Ab
open Go Go.RowKit
set_option linter.unusedSimpArgs false
set_option maxHeartbeats 4000000
set_option maxRecDepth 100000
variable {G:Nat→Option AV}
theorem bn_ {c:UInt8} {k:Nat} (hk:k<256) (h:c≠UInt8.ofNat k):¬(c.toNat:Int)=(k:Int):=fun e=>h (UInt8.toNat_inj.1 (by simp;omega))
theorem kcp_ (b:Str) (hb:b.length≤maxB):P_ Tryz.prog G nkc_ [b_ b] (.tup [.str (cutT b).1,iv (cutT b).2]):=by
 refine pkc_ (Runs.of fun Φ h=>?_)
 unfold ckc_
 have fin:∀(s:Str) (k:Nat) env heap,(s,k)=cutT b→Φ ⟨62,(2,.str s)::(3,iv k)::env,heap⟩:=fun s k env heap e=>by
  refine h _ ⟨_,.tup [.str s,iv k],rfl,?_,fe_ ?_⟩
  ·rfl
  ·rw[←e]
 clear h
 simp only[maxB] at hb
 simp -implicitDefEqProofs only[go_sem,b_]
 refine al10 (fun n st=>∃(i:Nat) (s:Str),i+n=b.length∧st=⟨62,[(0,.seq 1 (b.map byV)),(4,.arr 4 0 s.length),(5,iv i)],[(4,⟨true,tu_,1,s.map byV⟩)]⟩∧cutL b s i=cutT b∧s.length≤i) b.length ⟨0,[],by simp,rfl,rfl,by simp⟩ ?_
 rintro I hI n st ⟨i,s,hi,rfl,hc,hs⟩
 have hb1:s.length+1≤140737488355328:=by omega
 by_cases hlt:i<b.length
 ·obtain⟨c,hcx,hcm⟩:=as10 hlt
  have hci:b[i]=c:=(List.getElem?_eq_some_iff.1 hcx).2
  have hw:=ws_ hlt (by omega)
  have hlt':decide ((i:Int)<(b.length:Int))=true:=decide_eq_true (by omega)
  by_cases h0:c=0
  ·subst h0
   have e0:(((0:UInt8).toNat:Int) != 0)=false:=rfl
   by_cases hlt2:i+1<b.length
   ·obtain⟨d,hdx,hdm⟩:=as10 hlt2
    have hdi:b[i+1]=d:=(List.getElem?_eq_some_iff.1 hdx).2
    have hlt2':decide (((i+1:Nat):Int)<(b.length:Int))=true:=decide_eq_true (by omega)
    have hw2:IntKind.i64.wrap ((i:Int)+2)=((i+2:Nat):Int):=by rw[wi_ (by omega) (by omega)];omega
    by_cases h255:d=255
    ·subst h255
     have e1:(((255:UInt8).toNat:Int)==255)=true:=rfl
     rw[ct11 s hlt2 hci hdi] at hc
     have hnx:=hI (n - 2) _ ⟨i+2,s++[0],by omega,rfl,hc,by simp;omega⟩
     clear hI
     simp only[List.map_append,List.map_cons,List.map_nil,List.length_append,List.length_cons,List.length_nil,Nat.zero_add] at hnx
     repeat' (first|simp -implicitDefEqProofs only[go_sem,hlt',hlt2',am_ hcx,am_ hdx,byV,hw,hw2,e0,e1,List.length_map,hb1,Nat.mul_one]|refine ag_ (fun hb=>?_) (fun hb=>?_)|refine⟨fun hb=>?_,fun hb=>?_⟩|fail)
     exact aa_ (n - 2) (by omega) hnx
    ·have e1:((d.toNat:Int)==255)=false:=by
      have:=bn_ (k:=255) (by decide) h255
      simpa using this
     by_cases h1:d=1
     ·subst h1
      have e2:(((1:UInt8).toNat:Int)==1)=true:=rfl
      rw[cs23 s hlt2 hci hdi] at hc
      have hab:=am10 s
      have ht:List.take s.length (s.map byV)=s.map byV:=List.take_of_length_le (by simp)
      clear hI
      repeat' (first|simp -implicitDefEqProofs only[go_sem,hlt',hlt2',am_ hcx,am_ hdx,byV,hw,hw2,e0,e1,e2,hab,ht,Nat.le_refl,List.drop_zero,List.length_map,hb1,Nat.mul_one]|refine ag_ (fun hb=>?_) (fun hb=>?_)|refine⟨fun hb=>?_,fun hb=>?_⟩|fail)
      exact fin _ _ _ _ hc
     ·have e2:((d.toNat:Int)==1)=false:=by
       have:=bn_ (k:=1) (by decide) h1
       simpa using this
      rw[cb_ s hlt hci (fun _ =>by rw[hdi];exact⟨h255,h1⟩)] at hc
      clear hI
      repeat' (first|simp -implicitDefEqProofs only[go_sem,hlt',hlt2',am_ hcx,am_ hdx,byV,hw,hw2,e0,e1,e2,List.length_map,hb1,Nat.mul_one]|refine ag_ (fun hb=>?_) (fun hb=>?_)|refine⟨fun hb=>?_,fun hb=>?_⟩|fail)
      exact fin _ _ _ _ hc
   ·have hlt2':decide (((i+1:Nat):Int)<(b.length:Int))=false:=decide_eq_false (by omega)
    rw[cb_ s hlt hci (fun h=>absurd h hlt2)] at hc
    clear hI
    repeat' (first|simp -implicitDefEqProofs only[go_sem,hlt',hlt2',am_ hcx,byV,hw,e0,List.length_map,hb1,Nat.mul_one]|refine ag_ (fun hb=>?_) (fun hb=>?_)|refine⟨fun hb=>?_,fun hb=>?_⟩|fail)
    exact fin _ _ _ _ hc
  ·have e0:((c.toNat:Int) != 0)=true:=by
    have:=bn_ (k:=0) (by decide) h0
    simpa using this
   rw[co10 s hlt (by rw[hci];exact h0),hci] at hc
   have hnx:=hI (n - 1) _ ⟨i+1,s++[c],by omega,rfl,hc,by simp;omega⟩
   clear hI
   simp only[List.map_append,List.map_cons,List.map_nil,List.length_append,List.length_cons,List.length_nil,Nat.zero_add] at hnx
   repeat' (first|simp -implicitDefEqProofs only[go_sem,hlt',am_ hcx,byV,hw,e0,List.length_map,hb1,Nat.mul_one]|refine ag_ (fun hb=>?_) (fun hb=>?_)|refine⟨fun hb=>?_,fun hb=>?_⟩|fail)
   exact aa_ (n - 1) (by omega) hnx
 ·have hlt':decide ((i:Int)<(b.length:Int))=false:=decide_eq_false (by omega)
  rw[ce_ s hlt] at hc
  clear hI
  repeat' (first|simp -implicitDefEqProofs only[go_sem,hlt',List.length_map]|refine ag_ (fun hb=>?_) (fun hb=>?_)|refine⟨fun hb=>?_,fun hb=>?_⟩|fail)
  exact fin _ _ _ _ hc
theorem valE (v:Val):valV v= .agg [iv v.kind,iv v.int,.str v.str,.bool v.bool]:=rfl
theorem bl12:∀(l:Str),bigN l<256 ^ l.length:=fun l=>by
 have go:∀(l:Str) (u k:Nat),u<256 ^ k→l.foldl (fun u c=>u*256+c.toNat) u<256 ^ (k+l.length):=by
  intro l
  induction l with
  | nil=>intro u k h;simpa using h
  | cons c l ih=>
   intro u k h
   have hc:=c.toNat_lt
   have:=ih (u*256+c.toNat) (k+1) (by rw[Nat.pow_succ];omega)
   rw[List.foldl_cons,List.length_cons,show k+(l.length+1)=k+1+l.length by omega]
   exact this
 have:=go l 0 0 (by decide)
 simpa [bigN] using this
theorem to10 {b:Str} (h:¬b.length<2):∃c d r,b=c::d::r:=by
 match b,h with
 | [],h=>exact absurd (by simp) h
 | [_],h=>exact absurd (by simp) h
 | c::d::r,_ =>exact⟨c,d,r,rfl⟩
theorem kc11 (b:Str) (hb:b.length≤maxB):P_ Tryz.prog G nk10 [b_ b] (.tup [valV (cutV b).1,iv (cutV b).2]):=by
 refine pk10 (Runs.of fun Φ h=>?_)
 unfold ck11
 have fin:∀st (k:Int) (n:Int) (s:Str) (t:Bool) (x:Nat),cutV b=(⟨k,n,s,t⟩,x)→r12 st [.cells 2 4,.t 3]=some [.agg [iv k,iv n,.str s,.bool t],iv x]→Φ st:=fun st k n s t x e hr=>by
  refine h _ ⟨_,.tup [.agg [iv k,iv n,.str s,.bool t],iv x],hr,rfl,fe_ ?_⟩
  rw[e]
  rfl
 clear h
 simp only[maxB] at hb
 by_cases h2:b.length<2
 ·have hc:=cs21 h2
  have e0:decide ((b.length:Int)<2)=true:=decide_eq_true (by omega)
  repeat' (first|simp -implicitDefEqProofs only[go_sem,b_,e0,List.length_map]|refine ag_ (fun hb=>?_) (fun hb=>?_)|refine⟨fun hb=>?_,fun hb=>?_⟩|fail)
  exact fin _ _ _ _ _ _ hc rfl
 have e0:decide ((b.length:Int)<2)=false:=decide_eq_false (by omega)
 obtain⟨c,d,r,rfl⟩:=to10 h2
 clear h2
 have a0:∀H,a10 H 1 (.seq 1 (byV c::byV d::r.map byV)) (.int .i64 0)=some (.eptr (byV c) 0):=fun H=>rfl
 have a1:∀H,a10 H 1 (.seq 1 (byV c::byV d::r.map byV)) (.int .i64 1)=some (.eptr (byV d) 0):=fun H=>rfl
 simp only[byV] at a0 a1
 have hc256:=c.toNat_lt
 have q:IntKind.i64.wrap (c.toNat:Int)=(c.toNat:Int):=wi_ (by omega) (by omega)
 simp only[List.length_cons] at hb e0
 by_cases h3:c=3
 ·subst h3
  rw[cb10] at fin
  have n3:(((3:UInt8).toNat:Int)==3)=true:=rfl
  have hv:=vBp_ (G:=G) ((d.toNat:Int)==1)
  have eb:((d.toNat:Int)==1)=(d==1):=by
   by_cases h1:d=1
   ·subst h1;rfl
   ·have:=bn_ (k:=1) (by decide) h1
    rw[beq_eq_false_iff_ne.2 h1]
    simpa using this
  rw[eb] at hv
  simp only[valE] at hv
  by_cases hd:d.toNat≤1
  ·rw[if_pos hd] at fin
   have e1:decide ((d.toNat:Int)≤1)=true:=decide_eq_true (by omega)
   repeat' (first|simp -implicitDefEqProofs only[go_sem,b_,List.map_cons,e0,e1,a0,a1,byV,q,n3,eb,List.length_map,List.length_cons]|refine ag_ (fun hb=>?_) (fun hb=>?_)|refine⟨fun hb=>?_,fun hb=>?_⟩|refine ac10 hv rfl rfl ?_|fail)
   exact fin _ _ _ _ _ _ rfl rfl
  ·rw[if_neg hd] at fin
   have e1:decide ((d.toNat:Int)≤1)=false:=decide_eq_false (by omega)
   repeat' (first|simp -implicitDefEqProofs only[go_sem,b_,List.map_cons,e0,e1,a0,a1,byV,q,n3,List.length_map,List.length_cons]|refine ag_ (fun hb=>?_) (fun hb=>?_)|refine⟨fun hb=>?_,fun hb=>?_⟩|fail)
   exact fin _ _ _ _ _ _ rfl rfl
 have n3:((c.toNat:Int)==3)=false:=by
  have:=bn_ (k:=3) (by decide) h3
  simpa using this
 by_cases h4:c=2
 ·subst h4
  rw[cs24] at fin
  have n2:(((2:UInt8).toNat:Int)==2)=true:=rfl
  have sl:aslc 1 (.seq 1 (byV 2::byV d::r.map byV)) (some (.int .i64 1)) none=some (.seq 1 (byV d::r.map byV)):=ad_ (e:=byV) (l:=2::d::r) (i:=1) (by decide) (by simp)
  simp only[byV] at sl
  have hct:=kcp_ (G:=G) (d::r) (by simp [maxB];omega)
  have hv:=vSp_ (G:=G) (cutT (d::r)).1
  have hk:(cutT (d::r)).2≤1099511627777:=by
   rw[ci_]
   cases hx:txtP (d::r) with
   | none=>simp
   | some x=>
    have:=congrArg List.length (tb12 _ _ _ hx)
    rw[List.length_append,List.length_cons] at this
    simp only
    omega
  generalize cutT (d::r)=x at*
  obtain⟨s,k⟩:=x
  simp only[valE,b_,List.map_cons] at hv hct fin hk
  have hw:IntKind.i64.wrap ((k:Int)+1)=((k+1:Nat):Int):=by rw[wi_ (by omega) (by omega)];omega
  by_cases h0:0<k
  ·have e1:decide ((0:Int)<(k:Int))=true:=decide_eq_true (by omega)
   by_cases hl:s.length≤4096
   ·rw[if_pos ⟨h0,hl⟩] at fin
    have e2:decide ((s.length:Int)≤4096)=true:=decide_eq_true (by omega)
    repeat' (first|simp -implicitDefEqProofs only[go_sem,b_,List.map_cons,e0,e1,e2,a0,sl,byV,q,n3,n2,hw,List.length_map,List.length_cons]|refine ag_ (fun hb=>?_) (fun hb=>?_)|refine⟨fun hb=>?_,fun hb=>?_⟩|refine ac10 hct rfl rfl ?_|refine ac10 hv rfl rfl ?_|fail)
    exact fin _ _ _ _ _ _ rfl rfl
   ·rw[if_neg fun h=>hl h.2] at fin
    have e2:decide ((s.length:Int)≤4096)=false:=decide_eq_false (by omega)
    repeat' (first|simp -implicitDefEqProofs only[go_sem,b_,List.map_cons,e0,e1,e2,a0,sl,byV,q,n3,n2,hw,List.length_map,List.length_cons]|refine ag_ (fun hb=>?_) (fun hb=>?_)|refine⟨fun hb=>?_,fun hb=>?_⟩|refine ac10 hct rfl rfl ?_|refine ac10 hv rfl rfl ?_|fail)
    exact fin _ _ _ _ _ _ rfl rfl
  ·rw[if_neg fun h=>h0 h.1] at fin
   have e1:decide ((0:Int)<(k:Int))=false:=decide_eq_false (by omega)
   repeat' (first|simp -implicitDefEqProofs only[go_sem,b_,List.map_cons,e0,e1,a0,sl,byV,q,n3,n2,hw,List.length_map,List.length_cons]|refine ag_ (fun hb=>?_) (fun hb=>?_)|refine⟨fun hb=>?_,fun hb=>?_⟩|refine ac10 hct rfl rfl ?_|refine ac10 hv rfl rfl ?_|fail)
   exact fin _ _ _ _ _ _ rfl rfl
 have n2:((c.toNat:Int)==2)=false:=by
  have:=bn_ (k:=2) (by decide) h4
  simpa using this
 by_cases h5:c=1
 ·subst h5
  rw[ci10] at fin
  have n1:(((1:UInt8).toNat:Int)==1)=true:=rfl
  by_cases h8:8≤(d::r).length
  ·rw[if_pos h8] at fin
   have h8':7≤r.length:=by simpa using h8
   have e1:decide ((8:Int)<((r.length+1+1:Nat):Int))=true:=decide_eq_true (by omega)
   have sl:aslc 1 (.seq 1 (byV 1::byV d::r.map byV)) (some (.int .i64 1)) (some (.int .i64 9))=some (.seq 1 (((d::r).take 8).map byV)):=by
    have h9:(9:Int)≤((byV 1::byV d::r.map byV).length:Nat):=by simp;omega
    show (if (1=1∧0<1) then (if 0≤(1:Int)∧(1:Int)≤9∧(9:Int)≤((byV 1::byV d::r.map byV).length:Nat) then some (AV.seq 1 (((byV 1::byV d::r.map byV).drop 1).take 8)) else none) else none)=_
    rw[if_pos (by decide),if_pos ⟨by decide,by decide,h9⟩,List.map_take]
    rfl
   have hl8:((d::r).take 8).length=8:=by simp;omega
   generalize (d::r).take 8=l at*
   simp only[byV] at sl
   have hbl:=bl12 l
   rw[hl8] at hbl
   have hx:=bi_ (m:=bigN l) hbl
   repeat' (first|simp -implicitDefEqProofs only[go_sem,b_,List.map_cons,e0,e1,a0,sl,byV,q,n3,n2,n1,hl8,List.length_map,List.length_cons]|refine ag_ (fun hb=>?_) (fun hb=>?_)|refine⟨fun hb=>?_,fun hb=>?_⟩|fail)
   refine al10 (fun n st=>∃(i:Nat) (u:Nat),i+n=8∧st=⟨70,[(2,.ref 2 0 0),(6,.int .u64 (u:Int)),(53,.seq 1 (l.map byV)),(54,iv 8),(55,iv i)],[(2,⟨false,taV_,4,[.agg [.int .i64 0,.int .i64 0,.str [],.bool false]]⟩)]⟩∧(l.drop i).foldl (fun u c=>u*256+c.toNat) u=bigN l∧u<256 ^ i) 8 ⟨0,0,by simp,by rfl,rfl,by decide⟩ ?_
   rintro I hI n st ⟨i,u,hi,rfl,hu,hs⟩
   by_cases hlt:i<8
   ·have hlt':decide ((i:Int)<8)=true:=decide_eq_true (by omega)
    obtain⟨y,hy,_⟩:=as10 (l:=l) (i:=i) (by omega)
    have hw:=ws_ hlt (by omega)
    rw[d10 hy,List.foldl_cons] at hu
    have hu7:u<72057594037927936:=Nat.lt_of_lt_of_le hs (Nat.le_trans (Nat.pow_le_pow_right (by decide) (show i≤7 by omega)) (by decide))
    have hy256:=y.toNat_lt
    have hm:=bm_ y hu7
    have hyw:IntKind.u64.wrap (y.toNat:Int)=(y.toNat:Int):=by rw[wu_ (by omega)]
    have hnx:=hI (n - 1) _ ⟨i+1,u*256+y.toNat,by omega,rfl,hu,by rw[Nat.pow_succ];omega⟩
    clear hI
    repeat' (first|simp -implicitDefEqProofs only[go_sem,hlt',am_ hy,byV,hw,hyw,hm]|refine ag_ (fun hb=>?_) (fun hb=>?_)|refine⟨fun hb=>?_,fun hb=>?_⟩|fail)
    exact aa_ (n - 1) (by omega) hnx
   ·have hlt':decide ((i:Int)<8)=false:=decide_eq_false (by omega)
    rw[List.drop_eq_nil_of_le (by omega),List.foldl_nil] at hu
    subst hu
    have hv:=vIp_ (G:=G) ((bigN l:Int) - 9223372036854775808)
    simp only[valE] at hv
    clear hI
    repeat' (first|simp -implicitDefEqProofs only[go_sem,hlt',hx]|refine ag_ (fun hb=>?_) (fun hb=>?_)|refine⟨fun hb=>?_,fun hb=>?_⟩|refine ac10 hv rfl rfl ?_|fail)
    exact fin _ _ _ _ _ _ rfl rfl
  ·rw[if_neg h8] at fin
   have h8':¬7≤r.length:=by simpa using h8
   have e1:decide ((8:Int)<((r.length+1+1:Nat):Int))=false:=decide_eq_false (by omega)
   repeat' (first|simp -implicitDefEqProofs only[go_sem,b_,List.map_cons,e0,e1,a0,byV,q,n3,n2,n1,List.length_map,List.length_cons]|refine ag_ (fun hb=>?_) (fun hb=>?_)|refine⟨fun hb=>?_,fun hb=>?_⟩|fail)
   exact fin _ _ _ _ _ _ rfl rfl
 ·have n1:((c.toNat:Int)==1)=false:=by
   have:=bn_ (k:=1) (by decide) h5
   simpa using this
  rw[co_ _ h5 h4 h3] at fin
  repeat' (first|simp -implicitDefEqProofs only[go_sem,b_,List.map_cons,e0,a0,byV,q,n3,n2,n1,List.length_map,List.length_cons]|refine ag_ (fun hb=>?_) (fun hb=>?_)|refine⟨fun hb=>?_,fun hb=>?_⟩|fail)
  exact fin _ _ _ _ _ _ rfl rfl
theorem kCp_ (b:Str) (hb:b.length≤maxB):P_ Tryz.prog G nkC_ [b_ b] (.tup [valV (cutV b).1,iv (cutV b).2,.bool (decide (0<(cutV b).2))]):=by
 have hc:=kc11 (G:=G) b hb
 refine pkC_ (Runs.of fun Φ h=>?_)
 unfold ckC_
 generalize cutV b=x at*
 obtain⟨⟨k,n,s,t⟩,m⟩:=x
 have e0:decide ((0:Int)<(m:Int))=decide (0<m):=by simp
 simp only[valE,b_] at hc h
 repeat' (first|simp -implicitDefEqProofs only[go_sem,b_,e0]|refine ag_ (fun hb=>?_) (fun hb=>?_)|refine⟨fun hb=>?_,fun hb=>?_⟩|refine ac10 hc rfl rfl ?_|fail)
 exact h _ ⟨_,_,rfl,rfl,.refl _⟩
end Go.Proofs.YtkejmcgngblfnaaGreatDoor.Ab
