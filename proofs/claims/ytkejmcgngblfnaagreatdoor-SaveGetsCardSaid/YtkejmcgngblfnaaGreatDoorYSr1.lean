/-
  The document's bytes of what a monitor has: four, values, row, Bytes. No claim is proved here.
-/
import Derived.Test.YtkejmcgngblfnaaGreatDoorYSw3
namespace Go.Proofs.YtkejmcgngblfnaaGreatDoor.Ab
open Go Go.RowKit
set_option linter.unusedSimpArgs false
set_option maxHeartbeats 4000000
set_option maxRecDepth 100000
variable {G:Nat→Option AV}
theorem rfh_ (n:Int) (h0:0≤n) (h1:n<9223372036854775808):H_ Tryz.prog G npf_ [iv n] [] (.arr 17 0 4) [(17,⟨true,tu_,1,(intB n).map byV⟩)]:=by
 have q:=congrArg (List.map (AV.int .u8)) (fr_ h0 h1)
 rw[List.map_map,show (AV.int .u8∘fun b:UInt8=>((b.toNat:Nat):Int))=byV from rfl] at q
 simp only[List.map_cons,List.map_nil] at q
 refine hpf_ (R_.of fun Φ h=>?_)
 unfold cpf_
 have fin:∀env heap,subH heap [(17,⟨true,tu_,1,(intB n).map byV⟩)]→Φ ⟨18,(2,.arr 17 0 4)::env,heap⟩:=fun env heap hh=>h _ ⟨_,_,Weak.refl _,rfl,.refl _,hh.at⟩
 clear h
 rw[←q] at fin
 clear q
 repeat' (first|simp -implicitDefEqProofs only[go_sem]|refine ag_ (fun hb=>?_) (fun hb=>?_)|refine⟨fun hb=>?_,fun hb=>?_⟩|fail)
 exact fin _ _ ⟨rfl,trivial⟩
theorem rfp_ (n:Int) (h0:0≤n) (h1:n<9223372036854775808):P_ Tryz.prog G npf_ [iv n] (b_ (intB n)):=by
 have q:=congrArg (List.map (AV.int .u8)) (fr_ h0 h1)
 rw[List.map_map,show (AV.int .u8∘fun b:UInt8=>((b.toNat:Nat):Int))=byV from rfl] at q
 simp only[List.map_cons,List.map_nil] at q
 refine ppf_ (Runs.of fun Φ h=>?_)
 unfold cpf_
 unfold b_ at h
 rw[←q] at h
 clear q
 repeat' (first|simp -implicitDefEqProofs only[go_sem]|refine ag_ (fun hb=>?_) (fun hb=>?_)|refine⟨fun hb=>?_,fun hb=>?_⟩|fail)
 exact h _ ⟨_,_,rfl,rfl,.refl _⟩
def KOk (v:Val):Prop:=v.ok=true∧i64 v.int∧v.str.length≤10000
theorem in11 (n:Nat):intB (n:Int)=f10 n:=rfl
theorem kf_ (l:List Val):k14 l=l.flatMap k_:=by
 induction l with
 | nil=>rfl
 | cons v l ih=>rw[List.flatMap_cons,←ih];rfl
theorem rvp_ (l:List Val) (hl:l.length≤10000) (hok:∀v∈l,KOk v):P_ Tryz.prog G npv_ [.seq 4 (l.map valV)] (b_ (l10 k_ l)):=by
 have h4:=rfh_ (G:=G) l.length (by omega) (by omega)
 have hk:=rK10 (G:=G) l hl hok
 have hkl:=kl_ l (fun v hv=>(hok v hv).2.2)
 rw[in11] at h4
 refine ppv_ (Runs.of fun Φ h=>?_)
 unfold cpv_
 unfold l10 at h
 rw[←kf_] at h
 generalize k14 l=y at*
 have h4l:(f10 l.length).length=4:=rfl
 generalize f10 l.length=x at*
 have hb:4+y.length≤140737488355328:=by omega
 simp only[v_,b_] at hk
 repeat' (first|simp -implicitDefEqProofs only[go_sem,List.length_map,h4l,hb,Nat.mul_one]|refine ag_ (fun hb=>?_) (fun hb=>?_)|refine⟨fun hb=>?_,fun hb=>?_⟩|(refine ac_ [(17,5)] h4 rfl trivial rfl rfl rfl ?_)|refine ac10 hk rfl rfl ?_|refine al_ hk rfl rfl ?_|(refine And.intro (a:=l13 ..) ?_ ?_)|fail)
 refine h _ ⟨_,_,rfl,vb_ (ty:=tu_) (out:=x++y) ?_ ?_,.refl _⟩
 ·simp only[hget,List.map_append]
  rfl
 ·rw[List.length_append,h4l]
def VsOk (l:List Val):Prop:=l.length≤10000∧∀v∈l,KOk v
def in63 (n:Int):Prop:=0≤n∧n<9223372036854775808
def RwOk (r:VRow):Prop:=(r.1.length≤10000∧∀s∈r.1,in63 s.1∧KOk s.2)∧r.2.length≤10000∧∀c∈r.2,in63 c.1∧VsOk c.2
theorem rrp_ (r:VRow) (hok:RwOk r) (hb:(rowB r).length≤maxB):P_ Tryz.prog G npr_ [rowE r] (b_ (rowB r)):=by
 obtain⟨a,c⟩:=r
 obtain⟨⟨ha,hoa⟩,hc,hoc⟩:=hok
 simp only at ha hoa hc hoc
 simp only[maxB] at hb
 have h4:=rfh_ (G:=G) a.length (by omega) (by omega)
 have h5:=rfp_ (G:=G) c.length (by omega) (by omega)
 rw[in11] at h4 h5
 refine ppr_ (Runs.of fun Φ h=>?_)
 unfold cpr_
 unfold rowB l10 at h hb
 simp only at h hb
 have h4l:(f10 a.length).length=4:=rfl
 have h5l:(f10 c.length).length=4:=rfl
 generalize f10 a.length=x1 at*
 generalize f10 c.length=x2 at*
 simp only[b_] at h5
 repeat' (first|simp -implicitDefEqProofs only[go_sem,rowE,List.length_map]|refine ag_ (fun hb=>?_) (fun hb=>?_)|refine⟨fun hb=>?_,fun hb=>?_⟩|(refine ac_ [(17,9)] h4 rfl trivial rfl rfl rfl ?_)|fail)
 refine al10 (fun n st=>∃(i:Nat) (m:Str),i+n=a.length∧st=⟨67,[(1,.ref 1 0 0),(3,.arr 9 0 m.length),(4,iv i)],[(1,⟨false,taR_,2,[.agg [.seq 5 (a.map s17),.seq 2 (c.map cfgE)]]⟩),(2,⟨true,tu_,1,[]⟩),(9,⟨true,tu_,1,m.map byV⟩)]⟩∧
  m++(a.drop i).flatMap s20=x1++a.flatMap s20) a.length ⟨0,x1,by simp,by rw[h4l];rfl,by rw[List.drop_zero]⟩ ?_
 rintro I hI n st ⟨i,m,hi,rfl,hm⟩
 have hml:m.length+((a.drop i).flatMap s20).length=(x1++a.flatMap s20).length:=by rw[←hm,List.length_append]
 simp only[List.length_append] at hml hb
 simp -implicitDefEqProofs only[go_sem,List.length_map]
 refine⟨fun hlt=>?_,fun hge=>?_⟩
 ·have hlt':i<a.length:=by omega
  obtain⟨s,hs,hsm⟩:=as10 hlt'
  have hw:=ws_ hlt' (by omega)
  obtain⟨⟨n1,n2⟩,k1,k2,k3⟩:=hoa s hsm
  have hf:=rfp_ (G:=G) s.1 n1 n2
  have hk:=rKp_ (G:=G) s.2 k1 k2 k3
  rw[d10 hs,List.flatMap_cons] at hm hml
  rw[List.length_append] at hml
  have hsB:s20 s=intB s.1++k_ s.2:=rfl
  rw[hsB] at hm hml
  rw[List.length_append] at hml
  have h4s:(intB s.1).length=4:=rfl
  generalize intB s.1=y1 at*
  generalize k_ s.2=y2 at*
  have hnx:=hI (n - 1) _ ⟨i+1,m++y1++y2,by omega,rfl,by rw[←hm];simp only[List.append_assoc]⟩
  simp only[List.map_append,List.length_append,h4s] at hnx
  clear hI hm h4
  obtain⟨y,⟨k,q,s,t⟩⟩:=s
  simp only[valV,b_] at hf hk
  have hb1:m.length+4≤140737488355328:=by omega
  have hb2:m.length+4+y2.length≤140737488355328:=by omega
  repeat' (first|simp -implicitDefEqProofs only[go_sem,am_ hs,s17,hw,List.length_map,List.length_append,h4s,hb1,hb2,Nat.mul_one]|refine ag_ (fun hb=>?_) (fun hb=>?_)|refine⟨fun hb=>?_,fun hb=>?_⟩|refine ac10 hf rfl rfl ?_|refine al_ hf rfl rfl ?_|refine ac10 hk rfl rfl ?_|refine al_ hk rfl rfl ?_|(refine And.intro (a:=l13 ..) ?_ ?_)|fail)
  exact aa_ (n - 1) (by omega) hnx
 ·rw[List.drop_eq_nil_of_le (by omega),List.flatMap_nil,List.append_nil] at hm
  rw[←hm] at h
  have hml:m.length=x1.length+(a.flatMap s20).length:=by rw[hm,List.length_append]
  clear hm hI h4
  have hb1:m.length+4≤140737488355328:=by omega
  repeat' (first|simp -implicitDefEqProofs only[go_sem,List.length_map,h5l,hb1,Nat.mul_one]|refine ag_ (fun hb=>?_) (fun hb=>?_)|refine⟨fun hb=>?_,fun hb=>?_⟩|refine ac10 h5 rfl rfl ?_|refine al_ h5 rfl rfl ?_|(refine And.intro (a:=l13 ..) ?_ ?_)|fail)
  refine al10 (fun n st=>∃(i:Nat) (u:Str),i+n=c.length∧st=⟨67,[(1,.ref 1 0 0),(3,.arr 9 0 u.length),(5,iv i)],[(1,⟨false,taR_,2,[.agg [.seq 5 (a.map s17),.seq 2 (c.map cfgE)]]⟩),(2,⟨true,tu_,1,[]⟩),(9,⟨true,tu_,1,u.map byV⟩)]⟩∧
   u++(c.drop i).flatMap cfgB=m++(x2++c.flatMap cfgB)) c.length ⟨0,m++x2,by simp,by simp only[List.map_append,List.length_append,h5l];rfl,by rw[List.drop_zero,List.append_assoc]⟩ ?_
  rintro I hI n st ⟨i,u,hi,rfl,hu⟩
  have hul:u.length+((c.drop i).flatMap cfgB).length=m.length+(x2.length+(c.flatMap cfgB).length):=by rw[←List.length_append,hu,List.length_append,List.length_append]
  simp -implicitDefEqProofs only[go_sem,List.length_map]
  refine⟨fun hlt=>?_,fun hge=>?_⟩
  ·have hlt':i<c.length:=by omega
   obtain⟨s,hs,hsm⟩:=as10 hlt'
   have hw:=ws_ hlt' (by omega)
   obtain⟨⟨n1,n2⟩,k1,k2⟩:=hoc s hsm
   have hf:=rfp_ (G:=G) s.1 n1 n2
   have hk:=rvp_ (G:=G) s.2 k1 k2
   rw[d10 hs,List.flatMap_cons] at hu hul
   rw[List.length_append] at hul
   have hcB:cfgB s=intB s.1++l10 k_ s.2:=rfl
   rw[hcB] at hu hul
   rw[List.length_append] at hul
   have h4s:(intB s.1).length=4:=rfl
   generalize intB s.1=y1 at*
   generalize l10 k_ s.2=y2 at*
   have hnx:=hI (n - 1) _ ⟨i+1,u++y1++y2,by omega,rfl,by rw[←hu];simp only[List.append_assoc]⟩
   simp only[List.map_append,List.length_append,h4s] at hnx
   clear hI hu
   obtain⟨y,vs⟩:=s
   simp only[b_] at hf hk
   have hb1:u.length+4≤140737488355328:=by omega
   have hb2:u.length+4+y2.length≤140737488355328:=by omega
   repeat' (first|simp -implicitDefEqProofs only[go_sem,am_ hs,cfgE,hw,List.length_map,List.length_append,h4s,hb1,hb2,Nat.mul_one]|refine ag_ (fun hb=>?_) (fun hb=>?_)|refine⟨fun hb=>?_,fun hb=>?_⟩|refine ac10 hf rfl rfl ?_|refine al_ hf rfl rfl ?_|refine ac10 hk rfl rfl ?_|refine al_ hk rfl rfl ?_|(refine And.intro (a:=l13 ..) ?_ ?_)|fail)
   exact aa_ (n - 1) (by omega) hnx
  ·rw[List.drop_eq_nil_of_le (by omega),List.flatMap_nil,List.append_nil] at hu
   rw[←hu] at h
   repeat' (first|simp -implicitDefEqProofs only[go_sem]|refine ag_ (fun hb=>?_) (fun hb=>?_)|refine⟨fun hb=>?_,fun hb=>?_⟩|fail)
   exact h _ ⟨_,_,rfl,vb_ (ty:=tu_) (out:=u) rfl rfl,.refl _⟩
def SnOk (s:V_):Prop:=in63 s.taken∧in63 s.most∧in63 s.made∧in63 s.stopped∧(s.doms.length≤10000∧∀l∈s.doms,VsOk l)∧s.rows.length≤10000∧∀r∈s.rows,RwOk r
theorem rBp_ (s:V_) (hok:SnOk s) (hb:(s19 s).length≤maxB):P_ Tryz.prog G npB_ [s15 s] (b_ (s19 s)):=by
 obtain⟨p1,p2,p3,p4,ds,rs⟩:=s
 obtain⟨o1,o2,o3,o4,⟨hd,hod⟩,hr,hor⟩:=hok
 simp only at o1 o2 o3 o4 hd hod hr hor
 have f1:=rfp_ (G:=G) p1 o1.1 o1.2
 have f2:=rfp_ (G:=G) p2 o2.1 o2.2
 have f3:=rfp_ (G:=G) p3 o3.1 o3.2
 have f4:=rfp_ (G:=G) p4 o4.1 o4.2
 have f5:=rfp_ (G:=G) ds.length (by omega) (by omega)
 have f6:=rfp_ (G:=G) rs.length (by omega) (by omega)
 rw[in11] at f5 f6
 refine ppB_ (Runs.of fun Φ h=>?_)
 unfold cpB_
 have eB:s19 ⟨p1,p2,p3,p4,ds,rs⟩=81::(intB p1++(intB p2++(intB p3++(intB p4++((f10 ds.length++ds.flatMap (l10 k_))++(f10 rs.length++rs.flatMap rowB)))))):=rfl
 rw[eB] at h hb
 clear eB
 simp only[maxB,List.length_cons,List.length_append] at hb
 have l1:(intB p1).length=4:=rfl
 have l2:(intB p2).length=4:=rfl
 have l3:(intB p3).length=4:=rfl
 have l4:(intB p4).length=4:=rfl
 have l5:(f10 ds.length).length=4:=rfl
 have l6:(f10 rs.length).length=4:=rfl
 generalize intB p1=y1 at*
 generalize intB p2=y2 at*
 generalize intB p3=y3 at*
 generalize intB p4=y4 at*
 generalize f10 ds.length=y5 at*
 generalize f10 rs.length=y6 at*
 simp only[b_] at f1 f2 f3 f4 f5 f6
 clear o1 o2 o3 o4
 repeat' (first|simp -implicitDefEqProofs only[go_sem,s15,List.length_map,List.length_append,l1,l2,l3,l4,l5,Nat.mul_one]|refine ag_ (fun hb=>?_) (fun hb=>?_)|refine⟨fun hb=>?_,fun hb=>?_⟩|refine ac10 f1 rfl rfl ?_|refine al_ f1 rfl rfl ?_|refine ac10 f2 rfl rfl ?_|refine al_ f2 rfl rfl ?_|refine ac10 f3 rfl rfl ?_|refine al_ f3 rfl rfl ?_|refine ac10 f4 rfl rfl ?_|refine al_ f4 rfl rfl ?_|refine ac10 f5 rfl rfl ?_|refine al_ f5 rfl rfl ?_|(refine And.intro (a:=l13 ..) ?_ ?_)|fail)
 refine al10 (fun n st=>∃(i:Nat) (m:Str),i+n=ds.length∧st=⟨70,[(1,.ref 1 0 0),(3,.arr 6 0 m.length),(4,iv i)],[(1,⟨false,taS_,6,[.agg [iv p1,iv p2,iv p3,iv p4,.seq 1 (ds.map v_),.seq 2 (rs.map rowE)]]⟩),(2,⟨true,tu_,1,[]⟩),(6,⟨true,tu_,1,m.map byV⟩)]⟩∧
  m++(ds.drop i).flatMap (l10 k_)=81::(y1++(y2++(y3++(y4++(y5++ds.flatMap (l10 k_))))))) ds.length ⟨0,81::(y1++y2++y3++y4++y5),by simp,?_,by rw[List.drop_zero];simp only[List.cons_append,List.append_assoc]⟩ ?_
 ·simp only[List.map_cons,List.map_append,List.length_cons,List.length_append,l1,l2,l3,l4,l5]
  rfl
 have l7:y1.length+y2.length+y3.length+y4.length+y5.length=20:=by rw[l1,l2,l3,l4,l5]
 rintro I hI n st ⟨i,m,hi,rfl,hm⟩
 have hml:m.length+((ds.drop i).flatMap (l10 k_)).length=21+(ds.flatMap (l10 k_)).length:=by
  rw[←List.length_append,hm]
  simp only[List.length_cons,List.length_append]
  omega
 simp -implicitDefEqProofs only[go_sem,List.length_map]
 refine⟨fun hlt=>?_,fun hge=>?_⟩
 ·have hlt':i<ds.length:=by omega
  obtain⟨s,hs,hsm⟩:=as10 hlt'
  have hw:=ws_ hlt' (by omega)
  obtain⟨k1,k2⟩:=hod s hsm
  have hk:=rvp_ (G:=G) s k1 k2
  rw[d10 hs,List.flatMap_cons] at hm hml
  rw[List.length_append] at hml
  generalize l10 k_ s=z at*
  have hnx:=hI (n - 1) _ ⟨i+1,m++z,by omega,rfl,by rw[←hm];simp only[List.append_assoc]⟩
  simp only[List.map_append,List.length_append] at hnx
  clear hI hm
  simp only[b_] at hk
  have hb1:m.length+z.length≤140737488355328:=by omega
  repeat' (first|simp -implicitDefEqProofs only[go_sem,am_ hs,v_,hw,List.length_map,List.length_append,hb1,Nat.mul_one]|refine ag_ (fun hb=>?_) (fun hb=>?_)|refine⟨fun hb=>?_,fun hb=>?_⟩|refine ac10 hk rfl rfl ?_|refine al_ hk rfl rfl ?_|(refine And.intro (a:=l13 ..) ?_ ?_)|fail)
  exact aa_ (n - 1) (by omega) hnx
 ·rw[List.drop_eq_nil_of_le (by omega),List.flatMap_nil,List.append_nil] at hm
  rw[List.drop_eq_nil_of_le (by omega),List.flatMap_nil,List.length_nil] at hml
  have e:81::(y1++(y2++(y3++(y4++((y5++ds.flatMap (l10 k_))++(y6++rs.flatMap rowB))))))=m++(y6++rs.flatMap rowB):=by
   rw[hm]
   simp only[List.cons_append,List.append_assoc]
  rw[e] at h
  clear e hm hI
  have hb1:m.length+4≤140737488355328:=by omega
  repeat' (first|simp -implicitDefEqProofs only[go_sem,List.length_map,l6,hb1,Nat.mul_one]|refine ag_ (fun hb=>?_) (fun hb=>?_)|refine⟨fun hb=>?_,fun hb=>?_⟩|refine ac10 f6 rfl rfl ?_|refine al_ f6 rfl rfl ?_|(refine And.intro (a:=l13 ..) ?_ ?_)|fail)
  refine al10 (fun n st=>∃(i:Nat) (u:Str),i+n=rs.length∧st=⟨70,[(1,.ref 1 0 0),(3,.arr 6 0 u.length),(5,iv i)],[(1,⟨false,taS_,6,[.agg [iv p1,iv p2,iv p3,iv p4,.seq 1 (ds.map v_),.seq 2 (rs.map rowE)]]⟩),(2,⟨true,tu_,1,[]⟩),(6,⟨true,tu_,1,u.map byV⟩)]⟩∧
   u++(rs.drop i).flatMap rowB=m++(y6++rs.flatMap rowB)) rs.length ⟨0,m++y6,by simp,by simp only[List.map_append,List.length_append,l6];rfl,by rw[List.drop_zero,List.append_assoc]⟩ ?_
  rintro I hI n st ⟨i,u,hi,rfl,hu⟩
  have hul:u.length+((rs.drop i).flatMap rowB).length=m.length+(4+(rs.flatMap rowB).length):=by rw[←List.length_append,hu,List.length_append,List.length_append,l6]
  simp -implicitDefEqProofs only[go_sem,List.length_map]
  refine⟨fun hlt=>?_,fun hge=>?_⟩
  ·have hlt':i<rs.length:=by omega
   obtain⟨s,hs,hsm⟩:=as10 hlt'
   have hw:=ws_ hlt' (by omega)
   rw[d10 hs,List.flatMap_cons] at hu hul
   rw[List.length_append] at hul
   have hk:=rrp_ (G:=G) s (hor s hsm) (by simp only[maxB];omega)
   generalize rowB s=z at*
   have hnx:=hI (n - 1) _ ⟨i+1,u++z,by omega,rfl,by rw[←hu];simp only[List.append_assoc]⟩
   simp only[List.map_append,List.length_append] at hnx
   clear hI hu
   simp only[b_,rowE] at hk
   have hb1:u.length+z.length≤140737488355328:=by omega
   repeat' (first|simp -implicitDefEqProofs only[go_sem,am_ hs,rowE,hw,List.length_map,List.length_append,hb1,Nat.mul_one]|refine ag_ (fun hb=>?_) (fun hb=>?_)|refine⟨fun hb=>?_,fun hb=>?_⟩|refine ac10 hk rfl rfl ?_|refine al_ hk rfl rfl ?_|(refine And.intro (a:=l13 ..) ?_ ?_)|fail)
   exact aa_ (n - 1) (by omega) hnx
  ·rw[List.drop_eq_nil_of_le (by omega),List.flatMap_nil,List.append_nil] at hu
   rw[←hu] at h
   repeat' (first|simp -implicitDefEqProofs only[go_sem]|refine ag_ (fun hb=>?_) (fun hb=>?_)|refine⟨fun hb=>?_,fun hb=>?_⟩|fail)
   exact h _ ⟨_,_,rfl,vb_ (ty:=tu_) (out:=u) rfl rfl,.refl _⟩
end Go.Proofs.YtkejmcgngblfnaaGreatDoor.Ab
