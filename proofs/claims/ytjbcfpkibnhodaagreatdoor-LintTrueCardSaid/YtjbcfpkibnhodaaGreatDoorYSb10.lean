/-
  binding.Same; proctorref05.Under, Fits. The order of bindings: total, of values that may be. The order of configurations: total, of values that may be; their sets, two ways. The law EvalFree. step: what a hit makes of a configuration may be. Where a guard begins, and guards without variables. The law SubsetSteps. No claim is proved here.
-/
import Derived.Test.YtjbcfpkibnhodaaGreatDoorYRf5
set_option linter.unusedSimpArgs false
set_option maxHeartbeats 4000000
set_option maxRecDepth 100000
namespace Go.Proofs.YtjbcfpkibnhodaaGreatDoor.Ab
open Go Go.RowKit
variable {G:Nat→Option AV}
theorem rU11 (a b:List SlotT) (ha:a.length<9223372036854775807) (hb:b.length<9223372036854775807):P_ Tryz.prog G np28 [s11 a,s11 b] (.bool (u12 a b)):=by
 refine pp22 (Runs.of fun Φ h=>?_)
 unfold cp23
 have fin:∀β heap,β=u12 a b→Φ ⟨35,[(4,.bool β)],heap⟩:=fun β heap e=>h _ ⟨_,_,rfl,rfl,fitB e⟩
 clear h
 simp -implicitDefEqProofs only[go_sem,s11,List.length_map]
 refine al_ (fun n st=>∃i:Nat,i+n=a.length∧st=⟨35,[(0,.seq 5 (a.map s16)),(1,.seq 5 (b.map s16)),(5,iv i)],[]⟩∧∀j x,j<i→a[j]? =some x→u13 b x=true) a.length ⟨0,by simp,rfl,fun j x hj=>by omega⟩ ?_
 rintro I hI n st ⟨i,hi,rfl,hno⟩
 simp -implicitDefEqProofs only[go_sem,List.length_map]
 refine⟨fun hlt=>?_,fun hge=>?_⟩
 ·have hlt':i<a.length:=by omega
  obtain⟨x,hx,hxm⟩:=as10 hlt'
  have hw:=ws_ hlt' (by omega)
  have hc:=rGp_ (G:=G) b hb x.var
  have hnext:u13 b x=true→a12 I n ⟨35,[(0,.seq 5 (a.map s16)),(1,.seq 5 (b.map s16)),(5,iv (i+1:Nat))],[]⟩:=fun hv=>aa_ (n - 1) (by omega) (hI _ _ ⟨i+1,by omega,rfl,fun j y hj hy=>by
   by_cases e:j=i
   ·subst e;rw[hx] at hy;cases hy;exact hv
   ·exact hno j y (by omega) hy⟩)
  have hbad:u13 b x=false→false=u12 a b:=fun hv=>by
   symm
   unfold u12
   rw[List.all_eq_false]
   exact⟨x,hxm,by rw[hv];simp⟩
  unfold u13 at hnext hbad
  generalize u12 a b=U at*
  generalize getR b x.var=r at*
  clear hno hI hxm
  obtain⟨v1,⟨k1,n1,s1,t1⟩⟩:=x
  obtain⟨⟨k2,n2,s2,t2⟩,o2⟩:=r
  simp only[s11,vbt,valV] at hc hnext hbad
  cases o2
  ·have hb':=fin false
   rw[Bool.false_and] at hbad
   repeat' (first|simp -implicitDefEqProofs only[go_sem,am_ hx,s16,valV,hw]|refine ag_ (fun hb=>?_) (fun hb=>?_)|refine⟨fun hb=>?_,fun hb=>?_⟩|refine ac_ hc rfl rfl ?_|fail)
   exact fin _ _ (hbad rfl)
  ·have hxy:((⟨k2,n2,s2,t2⟩:Val)==⟨k1,n1,s1,t1⟩)=(k2==k1&&(n2==n1&&(s2==s1&&t2==t1))):=vb_ _ _ _ _ _ _ _ _
   cases hE:((⟨k2,n2,s2,t2⟩:Val)==⟨k1,n1,s1,t1⟩) with
   | true=>
    rw[hE] at hxy
    have:=hnext (by simpa using hE)
    repeat' (first|simp -implicitDefEqProofs only[go_sem,am_ hx,s16,valV,hw,aeqA,aeqs,l10,andO,Bool.and_true,←hxy,Bool.not_true]|refine ag_ (fun hb=>?_) (fun hb=>?_)|refine⟨fun hb=>?_,fun hb=>?_⟩|refine ac_ hc rfl rfl ?_|fail)
    exact this
   | false=>
    rw[hE] at hxy
    have:=hbad (by simpa using hE)
    repeat' (first|simp -implicitDefEqProofs only[go_sem,am_ hx,s16,valV,hw,aeqA,aeqs,l10,andO,Bool.and_true,←hxy,Bool.not_false]|refine ag_ (fun hb=>?_) (fun hb=>?_)|refine⟨fun hb=>?_,fun hb=>?_⟩|refine ac_ hc rfl rfl ?_|fail)
    exact fin _ _ this
 ·repeat' (first|simp -implicitDefEqProofs only[go_sem]|refine ag_ (fun hb=>?_) (fun hb=>?_)|refine⟨fun hb=>?_,fun hb=>?_⟩|fail)
  refine fin _ _ ?_
  symm
  unfold u12
  rw[List.all_eq_true]
  intro x hx
  obtain⟨j,hj⟩:=List.getElem?_of_mem hx
  exact hno j x (by have:=(List.getElem?_eq_some_iff.1 hj).1;omega) hj
theorem rF10 (a b:List SlotT) (ha:a.length<9223372036854775807) (hb:b.length<9223372036854775807):P_ Tryz.prog G np31 [s11 a,s11 b] (.bool (f29 a b)):=by
 refine pp30 (Runs.of fun Φ h=>?_)
 unfold cp30
 have fin:∀β heap,β=f29 a b→Φ ⟨34,[(4,.bool β)],heap⟩:=fun β heap e=>h _ ⟨_,_,rfl,rfl,fitB e⟩
 clear h
 simp -implicitDefEqProofs only[go_sem,s11,List.length_map]
 refine al_ (fun n st=>∃i:Nat,i+n=a.length∧st=⟨34,[(0,.seq 5 (a.map s16)),(1,.seq 5 (b.map s16)),(5,iv i)],[]⟩∧∀j x,j<i→a[j]? =some x→f22 b x=true) a.length ⟨0,by simp,rfl,fun j x hj=>by omega⟩ ?_
 rintro I hI n st ⟨i,hi,rfl,hno⟩
 simp -implicitDefEqProofs only[go_sem,List.length_map]
 refine⟨fun hlt=>?_,fun hge=>?_⟩
 ·have hlt':i<a.length:=by omega
  obtain⟨x,hx,hxm⟩:=as10 hlt'
  have hw:=ws_ hlt' (by omega)
  have hc:=rGp_ (G:=G) b hb x.var
  have hnext:f22 b x=true→a12 I n ⟨34,[(0,.seq 5 (a.map s16)),(1,.seq 5 (b.map s16)),(5,iv (i+1:Nat))],[]⟩:=fun hv=>aa_ (n - 1) (by omega) (hI _ _ ⟨i+1,by omega,rfl,fun j y hj hy=>by
   by_cases e:j=i
   ·subst e;rw[hx] at hy;cases hy;exact hv
   ·exact hno j y (by omega) hy⟩)
  have hbad:f22 b x=false→false=f29 a b:=fun hv=>by
   symm
   unfold f29
   rw[List.all_eq_false]
   exact⟨x,hxm,by rw[hv];simp⟩
  unfold f22 at hnext hbad
  generalize f29 a b=U at*
  generalize getR b x.var=r at*
  clear hno hI hxm
  obtain⟨v1,⟨k1,n1,s1,t1⟩⟩:=x
  obtain⟨⟨k2,n2,s2,t2⟩,o2⟩:=r
  simp only[s11,vbt,valV] at hc hnext hbad
  cases o2
  ·have:=hnext (by simp)
   repeat' (first|simp -implicitDefEqProofs only[go_sem,am_ hx,s16,valV,hw]|refine ag_ (fun hb=>?_) (fun hb=>?_)|refine⟨fun hb=>?_,fun hb=>?_⟩|refine ac_ hc rfl rfl ?_|fail)
   exact this
  ·have hxy:((⟨k2,n2,s2,t2⟩:Val)==⟨k1,n1,s1,t1⟩)=(k2==k1&&(n2==n1&&(s2==s1&&t2==t1))):=vb_ _ _ _ _ _ _ _ _
   cases hE:((⟨k2,n2,s2,t2⟩:Val)==⟨k1,n1,s1,t1⟩) with
   | true=>
    rw[hE] at hxy
    have:=hnext (by simpa using hE)
    repeat' (first|simp -implicitDefEqProofs only[go_sem,am_ hx,s16,valV,hw,aeqA,aeqs,l10,andO,Bool.and_true,←hxy,Bool.not_true]|refine ag_ (fun hb=>?_) (fun hb=>?_)|refine⟨fun hb=>?_,fun hb=>?_⟩|refine ac_ hc rfl rfl ?_|fail)
    exact this
   | false=>
    rw[hE] at hxy
    have:=hbad (by simpa using hE)
    repeat' (first|simp -implicitDefEqProofs only[go_sem,am_ hx,s16,valV,hw,aeqA,aeqs,l10,andO,Bool.and_true,←hxy,Bool.not_false]|refine ag_ (fun hb=>?_) (fun hb=>?_)|refine⟨fun hb=>?_,fun hb=>?_⟩|refine ac_ hc rfl rfl ?_|fail)
    exact fin _ _ this
 ·repeat' (first|simp -implicitDefEqProofs only[go_sem]|refine ag_ (fun hb=>?_) (fun hb=>?_)|refine⟨fun hb=>?_,fun hb=>?_⟩|fail)
  refine fin _ _ ?_
  symm
  unfold f29
  rw[List.all_eq_true]
  intro x hx
  obtain⟨j,hj⟩:=List.getElem?_of_mem hx
  exact hno j x (by have:=(List.getElem?_eq_some_iff.1 hj).1;omega) hj
end Go.Proofs.YtjbcfpkibnhodaaGreatDoor.Ab
namespace Go.Proofs.YtjbcfpkibnhodaaGreatDoor.Ab
open Go
theorem bi_:∀(s:Str),Op.bytesLess s s=false
 | []=>by simp [Op.bytesLess]
 | c::s=>by rw[bs14];exact bi_ s
theorem bc10 (x y:UInt8) (s t:Str):Op.bytesLess (x::s) (y::t)=true↔x<y∨(x=y∧Op.bytesLess s t=true):=by
 by_cases h:x=y
 ·subst h
  rw[bs14]
  have:¬x<x:=by
   rw[UInt8.lt_iff_toNat_lt];omega
  simp [this]
 ·rw[bn_ h]
  simp [h]
theorem bt_:∀{s t u:Str},Op.bytesLess s t=true→Op.bytesLess t u=true→Op.bytesLess s u=true
 | [],[],_,h,_ =>by simp [Op.bytesLess] at h
 | [],_ ::_,[],_,h=>by simp [Op.bytesLess] at h
 | [],_ ::_,_ ::_,_,_ =>by simp [Op.bytesLess]
 | _ ::_,[],_,h,_ =>by simp [Op.bytesLess] at h
 | _ ::_,_ ::_,[],_,h=>by simp [Op.bytesLess] at h
 | x::s,y::t,z::u,h1,h2=>by
  rw[bc10] at h1 h2 ⊢
  simp only[UInt8.lt_iff_toNat_lt] at*
  rcases h1 with h1 | ⟨rfl,h1⟩ <;> rcases h2 with h2 | ⟨rfl,h2⟩
  ·exact .inl (by omega)
  ·exact .inl h1
  ·exact .inl h2
  ·exact .inr ⟨rfl,bt_ h1 h2⟩
theorem bt10:∀{s t:Str},s≠t→Op.bytesLess s t=true∨Op.bytesLess t s=true
 | [],[],h=>absurd rfl h
 | [],_ ::_,_ =>.inl (by simp [Op.bytesLess])
 | _ ::_,[],_ =>.inr (by simp [Op.bytesLess])
 | x::s,y::t,h=>by
  rw[bc10,bc10]
  simp only[UInt8.lt_iff_toNat_lt]
  by_cases e:x=y
  ·subst e
   rcases bt10 (s:=s) (t:=t) (fun e=>h (by rw[e])) with h | h
   ·exact .inl (.inr ⟨rfl,h⟩)
   ·exact .inr (.inr ⟨rfl,h⟩)
  ·have:x.toNat≠y.toNat:=fun h=>e (UInt8.toNat_inj.1 h)
   rcases Nat.lt_or_gt_of_ne this with h | h
   ·exact .inl (.inl h)
   ·exact .inr (.inl h)
theorem li10 (a:Val):l14 a a=false:=by
 unfold l14
 simp only[not_true_eq_false,if_false]
 split
 ·simp
 ·split
  ·exact bi_ _
  ·cases a.bool <;> rfl
theorem lt11 {a b c:Val} (h1:l14 a b=true) (h2:l14 b c=true):l14 a c=true:=by
 unfold l14 at*
 by_cases e1:a.kind=b.kind
 ·by_cases e2:b.kind=c.kind
  ·rw[if_neg (by simpa using e1)] at h1
   rw[if_neg (by simpa using e2)] at h2
   rw[if_neg (by simp [e1,e2])]
   rw[e1] at h1 ⊢
   split at h1
   ·rename_i hk
    rw[if_pos hk] at h2 ⊢
    simp only[decide_eq_true_eq] at*
    omega
   ·rename_i hk
    rw[if_neg hk] at h2 ⊢
    split at h1
    ·rename_i hk2
     rw[if_pos hk2] at h2 ⊢
     exact bt_ h1 h2
    ·rename_i hk2
     rw[if_neg hk2] at h2 ⊢
     simp only[Bool.and_eq_true,Bool.not_eq_true'] at*
     rw[h1.2] at h2
     cases h2.1
  ·rw[if_pos e2] at h2
   rw[if_pos (by rw[e1];exact e2),e1]
   exact h2
 ·rw[if_pos e1] at h1
  simp only[decide_eq_true_eq] at h1
  by_cases e2:b.kind=c.kind
  ·rw[if_pos (by rw[←e2];exact e1),←e2]
   simpa using h1
  ·rw[if_pos e2] at h2
   simp only[decide_eq_true_eq] at h2
   rw[if_pos (by omega)]
   simp only[decide_eq_true_eq]
   omega
theorem lt12 {a b:Val} (ha:a.ok=true) (hb:b.ok=true) (h:a≠b):l14 a b=true∨l14 b a=true:=by
 obtain⟨k,n,s,t⟩:=a
 obtain⟨k',n',s',t'⟩:=b
 unfold l14
 simp only
 by_cases e:k=k'
 ·subst e
  simp only[not_true_eq_false,if_false]
  unfold Val.ok at ha hb
  simp only at ha hb
  by_cases k1:k=1
  ·rw[if_pos k1] at ha hb ⊢
   rw[if_pos k1]
   simp only[Bool.and_eq_true,beq_iff_eq,Bool.not_eq_true'] at ha hb
   have:n≠n':=fun e=>h (by rw[e,ha.1,ha.2,hb.1,hb.2])
   simp only[decide_eq_true_eq]
   omega
  ·rw[if_neg k1] at ha hb ⊢
   rw[if_neg k1]
   by_cases k2:k=2
   ·rw[if_pos k2] at ha hb ⊢
    rw[if_pos k2]
    simp only[Bool.and_eq_true,beq_iff_eq,Bool.not_eq_true'] at ha hb
    exact bt10 fun e=>h (by rw[e,ha.1,ha.2.1,hb.1,hb.2.1])
   ·rw[if_neg k2] at ha hb ⊢
    rw[if_neg k2]
    simp only[Bool.and_eq_true,beq_iff_eq,decide_eq_true_eq] at ha hb
    have:t≠t':=fun e=>h (by rw[e,ha.2.1,ha.2.2,hb.2.1,hb.2.2])
    cases t <;> cases t' <;> simp_all
 ·rw[if_pos e,if_pos (fun e'=>e e'.symm)]
  simp only[decide_eq_true_eq]
  omega
end Go.Proofs.YtjbcfpkibnhodaaGreatDoor.Ab
namespace Go.Proofs.YtjbcfpkibnhodaaGreatDoor.Ab
open Go
theorem lc_ (x y:Val) (l k:List Val):l_ (x::l) (y::k)=true↔l14 x y=true∨(x=y∧l_ l k=true):=by
 rw[l_]
 by_cases e:x=y
 ·subst e
  rw[if_neg (by simp),li10]
  simp
 ·rw[if_pos e]
  simp [e]
theorem li_:∀(l:List Val),l_ l l=false
 | []=>rfl
 | x::l=>by
  cases h:l_ (x::l) (x::l) with
  | false=>rfl
  | true=>
   rw[lc_,li10,li_ l] at h
   simp at h
theorem lt_:∀{a b c:List Val},l_ a b=true→l_ b c=true→l_ a c=true
 | [],[],_,h,_ =>by simp [l_] at h
 | [],_ ::_,[],_,h=>by simp [l_] at h
 | [],_ ::_,_ ::_,_,_ =>by simp [l_]
 | _ ::_,[],_,h,_ =>by simp [l_] at h
 | _ ::_,_ ::_,[],_,h=>by simp [l_] at h
 | x::a,y::b,z::c,h1,h2=>by
  rw[lc_] at h1 h2 ⊢
  rcases h1 with h1 | ⟨rfl,h1⟩ <;> rcases h2 with h2 | ⟨rfl,h2⟩
  ·exact .inl (lt11 h1 h2)
  ·exact .inl h1
  ·exact .inl h2
  ·exact .inr ⟨rfl,lt_ h1 h2⟩
def okVs (l:List Val):Prop:=∀v∈l,v.ok=true
theorem lt10:∀{a b:List Val},okVs a→okVs b→a≠b→l_ a b=true∨l_ b a=true
 | [],[],_,_,h=>absurd rfl h
 | [],_ ::_,_,_,_ =>.inl rfl
 | _ ::_,[],_,_,_ =>.inr rfl
 | x::a,y::b,ha,hb,h=>by
  rw[lc_,lc_]
  by_cases e:x=y
  ·subst e
   rcases lt10 (a:=a) (b:=b) (fun s hs=>ha s (by simp [hs])) (fun s hs=>hb s (by simp [hs])) (fun e=>h (by rw[e])) with h | h
   ·exact .inl (.inr ⟨rfl,h⟩)
   ·exact .inr (.inr ⟨rfl,h⟩)
  ·rcases lt12 (ha x (by simp)) (hb y (by simp)) e with h | h
   ·exact .inl (.inl h)
   ·exact .inr (.inl h)
def o19 (c:CfgT):Prop:=okVs c.vals
theorem c36:TO c13 o19:=by
 refine⟨fun a=>?_,fun {a b c} h1 h2=>?_,fun {a b} ha hb h=>?_⟩
 ·unfold c13
  rw[if_neg (by simp)]
  exact li_ _
 ·unfold c13 at*
  by_cases e1:a.state=b.state
  ·rw[if_neg (by simpa using e1)] at h1
   by_cases e2:b.state=c.state
   ·rw[if_neg (by simpa using e2)] at h2
    rw[if_neg (by simp [e1,e2])]
    exact lt_ h1 h2
   ·rw[if_pos e2] at h2
    rw[if_pos (by rw[e1];exact e2),e1]
    exact h2
  ·rw[if_pos e1] at h1
   simp only[decide_eq_true_eq] at h1
   by_cases e2:b.state=c.state
   ·rw[if_pos (by rw[←e2];exact e1),←e2]
    simpa using h1
   ·rw[if_pos e2] at h2
    simp only[decide_eq_true_eq] at h2
    rw[if_pos (by omega)]
    simp only[decide_eq_true_eq]
    omega
 ·unfold c13
  by_cases e:a.state=b.state
  ·rw[if_neg (by simpa using e),if_neg (by simpa using e.symm)]
   refine lt10 ha hb fun e2=>h ?_
   obtain⟨x,l⟩:=a
   obtain⟨y,k⟩:=b
   simp only at e e2
   rw[e,e2]
  ·rw[if_pos e,if_pos (fun e'=>e e'.symm)]
   simp only[decide_eq_true_eq]
   omega
end Go.Proofs.YtjbcfpkibnhodaaGreatDoor.Ab
namespace Go.Proofs.YtjbcfpkibnhodaaGreatDoor.Ab
open Go Go.RowKit
variable {G:Nat→Option AV}
def f12 (out:List Val) (s:SlotT):List Val:=if 0≤s.var∧s.var<out.length then out.set s.var.toNat s.value else out
def f20 (l:List SlotT) (out:List Val):List Val:=l.foldl f12 out
theorem fe11 {l:List SlotT} {i:Nat} {out:List Val} (h:l.length≤i):f20 (l.drop i) out=out:=by rw[List.drop_of_length_le h];rfl
theorem fg_ {l:List SlotT} {i:Nat} {out:List Val} {s:SlotT} (h:l[i]? =some s):f20 (l.drop (i+1)) (f12 out s)=f20 (l.drop i) out:=by rw[da10 h];rfl
theorem fi_ {out:List Val} {s:SlotT} {f:Nat} (h:s.var=f) (hf:f<out.length):f12 out s=out.set f s.value:=by
 unfold f12
 rw[h,if_pos (by omega),Int.toNat_natCast]
theorem vr13 {H:List (Nat×Box)} {i n:Nat} {ty:Nat} {out:List Val} (hH:hget H i=some ⟨true,ty,4,out.map valV⟩) (hn:out.length=n):view H (.arr i 0 n)=some (v_ out):=by
 simp only[view,hH,List.drop_zero,List.length_map,hn]
 simp [v_,←hn]
 exact List.take_of_length_le (by simp)
end Go.Proofs.YtjbcfpkibnhodaaGreatDoor.Ab
namespace Go.Proofs.YtjbcfpkibnhodaaGreatDoor.Ab
open Go
structure HitT where
 symbol:Int
 bind:List SlotT
 frees:List SlotT
deriving DecidableEq
def hitV (h:HitT):AV:=.agg [iv h.symbol,s11 h.bind,s11 h.frees]
def h14 (l:List HitT):AV:=.seq 3 (l.map hitV)
theorem fs19 {out:List Val} {l:List FreeT} {j:Nat} {f:FreeT} {v:Val} (h:f15 out l=true) (hf:l[j]? =some f) (hv:v.ok=true) (hk:v.kind=f.init.kind):f15 (out.set j v) l=true:=by
 obtain⟨h1,h2⟩:=fa_ h
 refine ft_ (by simpa using h1) fun i x g hx hg=>?_
 rw[List.getElem?_set] at hx
 unfold f18
 split at hx
 ·rename_i e
  subst e
  split at hx
  ·cases hx
   rw[hf] at hg;cases hg
   simp [hv,hk]
  ·cases hx
 ·have:=h2 i x g hx hg
  simp [this.1,this.2]
theorem is11 {out:List Val} {j:Nat} {v:Val} (h:∀x∈out,i64 x.int) (hv:i64 v.int):∀x∈out.set j v,i64 x.int:=fun x hx=>by
 rcases List.mem_or_eq_of_mem_set hx with h1 | h1
 ·exact h x h1
 ·rw[h1];exact hv
def F_ (q:QeaT) (s:SlotT):Prop:=∃(j:Nat) (f:FreeT),s.var=j∧q.frees[j]? =some f∧s.value.ok=true∧s.value.kind=f.init.kind
theorem fo_ {q:QeaT}:∀(l:List SlotT) (out:List Val),f15 out q.frees=true→(∀x∈out,i64 x.int)→(∀s∈l,F_ q s∧i64 s.value.int)→f15 (f20 l out) q.frees=true∧∀x∈f20 l out,i64 x.int
 | [],out,h1,h2,_ =>⟨h1,h2⟩
 | s::l,out,h1,h2,h3=>by
  obtain⟨⟨j,f,e,hf,hv,hk⟩,h64⟩:=h3 s (by simp)
  have hj:j<out.length:=by rw[(fa_ h1).1];exact (List.getElem?_eq_some_iff.1 hf).1
  have hst:f12 out s=out.set j s.value:=fi_ e hj
  show f15 (f20 l (f12 out s)) q.frees=true∧∀x∈f20 l (f12 out s),i64 x.int
  rw[hst]
  exact fo_ l _ (fs19 h1 hf hv hk) (is11 h2 h64) fun s hs=>h3 s (by simp [hs])
structure HitT.Ok (q:QeaT) (h:HitT):Prop where
 bl:h.bind.length≤1000000
 fl:h.frees.length≤1000000
 bok:∀s∈h.bind,VOk s.value
 fok:∀s∈h.frees,F_ q s∧i64 s.value.int
structure CfgT.Ok (q:QeaT) (c:CfgT):Prop where
 right:cfgR q c=true
 n64:∀v∈c.vals,i64 v.int
theorem CfgT.Ok.st {q:QeaT} {c:CfgT} (h:c.Ok q):0≤c.state∧c.state<q.states.length∧f15 c.vals q.frees=true:=by
 have:=h.right
 unfold cfgR at this
 simp only[Bool.and_eq_true,decide_eq_true_eq] at this
 exact⟨this.1,this.2.1,this.2.2⟩
theorem CfgT.Ok.vok {q:QeaT} {c:CfgT} (h:c.Ok q):o19 c:=fun v hv=>by
 obtain⟨j,hj⟩:=List.getElem?_of_mem hv
 obtain⟨a1,a2⟩:=fa_ h.st.2.2
 obtain⟨f,hf,_⟩:=as10 (l:=q.frees) (i:=j) (by have:=(List.getElem?_eq_some_iff.1 hj).1;omega)
 exact (a2 j v f hj hf).1
theorem fv_ {vals:List Val} {l:List FreeT} (h:f15 vals l=true):∀v∈vals,v.ok=true:=fun v hv=>by
 obtain⟨j,hj⟩:=List.getElem?_of_mem hv
 obtain⟨a1,a2⟩:=fa_ h
 obtain⟨f,hf,_⟩:=as10 (l:=l) (i:=j) (by have:=(List.getElem?_eq_some_iff.1 hj).1;omega)
 exact (a2 j v f hj hf).1
def SetK (q:QeaT) (s:SetT):Prop:=∃(e f:Nat) (x:ExT) (fr:FreeT),s.expr=e∧s.free=f∧(e13 q)[e]? =some x∧¬x.kind=0∧q.frees[f]? =some fr∧x.kind=fr.init.kind
structure TransK (q:QeaT) (t:TransT):Prop where
 from0:0≤t.from_
 fromL:t.from_<q.states.length
 to0:0≤t.to_
 toL:t.to_<q.states.length
 sym0:0≤t.symbol
 symL:t.symbol<q.symbols.length
 guard:0≤t.guard→K_ q t.guard.toNat
 sets:∀s∈t.sets,SetK q s
structure QeaT.Good (q:QeaT):Prop where
 tk:∀t∈q.trans,TransK q t
 n64:∀x∈q.nodes,i64 x.value.int
 fl:q.frees.length≤1000
 sl:q.states.length≤1000
theorem eh_ {q:QeaT} {c:CfgT} {h:HitT} (hq:q.Good) (hc:c.Ok q) (hh:h.Ok q):f15 (f20 h.frees c.vals) q.frees=true∧Env q h.bind (f20 h.frees c.vals):=by
 obtain⟨h1,h2⟩:=fo_ h.frees c.vals hc.st.2.2 hc.n64 hh.fok
 have hl:=(fa_ h1).1
 exact⟨h1,⟨hh.bl,hh.bok,hl,fun v hv=>⟨fv_ h1 v hv,h2 v hv⟩,by have:=hq.fl;omega⟩⟩
theorem t15 {q:QeaT} (h:r10 q=true) {t:TransT} (ht:t∈q.trans):TransK q t:=by
 have hg:=(to12 h ht).1
 unfold r10 t13 at h
 simp only[Bool.and_eq_true] at h
 obtain⟨a,j,hs⟩:=aa13 h.2.1.1 t ht
 have hs:(t12 q t a).2=true:=hs
 have rest:∀a1,(r14 q t a a1).2=true→∀s∈t.sets,SetK q s:=fun a1 hr s hsm=>by
  unfold r14 at hr
  dsimp only at hr
  split at hr
  ·rename_i hall
   obtain⟨a2,k,hss⟩:=aa13 hall s hsm
   unfold s13 at hss
   split at hss
   ·cases hss
   ·rename_i f hf
    obtain⟨m,hm,hfm⟩:=at?_some hf
    split at hss
    ·cases hss
    ·split at hss
     ·rename_i hw
      obtain⟨e,x,he,hx,hk,hk0⟩:=wk10 hw
      exact⟨e,m,x,f,he,hm,hx,hk0,hfm,hk⟩
     ·cases hss
  ·cases hr
 unfold t12 at hs
 split at hs
 ·cases hs
 ·rename_i hin
  simp only[Bool.and_eq_false_iff,not_or,Bool.not_eq_false] at hin
  unfold inR at hin
  simp only[Bool.and_eq_true,decide_eq_true_eq] at hin
  obtain⟨⟨a1,a2⟩,⟨b1,b2⟩,c1,c2⟩:=hin
  refine⟨a1,a2,b1,b2,c1,c2,hg,?_⟩
  split at hs
  ·exact rest _ hs
  ·split at hs
   ·exact rest _ hs
   ·cases hs
def e19 (e:Int):Prop:=e=3∨e=6∨e=7∨e=8∨e=9
theorem so12 {q:QeaT} {b:List SlotT} {vals:List Val} (hq:q.Good) (hf:f15 vals q.frees=true) (hE:Env q b vals):∀(l:List SetT),(∀s∈l,SetK q s)→∀out,f15 out q.frees=true→(∀v∈out,i64 v.int)→
  ((s21 q b vals l out).2=0∧f15 (s21 q b vals l out).1 q.frees=true∧∀v∈(s21 q b vals l out).1,i64 v.int)∨((s21 q b vals l out).1=[]∧e19 (s21 q b vals l out).2)
 | [],_,out,h1,h2=>.inl ⟨rfl,h1,h2⟩
 | s::l,hl,out,h1,h2=>by
  obtain⟨e,f,x,fr,he,hfr,hx,hk0,hfq,hk⟩:=hl s (by simp)
  have hok:=ev_ok (so10 q hq.n64) hE e ⟨x,hx,hk0⟩
  have hkd:=ek11 (b:=b) hf e x hx hk0
  rw[s21,he,hfr,Int.toNat_natCast,Int.toNat_natCast]
  rcases hok with ⟨h0,hv⟩ | ⟨_,h0⟩
  ·rw[if_neg (by simpa using h0)]
   exact so12 hq hf hE l (fun s hs=>hl s (by simp [hs])) _ (fs19 h1 hfq hv.1 (by rw[hkd h0,hk])) (is11 h2 hv.2)
  ·rw[if_pos (by omega)]
   exact .inr ⟨rfl,h0⟩
def f19 (q:QeaT) (c:CfgT) (t:TransT) (h:HitT):CfgT×Bool×Int:=
 if ¬(g10 q h.bind (f20 h.frees c.vals) t).2=0∨(g10 q h.bind (f20 h.frees c.vals) t).1=false then (⟨0,[]⟩,false,(g10 q h.bind (f20 h.frees c.vals) t).2)
 else if (s21 q h.bind (f20 h.frees c.vals) t.sets (f20 h.frees c.vals)).2=0 then (⟨t.to_,(s21 q h.bind (f20 h.frees c.vals) t.sets (f20 h.frees c.vals)).1⟩,true,0)
 else (⟨0,[]⟩,false,(s21 q h.bind (f20 h.frees c.vals) t.sets (f20 h.frees c.vals)).2)
theorem go_ {q:QeaT} {b:List SlotT} {vals:List Val} {t:TransT} (hq:q.Good) (hE:Env q b vals) (ht:TransK q t):(g10 q b vals t).2=0∨e19 (g10 q b vals t).2:=by
 unfold g10
 split
 ·exact .inl rfl
 ·rcases ev_ok (so10 q hq.n64) hE t.guard.toNat (ht.guard (by omega)) with ⟨h0,_⟩ | ⟨_,h0⟩
  ·exact .inl h0
  ·exact .inr h0
theorem fo10 {q:QeaT} {c:CfgT} {t:TransT} {h:HitT} (hq:q.Good) (ht:t∈q.trans) (hc:c.Ok q) (hh:h.Ok q):
  ((f19 q c t h).2.2=0∨e19 (f19 q c t h).2.2)∧((f19 q c t h).2.1=true→(f19 q c t h).2.2=0∧(f19 q c t h).1.Ok q):=by
 obtain⟨hf,hE⟩:=eh_ hq hc hh
 have tk:=hq.tk t ht
 have hg:=go_ hq hE tk
 have hs:=so12 hq hf hE t.sets tk.sets (f20 h.frees c.vals) hf (fo_ h.frees c.vals hc.st.2.2 hc.n64 hh.fok).2
 unfold f19
 split
 ·exact⟨hg,fun h=>by cases h⟩
 ·rcases hs with ⟨h0,h1,h2⟩ | ⟨_,h0⟩
  ·rw[if_pos h0]
   refine⟨.inl rfl,fun _ =>⟨rfl,⟨?_,h2⟩⟩⟩
   unfold cfgR
   simp only[h1,Bool.and_true,Bool.and_eq_true,decide_eq_true_eq]
   exact⟨tk.to0,tk.toL⟩
  ·rw[if_neg (by unfold e19 at h0;omega)]
   exact⟨.inr h0,fun h=>by cases h⟩
end Go.Proofs.YtjbcfpkibnhodaaGreatDoor.Ab
namespace Go.Proofs.YtjbcfpkibnhodaaGreatDoor.Ab
open Go
theorem ed_ {q:QeaT} {i:Nat} {e:ExT} {x:NodeT} (he:(e13 q)[i]? =some e) (hk:¬e.kind=0) (hx:q.nodes[i]? =some x):
  (1≤x.op∧x.op≤3∧e.from_=i)∨(4≤x.op∧x.op≤5∧∃(j:Nat) (c:ExT),i=j+1∧x.a=j∧(e13 q)[j]? =some c∧¬c.kind=0∧c.from_=e.from_)∨
   (6≤x.op∧x.op≤16∧∃(j k:Nat) (b c:ExT),i=j+1∧x.b=j∧x.a=k∧k<j∧(e13 q)[j]? =some b∧¬b.kind=0∧b.from_=(k:Int)+1∧(e13 q)[k]? =some c∧¬c.kind=0∧c.from_=e.from_):=by
 have hlen:=el_ q q.nodes.length (Nat.le_refl _)
 have hi:=(List.getElem?_eq_some_iff.1 hx).1
 have hel:=el_ q i (by omega)
 have hok:exOk (exL q i):=eo_ q i (by omega)
 unfold e13 at he
 rw[eg_ hx _ hi (Nat.le_refl _)] at he
 simp only[Option.some.injEq] at he
 subst he
 unfold e15 at hk ⊢
 cases hleaf:l12 q i x with
 | some e=>
  dsimp only
  left
  have h1:=(lo_ hleaf).2
  unfold l12 at hleaf
  by_cases o1:x.op=1
  ·exact⟨by omega,by omega,h1⟩
  rw[if_neg o1] at hleaf
  by_cases o2:x.op=2
  ·exact⟨by omega,by omega,h1⟩
  rw[if_neg o2] at hleaf
  by_cases o3:x.op=3
  ·exact⟨by omega,by omega,h1⟩
  rw[if_neg o3] at hleaf
  cases hleaf
 | none=>
  right
  rw[hleaf] at hk
  dsimp only at hk ⊢
  split at hk
  ·exact absurd rfl hk
  rename_i hop
  rw[if_neg hop]
  have hop4:4≤x.op∧x.op≤16:=by
   constructor
   ·by_cases h:4≤x.op
    ·exact h
    ·exact absurd (.inl (by omega)) hop
   ·by_cases h:x.op≤16
    ·exact h
    ·exact absurd (.inr (.inl (by omega))) hop
  cases hb:at? (exL q i) ((i:Int) - 1) with
  | none=>rw[hb] at hk;exact absurd rfl hk
  | some bb=>
   rw[hb] at hk
   dsimp only at hk ⊢
   obtain⟨j,hj,hbj⟩:=at?_some hb
   split at hk
   ·exact absurd rfl hk
   rename_i hbk
   rw[if_neg hbk]
   split at hk
   ·rename_i h5
    left
    rw[if_pos h5]
    split at hk
    ·rename_i hc
     rw[if_pos hc]
     exact⟨hop4.1,h5,j,bb,by omega,by omega,ep10 (by omega) hbj,hbk,rfl⟩
    ·exact absurd rfl hk
   ·rename_i h5
    right
    rw[if_neg h5]
    split at hk
    ·rename_i hc
     rw[if_pos hc]
     cases ha:at? (exL q i) x.a with
     | none=>rw[ha] at hk;exact absurd rfl hk
     | some aa=>
      rw[ha] at hk
      dsimp only at hk ⊢
      split at hk
      ·exact absurd rfl hk
      rename_i hak
      rw[if_neg hak]
      obtain⟨k,hxk,hak'⟩:=at?_some ha
      have hbo:=hok j bb hbj
      exact⟨by omega,hop4.2,j,k,bb,aa,by omega,by omega,hxk,by omega,ep10 (by omega) hbj,hbk,by omega,ep10 (by omega) hak',hak,rfl⟩
    ·exact absurd rfl hk
theorem ef_ {q:QeaT}:∀(i:Nat) (e:ExT),(e13 q)[i]? =some e→¬e.kind=0→0≤e.from_∧e.from_≤i:=by
 intro i e he hk
 have hok:exOk (e13 q):=eo_ q q.nodes.length (Nat.le_refl _)
 have:=hok i e he
 omega
def C10 (q:QeaT) (a:Int) (i:Nat):Prop:=∀(j:Nat) (x:NodeT),a≤j→j≤i→q.nodes[j]? =some x→¬x.op=2∧¬x.op=3
theorem ec11 {q:QeaT} {b b':List SlotT} {vals vals':List Val}:∀(i:Nat) (e:ExT),(e13 q)[i]? =some e→¬e.kind=0→C10 q e.from_ i→ev q b vals i=ev q b' vals' i:=by
 intro i
 induction i using Nat.strongRecOn with
 | _ i ih=>
  intro e he hk hc
  have hlen:=el_ q q.nodes.length (Nat.le_refl _)
  have hi:i<q.nodes.length:=by
   have:=(List.getElem?_eq_some_iff.1 he).1
   unfold e13 at this
   omega
  obtain⟨x,hx,_⟩:=as10 hi
  have hr:=ef_ i e he hk
  rcases ed_ he hk hx with ⟨h1,h2,h3⟩ | ⟨h1,h2,j,c,rfl,h4,h5,h6,h7⟩ | ⟨h1,h2,j,k,bb,c,rfl,h4,h5,h6,h7,h8,h9,h10,h11,h12⟩
  ·have hn:=hc i x (by omega) (Nat.le_refl _) hx
   rw[ea_ hx,ea_ hx]
   have:x.op=1:=by omega
   unfold evN
   rw[if_pos this,if_pos this]
  ·have hj:=ih j (by omega) c h5 h6 fun j' x' a1 a2=>hc j' x' (by omega) (by omega)
   rw[eu_ hx (by omega) h4 (by omega),eu_ hx (by omega) h4 (by omega),hj]
  ·have hj:=ih j (by omega) bb h7 h8 fun j' x' a1 a2=>hc j' x' (by have:=ef_ k c h10 h11;omega) (by omega)
   have hk':=ih k (by omega) c h10 h11 fun j' x' a1 a2=>hc j' x' (by omega) (by omega)
   rw[eb_ hx ⟨h1,h2⟩ h5 h4 (by omega) (by omega),eb_ hx ⟨h1,h2⟩ h5 h4 (by omega) (by omega),hj,hk']
end Go.Proofs.YtjbcfpkibnhodaaGreatDoor.Ab
namespace Go.Proofs.YtjbcfpkibnhodaaGreatDoor.Ab
open Go Go.RowKit
variable {G:Nat→Option AV}
theorem mo_ {q:QeaT} (hf:fewQ q=true) (h:r10 q=true):MaskQ q:=by
 have hst:=fs20 hf
 have hstart:0≤q.start∧q.start<q.states.length:=by
  unfold r10 topR at h
  simp only[Bool.and_eq_true,decide_eq_true_eq] at h
  exact⟨h.1.2.2.1,h.1.2.2.2.1⟩
 unfold fewQ f23 at hf
 simp only[Bool.and_eq_true,decide_eq_true_eq] at hf
 exact⟨hst,by omega,by omega,fun t ht=>⟨(t15 h ht).sym0,(t15 h ht).symL⟩,fun t ht=>⟨(t15 h ht).to0,(t15 h ht).toL⟩,hstart⟩
theorem zr_ {α:Type} {p:α→α→Bool} (h:∀x,p x x=true):∀l:List α,zipB p l l=true
 | []=>rfl
 | x::l=>by rw[zipB,h x,zr_ h l];rfl
end Go.Proofs.YtjbcfpkibnhodaaGreatDoor.Ab
