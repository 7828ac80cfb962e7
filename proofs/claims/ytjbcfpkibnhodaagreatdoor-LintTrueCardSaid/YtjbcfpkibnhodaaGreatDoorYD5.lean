/-
  N_, in plain words: bytes, signs, words. strings, schema, proctorref07: names and declarations. schema, proctorref07: declarations. No claim is proved here.
-/
import Derived.Test.YtjbcfpkibnhodaaGreatDoorYD2
set_option linter.unusedSimpArgs false
set_option maxHeartbeats 4000000
namespace Go.Proofs.YtjbcfpkibnhodaaGreatDoor.Ab
open Go
def nb (c:UInt8):Bool:=c.toNat==95||(decide (48≤c.toNat)&&decide (c.toNat≤57)||(decide (65≤c.toNat)&&decide (c.toNat≤90)||decide (97≤c.toNat)&&decide (c.toNat≤122)))
def d14 (c:UInt8):Bool:=decide (48≤c.toNat)&&decide (c.toNat≤57)
def s20 (s:Str):Bool:=match s with
 | []=>false
 | c::_ =>decide (s.length≤32)&&(!d14 c&&s.all nb)
def w11:List Str:=[[97,99,99,101,112,116],[97,108,115,111],[97,110,100],[98,111,111,108],[100,111],[101,118,101,110,116],[101,120,105,115,116,115],[102,97,108,115,101],[102,111,114,97,108,108],[102,114,101,101],[105,102],[105,110,116],[110,101,120,116],[110,111,116],[111,110],[111,114],[113,101,97],[115,107,105,112],[115,116,97,114,116],[115,116,114,105,110,103],[116,111],[116,114,117,101]]
def n13 (s:Str):Bool:=s20 s&&(!(w11.any fun x=>s==x)&& !(s==[95]))
def idxR (p:Nat→Bool) (s:Str):Nat→Nat→Int
 | 0,_ =>-1
 | n+1,pos=>if pos<s.length then (if p (adec s pos).1 then (pos:Int) else idxR p s n (pos+(adec s pos).2)) else -1
def oddR (c:Nat):Bool:=!(c==95)&&((decide (c<48)||decide (57<c))&&((decide (c<65)||decide (90<c))&&(decide (c<97)||decide (122<c))))
theorem ga10 (s:Str) (p:Nat) (hp:p<s.length):(⟨s.toArray⟩:ByteArray).get! p=s[p]:=by
 simp [ByteArray.get!,hp]
theorem al16 (s:Str) (p:Nat) (hp:p<s.length) (h:s[p].toNat<128):adec s p=(s[p].toNat,1):=by
 unfold adec Utf8.decode
 simp only[Nat.add_zero,ga10 s p hp,h,if_true]
theorem ah_ (s:Str) (p:Nat) (hp:p<s.length) (h:¬s[p].toNat<128):128≤(adec s p).1:=by
 unfold adec Utf8.decode
 simp only[Nat.add_zero,ga10 s p hp,h,if_false,Utf8.runeError]
 repeat' split
 all_goals first | omega | (simp only[ge_iff_le,Bool.and_eq_true,decide_eq_true_eq] at*;omega) | simp
theorem aw_ (s:Str) (p:Nat):1≤(adec s p).2:=by
 unfold adec Utf8.decode
 simp only
 repeat' split
 all_goals simp
theorem ob_ {c:UInt8} (h:c.toNat<128):oddR c.toNat= !nb c:=by
 rw[Bool.eq_iff_iff]
 simp only[oddR,nb,Bool.and_eq_true,Bool.or_eq_true,Bool.not_eq_true',decide_eq_true_eq,beq_eq_false_iff_ne,Bool.or_eq_false_iff,Bool.and_eq_false_imp,decide_eq_false_iff_not,ne_eq]
 omega
theorem oh_ {c:Nat} (h:128≤c):oddR c=true:=by
 simp only[oddR,Bool.and_eq_true,Bool.or_eq_true,Bool.not_eq_true',decide_eq_true_eq,beq_eq_false_iff_ne,ne_eq]
 omega
theorem nh_ {c:UInt8} (h:¬c.toNat<128):nb c=false:=by
 simp only[nb,Bool.or_eq_false_iff,Bool.and_eq_false_imp,decide_eq_true_eq,decide_eq_false_iff_not,beq_eq_false_iff_ne,ne_eq]
 omega
theorem io10 (s:Str):∀n pos,s.length≤pos+n→(idxR oddR s (n+1) pos<0↔(s.drop pos).all nb=true)
 | 0,pos,h=>by
  have:¬pos<s.length:=by omega
  simp [idxR,this,List.drop_of_length_le (show s.length≤pos by omega)]
 | n+1,pos,h=>by
  unfold idxR
  by_cases hp:pos<s.length
  ·rw[if_pos hp,List.drop_eq_getElem_cons hp,List.all_cons]
   by_cases hl:s[pos].toNat<128
   ·rw[al16 s pos hp hl]
    simp only[ob_ hl]
    cases hn:nb s[pos]
    ·simp
     try omega
    ·simp only[Bool.not_true,Bool.false_eq_true,if_false,Bool.true_and]
     exact io10 s n (pos+1) (by omega)
   ·rw[if_pos (oh_ (ah_ s pos hp hl)),nh_ hl]
    simp
    try omega
  ·rw[if_neg hp,List.drop_of_length_le (by omega)]
   simp
end Go.Proofs.YtjbcfpkibnhodaaGreatDoor.Ab
namespace Go.Proofs.YtjbcfpkibnhodaaGreatDoor.Ab
open Go
variable {G:Nat→Option AV}
theorem sip_ (f:Nat) (caps:List AV) (hf:b_ Tryz.prog f=true) (hcap:OkC caps) (p:Nat→Bool) (hp:∀r:Nat,P_ Tryz.prog G f (.int .i32 (r:Int)::caps) (.bool (p r))) (s:Str):
  P_ Tryz.prog G nsi_ [.str s,.fn f caps,.bool true] (iv (idxR p s (s.length+1) 0)):=by
 refine psi_ (Runs.of fun Φ h=>?_)
 unfold csi_
 simp -implicitDefEqProofs only[go_sem,hcap.purge]
 refine al_ (fun n st=>∃pos:Nat,s.length≤pos+n∧st=⟨21,[(1,.fn f caps),(2,.bool true),(10,.ref 10 0 0)],[(10,⟨true,0,0,[.str s,iv pos]⟩)]⟩∧idxR p s (s.length+1) 0=idxR p s (n+1) pos) s.length ⟨0,by omega,rfl,rfl⟩ ?_
 rintro I hI n st ⟨pos,hn,rfl,he⟩
 by_cases hlt:pos<s.length
 ·obtain⟨m,rfl⟩:∃m,n=m+1:=⟨n - 1,by omega⟩
  have hw:=aw_ s pos
  simp -implicitDefEqProofs only[go_sem,anxt,hlt,hcap.purge]
  refine⟨hf,ac_ (hp (adec s pos).1) (by simp [v10,flat,viewBs,viewB,viewK,hcap.viewBs]) rfl ?_⟩
  have hstep:idxR p s (m+1+1) pos=if p (adec s pos).1 then (pos:Int) else idxR p s (m+1) (pos+(adec s pos).2):=by rw[idxR,if_pos hlt]
  cases hpx:p (adec s pos).1
  ·rw[hpx] at hstep
   simp -implicitDefEqProofs only[go_sem,hcap.purge]
   exact aa_ m (by omega) (hI _ _ ⟨pos+(adec s pos).2,by omega,rfl,by rw[he,hstep];rfl⟩)
  ·rw[hpx] at hstep
   simp -implicitDefEqProofs only[go_sem,hcap.purge]
   exact h _ ⟨_,_,rfl,rfl,fitI (by rw[he,hstep];rfl)⟩
 ·simp -implicitDefEqProofs only[go_sem,anxt,hlt]
  exact h _ ⟨_,_,rfl,rfl,fitI (by rw[he,idxR,if_neg hlt])⟩
theorem sIp_ (f:Nat) (caps:List AV) (hf:b_ Tryz.prog f=true) (hcap:OkC caps) (p:Nat→Bool) (hp:∀r:Nat,P_ Tryz.prog G f (.int .i32 (r:Int)::caps) (.bool (p r))) (s:Str):
  P_ Tryz.prog G nsI_ [.str s,.fn f caps] (iv (idxR p s (s.length+1) 0)):=by
 refine psI_ (Runs.of fun Φ h=>?_)
 unfold csI_
 simp -implicitDefEqProofs only[go_sem]
 refine ac_ (sip_ f caps hf hcap p hp s) (by simp [v10,flat,viewBs,viewB,viewK,hcap.viewK]) rfl ?_
 simp -implicitDefEqProofs only[go_sem]
 exact h _ ⟨_,_,rfl,rfl,.refl _⟩
theorem sS1p_ (r:Nat):P_ Tryz.prog G nsS1_ [.int .i32 (r:Int)] (.bool (oddR r)):=by
 refine psS1_ (Runs.of fun Φ h=>?_)
 unfold csS1_
 repeat' (first|simp -implicitDefEqProofs only[go_sem]|refine ag_ (fun hb=>?_) (fun hb=>?_)|refine⟨fun hb=>?_,fun hb=>?_⟩|fail)
 all_goals
  refine h _ ⟨_,_,rfl,rfl,fitB ?_⟩
  clear h
  rw[Bool.eq_iff_iff]
  simp only[oddR,Bool.and_eq_true,Bool.or_eq_true,Bool.not_eq_true',decide_eq_true_eq,decide_eq_false_iff_not,beq_eq_false_iff_ne,ne_eq,bne_iff_ne,bne_eq_false_iff_eq,Bool.false_eq_true,Bool.true_eq_false,Bool.not_true,Bool.not_false,true_iff,false_iff,iff_true,iff_false] at*
  omega
theorem sSp_ (s:Str):P_ Tryz.prog G nsS_ [.str s] (.bool (s20 s)):=by
 have hsp:0<s.length→(decide (idxR oddR s (s.length+1) 0<0)=s.all nb):=fun _ =>by
  rw[Bool.eq_iff_iff,decide_eq_true_eq,io10 s s.length 0 (by omega)];simp
 refine psS_ (Runs.of fun Φ h=>?_)
 unfold csS_
 cases s with
 | nil=>
  simp -implicitDefEqProofs only[go_sem]
  exact h _ ⟨_,_,rfl,rfl,.refl _⟩
 | cons c r=>
  have e0:aidx (.str (c::r)) (.int .i64 0)=some (.int .u8 c.toNat):=rfl
  have hsp':=hsp (by simp)
  repeat' (first|simp -implicitDefEqProofs only[go_sem,e0,alen]|refine ag_ (fun hb=>?_) (fun hb=>?_)|refine⟨fun hb=>?_,fun hb=>?_⟩|refine ac_ (sIp_ nsS1_ [] (by kernel_rfl) on_ oddR (fun r=>sS1p_ r) (c::r)) rfl rfl ?_|fail)
  all_goals
   refine h _ ⟨_,_,rfl,rfl,fitB ?_⟩
   clear h
   have e1:s20 (c::r)=(decide ((c::r).length≤32)&&(!d14 c&&(c::r).all nb)):=rfl
   simp only[List.length_cons] at hsp'
   try rw[hsp']
   clear hsp hsp' e0
   rw[e1]
   clear e1
   generalize (c::r).all nb=A at*
   cases A <;> (rw[Bool.eq_iff_iff];simp [d14] at*;try omega)
end Go.Proofs.YtjbcfpkibnhodaaGreatDoor.Ab
namespace Go.Proofs.YtjbcfpkibnhodaaGreatDoor.Ab
open Go
variable {G:Nat→Option AV}
def f16 {α:Type} (f:Nat→α→Int):List α→Nat→Int×Int
 | [],_ =>(0,-1)
 | x::r,i=>if f i x=0 then f16 f r (i+1) else (f i x,i)
theorem fs16 {α:Type} {f:Nat→α→Int} {l:List α} {i:Nat} {x:α} (hx:l[i]? =some x):f16 f (l.drop i) i=if f i x=0 then f16 f (l.drop (i+1)) (i+1) else (f i x,i):=by
 obtain⟨hlt,rfl⟩:=List.getElem?_eq_some_iff.1 hx
 rw[List.drop_eq_getElem_cons hlt,f16]
theorem fe10 {α:Type} {f:Nat→α→Int} {l:List α} {i:Nat} (h:l.length≤i):f16 f (l.drop i) i=(0,-1):=by
 rw[List.drop_of_length_le h,f16]
theorem os14 (x:Str):OkC [.eptr (.str x) 0]:=⟨fun _ =>rfl,fun _ _ =>rfl,fun _ =>rfl,fun _ _ =>rfl,fun _ =>rfl,fun _ =>rfl⟩
def wg_ (G:Nat→Option AV):Prop:=G 5=some (.agg (w11.map AV.str))
theorem wl10:(w11.map AV.str).length=22:=rfl
theorem wa_:(w11.map AV.str).all c24=true:=rfl
theorem sWp_ (hG:wg_ G) (s:Str):P_ Tryz.prog G nsW_ [.str s] (.bool (s20 s&&w11.any fun x=>s==x)):=by
 unfold wg_ at hG
 refine psW_ (Runs.of fun Φ h=>?_)
 unfold csW_
 repeat' (first|simp -implicitDefEqProofs only[go_sem,hG,wl10,wa_]|refine ag_ (fun hb=>?_) (fun hb=>?_)|refine⟨fun hb=>?_,fun hb=>?_⟩|refine ac_ (sSp_ s) rfl rfl ?_|refine ac_ (sCssp_ w11 s (by decide)) rfl rfl ?_|fail)
 all_goals (refine h _ ⟨_,_,rfl,rfl,fe_ ?_⟩;clear h;first | rfl | simp_all)
theorem sNp_ (hG:wg_ G) (s:Str):P_ Tryz.prog G nsN_ [.str s] (.bool (n13 s)):=by
 refine psN_ (Runs.of fun Φ h=>?_)
 unfold csN_
 repeat' (first|simp -implicitDefEqProofs only[go_sem]|refine ag_ (fun hb=>?_) (fun hb=>?_)|refine⟨fun hb=>?_,fun hb=>?_⟩|refine ac_ (sSp_ s) rfl rfl ?_|refine ac_ (sWp_ hG s) rfl rfl ?_|fail)
 all_goals (refine h _ ⟨_,_,rfl,rfl,fe_ ?_⟩;clear h;first | rfl | (simp_all [n13];done) | (simp_all [n13];exact fun hn=>absurd rfl (hn _ ‹s∈w11›)))
theorem rWp_:P_ Tryz.prog G npW_ [] (.seq 1 (w11.map AV.str)):=by
 refine ppW_ (Runs.of fun Φ h=>?_)
 unfold cpW_
 simp -implicitDefEqProofs only[go_sem]
 exact h _ ⟨_,_,rfl,rfl,.refl _⟩
theorem rFp_ (l:List DeclT) (hl:l.length<9223372036854775807) (x:Str):P_ Tryz.prog G npF_ [d_ l,.str x] (iv (idxF (fun d=>d.name==x) l)):=by
 refine ppF_ (Runs.of fun Φ h=>?_)
 unfold cpF_
 simp -implicitDefEqProofs only[go_sem,d_,List.length_map]
 refine al_ (fun n st=>∃i:Nat,i+n=l.length∧st=⟨20,[(0,d_ l),(1,.str x),(5,iv i)],[]⟩∧∀j d,j<i→l[j]? =some d→(d.name==x)=false) l.length ⟨0,by simp,rfl,fun j x hj=>by omega⟩ ?_
 rintro I hI n st ⟨i,hi,rfl,hno⟩
 simp -implicitDefEqProofs only[go_sem,d_,List.length_map]
 refine⟨fun hlt=>?_,fun hge=>?_⟩
 ·have hlt':i<l.length:=by omega
  obtain⟨d,hd,hm⟩:=as10 hlt'
  have hw:=ws_ hlt' (by omega)
  simp -implicitDefEqProofs only[go_sem,am_ hd,d12,i11]
  refine⟨fun hb=>?_,fun hb=>?_⟩
  ·exact h _ ⟨_,_,rfl,rfl,fitI (ia10 hd (by simpa using hb) hno).symm⟩
  ·simp -implicitDefEqProofs only[go_sem,hw]
   exact aa_ (n - 1) (by omega) (hI _ _ ⟨i+1,by omega,rfl,fun j y hj hy=>by
    by_cases e:j=i
    ·subst e;rw[hd] at hy;cases hy;simpa using hb
    ·exact hno j y (by omega) hy⟩)
 ·have:i=l.length:=by omega
  subst this
  exact h _ ⟨_,_,rfl,rfl,fitI (in10 hno).symm⟩
def okAt (i:Nat) (c:UInt8):Bool:=nb c&& !(decide (i=0)&&d14 c)
theorem oa10 (c:UInt8) (r:Str):allI okAt (c::r)=(!d14 c&&(c::r).all nb):=by
 rw[Bool.eq_iff_iff,at10]
 simp only[okAt,Bool.and_eq_true,Bool.not_eq_true',Bool.and_eq_false_imp,decide_eq_true_eq,List.all_eq_true]
 constructor
 ·intro h
  refine⟨(h 0 c rfl).2 rfl,fun x hx=>?_⟩
  obtain⟨i,hi⟩:=List.getElem?_of_mem hx
  exact (h i x hi).1
 ·rintro⟨h0,h1⟩ i x hx
  refine⟨h1 x (List.mem_of_getElem? hx),fun e=>?_⟩
  subst e
  cases hx
  exact h0
theorem aa20 {s:Str} {i:Nat} {c:UInt8} (h:s[i]? =some c):aidx (.str s) (.int .i64 (i:Int))=some (.int .u8 c.toNat):=by
 have h0:¬(i:Int)<0:=by omega
 simp [aidx,h]
theorem rS13 (s:Str):P_ Tryz.prog G np26 [.str s] (.bool (s20 s)):=by
 refine pp20 (Runs.of fun Φ h=>?_)
 unfold cp21
 cases s with
 | nil=>
  repeat' (first|simp -implicitDefEqProofs only[go_sem]|refine ag_ (fun hb=>?_) (fun hb=>?_)|refine⟨fun hb=>?_,fun hb=>?_⟩|fail)
  all_goals first | exact h _ ⟨_,_,rfl,rfl,.refl _⟩ | (exfalso;simp at*;done)
 | cons c r=>
  have hs:s20 (c::r)=(decide ((c::r).length≤32)&&allI okAt (c::r)):=by rw[oa10];rfl
  generalize he:c::r=s at*
  have h1:1≤s.length:=by rw[←he];simp
  clear he
  repeat' (first|simp -implicitDefEqProofs only[go_sem]|refine ag_ (fun hb=>?_) (fun hb=>?_)|refine⟨fun hb=>?_,fun hb=>?_⟩|fail)
  all_goals try (exfalso;simp at*;omega)
  ·exact h _ ⟨_,_,rfl,rfl,fitB (by rw[hs];simp;omega)⟩
  ·refine al_ (fun n st=>∃i:Nat,i+n=s.length∧st=⟨55,[(0,.str s),(3,iv i)],[]⟩∧∀j c,j<i→s[j]? =some c→okAt j c=true) s.length ⟨0,by simp,rfl,fun j x hj=>by omega⟩ ?_
   rintro I hI n st ⟨i,hi,rfl,hno⟩
   simp -implicitDefEqProofs only[go_sem]
   refine⟨fun hlt=>?_,fun hge=>?_⟩
   ·have hlt':i<s.length:=by omega
    obtain⟨d,hd,hm⟩:=as10 hlt'
    have hw:=ws_ hlt' (by omega)
    have fin:okAt i d=true→a12 I n ⟨55,[(0,.str s),(3,iv (i+1:Nat))],[]⟩:=fun hv=>aa_ (n - 1) (by omega) (hI _ _ ⟨i+1,by omega,rfl,fun j y hj hy=>by
     by_cases e:j=i
     ·subst e;rw[hd] at hy;cases hy;exact hv
     ·exact hno j y (by omega) hy⟩)
    have bad:okAt i d=false→s20 s=false:=fun hv=>by rw[hs,af_ hd hv];simp
    repeat' (first|simp -implicitDefEqProofs only[go_sem,aa20 hd,hw]|refine ag_ (fun hb=>?_) (fun hb=>?_)|refine⟨fun hb=>?_,fun hb=>?_⟩|fail)
    all_goals first | refine fin ?_ | refine h _ ⟨_,_,rfl,rfl,fitB (bad ?_).symm⟩
    all_goals
     clear fin bad h hI hs hno hd hm hw
     rw[Bool.eq_iff_iff]
     simp only[okAt,nb,d14,Bool.and_eq_true,Bool.or_eq_true,Bool.not_eq_true',Bool.and_eq_false_imp,Bool.or_eq_false_iff,decide_eq_true_eq,decide_eq_false_iff_not,beq_iff_eq,beq_eq_false_iff_ne,Bool.not_true,Bool.not_false,ne_eq,Bool.not_eq_false',Bool.false_eq_true,Bool.true_eq_false,true_iff,false_iff,iff_true,iff_false] at*
     omega
   ·have:i=s.length:=by omega
    subst this
    exact h _ ⟨_,_,rfl,rfl,fitB (by rw[hs,at10.2 fun i x hx=>hno i x (List.getElem?_eq_some_iff.1 hx).1 hx];simp;omega)⟩
theorem rNp_ (x:Str):P_ Tryz.prog G npN_ [.str x] (.bool (n13 x)):=by
 refine pp29 (Runs.of fun Φ h=>?_)
 unfold cp29
 simp -implicitDefEqProofs only[go_sem]
 refine ac_ rWp_ rfl rfl ?_
 simp -implicitDefEqProofs only[go_sem,List.length_map]
 refine al_ (fun n st=>∃i:Nat,i+n=w11.length∧st=⟨24,[(0,.str x),(3,.seq 1 (w11.map AV.str)),(4,iv i)],[]⟩∧∀j y,j<i→w11[j]? =some y→(y==x)=false) w11.length ⟨0,by simp,rfl,fun j x hj=>by omega⟩ ?_
 rintro I hI n st ⟨i,hi,rfl,hno⟩
 simp -implicitDefEqProofs only[go_sem,List.length_map]
 refine⟨fun hlt=>?_,fun hge=>?_⟩
 ·have hlt':i<w11.length:=by omega
  obtain⟨d,hd,hm⟩:=as10 hlt'
  have hw:=ws_ hlt' (by decide)
  simp -implicitDefEqProofs only[go_sem,am_ hd]
  refine⟨fun hb=>?_,fun hb=>?_⟩
  ·refine h _ ⟨_,_,rfl,rfl,fitB ?_⟩
   have:(w11.any fun y=>x==y)=true:=List.any_eq_true.2 ⟨d,hm,by simp at hb;simp [hb]⟩
   simp [n13,this]
  ·simp -implicitDefEqProofs only[go_sem,hw]
   exact aa_ (n - 1) (by omega) (hI _ _ ⟨i+1,by omega,rfl,fun j y hj hy=>by
    by_cases e:j=i
    ·subst e;rw[hd] at hy;cases hy;simpa using hb
    ·exact hno j y (by omega) hy⟩)
 ·have:i=w11.length:=by omega
  subst this
  have hany:(w11.any fun y=>x==y)=false:=by
   rw[List.any_eq_false]
   intro y hy
   obtain⟨j,hj⟩:=List.getElem?_of_mem hy
   have:=hno j y (List.getElem?_eq_some_iff.1 hj).1 hj
   intro e
   rw[eq_of_beq e] at this
   simp at this
  repeat' (first|simp -implicitDefEqProofs only[go_sem]|refine ag_ (fun hb=>?_) (fun hb=>?_)|refine⟨fun hb=>?_,fun hb=>?_⟩|refine ac_ (rS13 x) rfl rfl ?_|fail)
  all_goals (refine h _ ⟨_,_,rfl,rfl,fe_ ?_⟩;clear h;first | rfl | simp_all [n13,hany])
def d11 (l:List DeclT) (i:Nat) (d:DeclT):Int:=
 if n13 d.name=false then 11 else if idxF (fun e=>e.name==d.name) l<i then 10 else if 8<(d.types.length:Int) then 14 else if (d.types.any fun k=>k_ k==[])=true then 8 else 0
def d10 (l:List DeclT):Int×Int:=if 32<(l.length:Int) then (14,32) else f16 (d11 l) l 0
theorem sF1p_ (d:DeclT) (x:Str):P_ Tryz.prog G nsF1_ [d12 d,.eptr (.str x) 0] (.bool (d.name==x)):=by
 refine psF1_ (Runs.of fun Φ h=>?_)
 unfold csF1_
 repeat' (first|simp -implicitDefEqProofs only[go_sem,d12,i11]|refine ag_ (fun hb=>?_) (fun hb=>?_)|refine⟨fun hb=>?_,fun hb=>?_⟩|fail)
 all_goals (refine h _ ⟨_,_,rfl,rfl,fe_ ?_⟩;clear h;first | rfl | simp_all)
theorem sF10 (l:List DeclT) (hl:l.length<9223372036854775807) (x:Str):P_ Tryz.prog G ns17 [d_ l,.str x] (.tup [iv (max (idxF (fun d=>d.name==x) l) 0),.bool (decide (0≤idxF (fun d=>d.name==x) l))]):=by
 refine psF_ (Runs.of fun Φ h=>?_)
 unfold csF_
 simp -implicitDefEqProofs only[go_sem,d_]
 refine ac_ (sIaDaDp_ nsF1_ [.eptr (.str x) 0] (by kernel_rfl) (os14 x) (fun d=>d.name==x) l (fun d _ =>sF1p_ d x) hl) rfl rfl ?_
 simp -implicitDefEqProofs only[go_sem]
 refine h _ ⟨_,_,rfl,rfl,fe_ ?_⟩
 congr 3
 rw[show (max (idxF (fun d=>d.name==x) l) 0)=if 0>idxF (fun d=>d.name==x) l then 0 else idxF (fun d=>d.name==x) l by split <;> omega]
theorem so1p_ (k:Int):P_ Tryz.prog G nso1_ [iv k] (.bool (k_ k==[])):=by
 refine pso1_ (Runs.of fun Φ h=>?_)
 unfold cso1_
 repeat' (first|simp -implicitDefEqProofs only[go_sem]|refine ag_ (fun hb=>?_) (fun hb=>?_)|refine⟨fun hb=>?_,fun hb=>?_⟩|refine ac_ (vNp_ k) rfl rfl ?_|fail)
 all_goals (refine h _ ⟨_,_,rfl,rfl,fe_ ?_⟩;clear h;first | rfl | simp_all)
theorem sop_ (hG:wg_ G) (l:List DeclT) (hl:l.length<9223372036854775807) (i:Nat) (d:DeclT) (hd:l[i]? =some d) (ht:d.types.length<9223372036854775807):P_ Tryz.prog G nso_ [d_ l,iv i] (iv (d11 l i d)):=by
 refine pso_ (Runs.of fun Φ h=>?_)
 unfold cso_
 have hf0:0≤idxF (fun e=>e.name==d.name) l:=by rw[←decide_eq_true_eq (p:=0≤idxF (fun e=>e.name==d.name) l),ia_,List.any_eq_true];exact⟨d,List.mem_of_getElem? hd,by simp⟩
 have hfm:max (idxF (fun e=>e.name==d.name) l) 0=idxF (fun e=>e.name==d.name) l:=by omega
 have hc:=(sC10 (G:=G) nso1_ [] (by kernel_rfl) on_ (fun k=>k_ k==[]) d.types (fun k _ =>so1p_ k) ht)
 repeat' (first|simp -implicitDefEqProofs only[go_sem,am_ hd,d12,i11,d_]|refine ag_ (fun hb=>?_) (fun hb=>?_)|refine⟨fun hb=>?_,fun hb=>?_⟩|refine ac_ (sF10 l hl d.name) rfl rfl ?_|refine ac_ (sNp_ hG d.name) rfl rfl ?_|refine ac_ hc rfl rfl ?_|fail)
 all_goals
  refine h _ ⟨_,_,rfl,rfl,fitI ?_⟩
  try rw[hfm] at*
  clear h hc hfm hf0 hG
  try simp only[List.length_map] at*
  simp only[d11]
  generalize (d.types.any fun k=>k_ k==[])=B at*
  simp_all
  try ((repeat' split) <;> first | rfl | omega | (simp_all;done))
theorem sCp_ (hG:wg_ G) (l:List DeclT) (hl:l.length<9223372036854775807) (ht:∀d∈l,d.types.length<9223372036854775807):P_ Tryz.prog G nsC_ [d_ l] (.tup [iv (d10 l).2,iv (d10 l).1]):=by
 refine psC_ (Runs.of fun Φ h=>?_)
 unfold csC_
 repeat' (first|simp -implicitDefEqProofs only[go_sem,d_,List.length_map]|refine ag_ (fun hb=>?_) (fun hb=>?_)|refine⟨fun hb=>?_,fun hb=>?_⟩|fail)
 ·exact h _ ⟨_,_,rfl,rfl,fe_ (by rw[d10,if_pos ‹_›])⟩
 ·have he:d10 l=f16 (d11 l) l 0:=by rw[d10,if_neg hb]
  refine al_ (fun n st=>∃i:Nat,i+n=l.length∧st=⟨22,[(0,d_ l),(10,iv l.length),(11,iv i)],[]⟩∧d10 l=f16 (d11 l) (l.drop i) i) l.length ⟨0,by simp,rfl,he⟩ ?_
  rintro I hI n st ⟨i,hi,rfl,hno⟩
  simp -implicitDefEqProofs only[go_sem]
  refine⟨fun hlt=>?_,fun hge=>?_⟩
  ·have hlt':i<l.length:=by omega
   obtain⟨d,hd,hm⟩:=as10 hlt'
   have hw:=ws_ hlt' (by omega)
   rw[fs16 hd] at hno
   repeat' (first|simp -implicitDefEqProofs only[go_sem,hw]|refine ag_ (fun hb=>?_) (fun hb=>?_)|refine⟨fun hb=>?_,fun hb=>?_⟩|refine ac_ (sop_ hG l hl i d hd (ht d hm)) rfl rfl ?_|fail)
   ·rw[if_neg (by simpa using hb)] at hno
    exact h _ ⟨_,_,rfl,rfl,fe_ (by rw[hno])⟩
   ·rw[if_pos (by simpa using hb)] at hno
    exact aa_ (n - 1) (by omega) (hI _ _ ⟨i+1,by omega,rfl,hno⟩)
  ·rw[fe10 (by omega)] at hno
   exact h _ ⟨_,_,rfl,rfl,fe_ (by rw[hno])⟩
theorem kb_ (k:Int):(k_ k==[])= !(decide (1≤k)&&decide (k≤3)):=by
 unfold k_
 split
 ·subst k;rfl
 ·split
  ·subst k;rfl
  ·split
   ·subst k;rfl
   ·rw[Bool.eq_iff_iff];simp;omega
theorem rCp_ (l:List DeclT) (hl:l.length<9223372036854775807) (ht:∀d∈l,d.types.length<9223372036854775807):P_ Tryz.prog G npC_ [d_ l] (.tup [iv (d10 l).1,iv (d10 l).2]):=by
 refine ppC_ (Runs.of fun Φ h=>?_)
 unfold cpC_
 repeat' (first|simp -implicitDefEqProofs only[go_sem,d_,List.length_map]|refine ag_ (fun hb=>?_) (fun hb=>?_)|refine⟨fun hb=>?_,fun hb=>?_⟩|fail)
 ·exact h _ ⟨_,_,rfl,rfl,fe_ (by rw[d10,if_pos ‹_›])⟩
 ·have he:d10 l=f16 (d11 l) l 0:=by rw[d10,if_neg hb]
  refine al_ (fun n st=>∃i:Nat,i+n=l.length∧st=⟨72,[(0,d_ l),(4,iv i)],[]⟩∧d10 l=f16 (d11 l) (l.drop i) i) l.length ⟨0,by simp,rfl,he⟩ ?_
  rintro I hI n st ⟨i,hi,rfl,hno⟩
  simp -implicitDefEqProofs only[go_sem,d_,List.length_map]
  refine⟨fun hlt=>?_,fun hge=>?_⟩
  ·have hlt':i<l.length:=by omega
   obtain⟨d,hd,hm⟩:=as10 hlt'
   have hw:=ws_ hlt' (by omega)
   rw[fs16 hd] at hno
   repeat' (first|simp -implicitDefEqProofs only[go_sem,hw,am_ hd,d12,i11,List.length_map]|refine ag_ (fun hb=>?_) (fun hb=>?_)|refine⟨fun hb=>?_,fun hb=>?_⟩|refine ac_ (rNp_ d.name) rfl rfl ?_|refine ac_ (rFp_ l hl d.name) rfl rfl ?_|fail)
   all_goals try (refine h _ ⟨_,_,rfl,rfl,fe_ ?_⟩;clear h hI;try rw[if_neg (by simp_all [d11];try ((repeat' split) <;> omega))] at hno;rw[hno];simp_all [d11];try (repeat' split) <;> first | rfl | omega | (simp_all;done))
   have hT:=ht d hm
   have hok:(d11 l i d=if (d.types.any fun k=>k_ k==[])=true then 8 else 0):=by
    simp only[d11]
    generalize (d.types.any fun k=>k_ k==[])=B at*
    simp_all
    try ((repeat' split) <;> first | rfl | omega | (simp_all;done))
   refine al_ (fun m st=>∃k:Nat,k+m=d.types.length∧st=⟨72,[(0,d_ l),(4,iv i),(5,iv k)],[]⟩∧∀j t,j<k→d.types[j]? =some t→(k_ t==[])=false) d.types.length ⟨0,by simp,rfl,fun j x hj=>by omega⟩ ?_
   rintro J hJ m st ⟨k,hk,rfl,hall⟩
   simp -implicitDefEqProofs only[go_sem,hw,am_ hd,d12,i11,d_,List.length_map]
   refine⟨fun hlt2=>?_,fun hge2=>?_⟩
   ·obtain⟨t,htt,htm⟩:=as10 (l:=d.types) (i:=k) (by omega)
    have hw2:=ws_ (i:=k) (n:=d.types.length) (by omega) (by omega)
    have bad:(k_ t==[])=true→d10 l=(8,(i:Int)):=fun hv=>by
     have:(d.types.any fun k=>k_ k==[])=true:=List.any_eq_true.2 ⟨t,htm,hv⟩
     rw[this] at hok
     rw[hno,hok];rfl
    have fin:(k_ t==[])=false→a12 J m ⟨72,[(0,d_ l),(4,iv i),(5,iv (k+1:Nat))],[]⟩:=fun hv=>aa_ (m - 1) (by omega) (hJ _ _ ⟨k+1,by omega,rfl,fun j y hj hy=>by
     by_cases e:j=k
     ·subst e;rw[htt] at hy;cases hy;exact hv
     ·exact hall j y (by omega) hy⟩)
    repeat' (first|simp -implicitDefEqProofs only[go_sem,hw2,am_ hd,am_ htt,d12,i11,d_,List.length_map]|refine ag_ (fun hb=>?_) (fun hb=>?_)|refine⟨fun hb=>?_,fun hb=>?_⟩|fail)
    all_goals first | refine fin ?_ | (refine h _ ⟨_,_,rfl,rfl,fe_ ?_⟩;rw[bad])
    all_goals
     clear h hI hJ bad fin
     rw[kb_,Bool.eq_iff_iff]
     simp at*
     omega
   ·rw[show (d.types.any fun k=>k_ k==[])=false by
     rw[List.any_eq_false]
     intro y hy
     obtain⟨j,hj⟩:=List.getElem?_of_mem hy
     rw[hall j y (by have:=(List.getElem?_eq_some_iff.1 hj).1;omega) hj]
     simp] at hok
    rw[hok] at hno
    exact aa_ (n - 1) (by omega) (hI _ _ ⟨i+1,by omega,rfl,by rw[hno];rfl⟩)
  ·rw[fe10 (by omega)] at hno
   exact h _ ⟨_,_,rfl,rfl,fe_ (by rw[hno])⟩
end Go.Proofs.YtjbcfpkibnhodaaGreatDoor.Ab
