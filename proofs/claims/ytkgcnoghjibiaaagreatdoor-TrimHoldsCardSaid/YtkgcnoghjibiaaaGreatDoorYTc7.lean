/- Lemmas. -/
import Derived.Test.YtkgcnoghjibiaaaGreatDoorYCk
set_option linter.unusedSimpArgs false
set_option maxHeartbeats 4000000
set_option maxRecDepth 100000
namespace Go.Proofs.YtkgcnoghjibiaaaGreatDoor.Ab
open Go Go.RowKit
variable {G:Nat->Option AV}
def c28 (sz ty:Nat) (zs:List AV) (sz2 ty2 bs:Nat) (z2:List AV):AFun:=⟨22,2,[.t 4],
 (.seq (.reg [⟨some 4,.nilrow ty2 sz2,none⟩] [0,1])
(.seq (.reg [⟨some 5,.nilrow ty2 sz2,none⟩] [0,1,5])
(.seq (.seq (.reg [⟨some 8,.mov (.t 0),none⟩,⟨some 9,.len false (.t 8),none⟩,⟨some 10,.mov (.k (.int .i64 0)),none⟩] [1,5,8,9,10])
(.block 0
(.loop [1,5,8,9,10] [4,5,9,19]
 (.seq (.reg [⟨some 11,.bin .lss (.t 10) (.t 9),none⟩] [1,5,8,9,10,11])
(.seq (.cond (.t 11) .skip (.exit 0))
(.seq (.block 1
(.seq (.reg [⟨some 12,.iaddr sz (.t 8) (.t 10),none⟩,⟨some 13,.loadN (.t 12) sz,none⟩,⟨some 7,.alloc ty sz (.agg zs),none⟩,⟨none,.store (.t 7) (.t 13) sz,none⟩] [1,5,7,8,9,10])
(.reg [⟨some 14,.mov (.t 5),none⟩,⟨some 15,.mov (.t 1),none⟩,⟨some 16,.loadN (.t 7) sz,none⟩,⟨some 17,.callv (.t 15) [.t 16],none⟩,⟨some 18,.mkrow ty2 sz2 1 (.agg z2) [(0,.t 17)],none⟩,⟨some 19,.app ty2 sz2 bs (.t 14) (.t 18),none⟩,⟨some 5,.mov (.t 19),none⟩] [1,5,8,9,10])))
(.reg [⟨some 20,.bin .add (.t 10) (.k (.int .i64 1)),none⟩,⟨some 10,.mov (.t 20),none⟩] [1,5,8,9,10])))))))
(.seq (.reg [⟨some 21,.mov (.t 5),none⟩,⟨some 4,.mov (.t 21),none⟩] [4])
.ret))))⟩
theorem g14 {α β:Type} {e:α->AV} {d:β->AV} {sz ty sz2 ty2 bs:Nat} {zs z2:List AV} (E:Enc e sz) (D:Enc d sz2) (hz:zs.length=sz) (hz2:z2.length=sz2) (hbs:bs<=100) (f:Nat) (caps:List AV) (hf:b11 Tryz.prog f=true) (hcap:OkC caps) (hbe:∀st x y,b_ st (e x::caps) (d y)=st) (g:α->β) (l:List α) (hp:∀x∈l,PQ G f (e x::caps) (d (g x))) (hl:l.length<=1000000)
  (Φ:St->Prop) (h:∀env heap,hget heap 5=some ⟨true,ty2,sz2,(l.map g).map d⟩->Φ ⟨22,(4,.arr 5 0 (l.map g).length)::env,heap⟩):run Tryz.prog G Φ (c28 sz ty zs sz2 ty2 bs z2).body [] ⟨22,a14 0 [.seq sz (l.map e),.fn f caps],[]⟩:=by
 unfold c28;simp -implicitDefEqProofs only[go_sem,zQ,hcap.purge];refine al_ (λn st=>∃(i:Nat) (m:List β),i+n=l.length∧st=⟨22,[(1,.fn f caps),(5,.arr 5 0 m.length),(8,.seq sz (l.map e)),(9,iv l.length),(10,iv i)],[(4,⟨true,ty2,sz2,[]⟩),(5,⟨true,ty2,sz2,m.map d⟩)]⟩∧m=(l.take i).map g) l.length ⟨0,[],by simp,rfl,rfl⟩ ?_;rintro I hI n st ⟨i,m,hi,rfl,hm⟩;have hml:m.length<=i:=by rw[hm];simp;omega
 simp -implicitDefEqProofs only[go_sem,zQ];refine⟨λhlt=>?_,λhge=>?_⟩
 .have hlt':i<l.length:=by omega
  obtain⟨x,hx,hxm⟩:=as10 hlt';have hw:=ws_ hlt';have hc:=hp x hxm;have hb1:(m.length+1)*bs<=140737488355328:=vY (Nat.mul_le_mul (show m.length+1<=1000001 by omega) hbs) (by decide);have hnx:(l.take (i+1)).map g=m++[g x]:=by rw[t39 hx,zE,<-hm];rfl
  have hI2:=λst h0=>hI (n - 1) st ⟨i+1,m++[g x],by omega,h0,hnx.symm⟩;have h0:=E.1;have h1:=D.1;obtain⟨cs,hcs,hcl,hc1,hpu,hvk,hva,_⟩:=E.2 x;obtain⟨ds,hds,hdl,hd1,hdu,hdk,hda,hdr⟩:=D.2 (g x);have ht:cs.take sz=cs:=zT (by omega);have hsl:sz<=cs.length:=by omega
  have hs2:(cs.length==sz)=true:=by simpa using hcl
  have hs3:sz<=zs.length:=by omega
  have hss:=sa11 zs cs (by omega);have hs4:=sa11 z2 ds (by omega);have hr2:(ds.length==sz2)=true:=by simpa using hdl
  have hr3:sz2<=z2.length:=by omega
  have hr4:sz2<=ds.length:=by omega
  have hr5:ds.take sz2=ds:=zT (by omega);have hbe:=λst=>hbe st x (g x);rw[hcs,hds] at hc hbe;rw[zE,uY,hds,zL] at hI2;simp -implicitDefEqProofs only[go_sem,am_ hx,hcap.purge,hcs,ht,hsl,hpu,hc1,hs2,hs3,hss,h0,xO,yS,wX,yR];refine⟨hf,ac_ hc (by simp [v10,flat,viewBs,viewB,viewAll,viewK,view,hvk,hva,hcap.viewBs,hcap.viewAll]) (by rw[hbe];rfl) ?_⟩;simp -implicitDefEqProofs only[go_sem,hw,hcap.purge,hb1,zQ,hpu,hdu,hr2,hd1,hda,hdl,hs4,hr3,hr4,hr5,h1,hdr,St.thaws,xO,yS,wX,yR];exact aa_ (n - 1) (by omega) (hI2 _ rfl)
 .rw[zT (by omega)] at hm;rw[<-hm] at h;clear hI hm
  try (simp -implicitDefEqProofs only[go_sem,hcap.purge])
  exact h _ _ rfl
theorem g13 {α β:Type} {e:α->AV} {d:β->AV} {sz ty sz2 ty2 bs n:Nat} {zs z2:List AV} (E:Enc e sz) (D:Enc d sz2) (hz:zs.length=sz) (hz2:z2.length=sz2) (hbs:bs<=100) (hfl:∀y,flat (d y)=true) {fn:Func} (hfn:Tryz.prog.funcs[n]?=some fn) (hck:chkF Tryz.prog fn (c28 sz ty zs sz2 ty2 bs z2)=true) (f:Nat) (caps:List AV) (hf:b11 Tryz.prog f=true) (hcap:OkC caps) (g:α->β) (l:List α) (hp:∀x∈l,PQ G f (e x::caps) (d (g x))) (hl:l.length<=1000000):
  NQ G n [.seq sz (l.map e),.fn f caps] (.seq sz2 ((l.map g).map d)):=
 P10.of_runs hfn hck rfl (R11.of λΦ h=>g14 E D hz hz2 hbs f caps hf hcap (λ_ _ y=>zY (hfl y)) g l hp hl Φ λ_ _ hg=>h _ ⟨5,_,⟨true,ty2,sz2,(l.map g).map d⟩,rfl,hg,rfl,D.1,by simp,λe he=>by obtain⟨y,_,rfl⟩:=zI.1 he;exact hfl y,by simp only;rw[zT (by simp)]⟩)
theorem ea15:Enc argV 6:=⟨by decide,λ_ =>⟨_,rfl,rfl,rfl,λ_ =>rfl,λ_ _ =>rfl,λ_ =>rfl,rfl⟩⟩
theorem et15:Enc t34 8:=⟨by decide,λ_ =>⟨_,rfl,rfl,rfl,λ_ =>rfl,λ_ _ =>rfl,λ_ =>rfl,rfl⟩⟩
abbrev beaAaTp_:=g13 (G:=G) (ty:=108) (zs:=[.int .i64 0,.int .i64 0,.int .i64 0,.int .i64 0,.str [],.bool false]) (ty2:=144) (bs:=80) (z2:=[.int .i64 0,.str [],.int .i64 0,.int .i64 0,.str [],.bool false,.int .i64 0,.int .i64 0]) ea15 et15 rfl rfl (by decide) (λ_ =>rfl) Tryz.func87 (by kernel_rfl)
theorem g11 {α β:Type} {e:α->AV} {d:β->AV} {sz ty sz2 ty2 bs n:Nat} {zs z2:List AV} (E:Enc e sz) (D:Enc d sz2) (hz:zs.length=sz) (hz2:z2.length=sz2) (hbs:bs<=100) {fn:Func} (hfn:Tryz.prog.funcs[n]?=some fn) (hck:chkF Tryz.prog fn (c28 sz ty zs sz2 ty2 bs z2)=true) (f:Nat) (hf:b11 Tryz.prog f=true) (g:α->β) (l:List α) (hp:∀x∈l,PQ G f (e x::[]) (d (g x))) (hl:l.length<=1000000):
  PQ G n [.seq sz (l.map e),.fn f []] (.seq sz2 ((l.map g).map d)):=
 P_.of_runs hfn hck rfl (Runs.of λΦ h=>g14 E D hz hz2 hbs f [] hf on_ (λst x y=>by obtain⟨cs,hcs,_,_,_,_,_,hr⟩:=E.2 x;unfold b_;rw[hcs];simp [r11,r14,hr,St.thaws]) g l hp hl Φ λ_ _ hg=>h _ ⟨_,_,rfl,vr12 D.1 hg rfl,.refl _⟩)
theorem et12:Enc t32 4:=⟨by decide,λ_ =>⟨_,rfl,rfl,rfl,λ_ =>rfl,λ_ _ =>rfl,λ_ =>rfl,rfl⟩⟩
abbrev beaDaTp_:=g11 (G:=G) (ty:=42) (zs:=[.str [],.nils]) (ty2:=119) (bs:=56) (z2:=[.str [],.int .i64 0,.int .i64 0,.nils]) ed_ et12 rfl rfl (by decide) Tryz.func39 (by kernel_rfl)
theorem et10:Enc t24 5:=⟨by decide,λ_ =>⟨_,rfl,rfl,rfl,λ_ =>rfl,λ_ _ =>rfl,λ_ =>rfl,rfl⟩⟩
abbrev beaQaTp_:=g11 (G:=G) (ty:=124) (zs:=[.bool false,.str [],.int .i64 0]) (ty2:=126) (bs:=48) (z2:=[.bool false,.str [],.int .i64 0,.int .i64 0,.int .i64 0]) eq_ et10 rfl rfl (by decide) Tryz.func42 (by kernel_rfl)
theorem et11:Enc t31 7:=⟨by decide,λ_ =>⟨_,rfl,rfl,rfl,λ_ =>rfl,λ_ _ =>rfl,λ_ =>rfl,rfl⟩⟩
abbrev beaFaTp_:=g11 (G:=G) (ty:=110) (zs:=[.str [],.int .i64 0,.int .i64 0,.str [],.bool false]) (ty2:=130) (bs:=72) (z2:=[.str [],.int .i64 0,.int .i64 0,.int .i64 0,.int .i64 0,.str [],.bool false]) ef10 et11 rfl rfl (by decide) Tryz.func44 (by kernel_rfl)
theorem es13:Enc s14 3:=⟨by decide,λ_ =>⟨_,rfl,rfl,rfl,λ_ =>rfl,λ_ _ =>rfl,λ_ =>rfl,rfl⟩⟩
theorem et_:Enc t14 5:=⟨by decide,λ_ =>⟨_,rfl,rfl,rfl,λ_ =>rfl,λ_ _ =>rfl,λ_ =>rfl,rfl⟩⟩
abbrev beaSaTp_:=g11 (G:=G) (ty:=53) (zs:=[.str [],.bool false,.bool false]) (ty2:=73) (bs:=40) (z2:=[.str [],.int .i64 0,.int .i64 0,.bool false,.bool false]) es13 et_ rfl rfl (by decide) Tryz.func46 (by kernel_rfl)
theorem et19:Enc tExV 10:=⟨by decide,λ_ =>⟨_,rfl,rfl,rfl,λ_ =>rfl,λ_ _ =>rfl,λ_ =>rfl,rfl⟩⟩
abbrev beaNaEp_:=g13 (G:=G) (ty:=112) (zs:=[.int .i64 0,.int .i64 0,.int .i64 0,.int .i64 0,.int .i64 0,.str [],.bool false]) (ty2:=191) (bs:=96) (z2:=[.int .i64 0,.int .i64 0,.int .i64 0,.str [],.int .i64 0,.int .i64 0,.str [],.bool false,.int .i64 0,.int .i64 0]) en10 et19 rfl rfl (by decide) (λ_ =>rfl) Tryz.func82 (by kernel_rfl)
theorem et18:Enc t43 4:=⟨by decide,λ_ =>⟨_,rfl,rfl,rfl,λ_ =>rfl,λ_ _ =>rfl,λ_ =>rfl,rfl⟩⟩
abbrev be10:=g13 (G:=G) (ty:=168) (zs:=[.int .i64 0,.int .i64 0]) (ty2:=196) (bs:=40) (z2:=[.str [],.int .i64 0,.int .i64 0,.int .i64 0]) es15 et18 rfl rfl (by decide) (λ_ =>rfl) Tryz.func85 (by kernel_rfl)
theorem bip_ (s:Str):PQ G 38 [.str s] (.agg [.str s,iv 0,iv 0]):=by refine pbi_ λΦ h=>?_;unfold cbi_;simp -implicitDefEqProofs only[go_sem];exact hq_ h
def A11 (q:QeaT) (a:ArgT):Prop:=(a.kind=2->∃x,at? q.quants a.n=some x)∧(a.kind=3->∃x,at? q.frees a.n=some x)
theorem bap_ (q:QeaT) (a:ArgT) (ha:A11 q a):PQ G 89 [qeaV q,argV a] (t34 (argT q a)):=by
 refine pba_ λΦ h=>?_;unfold cba_;obtain⟨k,n,v⟩:=a;obtain⟨h2,h3⟩:=ha;simp only at h2 h3;by_cases k1:k=1
 .subst k1;simp -implicitDefEqProofs only[go_sem,argV,qeaV,d_,q_,f_,s_,s10,n_,t_];exact hq_ h
 by_cases k2:k=2
 .subst k2;obtain⟨x,hx⟩:=h2 rfl;have e:argT q ⟨2,n,v⟩=⟨2,x.name,v0⟩:=by simp [argT,hx]
  rw[e] at h;obtain⟨i,rfl,hi⟩:=at?_some hx;simp -implicitDefEqProofs only[go_sem,argV,qeaV,d_,q_,f_,s_,s10,n_,t_,am_ hi,q11];exact hq_ h
 have b1:(k==1)=false:=by simpa using k1
 have b2:(k==2)=false:=by simpa using k2
 by_cases k3:k=3
 .subst k3;obtain⟨x,hx⟩:=h3 rfl;have e:argT q ⟨3,n,v⟩=⟨2,x.name,v0⟩:=by simp [argT,hx]
  rw[e] at h;obtain⟨i,rfl,hi⟩:=at?_some hx;simp -implicitDefEqProofs only[go_sem,argV,qeaV,d_,q_,f_,s_,s10,n_,t_,am_ hi,f10];exact hq_ h
 have b3:(k==3)=false:=by simpa using k3
 have e:argT q ⟨k,n,v⟩=⟨3,[],v0⟩:=by simp [argT,k1,k2,k3]
 rw[e] at h;simp -implicitDefEqProofs only[go_sem,argV,qeaV,d_,q_,f_,s_,s10,n_,t_,b1,b2,b3];exact hq_ h
theorem bs1p_ (q:QeaT) (a:ArgT) (ha:A11 q a):PQ G 88 [argV a,.eptr (qeaV q) 0] (t34 (argT q a)):=by
 have hc:=bap_ (G:=G) q a ha;refine pbs1z λΦ h=>?_;unfold cbs1z;generalize argT q a=y at*;simp only[argV,qeaV,d_,q_,f_,s_,s10,n_,t_,t34] at hc
 repeat' (first|simp -implicitDefEqProofs only[go_sem,argV,qeaV,d_,q_,f_,s_,s10,n_,t_]|apply ai__<;>intro hb|refine ac_ hc rfl rfl ?_|fail)
 exact hq_ h
def S12 (q:QeaT) (s:SymT):Prop:=(∃d,at? q.decls s.event=some d)∧s.args.length<=1000∧∀a∈s.args,A11 q a
theorem bsp_ (q:QeaT) (s:SymT) (hs:S12 q s):PQ G 49 [qeaV q,symV s] (t28 (symT q s)):=by
 obtain⟨⟨d,hd⟩,hl,ha⟩:=hs;have hc:=beaAaTp_ (G:=G) 88 [.eptr (qeaV q) 0] (by kernel_rfl) (okC_q q) (argT q) s.args (λa hm=>bs1p_ q a (ha a hm)) (by omega);refine pbs_ λΦ h=>?_;unfold cbs_;obtain⟨n,l⟩:=s;simp only at hd hc;have e:symT q ⟨n,l⟩=⟨d.name,l.map (argT q)⟩:=by simp [symT,d15,hd]
 rw[e] at h;obtain⟨i,rfl,hi⟩:=at?_some hd;generalize l.map (argT q)=y at*;simp only[qeaV,d_,q_,f_,s_,s10,n_,t_] at hc
 repeat' (first|simp -implicitDefEqProofs only[go_sem,symV,a10,qeaV,d_,q_,f_,s_,s10,n_,t_,am_ hi,d12]|apply ai__<;>intro hb|(refine ac12 hc rfl (FitL.refl _) rfl ?_)|fail)
 exact hq_ h
def N10 (q:QeaT) (x:NodeT):Prop:=(x.op=2->∃y,at? q.quants x.a=some y)∧(x.op=3->∃y,at? q.frees x.a=some y)∧(4<=x.op->0<=x.a∧x.a<=1000000∧0<=x.b∧x.b<=1000000)
theorem bnp_ (q:QeaT) (x:NodeT) (b:Int) (hb:0<=b∧b<=1000000) (hx:N10 q x) (h1:1<=x.op):PQ G 84 [qeaV q,n11 x,iv b] (tExV (n14 q b x)):=by
 refine pbn_ λΦ h=>?_;unfold cbn_;obtain⟨k,n,m,v⟩:=x;obtain⟨h2,h3,h4⟩:=hx;simp only at h1 h2 h3 h4;by_cases k1:k=1
 .subst k1;simp -implicitDefEqProofs only[go_sem,n11,qeaV,d_,q_,f_,s_,s10,n_,t_];exact hq_ h
 by_cases k2:k=2
 .subst k2;obtain⟨x,hx⟩:=h2 rfl;have e:n14 q b ⟨2,n,m,v⟩=⟨17,0,0,x.name,v0⟩:=by simp [n14,hx]
  rw[e] at h;obtain⟨i,rfl,hi⟩:=at?_some hx;simp -implicitDefEqProofs only[go_sem,n11,qeaV,d_,q_,f_,s_,s10,n_,t_,am_ hi,q11];exact hq_ h
 have b1:(k==1)=false:=by simpa using k1
 have b2:(k==2)=false:=by simpa using k2
 by_cases k3:k=3
 .subst k3;obtain⟨x,hx⟩:=h3 rfl;have e:n14 q b ⟨3,n,m,v⟩=⟨17,0,0,x.name,v0⟩:=by simp [n14,hx]
  rw[e] at h;obtain⟨i,rfl,hi⟩:=at?_some hx;simp -implicitDefEqProofs only[go_sem,n11,qeaV,d_,q_,f_,s_,s10,n_,t_,am_ hi,f10];exact hq_ h
 have b3:(k==3)=false:=by simpa using k3
 obtain⟨h5,h6,h7,h8⟩:=h4 (by omega);have w1:IntKind.i64.wrap (n - b)=n - b:=wi_ (by omega) (by omega);have w2:IntKind.i64.wrap (m - b)=m - b:=wi_ (by omega) (by omega);by_cases k4:k=4
 .subst k4;have e:n14 q b ⟨4,n,m,v⟩=⟨4,n - b,0,[],v0⟩:=by simp [n14]
  rw[e] at h;simp -implicitDefEqProofs only[go_sem,n11,qeaV,d_,q_,f_,s_,s10,n_,t_,w1];exact hq_ h
 have b4:(k==4)=false:=by simpa using k4
 by_cases k5:k=5
 .subst k5;have e:n14 q b ⟨5,n,m,v⟩=⟨5,n - b,0,[],v0⟩:=by simp [n14]
  rw[e] at h;simp -implicitDefEqProofs only[go_sem,n11,qeaV,d_,q_,f_,s_,s10,n_,t_,w1];exact hq_ h
 have b5:(k==5)=false:=by simpa using k5
 have e:n14 q b ⟨k,n,m,v⟩=⟨k,n - b,m - b,[],v0⟩:=by simp [n14,k1,k2,k3,k4,k5]
 rw[e] at h;simp -implicitDefEqProofs only[go_sem,n11,qeaV,d_,q_,f_,s_,s10,n_,t_,b1,b2,b3,b4,b5,w1,w2];exact hq_ h
def Sm (n:Int):Prop:=-1<=n∧n<=1000000
theorem la13 {l:List SetT} {x:SetT} (h:l.getLast? =some x):0<l.length∧l[l.length - 1]?=some x:=by rw[List.getLast?_eq_getElem?] at h;have:=(zX.1 h).1;exact⟨by omega,h⟩
theorem bep_ (t:TransT) (b:Int) (hl:t.sets.length<=1000000) (hg:t.guard= -1∨0<=t.guard) (hg2:Sm t.guard) (hs:∀s∈t.sets,Sm s.expr):PQ G 81 [t11 t,iv b] (iv (endT t b)):=by
 refine pbe_ λΦ h=>?_;unfold cbe_;obtain⟨f,s,to,g,l⟩:=t;simp only at hl hg hg2 hs;have hz:decide ((0:Int)<((0:Nat):Int))=false:=rfl;have hz1:decide ((0:Int)<=-1)=false:=rfl;cases hx:l.getLast? with
 | none=>
  rw[List.getLast?_eq_none_iff] at hx;subst hx;rcases hg with hg | hg
  .subst hg;have e:endT ⟨f,s,to,-1,[]⟩ b=b:=rfl;rw[e] at h;simp -implicitDefEqProofs only[go_sem,t11,s18,yU,hz,hz1];exact hq_ h
  .have e:endT ⟨f,s,to,g,[]⟩ b=g+1:=by unfold endT endS;simp;omega
   rw[e] at h;have d:decide (0<=g)=true:=wQ hg;have w:IntKind.i64.wrap (g+1)=g+1:=wi_ (by have:=hg2.1;omega) (by have:=hg2.2;omega);simp -implicitDefEqProofs only[go_sem,t11,s18,yU,hz,d,w];exact hq_ h
 | some x=>
  obtain⟨h1,h2⟩:=la13 hx;have e:endT ⟨f,s,to,g,l⟩ b=x.expr+1:=by unfold endT endS;simp [hx]
  rw[e] at h;have hb:=hs x (zG h2);have d:decide ((0:Int)<(l.length:Int))=true:=wQ (by omega);have w1:IntKind.i64.wrap ((l.length:Int) - 1)=((l.length - 1:Nat):Int):=by rw[wi_ (by omega) (by omega)];omega
  have w:IntKind.i64.wrap (x.expr+1)=x.expr+1:=wi_ (by have:=hb.1;omega) (by have:=hb.2;omega);obtain⟨x1,x2⟩:=x;simp -implicitDefEqProofs only[go_sem,t11,s18,zQ,d,w1,w,am_ h2,setV];exact hq_ h
theorem bt11p_ (q:QeaT) (x:NodeT) (b:Int) (hb:0<=b∧b<=1000000) (hx:N10 q x) (h1:1<=x.op):PQ G 83 [n11 x,.eptr (qeaV q) 0,.eptr (iv b) 0] (tExV (n14 q b x)):=by
 have hc:=bnp_ (G:=G) q x b hb hx h1;refine pbt11z λΦ h=>?_;unfold cbt11z;generalize n14 q b x=y at*;simp only[n11,qeaV,d_,q_,f_,s_,s10,n_,t_,tExV] at hc
 repeat' (first|simp -implicitDefEqProofs only[go_sem,n11,qeaV,d_,q_,f_,s_,s10,n_,t_]|apply ai__<;>intro hb|refine ac_ hc rfl rfl ?_|fail)
 exact hq_ h
theorem bt12p_ (q:QeaT) (s:SetT) (b:Int) (hb:0<=b∧b<=1000000) (hx:∃f,at? q.frees s.free=some f) (h1:Sm s.expr):PQ G 86 [setV s,.eptr (qeaV q) 0,.eptr (iv b) 0] (t43 (setT q b s)):=by
 obtain⟨f,hf⟩:=hx;have hc:=bip_ (G:=G) f.name;refine pbt12z λΦ h=>?_;unfold cbt12z;have e:setT q b s=⟨f.name,s.expr - b⟩:=by simp [setT,f17,hf]
 rw[e] at h;obtain⟨n,x⟩:=s;simp only at hf h1 h;obtain⟨i,rfl,hi⟩:=at?_some hf;have w:IntKind.i64.wrap (x - b)=x - b:=wi_ (by have:=h1.1;omega) (by have:=h1.2;omega)
 repeat' (first|simp -implicitDefEqProofs only[go_sem,setV,qeaV,d_,q_,f_,s_,s10,n_,t_,am_ hi,f10,w]|apply ai__<;>intro hb|refine ac_ hc rfl rfl ?_|fail)
 exact hq_ h
structure TrW (q:QeaT) (t:TransT) (b:Int):Prop where
 hf:∃x,at? q.states t.from_=some x
 ht:∃x,at? q.states t.to_=some x
 hs:∃x,at? q.symbols t.symbol=some x∧S12 q x
 hg:t.guard= -1∨b<=t.guard
 hg2:Sm t.guard
 hl:t.sets.length<=1000
 hx:∀s∈t.sets,Sm s.expr∧∃f,at? q.frees s.free=some f
 hb0:0<=b∧b<=1000000
 he:b<=endT t b∧endT t b<=q.nodes.length
 hn:∀y∈mid q.nodes b (endT t b),N10 q y∧1<=y.op
def bBox (b:Int):Nat×Box:=(1001,⟨false,3,1,[iv b]⟩)
def q15 (q:QeaT):Nat×Box:=(1002,⟨false,30,9,[qeaV q]⟩)
theorem bt1h_ (q:QeaT) (hq:q.nodes.length<=1000) (t:TransT) (b:Int) (h:TrW q t b):HQ G 80 [t11 t,.ref 1001 0 0,.ref 1002 0 0] [bBox b,q15 q] (tTrV (trT q (t,b))) [bBox (endT t b),q15 q]:=by
 have hend:=bep_ (G:=G) t b (by have:=h.hl;omega) (by rcases h.hg with h1 | h1;exact .inl h1;exact .inr (by have:=h.hb0;omega)) h.hg2 (λs hs=>(h.hx s hs).1);obtain⟨⟨x1,hx1⟩,⟨x2,hx2⟩,⟨x3,hx3,hsy⟩,hg,hg2,hl,hx,hb0,he,hn⟩:=h;have hsym:=bsp_ (G:=G) q x3 hsy;have hns:=beaNaEp_ (G:=G) 83 [.eptr (qeaV q) 0,.eptr (iv b) 0] (by kernel_rfl) of11 (n14 q b) (mid q.nodes b (endT t b)) (λy hy=>bt11p_ q y b hb0 (hn y hy).1 (hn y hy).2) (by simp [mid];omega);have hss:=be10 (G:=G) 86 [.eptr (qeaV q) 0,.eptr (iv b) 0] (by kernel_rfl) of11 (setT q b) t.sets (λy hy=>bt12p_ q y b hb0 (hx y hy).2 (hx y hy).1) (by omega);have hid1:=bip_ (G:=G) x1.name;have hid2:=bip_ (G:=G) x2.name;have hmid:=am12 (e:=n11) (sz:=7) (l:=q.nodes) (a:=b) (b:=endT t b) (by omega) hb0.1 he.1 he.2;rw[show (q.nodes.drop b.toNat).take ((endT t b).toNat - b.toNat)=mid q.nodes b (endT t b) from rfl] at hmid;have e:trT q (t,b)=⟨x1.name,x2.name,symT q x3,(mid q.nodes b (endT t b)).map (n14 q b),if t.guard= -1 then -1 else t.guard - b,t.sets.map (setT q b)⟩:=by simp [trT,s24,s36,hx1,hx2,hx3]
 rw[e];refine hbt1z λΦ h=>?_;unfold cbt1z;generalize endT t b=E at*;generalize (mid q.nodes b E).map (n14 q b)=Y at*;generalize t.sets.map (setT q b)=Z at*;generalize symT q x3=S at*;generalize mid q.nodes b E=M at*;obtain⟨tf,ts,tt,tg,tl⟩:=t;simp only at hx1 hx2 hx3 hg hg2 hns hss h;obtain⟨i1,rfl,hi1⟩:=at?_some hx1;obtain⟨i2,rfl,hi2⟩:=at?_some hx2;obtain⟨i3,rfl,hi3⟩:=at?_some hx3;obtain⟨yn,yl⟩:=S;simp only[qeaV,d_,q_,f_,s_,s10,n_,t_,t11,s18,symV,a10,t28,t17] at hend hsym hns hss;simp only[bBox,q15] at*;by_cases h1:tg= -1
 .subst h1
  repeat' (first|simp -implicitDefEqProofs only[go_sem,t11,s18,qeaV,d_,q_,f_,s_,s10,n_,t_,am_ hi1,am_ hi2,am_ hi3,s14,symV,a10,hmid,Int.reduceNeg,Int.reduceLE,yA]|apply ai__<;>intro hb|refine ac_ hend rfl rfl ?_|refine ac_ hid1 rfl rfl ?_|refine ac_ hid2 rfl rfl ?_|refine ac_ hsym rfl rfl ?_|(refine ac12 hns rfl (FitL.refl _) rfl ?_)|(refine ac12 hss rfl (FitL.refl _) rfl ?_)|fail)
  all_goals exact h _ ⟨_,_,Weak.refl _,rfl,fe_ (by simp [one,tTrV,t17,t30,t20,AV.cells]),subH.at ⟨rfl,rfl,trivial⟩⟩
 .have d:decide (0<=tg)=true:=wQ (by omega);have w:IntKind.i64.wrap (tg - b)=tg - b:=wi_ (by have:=hg2.1;omega) (by have:=hg2.2;omega)
  repeat' (first|simp -implicitDefEqProofs only[go_sem,t11,s18,qeaV,d_,q_,f_,s_,s10,n_,t_,am_ hi1,am_ hi2,am_ hi3,s14,symV,a10,hmid,d,w]|apply ai__<;>intro hb|refine ac_ hend rfl rfl ?_|refine ac_ hid1 rfl rfl ?_|refine ac_ hid2 rfl rfl ?_|refine ac_ hsym rfl rfl ?_|(refine ac12 hns rfl (FitL.refl _) rfl ?_)|(refine ac12 hss rfl (FitL.refl _) rfl ?_)|fail)
  all_goals exact h _ ⟨_,_,Weak.refl _,rfl,fe_ (by simp [one,tTrV,t17,t30,t20,AV.cells,h1]),subH.at ⟨rfl,rfl,trivial⟩⟩
theorem nd_at {q:QeaT} {t:TransT} {A B:Nat} {s:SymT} (ok:TrOk q t (A:Int) (B:Int)) (hs:at? q.symbols t.symbol=some s) (hss:symS q s=true):∀i,i<B - A->∃x e,NdAt q A s i x e∧(((q.nodes.drop A).take (B - A)).map (n14 q (A:Int)))[i]?=some (n14 q (A:Int) x):=by
 intro i hi;have hb:=ok.bk;have h2:=hb.h2;obtain⟨e,e1,e2,e3⟩:=hb.at_ (A+i) (by omega) (by omega);obtain⟨x,hx,hxm⟩:=as10 (l:=q.nodes) (i:=A+i) (by omega);have hm:((q.nodes.drop A).take (B - A))[i]?=some x:=by rw[yN,zY hi,xX];exact hx
 refine⟨x,e,⟨hx,e1,e2,e3,λhop=>?_⟩,by rw[zS,hm];rfl⟩;obtain⟨s',hs',hn⟩:=ok.sy;rw[hs] at hs';cases hs';have hmid:x∈mid q.nodes (A:Int) (B:Int):=by unfold mid;rw[zP,zP];exact zG hm
 rw[se10 hss];exact hn x hmid hop
def trN (fi ti:Nat) (ys:List SymT) (s:SymT) (d:Int) (t:TransT):TransT:=⟨fi,((ys.idxOf s:Nat):Int),ti,if t.guard= -1 then -1 else t.guard - d,t.sets.map (movS d)⟩
theorem th_ (q:QeaT) (hv:q.vars.Nodup) (hd:(q.decls.map (·.name)).Nodup) (hq:q.nodes.length<=1000) (sl:List StateT) (hsn:(sl.map (·.name)).Nodup) (st:Int) (ys:List SymT) (ns:List NodeT) (ts:List TransT) (hys:∀x∈ys,x.args.length<=1000) (hyl:ys.length<64) (hnl:ns.length<=1000) (htl:ts.length<256)
  (t:TransT) (A B:Nat) (ok:TrOk q t (A:Int) (B:Int)) (s:SymT) (hs:at? q.symbols t.symbol=some s) (hss:symS q s=true) (hsl:s.args.length<=1000) (hst:t.sets.length<=1000) (fi ti:Nat) (xf xt:StateT) (hfx:at? q.states t.from_=some xf) (htx:at? q.states t.to_=some xt) (hfi:sl[fi]?=some xf) (hti:sl[ti]?=some xt):
  HQ G 134 [.ref 1001 0 0,tTrV (trT q (t,(A:Int)))] (HK q sl st ys ns ts) .nili (HK q sl st (putY ys s) (nsK q A ns (B - A)) (ts++[trN fi ti ys s ((A:Int) - ns.length) t])):=by
 have hnd:=nd_at ok hs hss;have hB:=ok.ok.he;have hAB:=ok.bk.h1;have hBq:=ok.bk.h2;have hLm:mid q.nodes (A:Int) (endT t (A:Int))=(q.nodes.drop A).take (B - A):=by rw[<-hB];unfold mid;rw[zP,zP]
 have e:trT q (t,(A:Int))=⟨xf.name,xt.name,symT q s,((q.nodes.drop A).take (B - A)).map (n14 q (A:Int)),if t.guard= -1 then -1 else t.guard - A,t.sets.map (setT q (A:Int))⟩:=by simp [trT,s24,s36,hfx,htx,hs,hLm]
 rw[e];have hfind:=fp13 (G:=G) q sl st (.seq 2 (ys.map symV)) (.seq 7 (ns.map n11)) (.seq 5 (ts.map t11)) hsn hfi;have hfind2:=fp13 (G:=G) q sl st (.seq 2 ((putY ys s).map symV)) (.seq 7 ((nsK q A ns (B - A)).map n11)) (.seq 5 (ts.map t11)) hsn hti;have hsym:=sh_ (G:=G) q hv hd sl st ys ns ts s hss hsl hys hyl;have hidx:(putY ys s)[ys.idxOf s]?=some s:=by
  unfold putY;split
  .rename_i h;have hlt:=wP.2 h;rw[zU hlt,uW hlt]
  .rename_i h;rw[List.idxOf_eq_length h];simp
 have hLl:(((q.nodes.drop A).take (B - A)).map (n14 q (A:Int))).length=B - A:=by simp;omega
 generalize hL:((q.nodes.drop A).take (B - A)).map (n14 q (A:Int))=L at*;have hexpr:=λr kd h2 h3 h4=>eh_ (G:=G) q hv hq sl st (putY ys s) ts A ns hnl s hsl L r kd 0 (wC _) h2 h3 h4;have hsets:=λj0 h1 h2=>sh11 (G:=G) q hv hq sl st (putY ys s) ts A ns hnl s hsl L (B - A) (by omega) hnd t.sets hst j0 (B - A) h1 h2 (zN _);have hidl:ys.idxOf s<(putY ys s).length:=(zX.1 hidx).1;have hend:endT t (A:Int)=endS t.sets (if t.guard= -1 then (A:Int) else t.guard+1):=rfl;have hgd:=ok.gd;have hsto:=ok.st;refine hcct_ λΦ h=>?_;unfold ccct_;have z1:((ts.length:Int)==256)=false:=by simp;omega
 have w1:IntKind.i64.wrap ((ns.length:Int)+((B - A:Nat):Int))=(ns.length:Int)+((B - A:Nat):Int):=wi_ (by omega) (by omega);have z2:decide ((2048:Int)<(ns.length:Int)+((B - A:Nat):Int))=false:=by simp;omega
 have hys':((putY ys s).map symV)[ys.idxOf s]?=some (symV s):=by rw[zS,hidx];rfl
 have hb1:(ts.length+1)*56<=140737488355328:=by omega
 have hn0:nsK q A ns 0=ns:=by simp [nsK]
 have hlenN:(nsK q A ns (B - A)).length=ns.length+(B - A):=nl12 (by omega);have tkN:((nsK q A ns (B - A)).map n11).take (ns.length+(B - A))=(nsK q A ns (B - A)).map n11:=by rw[<-hlenN];exact t25 _ _
 unfold HK at*;unfold HBd at*;unfold ckB at*;simp only[hn0,show ksK q A 0=[] from rfl,vZ,yU] at hexpr;rw[hlenN] at h;unfold trN at h;simp only[zE,yJ,yU,zL,yH,xY,yS,t11,s18] at h;generalize putY ys s=Y at*;generalize ys.idxOf s=k at*;clear e hL ok;generalize t.sets.map (setT q (A:Int))=LT at*;generalize t.sets.map (movS ((A:Int) - ns.length))=LM at*;generalize nsK q A ns (B - A)=NS at*;generalize ksK q A (B - A)=KS at*;generalize symT q s=SY at*;obtain⟨sy1,sy2⟩:=SY;obtain⟨s1,s2⟩:=s;simp only[bodE,t30,a10,s18,t20,t28,t17,symV] at*;unfold ckC at*;generalize e13 (dE q)=E1 at*;generalize e13 (vE q)=E2 at*;generalize e13 (sE sl)=E3 at*;by_cases hg:t.guard= -1
 .rw[zY hg] at h hsto hend ⊢;have hsets:=hsets 0 hsto (by rw[vZ,<-hend,<-hB];omega);have g1:decide ((0:Int)<=-1)=false:=rfl;simp only[hn0,show ksK q A 0=[] from rfl,vZ,yU] at hsets;clear hexpr hgd
  repeat' (first|simp -implicitDefEqProofs only[go_sem,tTrV,t17,t30,t20,zQ,hLl,z1,z2,w1,g1,aa10 hidl,hys',hb1,t11]|apply ai__<;>intro hb|(refine ac_ hfind ?_ rfl ?_;focus (simp [v10,flat,flat.go,viewBs,viewB,viewK,viewK.go,hget,t25];done);skip)|(refine ac_ hfind2 ?_ rfl ?_;focus (simp [v10,flat,flat.go,viewBs,viewB,viewK,viewK.go,hget,t25,tkN,hlenN];done);skip)|(refine ac10 [(1001,1001),(1006,1006),(1007,1007),(1008,1008)] hsym rfl ⟨⟨_,_,rfl,rfl,rfl⟩,⟨_,_,rfl,rfl,rfl⟩,⟨_,_,rfl,rfl,rfl⟩,⟨_,_,rfl,rfl,rfl⟩,trivial⟩ rfl rfl rfl ?_)|(refine aw_ _ (wn_ (c:=75) 1 127 5 3 1 rfl rfl (xS rfl) rfl (xN _) (xN _) rfl rfl) (ch_ [(1001,1001),(1006,1006),(1007,1007),(1008,1008),(1012,75),(1013,127)] hsets (FitL.refl _) rfl ⟨⟨_,_,rfl,rfl,rfl⟩,⟨_,_,rfl,rfl,rfl⟩,⟨_,_,rfl,rfl,rfl⟩,⟨_,_,rfl,rfl,rfl⟩,⟨_,_,rfl,rfl,rfl⟩,⟨_,_,rfl,rfl,rfl⟩,trivial⟩ rfl rfl rfl ?_))|fail)
  exact h _ ⟨_,_,Weak.refl _,rfl,.refl _,subH.at ⟨rfl,rfl,rfl,rfl,trivial⟩⟩
 .rw[zK hg] at h hsto hend ⊢;have hw:=hgd.resolve_left hg;obtain⟨ri,e,hri,hre,hek,hek0,hef,haj,hed⟩:=we_ hw;have hrl:=ex_lt hre;obtain⟨r,rfl⟩:∃r,ri=A+r:=⟨ri - A,by omega⟩;have hle:=(sb_ t.sets [] (by omega) (by omega) hsto).h1;have hexpr:=hexpr r 3 (by omega) (λi hi=>hnd i (by omega)) ⟨e,hre,hek⟩;have e1:t.guard+1=((A+(r+1):Nat):Int):=by omega
  rw[e1] at hsto hend;have hsets:=hsets (r+1) hsto (by rw[<-hend,<-hB];omega);have e2:t.guard - A=(r:Int):=by omega
  have e3:t.guard - ((A:Int) - ns.length)=(r:Int)+ns.length:=by omega
  rw[e2];rw[e3] at h;have g1:decide ((0:Int)<=(r:Int))=true:=by simp
  have w2:IntKind.i64.wrap ((r:Int)+ns.length)=(r:Int)+ns.length:=wi_ (by omega) (by omega);generalize nsK q A ns (r+1)=NS1 at*;generalize ksK q A (r+1)=KS1 at*
  repeat' (first|simp -implicitDefEqProofs only[go_sem,tTrV,t17,t30,t20,zQ,hLl,z1,z2,w1,w2,g1,aa10 hidl,hys',hb1,t11]|apply ai__<;>intro hb|(refine ac_ hfind ?_ rfl ?_;focus (simp [v10,flat,flat.go,viewBs,viewB,viewK,viewK.go,hget,t25];done);skip)|(refine ac_ hfind2 ?_ rfl ?_;focus (simp [v10,flat,flat.go,viewBs,viewB,viewK,viewK.go,hget,t25,tkN,hlenN];done);skip)|(refine ac10 [(1001,1001),(1006,1006),(1007,1007),(1008,1008)] hsym rfl ⟨⟨_,_,rfl,rfl,rfl⟩,⟨_,_,rfl,rfl,rfl⟩,⟨_,_,rfl,rfl,rfl⟩,⟨_,_,rfl,rfl,rfl⟩,trivial⟩ rfl rfl rfl ?_)|(refine aw_ _ (wn_ (c:=75) 1 127 5 3 1 rfl rfl (xS rfl) rfl (xN _) (xN _) rfl rfl) (ch_ [(1001,1001),(1006,1006),(1007,1007),(1008,1008),(1012,75),(1013,127)] hexpr (FitL.refl _) rfl ⟨⟨_,_,rfl,rfl,rfl⟩,⟨_,_,rfl,rfl,rfl⟩,⟨_,_,rfl,rfl,rfl⟩,⟨_,_,rfl,rfl,rfl⟩,⟨_,_,rfl,rfl,rfl⟩,⟨_,_,rfl,rfl,rfl⟩,trivial⟩ rfl rfl rfl ?_))|(refine ac10 [(1001,1001),(1006,1006),(1007,1007),(1008,1008),(1012,75),(1013,127)] hsets rfl ⟨⟨_,_,rfl,rfl,rfl⟩,⟨_,_,rfl,rfl,rfl⟩,⟨_,_,rfl,rfl,rfl⟩,⟨_,_,rfl,rfl,rfl⟩,⟨_,_,rfl,rfl,rfl⟩,⟨_,_,rfl,rfl,rfl⟩,trivial⟩ rfl rfl rfl ?_)|fail)
  exact h _ ⟨_,_,Weak.refl _,rfl,.refl _,subH.at ⟨rfl,rfl,rfl,rfl,trivial⟩⟩
