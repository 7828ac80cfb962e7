/- Lemmas. -/
import Derived.Test.YtkgcnoghjibiaaaGreatDoorYTc9
namespace Go.Proofs.YtkgcnoghjibiaaaGreatDoor.Ab
open Go Go.RowKit
set_option linter.unusedSimpArgs false
set_option maxHeartbeats 4000000
set_option maxRecDepth 100000
variable {G:Nat->Option AV}
abbrev sI15:=gIxF (G:=G) et15 Tryz.func277 (by kernel_rfl)
abbrev sC16:=gCtF (G:=G) sI15 Tryz.func253 (by kernel_rfl)
def c35 (sz ty:Nat):AFun:=⟨8,2,[.t 3],
 (.seq (.reg [⟨some 2,.box ty sz (.t 0),none⟩,⟨some 3,.mov (.k (.bool false)),none⟩] [1,2])
(.seq (.reg [⟨some 4,.load (.t 1),none⟩,⟨some 5,.loadN (.t 2) sz,none⟩,⟨some 6,.callv (.t 4) [.t 5],none⟩,⟨some 7,.un .not (.t 6),none⟩,⟨some 3,.mov (.t 7),none⟩] [3])
.ret))⟩
theorem g12 {α:Type} {e:α->AV} {sz ty n:Nat} (E:Enc e sz) {fn:Func} (hfn:Tryz.prog.funcs[n]?=some fn) (hck:chkF Tryz.prog fn (c35 sz ty)=true) (f:Nat) (caps:List AV) (hf:b11 Tryz.prog f=true) (hcap:OkC caps) (x:α) (b:Bool) (hc:PQ G f (e x::caps) (.bool b)):PQ G n [e x,.eptr (.fn f caps) 0] (.bool (!b)):=by
 refine P_.of_runs hfn hck rfl (Runs.of λΦ h=>?_);unfold c35;have h0:=E.1;obtain⟨cs,hcs,hcl,hc1,hpu,hvk,_,_⟩:=E.2 x;have ht:cs.take sz=cs:=zT (by omega);have hsl:sz<=cs.length:=by omega
 have hs2:(cs.length==sz)=true:=by simpa using hcl
 rw[hcs] at hc ⊢;simp -implicitDefEqProofs only[go_sem,hcap.purge,hcs,ht,hsl,hpu,hc1,hs2,h0,xO,yS,wX,yR];refine⟨hf,ac_ hc (by simp [v10,flat,viewBs,viewB,viewK,hvk,hcap.viewBs]) rfl ?_⟩;simp -implicitDefEqProofs only[go_sem,hcap.purge,hpu];exact hq_ h
abbrev ta32:=g12 (G:=G) (ty:=144) et15 Tryz.func254 (by kernel_rfl)
def cTnF (ty m k:Nat):AFun:=⟨9,2,[.t 4],
 (.seq (.reg [⟨some 3,.box ty 1 (.t 1),none⟩,⟨some 4,.mov (.k (.bool false)),none⟩] [0,3])
(.seq (.reg [⟨some 5,.mov (.t 0),none⟩,⟨some 6,.mkfn m [.t 3],none⟩,⟨some 7,.call k [.t 5,.t 6],none⟩,⟨some 8,.un .not (.t 7),none⟩,⟨some 4,.mov (.t 8),none⟩] [4])
.ret))⟩
theorem gTnF {α:Type} {e:α->AV} {sz ty n m k:Nat} (hm:∀(f:Nat) (caps:List AV) (_ :b11 Tryz.prog f=true) (_ :OkC caps) (x:α) (b:Bool) (_ :PQ G f (e x::caps) (.bool b)),PQ G m [e x,.eptr (.fn f caps) 0] (.bool (!b)))
  (hk:∀(f:Nat) (caps:List AV) (_ :b11 Tryz.prog f=true) (_ :OkC caps) (p:α->Bool) (l:List α) (_ :∀x∈l,PQ G f (e x::caps) (.bool (p x))) (_ :l.length<9223372036854775807),PQ G k [.seq sz (l.map e),.fn f caps] (.bool (l.any p))) (hbm:b11 Tryz.prog m=true)
  {fn:Func} (hfn:Tryz.prog.funcs[n]?=some fn) (hck:chkF Tryz.prog fn (cTnF ty m k)=true) (f:Nat) (caps:List AV) (hf:b11 Tryz.prog f=true) (hcap:OkC caps) (p:α->Bool) (l:List α) (hp:∀x∈l,PQ G f (e x::caps) (.bool (p x))) (hl:l.length<9223372036854775807):
  PQ G n [.seq sz (l.map e),.fn f caps] (.bool (l.all p)):=by
 have hc:=hk m [.eptr (.fn f caps) 0] hbm of_ (λx=>!p x) l (λx hx=>hm f caps hf hcap x _ (hp x hx)) hl;refine P_.of_runs hfn hck rfl (Runs.of λΦ h=>?_);unfold cTnF;simp -implicitDefEqProofs only[go_sem,hcap.purge];refine ac_ hc (by simp [v10,flat,flat.go,viewBs,viewAll,view,view.go,viewB,viewK,viewK.go,hget,hcap.viewBs,hcap.viewAll,hcap.view,hcap.viewK]) rfl ?_;simp -implicitDefEqProofs only[go_sem,hcap.purge];exact h _ ⟨_,_,rfl,rfl,fitB (by rw[List.all_eq_not_any_not])⟩
abbrev ta35:=gTnF (G:=G) (ty:=290) ta32 sC16 (by kernel_rfl) Tryz.func195 (by kernel_rfl)
abbrev sI14:=gIxF (G:=G) et12 Tryz.func248 (by kernel_rfl)
abbrev sC15:=gCtF (G:=G) sI14 Tryz.func181 (by kernel_rfl)
abbrev ta28:=g12 (G:=G) (ty:=119) et12 Tryz.func182 (by kernel_rfl)
abbrev ta34:=gTnF (G:=G) (ty:=208) ta28 sC15 (by kernel_rfl) Tryz.func95 (by kernel_rfl)
abbrev sI12:=gIxF (G:=G) et10 Tryz.func250 (by kernel_rfl)
abbrev sC13:=gCtF (G:=G) sI12 Tryz.func185 (by kernel_rfl)
abbrev ta26:=g12 (G:=G) (ty:=126) et10 Tryz.func186 (by kernel_rfl)
abbrev ta31:=gTnF (G:=G) (ty:=210) ta26 sC13 (by kernel_rfl) Tryz.func99 (by kernel_rfl)
abbrev sI13:=gIxF (G:=G) et11 Tryz.func251 (by kernel_rfl)
abbrev sC14:=gCtF (G:=G) sI13 Tryz.func187 (by kernel_rfl)
abbrev ta27:=g12 (G:=G) (ty:=130) et11 Tryz.func188 (by kernel_rfl)
abbrev ta33:=gTnF (G:=G) (ty:=212) ta27 sC14 (by kernel_rfl) Tryz.func101 (by kernel_rfl)
abbrev sI11:=gIxF (G:=G) et_ Tryz.func252 (by kernel_rfl)
abbrev sC12:=gCtF (G:=G) sI11 Tryz.func192 (by kernel_rfl)
abbrev ta25:=g12 (G:=G) (ty:=73) et_ Tryz.func193 (by kernel_rfl)
abbrev ta30:=gTnF (G:=G) (ty:=74) ta25 sC12 (by kernel_rfl) Tryz.func104 (by kernel_rfl)
theorem et16:Enc t28 4:=⟨by decide,λ_ =>⟨_,rfl,rfl,rfl,λ_ =>rfl,λ_ _ =>rfl,λ_ =>rfl,rfl⟩⟩
abbrev sIaTaTp_:=gIxF (G:=G) et16 Tryz.func93 (by kernel_rfl)
abbrev sCaTaTp_:=gCtF (G:=G) sIaTaTp_ Tryz.func58 (by kernel_rfl)
abbrev taaT1p_:=g12 (G:=G) (ty:=78) et16 Tryz.func194 (by kernel_rfl)
abbrev taaTp_:=gTnF (G:=G) (ty:=141) taaT1p_ sCaTaTp_ (by kernel_rfl) Tryz.func106 (by kernel_rfl)
theorem et17:Enc tTrV 13:=⟨by decide,λ_ =>⟨_,rfl,rfl,rfl,λ_ =>rfl,λ_ _ =>rfl,λ_ =>rfl,rfl⟩⟩
abbrev sI10:=gIxF (G:=G) et17 Tryz.func92 (by kernel_rfl)
abbrev sC10:=gCtF (G:=G) sI10 Tryz.func56 (by kernel_rfl)
abbrev ta24:=g12 (G:=G) (ty:=82) et17 Tryz.func197 (by kernel_rfl)
abbrev ta29:=gTnF (G:=G) (ty:=83) ta24 sC10 (by kernel_rfl) Tryz.func108 (by kernel_rfl)
theorem tai1p_ (f:Nat) (caps:List AV) (hf:b11 Tryz.prog f=true) (hcap:OkC caps) (x:Int) (b:Bool) (hc:PQ G f (iv x::caps) (.bool b)):PQ G 184 [iv x,.eptr (.fn f caps) 0] (.bool (!b)):=by
 refine ptai1z λΦ h=>?_;unfold ctai1z
 skip
 simp -implicitDefEqProofs only[go_sem,hcap.purge];refine⟨hf,ac_ hc (by simp [v10,flat,flat.go,viewBs,viewAll,view,view.go,viewB,viewK,viewK.go,hget,hcap.viewBs,hcap.viewAll,hcap.view,hcap.viewK]) rfl ?_⟩;simp -implicitDefEqProofs only[go_sem,hcap.purge];exact hq_ h
abbrev taip_:=gTnF (G:=G) (ty:=202) tai1p_ sC17 (by kernel_rfl) Tryz.func97 (by kernel_rfl)
theorem tkp_ (k:Int) (h1:1<=k∧k<=3):PQ G 98 [iv k] (.bool true):=by
 have hc:=vNp_ (G:=G) k;have hn:(k_ k != [])=true:=by
  have:k=1∨k=2∨k=3:=by omega
  rcases this with rfl | rfl | rfl <;> rfl
 refine ptk_ λΦ h=>?_;unfold ctk_;rw[<-hn] at h;generalize k_ k=s at*
 repeat' (first|simp -implicitDefEqProofs only[go_sem]|apply ai__<;>intro hb|refine ac_ hc rfl rfl ?_|fail)
 exact hq_ h
theorem tnp_ (hG:wg_ G) (s:Str) (hs:n12 s=true):PQ G 94 [.agg [.str s,iv 0,iv 0]] (.bool true):=by
 have hc:=sNp_ (G:=G) hG s;rw[hs] at hc;refine pt11 λΦ h=>?_;unfold ct13
 repeat' (first|simp -implicitDefEqProofs only[go_sem]|apply ai__<;>intro hb|refine ac_ hc rfl rfl ?_|fail)
 exact hq_ h
def T11 (a:TArgT):Prop:=(a.kind=1∧a.name=[]∧a.value.ok=true)∨(a.kind=2∧n12 a.name=true∧a.value=v0)∨(a.kind=3∧a.name=[]∧a.value=v0)
theorem tap_ (hG:wg_ G) (a:TArgT) (ha:T11 a):PQ G 196 [t34 a] (.bool true):=by
 obtain⟨k,n,v⟩:=a;have hv:=vRp_ (G:=G) v;have hn:=sNp_ (G:=G) hG n;refine pt12 λΦ h=>?_;unfold ct15;rcases ha with ⟨h1,h2,h3⟩ | ⟨h1,h2,h3⟩ | ⟨h1,h2,h3⟩
 .simp only at h1 h2 h3;subst h1 h2;rw[h3] at hv;obtain⟨v1,v2,v3,v4⟩:=v;simp only[valV] at hv
  repeat' (first|(simp -implicitDefEqProofs only[go_sem,t34,show (([]:List UInt8)==[])=true from rfl])|apply ai__<;>intro hb|refine ac_ hv rfl rfl ?_|fail)
  exact hq_ h
 .simp only at h1 h2 h3;subst h1 h3;rw[h2] at hn
  repeat' (first|simp -implicitDefEqProofs only[go_sem,t34]|apply ai__<;>intro hb|refine ac_ hn rfl rfl ?_|fail)
  exact hq_ h
 .simp only at h1 h2 h3;subst h1 h2 h3
  repeat' (first|(simp -implicitDefEqProofs only[go_sem,t34,show (([]:List UInt8)==[])=true from rfl])|apply ai__<;>intro hb)
  exact hq_ h
def T10 (s:TSymT):Prop:=n12 s.name=true∧s.args.length<=1000∧∀a∈s.args,T11 a
theorem at12 {α:Type} (l:List α):(l.all λ_ =>true)=true:=by simp
theorem tsp_ (hG:wg_ G) (s:TSymT) (hs:T10 s):PQ G 107 [t28 s] (.bool true):=by
 obtain⟨h1,h2,h3⟩:=hs;have hn:=sNp_ (G:=G) hG s.name;rw[h1] at hn;have hc:=ta35 (G:=G) 196 [] (by kernel_rfl) on_ (λ_ =>true) s.args (λa ha=>tap_ hG a (h3 a ha)) (by omega);rw[at12] at hc;refine pts_ λΦ h=>?_;unfold cts_;obtain⟨n,l⟩:=s
 repeat' (first|simp -implicitDefEqProofs only[go_sem,t28,t17]|apply ai__<;>intro hb|refine ac_ hn rfl rfl ?_|refine ac_ hc rfl rfl ?_|fail)
 exact hq_ h
theorem tR1p_ (hG:wg_ G) (x:DeclT) (h1:n12 x.name=true) (h2:∀k∈x.types,1<=k∧k<=3) (h3:x.types.length<=1000):PQ G 96 [t32 x] (.bool true):=by
 have hn:=tnp_ (G:=G) hG x.name h1;have hc:=taip_ (G:=G) 98 [] (by kernel_rfl) on_ (λ_ =>true) x.types (λk hk=>tkp_ k (h2 k hk)) (by omega);rw[at12] at hc;refine ptR1z λΦ h=>?_;unfold ctR1z;obtain⟨n,l⟩:=x
 repeat' (first|simp -implicitDefEqProofs only[go_sem,t32,i11]|apply ai__<;>intro hb|refine ac_ hn rfl rfl ?_|refine ac_ hc rfl rfl ?_|fail)
 exact hq_ h
theorem tR2p_ (hG:wg_ G) (x:QuantT) (h1:n12 x.name=true) (h2:1<=x.type∧x.type<=3):PQ G 100 [t24 x] (.bool true):=by
 have hn:=tnp_ (G:=G) hG x.name h1;have hc:=tkp_ (G:=G) x.type h2;refine ptR2z λΦ h=>?_;unfold ctR2z
 repeat' (first|simp -implicitDefEqProofs only[go_sem,t24]|apply ai__<;>intro hb|refine ac_ hn rfl rfl ?_|refine ac_ hc rfl rfl ?_|fail)
 exact hq_ h
theorem tR3p_ (hG:wg_ G) (x:FreeT) (h1:n12 x.name=true) (h2:x.init.ok=true):PQ G 102 [t31 x] (.bool true):=by
 have hn:=tnp_ (G:=G) hG x.name h1;have hc:=vRp_ (G:=G) x.init;rw[h2] at hc;refine ptR3z λΦ h=>?_;unfold ctR3z;simp only[valV] at hc
 repeat' (first|simp -implicitDefEqProofs only[go_sem,t31]|apply ai__<;>intro hb|refine ac_ hn rfl rfl ?_|refine ac_ hc rfl rfl ?_|fail)
 exact hq_ h
theorem tR4p_ (hG:wg_ G) (x:StateT) (h1:n12 x.name=true):PQ G 105 [t14 x] (.bool true):=by
 have hn:=tnp_ (G:=G) hG x.name h1;refine ptR4z λΦ h=>?_;unfold ctR4z
 repeat' (first|simp -implicitDefEqProofs only[go_sem,t14]|apply ai__<;>intro hb|refine ac_ hn rfl rfl ?_|fail)
 exact hq_ h
