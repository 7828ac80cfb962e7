/-
  Lemmas. No claim is proved here.
-/
import Derived.Test.YtkadalpaeglmnaaGreatDoorYD13
namespace Go.Proofs.YtkadalpaeglmnaaGreatDoor.Ab
open Go
set_option linter.unusedSimpArgs false
set_option maxHeartbeats 4000000
variable {G:Nat→Option AV}
def argS (q:QeaT) (a:ArgT) (kind:Int):Bool:=
 if a.kind=1 then a.n==0&&(a.value.ok&&a.value.kind==kind)
 else if a.kind=2 then (match at? q.quants a.n with | none=>false | some y=>y.type==kind&&decide (a.value=v0))
 else if a.kind=3 then (match at? q.frees a.n with | none=>false | some y=>y.init.kind==kind&&decide (a.value=v0))
 else a.kind==4&&(a.n==0&&decide (a.value=v0))
theorem cap_ (q:QeaT) (a:ArgT) (kind:Int):PQ G nca_ [qeaV q,argV a,iv kind] (.bool (argS q a kind)):=by
 obtain⟨ak,n,⟨vk,vn,vs,vb⟩⟩:=a;refine pca_ fun Φ h=>?_;unfold cca_;have hok:=vRp_ (G:=G) ⟨vk,vn,vs,vb⟩;simp only[valV] at hok;have hz:=vz_ ⟨vk,vn,vs,vb⟩;dsimp only at hz;generalize hv:argS q ⟨ak,n,⟨vk,vn,vs,vb⟩⟩ kind=v at*;by_cases h1:ak=1
 ·subst h1;simp only[argS,zG] at hv
  repeat' (first|simp -implicitDefEqProofs only[go_sem,argV,qeaV,d_,q_,f_,s_,s10,n_,t_,zX]|refine ag_ (fun hb=>?_) (fun hb=>?_)|refine⟨fun hb=>?_,fun hb=>?_⟩|refine ac_ hok rfl rfl ?_|fail)
  all_goals
   refine h _ ⟨_,_,rfl,rfl,fitB ?_⟩;rw[←hv];clear h hok hv;simp_all
 by_cases h2:ak=2
 ·subst h2;simp only[argS,zG,show ¬(2:Int)=1 by omega,yA] at hv;cases hq:at? q.quants n with
  | none=>
   rw[hq] at hv;have ha:=at?_none hq
   repeat' (first|simp -implicitDefEqProofs only[go_sem,argV,qeaV,d_,q_,f_,s_,s10,n_,t_,zX]|refine ag_ (fun hb=>?_) (fun hb=>?_)|refine⟨fun hb=>?_,fun hb=>?_⟩|fail)
   all_goals first | (exfalso;simp at*;omega) | skip
   all_goals
    refine h _ ⟨_,_,rfl,rfl,fitB ?_⟩;exact hv
  | some y=>
   obtain⟨j,rfl,hy⟩:=at?_some hq;have hj:=(zZ.1 hy).1;rw[hq] at hv
   repeat' (first|simp -implicitDefEqProofs only[go_sem,argV,qeaV,d_,q_,f_,s_,s10,n_,t_,zX,am_ hy,q11]|refine ag_ (fun hb=>?_) (fun hb=>?_)|refine⟨fun hb=>?_,fun hb=>?_⟩|fail)
   all_goals first | (exfalso;simp at*;omega) | skip
   all_goals
    refine h _ ⟨_,_,rfl,rfl,fitB ?_⟩;refine Eq.trans ?_ hv;clear h hok hv hq hy;simp only[hz] at*
    all_goals (try clear hz);(try generalize decide ((⟨vk,vn,vs,vb⟩:Val)=v0)=Z at*);simp_all
 by_cases h3:ak=3
 ·subst h3;simp only[argS,zG,show ¬(3:Int)=1 by omega,show ¬(3:Int)=2 by omega,yA] at hv;cases hq:at? q.frees n with
  | none=>
   rw[hq] at hv;have ha:=at?_none hq
   repeat' (first|simp -implicitDefEqProofs only[go_sem,argV,qeaV,d_,q_,f_,s_,s10,n_,t_,zX]|refine ag_ (fun hb=>?_) (fun hb=>?_)|refine⟨fun hb=>?_,fun hb=>?_⟩|fail)
   all_goals first | (exfalso;simp at*;omega) | skip
   all_goals
    refine h _ ⟨_,_,rfl,rfl,fitB ?_⟩;exact hv
  | some y=>
   obtain⟨j,rfl,hy⟩:=at?_some hq;have hj:=(zZ.1 hy).1;rw[hq] at hv
   repeat' (first|simp -implicitDefEqProofs only[go_sem,argV,qeaV,d_,q_,f_,s_,s10,n_,t_,zX,am_ hy,f10]|refine ag_ (fun hb=>?_) (fun hb=>?_)|refine⟨fun hb=>?_,fun hb=>?_⟩|fail)
   all_goals first | (exfalso;simp at*;omega) | skip
   all_goals
    refine h _ ⟨_,_,rfl,rfl,fitB ?_⟩;refine Eq.trans ?_ hv;clear h hok hv hq hy;simp only[hz] at*
    all_goals (try clear hz);(try generalize decide ((⟨vk,vn,vs,vb⟩:Val)=v0)=Z at*);simp_all
 ·simp only[argS,zF h1,zF h2,zF h3] at hv
  repeat' (first|simp -implicitDefEqProofs only[go_sem,argV,qeaV,d_,q_,f_,s_,s10,n_,t_,zX]|refine ag_ (fun hb=>?_) (fun hb=>?_)|refine⟨fun hb=>?_,fun hb=>?_⟩|fail)
  all_goals first | (exfalso;simp at*;omega) | skip
  all_goals
   refine h _ ⟨_,_,rfl,rfl,fitB ?_⟩;refine Eq.trans ?_ hv;clear h hok hv;simp only[hz] at*
   all_goals (try clear hz);(try generalize decide ((⟨vk,vn,vs,vb⟩:Val)=v0)=Z at*);simp_all
theorem pap_ (q:QeaT) (a:ArgT) (kind:Int):PQ G np29 [qeaV q,argV a,iv kind] (.bool (argS q a kind)):=by
 obtain⟨ak,n,⟨vk,vn,vs,vb⟩⟩:=a;refine pp26 fun Φ h=>?_;unfold cp26;have hok:=rRp_ (G:=G) ⟨vk,vn,vs,vb⟩;simp only[valV] at hok;have hz:=vz_ ⟨vk,vn,vs,vb⟩;dsimp only at hz;generalize hv:argS q ⟨ak,n,⟨vk,vn,vs,vb⟩⟩ kind=v at*;by_cases h1:ak=1
 ·subst h1;simp only[argS,zG] at hv
  repeat' (first|simp -implicitDefEqProofs only[go_sem,argV,qeaV,d_,q_,f_,s_,s10,n_,t_,zX]|refine ag_ (fun hb=>?_) (fun hb=>?_)|refine⟨fun hb=>?_,fun hb=>?_⟩|refine ac_ hok rfl rfl ?_|fail)
  all_goals
   refine h _ ⟨_,_,rfl,rfl,fitB ?_⟩;rw[←hv];clear h hok hv;simp_all
 by_cases h2:ak=2
 ·subst h2;simp only[argS,zG,show ¬(2:Int)=1 by omega,yA] at hv;cases hq:at? q.quants n with
  | none=>
   rw[hq] at hv;have ha:=at?_none hq
   repeat' (first|simp -implicitDefEqProofs only[go_sem,argV,qeaV,d_,q_,f_,s_,s10,n_,t_,zX]|refine ag_ (fun hb=>?_) (fun hb=>?_)|refine⟨fun hb=>?_,fun hb=>?_⟩|fail)
   all_goals first | (exfalso;simp at*;omega) | skip
   all_goals
    refine h _ ⟨_,_,rfl,rfl,fitB ?_⟩;exact hv
  | some y=>
   obtain⟨j,rfl,hy⟩:=at?_some hq;have hj:=(zZ.1 hy).1;rw[hq] at hv
   repeat' (first|simp -implicitDefEqProofs only[go_sem,argV,qeaV,d_,q_,f_,s_,s10,n_,t_,zX,am_ hy,q11]|refine ag_ (fun hb=>?_) (fun hb=>?_)|refine⟨fun hb=>?_,fun hb=>?_⟩|fail)
   all_goals first | (exfalso;simp at*;omega) | skip
   all_goals
    refine h _ ⟨_,_,rfl,rfl,fitB ?_⟩;refine Eq.trans ?_ hv;clear h hok hv hq hy;simp only[hz] at*
    all_goals (try clear hz);(try generalize decide ((⟨vk,vn,vs,vb⟩:Val)=v0)=Z at*);simp_all
 by_cases h3:ak=3
 ·subst h3;simp only[argS,zG,show ¬(3:Int)=1 by omega,show ¬(3:Int)=2 by omega,yA] at hv;cases hq:at? q.frees n with
  | none=>
   rw[hq] at hv;have ha:=at?_none hq
   repeat' (first|simp -implicitDefEqProofs only[go_sem,argV,qeaV,d_,q_,f_,s_,s10,n_,t_,zX]|refine ag_ (fun hb=>?_) (fun hb=>?_)|refine⟨fun hb=>?_,fun hb=>?_⟩|fail)
   all_goals first | (exfalso;simp at*;omega) | skip
   all_goals
    refine h _ ⟨_,_,rfl,rfl,fitB ?_⟩;exact hv
  | some y=>
   obtain⟨j,rfl,hy⟩:=at?_some hq;have hj:=(zZ.1 hy).1;rw[hq] at hv
   repeat' (first|simp -implicitDefEqProofs only[go_sem,argV,qeaV,d_,q_,f_,s_,s10,n_,t_,zX,am_ hy,f10]|refine ag_ (fun hb=>?_) (fun hb=>?_)|refine⟨fun hb=>?_,fun hb=>?_⟩|fail)
   all_goals first | (exfalso;simp at*;omega) | skip
   all_goals
    refine h _ ⟨_,_,rfl,rfl,fitB ?_⟩;refine Eq.trans ?_ hv;clear h hok hv hq hy;simp only[hz] at*
    all_goals (try clear hz);(try generalize decide ((⟨vk,vn,vs,vb⟩:Val)=v0)=Z at*);simp_all
 ·simp only[argS,zF h1,zF h2,zF h3] at hv
  repeat' (first|simp -implicitDefEqProofs only[go_sem,argV,qeaV,d_,q_,f_,s_,s10,n_,t_,zX]|refine ag_ (fun hb=>?_) (fun hb=>?_)|refine⟨fun hb=>?_,fun hb=>?_⟩|fail)
  all_goals first | (exfalso;simp at*;omega) | skip
  all_goals
   refine h _ ⟨_,_,rfl,rfl,fitB ?_⟩;refine Eq.trans ?_ hv;clear h hok hv;simp only[hz] at*
   all_goals (try clear hz);(try generalize decide ((⟨vk,vn,vs,vb⟩:Val)=v0)=Z at*);simp_all
theorem cs30 (q:QeaT) (a:ArgT) (kind:Int):PQ G ncs1_ [argV a,iv kind,.eptr (qeaV q) 0] (.bool (argS q a kind)):=by
 refine pc12 fun Φ h=>?_;unfold cc22;have hc:=cap_ (G:=G) q a kind;simp only[argV,qeaV,d_,q_,f_,s_,s10,n_,t_] at hc
 repeat' (first|simp -implicitDefEqProofs only[go_sem,argV,qeaV,d_,q_,f_,s_,s10,n_,t_]|refine ag_ (fun hb=>?_) (fun hb=>?_)|refine⟨fun hb=>?_,fun hb=>?_⟩|refine ac_ hc rfl rfl ?_|fail)
 all_goals (refine h _ ⟨_,_,rfl,rfl,fe_ ?_⟩;clear h;first | rfl | simp_all)
theorem okC_q (q:QeaT):OkC [.eptr (qeaV q) 0]:=⟨fun _ =>rfl,fun _ _ =>rfl,fun _ =>rfl,fun _ _ =>rfl,fun _ =>rfl,fun _ =>rfl⟩
def zipB {α β:Type} (p:α→β→Bool):List α→List β→Bool
 | [],[]=>true
 | x::r,y::s=>p x y&&zipB p r s
 | _,_ =>false
theorem zl_ {α β:Type} {p:α→β→Bool}:∀{l:List α} {k:List β},¬l.length=k.length→zipB p l k=false
 | [],[],h=>absurd rfl h
 | [],_ ::_,_ =>rfl
 | _ ::_,[],_ =>rfl
 | x::r,y::s,h=>by rw[zipB,zl_ (by simpa using h),tM]
theorem zs10 {α β:Type} {p:α→β→Bool} {l:List α} {k:List β} {i:Nat} {x:α} {y:β} (hx:l[i]? =some x) (hy:k[i]? =some y):zipB p (l.drop i) (k.drop i)=(p x y&&zipB p (l.drop (i+1)) (k.drop (i+1))):=by obtain⟨h1,rfl⟩:=zZ.1 hx;obtain⟨h2,rfl⟩:=zZ.1 hy;rw[yD h1,yD h2,zipB]
theorem ze_ {α β:Type} {p:α→β→Bool} {l:List α} {k:List β} {i:Nat} (h1:l.length≤i) (h2:k.length≤i):zipB p (l.drop i) (k.drop i)=true:=by rw[xH h1,xH h2,zipB]
theorem sEp_ (q:QeaT) (l:List ArgT) (k:List Int) (hl:l.length<9223372036854775807):PQ G nsEaAiaAi_ [a_ l,i10 k,.fn ncs1_ [.eptr (qeaV q) 0]] (.bool (zipB (argS q) l k)):=by
 refine psEaAiaAi_ fun Φ h=>?_;unfold csEaAiaAi_;by_cases hlk:l.length=k.length
 ·generalize hv:zipB (argS q) l k=v at*
  repeat' (first|simp -implicitDefEqProofs only[go_sem,a_,i10,zX]|refine ag_ (fun hb=>?_) (fun hb=>?_)|refine⟨fun hb=>?_,fun hb=>?_⟩|fail)
  ·exfalso;simp at*;omega
  refine al_ (fun n st=>∃i:Nat,i+n=l.length∧st=⟨32,[(1,i10 k),(2,.fn ncs1_ [.eptr (qeaV q) 0]),(15,a_ l),(16,iv l.length),(17,iv i)],[]⟩∧zipB (argS q) (l.drop i) (k.drop i)=v) l.length ⟨0,by simp,rfl,hv⟩ ?_;rintro I hI n st ⟨i,hi,rfl,hno⟩;simp -implicitDefEqProofs only[go_sem];refine⟨fun hlt=>?_,fun hge=>?_⟩
  ·have hlt':i<l.length:=by omega
   obtain⟨x,hx,hm⟩:=as10 hlt';obtain⟨y,hy,hm'⟩:=as10 (l:=k) (i:=i) (by omega);have hw:=ws_ hlt' (by omega);have hc:=cs30 (G:=G) q x y;rw[zs10 hx hy] at hno;simp only[argV] at hc
   repeat' (first|simp -implicitDefEqProofs only[go_sem,am_ hx,am_ hy,argV,a_,i10,hw]|refine ag_ (fun hb=>?_) (fun hb=>?_)|refine⟨fun hb=>?_,fun hb=>?_⟩|(refine⟨by kernel_rfl,ac_ hc rfl rfl ?_⟩)|fail)
   ·rw[show argS q x y=false by simpa using hb,xQ] at hno;exact h _ ⟨_,_,rfl,rfl,fitB hno⟩
   ·rw[show argS q x y=true by simpa using hb,xG] at hno;exact aa_ (n - 1) (by omega) (hI _ _ ⟨i+1,by omega,rfl,hno⟩)
  ·rw[ze_ (by omega) (by omega)] at hno;exact h _ ⟨_,_,rfl,rfl,fitB hno⟩
 ·have hv:=zl_ (p:=argS q) hlk
  repeat' (first|simp -implicitDefEqProofs only[go_sem,a_,i10,zX]|refine ag_ (fun hb=>?_) (fun hb=>?_)|refine⟨fun hb=>?_,fun hb=>?_⟩|fail)
  all_goals first | exact h _ ⟨_,_,rfl,rfl,fitB hv.symm⟩ | (exfalso;simp at*;omega)
def symS (q:QeaT) (s:SymT):Bool:=
 match at? q.decls s.event with
 | none=>false
 | some d=>zipB (argS q) s.args d.types
theorem cs36 (q:QeaT) (s:SymT) (hs:s.args.length<9223372036854775807):PQ G nc24 [qeaV q,symV s] (.bool (symS q s)):=by
 obtain⟨ev,args⟩:=s;refine pc14 fun Φ h=>?_;unfold cc24;generalize hv:symS q ⟨ev,args⟩=v at*;simp only[symS] at hv;cases hd:at? q.decls ev with
 | none=>
  rw[hd] at hv;have hn:=at?_none hd
  repeat' (first|simp -implicitDefEqProofs only[go_sem,symV,qeaV,d_,q_,f_,s_,s10,n_,t_,zX]|refine ag_ (fun hb=>?_) (fun hb=>?_)|refine⟨fun hb=>?_,fun hb=>?_⟩|fail)
  all_goals first | exact h _ ⟨_,_,rfl,rfl,fitB hv⟩ | (exfalso;first | omega | (simp at*;done) | (simp at*;omega))
 | some d=>
  obtain⟨j,rfl,hj⟩:=at?_some hd;have hlt:=(zZ.1 hj).1;rw[hd] at hv;dsimp only at hv hs;have hc:=sEp_ (G:=G) q args d.types hs;simp only[a_,i10,qeaV,d_,q_,f_,s_,s10,n_,t_] at hc
  repeat' (first|simp -implicitDefEqProofs only[go_sem,symV,qeaV,d_,q_,f_,s_,s10,n_,t_,zX,am_ hj,d11,a_,i10]|refine ag_ (fun hb=>?_) (fun hb=>?_)|refine⟨fun hb=>?_,fun hb=>?_⟩|refine ac_ hc rfl rfl ?_|fail)
  all_goals first | exact h _ ⟨_,_,rfl,rfl,fitB hv⟩ | (exfalso;first | omega | (simp at*;done) | (simp at*;omega))
theorem csp_ (a b:SymT) (ha:a.args.length<9223372036854775807) (hb:b.args.length<9223372036854775807):PQ G ncs_ [symV a,symV b] (.bool (decide (a=b))):=by
 obtain⟨e,l⟩:=a;obtain⟨f,k⟩:=b;refine pcs_ fun Φ h=>?_;unfold ccs_;have hc:=sEaAaAp_ (G:=G) l k ha hb
 repeat' (first|simp -implicitDefEqProofs only[go_sem,symV,a_]|refine ag_ (fun hb=>?_) (fun hb=>?_)|refine⟨fun hb=>?_,fun hb=>?_⟩|refine ac_ hc rfl rfl ?_|fail)
 all_goals
  refine h _ ⟨_,_,rfl,rfl,fitB ?_⟩;simp_all
