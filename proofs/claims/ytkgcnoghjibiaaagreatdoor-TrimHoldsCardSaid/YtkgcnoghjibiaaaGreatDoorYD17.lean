/- Lemmas. -/
import Derived.Test.YtkgcnoghjibiaaaGreatDoorYD13
set_option linter.unusedSimpArgs false
set_option maxHeartbeats 4000000
namespace Go.Proofs.YtkgcnoghjibiaaaGreatDoor.Ab
open Go
variable {G:Nat->Option AV}
def argS (q:QeaT) (a:ArgT) (kind:Int):Bool:=
 if a.kind=1 then a.n==0&&(a.value.ok&&a.value.kind==kind)
 else if a.kind=2 then (match at? q.quants a.n with | none=>false | some y=>y.type==kind&&decide (a.value=v0))
 else if a.kind=3 then (match at? q.frees a.n with | none=>false | some y=>y.init.kind==kind&&decide (a.value=v0))
 else a.kind==4&&(a.n==0&&decide (a.value=v0))
theorem cap_ (q:QeaT) (a:ArgT) (kind:Int):PQ G 236 [qeaV q,argV a,iv kind] (.bool (argS q a kind)):=by
 obtain⟨ak,n,⟨vk,vn,vs,vb⟩⟩:=a;refine pca_ λΦ h=>?_;unfold cca_;have hok:=vRp_ (G:=G) ⟨vk,vn,vs,vb⟩;simp only[valV] at hok;have hz:=vz_ ⟨vk,vn,vs,vb⟩;dsimp only at hz;generalize hv:argS q ⟨ak,n,⟨vk,vn,vs,vb⟩⟩ kind=v at*;by_cases h1:ak=1
 .subst h1;simp only[argS,zY] at hv
  repeat' (first|simp -implicitDefEqProofs only[go_sem,argV,qeaV,d_,q_,f_,s_,s10,n_,t_,zQ]|apply ai__<;>intro hb|refine ac_ hok rfl rfl ?_|fail)
  all_goals
   refine h _ ⟨_,_,rfl,rfl,fitB ?_⟩;rw[<-hv];clear h hok hv;simp_all
 by_cases h2:ak=2
 .subst h2;simp only[argS,zY,show ¬(2:Int)=1 by omega,yI] at hv;cases hq:at? q.quants n with
  | none=>
   rw[hq] at hv;have ha:=at?_none hq
   repeat' (first|simp -implicitDefEqProofs only[go_sem,argV,qeaV,d_,q_,f_,s_,s10,n_,t_,zQ]|apply ai__<;>intro hb)
   all_goals first | (exfalso;simp at*;omega) | skip
   all_goals
    refine h _ ⟨_,_,rfl,rfl,fitB ?_⟩;exact hv
  | some y=>
   obtain⟨j,rfl,hy⟩:=at?_some hq;have hj:=(zX.1 hy).1;rw[hq] at hv
   repeat' (first|simp -implicitDefEqProofs only[go_sem,argV,qeaV,d_,q_,f_,s_,s10,n_,t_,zQ,am_ hy,q11]|apply ai__<;>intro hb)
   all_goals first | (exfalso;simp at*;omega) | skip
   all_goals
    refine h _ ⟨_,_,rfl,rfl,fitB ?_⟩;refine Eq.trans ?_ hv;clear h hok hv hq hy;simp only[hz] at*
    all_goals (try clear hz);(try generalize decide ((⟨vk,vn,vs,vb⟩:Val)=v0)=Z at*);simp_all
 by_cases h3:ak=3
 .subst h3;simp only[argS,zY,show ¬(3:Int)=1 by omega,show ¬(3:Int)=2 by omega,yI] at hv;cases hq:at? q.frees n with
  | none=>
   rw[hq] at hv;have ha:=at?_none hq
   repeat' (first|simp -implicitDefEqProofs only[go_sem,argV,qeaV,d_,q_,f_,s_,s10,n_,t_,zQ]|apply ai__<;>intro hb)
   all_goals first | (exfalso;simp at*;omega) | skip
   all_goals
    refine h _ ⟨_,_,rfl,rfl,fitB ?_⟩;exact hv
  | some y=>
   obtain⟨j,rfl,hy⟩:=at?_some hq;have hj:=(zX.1 hy).1;rw[hq] at hv
   repeat' (first|simp -implicitDefEqProofs only[go_sem,argV,qeaV,d_,q_,f_,s_,s10,n_,t_,zQ,am_ hy,f10]|apply ai__<;>intro hb)
   all_goals first | (exfalso;simp at*;omega) | skip
   all_goals
    refine h _ ⟨_,_,rfl,rfl,fitB ?_⟩;refine Eq.trans ?_ hv;clear h hok hv hq hy;simp only[hz] at*
    all_goals (try clear hz);(try generalize decide ((⟨vk,vn,vs,vb⟩:Val)=v0)=Z at*);simp_all
 .simp only[argS,zK h1,zK h2,zK h3] at hv
  repeat' (first|simp -implicitDefEqProofs only[go_sem,argV,qeaV,d_,q_,f_,s_,s10,n_,t_,zQ]|apply ai__<;>intro hb)
  all_goals first | (exfalso;simp at*;omega) | skip
  all_goals
   refine h _ ⟨_,_,rfl,rfl,fitB ?_⟩;refine Eq.trans ?_ hv;clear h hok hv;simp only[hz] at*
   all_goals (try clear hz);(try generalize decide ((⟨vk,vn,vs,vb⟩:Val)=v0)=Z at*);simp_all
theorem pap_ (q:QeaT) (a:ArgT) (kind:Int):PQ G 142 [qeaV q,argV a,iv kind] (.bool (argS q a kind)):=by
 obtain⟨ak,n,⟨vk,vn,vs,vb⟩⟩:=a;refine pp42 λΦ h=>?_;unfold cp43;have hok:=rRp_ (G:=G) ⟨vk,vn,vs,vb⟩;simp only[valV] at hok;have hz:=vz_ ⟨vk,vn,vs,vb⟩;dsimp only at hz;generalize hv:argS q ⟨ak,n,⟨vk,vn,vs,vb⟩⟩ kind=v at*;by_cases h1:ak=1
 .subst h1;simp only[argS,zY] at hv
  repeat' (first|simp -implicitDefEqProofs only[go_sem,argV,qeaV,d_,q_,f_,s_,s10,n_,t_,zQ]|apply ai__<;>intro hb|refine ac_ hok rfl rfl ?_|fail)
  all_goals
   refine h _ ⟨_,_,rfl,rfl,fitB ?_⟩;rw[<-hv];clear h hok hv;simp_all
 by_cases h2:ak=2
 .subst h2;simp only[argS,zY,show ¬(2:Int)=1 by omega,yI] at hv;cases hq:at? q.quants n with
  | none=>
   rw[hq] at hv;have ha:=at?_none hq
   repeat' (first|simp -implicitDefEqProofs only[go_sem,argV,qeaV,d_,q_,f_,s_,s10,n_,t_,zQ]|apply ai__<;>intro hb)
   all_goals first | (exfalso;simp at*;omega) | skip
   all_goals
    refine h _ ⟨_,_,rfl,rfl,fitB ?_⟩;exact hv
  | some y=>
   obtain⟨j,rfl,hy⟩:=at?_some hq;have hj:=(zX.1 hy).1;rw[hq] at hv
   repeat' (first|simp -implicitDefEqProofs only[go_sem,argV,qeaV,d_,q_,f_,s_,s10,n_,t_,zQ,am_ hy,q11]|apply ai__<;>intro hb)
   all_goals first | (exfalso;simp at*;omega) | skip
   all_goals
    refine h _ ⟨_,_,rfl,rfl,fitB ?_⟩;refine Eq.trans ?_ hv;clear h hok hv hq hy;simp only[hz] at*
    all_goals (try clear hz);(try generalize decide ((⟨vk,vn,vs,vb⟩:Val)=v0)=Z at*);simp_all
 by_cases h3:ak=3
 .subst h3;simp only[argS,zY,show ¬(3:Int)=1 by omega,show ¬(3:Int)=2 by omega,yI] at hv;cases hq:at? q.frees n with
  | none=>
   rw[hq] at hv;have ha:=at?_none hq
   repeat' (first|simp -implicitDefEqProofs only[go_sem,argV,qeaV,d_,q_,f_,s_,s10,n_,t_,zQ]|apply ai__<;>intro hb)
   all_goals first | (exfalso;simp at*;omega) | skip
   all_goals
    refine h _ ⟨_,_,rfl,rfl,fitB ?_⟩;exact hv
  | some y=>
   obtain⟨j,rfl,hy⟩:=at?_some hq;have hj:=(zX.1 hy).1;rw[hq] at hv
   repeat' (first|simp -implicitDefEqProofs only[go_sem,argV,qeaV,d_,q_,f_,s_,s10,n_,t_,zQ,am_ hy,f10]|apply ai__<;>intro hb)
   all_goals first | (exfalso;simp at*;omega) | skip
   all_goals
    refine h _ ⟨_,_,rfl,rfl,fitB ?_⟩;refine Eq.trans ?_ hv;clear h hok hv hq hy;simp only[hz] at*
    all_goals (try clear hz);(try generalize decide ((⟨vk,vn,vs,vb⟩:Val)=v0)=Z at*);simp_all
 .simp only[argS,zK h1,zK h2,zK h3] at hv
  repeat' (first|simp -implicitDefEqProofs only[go_sem,argV,qeaV,d_,q_,f_,s_,s10,n_,t_,zQ]|apply ai__<;>intro hb)
  all_goals first | (exfalso;simp at*;omega) | skip
  all_goals
   refine h _ ⟨_,_,rfl,rfl,fitB ?_⟩;refine Eq.trans ?_ hv;clear h hok hv;simp only[hz] at*
   all_goals (try clear hz);(try generalize decide ((⟨vk,vn,vs,vb⟩:Val)=v0)=Z at*);simp_all
theorem cs13 (q:QeaT) (a:ArgT) (kind:Int):PQ G 235 [argV a,iv kind,.eptr (qeaV q) 0] (.bool (argS q a kind)):=by
 refine pc12 λΦ h=>?_;unfold cc21;have hc:=cap_ (G:=G) q a kind;simp only[argV,qeaV,d_,q_,f_,s_,s10,n_,t_] at hc
 repeat' (first|simp -implicitDefEqProofs only[go_sem,argV,qeaV,d_,q_,f_,s_,s10,n_,t_]|apply ai__<;>intro hb|refine ac_ hc rfl rfl ?_|fail)
 all_goals (refine h _ ⟨_,_,rfl,rfl,fe_ ?_⟩;clear h;first | rfl | simp_all)
theorem okC_q (q:QeaT):OkC [.eptr (qeaV q) 0]:=⟨λ_ =>rfl,λ_ _ =>rfl,λ_ =>rfl,λ_ _ =>rfl,λ_ =>rfl,λ_ =>rfl⟩
def zipB {α β:Type} (p:α->β->Bool):List α->List β->Bool
 | [],[]=>true
 | x::r,y::s=>p x y&&zipB p r s
 | _,_ =>false
theorem zl_ {α β:Type} {p:α->β->Bool}:∀{l:List α} {k:List β},¬l.length=k.length->zipB p l k=false
 | [],[],h=>absurd rfl h
 | [],_ ::_,_ =>rfl
 | _ ::_,[],_ =>rfl
 | x::r,y::s,h=>by rw[zipB,zl_ (by simpa using h),tN]
theorem zs10 {α β:Type} {p:α->β->Bool} {l:List α} {k:List β} {i:Nat} {x:α} {y:β} (hx:l[i]?=some x) (hy:k[i]?=some y):zipB p (l.drop i) (k.drop i)=(p x y&&zipB p (l.drop (i+1)) (k.drop (i+1))):=by obtain⟨h1,rfl⟩:=zX.1 hx;obtain⟨h2,rfl⟩:=zX.1 hy;rw[xU h1,xU h2,zipB]
theorem ze_ {α β:Type} {p:α->β->Bool} {l:List α} {k:List β} {i:Nat} (h1:l.length<=i) (h2:k.length<=i):zipB p (l.drop i) (k.drop i)=true:=by rw[yO h1,yO h2,zipB]
theorem sEp_ (q:QeaT) (l:List ArgT) (k:List Int) (hl:l.length<9223372036854775807):PQ G 234 [a10 l,i11 k,.fn 235 [.eptr (qeaV q) 0]] (.bool (zipB (argS q) l k)):=by
 refine psEaAiaAi_ λΦ h=>?_;unfold csEaAiaAi_;by_cases hlk:l.length=k.length
 .generalize hv:zipB (argS q) l k=v at*
  repeat' (first|simp -implicitDefEqProofs only[go_sem,a10,i11,zQ]|apply ai__<;>intro hb)
  .exfalso;simp at*;omega
  refine al_ (λn st=>∃i:Nat,i+n=l.length∧st=⟨32,[(1,i11 k),(2,.fn 235 [.eptr (qeaV q) 0]),(15,a10 l),(16,iv l.length),(17,iv i)],[]⟩∧zipB (argS q) (l.drop i) (k.drop i)=v) l.length ⟨0,by simp,rfl,hv⟩ ?_;rintro I hI n st ⟨i,hi,rfl,hno⟩;simp -implicitDefEqProofs only[go_sem];refine⟨λhlt=>?_,λhge=>?_⟩
  .have hlt':i<l.length:=by omega
   obtain⟨x,hx,hm⟩:=as10 hlt';obtain⟨y,hy,hm'⟩:=as10 (l:=k) (i:=i) (by omega);have hw:=ws_ hlt';have hc:=cs13 (G:=G) q x y;rw[zs10 hx hy] at hno;simp only[argV] at hc
   repeat' (first|simp -implicitDefEqProofs only[go_sem,am_ hx,am_ hy,argV,a10,i11,hw]|apply ai__<;>intro hb|(refine⟨by kernel_rfl,ac_ hc rfl rfl ?_⟩)|fail)
   .rw[show argS q x y=false by simpa using hb,yM] at hno;exact h _ ⟨_,_,rfl,rfl,fitB hno⟩
   .rw[show argS q x y=true by simpa using hb,yR] at hno;exact aa_ (n - 1) (by omega) (hI _ _ ⟨i+1,by omega,rfl,hno⟩)
  .rw[ze_ (by omega) (by omega)] at hno;exact h _ ⟨_,_,rfl,rfl,fitB hno⟩
 .have hv:=zl_ (p:=argS q) hlk
  repeat' (first|simp -implicitDefEqProofs only[go_sem,a10,i11,zQ]|apply ai__<;>intro hb)
  all_goals first | exact h _ ⟨_,_,rfl,rfl,fitB hv.symm⟩ | (exfalso;simp at*;omega)
def symS (q:QeaT) (s:SymT):Bool:=
 match at? q.decls s.event with
 | none=>false
 | some d=>zipB (argS q) s.args d.types
theorem cs19 (q:QeaT) (s:SymT) (hs:s.args.length<9223372036854775807):PQ G 169 [qeaV q,symV s] (.bool (symS q s)):=by
 obtain⟨ev,args⟩:=s;refine pc14 λΦ h=>?_;unfold cc23;generalize hv:symS q ⟨ev,args⟩=v at*;simp only[symS] at hv;cases hd:at? q.decls ev with
 | none=>
  rw[hd] at hv;have hn:=at?_none hd
  repeat' (first|simp -implicitDefEqProofs only[go_sem,symV,qeaV,d_,q_,f_,s_,s10,n_,t_,zQ]|apply ai__<;>intro hb)
  all_goals first | exact h _ ⟨_,_,rfl,rfl,fitB hv⟩ | (exfalso;first | omega | (simp at*;done) | (simp at*;omega))
 | some d=>
  obtain⟨j,rfl,hj⟩:=at?_some hd;have hlt:=(zX.1 hj).1;rw[hd] at hv;dsimp only at hv hs;have hc:=sEp_ (G:=G) q args d.types hs;simp only[a10,i11,qeaV,d_,q_,f_,s_,s10,n_,t_] at hc
  repeat' (first|simp -implicitDefEqProofs only[go_sem,symV,qeaV,d_,q_,f_,s_,s10,n_,t_,zQ,am_ hj,d12,a10,i11]|apply ai__<;>intro hb|refine ac_ hc rfl rfl ?_|fail)
  all_goals first | exact h _ ⟨_,_,rfl,rfl,fitB hv⟩ | (exfalso;first | omega | (simp at*;done) | (simp at*;omega))
theorem csp_ (a b:SymT) (ha:a.args.length<9223372036854775807) (hb:b.args.length<9223372036854775807):PQ G 172 [symV a,symV b] (.bool (decide (a=b))):=by
 obtain⟨e,l⟩:=a;obtain⟨f,k⟩:=b;refine pcs_ λΦ h=>?_;unfold ccs_;have hc:=sEaAaAp_ (G:=G) l k ha hb
 repeat' (first|simp -implicitDefEqProofs only[go_sem,symV,a10]|apply ai__<;>intro hb|refine ac_ hc rfl rfl ?_|fail)
 all_goals
  refine h _ ⟨_,_,rfl,rfl,fitB ?_⟩;simp_all
theorem rS11 (a b:SymT) (ha:a.args.length<9223372036854775807):PQ G 68 [symV a,symV b] (.bool (decide (a=b))):=by
 obtain⟨e,l⟩:=a;obtain⟨f,k⟩:=b;dsimp only at ha;refine pp10 λΦ h=>?_;unfold cpS_;generalize hv:decide ((⟨e,l⟩:SymT)=⟨f,k⟩)=v at*;by_cases hc:e=f∧l.length=k.length
 .obtain⟨rfl,hlk⟩:=hc;have hv':zipB (λ(x y:ArgT)=>x==y) l k=v:=by
   rw[<-hv];clear hv h ha
   induction l generalizing k with
   | nil=>cases k with
    | nil=>simp [zipB]
    | cons y s=>simp at hlk
   | cons x r ih=>cases k with
    | nil=>simp at hlk
    | cons y s=>
     rw[zipB,ih s (by simpa using hlk),yY];simp
  clear hv
  repeat' (first|simp -implicitDefEqProofs only[go_sem,symV,a10,zQ]|apply ai__<;>intro hb)
  all_goals try (exfalso;first | omega | (simp at*;done) | (simp at*;omega))
  refine al_ (λn st=>∃i:Nat,i+n=l.length∧st=⟨38,[(2,.ref 2 0 0),(3,.ref 3 0 0),(5,iv i)],[(2,⟨false,106,2,[symV ⟨e,l⟩]⟩),(3,⟨false,106,2,[symV ⟨e,k⟩]⟩)]⟩∧zipB (λ(x y:ArgT)=>x==y) (l.drop i) (k.drop i)=v) l.length ⟨0,by simp,rfl,hv'⟩ ?_;rintro I hI n st ⟨i,hi,rfl,hno⟩;simp -implicitDefEqProofs only[go_sem,symV,a10,zQ];refine⟨λhlt=>?_,λhge=>?_⟩
  .have hlt':i<l.length:=by omega
   obtain⟨x,hx,hm⟩:=as10 hlt';obtain⟨y,hy,hm'⟩:=as10 (l:=k) (i:=i) (by omega);have hw:=ws_ hlt';rw[zs10 hx hy] at hno;have hxy:=a38 x y
   repeat' (first|simp -implicitDefEqProofs only[go_sem,am_ hx,am_ hy,argV,symV,a10,hw]|apply ai__<;>intro hb)
   .rw[show (x==y)=false by rw[hxy,wX];simpa only[yX] using hb,yM] at hno;exact h _ ⟨_,_,rfl,rfl,fitB hno⟩
   .rw[show (x==y)=true by rw[hxy];simpa using hb,yR] at hno;exact aa_ (n - 1) (by omega) (hI _ _ ⟨i+1,by omega,rfl,hno⟩)
  .rw[ze_ (by omega) (by omega)] at hno;exact h _ ⟨_,_,rfl,rfl,fitB hno⟩
 .have hv':v=false:=by
   rw[<-hv,yQ];intro e;cases e;exact hc ⟨rfl,rfl⟩
  repeat' (first|simp -implicitDefEqProofs only[go_sem,symV,a10,zQ]|apply ai__<;>intro hb)
  all_goals first | exact h _ ⟨_,_,rfl,rfl,fitB hv'.symm⟩ | (exfalso;first | omega | (simp at*;done) | (simp at*;omega))
def n13 (s:SymT) (v:Int):Bool:=s.args.any λx=>x.kind==2&&x.n==v
theorem rN10 (s:SymT) (hs:s.args.length<9223372036854775807) (v:Int):PQ G 69 [symV s,iv v] (.bool (n13 s v)):=by
 obtain⟨e,l⟩:=s;dsimp only at hs;refine ppN_ λΦ h=>?_;unfold cpN_;generalize hv:n13 ⟨e,l⟩ v=w at*;simp only[n13] at hv;simp -implicitDefEqProofs only[go_sem,symV,a10,zQ];refine al_ (λn st=>∃i:Nat,i+n=l.length∧st=⟨30,[(1,iv v),(2,.ref 2 0 0),(5,iv i)],[(2,⟨false,106,2,[symV ⟨e,l⟩]⟩)]⟩∧((l.drop i).any λx=>x.kind==2&&x.n==v)=w) l.length ⟨0,by simp,rfl,hv⟩ ?_;rintro I hI n st ⟨i,hi,rfl,hno⟩;simp -implicitDefEqProofs only[go_sem,symV,a10,zQ];refine⟨λhlt=>?_,λhge=>?_⟩
 .have hlt':i<l.length:=by omega
  obtain⟨x,hx,hm⟩:=as10 hlt';have hw:=ws_ hlt';rw[show l.drop i=x::l.drop (i+1) by obtain⟨h1,rfl⟩:=zX.1 hx;exact xU h1,List.any_cons] at hno
  repeat' (first|simp -implicitDefEqProofs only[go_sem,am_ hx,argV,symV,a10,hw]|apply ai__<;>intro hb)
  all_goals first
   | (refine h _ ⟨_,_,rfl,rfl,fitB ?_⟩;rw[<-hno];simp_all;done)
   | (refine aa_ (n - 1) (by omega) (hI _ _ ⟨i+1,by omega,rfl,?_⟩);rw[<-hno];simp_all;done)
 .rw[yO (by omega),List.any_nil] at hno;exact h _ ⟨_,_,rfl,rfl,fitB hno⟩
theorem rb10 (q:QeaT) (hq:q.nodes.length<=1000000) (s:SymT) (hs:s.args.length<9223372036854775807) (a b:Int) (ha:0<=a) (hb:b<=q.nodes.length):PQ G 66 [qeaV q,symV s,iv a,iv b] (.bool ((mid q.nodes a b).all λx=>!(x.op==2)||n13 s x.a)):=by
 obtain⟨a,rfl⟩:=zA ha;refine pp19 λΦ h=>?_;unfold cp21;generalize hv:((mid q.nodes a b).all λx=>!(x.op==2)||n13 s x.a)=w at*;simp -implicitDefEqProofs only[go_sem,symV,a10,qeaV,d_,q_,f_,s_,s10,n_,t_,zQ];refine al_ (λn st=>∃i:Nat,n=b.toNat - i∧st=⟨34,[(3,iv b),(4,.ref 4 0 0),(5,.ref 5 0 0),(9,iv i)],[(4,⟨false,30,9,[qeaV q]⟩),(5,⟨false,106,2,[symV s]⟩)]⟩∧((mid q.nodes i b).all λx=>!(x.op==2)||n13 s x.a)=w) (b.toNat - a) ⟨a,by simp,rfl,hv⟩ ?_;rintro I hI n st ⟨i,hi,rfl,hno⟩;simp -implicitDefEqProofs only[go_sem,symV,a10,qeaV,d_,q_,f_,s_,s10,n_,t_,zQ];refine⟨λhlt=>?_,λhge=>?_⟩
 .have hlt':i<q.nodes.length:=by omega
  obtain⟨x,hx,hm⟩:=as10 hlt';have hw:=ws_ hlt';have hc:=rN10 (G:=G) s hs x.a;simp only[symV,a10] at hc;rw[show mid q.nodes i b=x::mid q.nodes (i+1:Nat) b by obtain⟨h1,rfl⟩:=zX.1 hx;unfold mid;rw[show (i:Int).toNat=i from zP i,show ((i+1:Nat):Int).toNat=i+1 from zP _,xU h1,show b.toNat - i=(b.toNat - (i+1))+1 by omega,uQ],uL] at hno
  repeat' (first|simp -implicitDefEqProofs only[go_sem,am_ hx,n11,symV,a10,hw]|apply ai__<;>intro hb|refine ac_ hc rfl rfl ?_|fail)
  all_goals first
   | (refine h _ ⟨_,_,rfl,rfl,fitB ?_⟩;rw[<-hno];simp_all;done)
   | (refine aa_ (n - 1) (by omega) (hI _ _ ⟨i+1,by omega,rfl,?_⟩);rw[<-hno];simp_all;done)
 .rw[show mid q.nodes i b=[] by unfold mid;rw[show b.toNat - (i:Int).toNat=0 by omega,wY],List.all_nil] at hno;exact h _ ⟨_,_,rfl,rfl,fitB hno⟩
theorem os13 (s:SymT):OkC [.eptr (symV s) 0]:=⟨λ_ =>rfl,λ_ _ =>rfl,λ_ =>rfl,λ_ _ =>rfl,λ_ =>rfl,λ_ =>rfl⟩
theorem oi11 (n:Int):OkC [.eptr (iv n) 0]:=⟨λ_ =>rfl,λ_ _ =>rfl,λ_ =>rfl,λ_ _ =>rfl,λ_ =>rfl,λ_ =>rfl⟩
theorem oq_ (q:QeaT) (a:AV):OkC [.eptr (qeaV q) 0,.eptr a 0]:=⟨λ_ =>rfl,λ_ _ =>rfl,λ_ =>rfl,λ_ _ =>rfl,λ_ =>rfl,λ_ =>rfl⟩
theorem cs11p_ (x s:SymT) (hx:x.args.length<9223372036854775807) (hs:s.args.length<9223372036854775807):PQ G 171 [symV x,.eptr (symV s) 0] (.bool (decide (x=s))):=by
 refine pcs11z λΦ h=>?_;unfold ccs11z;have hc:=csp_ (G:=G) x s hx hs;simp only[symV,a10] at hc
 repeat' (first|simp -implicitDefEqProofs only[go_sem,symV,a10]|apply ai__<;>intro hb|refine ac_ hc rfl rfl ?_|fail)
 all_goals (refine h _ ⟨_,_,rfl,rfl,fe_ ?_⟩;clear h;first | rfl | simp_all)
def s32 (q:QeaT) (i:Nat) (s:SymT):Bool:=symS q s&&idxF (λx=>decide (x=s)) q.symbols==(i:Int)
theorem cs1p_ (q:QeaT) (hq:q.Few) (i:Nat) (s:SymT) (hs:s∈q.symbols):PQ G 168 [iv i,symV s,.eptr (qeaV q) 0] (.bool (s32 q i s)):=by
 have hb:=hq.args s hs;refine pcs1z λΦ h=>?_;unfold ccs1z;have h1:=cs19 (G:=G) q s (by omega);have h2:=sIaSaSp_ (G:=G) 171 [.eptr (symV s) 0] (by kernel_rfl) (os13 s) (λx=>decide (x=s)) q.symbols (λx hx=>cs11p_ x s (by have:=hq.args x hx;omega) (by omega)) (by have:=hq.symbols;omega);unfold s32 at h;generalize idxF (λx=>decide (x=s)) q.symbols=k at*;generalize symS q s=b at*;obtain⟨e,l⟩:=s;simp only[symV,a10,qeaV,d_,q_,f_,s_,s10,n_,t_] at h1 h2
 repeat' (first|simp -implicitDefEqProofs only[go_sem,symV,a10,qeaV,d_,q_,f_,s_,s10,n_,t_]|apply ai__<;>intro hb|refine ac_ h1 rfl rfl ?_|refine ac_ h2 rfl rfl ?_|fail)
 all_goals (refine h _ ⟨_,_,rfl,rfl,fe_ ?_⟩;clear h;first | rfl | simp_all)
theorem cs2p_ (q:QeaT) (hq:q.Few) (o:List Int) (ho:o.length<=1000000) (i:Nat) (hi:i<=1000000) (s:Int):PQ G 174 [iv i,iv s,.eptr (qeaV q) 0,.eptr (.seq 1 (o.map iv)) 0] (.bool (s==(q.symbols.length:Int) - o.length+i)):=by
 have hs:=hq.symbols;refine pcs2z λΦ h=>?_;unfold ccs2z;have w1:IntKind.i64.wrap ((q.symbols.length:Int) - o.length)=(q.symbols.length:Int) - o.length:=wi_ (by omega) (by omega);have w2:IntKind.i64.wrap ((q.symbols.length:Int) - o.length+i)=(q.symbols.length:Int) - o.length+i:=wi_ (by omega) (by omega)
 repeat' (first|simp -implicitDefEqProofs only[go_sem,qeaV,d_,q_,f_,s_,s10,n_,t_,zQ,w1,w2]|apply ai__<;>intro hb)
 all_goals (refine h _ ⟨_,_,rfl,rfl,fe_ ?_⟩;clear h;first | rfl | simp_all)
theorem cs31p_ (s:SymT) (hs:s.args.length<9223372036854775807) (v:Int):PQ G 178 [symV s,.eptr (iv v) 0] (.bool (s13 s v)):=by
 refine pcs31z λΦ h=>?_;unfold ccs31z;have hc:=cSp_ (G:=G) s hs v;simp only[symV,a10] at hc
 repeat' (first|simp -implicitDefEqProofs only[go_sem,symV,a10]|apply ai__<;>intro hb|refine ac_ hc rfl rfl ?_|fail)
 all_goals (refine h _ ⟨_,_,rfl,rfl,fe_ ?_⟩;clear h;first | rfl | simp_all)
theorem cs3p_ (q:QeaT) (hq:q.Few) (v:Int) (y:QuantT):PQ G 176 [iv v,q11 y,.eptr (qeaV q) 0] (.bool (q.symbols.any λs=>s13 s v)):=by
 refine pcs3z λΦ h=>?_;unfold ccs3z;have h2:=sCaSaSp_ (G:=G) 178 [.eptr (iv v) 0] (by kernel_rfl) (oi11 v) (λs=>s13 s v) q.symbols (λx hx=>cs31p_ x (by have:=hq.args x hx;omega) v) (by have:=hq.symbols;omega)
 repeat' (first|simp -implicitDefEqProofs only[go_sem,q11,qeaV,d_,q_,f_,s_,s10,n_,t_]|apply ai__<;>intro hb|refine ac_ h2 rfl rfl ?_|fail)
 all_goals (refine h _ ⟨_,_,rfl,rfl,fe_ ?_⟩;clear h;first | rfl | simp_all)
def o10 (o:List Int) (s:Int):List Int:=if (o.any λx=>s==x)=true then o else o++[s]
def ordL (o:List Int):List TransT->List Int
 | []=>o
 | t::r=>ordL (o10 o t.symbol) r
theorem os10 {l:List TransT} {i:Nat} {t:TransT} (ht:l[i]?=some t) (o:List Int):ordL o (l.drop i)=ordL (o10 o t.symbol) (l.drop (i+1)):=by obtain⟨h1,rfl⟩:=zX.1 ht;rw[xU h1,ordL]
theorem ol_ (o:List Int) (s:Int):(o10 o s).length<=o.length+1:=by unfold o10;split <;> simp
def s23 (q:QeaT):Bool:=
 allI (λi s=>s==(q.symbols.length:Int) - (ordL [] q.trans).length+(i:Int)) (ordL [] q.trans)&&(allI (s32 q) q.symbols&&allI (λv _ =>q.symbols.any λs=>s13 s (v:Int)) q.quants)
def ordH (q:QeaT) (o:List Int):List (Nat×Box):=
 if o=[] then [(1,⟨false,30,9,[qeaV q]⟩),(3,⟨false,40,1,[.nils]⟩)]
 else [(1,⟨false,30,9,[qeaV q]⟩),(3,⟨false,40,1,[.arr 23 0 o.length]⟩),(23,⟨true,3,1,o.map iv⟩)]
theorem cs15 (q:QeaT) (hq:q.Few):PQ G 78 [qeaV q] (.bool (s23 q)):=by
 have htl:=hq.trans;refine pc13 λΦ h=>?_;unfold cc22;simp -implicitDefEqProofs only[go_sem,qeaV,d_,q_,f_,s_,s10,n_,t_,zQ];refine al_ (λn st=>∃(i:Nat) (o:List Int),i+n=q.trans.length∧st=⟨41,[(1,.ref 1 0 0),(3,.ref 3 0 0),(8,t_ q.trans),(9,iv q.trans.length),(10,iv i)],ordH q o⟩∧o.length<=i∧ordL [] q.trans=ordL o (q.trans.drop i)) q.trans.length ⟨0,[],by simp,rfl,by simp,rfl⟩ ?_;rintro I hI n st ⟨i,o,hi,rfl,hol,hord⟩;have hnext:∀t,q.trans[i]?=some t->a13 I n ⟨41,[(1,.ref 1 0 0),(3,.ref 3 0 0),(8,t_ q.trans),(9,iv q.trans.length),(10,iv (i+1:Nat))],ordH q (o10 o t.symbol)⟩:=λt ht=>by have hlt:=(zX.1 ht).1;rw[os10 ht] at hord;exact aa_ (n - 1) (by omega) (hI _ _ ⟨i+1,_,by omega,rfl,by have:=ol_ o t.symbol;omega,hord⟩)
 have hend:q.trans.length<=i->ordL [] q.trans=o:=λh=>by rw[hord,yO h,ordL]
 have hallS:=caaSp_ (G:=G) 168 [.eptr (qeaV q) 0] (by kernel_rfl) (okC_q q) (s32 q) q.symbols (λi x hx=>cs1p_ q hq i x (zG hx)) (by have:=hq.symbols;omega);have hallQ:=caaQp_ (G:=G) 176 [.eptr (qeaV q) 0] (by kernel_rfl) (okC_q q) (λv _ =>q.symbols.any λs=>s13 s (v:Int)) q.quants (λi x _ =>cs3p_ q hq i x) (by have:=hq.quants;omega);simp only[qeaV,d_,q_,f_,s_,s10,n_,t_] at hallS hallQ;by_cases ho:o=[]
 .subst ho;have e0:ordH q []=[(1,⟨false,30,9,[qeaV q]⟩),(3,⟨false,40,1,[.nils]⟩)]:=rfl;rw[e0];simp -implicitDefEqProofs only[go_sem,qeaV,d_,q_,f_,s_,s10,n_,t_,zQ];refine⟨λhlt=>?_,λhge=>?_⟩
  .have hlt':i<q.trans.length:=by omega
   obtain⟨t,ht,hm⟩:=as10 hlt';have hw:=ws_ hlt';have hnext:=hnext t ht;have e1:ordH q (o10 [] t.symbol)=[(1,⟨false,30,9,[qeaV q]⟩),(3,⟨false,40,1,[.arr 23 0 1]⟩),(23,⟨true,3,1,[iv t.symbol]⟩)]:=rfl;rw[e1] at hnext;have hc:=sCiip_ (G:=G) [] t.symbol (by simp)
   repeat' (first|simp -implicitDefEqProofs only[go_sem,am_ ht,t11,s18,hw]|apply ai__<;>intro hb|(refine acf_ hc rfl ⟨.nil _,.refl _,trivial⟩ rfl ?_)|fail)
   all_goals first | exact hnext | (exfalso;simp at hb;done)
  .have hord:=hend (by omega);have hall0:=caip_ (G:=G) 174 [.eptr (qeaV q) 0,.eptr .nils 0] (by kernel_rfl) (oq_ q .nils) (λi s=>s==(q.symbols.length:Int) - (0:Nat)+(i:Int)) [] (λi x hx=>by simp at hx) (by simp);simp only[qeaV,d_,q_,f_,s_,s10,n_,t_] at hall0
   repeat' (first|simp -implicitDefEqProofs only[go_sem,qeaV,d_,q_,f_,s_,s10,n_,t_,zQ]|apply ai__<;>intro hb|(refine acf_ hall0 rfl ⟨.nil _,.refl _,trivial⟩ rfl ?_)|refine ac_ hallS rfl rfl ?_|refine ac_ hallQ rfl rfl ?_|fail)
   all_goals first | (exfalso;simp [allI] at hb;done) | skip
   all_goals
    refine h _ ⟨_,_,rfl,rfl,fitB ?_⟩;rw[s23,hord];clear h hallS hallQ hall0;generalize allI (s32 q) q.symbols=a at*;generalize allI (λv _ =>q.symbols.any λs=>s13 s (v:Int)) q.quants=b at*;rw[show allI (λi s=>s==(q.symbols.length:Int) - (([]:List Int).length:Nat)+(i:Int)) []=true from rfl] at*;simp_all
 .have htk:List.take o.length (List.map iv o)=List.map iv o:=zT (by simp);have e0:ordH q o=[(1,⟨false,30,9,[qeaV q]⟩),(3,⟨false,40,1,[.arr 23 0 o.length]⟩),(23,⟨true,3,1,o.map iv⟩)]:=zK ho;rw[e0];simp -implicitDefEqProofs only[go_sem,qeaV,d_,q_,f_,s_,s10,n_,t_,zQ];refine⟨λhlt=>?_,λhge=>?_⟩
  .have hlt':i<q.trans.length:=by omega
   obtain⟨t,ht,hm⟩:=as10 hlt';have hw:=ws_ hlt';have hnext:=hnext t ht;have hbd:(o.length+1)*8<=140737488355328:=by omega
   have hc:=sCiip_ (G:=G) o t.symbol (by omega)
   repeat' (first|simp -implicitDefEqProofs only[go_sem,am_ ht,t11,s18,hw,hbd,zQ]|apply ai__<;>intro hb|(refine ac_ hc (by simp [v10,flat,viewBs,viewB,viewK,hget,htk]) rfl ?_)|fail)
   .have e1:o10 o t.symbol=o++[t.symbol]:=zK (by simp only[yX] at hb;rw[hb];exact Bool.false_ne_true);have e2:ordH q (o10 o t.symbol)=[(1,⟨false,30,9,[qeaV q]⟩),(3,⟨false,40,1,[.arr 23 0 (o.length+1)]⟩),(23,⟨true,3,1,o.map iv++[iv t.symbol]⟩)]:=by
     rw[e1,ordH,zK (by simp)];simp
    rw[e2] at hnext;exact hnext
   .have e1:o10 o t.symbol=o:=zY (by simpa using hb);rw[e1,e0] at hnext;exact hnext
  .have hord:=hend (by omega);have hallO:=caip_ (G:=G) 174 [.eptr (qeaV q) 0,.eptr (.seq 1 (o.map iv)) 0] (by kernel_rfl) (oq_ q _) (λi s=>s==(q.symbols.length:Int) - o.length+(i:Int)) o (λi x hx=>cs2p_ q hq o (by omega) i (by have:=(zX.1 hx).1;omega) x) (by omega);simp only[qeaV,d_,q_,f_,s_,s10,n_,t_] at hallO
   repeat' (first|simp -implicitDefEqProofs only[go_sem,qeaV,d_,q_,f_,s_,s10,n_,t_,zQ]|apply ai__<;>intro hb|(refine ac_ hallO (by simp [v10,flat,viewBs,viewB,viewK,viewK.go,hget,htk]) rfl ?_)|refine ac_ hallS rfl rfl ?_|refine ac_ hallQ rfl rfl ?_|fail)
   all_goals
    refine h _ ⟨_,_,rfl,rfl,fitB ?_⟩;rw[s23,hord];clear h hallS hallQ hallO htk e0 hend hnext hord hI hi hol ho;generalize allI (s32 q) q.symbols=a at*;generalize allI (λv _ =>q.symbols.any λs=>s13 s (v:Int)) q.quants=b at*;generalize allI (λi s=>s==(q.symbols.length:Int) - o.length+(i:Int)) o=c at*;simp_all
theorem rs15 (q:QeaT) (s:SymT) (hs:s.args.length<9223372036854775807):PQ G 67 [qeaV q,symV s] (.bool (symS q s)):=by
 obtain⟨ev,l⟩:=s;dsimp only at hs;refine pp13 λΦ h=>?_;unfold cp14;generalize hv:symS q ⟨ev,l⟩=v at*;simp only[symS] at hv;cases hd:at? q.decls ev with
 | none=>
  rw[hd] at hv;have hn:=at?_none hd
  repeat' (first|simp -implicitDefEqProofs only[go_sem,symV,a10,qeaV,d_,q_,f_,s_,s10,n_,t_,zQ]|apply ai__<;>intro hb)
  all_goals first | exact h _ ⟨_,_,rfl,rfl,fitB hv⟩ | (exfalso;first | omega | (simp at*;done) | (simp at*;omega))
 | some d=>
  obtain⟨j,rfl,hj⟩:=at?_some hd;have hlt:=(zX.1 hj).1;rw[hd] at hv;dsimp only at hv;by_cases hlk:l.length=d.types.length
  .repeat' (first|simp -implicitDefEqProofs only[go_sem,symV,a10,qeaV,d_,q_,f_,s_,s10,n_,t_,zQ,am_ hj,d12,i11]|apply ai__<;>intro hb)
   all_goals try (exfalso;first | omega | (simp at*;done) | (simp at*;omega))
   refine al_ (λn st=>∃i:Nat,i+n=l.length∧st=⟨56,[(2,.ref 2 0 0),(3,.ref 3 0 0),(5,iv i)],[(2,⟨false,30,9,[qeaV q]⟩),(3,⟨false,106,2,[symV ⟨j,l⟩]⟩)]⟩∧zipB (argS q) (l.drop i) (d.types.drop i)=v) l.length ⟨0,by simp,rfl,hv⟩ ?_;rintro I hI n st ⟨i,hi,rfl,hno⟩;simp -implicitDefEqProofs only[go_sem,symV,a10,qeaV,d_,q_,f_,s_,s10,n_,t_,zQ];refine⟨λhlt=>?_,λhge=>?_⟩
   .have hlt':i<l.length:=by omega
    obtain⟨x,hx,hm⟩:=as10 hlt';obtain⟨y,hy,hm'⟩:=as10 (l:=d.types) (i:=i) (by omega);have hw:=ws_ hlt';have hc:=pap_ (G:=G) q x y;rw[zs10 hx hy] at hno;simp only[argV,qeaV,d_,q_,f_,s_,s10,n_,t_] at hc
    repeat' (first|simp -implicitDefEqProofs only[go_sem,am_ hx,am_ hj,am_ hy,argV,symV,a10,d12,i11,qeaV,d_,q_,f_,s_,s10,n_,t_,hw]|apply ai__<;>intro hb|refine ac_ hc rfl rfl ?_|fail)
    .rw[show argS q x y=false by simpa using hb,yM] at hno;exact h _ ⟨_,_,rfl,rfl,fitB hno⟩
    .rw[show argS q x y=true by simpa using hb,yR] at hno;exact aa_ (n - 1) (by omega) (hI _ _ ⟨i+1,by omega,rfl,hno⟩)
   .rw[ze_ (by omega) (by omega)] at hno;exact h _ ⟨_,_,rfl,rfl,fitB hno⟩
  .rw[zl_ hlk] at hv
   repeat' (first|simp -implicitDefEqProofs only[go_sem,symV,a10,qeaV,d_,q_,f_,s_,s10,n_,t_,zQ,am_ hj,d12,i11]|apply ai__<;>intro hb)
   all_goals first | exact h _ ⟨_,_,rfl,rfl,fitB hv⟩ | (exfalso;first | omega | (simp at*;done) | (simp at*;omega))
