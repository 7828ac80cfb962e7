/- Lemmas. -/
import Derived.Test.YtkgcnoghjibiaaaGreatDoorYTa1
import Derived.Test.YtkgcnoghjibiaaaGreatDoorYTw7
set_option linter.unusedSimpArgs false
set_option maxHeartbeats 4000000
set_option maxRecDepth 100000
namespace Go.Proofs.YtkgcnoghjibiaaaGreatDoor.Ab
open Go Go.RowKit
variable {G:Nat->Option AV}
theorem t48 (a b:TArgT):(a==b)=(a.kind==b.kind&&(a.name==b.name&&(a.value.kind==b.value.kind&&(a.value.int==b.value.int&&(a.value.str==b.value.str&&(a.value.bool==b.value.bool&&true)))))):=by obtain⟨a1,a2,a3,a4,a5,a6⟩:=a;obtain⟨b1,b2,b3,b4,b5,b6⟩:=b;rw[yY];simp
theorem tkaTp_ (f:Nat) (caps:List AV) (hf:b11 Tryz.prog f=true) (hcap:OkC caps) (p:StateT->Bool) (l:List StateT) (hp:∀x∈l,PQ G f (t14 x::caps) (.bool (p x))) (hl:l.length<=1000000):
  NQ G 19 [.seq 5 (l.map t14),.fn f caps] (.seq 5 ((l.filter p).map t14)):=by
 refine P10.of_runs (fn:=Tryz.f19) (A:=ctkaT_) Tryz.func19 ktkaT_ rfl (R11.of λΦ h=>?_);unfold ctkaT_;simp -implicitDefEqProofs only[go_sem,zQ,hcap.purge];refine al_ (λn st=>∃(i:Nat) (m:List StateT),i+n=l.length∧st=⟨23,[(1,.fn f caps),(5,.arr 5 0 m.length),(8,.seq 5 (l.map t14)),(9,iv l.length),(10,iv i)],[(4,⟨true,73,5,[]⟩),(5,⟨true,73,5,m.map t14⟩)]⟩∧m=(l.take i).filter p) l.length ⟨0,[],by simp,rfl,rfl⟩ ?_;rintro I hI n st ⟨i,m,hi,rfl,hm⟩;have hml:m.length<=i:=by rw[hm];refine vY (xH _ _) ?_;simp;omega
 simp -implicitDefEqProofs only[go_sem,zQ];refine⟨λhlt=>?_,λhge=>?_⟩
 .have hlt':i<l.length:=by omega
  obtain⟨x,hx,hxm⟩:=as10 hlt';have hw:=ws_ hlt';have hc:=hp x hxm;have hb1:(m.length+1)*40<=140737488355328:=by omega
  have hnx:=ft_ (p:=p) hx;rw[<-hm] at hnx;simp only[t14] at hc;cases hu:p x with
  | true=>
   rw[hu] at hc;rw[hu,zY rfl] at hnx;simp -implicitDefEqProofs only[go_sem,am_ hx,hcap.purge,t14];refine⟨hf,ac_ hc (by simp [v10,flat,flat.go,viewBs,viewAll,view,view.go,viewB,viewK,viewK.go,hcap.viewBs,hcap.viewAll,hcap.view,t14]) rfl ?_⟩;simp -implicitDefEqProofs only[go_sem,hw,hcap.purge,hb1,zQ,t14];exact aa_ (n - 1) (by omega) (hI _ _ ⟨i+1,m++[x],by omega,by simp [t14],hnx.symm⟩)
  | false=>
   rw[hu] at hc;rw[hu,zK (by simp),xT] at hnx;simp -implicitDefEqProofs only[go_sem,am_ hx,hcap.purge,t14];refine⟨hf,ac_ hc (by simp [v10,flat,flat.go,viewBs,viewAll,view,view.go,viewB,viewK,viewK.go,hcap.viewBs,hcap.viewAll,hcap.view,t14]) rfl ?_⟩;simp -implicitDefEqProofs only[go_sem,hw,hcap.purge,hb1,zQ,t14];exact aa_ (n - 1) (by omega) (hI _ _ ⟨i+1,m,by omega,rfl,hnx.symm⟩)
 .rw[zT (by omega)] at hm;rw[<-hm] at h;clear hI hm
  try (simp -implicitDefEqProofs only[go_sem,hcap.purge])
  refine h _ ⟨5,_,⟨true,73,5,m.map t14⟩,rfl,by simp [hget],rfl,xN _,by simp,λe he=>?_,?_⟩
  .obtain⟨y,_,rfl⟩:=zI.1 he;rfl
  .simp only;rw[zT (by simp)]
theorem sEaTaTp_ (k l:List TArgT) (hk:k.length<9223372036854775807) (hl:l.length<9223372036854775807):PQ G 54 [.seq 8 (k.map t34),.seq 8 (l.map t34)] (.bool (decide (k=l))):=by
 refine psEaTaT_ λΦ h=>?_;unfold csEaTaT_;simp -implicitDefEqProofs only[go_sem,zQ];refine⟨λhb=>?_,λhb=>?_⟩
 .refine h _ ⟨_,_,rfl,rfl,fitB ?_⟩;symm;rw[yQ];rintro rfl;simp at hb
 .have hkl:k.length=l.length:=by
   have:(k.length:Int)=l.length:=by simpa using hb
   omega
  refine al_ (λn st=>∃i:Nat,i+n=k.length∧st=⟨26,[(0,.seq 8 (k.map t34)),(1,.seq 8 (l.map t34)),(12,iv k.length),(13,iv i)],[]⟩∧∀j x y,j<i->k[j]?=some x->l[j]?=some y->(x==y)=true) k.length ⟨0,by simp,rfl,λj x y hj=>by omega⟩ ?_;rintro I hI n st ⟨i,hi,rfl,hall⟩;simp -implicitDefEqProofs only[go_sem];refine⟨λhlt=>?_,λhge=>?_⟩
  .have hlt':i<k.length:=by omega
   obtain⟨x,hx,hm⟩:=as10 hlt';obtain⟨y,hy,hm'⟩:=as10 (l:=l) (i:=i) (by omega);have hw:=ws_ hlt';have fin:(x==y)=true->a13 I n ⟨26,[(0,.seq 8 (k.map t34)),(1,.seq 8 (l.map t34)),(12,iv k.length),(13,iv (i+1:Nat))],[]⟩:=λhv=>aa_ (n - 1) (by omega) (hI _ _ ⟨i+1,by omega,rfl,λj a b hj ha hb=>by
    by_cases e:j=i
    .subst e;rw[hx] at ha;cases ha;rw[hy] at hb;cases hb;exact hv
    .exact hall j a b (by omega) ha hb⟩)
   simp -implicitDefEqProofs only[go_sem,am_ hx,am_ hy,t34];refine⟨λhb=>?_,λhb=>?_⟩
   .have hv:(x==y)=false:=by
     cases hxy:(x==y) with
     | false=>rfl
     | true=>exfalso;have:=eq_of_beq hxy;subst this;simp at hb
    refine h _ ⟨_,_,rfl,rfl,fitB ?_⟩;symm;rw[yQ];rintro rfl;rw[hx] at hy;cases hy;simp at hv
   .have hv:(x==y)=true:=by rw[t48];simpa using hb
    simp -implicitDefEqProofs only[go_sem,hw];exact fin hv
  .refine h _ ⟨_,_,rfl,rfl,fitB ?_⟩;symm;rw[zW];apply vM;intro j;by_cases hj:j<k.length
   .rw[zU hj,zU (by omega)];have:=hall j _ _ (by omega) (zU hj) (zU (by omega));rw[eq_of_beq this]
   .rw[wR (by omega),wR (by omega)]
theorem sp10 (hG:wg_ G) (q:QeaT) (hq:q.Few) (hr:r20 q=true) (s:Nat) (hs:q.start=(s:Int)) (hn:q.states.length<=12) (hsl:s<q.states.length) (hto:T_ q.trans q.states.length) (htl:q.trans.length<=1000):
  PQ G 16 [qeaV q] (.seq 1 ((natI (r15 q)).map iv)):=by
 have h1:=cRp_ (G:=G) hG q hq;have h2:=fp14 (G:=G) q s hs hn hsl hto htl;rw[hr] at h1;refine ptS_ λΦ h=>?_;unfold ctS_;generalize r15 q=RL at*
 repeat' (first|simp -implicitDefEqProofs only[go_sem,qeaV,d_,q_,f_,s_,s10,n_,t_]|apply ai__<;>intro hb|refine ac_ h1 rfl rfl ?_|refine ac_ h2 rfl rfl ?_|fail)
 exact hq_ h
def n19 (q:QeaT) (i:Nat):Str:=match q.states[i]? with | some x=>x.name | none=>[]
theorem np47 (q:QeaT) (l:List Nat) (hl:l.length<=1000) (hin:∀i∈l,i<q.states.length):
  PQ G 15 [qeaV q,.seq 1 ((natI l).map iv)] (.seq 1 ((l.map (n19 q)).map .str)):=by
 have hnl:=nl_ l;refine ptn_ λΦ h=>?_;unfold ctn_
 repeat' (first|simp -implicitDefEqProofs only[go_sem,qeaV,d_,q_,f_,s_,s10,n_,t_,zQ,hnl]|apply ai__<;>intro hb)
 refine al_ (λn st=>∃(i:Nat) (m:List Str),i+n=l.length∧m.length<=i∧m=(l.take i).map (n19 q)∧st=⟨25,[(2,.ref 2 0 0),(5,.arr 5 0 m.length),(8,.seq 1 ((natI l).map iv)),(9,iv (l.length:Int)),(10,iv (i:Int))],[(2,⟨false,30,9,[qeaV q]⟩),(4,⟨true,9,1,[]⟩),(5,⟨true,9,1,m.map .str⟩)]⟩) l.length ⟨0,[],by simp,by simp,rfl,rfl⟩ ?_;rintro I hI n st ⟨i,m,hi,hml,hm,rfl⟩;by_cases hlt':i<l.length
 .have hlt:decide ((i:Int)<(l.length:Int))=true:=by simpa using hlt'
  have hw:=ws_ hlt';obtain⟨x,hx,hxm⟩:=as10 hlt';obtain⟨y,hy,_⟩:=as10 (l:=q.states) (i:=x) (hin x hxm);have hx1:(natI l)[i]?=some (x:Int):=by simp [natI,hx]
  have hnm:n19 q x=y.name:=by simp [n19,hy]
  have hb1:(m.length+1)*16<=140737488355328:=by omega
  have hnx:=hI (n - 1) _ ⟨i+1,m++[y.name],by omega,by simp;omega,by rw[t39 hx,zE,<-hm,uY,hnm],rfl⟩;rw[zE,show (m++[y.name]).length=m.length+1 by simp] at hnx;clear hI h
  repeat' (first|simp -implicitDefEqProofs only[go_sem,hlt,am_ hx1,am_ hy,qeaV,d_,q_,f_,s_,s10,n_,t_,s14,zQ,hw,hb1]|apply ai__<;>intro hb)
  exact ae__ hnx
 .have hlt:decide ((i:Int)<(l.length:Int))=false:=by simp;omega
  rw[zT (by omega)] at hm;rw[<-hm] at h;clear hI
  repeat' (first|simp -implicitDefEqProofs only[go_sem,hlt]|apply ai__<;>intro hb)
  refine h _ ⟨_,.seq 1 (m.map .str),rfl,?_,.refl _⟩;simp [one,eget,view,view.go,AV.cells,viewK,viewK.go,viewB,viewBs,hget,t25]
def hasF (stay:List Str):AV:=.fn 17 [.eptr (.seq 1 (stay.map .str)) 0]
def HS (stay:List Str):List (Nat×Box):=[(1001,⟨false,70,1,[.fn 17 [.ref 1002 0 0]]⟩),(1002,⟨false,66,1,[.seq 1 (stay.map .str)]⟩)]
theorem T1p_ (s:Str) (stay:List Str) (hl:stay.length<=1000):PQ G 17 [.agg [.str s,iv 0,iv 0],.eptr (.seq 1 (stay.map .str)) 0] (.bool (stay.any λx=>s==x)):=by
 have hc:=sCssp_ (G:=G) stay s (by omega);refine ptT1z λΦ h=>?_;unfold ctT1z
 repeat' (first|simp -implicitDefEqProofs only[go_sem]|apply ai__<;>intro hb|refine ac_ hc rfl rfl ?_|fail)
 exact hq_ h
theorem T2p_ (x:StateT) (stay:List Str) (hl:stay.length<=1000):PQ G 20 [t14 x,.eptr (hasF stay) 0] (.bool (stay.any λy=>x.name==y)):=by
 have hc:=T1p_ (G:=G) x.name stay hl;refine ptT2z λΦ h=>?_;unfold ctT2z;unfold hasF
 repeat' (first|simp -implicitDefEqProofs only[go_sem,t14]|apply ai__<;>intro hb|(refine⟨by kernel_rfl,ac_ hc rfl rfl ?_⟩)|fail)
 exact hq_ h
theorem T3p_ (x:TTrT) (stay:List Str) (hl:stay.length<=1000):PQ G 22 [tTrV x,.eptr (hasF stay) 0] (.bool (!stay.any λy=>x.from_==y)):=by
 have hc:=T1p_ (G:=G) x.from_ stay hl;refine ptT3z λΦ h=>?_;unfold ctT3z;unfold hasF
 repeat' (first|simp -implicitDefEqProofs only[go_sem,tTrV,t17,t30,t20]|apply ai__<;>intro hb|(refine⟨by kernel_rfl,ac_ hc rfl rfl ?_⟩)|fail)
 exact hq_ h
theorem T4p_ (x:TTrT) (stay:List Str) (hl:stay.length<=1000):PQ G 23 [tTrV x,.eptr (hasF stay) 0] (.bool (stay.any λy=>x.from_==y)):=by
 have hc:=T1p_ (G:=G) x.from_ stay hl;refine ptT4z λΦ h=>?_;unfold ctT4z;unfold hasF
 repeat' (first|simp -implicitDefEqProofs only[go_sem,tTrV,t17,t30,t20]|apply ai__<;>intro hb|(refine⟨by kernel_rfl,ac_ hc rfl rfl ?_⟩)|fail)
 exact hq_ h
theorem kth_ (f:Nat) (stay:List Str) (hf:b11 Tryz.prog f=true) (p:TTrT->Bool) (l:List TTrT) (hl:l.length<=1000) (hp:∀x∈l,PQ G f [tTrV x,.eptr (hasF stay) 0] (.bool (p x))):
  HQ G 21 [t33 l,.fn f [.ref 1001 0 0]] (HS stay) (.arr 5 0 (l.filter p).length) (HS stay++[(5,⟨true,82,13,(l.filter p).map tTrV⟩)]):=by
 refine htkaT_ λΦ h=>?_;unfold ct10;unfold HS at*;unfold hasF at hp
 repeat' (first|simp -implicitDefEqProofs only[go_sem,t33,zQ]|apply ai__<;>intro hb)
 refine al_ (λn st=>∃(i:Nat) (m:List TTrT),i+n=l.length∧st=⟨23,[(1,.fn f [.ref 1001 0 0]),(5,.arr 5 0 m.length),(8,.seq 13 (l.map tTrV)),(9,iv l.length),(10,iv i)],[(4,⟨true,82,13,[]⟩),(5,⟨true,82,13,m.map tTrV⟩),(1001,⟨false,70,1,[.fn 17 [.ref 1002 0 0]]⟩),(1002,⟨false,66,1,[.seq 1 (stay.map .str)]⟩)]⟩∧m=(l.take i).filter p) l.length ⟨0,[],by simp,rfl,rfl⟩ ?_;rintro I hI n st ⟨i,m,hi,rfl,hm⟩;have hml:m.length<=l.length:=by
  have:m.length<=(l.take i).length:=by rw[hm];exact xH _ _
  rw[xG] at this;omega
 by_cases hlt':i<l.length
 .have hlt:decide ((i:Int)<(l.length:Int))=true:=by simpa using hlt'
  obtain⟨x,hx1,hxm⟩:=as10 hlt';have hw:=ws_ hlt';have hc:=hp x hxm;have hnx:=ft_ (p:=p) hx1;rw[<-hm] at hnx;have hb1:(m.length+1)*176<=140737488355328:=by omega
  simp only[tTrV,t17,t30,t20] at hc;cases hu:p x with
  | true=>
   rw[hu] at hc;rw[hu,zY rfl] at hnx;have hn2:=hI (n - 1) _ ⟨i+1,m++[x],by omega,rfl,hnx.symm⟩;rw[zE,show (m++[x]).length=m.length+1 by simp] at hn2;clear hI h
   repeat' (first|simp -implicitDefEqProofs only[go_sem,hlt,am_ hx1,tTrV,t17,t30,t20,hw,zQ,hb1]|apply ai__<;>intro hb|(refine⟨hf,ac_ hc rfl rfl ?_⟩)|fail)
   exact ae__ hn2
  | false=>
   rw[hu] at hc;rw[hu,zK (by simp),xT] at hnx;have hn2:=hI (n - 1) _ ⟨i+1,m,by omega,rfl,hnx.symm⟩;clear hI h
   repeat' (first|simp -implicitDefEqProofs only[go_sem,hlt,am_ hx1,tTrV,t17,t30,t20,hw,zQ,hb1]|apply ai__<;>intro hb|(refine⟨hf,ac_ hc rfl rfl ?_⟩)|fail)
   exact ae__ hn2
 .have hlt:decide ((i:Int)<(l.length:Int))=false:=by simp;omega
  rw[zT (by omega)] at hm;rw[<-hm] at h;clear hI hm
  repeat' (first|simp -implicitDefEqProofs only[go_sem,hlt]|apply ai__<;>intro hb)
  exact h _ ⟨_,_,Weak.refl _,rfl,.refl _,subH.at ⟨rfl,rfl,rfl,trivial⟩⟩
def isF (s:TSymT):AV:=.fn 53 [.eptr (t28 s) 0]
theorem a1h_ (s:TSymT):HQ G 52 [t28 s] [] (.fn 53 [.ref 1 0 0]) [(1,⟨false,78,4,[t28 s]⟩)]:=by
 refine hta1z λΦ h=>?_;unfold cta1z
 repeat' (first|simp -implicitDefEqProofs only[go_sem,t28,t17]|apply ai__<;>intro hb)
 exact h _ ⟨_,_,Weak.refl _,rfl,.refl _,subH.at ⟨rfl,trivial⟩⟩
theorem a11p_ (y s:TSymT) (hy:y.args.length<=1000) (hs:s.args.length<=1000):PQ G 53 [t28 y,.eptr (t28 s) 0] (.bool (decide (s=y))):=by
 have hc:=sEaTaTp_ (G:=G) s.args y.args (by omega) (by omega);have e:decide (s=y)=(s.name==y.name&&decide (s.args=y.args)):=by obtain⟨a,b⟩:=s;obtain⟨c,d⟩:=y;rw[yY];simp
 rw[e];refine pta11z λΦ h=>?_;unfold cta11z;cases hn:s.name==y.name with
 | true=>
  rw[hn] at h
  repeat' (first|simp -implicitDefEqProofs only[go_sem,t28,t17,hn]|apply ai__<;>intro hb|refine ac_ hc rfl rfl ?_|fail)
  exact hq_ h
 | false=>
  rw[hn] at h
  repeat' (first|simp -implicitDefEqProofs only[go_sem,t28,t17,hn]|apply ai__<;>intro hb)
  exact hq_ h
theorem a2p_ (x:TTrT) (s:TSymT) (hx:x.on.args.length<=1000) (hs:s.args.length<=1000):PQ G 57 [tTrV x,.eptr (isF s) 0] (.bool (decide (s=x.on))):=by
 have hc:=a11p_ (G:=G) x.on s hx hs;refine pta2z λΦ h=>?_;unfold cta2z;unfold isF
 repeat' (first|simp -implicitDefEqProofs only[go_sem,tTrV,t28,t17,t30,t20]|apply ai__<;>intro hb|(refine⟨by kernel_rfl,ac_ hc rfl rfl ?_⟩)|fail)
 exact hq_ h
def a11 (ts:List TTrT) (o:List TSymT) (g:TTrT):List TSymT:=if (ts.any λx=>decide (g.on=x.on))=false∧(o.any λy=>decide (g.on=y))=false then o++[g.on] else o
def a24 (own:List TSymT) (ts gone:List TTrT):List TSymT:=gone.foldl (a11 ts) own
theorem al13 (ts:List TTrT):∀(gone:List TTrT) (own:List TSymT),(a24 own ts gone).length<=own.length+gone.length
 | [],own=>zN _
 | g::gone,own=>by
  have:=al13 ts gone (a11 ts own g);have h2:(a11 ts own g).length<=own.length+1:=by unfold a11;split <;> simp
  show (a24 (a11 ts own g) ts gone).length<=_;simp only[yH];omega
theorem ap10 (q:QeaT) (T:TreeT) (gone:List TTrT) (ho:T.also.length<=1000) (hoa:∀s∈T.also,s.args.length<=1000) (ht:T.trans.length<=1000) (hta:∀x∈T.trans,x.on.args.length<=1000) (hg:gone.length<=1000) (hga:∀x∈gone,x.on.args.length<=1000):
  PQ G 24 [qeaV q,t27 T,t33 gone] (t23 (a24 T.also T.trans gone)):=by
 have hcl:=cth_ (G:=G) T.also (by omega);have hv:=al13 T.trans gone T.also;refine pta_ λΦ h=>?_;unfold cta_;unfold t23 at*;generalize hvv:a24 T.also T.trans gone=v at*;unfold a24 at hvv
 repeat' (first|simp -implicitDefEqProofs only[go_sem,qeaV,d_,q_,f_,s_,s10,n_,t_,t27,t22,t13,t21,t16,t23,t33,zQ]|apply ai__<;>intro hb|(refine ac10 [(1000,17)] hcl rfl trivial rfl rfl rfl ?_)|fail)
 refine al_ (λn st=>∃(i:Nat) (o:List TSymT),i+n=gone.length∧o.length<=T.also.length+i∧(∀y∈o,y.args.length<=1000)∧(gone.drop i).foldl (a11 T.trans) o=v∧st=⟨47,[(4,.ref 4 0 0),(8,.fn 52 []),(9,.arr 17 0 o.length),(18,.seq 13 (gone.map tTrV)),(19,iv (gone.length:Int)),(20,iv (i:Int))],[(3,⟨false,30,9,[qeaV q]⟩),(4,⟨false,63,12,[t27 T]⟩),(6,⟨true,78,4,[]⟩),(17,⟨true,78,4,o.map t28⟩)]⟩) gone.length ⟨0,T.also,by simp,by omega,hoa,hvv,rfl⟩ ?_;rintro I hI n st ⟨i,o,hi,hol,hoo,hf,rfl⟩;by_cases hlt':i<gone.length
 .have hlt:decide ((i:Int)<(gone.length:Int))=true:=by simpa using hlt'
  have hw:=ws_ hlt';obtain⟨g,hx,hxm⟩:=as10 hlt';rw[da10 hx,zO] at hf;have hb1:(o.length+1)*56<=140737488355328:=by omega
  have tk:(o.map t28).take o.length=o.map t28:=t25 _ _;have hon:=hga g hxm;have hst:a11 T.trans o g=if (T.trans.any λx=>decide (g.on=x.on))=false∧(o.any λy=>decide (g.on=y))=false then o++[g.on] else o:=rfl;have c1:=a1h_ (G:=G) g.on;have c2:=sC10 (G:=G) 57 [.eptr (isF g.on) 0] (by kernel_rfl) of_ (λx=>decide (g.on=x.on)) T.trans (λx hx=>a2p_ x g.on (hta x hx) hon) (by omega);have c3:=sCaTaTp_ (G:=G) 53 [.eptr (t28 g.on) 0] (by kernel_rfl) of_ (λy=>decide (g.on=y)) o (λy hy=>a11p_ y g.on (hoo y hy) hon) (by omega);simp only[isF,t28,t17] at c1 c2 c3;have hgo:(⟨g.on.name,g.on.args⟩:TSymT)=g.on:=rfl;cases h1:T.trans.any λx=>decide (g.on=x.on) with
  | true=>
   rw[h1] at c2;rw[zK (by rw[h1];simp)] at hst;rw[hst] at hf;have hnx:=hI (n - 1) _ ⟨i+1,o,by omega,by omega,hoo,hf,rfl⟩;clear hI h
   repeat' (first|simp -implicitDefEqProofs only[go_sem,hlt,am_ hx,qeaV,d_,q_,f_,s_,s10,n_,t_,t27,t22,t13,t21,t16,t23,t33,tTrV,t28,t17,t30,t20,zQ,hw]|apply ai__<;>intro hb|(refine⟨by kernel_rfl,ac10 [(1,27)] c1 rfl trivial rfl rfl rfl ?_⟩)|refine ac_ c2 rfl rfl ?_|fail)
   exact ae__ hnx
  | false=>
   rw[h1] at c2;cases h2:o.any λy=>decide (g.on=y) with
   | true=>
    rw[h2] at c3;rw[zK (by rw[h2];simp)] at hst;rw[hst] at hf;have hnx:=hI (n - 1) _ ⟨i+1,o,by omega,by omega,hoo,hf,rfl⟩;clear hI h
    repeat' (first|simp -implicitDefEqProofs only[go_sem,hlt,am_ hx,qeaV,d_,q_,f_,s_,s10,n_,t_,t27,t22,t13,t21,t16,t23,t33,tTrV,t28,t17,t30,t20,zQ,hw,tk]|apply ai__<;>intro hb|(refine⟨by kernel_rfl,ac10 [(1,27)] c1 rfl trivial rfl rfl rfl ?_⟩)|refine ac_ c2 rfl rfl ?_|(refine ac_ c3 (by simp [v10,flat,flat.go,viewBs,viewB,viewK,viewK.go,hget,t25,tk]) rfl ?_)|fail)
    exact ae__ hnx
   | false=>
    rw[h2] at c3;rw[zY ⟨h1,h2⟩] at hst;rw[hst] at hf;have hnx:=hI (n - 1) _ ⟨i+1,o++[g.on],by omega,by simp;omega,λy hy=>by rcases yB.1 hy with e | e;exact hoo y e;rw[yZ.1 e];exact hon,hf,rfl⟩;rw[zE,show (o++[g.on]).length=o.length+1 by simp] at hnx;clear hI h
    repeat' (first|simp -implicitDefEqProofs only[go_sem,hlt,am_ hx,qeaV,d_,q_,f_,s_,s10,n_,t_,t27,t22,t13,t21,t16,t23,t33,tTrV,t28,t17,t30,t20,zQ,hw,tk,hb1]|apply ai__<;>intro hb|(refine⟨by kernel_rfl,ac10 [(1,27)] c1 rfl trivial rfl rfl rfl ?_⟩)|refine ac_ c2 rfl rfl ?_|(refine ac_ c3 (by simp [v10,flat,flat.go,viewBs,viewB,viewK,viewK.go,hget,t25,tk]) rfl ?_)|fail)
    exact ae__ hnx
 .have hlt:decide ((i:Int)<(gone.length:Int))=false:=by simp;omega
  rw[yL (by omega),uZ] at hf;subst hf;clear hI
  repeat' (first|simp -implicitDefEqProofs only[go_sem,hlt]|apply ai__<;>intro hb)
  refine h _ ⟨_,.seq 4 (o.map t28),rfl,?_,.refl _⟩;simp [one,eget,view,view.go,AV.cells,viewK,viewK.go,viewB,viewBs,hget,t25]
def cccr_:AFun:=⟨37,2,[.t 4],
 (sR [⟨some 2,.box 150 1 (.t 0),none⟩,
⟨some 3,.box 63 12 (.t 1),none⟩,
⟨some 4,.mov (.k (.nili)),none⟩]
[2,3]
(sR [⟨some 8,.load (.t 2),none⟩,
⟨some 9,.faddr (.t 3) 0,none⟩,
⟨some 10,.faddr (.t 9) 0,none⟩,
⟨some 11,.load (.t 10),none⟩,
⟨some 12,.nchk (.t 8),none⟩,
⟨some 13,.faddr (.t 12) 0,none⟩,
⟨some 14,.faddr (.t 13) 0,none⟩,oS 14 11 1]
[2,3]
(.seq (sR [⟨some 15,.mkfn 114 [.t 3,.t 2],none⟩,
⟨some 16,.mkfn 117 [.t 3,.t 2],none⟩,
⟨some 17,.mkfn 120 [.t 3,.t 2],none⟩,
⟨some 18,.mkfn 123 [.t 3,.t 2],none⟩,
⟨some 19,.mkfn 126 [.t 2,.t 3],none⟩,
⟨some 20,.mkfn 128 [.t 3,.t 2],none⟩,
⟨some 21,.mkfn 132 [.t 3,.t 2],none⟩,
⟨some 22,.mkfn 135 [.t 2,.t 3],none⟩,
⟨some 23,.mkrow 228 1 8 (.tup [.nilfn]) [(0,.t 15),(1,.t 16),(2,.t 17),(3,.t 18),(4,.t 19),(5,.t 20),(6,.t 21),(7,.t 22)],none⟩,
⟨some 24,.len false (.t 23),none⟩,
⟨some 25,.mov (.k (.int .i64 0)),none⟩]
[2,23,24,25]
(.block 0
(.loop [2,23,24,25] [2,3,23,24,36,35,34]
 (sR [⟨some 26,.bin .lss (.t 25) (.t 24),none⟩]
[2,23,24,25,26]
(.seq (cT 26
.skip x0z)
(.seq (.block 1
(sR [⟨some 27,.iaddr 1 (.t 23) (.t 25),none⟩,
⟨some 28,.load (.t 27),none⟩,
⟨some 6,.mov (.t 28),none⟩]
[2,6,23,24,25]
(sR [⟨some 29,.mov (.t 6),none⟩,
⟨some 30,.callvB (.t 29) [],none⟩,
⟨some 7,.mov (.t 30),none⟩]
[2,7,23,24,25]
(sR [⟨some 31,.mov (.t 7),none⟩,
⟨some 32,.eqI true (.t 31) (.k (.nili)),none⟩]
[2,7,23,24,25,32]
(cT 32
(sR [⟨some 33,.mov (.t 7),none⟩,
⟨some 4,.mov (.t 33),none⟩]
[4]
.ret)
.skip)))))
(.reg [⟨some 34,.bin .add (.t 25) (.k (.int .i64 1)),none⟩,
⟨some 25,.mov (.t 34),none⟩]
[2,23,24,25])))))))
(sR [⟨some 35,.load (.t 2),none⟩,
⟨some 36,.call 137 [.t 35],none⟩]
[]
(sR [⟨some 4,.mov (.k (.nili)),none⟩]
[4]
.ret)))))⟩
theorem kccr_:chkF Tryz.prog Tryz.f61 cccr_=true:=by kernel_rfl
def sB (T:TreeT):Nat×Box:=(1021,⟨false,63,12,[t27 T]⟩)
theorem r1h_ (T:TreeT) (nm:Str) (hl:T.decls.length<=32) (hx:∀x∈T.decls,x.types.length<=8) (hn:(T.decls.map (·.name)).Nodup):HQ G 114 [.ref 1021 0 0,.ref 1020 0 0] (sB T::cVar::Hd_ nm []) .nili (sB T::cVar::Hd_ nm T.decls):=by
 have hc:=edh_ (G:=G) nm T.decls hl hx hn;refine hccr1z λΦ h=>?_;unfold cccr1z;unfold Hd_ sB cVar mapB at*;unfold t27 at*
 repeat' (first|simp -implicitDefEqProofs only[go_sem,t22]|apply ai__<;>intro hb|(refine ac10 [(1001,1001),(1002,1002),(1009,1009),(1010,1010),(1011,1011)] hc rfl ⟨⟨_,_,rfl,rfl,rfl⟩,⟨_,_,rfl,rfl,rfl⟩,⟨_,_,rfl,rfl,rfl⟩,⟨_,_,rfl,rfl,rfl⟩,⟨_,_,rfl,rfl,rfl⟩,trivial⟩ rfl rfl rfl ?_)|fail)
 exact h _ ⟨_,_,Weak.refl _,rfl,.refl _,subH.at ⟨rfl,rfl,rfl,rfl,rfl,rfl,rfl,trivial⟩⟩
theorem r2h_ (T:TreeT) (nm:Str) (ds:List DeclT) (m1:List AV) (hl:T.quants.length<=8) (hn:(T.quants.map (·.name)).Nodup):HQ G 117 [.ref 1021 0 0,.ref 1020 0 0] (sB T::cVar::Hq_ nm ds m1 []) .nili (sB T::cVar::Hq_ nm ds m1 T.quants):=by
 have hc:=eqh_ (G:=G) nm ds m1 T.quants hl hn;refine hccr2z λΦ h=>?_;unfold cccr2z;unfold Hq_ sB cVar mapB at*;unfold t27 at*
 repeat' (first|simp -implicitDefEqProofs only[go_sem,t13]|apply ai__<;>intro hb|(refine ac10 [(1001,1001),(1003,1003),(1010,1010),(1011,1011)] hc rfl ⟨⟨_,_,rfl,rfl,rfl⟩,⟨_,_,rfl,rfl,rfl⟩,⟨_,_,rfl,rfl,rfl⟩,⟨_,_,rfl,rfl,rfl⟩,trivial⟩ rfl rfl rfl ?_)|fail)
 exact h _ ⟨_,_,Weak.refl _,rfl,.refl _,subH.at ⟨rfl,rfl,rfl,rfl,rfl,rfl,trivial⟩⟩
theorem r3h_ (T:TreeT) (nm:Str) (ds:List DeclT) (qs:List QuantT) (m1:List AV) (hl:T.frees.length<=16) (hn:(qs.map (·.name)++T.frees.map (·.name)).Nodup):HQ G 120 [.ref 1021 0 0,.ref 1020 0 0] (sB T::cVar::Hf_ nm ds qs m1 []) .nili (sB T::cVar::Hf_ nm ds qs m1 T.frees):=by
 have hc:=efh_ (G:=G) nm ds qs m1 T.frees hl hn;refine hccr3z λΦ h=>?_;unfold cccr3z;unfold Hf_ sB cVar mapB at*;unfold t27 at*
 repeat' (first|simp -implicitDefEqProofs only[go_sem,t21]|apply ai__<;>intro hb|(refine ac10 [(1001,1001),(1004,1004),(1010,1010),(1011,1011)] hc rfl ⟨⟨_,_,rfl,rfl,rfl⟩,⟨_,_,rfl,rfl,rfl⟩,⟨_,_,rfl,rfl,rfl⟩,⟨_,_,rfl,rfl,rfl⟩,trivial⟩ rfl rfl rfl ?_)|fail)
 exact h _ ⟨_,_,Weak.refl _,rfl,.refl _,subH.at ⟨rfl,rfl,rfl,rfl,rfl,rfl,trivial⟩⟩
theorem r4h_ (T:TreeT) (nm:Str) (ds:List DeclT) (qs:List QuantT) (fs:List FreeT) (m1 m2:List AV) (hl:T.states.length<=32) (hn:(T.states.map (·.name)).Nodup):HQ G 123 [.ref 1021 0 0,.ref 1020 0 0] (sB T::cVar::Hs_ nm ds qs fs m1 m2 []) .nili (sB T::cVar::Hs_ nm ds qs fs m1 m2 T.states):=by
 have hc:=esh_ (G:=G) nm ds qs fs m1 m2 T.states hl hn;refine hccr4z λΦ h=>?_;unfold cccr4z;unfold Hs_ sB cVar mapB at*;unfold t27 at*
 repeat' (first|simp -implicitDefEqProofs only[go_sem,t16]|apply ai__<;>intro hb|(refine ac10 [(1001,1001),(1005,1005),(1011,1011)] hc rfl ⟨⟨_,_,rfl,rfl,rfl⟩,⟨_,_,rfl,rfl,rfl⟩,⟨_,_,rfl,rfl,rfl⟩,trivial⟩ rfl rfl rfl ?_)|fail)
 exact h _ ⟨_,_,Weak.refl _,rfl,.refl _,subH.at ⟨rfl,rfl,rfl,rfl,rfl,trivial⟩⟩
theorem r5h_ (T:TreeT) (q:QeaT) (sl:List StateT) (c6 c7 c8:AV) (h6:c6= .nils) (h7:c7= .nils) (h8:c8= .nils) (hn:(sl.map (·.name)).Nodup) (i:Nat) (x:StateT) (hi:sl[i]?=some x) (hx:T.start=x.name):HQ G 126 [.ref 1020 0 0,.ref 1021 0 0] (sB T::cVar::[(1001,⟨false,154,12,[ckC q sl 0 c6 c7 c8]⟩)]) .nili (sB T::cVar::[(1001,⟨false,154,12,[ckC q sl (i:Int) c6 c7 c8]⟩)]):=by
 have hc:=fp13 (G:=G) q sl 0 c6 c7 c8 hn hi;subst h6 h7 h8;refine hccr5z λΦ h=>?_;unfold cccr5z;unfold sB cVar at*;unfold t27 at*;rw[hx] at h ⊢;unfold ckC at*;generalize e13 (dE q)=E1 at*;generalize e13 (vE q)=E2 at*;generalize e13 (sE sl)=E3 at*
 repeat' (first|simp -implicitDefEqProofs only[go_sem]|apply ai__<;>intro hb|refine ac_ hc rfl rfl ?_|fail)
 exact h _ ⟨_,_,Weak.refl _,rfl,.refl _,subH.at ⟨rfl,rfl,rfl,trivial⟩⟩
theorem r6h_ (T:TreeT) (q:QeaT) (hv:q.vars.Nodup) (hd:(q.decls.map (·.name)).Nodup) (sl:List StateT) (st:Int) (A:List SymT) (hA:∀s∈A,symS q s=true∧s.args.length<=1000) (hAl:A.length<=1000) (ns:List NodeT) (ts:List TransT) (hm:∀i,i<A.length->((A.take i).foldl putY []).length<64∧∀x∈(A.take i).foldl putY [],x.args.length<=1000) (ht:T.also=A.map (symT q)):
  HQ G 128 [.ref 1021 0 0,.ref 1020 0 0] (sB T::cVar::HK q sl st [] ns ts) .nili (sB T::cVar::HK q sl st (A.foldl putY []) ns ts):=by
 have hc:=eah_ (G:=G) q hv hd sl st A hA hAl ns ts hm;refine hccr6z λΦ h=>?_;unfold cccr6z;unfold sB cVar HK ckB at*;unfold t27 at*;rw[ht] at h ⊢;unfold ckC at*;generalize e13 (dE q)=E1 at*;generalize e13 (vE q)=E2 at*;generalize e13 (sE sl)=E3 at*;generalize A.foldl putY []=Y at*
 repeat' (first|simp -implicitDefEqProofs only[go_sem,t23]|apply ai__<;>intro hb|(refine ac10 [(1020,1020),(1001,1001),(1006,1006),(1007,1007),(1008,1008)] hc rfl ⟨⟨_,_,rfl,rfl,rfl⟩,⟨_,_,rfl,rfl,rfl⟩,⟨_,_,rfl,rfl,rfl⟩,⟨_,_,rfl,rfl,rfl⟩,⟨_,_,rfl,rfl,rfl⟩,trivial⟩ rfl rfl rfl ?_)|fail)
 exact h _ ⟨_,_,Weak.refl _,rfl,.refl _,subH.at ⟨rfl,rfl,rfl,rfl,rfl,rfl,trivial⟩⟩
theorem r7h_ (T:TreeT) (q:QeaT) (hv:q.vars.Nodup) (hd:(q.decls.map (·.name)).Nodup) (hq:q.nodes.length<=1000) (sl:List StateT) (hsn:(sl.map (·.name)).Nodup) (st:Int) (ix:Int->Nat) (K:List (TransT×Int)) (hK:∀x∈K,MkOk q sl ix x) (hKl:K.length<=1000) (S0:Made) (hm:∀i,i<K.length->M10 ((K.take i).foldl (s17 q ix) S0)) (ht:T.trans=K.map (trT q)):
  HQ G 132 [.ref 1021 0 0,.ref 1020 0 0] (sB T::cVar::HK q sl st S0.1 S0.2.1 S0.2.2) .nili (sB T::cVar::HK q sl st (K.foldl (s17 q ix) S0).1 (K.foldl (s17 q ix) S0).2.1 (K.foldl (s17 q ix) S0).2.2):=by
 have hc:=eth_ (G:=G) q hv hd hq sl hsn st ix K hK hKl S0 hm;refine hccr7z λΦ h=>?_;unfold cccr7z;unfold sB cVar HK ckB at*;unfold t27 at*;rw[ht] at h ⊢;unfold ckC at*;generalize e13 (dE q)=E1 at*;generalize e13 (vE q)=E2 at*;generalize e13 (sE sl)=E3 at*;generalize K.foldl (s17 q ix) S0=S' at*;obtain⟨y,n,t⟩:=S0;obtain⟨y',n',t'⟩:=S';simp only at hc h ⊢
 repeat' (first|simp -implicitDefEqProofs only[go_sem,t33]|apply ai__<;>intro hb|(refine ac10 [(1001,1001),(1006,1006),(1007,1007),(1008,1008)] hc rfl ⟨⟨_,_,rfl,rfl,rfl⟩,⟨_,_,rfl,rfl,rfl⟩,⟨_,_,rfl,rfl,rfl⟩,⟨_,_,rfl,rfl,rfl⟩,trivial⟩ rfl rfl rfl ?_)|fail)
 exact h _ ⟨_,_,Weak.refl _,rfl,.refl _,subH.at ⟨rfl,rfl,rfl,rfl,rfl,rfl,trivial⟩⟩
theorem r8h_ (T:TreeT) (q:QeaT) (sl:List StateT) (st:Int) (ys:List SymT) (ns:List NodeT) (ts:List TransT) (hys:∀x∈ys,x.args.length<=1000) (hyl:ys.length<=1000) (hq:q.quants.length<=1000) (ok:∀v,v<q.quants.length->(ys.any λs=>s13 s (v:Int))=true) (ht:T.quants=q.quants):
  HQ G 135 [.ref 1020 0 0,.ref 1021 0 0] (sB T::cVar::HK q sl st ys ns ts) .nili (sB T::cVar::HK q sl st ys ns ts):=by
 have hc:=sp11 (G:=G) q sl st ys (.seq 7 (ns.map n11)) (.seq 5 (ts.map t11)) hys hyl hq ok;refine hccr8z λΦ h=>?_;unfold cccr8z;unfold sB cVar HK ckB at*;unfold t27 at*;rw[ht] at h ⊢;unfold ckC at*;generalize e13 (dE q)=E1 at*;generalize e13 (vE q)=E2 at*;generalize e13 (sE sl)=E3 at*;simp only[t13] at hc
 repeat' (first|simp -implicitDefEqProofs only[go_sem,t13]|apply ai__<;>intro hb|(refine ac_ hc (by simp [v10,flat,flat.go,viewBs,viewB,viewK,viewK.go,hget,t25]) rfl ?_)|fail)
 exact h _ ⟨_,_,Weak.refl _,rfl,.refl _,subH.at ⟨rfl,rfl,rfl,rfl,rfl,rfl,trivial⟩⟩
