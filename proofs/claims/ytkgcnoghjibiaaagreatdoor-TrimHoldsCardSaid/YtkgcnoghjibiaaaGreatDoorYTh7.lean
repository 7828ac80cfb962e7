/- Lemmas. -/
import Derived.Test.YtkgcnoghjibiaaaGreatDoorYTh5
set_option linter.unusedSimpArgs false
set_option maxHeartbeats 4000000
set_option maxRecDepth 100000
namespace Go.Proofs.YtkgcnoghjibiaaaGreatDoor.Ab
open Go Go.RowKit
variable {G:Nat->Option AV}
def a29 (q:QeaT) (ds:List (List Val)) (e:EvT) (v:Nat):List Val:=(v11 (e17 q e) v).foldl putV ((ds[v]?).getD [])
theorem vc12 (h:HitT) (l:List HitT) (v:Nat):v11 (h::l) v=(if (getR h.bind (v:Int)).2=true then [(getR h.bind (v:Int)).1] else [])++v11 l v:=by
 unfold v11;rw[List.filterMap_cons];split
 .rename_i hn;split at hn
  .cases hn
  .rename_i hg;rw[zK hg];rfl
 .rename_i b hb;split at hb
  .rename_i hg;rw[zY hg];cases hb;rfl
  .cases hb
theorem rA10 (q:QeaT) (hsy:SymsOk q) (hql:q.quants.length<=1000) (hdl:q.decls.length<=1000000) (hdt:∀d∈q.decls,d.types.length<=1000000) (ds:List (List Val)) (hds:ds.length=q.quants.length) (hlen:∀d∈ds,d.length<=100000) (e:EvT) (hel:e.args.length<=1000000) (hstr:∀v∈e.args,v.str.length<9223372036854775807):
  PQ G 36 [qeaV q,d11 ds,e10 e] (d11 (addD q ds e)):=by
 have hR:=rR11 (G:=G) q.decls e hdl hdt;have hA:=rA12 (G:=G) q e hsy hel;have hsl:=hsy.len;refine pp35 λΦ h=>?_;unfold cp37;have hD:addD q ds e=(List.range q.quants.length).map (a29 q ds e):=rfl;rw[hD] at h;have hrow:∀i:Nat,((List.range (i+1)).map (a29 q ds e)).map v_=((List.range i).map (a29 q ds e)).map v_++[v_ (a29 q ds e i)]:=λi=>by rw[tF,zE,zE];rfl
 have hfin:∀(env:List (Nat×AV)) (heap:List (Nat×Box)),hget heap 7=some ⟨true,43,1,((List.range q.quants.length).map (a29 q ds e)).map v_⟩->Φ ⟨61,(6,.arr 7 0 q.quants.length)::env,heap⟩:=λenv heap hg=>h _ ⟨_,_,rfl,vm_ (e:=v_) (by decide) hg (by simp),.refl _⟩;clear h;by_cases he:evR q.decls e=true
 .have hH:e17 q e=a_ q e q.symbols.length:=zY he;have hHl:=al10 q e q.symbols.length;rw[he] at hR;have hval:∀x∈a_ q e q.symbols.length,∀v:Nat,(getR x.bind (v:Int)).2=true->(getR x.bind (v:Int)).1∈e.args:=λx hx v hg=>by
   obtain⟨s,_,hs⟩:=am10 hx;obtain⟨y,hy,e1⟩:=gm10 hg;have:=hv_ hs y hy
   rwa [e1] at this
  have hbl:∀x∈a_ q e q.symbols.length,x.bind.length<9223372036854775807:=λx hx=>by obtain⟨s,_,hs⟩:=am10 hx;obtain⟨_,_,y,d,_,_,_,_,hgo⟩:=hp_ hs;have:=(ha_ hgo (by simp)).1;dsimp only at this;omega
  have hAt:∀v,a29 q ds e v=(v11 (a_ q e q.symbols.length) v).foldl putV ((ds[v]?).getD []):=λv=>by unfold a29;rw[hH]
  generalize a_ q e q.symbols.length=L at*;generalize a29 q ds e=f at*;obtain⟨en,ea⟩:=e;simp only[qeaV,d_,q_,f_,s_,s10,n_,t_,e10,h14] at hR hA
  repeat' (first|simp -implicitDefEqProofs only[go_sem,qeaV,d_,q_,f_,s_,s10,n_,t_,e10,d11,zQ]|apply ai__<;>intro hb|refine ac_ hR rfl rfl ?_|refine ac_ hA rfl rfl ?_|fail)
  refine al_ (λn st=>∃i:Nat,i+n=q.quants.length∧st=⟨61,[(1,d11 ds),(3,.ref 3 0 0),(7,.arr 7 0 i),(8,h14 L),(9,iv i)],[(3,⟨false,30,9,[qeaV q]⟩),(5,⟨false,45,2,[e10 ⟨en,ea⟩]⟩),(6,⟨true,43,1,[]⟩),(7,⟨true,43,1,((List.range i).map f).map v_⟩),(8,⟨true,185,3,[]⟩)]⟩) q.quants.length ⟨0,by simp,rfl⟩ ?_;rintro I hI n st ⟨i,hi,rfl⟩;by_cases hli:i<q.quants.length
  .have hlt:decide ((i:Int)<(q.quants.length:Int))=true:=by simpa using hli
   have hltd:decide ((i:Int)<(ds.length:Int))=true:=by rw[hds];exact hlt
   have hw:=ws_ hli;obtain⟨d,hd,hdm⟩:=as10 (l:=ds) (i:=i) (by omega);have hdl2:=hlen d hdm;have hnx:=hI (n - 1) _ ⟨i+1,by omega,rfl⟩;have hA1:=hAt i;rw[hd,xK] at hA1;rw[hrow] at hnx;have hb1:(i+1)*24<=140737488355328:=by omega
   clear hI hfin hrow hAt;generalize f i=fi at*
   repeat' (first|simp -implicitDefEqProofs only[go_sem,qeaV,d_,q_,f_,s_,s10,n_,t_,d11,h14,e10,v_,zQ,hlt,hltd,am_ hd]|apply ai__<;>intro hb)
   refine al_ (λn2 st=>∃(k:Nat) (w:List Val),k+n2=L.length∧(v11 (L.drop k) i).foldl putV w=fi∧w.length<=100000+k∧st=⟨61,[(1,d11 ds),(3,.ref 3 0 0),(7,.arr 7 0 i),(8,h14 L),(9,iv i),(10,v_ w),(11,iv k)],[(3,⟨false,30,9,[qeaV q]⟩),(5,⟨false,45,2,[e10 ⟨en,ea⟩]⟩),(6,⟨true,43,1,[]⟩),(7,⟨true,43,1,((List.range i).map f).map v_⟩),(8,⟨true,185,3,[]⟩),(10,⟨true,48,4,[]⟩)]⟩) L.length ⟨0,d,by simp,hA1.symm,by omega,rfl⟩ ?_;rintro J hJ n2 st ⟨k,w,hk,hf,hwl,rfl⟩;by_cases hlk:k<L.length
   .have hltk:decide ((k:Int)<(L.length:Int))=true:=by simpa using hlk
    have hwk:=ws_ hlk;obtain⟨x,hx,hxm⟩:=as10 hlk;have hg:=rGp_ (G:=G) x.bind (hbl x hxm) (i:Int);rw[da_ hx,vc12] at hf;have hv2:=hval x hxm i;have hnx2:=λw' h0 h1=>hJ (n2 - 1) _ ⟨k+1,w',by omega,h0,h1,rfl⟩;clear hJ hnx hval hbl;generalize getR x.bind (i:Int)=R at*;obtain⟨y,b⟩:=R;obtain⟨xs,xb,xf⟩:=x;cases b with
    | true=>
     have hp:=rP10 (G:=G) w y (by omega) (hstr y (hv2 rfl));rw[zY rfl] at hf;have hl2:=pl15 w y;have hnx3:=hnx2 (putV w y) hf (by omega);clear hnx2 hf hv2;generalize putV w y=w' at*;obtain⟨y1,y2,y3,y4⟩:=y;simp only[vbt,valV,s11,v_] at hg hp
     repeat' (first|simp -implicitDefEqProofs only[go_sem,qeaV,d_,q_,f_,s_,s10,n_,t_,d11,h14,hitV,s11,e10,v_,valV,zQ,hltk,hwk,am_ hx]|apply ai__<;>intro hb|refine ac_ hg rfl rfl ?_|refine ac_ hp rfl rfl ?_|fail)
     exact ae__ hnx3
    | false=>
     rw[zK Bool.false_ne_true,tU] at hf;have hnx3:=hnx2 w hf (by omega);clear hnx2 hf hv2;obtain⟨y1,y2,y3,y4⟩:=y;simp only[vbt,valV,s11,v_] at hg
     repeat' (first|simp -implicitDefEqProofs only[go_sem,qeaV,d_,q_,f_,s_,s10,n_,t_,d11,h14,hitV,s11,e10,v_,valV,zQ,hltk,hwk,am_ hx]|apply ai__<;>intro hb|refine ac_ hg rfl rfl ?_|fail)
     exact ae__ hnx3
   .have hltk:decide ((k:Int)<(L.length:Int))=false:=by simp;omega
    rw[yL (by omega)] at hf;have hwf:w=fi:=hf;subst hwf;clear hJ hval hbl hf
    repeat' (first|simp -implicitDefEqProofs only[go_sem,qeaV,d_,q_,f_,s_,s10,n_,t_,d11,h14,e10,v_,zQ,xE,hltk,hw,hb1]|apply ai__<;>intro hb)
    exact ae__ hnx
  .have hlt:decide ((i:Int)<(q.quants.length:Int))=false:=by simp;omega
   have hin:i=q.quants.length:=by omega
   subst hin;clear hI hval hbl
   repeat' (first|simp -implicitDefEqProofs only[go_sem,qeaV,d_,q_,f_,s_,s10,n_,t_,d11,h14,e10,zQ,xE,hlt]|apply ai__<;>intro hb)
   exact hfin _ _ rfl
 .have hH:e17 q e=[]:=zK he;have he':evR q.decls e=false:=by simpa using he
  rw[he'] at hR;have hAt:∀v,a29 q ds e v=(ds[v]?).getD []:=λv=>by unfold a29;rw[hH];rfl
  generalize a29 q ds e=f at*;obtain⟨en,ea⟩:=e;simp only[qeaV,d_,q_,f_,s_,s10,n_,t_,e10] at hR
  repeat' (first|simp -implicitDefEqProofs only[go_sem,qeaV,d_,q_,f_,s_,s10,n_,t_,e10,d11,zQ]|apply ai__<;>intro hb|refine ac_ hR rfl rfl ?_|fail)
  refine al_ (λn st=>∃i:Nat,i+n=q.quants.length∧st=⟨61,[(1,d11 ds),(3,.ref 3 0 0),(7,.arr 7 0 i),(8,.arr 8 0 0),(9,iv i)],[(3,⟨false,30,9,[qeaV q]⟩),(5,⟨false,45,2,[e10 ⟨en,ea⟩]⟩),(6,⟨true,43,1,[]⟩),(7,⟨true,43,1,((List.range i).map f).map v_⟩),(8,⟨true,185,3,[]⟩)]⟩) q.quants.length ⟨0,by simp,rfl⟩ ?_;rintro I hI n st ⟨i,hi,rfl⟩;by_cases hli:i<q.quants.length
  .have hlt:decide ((i:Int)<(q.quants.length:Int))=true:=by simpa using hli
   have hltd:decide ((i:Int)<(ds.length:Int))=true:=by rw[hds];exact hlt
   have hw:=ws_ hli;obtain⟨d,hd,hdm⟩:=as10 (l:=ds) (i:=i) (by omega);have hnx:=hI (n - 1) _ ⟨i+1,by omega,rfl⟩;have hA1:=hAt i;rw[hd,xK] at hA1;rw[hrow,hA1] at hnx;have hb1:(i+1)*24<=140737488355328:=by omega
   clear hI hfin hrow hAt hA1
   repeat' (first|simp -implicitDefEqProofs only[go_sem,qeaV,d_,q_,f_,s_,s10,n_,t_,d11,e10,v_,zQ,hlt,hltd,am_ hd]|apply ai__<;>intro hb)
   refine al_ (λ_ st=>st=⟨61,[(1,d11 ds),(3,.ref 3 0 0),(7,.arr 7 0 i),(8,.arr 8 0 0),(9,iv i),(10,v_ d),(11,iv 0)],[(3,⟨false,30,9,[qeaV q]⟩),(5,⟨false,45,2,[e10 ⟨en,ea⟩]⟩),(6,⟨true,43,1,[]⟩),(7,⟨true,43,1,((List.range i).map f).map v_⟩),(8,⟨true,185,3,[]⟩),(10,⟨true,48,4,[]⟩)]⟩) 0 rfl ?_;rintro J - n2 st rfl;have e1:((0:Int)<((0:Nat):Int))=False:=by simp
   repeat' (first|simp -implicitDefEqProofs only[go_sem,qeaV,d_,q_,f_,s_,s10,n_,t_,d11,e10,v_,zQ,xE,hw,hb1,e1,yA]|apply ai__<;>intro hb)
   exact ae__ hnx
  .have hlt:decide ((i:Int)<(q.quants.length:Int))=false:=by simp;omega
   have hin:i=q.quants.length:=by omega
   subst hin;clear hI
   repeat' (first|simp -implicitDefEqProofs only[go_sem,qeaV,d_,q_,f_,s_,s10,n_,t_,d11,e10,zQ,xE,hlt]|apply ai__<;>intro hb)
   exact hfin _ _ rfl
theorem dn11 (n:Nat):Fit2 (.seq 1 (List.replicate n .nils)) (d11 (List.replicate n [])):=by
 refine .seq 1 _ _ (by simp) (λf hf=>?_) λk e f he hf=>?_
 .obtain⟨_,_,rfl⟩:=zI.1 hf;rfl
 .rw[uJ] at he;split at he
  .cases he;rename_i hk;rw[List.map_replicate,uJ,zY hk] at hf;cases hf;exact .nil 4
  .cases he
theorem rO12 (q:QeaT) (hsy:SymsOk q) (hql:q.quants.length<=1000) (hdl:q.decls.length<=1000000) (hdt:∀d∈q.decls,d.types.length<=1000000) (hs12:q.symbols.length<=12) (l:List EvT) (hl:l.length<=1000) (he:∀e∈l,e.args.length<=1000000∧∀v∈e.args,v.str.length<9223372036854775807):
  PQ G 13 [qeaV q,e_ l] (d11 (d14 q l)):=by
 have key:PQ G 13 [qeaV q,e_ l] (if l=[] then .seq 1 (List.replicate q.quants.length .nils) else d11 (d14 q l)):=by
  refine pp45 λΦ h=>?_;unfold cp46;have hb:q.quants.length*24<=140737488355328:=by omega
  have hz:∀d∈List.replicate q.quants.length ([]:List Val),d.length=0:=λd hd=>by rw[(List.mem_replicate.1 hd).2];rfl
  repeat' (first|simp -implicitDefEqProofs only[go_sem,qeaV,d_,q_,f_,s_,s10,n_,t_,zQ,an_ hb]|apply ai__<;>intro hb)
  refine al11 (λn st=>(n=l.length∧st=⟨25,[(1,e_ l),(2,.ref 2 0 0),(5,.seq 1 (List.replicate q.quants.length .nils)),(6,iv 0)],[(2,⟨false,30,9,[qeaV q]⟩),(4,⟨true,43,1,[]⟩)]⟩)∨
   (∃(i:Nat) (ds:List (List Val)),0<i∧i+n=l.length∧(l.drop i).foldl (addD q) ds=d14 q l∧ds.length=q.quants.length∧(∀d∈ds,d.length<=12*i)∧st=⟨25,[(1,e_ l),(2,.ref 2 0 0),(5,d11 ds),(6,iv i)],[(2,⟨false,30,9,[qeaV q]⟩),(4,⟨true,43,1,[]⟩)]⟩)) l.length _ (wt_ (i:=10) rfl rfl) (.inl ⟨rfl,by simp [St.trim,St.trimE,St.trimH,happ,f11,St.thaw1,t38,t37,thaw,thaw.go,t36,purge,hget,eget,e_,qeaV,d_,q_,f_,s_,s10,n_,t_]⟩) ?_
  rintro I hI n st (⟨rfl,rfl⟩ | ⟨i,ds,hi0,hi,hf,hdsl,hd12,rfl⟩)
  .cases l with
   | nil=>
    rw[zY rfl] at h;clear hI;have e1:((0:Int)<((0:Nat):Int))=False:=by simp
    repeat' (first|simp -implicitDefEqProofs only[go_sem,qeaV,d_,q_,f_,s_,s10,n_,t_,e_,yU,xY,e1,yA]|apply ai__<;>intro hb)
    exact hq_ h
   | cons e l=>
    have hem:=he e zD;have hc:=(rA10 (G:=G) q hsy hql hdl hdt (List.replicate q.quants.length []) (by simp) (λd hd=>by rw[hz d hd];omega) e hem.1 hem.2).fit2 (args:=[qeaV q,.seq 1 (List.replicate q.quants.length .nils),e10 e]) (args':=[qeaV q,d11 (List.replicate q.quants.length []),e10 e]) rfl λj c d hc hd=>by
     match j,hc,hd with
     | 0,hc,hd=>cases hc;cases hd;exact .refl _
     | 1,hc,hd=>cases hc;cases hd;exact dn11 _
     | 2,hc,hd=>cases hc;cases hd;exact .refl _
     | j+3,hc,hd=>cases hc
    have hnx:=hI l.length _ (.inr ⟨1,addD q (List.replicate q.quants.length []) e,by omega,by simp;omega,rfl,al15 _ _,λd hd=>by have:=aa17 (n:=0) (λd hd=>by rw[hz d hd];omega) d hd;omega,rfl⟩)
    have hw:IntKind.i64.wrap 1=1:=rfl;have hlt:decide ((0:Int)<((e::l).length:Int))=true:=by simp
    have hx:(e::l)[0]?=some e:=rfl;clear hI h;generalize addD q (List.replicate q.quants.length []) e=D at*;obtain⟨en,ea⟩:=e;simp only[qeaV,d_,q_,f_,s_,s10,n_,t_,d11,e10] at hc;generalize hL:(⟨en,ea⟩::l:List EvT)=K at*;have hai:∀H,a16 H 2 (.seq 2 (K.map e10)) (.int .i64 0)=some (.eptr (e10 ⟨en,ea⟩) 0):=λH=>am_ hx
    repeat' (first|simp -implicitDefEqProofs only[go_sem,qeaV,d_,q_,f_,s_,s10,n_,t_,e_,e10,d11,zQ,hlt,hw,hai]|apply ai__<;>intro hb|refine ac_ hc rfl rfl ?_|fail)
    exact aa_ l.length (by rw[<-hL];simp) hnx
  .by_cases hlt':i<l.length
   .obtain⟨e,hx,hxm⟩:=as10 hlt';have hem:=he e hxm;have hw:=ws_ hlt';have hlt:decide ((i:Int)<(l.length:Int))=true:=by simpa using hlt'
    have hc:=rA10 (G:=G) q hsy hql hdl hdt ds hdsl (λd hd=>by have:=hd12 d hd;omega) e hem.1 hem.2;rw[da_ hx,zO] at hf;have hnx:=hI (n - 1) _ (.inr ⟨i+1,addD q ds e,by omega,by omega,hf,al15 _ _,λd hd=>by have:=aa17 hd12 d hd;omega,rfl⟩)
    clear hI h hf;generalize addD q ds e=D at*;obtain⟨en,ea⟩:=e;simp only[qeaV,d_,q_,f_,s_,s10,n_,t_,d11,e10] at hc
    repeat' (first|simp -implicitDefEqProofs only[go_sem,qeaV,d_,q_,f_,s_,s10,n_,t_,e_,e10,d11,zQ,hlt,hw,am_ hx]|apply ai__<;>intro hb|refine ac_ hc rfl rfl ?_|fail)
    exact ae__ hnx
   .have hlt:decide ((i:Int)<(l.length:Int))=false:=by simp;omega
    rw[yL (by omega)] at hf;have hf2:ds=d14 q l:=hf;subst hf2;have hne:l≠[]:=λe=>by rw[e,xY] at hi;omega
    rw[zK hne] at h;clear hI
    repeat' (first|simp -implicitDefEqProofs only[go_sem,qeaV,d_,q_,f_,s_,s10,n_,t_,e_,d11,zQ,hlt]|apply ai__<;>intro hb)
    exact hq_ h
 by_cases hn:l=[]
 .subst hn;rw[zY rfl] at key;have hd:d14 q []=List.replicate q.quants.length []:=rfl;rw[hd];exact P_.ret2 (dn11 q.quants.length) key
 .rw[zK hn] at key;exact key
section
variable {P:Program} {G:Nat->Option AV} {w:World} {F:Nat->Prop} {nm nm':N_} {I:List (Nat×Nat)}
theorem BoxR.ren (hn:∀i j,look I i=some j->nm' j=nm i) {i j:Nat} {b b2:Box} (hj:look I i=some j) (hb:renB I b=some b2) (h:BoxR w F nm i b):BoxR w F nm' j b2:=by
 obtain⟨s1,s2,s3,s4,s5,s6⟩:=rs11 hb;rcases h with ⟨h1,h2,h3,h4⟩ | ⟨m,hm,hl⟩
 .exact .inl ⟨by rw[hn i j hj];exact h1,by rw[s5 h3];exact h2,by rw[s1];exact h3,by rw[s3];exact h4⟩
 .exact .inr ⟨m,by rw[hn i j hj];exact hm,hl.ren hn hb⟩
theorem H_.ren_out {f:Nat} {args:List AV} {H H' H2:List (Nat×Box)} {r r2:AV} (h:H_ P G f args H r H') (I:List (Nat×Nat)) (h1:n15 (t29 I)=true) (h2:n15 (ours I)=true)
  (hr:renO I r=some r2) (hH:t42 I H'=some H2) (hv:∀i b,hget H i=some b->b.row=false->look I i=some i):H_ P G f args H r2 H2:=by
 intro w F nm vs hg ha hb;refine (h w F nm vs hg ha hb).mono λe w' ⟨v,F',nm',he,hF,hF2,hF3,hrd,hbb,hvar,hown,hk,hold⟩=>?_;have h1':=nn_ h1;have h2':=nn_ h2;let nm2:N_:=λj=>match l17 I j with | some i=>nm' i | none=>none
 have hn:∀i j,look I i=some j->nm2 j=nm' i:=λi j hij=>by show (match l17 I j with | some i=>nm' i | none=>none)=nm' i;rw[lol_ h2' hij]
 refine⟨v,F',nm2,he,hF,hF2,hF3,hrd.ren hn hr,⟨λj b2 hj=>?_,λi j b c m m' hi hj hmi hmj hg=>?_,λj b2 m hj hm=>?_⟩,λi b hi hrow=>?_,λk hk=>?_,hk,hold⟩
 .obtain⟨i,b,e1,e2,e3⟩:=ta_ hH hj;exact (hbb.box i b e2).ren hn e1 e3
 .obtain⟨i1,b1,e1,e2,e3⟩:=ta_ hH hi;obtain⟨i2,b2,e4,e5,e6⟩:=ta_ hH hj;rw[hn _ _ e1] at hmi;rw[hn _ _ e4] at hmj;have:=hbb.inj i1 i2 b1 b2 m m' e2 e5 hmi hmj hg;subst this;exact wL (e1.symm.trans e4)
 .obtain⟨i,b,e1,e2,e3⟩:=ta_ hH hj;rw[hn _ _ e1] at hm;exact hbb.fr i b m e2 hm
 .have hl:=hv i b hi hrow;obtain⟨g1,g2⟩:=hvar i b hi hrow;refine⟨by rw[hn _ _ hl];exact g1,λb' hb'=>?_⟩;obtain⟨i',b1,e1,e2,e3⟩:=ta_ hH hb';have:=li10 h2' e1 hl;subst this;rw[(rs11 e3).1];exact g2 b1 e2
 .obtain⟨j,b2,m,hj,hm,rfl⟩:=hk;obtain⟨i,b,e1,e2,e3⟩:=ta_ hH hj;rw[hn _ _ e1] at hm;exact hown _ ⟨i,b,m,e2,hm,rfl⟩
end
theorem pd_:∀(ds:List (List Val)) (v:Nat),p16 (ds.drop v)<=p16 ds
 | ds,0=>zN _
 | [],_ +1=>zN _
 | d::ds,v+1=>by have h1:=pd_ ds v;have h2:p16 ds<=(d.length+1)*p16 ds:=Nat.le_mul_of_pos_left _ (by omega);show p16 (ds.drop v)<=(d.length+1)*p16 ds;omega
def b13 (l:List (List SlotT)):Box:=⟨true,101,1,l.map s11⟩
def n20 (v:Nat) (b:List SlotT) (x:Val):List SlotT:=b++[⟨(v:Int),x⟩]
theorem ba12 {ds:List (List Val)} {v:Nat} {d:List Val} (hd:ds[v]?=some d) (b:List SlotT):b10 true (ds.drop v) v b=b10 true (ds.drop (v+1)) (v+1) b++d.flatMap λx=>b10 true (ds.drop (v+1)) (v+1) (n20 v b x):=by rw[da_ hd];show (if true=true then _ else _)++_ =_;rw[zY rfl];rfl
theorem rBh_ (ds:List (List Val)) (hds:ds.length<=1000) (hd:∀d∈ds,d.length<=1000000) (hm:p16 ds<=1000000):∀(n v:Nat),v+n=ds.length->∀b:List SlotT,b.length+n<=1000->
  HQ G 30 [d11 ds,iv v,s11 b,.bool true] [] (.arr 24 0 (b10 true (ds.drop v) v b).length) [(24,b13 (b10 true (ds.drop v) v b))]
 | 0,v,hv,b,hb=>by
  have hdr:ds.drop v=[]:=yL (by omega);rw[hdr];have key:HQ G 30 [d11 ds,iv v,s11 b,.bool true] [] (.arr 17 0 1) [(17,b13 [b])]:=by
   refine hpB_ λΦ h=>?_;unfold cpB_;have fin:∀env heap,subH heap [(17,b13 [b])]->Φ ⟨57,(8,.arr 17 0 1)::env,heap⟩:=λenv heap hh=>h _ ⟨_,_,Weak.refl _,rfl,.refl _,hh.at⟩;clear h;have hge:decide ((v:Int)>=(ds.length:Int))=true:=by simp;omega
   repeat' (first|simp -implicitDefEqProofs only[go_sem,d11,s11,b13,zQ,hge]|apply ai__<;>intro hb)
   exact fin _ _ ⟨rfl,trivial⟩
  exact key.ren_out [(17,24)] rfl rfl rfl rfl λi b hi=>by cases hi
 | n+1,v,hv,b,hb=>by
  obtain⟨d,hdv,hdm⟩:=as10 (l:=ds) (i:=v) (by omega);have hdl:=hd d hdm;have ih:=rBh_ ds hds hd hm n (v+1) (by omega);have hpl:=pd_ ds v;have htot:(b10 true (ds.drop v) v b).length<=1000000:=by rw[bl10];omega
  have hwv:=ws_ (i:=v) (n:=ds.length) (by omega) (by omega);have hge:decide ((v:Int)>=(ds.length:Int))=false:=by simp;omega
  have ih0:=ih b (by omega);have hb0:=ba12 hdv b;generalize hT:b10 true (ds.drop v) v b=T at*;clear hT;refine hpB_ λΦ h=>?_;unfold cpB_;have fin:∀env heap,subH heap [(24,b13 T)]->Φ ⟨57,(8,.arr 24 0 T.length)::env,heap⟩:=λenv heap hh=>h _ ⟨_,_,Weak.refl _,rfl,.refl _,hh.at⟩;clear h;simp only[d11,s11] at ih0
  repeat' (first|simp -implicitDefEqProofs only[go_sem,d11,s11,zQ,hge,hwv]|apply ai__<;>intro hb|(refine ac10 [(24,24)] ih0 rfl trivial rfl rfl rfl ?_)|fail)
  refine al_ (λm st=>∃(i:Nat) (out:List (List SlotT)),i+m=d.length∧out++(d.drop i).flatMap (λx=>b10 true (ds.drop (v+1)) (v+1) (n20 v b x))=T∧st=⟨57,[(0,d11 ds),(1,iv v),(2,s11 b),(3,.bool true),(9,.arr 24 0 out.length),(10,iv i)],[(8,⟨true,101,1,[]⟩),(9,⟨true,101,1,[]⟩),(24,b13 out)]⟩) d.length ⟨0,_,by simp,hb0.symm,rfl⟩ ?_;rintro I hI m st ⟨i,out,hi,ho,rfl⟩;by_cases hli:i<d.length
  .obtain⟨x,hx,hxm⟩:=as10 hli;have hlt:decide ((i:Int)<(d.length:Int))=true:=by simpa using hli
   have hw:=ws_ hli;rw[da_ hx,wB,<-xL] at ho;have hnx:=hI (m - 1) _ ⟨i+1,_,by omega,ho,rfl⟩;have ih1:=ih (n20 v b x) (by unfold n20;simp;omega);have hol:out.length+(b10 true (ds.drop (v+1)) (v+1) (n20 v b x)).length<=T.length:=by rw[<-ho,zL,zL];omega
   generalize b10 true (ds.drop (v+1)) (v+1) (n20 v b x)=N at*;have hbb:(out.length+N.length)*24<=140737488355328:=by omega
   have hbs:b.length*48<=140737488355328:=by omega
   have hbs2:(b.length+1)*48<=140737488355328:=by omega
   have hth:∀x:AV,(b.map s19++[x]).take (b.length+1)=b.map s19++[x]:=λx=>zT (by simp);have hN2:(N.map s11).take N.length=N.map s11:=zT (by simp);clear hI fin ho ih ih0;rw[zL] at hnx;unfold b13 at hnx ih1;rw[zE] at hnx;unfold n20 at ih1;obtain⟨x1,x2,x3,x4⟩:=x;simp only[d11,s11,zE,yJ,yU,s19,valV] at ih1
   repeat' (first|simp -implicitDefEqProofs only[go_sem,d11,s11,v_,valV,b13,zQ,hlt,hw,hwv,am_ hdv,am_ hx,hbs,hbs2,hbb]|apply ai__<;>intro hb)
   refine aw_ _ (wt_ (i:=34) rfl rfl) ?_;simp -implicitDefEqProofs only[go_sem,St.thaw1,t38,t37,thaw,thaw.go,t36,hget,evs,St.ev,eget,hth,zL,zQ,yH,xY,yS,vZ,zN,reduceIte,Nat.reduceEqDiff,Nat.reduceAdd,Nat.reduceLT,and_self,and_true];refine ch_ [(24,54)] ih1 (FitL.refl _) rfl trivial rfl rfl rfl ?_
   repeat' (first|simp -implicitDefEqProofs only[go_sem,d11,v_,valV,b13,zQ,hlt,hw,hwv,hbs,hbs2,hbb,hN2,zN]|apply ai__<;>intro hb)
   exact ae__ hnx
  .have hlt:decide ((i:Int)<(d.length:Int))=false:=by simp;omega
   rw[yL (show d.length<=i by omega)] at ho;have ho2:out=T:=by rw[<-ho];simp
   subst ho2;clear hI
   repeat' (first|simp -implicitDefEqProofs only[go_sem,d11,s11,v_,zQ,hlt,am_ hdv]|apply ai__<;>intro hb)
   exact fin _ _ ⟨rfl,trivial⟩
theorem rAp_ {q:QeaT} (hq:q.LintQ) (F:Fct q) (hsy:SymsOk q) (b:List SlotT) (hb:b.length<=1000000) (l:List EvT) (hl:l.length<=1000000) (he:E10 q l):
  PQ G 71 [qeaV q,s11 b,e_ l] (.bool (a15 q b l)):=by
 have hsz:=fs10 hq.few;have h0:=so15 hq F;have h1:=rS10 (G:=G) q (by omega);have h2:=rTp_ (G:=G) hq hsy b hb l hl he [s15 q] h0;have h3:=to14 hq (b:=b) l 0 [s15 q] he h0;have h4:=rA11 (G:=G) q (t18 q b l 0 [s15 q]).1 (by have:=h3.len;omega) λc hc=>⟨(h3.ok c hc).st.1,(h3.ok c hc).st.2.1⟩;unfold a15;refine pp11 λΦ h=>?_;unfold cp12;clear h0 h3;generalize List.any (t18 q b l 0 [s15 q]).1 (accR q)=r at*;generalize t18 q b l 0 [s15 q]=T at*;generalize [s15 q]=S at*;obtain⟨T1,T2,T3⟩:=T;simp only[qeaV,d_,q_,f_,s_,s10,n_,t_,c11,s11,e_] at h1 h2 h4
 repeat' (first|simp -implicitDefEqProofs only[go_sem,qeaV,d_,q_,f_,s_,s10,n_,t_,c11,s11,e_]|apply ai__<;>intro hb|refine ac_ h1 rfl rfl ?_|refine ac_ h2 rfl rfl ?_|refine ac_ h4 rfl rfl ?_|fail)
 exact hq_ h
theorem rhp_ {q:QeaT} (hq:q.LintQ) (F:Fct q) (hsy:SymsOk q) (l:List EvT) (hl:l.length<=1000000) (he:E10 q l) (ds:List (List Val)) (hds:ds.length=q.quants.length) (hd:∀d∈ds,d.length<=1000000):∀(n v:Nat),v+n=ds.length->∀b:List SlotT,b.length+n<=1000->
  PQ G 33 [qeaV q,d11 ds,iv v,s11 b,e_ l] (.bool (h18 q l (ds.drop v) v b))
 | 0,v,hv,b,hb=>by
  have hdr:ds.drop v=[]:=yL (by omega);have hA:=rAp_ (G:=G) hq F hsy b (by omega) l hl he;rw[hdr];have hr:h18 q l [] v b=a15 q b l:=rfl;rw[hr];have hge:decide ((v:Int)>=(ds.length:Int))=true:=by simp;omega
  refine pph_ λΦ h=>?_;unfold cph_;generalize a15 q b l=r at*;simp only[qeaV,d_,q_,f_,s_,s10,n_,t_,s11,e_] at hA
  repeat' (first|simp -implicitDefEqProofs only[go_sem,qeaV,d_,q_,f_,s_,s10,n_,t_,d11,s11,e_,zQ,hge]|apply ai__<;>intro hb|refine ac_ hA rfl rfl ?_|fail)
  exact hq_ h
 | n+1,v,hv,b,hb=>by
  have hql:=F.ql;obtain⟨d,hdv,hdm⟩:=as10 (l:=ds) (i:=v) (by omega);have hdl:=hd d hdm;obtain⟨y,hy,hym⟩:=as10 (l:=q.quants) (i:=v) (by omega);have hall:a33 q v=y.all:=by unfold a33;rw[hy]
  have ih:=rhp_ hq F hsy l hl he ds hds hd n (v+1) (by omega);have hwv:=ws_ (i:=v) (n:=ds.length) (by omega) (by omega);have hge:decide ((v:Int)>=(ds.length:Int))=false:=by simp;omega
  obtain⟨g,hih,hg⟩:∃g:Val->Bool,(∀x,PQ G 33 [qeaV q,d11 ds,iv ((v+1:Nat):Int),s11 (n20 v b x),e_ l] (.bool (g x)))∧h18 q l (ds.drop v) v b=if d.any (λx=>g x != y.all)=true then !y.all else y.all:=
   ⟨_,λx=>ih (n20 v b x) (by unfold n20;simp;omega),by rw[da_ hdv,<-hall];rfl⟩
  rw[hg];refine pph_ λΦ h=>?_;unfold cph_;clear ih hg;obtain⟨yall,y2,y3⟩:=y;dsimp only at h
  repeat' (first|simp -implicitDefEqProofs only[go_sem,qeaV,d_,q_,f_,s_,s10,n_,t_,q11,d11,s11,e_,zQ,hge,am_ hy]|apply ai__<;>intro hb)
  refine al_ (λm st=>∃i:Nat,i+m=d.length∧(d.drop i).any (λx=>g x != yall)=d.any (λx=>g x != yall)∧st=⟨63,[(1,d11 ds),(2,iv v),(3,s11 b),(4,e_ l),(5,.ref 5 0 0),(11,.bool yall),(12,iv i)],[(5,⟨false,30,9,[qeaV q]⟩)]⟩) d.length ⟨0,by simp,rfl,rfl⟩ ?_;rintro I hI m st ⟨i,hi,ho,rfl⟩;by_cases hli:i<d.length
  .obtain⟨x,hx,hxm⟩:=as10 hli;have hlt:decide ((i:Int)<(d.length:Int))=true:=by simpa using hli
   have hw:=ws_ hli;have hnx:=λh0=>hI (m - 1) _ ⟨i+1,by omega,h0,rfl⟩;have ih1:=hih x;rw[da_ hx,List.any_cons] at ho;have hbs:b.length*48<=140737488355328:=by omega
   have hbs2:(b.length+1)*48<=140737488355328:=by omega
   have hth:∀x:AV,(b.map s19++[x]).take (b.length+1)=b.map s19++[x]:=λx=>zT (by simp);clear hI hih;unfold n20 at ih1;generalize g x=r at*;obtain⟨x1,x2,x3,x4⟩:=x;simp only[qeaV,d_,q_,f_,s_,s10,n_,t_,d11,s11,e_,zE,yJ,yU,s19,valV] at ih1;cases hne:(r != yall) with
   | true=>
    rw[hne,Bool.true_or] at ho;rw[<-ho,zY rfl] at h;clear hnx;have hne2:(!(r==yall))=true:=hne
    repeat' (first|simp -implicitDefEqProofs only[go_sem,qeaV,d_,q_,f_,s_,s10,n_,t_,d11,s11,v_,valV,e_,zQ,hlt,hw,hwv,am_ hdv,am_ hx,hbs,hbs2,hne2]|apply ai__<;>intro hb|(refine ac_ ih1 ?_ rfl ?_;focus (simp [v10,flat,flat.go,viewBs,viewB,viewK,viewK.go,hget,hth];done);skip)|fail)
    exact hq_ h
   | false=>
    rw[hne,tE] at ho;have hnx:=hnx ho;clear h;have hne2:(!(r==yall))=false:=hne
    repeat' (first|simp -implicitDefEqProofs only[go_sem,qeaV,d_,q_,f_,s_,s10,n_,t_,d11,s11,v_,valV,e_,zQ,hlt,hw,hwv,am_ hdv,am_ hx,hbs,hbs2,hne2]|apply ai__<;>intro hb|(refine ac_ ih1 ?_ rfl ?_;focus (simp [v10,flat,flat.go,viewBs,viewB,viewK,viewK.go,hget,hth];done);skip)|fail)
    exact ae__ hnx
  .have hlt:decide ((i:Int)<(d.length:Int))=false:=by simp;omega
   rw[yL (show d.length<=i by omega)] at ho;rw[<-ho] at h;clear hI hih;rw[zK (by simp)] at h
   repeat' (first|simp -implicitDefEqProofs only[go_sem,qeaV,d_,q_,f_,s_,s10,n_,t_,d11,s11,v_,e_,zQ,hlt,am_ hdv]|apply ai__<;>intro hb)
   exact hq_ h
structure RunQ (q:QeaT) (l:List EvT):Prop where
 lq:q.LintQ
 F:Fct q
 sy:SymsOk q
 ql:q.quants.length<=12
 dt:∀d∈q.decls,d.types.length<=1000000
 len:l.length<=1000
 ev:E10 q l
 st:∀e∈l,∀v∈e.args,v.str.length<9223372036854775807
theorem dl_ {q:QeaT}:∀(l:List EvT) (ds:List (List Val)),ds.length=q.quants.length->(l.foldl (addD q) ds).length=q.quants.length
 | [],_,h=>h
 | e::l,ds,_ =>by rw[zO];exact dl_ l _ (al15 _ _)
theorem ds11 {q:QeaT} (hs:q.symbols.length<=12):∀(l:List EvT) (ds:List (List Val)) (n:Nat),(∀d∈ds,d.length<=n)->∀d∈l.foldl (addD q) ds,d.length<=n+12*l.length
 | [],_,_,h=>h
 | e::l,ds,n,h=>λd hd=>by rw[zO] at hd;have:=ds11 hs l _ (n+12) (λd hd=>by have:=aa17 h d hd;omega) d hd;rw[yH];omega
theorem dq_ (q:QeaT) (l:List EvT):(d14 q l).length=q.quants.length:=dl_ l _ (by simp)
section
variable {q:QeaT} {l:List EvT} (R:RunQ q l)
include R
theorem RunQ.dx:∀d∈d14 q l,d.length<=1000000:=λd hd=>by have:=ds11 (fs10 R.lq.few).2.2.2.1 l (List.replicate q.quants.length []) 0 (λd hd=>by rw[(List.mem_replicate.1 hd).2];exact zN _) d hd;have:=R.len;omega
theorem RunQ.of:PQ G 13 [qeaV q,e_ l] (d11 (d14 q l)):=by have hsz:=fs10 R.lq.few;have:=R.ql;exact rO12 q R.sy (by omega) (by omega) R.dt hsz.2.2.2.1 l R.len λe he=>⟨(R.ev e he).2.2,R.st e he⟩
theorem rHp_:PQ G 9 [qeaV q,e_ l] (.bool (h21 q l)):=by
 have h1:=R.of (G:=G);have hql:=R.ql;have hdl:=(dq_ q l);have hll:=R.len;have h2:=rhp_ (G:=G) R.lq R.F R.sy l (by omega) R.ev (d14 q l) (dq_ q l) R.dx (d14 q l).length 0 (by omega) [] (by simp;omega);unfold h21;rw[xO] at h2;refine ppH_ λΦ h=>?_;unfold cp15;generalize h18 q l (d14 q l) 0 []=r at*;generalize d14 q l=D at*;have f:FitL [qeaV q,d11 D,iv (0:Int),.nils,e_ l] [qeaV q,d11 D,iv ((0:Nat):Int),s11 [],e_ l]:=⟨.refl _,.refl _,.refl _,.nil _,.refl _,trivial⟩;simp only[qeaV,d_,q_,f_,s_,s10,n_,t_,d11,e_] at h1 h2 f
 repeat' (first|simp -implicitDefEqProofs only[go_sem,qeaV,d_,q_,f_,s_,s10,n_,t_,d11,e_]|apply ai__<;>intro hb|refine ac_ h1 rfl rfl ?_|(refine acf_ h2 rfl f rfl ?_)|fail)
 exact hq_ h
theorem rWp_ (hm:m16 (d14 q l)<=150):PQ G 8 [qeaV q,e_ l] (.tup [iv (w14 q l).1,iv (w14 q l).2]):=by
 have h1:=R.of (G:=G);have hql:=R.ql;have hdl:=(dq_ q l);have hll:=R.len;have hsz:=fs10 R.lq.few;have hpr:p16 (d14 q l)<=150:=by have:=mg_ (d14 q l) 1 (by omega) hm;omega
 have h2:=rBh_ (G:=G) (d14 q l) (by omega) R.dx (by omega) (d14 q l).length 0 (by omega) [] (by simp;omega);rw[xO] at h2;have hbl:∀b∈b10 true (d14 q l) 0 [],b.length<=12:=λb hb=>by have:=bm_ (d14 q l) 0 [] b hb;rw[xY] at this;omega
 have hBl:=ml14 hm 0 [];have h3:=rS10 (G:=G) q (by omega);have h4:∀b∈b10 true (d14 q l) 0 [],PQ G 31 [qeaV q,s11 b,c11 [s15 q],e_ l] (.tup [c11 (t18 q b l 0 [s15 q]).1,iv (t18 q b l 0 [s15 q]).2.1,iv (t18 q b l 0 [s15 q]).2.2]):=λb hb=>
  rTp_ (G:=G) R.lq R.sy b (by have:=hbl b hb;omega) l (by omega) R.ev [s15 q] (so15 R.lq R.F)
 refine ppW_ λΦ h=>?_;unfold cpW_;unfold w14 at h;have hst:∀s b,w15 q l s b=if ¬(t18 q b l 0 [s15 q]).2.1=0∧(s.1=0∨(t18 q b l 0 [s15 q]).2.2<s.1∨((t18 q b l 0 [s15 q]).2.2=s.1∧(t18 q b l 0 [s15 q]).2.1<s.2)) then ((t18 q b l 0 [s15 q]).2.2,(t18 q b l 0 [s15 q]).2.1) else s:=λ_ _ =>rfl;generalize w15 q l=W at*;clear hpr hbl hm;generalize b10 true (d14 q l) 0 []=B at*;generalize d14 q l=D at*;generalize [s15 q]=S at*;have f:FitL [d11 D,iv (0:Int),.nils,.bool true] [d11 D,iv ((0:Nat):Int),s11 [],.bool true]:=⟨.refl _,.refl _,.nil _,.refl _,trivial⟩;simp only[qeaV,d_,q_,f_,s_,s10,n_,t_,d11,e_] at h1 h2 h3 f
 repeat' (first|simp -implicitDefEqProofs only[go_sem,qeaV,d_,q_,f_,s_,s10,n_,t_,d11,e_]|apply ai__<;>intro hb|refine ac_ h1 rfl rfl ?_|(refine ac16 [(24,16)] h2 f rfl trivial rfl rfl rfl ?_)|fail)
 refine al_ (λn st=>∃(i:Nat) (s:Int×Int),i+n=B.length∧(B.drop i).foldl W s=B.foldl W (0,0)∧st=⟨61,[(1,e_ l),(2,.ref 2 0 0),(6,.arr 16 0 B.length),(7,iv s.1),(8,iv s.2),(9,iv i)],[(2,⟨false,30,9,[qeaV q]⟩),(16,b13 B)]⟩) B.length ⟨0,(0,0),by simp,rfl,rfl⟩ ?_;rintro I hI n st ⟨i,s,hi,hf,rfl⟩;by_cases hli:i<B.length
 .obtain⟨b,hb,hbm⟩:=as10 hli;have hlt:decide ((i:Int)<(B.length:Int))=true:=by simpa using hli
  have hw:=ws_ hli;have h4:=h4 b hbm;rw[da_ hb,zO] at hf;have hnx:=hI (n - 1) _ ⟨i+1,W s b,by omega,hf,rfl⟩;rw[hst] at hnx;have hbx:(B.map s11)[i]?=some (s11 b):=by rw[zS,hb];rfl
  clear hI h hf hst h1 h2 f;generalize t18 q b l 0 S=R at*;obtain⟨T1,T2,T3⟩:=R;obtain⟨s1,s2⟩:=s;dsimp only at hnx h4;simp only[qeaV,d_,q_,f_,s_,s10,n_,t_,c11,s11,e_] at h3 h4 hbx
  repeat' (first|simp -implicitDefEqProofs only[go_sem,qeaV,d_,q_,f_,s_,s10,n_,t_,d11,s11,e_,b13,zQ,hlt,hw,aa10 hli,hbx]|apply ai__<;>intro hb|refine ac_ h3 rfl rfl ?_|refine ac_ h4 rfl rfl ?_|fail)
  all_goals
   refine aa_ (n - 1) (by omega) ?_;by_cases hC:¬T2=0∧(s1=0∨T3<s1∨T3=s1∧T2<s2)
   .rw[zY hC] at hnx
    first | exact hnx | (exfalso;clear hnx h3 h4 hbx;simp_all;done) | (exfalso;clear hnx h3 h4 hbx;simp_all;omega)
   .rw[zK hC] at hnx
    first | exact hnx | (exfalso;clear hnx h3 h4 hbx;simp_all;done) | (exfalso;clear hnx h3 h4 hbx;simp_all;omega)
 .have hlt:decide ((i:Int)<(B.length:Int))=false:=by simp;omega
  rw[yL (by omega)] at hf;have hs:s=B.foldl W (0,0):=hf;subst hs;clear hI
  repeat' (first|simp -implicitDefEqProofs only[go_sem,qeaV,d_,q_,f_,s_,s10,n_,t_,d11,e_,b13,zQ,hlt]|apply ai__<;>intro hb)
  exact hq_ h
end
