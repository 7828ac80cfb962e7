/- Lemmas. -/
import Derived.Test.YtkgcnoghjibiaaaGreatDoorYV3
set_option linter.unusedSimpArgs false
set_option maxHeartbeats 4000000
set_option maxRecDepth 100000
namespace Go.Proofs.YtkgcnoghjibiaaaGreatDoor.Ab
open Go
variable {G:Nat->Option AV}
theorem bs14 (x:UInt8) (s t:Str):Op.bytesLess (x::s) (x::t)=Op.bytesLess s t:=by simp [Op.bytesLess]
theorem bl_ne {x y:UInt8} (h:¬x=y) (s t:Str):Op.bytesLess (x::s) (y::t)=decide (x<y):=by simp [Op.bytesLess,h]
theorem be_ {s t:Str} (h:s=[]∨t=[]):Op.bytesLess s t=decide ((s.length:Int)<t.length):=by
 rcases h with rfl | rfl
 .cases t <;> simp [Op.bytesLess] <;> omega
 .cases s <;> simp [Op.bytesLess] <;> omega
theorem da10 {α:Type} {l:List α} {i:Nat} {x:α} (h:l[i]?=some x):l.drop i=x::l.drop (i+1):=by obtain⟨hlt,rfl⟩:=zX.1 h;exact xU hlt
theorem rBp_ (a b:Str) (ha:a.length<9223372036854775807):PQ G 224 [.str a,.str b] (.bool (Op.bytesLess a b)):=by
 refine ppB_ λΦ h=>?_;unfold cp10;simp -implicitDefEqProofs only[go_sem];refine al_ (λn st=>∃i:Nat,i+n=a.length∧i<=b.length∧st=⟨37,[(0,.str a),(1,.str b),(5,iv i)],[]⟩∧Op.bytesLess (a.drop i) (b.drop i)=Op.bytesLess a b) a.length ⟨0,by simp,wC _,rfl,rfl⟩ ?_;rintro I hI n st ⟨i,hi,hib,rfl,hno⟩;have hle:i<=a.length:=by omega
 by_cases h1:i<a.length
 .obtain⟨x,hx,_⟩:=as10 h1;have hw:=ws_ h1;by_cases h2:i<b.length
  .obtain⟨y,hy,_⟩:=as10 h2;rw[da10 hx,da10 hy] at hno;have k1:((i:Int)<(a.length:Int))=True:=by simp;omega
   have k2:((i:Int)<(b.length:Int))=True:=by simp;omega
   have e1:aidx (.str a) (.int .i64 (i:Int))=some (.int .u8 x.toNat):=as20 _ (by omega) (by simpa using hx);have e2:aidx (.str b) (.int .i64 (i:Int))=some (.int .u8 y.toNat):=as20 _ (by omega) (by simpa using hy);by_cases hxy:x=y
   .subst hxy;rw[bs14] at hno;have e3:((x.toNat:Int) != (x.toNat:Int))=false:=by simp
    repeat' (first|simp -implicitDefEqProofs only[go_sem,k1,k2,e1,e2,e3,hw,yD]|apply ai__<;>intro hb)
    exact aa_ (n - 1) (by omega) (hI _ _ ⟨i+1,by omega,by omega,rfl,hno⟩)
   .rw[bl_ne hxy] at hno;have hn:¬x.toNat=y.toNat:=λe=>hxy (UInt8.toNat_inj.1 e);have e3:((x.toNat:Int) != (y.toNat:Int))=true:=by simp;omega
    repeat' (first|simp -implicitDefEqProofs only[go_sem,k1,k2,e1,e2,e3,yD]|apply ai__<;>intro hb)
    refine h _ ⟨_,_,rfl,rfl,fitB ?_⟩;rw[<-hno,yY];simp [UInt8.lt_iff_toNat_lt]
  .have:i=b.length:=by omega
   have k1:((i:Int)<(a.length:Int))=True:=by simp;omega
   have k2:((i:Int)<(b.length:Int))=False:=by simp;omega
   repeat' (first|simp -implicitDefEqProofs only[go_sem,k1,k2,yD,yA]|apply ai__<;>intro hb)
   refine h _ ⟨_,_,rfl,rfl,fitB ?_⟩;rw[<-hno,be_ (.inr (by rw[List.drop_eq_nil_iff];omega)),yY];simp;omega
 .have:i=a.length:=by omega
  have k1:((i:Int)<(a.length:Int))=False:=by simp;omega
  repeat' (first|simp -implicitDefEqProofs only[go_sem,k1,yD,yA]|apply ai__<;>intro hb)
  refine h _ ⟨_,_,rfl,rfl,fitB ?_⟩;rw[<-hno,be_ (.inl (by rw[List.drop_eq_nil_iff];omega)),yY];simp;omega
theorem rLp_ (a b:Val) (ha:a.str.length<9223372036854775807):PQ G 147 [valV a,valV b] (.bool (l11 a b)):=by
 have h1:=rBp_ (G:=G) a.str b.str ha;obtain⟨k,n,s,t⟩:=a;obtain⟨k',n',s',t'⟩:=b;dsimp only at*;refine ppL_ λΦ h=>?_;unfold cpL_;unfold l11 at h;dsimp only at h;generalize Op.bytesLess s s'=r at*
 repeat' (first|simp -implicitDefEqProofs only[go_sem,valV]|apply ai__<;>intro hb|refine ac_ h1 rfl rfl ?_|fail)
 all_goals
  refine h _ ⟨_,_,rfl,rfl,fe_ ?_⟩;clear h h1;simp_all
theorem rt10 (b:Bool):PQ G 279 [.bool b] (vt (⟨3,0,[],b⟩,0)):=by
 refine ppt_ λΦ h=>?_;unfold cpt_
 repeat' (first|simp -implicitDefEqProofs only[go_sem]|apply ai__<;>intro hb)
 exact hq_ h
theorem rnp_ (n:Int) (ok:Bool):PQ G 289 [iv n,.bool ok] (vt (if ok then (⟨1,n,[],false⟩,0) else (v0,6))):=by refine ppn_ λΦ h=>?_;unfold cpn_;cases ok <;> (repeat' (first|simp -implicitDefEqProofs only[go_sem]|apply ai__<;>intro hb)) <;> exact hq_ h
def ariR (op a b:Int):Val×Int:=if (numR op a b).2=0 then (⟨1,(numR op a b).1,[],false⟩,0) else (v0,(numR op a b).2)
theorem ao10 {op a b m:Int} (h:numR op a b=ovR m):ariR op a b=if (okR m).2=true then (⟨1,(okR m).1,[],false⟩,0) else (v0,6):=by unfold ariR;rw[h];unfold ovR okR;by_cases hm:in64 m=true <;> simp [hm]
theorem rap_ (op a b:Int) (hop:8<=op∧op<=12) (ha:i64 a) (hb:i64 b):PQ G 280 [iv op,iv a,iv b] (vt (ariR op a b)):=by
 have h1:=rA14 (G:=G) a b ha hb;have h2:=rSp_ (G:=G) a b ha hb;have h3:=rM10 (G:=G) a b ha hb;have h4:=rDp_ (G:=G) a b ha;refine ppa_ λΦ h=>?_;unfold cpa_;unfold t2b at*;unfold vt at h;have hop':op=8∨op=9∨op=10∨op=11∨op=12:=by omega
 rcases hop' with rfl | rfl | rfl | rfl | rfl
 .rw[ao10 (m:=a+b) rfl] at h;have hn:=rnp_ (G:=G) (okR (a+b)).1 (okR (a+b)).2;generalize okR (a+b)=r at*;obtain⟨r1,r2⟩:=r;unfold vt at hn;cases r2 <;> (repeat' (first|simp -implicitDefEqProofs only[go_sem]|apply ai__<;>intro hb|refine ac_ h1 rfl rfl ?_|refine ac_ hn rfl rfl ?_|fail)) <;> exact hq_ h
 .rw[ao10 (m:=a - b) rfl] at h;have hn:=rnp_ (G:=G) (okR (a - b)).1 (okR (a - b)).2;generalize okR (a - b)=r at*;obtain⟨r1,r2⟩:=r;unfold vt at hn;cases r2 <;> (repeat' (first|simp -implicitDefEqProofs only[go_sem]|apply ai__<;>intro hb|refine ac_ h2 rfl rfl ?_|refine ac_ hn rfl rfl ?_|fail)) <;> exact hq_ h
 .rw[ao10 (m:=a*b) rfl] at h;have hn:=rnp_ (G:=G) (okR (a*b)).1 (okR (a*b)).2;generalize okR (a*b)=r at*;obtain⟨r1,r2⟩:=r;unfold vt at hn;cases r2 <;> (repeat' (first|simp -implicitDefEqProofs only[go_sem]|apply ai__<;>intro hb|refine ac_ h3 rfl rfl ?_|refine ac_ hn rfl rfl ?_|fail)) <;> exact hq_ h
 .by_cases hb0:b=0
  .have e:dmR a b=(0,0,7):=by simp [dmR,hb0]
   have e':ariR 11 a b=(v0,7):=by simp [ariR,numR,divR,hb0]
   rw[e] at h4;rw[e'] at h
   repeat' (first|simp -implicitDefEqProofs only[go_sem]|apply ai__<;>intro hb|refine ac_ h4 rfl rfl ?_|fail)
   exact hq_ h
  .by_cases hi:in64 (a.tdiv b)=true
   .have e:dmR a b=(a.tdiv b,a.tmod b,0):=by simp [dmR,hb0,hi]
    have e':ariR 11 a b=(⟨1,a.tdiv b,[],false⟩,0):=by simp [ariR,numR,divR,hb0,ovR,hi]
    rw[e] at h4;rw[e'] at h;have hn:=rnp_ (G:=G) (a.tdiv b) true;generalize a.tdiv b=q at*;generalize a.tmod b=r at*;unfold vt at hn
    repeat' (first|simp -implicitDefEqProofs only[go_sem]|apply ai__<;>intro hb|refine ac_ h4 rfl rfl ?_|refine ac_ hn rfl rfl ?_|fail)
    exact hq_ h
   .have e:dmR a b=(0,0,6):=by simp [dmR,hb0,hi]
    have e':ariR 11 a b=(v0,6):=by simp [ariR,numR,divR,hb0,ovR,hi]
    rw[e] at h4;rw[e'] at h;have hn:=rnp_ (G:=G) 0 false;unfold vt at hn
    repeat' (first|simp -implicitDefEqProofs only[go_sem]|apply ai__<;>intro hb|refine ac_ h4 rfl rfl ?_|refine ac_ hn rfl rfl ?_|fail)
    exact hq_ h
 .by_cases hb0:b=0
  .have e:dmR a b=(0,0,7):=by simp [dmR,hb0]
   have e':ariR 12 a b=(v0,7):=by simp [ariR,numR,modR,hb0]
   rw[e] at h4;rw[e'] at h
   repeat' (first|simp -implicitDefEqProofs only[go_sem]|apply ai__<;>intro hb|refine ac_ h4 rfl rfl ?_|fail)
   exact hq_ h
  .have e:dmR a b=((dmR a b).1,a.tmod b,(dmR a b).2.2)∧¬(dmR a b).2.2=7:=by
    by_cases hi:in64 (a.tdiv b)=true
    .simp [dmR,hb0,hi]
    .have hb1:b= -1:=by
      by_cases hb1:b= -1
      .exact hb1
      .exact absurd (ts10 ha hb1) hi
     subst hb1;rw[tn11];rw[tn10] at hi;have hi':in64 (-a)=false:=by simpa using hi
     simp [dmR,hi',tn10]
   have e':ariR 12 a b=(⟨1,a.tmod b,[],false⟩,0):=by simp [ariR,numR,modR,hb0]
   obtain⟨e,e7⟩:=e;generalize (dmR a b).1=q1 at*;generalize (dmR a b).2.2=q3 at*;rw[e] at h4;rw[e'] at h;have e7':(q3==7)=false:=by simpa using e7
   generalize a.tmod b=r at*
   repeat' (first|simp -implicitDefEqProofs only[go_sem,e7']|apply ai__<;>intro hb|refine ac_ h4 rfl rfl ?_|fail)
   exact hq_ h
theorem rOp_ (op:Int) (a b:Val) (ha:i64 a.int) (hb:i64 b.int) (hl:a.str.length+b.str.length<=1000000) (hop:4<=op∧op<=16) (hk:1<=a.kind∧a.kind<=3):
  PQ G 261 [iv op,valV a,valV b] (vt (opR op a b)):=by
 have hL1:=rLp_ (G:=G) a b (by omega);have hL2:=rLp_ (G:=G) b a (by omega);have hN:=λh=>rap_ (G:=G) op a.int b.int h ha hb;have hN5:op=5->PQ G 280 [iv 9,iv 0,iv a.int] (vt (ariR op a.int b.int)):=by rintro rfl;have:=rap_ (G:=G) 9 0 a.int (by omega) (by unfold i64;omega) ha;rw[show ariR 9 0 a.int=ariR 5 a.int b.int by simp [ariR,numR]] at this;exact this
 clear ha hb;have hla:a.str.length<=1000000:=by omega
 have hlb:b.str.length<=1000000:=by omega
 obtain⟨k,n,s,t⟩:=a;obtain⟨k',n',s',t'⟩:=b;dsimp only at*;have hadd:abin .add (.str s) (.str s')=some (.str (s++s')):=aa19 (by omega);have hwl:IntKind.i64.wrap ((s.length:Int)+(s'.length:Int))=((s++s').length:Int):=by rw[wi_ (by omega) (by omega)];simp
 have hd:∀z:Val,(if (numR op n n').2=0 then ((⟨1,(numR op n n').1,[],false⟩,0):Val×Int) else (v0,(numR op n n').2))=ariR op n n':=λ_ =>rfl;refine ppO_ λΦ h=>?_;unfold cpO_;unfold opR at h;rw[vb_] at h;dsimp only at h;rw[hd v0] at h;clear hd;have k1:¬(op<4∨16<op):=by omega
 rw[zK k1] at h;generalize l11 ⟨k,n,s,t⟩ ⟨k',n',s',t'⟩=l1 at*;generalize l11 ⟨k',n',s',t'⟩ ⟨k,n,s,t⟩=l2 at*;generalize ariR op n n'=r at*;obtain⟨⟨r1,r2,r3,r4⟩,r5⟩:=r;unfold vt at*;simp only[valV] at hL1 hL2 hN hN5;have hk':k=1∨k=2∨k=3:=by omega
 have hop':op=4∨op=5∨op=6∨op=7∨op=8∨op=9∨op=10∨op=11∨op=12∨op=13∨op=14∨op=15∨op=16:=by omega
 clear hk hop k1 hl;by_cases hkk:k=k'
 .subst hkk;rcases hop' with rfl | rfl | rfl | rfl | rfl | rfl | rfl | rfl | rfl | rfl | rfl | rfl | rfl
  all_goals (try have hN:=hN (by omega));(try have hN5:=hN5 rfl)
  all_goals rcases hk' with rfl | rfl | rfl
  all_goals
   repeat' (first|simp -implicitDefEqProofs only[go_sem,valV,hadd,hwl,aeqA,aeqs,l10,andO,uP,uD,yD,yA]|apply ai__<;>intro hb|refine ac_ hL1 rfl rfl ?_|refine ac_ hL2 rfl rfl ?_|refine ac_ hN rfl rfl ?_|refine ac_ hN5 rfl rfl ?_|refine ac_ (rt10 _) rfl rfl ?_|fail)
  all_goals
   refine h _ ⟨_,_,rfl,rfl,fe_ ?_⟩;clear h hL1 hL2 hN hN5
   first
   | (simp [o11,k_,valV];done)
   | (simp [o11,k_,valV,t46,-List.length_append,hb];done)
 .have hkk':¬k'=k:=λe=>hkk e.symm;have e0:(k != k')=true:=by simpa using hkk
  rcases hop' with rfl | rfl | hop'
  .rcases hk' with rfl | rfl | rfl
   all_goals
    repeat' (first|simp -implicitDefEqProofs only[go_sem,valV]|apply ai__<;>intro hb|refine ac_ (rt10 _) rfl rfl ?_|fail)
    exact h _ ⟨_,_,rfl,rfl,fe_ (by simp [o11,valV])⟩
  .have hN5:=hN5 rfl;rcases hk' with rfl | rfl | rfl
   all_goals
    repeat' (first|simp -implicitDefEqProofs only[go_sem,valV]|apply ai__<;>intro hb|refine ac_ hN5 rfl rfl ?_|fail)
    exact h _ ⟨_,_,rfl,rfl,fe_ (by simp [o11,valV])⟩
  .have ez:o11 op k k'=0:=by
    unfold o11;rcases hop' with rfl | rfl | rfl | rfl | rfl | rfl | rfl | rfl | rfl | rfl | rfl <;> simp [hkk']
   rw[zY ez] at h;rcases hop' with rfl | rfl | rfl | rfl | rfl | rfl | rfl | rfl | rfl | rfl | rfl
   all_goals
    repeat' (first|simp -implicitDefEqProofs only[go_sem,valV,e0]|apply ai__<;>intro hb)
    exact hq_ h
def nb (c:UInt8):Bool:=c.toNat==95||(decide (48<=c.toNat)&&decide (c.toNat<=57)||(decide (65<=c.toNat)&&decide (c.toNat<=90)||decide (97<=c.toNat)&&decide (c.toNat<=122)))
def d17 (c:UInt8):Bool:=decide (48<=c.toNat)&&decide (c.toNat<=57)
def s27 (s:Str):Bool:=match s with
 | []=>false
 | c::_ =>decide (s.length<=32)&&(!d17 c&&s.all nb)
def w11:List Str:=[[97,99,99,101,112,116],[97,108,115,111],[97,110,100],[98,111,111,108],[100,111],[101,118,101,110,116],[101,120,105,115,116,115],[102,97,108,115,101],[102,111,114,97,108,108],[102,114,101,101],[105,102],[105,110,116],[110,101,120,116],[110,111,116],[111,110],[111,114],[113,101,97],[115,107,105,112],[115,116,97,114,116],[115,116,114,105,110,103],[116,111],[116,114,117,101]]
def n12 (s:Str):Bool:=s27 s&&(!(w11.any λx=>s==x)&& !(s==[95]))
def idxR (p:Nat->Bool) (s:Str):Nat->Nat->Int
 | 0,_ =>-1
 | n+1,pos=>if pos<s.length then (if p (adec s pos).1 then (pos:Int) else idxR p s n (pos+(adec s pos).2)) else -1
def oddR (c:Nat):Bool:=!(c==95)&&((decide (c<48)||decide (57<c))&&((decide (c<65)||decide (90<c))&&(decide (c<97)||decide (122<c))))
theorem ga11 (s:Str) (p:Nat) (hp:p<s.length):(⟨s.toArray⟩:ByteArray).get! p=s[p]:=by simp [ByteArray.get!,hp]
theorem al17 (s:Str) (p:Nat) (hp:p<s.length) (h:s[p].toNat<128):adec s p=(s[p].toNat,1):=by unfold adec Utf8.decode;simp only[vZ,ga11 s p hp,h,xW]
theorem ah_ (s:Str) (p:Nat) (hp:p<s.length) (h:¬s[p].toNat<128):128<=(adec s p).1:=by
 unfold adec Utf8.decode;simp only[vZ,ga11 s p hp,h,yI,Utf8.runeError]
 repeat' split
 all_goals first | omega | (simp only[ge_iff_le,zJ,zW] at*;omega) | simp
theorem aw10 (s:Str) (p:Nat):1<=(adec s p).2:=by
 unfold adec Utf8.decode;simp only
 repeat' split
 all_goals simp
theorem ob_ {c:UInt8} (h:c.toNat<128):oddR c.toNat= !nb c:=by rw[yY];simp only[oddR,nb,zJ,wH,yX,zW,xC,uT,wK,yQ,sZ];omega
theorem oh10 {c:Nat} (h:128<=c):oddR c=true:=by simp only[oddR,zJ,wH,yX,zW,xC,sZ];omega
theorem nh_ {c:UInt8} (h:¬c.toNat<128):nb c=false:=by simp only[nb,uT,wK,zW,yQ,xC,sZ];omega
theorem io_ (s:Str):∀n pos,s.length<=pos+n->(idxR oddR s (n+1) pos<0↔(s.drop pos).all nb=true)
 | 0,pos,h=>by
  have:¬pos<s.length:=by omega
  simp [idxR,this,yO (show s.length<=pos by omega)]
 | n+1,pos,h=>by
  unfold idxR;by_cases hp:pos<s.length
  .rw[zY hp,xU hp,uL];by_cases hl:s[pos].toNat<128
   .rw[al17 s pos hp hl];simp only[ob_ hl];cases hn:nb s[pos]
    .simp
     try omega
    .simp only[wM,zF,yI,yR];exact io_ s n (pos+1) (by omega)
   .rw[zY (oh10 (ah_ s pos hp hl)),nh_ hl];simp
    try omega
  .rw[zK hp,yO (by omega)];simp
theorem sip_ (f:Nat) (caps:List AV) (hf:b11 Tryz.prog f=true) (hcap:OkC caps) (p:Nat->Bool) (hp:∀r:Nat,PQ G f (.int .i32 (r:Int)::caps) (.bool (p r))) (s:Str):
  PQ G 286 [.str s,.fn f caps,.bool true] (iv (idxR p s (s.length+1) 0)):=by
 refine psi_ λΦ h=>?_;unfold csi_;simp -implicitDefEqProofs only[go_sem,hcap.purge];refine al_ (λn st=>∃pos:Nat,s.length<=pos+n∧st=⟨21,[(1,.fn f caps),(2,.bool true),(10,.ref 10 0 0)],[(10,⟨true,0,0,[.str s,iv pos]⟩)]⟩∧idxR p s (s.length+1) 0=idxR p s (n+1) pos) s.length ⟨0,by omega,rfl,rfl⟩ ?_;rintro I hI n st ⟨pos,hn,rfl,he⟩;by_cases hlt:pos<s.length
 .obtain⟨m,rfl⟩:∃m,n=m+1:=⟨n - 1,by omega⟩;have hw:=aw10 s pos;simp -implicitDefEqProofs only[go_sem,anxt,hlt,hcap.purge];refine⟨hf,ac_ (hp (adec s pos).1) (by simp [v10,flat,viewBs,viewB,viewK,hcap.viewBs]) rfl ?_⟩;have hstep:idxR p s (m+1+1) pos=if p (adec s pos).1 then (pos:Int) else idxR p s (m+1) (pos+(adec s pos).2):=by rw[idxR,zY hlt]
  cases hpx:p (adec s pos).1
  .rw[hpx] at hstep;simp -implicitDefEqProofs only[go_sem,hcap.purge];exact aa_ m (by omega) (hI _ _ ⟨pos+(adec s pos).2,by omega,rfl,by rw[he,hstep];rfl⟩)
  .rw[hpx] at hstep;simp -implicitDefEqProofs only[go_sem,hcap.purge];exact h _ ⟨_,_,rfl,rfl,fitI (by rw[he,hstep];rfl)⟩
 .simp -implicitDefEqProofs only[go_sem,anxt,hlt];exact h _ ⟨_,_,rfl,rfl,fitI (by rw[he,idxR,zK hlt])⟩
theorem sIp_ (f:Nat) (caps:List AV) (hf:b11 Tryz.prog f=true) (hcap:OkC caps) (p:Nat->Bool) (hp:∀r:Nat,PQ G f (.int .i32 (r:Int)::caps) (.bool (p r))) (s:Str):
  PQ G 268 [.str s,.fn f caps] (iv (idxR p s (s.length+1) 0)):=by
 refine psI_ λΦ h=>?_;unfold csI_;simp -implicitDefEqProofs only[go_sem];refine ac_ (sip_ f caps hf hcap p hp s) (by simp [v10,flat,viewBs,viewB,viewK,hcap.viewK]) rfl ?_;simp -implicitDefEqProofs only[go_sem];exact hq_ h
theorem sS1p_ (r:Nat):PQ G 267 [.int .i32 (r:Int)] (.bool (oddR r)):=by
 refine psS1z λΦ h=>?_;unfold csS1z
 repeat' (first|simp -implicitDefEqProofs only[go_sem]|apply ai__<;>intro hb)
 all_goals
  refine h _ ⟨_,_,rfl,rfl,fitB ?_⟩;clear h;rw[yY];simp only[oddR,zJ,wH,yX,zW,yQ,xC,sZ,bne_iff_ne,tK,zF,Bool.true_eq_false,wM,vX,true_iff,false_iff,iff_true,iff_false] at*;omega
theorem sSp_ (s:Str):PQ G 226 [.str s] (.bool (s27 s)):=by
 have hsp:0<s.length->(decide (idxR oddR s (s.length+1) 0<0)=s.all nb):=λ_ =>by rw[yY,zW,io_ s s.length 0 (by omega)];simp
 refine psS_ λΦ h=>?_;unfold csS_;cases s with
 | nil=>
  simp -implicitDefEqProofs only[go_sem];exact hq_ h
 | cons c r=>
  have e0:aidx (.str (c::r)) (.int .i64 0)=some (.int .u8 c.toNat):=rfl;have hsp':=hsp (by simp)
  repeat' (first|simp -implicitDefEqProofs only[go_sem,e0,alen]|apply ai__<;>intro hb|refine ac_ (sIp_ 267 [] (by kernel_rfl) on_ oddR (λr=>sS1p_ r) (c::r)) rfl rfl ?_|fail)
  all_goals
   refine h _ ⟨_,_,rfl,rfl,fitB ?_⟩;clear h;have e1:s27 (c::r)=(decide ((c::r).length<=32)&&(!d17 c&&(c::r).all nb)):=rfl;simp only[yH] at hsp'
   try rw[hsp']
   clear hsp hsp' e0;rw[e1];clear e1;generalize (c::r).all nb=A at*;cases A <;> (rw[yY];simp [d17] at*;try omega)
def f13 {α:Type} (f:Nat->α->Int):List α->Nat->Int×Int
 | [],_ =>(0,-1)
 | x::r,i=>if f i x=0 then f13 f r (i+1) else (f i x,i)
theorem fs14 {α:Type} {f:Nat->α->Int} {l:List α} {i:Nat} {x:α} (hx:l[i]?=some x):f13 f (l.drop i) i=if f i x=0 then f13 f (l.drop (i+1)) (i+1) else (f i x,i):=by obtain⟨hlt,rfl⟩:=zX.1 hx;rw[xU hlt,f13]
theorem fe10 {α:Type} {f:Nat->α->Int} {l:List α} {i:Nat} (h:l.length<=i):f13 f (l.drop i) i=(0,-1):=by rw[yO h,f13]
theorem os14 (x:Str):OkC [.eptr (.str x) 0]:=⟨λ_ =>rfl,λ_ _ =>rfl,λ_ =>rfl,λ_ _ =>rfl,λ_ =>rfl,λ_ =>rfl⟩
def wg_ (G:Nat->Option AV):Prop:=G 1=some (.agg (w11.map AV.str))
theorem wl10:(w11.map AV.str).length=22:=rfl
theorem wa_:(w11.map AV.str).all c22=true:=rfl
theorem sWp_ (hG:wg_ G) (s:Str):PQ G 227 [.str s] (.bool (s27 s&&w11.any λx=>s==x)):=by
 unfold wg_ at hG;refine psW_ λΦ h=>?_;unfold csW_
 repeat' (first|simp -implicitDefEqProofs only[go_sem,hG,wl10,wa_]|apply ai__<;>intro hb|refine ac_ (sSp_ s) rfl rfl ?_|refine ac_ (sCssp_ w11 s (by decide)) rfl rfl ?_|fail)
 all_goals (refine h _ ⟨_,_,rfl,rfl,fe_ ?_⟩;clear h;first | rfl | simp_all)
theorem sNp_ (hG:wg_ G) (s:Str):PQ G 149 [.str s] (.bool (n12 s)):=by
 refine psN_ λΦ h=>?_;unfold csN_
 repeat' (first|simp -implicitDefEqProofs only[go_sem]|apply ai__<;>intro hb|refine ac_ (sSp_ s) rfl rfl ?_|refine ac_ (sWp_ hG s) rfl rfl ?_|fail)
 all_goals (refine h _ ⟨_,_,rfl,rfl,fe_ ?_⟩;clear h;first | rfl | (simp_all [n12];done) | (simp_all [n12];exact λhn=>absurd rfl (hn _ ‹s∈w11›)))
theorem rW10:PQ G 139 [] (.seq 1 (w11.map AV.str)):=by refine pp21 λΦ h=>?_;unfold cp23;simp -implicitDefEqProofs only[go_sem];exact hq_ h
theorem rFp_ (l:List DeclT) (hl:l.length<9223372036854775807) (x:Str):PQ G 34 [d_ l,.str x] (iv (idxF (λd=>d.name==x) l)):=by
 refine ppF_ λΦ h=>?_;unfold cpF_;simp -implicitDefEqProofs only[go_sem,d_,zQ];refine al_ (λn st=>∃i:Nat,i+n=l.length∧st=⟨20,[(0,d_ l),(1,.str x),(5,iv i)],[]⟩∧∀j d,j<i->l[j]?=some d->(d.name==x)=false) l.length ⟨0,by simp,rfl,λj x hj=>by omega⟩ ?_;rintro I hI n st ⟨i,hi,rfl,hno⟩;simp -implicitDefEqProofs only[go_sem,d_,zQ];refine⟨λhlt=>?_,λhge=>?_⟩
 .have hlt':i<l.length:=by omega
  obtain⟨d,hd,hm⟩:=as10 hlt';have hw:=ws_ hlt';simp -implicitDefEqProofs only[go_sem,am_ hd,d12,i11];refine⟨λhb=>?_,λhb=>?_⟩
  .exact h _ ⟨_,_,rfl,rfl,fitI (ia_ hd (by simpa using hb) hno).symm⟩
  .simp -implicitDefEqProofs only[go_sem,hw];exact aa_ (n - 1) (by omega) (hI _ _ ⟨i+1,by omega,rfl,λj y hj hy=>by
    by_cases e:j=i
    .subst e;rw[hd] at hy;cases hy;simpa using hb
    .exact hno j y (by omega) hy⟩)
 .have:i=l.length:=by omega
  subst this;exact h _ ⟨_,_,rfl,rfl,fitI (in10 hno).symm⟩
def okAt (i:Nat) (c:UInt8):Bool:=nb c&& !(decide (i=0)&&d17 c)
theorem oa11 (c:UInt8) (r:Str):allI okAt (c::r)=(!d17 c&&(c::r).all nb):=by
 rw[yY,at10];simp only[okAt,zJ,yX,wK,zW,xQ];constructor
 .intro h;refine⟨(h 0 c rfl).2 rfl,λx hx=>?_⟩;obtain⟨i,hi⟩:=zM hx;exact (h i x hi).1
 .rintro⟨h0,h1⟩ i x hx;refine⟨h1 x (zG hx),λe=>?_⟩;subst e;cases hx;exact h0
theorem aa23 {s:Str} {i:Nat} {c:UInt8} (h:s[i]?=some c):aidx (.str s) (.int .i64 (i:Int))=some (.int .u8 c.toNat):=by
 have h0:¬(i:Int)<0:=by omega
 simp [aidx,h]
theorem rS13 (s:Str):PQ G 140 [.str s] (.bool (s27 s)):=by
 refine pp22 λΦ h=>?_;unfold cp24;cases s with
 | nil=>
  repeat' (first|simp -implicitDefEqProofs only[go_sem]|apply ai__<;>intro hb)
  all_goals first | exact hq_ h | (exfalso;simp at*;done)
 | cons c r=>
  have hs:s27 (c::r)=(decide ((c::r).length<=32)&&allI okAt (c::r)):=by rw[oa11];rfl
  generalize he:c::r=s at*;have h1:1<=s.length:=by rw[<-he];simp
  clear he
  repeat' (first|simp -implicitDefEqProofs only[go_sem]|apply ai__<;>intro hb)
  all_goals try (exfalso;simp at*;omega)
  .exact h _ ⟨_,_,rfl,rfl,fitB (by rw[hs];simp;omega)⟩
  .refine al_ (λn st=>∃i:Nat,i+n=s.length∧st=⟨55,[(0,.str s),(3,iv i)],[]⟩∧∀j c,j<i->s[j]?=some c->okAt j c=true) s.length ⟨0,by simp,rfl,λj x hj=>by omega⟩ ?_;rintro I hI n st ⟨i,hi,rfl,hno⟩;simp -implicitDefEqProofs only[go_sem];refine⟨λhlt=>?_,λhge=>?_⟩
   .have hlt':i<s.length:=by omega
    obtain⟨d,hd,hm⟩:=as10 hlt';have hw:=ws_ hlt';have fin:okAt i d=true->a13 I n ⟨55,[(0,.str s),(3,iv (i+1:Nat))],[]⟩:=λhv=>aa_ (n - 1) (by omega) (hI _ _ ⟨i+1,by omega,rfl,λj y hj hy=>by
     by_cases e:j=i
     .subst e;rw[hd] at hy;cases hy;exact hv
     .exact hno j y (by omega) hy⟩)
    have bad:okAt i d=false->s27 s=false:=λhv=>by rw[hs,af_ hd hv];simp
    repeat' (first|simp -implicitDefEqProofs only[go_sem,aa23 hd,hw]|apply ai__<;>intro hb)
    all_goals first | refine fin ?_ | refine h _ ⟨_,_,rfl,rfl,fitB (bad ?_).symm⟩
    all_goals
     clear fin bad h hI hs hno hd hm hw;rw[yY];simp only[okAt,nb,d17,zJ,wH,yX,wK,uT,zW,yQ,zB,xC,wM,vX,sZ,tG,zF,Bool.true_eq_false,true_iff,false_iff,iff_true,iff_false] at*;omega
   .have:i=s.length:=by omega
    subst this;exact h _ ⟨_,_,rfl,rfl,fitB (by rw[hs,at10.2 λi x hx=>hno i x (zX.1 hx).1 hx];simp;omega)⟩
theorem rNp_ (x:Str):PQ G 63 [.str x] (.bool (n12 x)):=by
 refine pp33 λΦ h=>?_;unfold cp35;simp -implicitDefEqProofs only[go_sem];refine ac_ rW10 rfl rfl ?_;simp -implicitDefEqProofs only[go_sem,zQ];refine al_ (λn st=>∃i:Nat,i+n=w11.length∧st=⟨24,[(0,.str x),(3,.seq 1 (w11.map AV.str)),(4,iv i)],[]⟩∧∀j y,j<i->w11[j]?=some y->(y==x)=false) w11.length ⟨0,by simp,rfl,λj x hj=>by omega⟩ ?_;rintro I hI n st ⟨i,hi,rfl,hno⟩;simp -implicitDefEqProofs only[go_sem,zQ];refine⟨λhlt=>?_,λhge=>?_⟩
 .have hlt':i<w11.length:=by omega
  obtain⟨d,hd,hm⟩:=as10 hlt';have hw:=ws_ hlt' (by decide);simp -implicitDefEqProofs only[go_sem,am_ hd];refine⟨λhb=>?_,λhb=>?_⟩
  .refine h _ ⟨_,_,rfl,rfl,fitB ?_⟩;have:(w11.any λy=>x==y)=true:=yE.2 ⟨d,hm,by simp at hb;simp [hb]⟩;simp [n12,this]
  .simp -implicitDefEqProofs only[go_sem,hw];exact aa_ (n - 1) (by omega) (hI _ _ ⟨i+1,by omega,rfl,λj y hj hy=>by
    by_cases e:j=i
    .subst e;rw[hd] at hy;cases hy;simpa using hb
    .exact hno j y (by omega) hy⟩)
 .have:i=w11.length:=by omega
  subst this;have hany:(w11.any λy=>x==y)=false:=by rw[wU];intro y hy;obtain⟨j,hj⟩:=zM hy;have:=hno j y (zX.1 hj).1 hj;intro e;rw[eq_of_beq e] at this;simp at this
  repeat' (first|simp -implicitDefEqProofs only[go_sem]|apply ai__<;>intro hb|refine ac_ (rS13 x) rfl rfl ?_|fail)
  all_goals (refine h _ ⟨_,_,rfl,rfl,fe_ ?_⟩;clear h;first | rfl | simp_all [n12,hany])
def d13 (l:List DeclT) (i:Nat) (d:DeclT):Int:=
 if n12 d.name=false then 11 else if idxF (λe=>e.name==d.name) l<i then 10 else if 8<(d.types.length:Int) then 14 else if (d.types.any λk=>k_ k==[])=true then 8 else 0
def d10 (l:List DeclT):Int×Int:=if 32<(l.length:Int) then (14,32) else f13 (d13 l) l 0
theorem sF1p_ (d:DeclT) (x:Str):PQ G 285 [d12 d,.eptr (.str x) 0] (.bool (d.name==x)):=by
 refine psF1z λΦ h=>?_;unfold csF1z
 repeat' (first|simp -implicitDefEqProofs only[go_sem,d12,i11]|apply ai__<;>intro hb)
 all_goals (refine h _ ⟨_,_,rfl,rfl,fe_ ?_⟩;clear h;first | rfl | simp_all)
theorem sFp_ (l:List DeclT) (hl:l.length<9223372036854775807) (x:Str):PQ G 265 [d_ l,.str x] (.tup [iv (max (idxF (λd=>d.name==x) l) 0),.bool (decide (0<=idxF (λd=>d.name==x) l))]):=by refine psF_ λΦ h=>?_;unfold csF_;simp -implicitDefEqProofs only[go_sem,d_];refine ac_ (sIaDaDp_ 285 [.eptr (.str x) 0] (by kernel_rfl) (os14 x) (λd=>d.name==x) l (λd _ =>sF1p_ d x) hl) rfl rfl ?_;simp -implicitDefEqProofs only[go_sem];refine h _ ⟨_,_,rfl,rfl,fe_ ?_⟩;congr 3;rw[show (max (idxF (λd=>d.name==x) l) 0)=if 0>idxF (λd=>d.name==x) l then 0 else idxF (λd=>d.name==x) l by split <;> omega]
theorem so1p_ (k:Int):PQ G 266 [iv k] (.bool (k_ k==[])):=by
 refine pso1z λΦ h=>?_;unfold cso1z
 repeat' (first|simp -implicitDefEqProofs only[go_sem]|apply ai__<;>intro hb|refine ac_ (vNp_ k) rfl rfl ?_|fail)
 all_goals (refine h _ ⟨_,_,rfl,rfl,fe_ ?_⟩;clear h;first | rfl | simp_all)
theorem sop_ (hG:wg_ G) (l:List DeclT) (hl:l.length<9223372036854775807) (i:Nat) (d:DeclT) (hd:l[i]?=some d) (ht:d.types.length<9223372036854775807):PQ G 225 [d_ l,iv i] (iv (d13 l i d)):=by
 refine pso_ λΦ h=>?_;unfold cso_;have hf0:0<=idxF (λe=>e.name==d.name) l:=by rw[<-zW (p:=0<=idxF (λe=>e.name==d.name) l),ia10,yE];exact⟨d,zG hd,by simp⟩
 have hfm:max (idxF (λe=>e.name==d.name) l) 0=idxF (λe=>e.name==d.name) l:=by omega
 have hc:=(sC17 (G:=G) 266 [] (by kernel_rfl) on_ (λk=>k_ k==[]) d.types (λk _ =>so1p_ k) ht)
 repeat' (first|simp -implicitDefEqProofs only[go_sem,am_ hd,d12,i11,d_]|apply ai__<;>intro hb|refine ac_ (sFp_ l hl d.name) rfl rfl ?_|refine ac_ (sNp_ hG d.name) rfl rfl ?_|refine ac_ hc rfl rfl ?_|fail)
 all_goals
  refine h _ ⟨_,_,rfl,rfl,fitI ?_⟩
  try rw[hfm] at*
  clear h hc hfm hf0 hG
  try simp only[zQ] at*
  simp only[d13];generalize (d.types.any λk=>k_ k==[])=B at*;simp_all
  try ((repeat' split) <;> first | rfl | omega | (simp_all;done))
theorem sCp_ (hG:wg_ G) (l:List DeclT) (hl:l.length<9223372036854775807) (ht:∀d∈l,d.types.length<9223372036854775807):PQ G 148 [d_ l] (.tup [iv (d10 l).2,iv (d10 l).1]):=by
 refine psC_ λΦ h=>?_;unfold csC_
 repeat' (first|simp -implicitDefEqProofs only[go_sem,d_,zQ]|apply ai__<;>intro hb)
 .exact h _ ⟨_,_,rfl,rfl,fe_ (by rw[d10,zY ‹_›])⟩
 .have he:d10 l=f13 (d13 l) l 0:=by rw[d10,zK hb]
  refine al_ (λn st=>∃i:Nat,i+n=l.length∧st=⟨22,[(0,d_ l),(10,iv l.length),(11,iv i)],[]⟩∧d10 l=f13 (d13 l) (l.drop i) i) l.length ⟨0,by simp,rfl,he⟩ ?_;rintro I hI n st ⟨i,hi,rfl,hno⟩;simp -implicitDefEqProofs only[go_sem];refine⟨λhlt=>?_,λhge=>?_⟩
  .have hlt':i<l.length:=by omega
   obtain⟨d,hd,hm⟩:=as10 hlt';have hw:=ws_ hlt';rw[fs14 hd] at hno
   repeat' (first|simp -implicitDefEqProofs only[go_sem,hw]|apply ai__<;>intro hb|refine ac_ (sop_ hG l hl i d hd (ht d hm)) rfl rfl ?_|fail)
   .rw[zK (by simpa using hb)] at hno;exact h _ ⟨_,_,rfl,rfl,fe_ (by rw[hno])⟩
   .rw[zY (by simpa using hb)] at hno;exact aa_ (n - 1) (by omega) (hI _ _ ⟨i+1,by omega,rfl,hno⟩)
  .rw[fe10 (by omega)] at hno;exact h _ ⟨_,_,rfl,rfl,fe_ (by rw[hno])⟩
theorem kb_ (k:Int):(k_ k==[])= !(decide (1<=k)&&decide (k<=3)):=by
 unfold k_;split
 .subst k;rfl
 .split
  .subst k;rfl
  .split
   .subst k;rfl
   .rw[yY];simp;omega
theorem rCp_ (l:List DeclT) (hl:l.length<9223372036854775807) (ht:∀d∈l,d.types.length<9223372036854775807):PQ G 26 [d_ l] (.tup [iv (d10 l).1,iv (d10 l).2]):=by
 refine ppC_ λΦ h=>?_;unfold cpC_
 repeat' (first|simp -implicitDefEqProofs only[go_sem,d_,zQ]|apply ai__<;>intro hb)
 .exact h _ ⟨_,_,rfl,rfl,fe_ (by rw[d10,zY ‹_›])⟩
 .have he:d10 l=f13 (d13 l) l 0:=by rw[d10,zK hb]
  refine al_ (λn st=>∃i:Nat,i+n=l.length∧st=⟨72,[(0,d_ l),(4,iv i)],[]⟩∧d10 l=f13 (d13 l) (l.drop i) i) l.length ⟨0,by simp,rfl,he⟩ ?_;rintro I hI n st ⟨i,hi,rfl,hno⟩;simp -implicitDefEqProofs only[go_sem,d_,zQ];refine⟨λhlt=>?_,λhge=>?_⟩
  .have hlt':i<l.length:=by omega
   obtain⟨d,hd,hm⟩:=as10 hlt';have hw:=ws_ hlt';rw[fs14 hd] at hno
   repeat' (first|simp -implicitDefEqProofs only[go_sem,hw,am_ hd,d12,i11,zQ]|apply ai__<;>intro hb|refine ac_ (rNp_ d.name) rfl rfl ?_|refine ac_ (rFp_ l hl d.name) rfl rfl ?_|fail)
   all_goals try (refine h _ ⟨_,_,rfl,rfl,fe_ ?_⟩;clear h hI;try rw[zK (by simp_all [d13];try ((repeat' split) <;> omega))] at hno;rw[hno];simp_all [d13];try (repeat' split) <;> first | rfl | omega | (simp_all;done))
   have hT:=ht d hm;have hok:(d13 l i d=if (d.types.any λk=>k_ k==[])=true then 8 else 0):=by
    simp only[d13];generalize (d.types.any λk=>k_ k==[])=B at*;simp_all
    try ((repeat' split) <;> first | rfl | omega | (simp_all;done))
   refine al_ (λm st=>∃k:Nat,k+m=d.types.length∧st=⟨72,[(0,d_ l),(4,iv i),(5,iv k)],[]⟩∧∀j t,j<k->d.types[j]?=some t->(k_ t==[])=false) d.types.length ⟨0,by simp,rfl,λj x hj=>by omega⟩ ?_;rintro J hJ m st ⟨k,hk,rfl,hall⟩;simp -implicitDefEqProofs only[go_sem,hw,am_ hd,d12,i11,d_,zQ];refine⟨λhlt2=>?_,λhge2=>?_⟩
   .obtain⟨t,htt,htm⟩:=as10 (l:=d.types) (i:=k) (by omega);have hw2:=ws_ (i:=k) (n:=d.types.length) (by omega) (by omega);have bad:(k_ t==[])=true->d10 l=(8,(i:Int)):=λhv=>by
     have:(d.types.any λk=>k_ k==[])=true:=yE.2 ⟨t,htm,hv⟩;rw[this] at hok;rw[hno,hok];rfl
    have fin:(k_ t==[])=false->a13 J m ⟨72,[(0,d_ l),(4,iv i),(5,iv (k+1:Nat))],[]⟩:=λhv=>aa_ (m - 1) (by omega) (hJ _ _ ⟨k+1,by omega,rfl,λj y hj hy=>by
     by_cases e:j=k
     .subst e;rw[htt] at hy;cases hy;exact hv
     .exact hall j y (by omega) hy⟩)
    repeat' (first|simp -implicitDefEqProofs only[go_sem,hw2,am_ hd,am_ htt,d12,i11,d_,zQ]|apply ai__<;>intro hb)
    all_goals first | refine fin ?_ | (refine h _ ⟨_,_,rfl,rfl,fe_ ?_⟩;rw[bad])
    all_goals
     clear h hI hJ bad fin;rw[kb_,yY];simp at*;omega
   .rw[show (d.types.any λk=>k_ k==[])=false by
     rw[wU];intro y hy;obtain⟨j,hj⟩:=zM hy;rw[hall j y (by have:=(zX.1 hj).1;omega) hj];simp] at hok
    rw[hok] at hno;exact aa_ (n - 1) (by omega) (hI _ _ ⟨i+1,by omega,rfl,by rw[hno];rfl⟩)
  .rw[fe10 (by omega)] at hno;exact h _ ⟨_,_,rfl,rfl,fe_ (by rw[hno])⟩
