/-
  Lemmas. No claim is proved here.
-/
import Derived.Test.YtkadalpaeglmnaaGreatDoorYD2
import Derived.LaidMore
set_option linter.unusedSimpArgs false
set_option maxHeartbeats 4000000
set_option maxRecDepth 100000
namespace Go.Proofs.YtkadalpaeglmnaaGreatDoor.Ab
open Go Go.ChangeShapes Go.WideShapes Go.RowKit
theorem rInt {t:Nat} (ht:Tryz.prog.underlying t=some (.int .i64)) (hs:Tryz.prog.cellsOf t=1):RdT Tryz.prog t 1 fun cs=>∃n:Int,cs=[iv n]:=
 (ri10 ht hs).mono (by rintro _ ⟨n,rfl,_⟩;exact⟨n,rfl⟩)
theorem rStr {t:Nat} (ht:Tryz.prog.underlying t=some .string) (hs:Tryz.prog.cellsOf t=1):RdT Tryz.prog t 1 fun cs=>∃s:Str,cs=[.str s]:=
 (rs27 ht hs).mono (by rintro _ ⟨n,rfl,_⟩;exact⟨n,rfl⟩)
theorem rl10 {α:Type} {f:α→AV} {t e sz:Nat} (ht:Tryz.prog.underlying t=some (.slice e)) (hs:Tryz.prog.cellsOf t=1) (h:RdT Tryz.prog e sz fun cs=>∃a:α,.agg cs=f a) (h0:0<sz):
  RdT Tryz.prog t 1 fun cs=>∃l:List α,cs=[.seq sz (l.map f)]∧l.length≤maxLen:=
 (rs24 true ht hs h h0 (by intro h;cases h)).mono (by rintro _ ⟨es,rfl,hl,h⟩;obtain⟨l,rfl⟩:=lo11 (f:=f) (fun x hx=>by obtain⟨_,⟨o,e⟩,rfl⟩:=h x hx;exact⟨o,e⟩);exact⟨l,rfl,by simpa using hl⟩)
theorem r29 {t e:Nat} (ht:Tryz.prog.underlying t=some (.slice e)) (hs:Tryz.prog.cellsOf t=1) (he:Tryz.prog.underlying e=some (.int .i64)) (hse:Tryz.prog.cellsOf e=1):RdT Tryz.prog t 1 fun cs=>∃l:List Int,cs=[i10 l]∧l.length≤maxLen:=
 (rs24 (e:=e) false ht hs (rInt he hse) (by decide) (by rintro - _ ⟨n,rfl⟩;exact⟨_,rfl,rfl⟩)).mono (by rintro _ ⟨es,rfl,hl,h⟩;obtain⟨l,rfl⟩:=lo11 (f:=iv) (fun x hx=>by obtain⟨_,⟨n,rfl⟩,rfl⟩:=h x hx;exact⟨n,rfl⟩);exact⟨l,rfl,by simpa using hl⟩)
theorem rVal:RdT Tryz.prog 48 4 fun cs=>∃v:Val,cs=[iv v.kind,iv v.int,.str v.str,.bool v.bool]:=
 (rs_ (t:=48) (fs:=(Tryz.prog.fieldsOf 48)) (by kernel_rfl) (by kernel_rfl) (rc_ (f:=(Tryz.prog.fieldsOf 48)[0]!) (rInt (by kernel_rfl) (by kernel_rfl)) (by kernel_rfl) rfl (rc_ (f:=(Tryz.prog.fieldsOf 48)[1]!) (rInt (by kernel_rfl) (by kernel_rfl)) (by kernel_rfl) rfl (rc_ (f:=(Tryz.prog.fieldsOf 48)[2]!) (rStr (by kernel_rfl) (by kernel_rfl)) (by kernel_rfl) rfl (rc_ (f:=(Tryz.prog.fieldsOf 48)[3]!) (rb_ (by kernel_rfl) (by kernel_rfl)) (by kernel_rfl) rfl (rn_ _)))))).mono (by rintro _ ⟨_,_,rfl,⟨a,rfl⟩,_,_,rfl,⟨b,rfl⟩,_,_,rfl,⟨c,rfl⟩,_,_,rfl,⟨d,rfl⟩,rfl⟩;exact⟨⟨a,b,c,d⟩,rfl⟩)
theorem rArg:RdT Tryz.prog 50 6 fun cs=>∃a:ArgT,.agg cs=argV a:=
 (rs_ (t:=50) (fs:=(Tryz.prog.fieldsOf 50)) (by kernel_rfl) (by kernel_rfl) (rc_ (f:=(Tryz.prog.fieldsOf 50)[0]!) (rInt (by kernel_rfl) (by kernel_rfl)) (by kernel_rfl) rfl (rc_ (f:=(Tryz.prog.fieldsOf 50)[1]!) (rInt (by kernel_rfl) (by kernel_rfl)) (by kernel_rfl) rfl (rc_ (f:=(Tryz.prog.fieldsOf 50)[2]!) rVal (by kernel_rfl) rfl (rn_ _))))).mono (by rintro _ ⟨_,_,rfl,⟨a,rfl⟩,_,_,rfl,⟨b,rfl⟩,_,_,rfl,⟨v,rfl⟩,rfl⟩;exact⟨⟨a,b,v⟩,rfl⟩)
theorem rSym:RdT Tryz.prog 46 2 fun cs=>∃a:SymT,.agg cs=symV a:=
 (rs_ (t:=46) (fs:=(Tryz.prog.fieldsOf 46)) (by kernel_rfl) (by kernel_rfl) (rc_ (f:=(Tryz.prog.fieldsOf 46)[0]!) (rInt (by kernel_rfl) (by kernel_rfl)) (by kernel_rfl) rfl (rc_ (f:=(Tryz.prog.fieldsOf 46)[1]!) (rl10 (t:=44) (by kernel_rfl) (by kernel_rfl) rArg (by decide)) (by kernel_rfl) rfl (rn_ _)))).mono (by rintro _ ⟨_,_,rfl,⟨a,rfl⟩,_,_,rfl,⟨l,rfl,_⟩,rfl⟩;exact⟨⟨a,l⟩,rfl⟩)
theorem r28:RdT Tryz.prog 54 7 fun cs=>∃a:NodeT,.agg cs=n11 a:=
 (rs_ (t:=54) (fs:=(Tryz.prog.fieldsOf 54)) (by kernel_rfl) (by kernel_rfl) (rc_ (f:=(Tryz.prog.fieldsOf 54)[0]!) (rInt (by kernel_rfl) (by kernel_rfl)) (by kernel_rfl) rfl (rc_ (f:=(Tryz.prog.fieldsOf 54)[1]!) (rInt (by kernel_rfl) (by kernel_rfl)) (by kernel_rfl) rfl (rc_ (f:=(Tryz.prog.fieldsOf 54)[2]!) (rInt (by kernel_rfl) (by kernel_rfl)) (by kernel_rfl) rfl (rc_ (f:=(Tryz.prog.fieldsOf 54)[3]!) rVal (by kernel_rfl) rfl (rn_ _)))))).mono (by rintro _ ⟨_,_,rfl,⟨a,rfl⟩,_,_,rfl,⟨b,rfl⟩,_,_,rfl,⟨c,rfl⟩,_,_,rfl,⟨v,rfl⟩,rfl⟩;exact⟨⟨a,b,c,v⟩,rfl⟩)
theorem r27:RdT Tryz.prog 116 3 fun cs=>∃a:QuantT,.agg cs=q11 a:=
 (rs_ (t:=116) (fs:=(Tryz.prog.fieldsOf 116)) (by kernel_rfl) (by kernel_rfl) (rc_ (f:=(Tryz.prog.fieldsOf 116)[0]!) (rb_ (by kernel_rfl) (by kernel_rfl)) (by kernel_rfl) rfl (rc_ (f:=(Tryz.prog.fieldsOf 116)[1]!) (rStr (by kernel_rfl) (by kernel_rfl)) (by kernel_rfl) rfl (rc_ (f:=(Tryz.prog.fieldsOf 116)[2]!) (rInt (by kernel_rfl) (by kernel_rfl)) (by kernel_rfl) rfl (rn_ _))))).mono (by rintro _ ⟨_,_,rfl,⟨a,rfl⟩,_,_,rfl,⟨b,rfl⟩,_,_,rfl,⟨c,rfl⟩,rfl⟩;exact⟨⟨a,b,c⟩,rfl⟩)
theorem r30:RdT Tryz.prog 52 5 fun cs=>∃a:FreeT,.agg cs=f10 a:=
 (rs_ (t:=52) (fs:=(Tryz.prog.fieldsOf 52)) (by kernel_rfl) (by kernel_rfl) (rc_ (f:=(Tryz.prog.fieldsOf 52)[0]!) (rStr (by kernel_rfl) (by kernel_rfl)) (by kernel_rfl) rfl (rc_ (f:=(Tryz.prog.fieldsOf 52)[1]!) rVal (by kernel_rfl) rfl (rn_ _)))).mono (by rintro _ ⟨_,_,rfl,⟨a,rfl⟩,_,_,rfl,⟨v,rfl⟩,rfl⟩;exact⟨⟨a,v⟩,rfl⟩)
theorem r26:RdT Tryz.prog 59 3 fun cs=>∃a:StateT,.agg cs=s13 a:=
 (rs_ (t:=59) (fs:=(Tryz.prog.fieldsOf 59)) (by kernel_rfl) (by kernel_rfl) (rc_ (f:=(Tryz.prog.fieldsOf 59)[0]!) (rStr (by kernel_rfl) (by kernel_rfl)) (by kernel_rfl) rfl (rc_ (f:=(Tryz.prog.fieldsOf 59)[1]!) (rb_ (by kernel_rfl) (by kernel_rfl)) (by kernel_rfl) rfl (rc_ (f:=(Tryz.prog.fieldsOf 59)[2]!) (rb_ (by kernel_rfl) (by kernel_rfl)) (by kernel_rfl) rfl (rn_ _))))).mono (by rintro _ ⟨_,_,rfl,⟨a,rfl⟩,_,_,rfl,⟨b,rfl⟩,_,_,rfl,⟨c,rfl⟩,rfl⟩;exact⟨⟨a,b,c⟩,rfl⟩)
theorem rSet:RdT Tryz.prog 104 2 fun cs=>∃a:SetT,.agg cs=setV a:=
 (rs_ (t:=104) (fs:=(Tryz.prog.fieldsOf 104)) (by kernel_rfl) (by kernel_rfl) (rc_ (f:=(Tryz.prog.fieldsOf 104)[0]!) (rInt (by kernel_rfl) (by kernel_rfl)) (by kernel_rfl) rfl (rc_ (f:=(Tryz.prog.fieldsOf 104)[1]!) (rInt (by kernel_rfl) (by kernel_rfl)) (by kernel_rfl) rfl (rn_ _)))).mono (by rintro _ ⟨_,_,rfl,⟨a,rfl⟩,_,_,rfl,⟨b,rfl⟩,rfl⟩;exact⟨⟨a,b⟩,rfl⟩)
theorem r25:RdT Tryz.prog 57 5 fun cs=>∃a:TransT,.agg cs=t11 a:=
 (rs_ (t:=57) (fs:=(Tryz.prog.fieldsOf 57)) (by kernel_rfl) (by kernel_rfl) (rc_ (f:=(Tryz.prog.fieldsOf 57)[0]!) (rInt (by kernel_rfl) (by kernel_rfl)) (by kernel_rfl) rfl (rc_ (f:=(Tryz.prog.fieldsOf 57)[1]!) (rInt (by kernel_rfl) (by kernel_rfl)) (by kernel_rfl) rfl (rc_ (f:=(Tryz.prog.fieldsOf 57)[2]!) (rInt (by kernel_rfl) (by kernel_rfl)) (by kernel_rfl) rfl (rc_ (f:=(Tryz.prog.fieldsOf 57)[3]!) (rInt (by kernel_rfl) (by kernel_rfl)) (by kernel_rfl) rfl (rc_ (f:=(Tryz.prog.fieldsOf 57)[4]!) (rl10 (t:=55) (by kernel_rfl) (by kernel_rfl) rSet (by decide)) (by kernel_rfl) rfl (rn_ _))))))).mono (by rintro _ ⟨_,_,rfl,⟨a,rfl⟩,_,_,rfl,⟨b,rfl⟩,_,_,rfl,⟨c,rfl⟩,_,_,rfl,⟨d,rfl⟩,_,_,rfl,⟨l,rfl,_⟩,rfl⟩;exact⟨⟨a,b,c,d,l⟩,rfl⟩)
theorem r31:RdT Tryz.prog 43 2 fun cs=>∃a:DeclT,.agg cs=d11 a:=
 (rs_ (t:=43) (fs:=(Tryz.prog.fieldsOf 43)) (by kernel_rfl) (by kernel_rfl) (rc_ (f:=(Tryz.prog.fieldsOf 43)[0]!) (rStr (by kernel_rfl) (by kernel_rfl)) (by kernel_rfl) rfl (rc_ (f:=(Tryz.prog.fieldsOf 43)[1]!) (r29 (t:=35) (e:=3) (by kernel_rfl) (by kernel_rfl) (by kernel_rfl) (by kernel_rfl)) (by kernel_rfl) rfl (rn_ _)))).mono (by rintro _ ⟨_,_,rfl,⟨a,rfl⟩,_,_,rfl,⟨l,rfl,_⟩,rfl⟩;exact⟨⟨a,l⟩,rfl⟩)
theorem rQea:RdT Tryz.prog 30 9 fun cs=>∃q:QeaT,.agg cs=qeaV q:=
 (rs_ (t:=30) (fs:=(Tryz.prog.fieldsOf 30)) (by kernel_rfl) (by kernel_rfl) (rc_ (f:=(Tryz.prog.fieldsOf 30)[0]!) (rStr (by kernel_rfl) (by kernel_rfl)) (by kernel_rfl) rfl (rc_ (f:=(Tryz.prog.fieldsOf 30)[1]!) (rl10 (t:=22) (by kernel_rfl) (by kernel_rfl) r31 (by decide)) (by kernel_rfl) rfl (rc_ (f:=(Tryz.prog.fieldsOf 30)[2]!) (rl10 (t:=23) (by kernel_rfl) (by kernel_rfl) r27 (by decide)) (by kernel_rfl) rfl (rc_ (f:=(Tryz.prog.fieldsOf 30)[3]!) (rl10 (t:=24) (by kernel_rfl) (by kernel_rfl) r30 (by decide)) (by kernel_rfl) rfl (rc_ (f:=(Tryz.prog.fieldsOf 30)[4]!) (rl10 (t:=25) (by kernel_rfl) (by kernel_rfl) r26 (by decide)) (by kernel_rfl) rfl (rc_ (f:=(Tryz.prog.fieldsOf 30)[5]!) (rInt (by kernel_rfl) (by kernel_rfl)) (by kernel_rfl) rfl (rc_ (f:=(Tryz.prog.fieldsOf 30)[6]!) (rl10 (t:=26) (by kernel_rfl) (by kernel_rfl) rSym (by decide)) (by kernel_rfl) rfl (rc_ (f:=(Tryz.prog.fieldsOf 30)[7]!) (rl10 (t:=27) (by kernel_rfl) (by kernel_rfl) r28 (by decide)) (by kernel_rfl) rfl (rc_ (f:=(Tryz.prog.fieldsOf 30)[8]!) (rl10 (t:=28) (by kernel_rfl) (by kernel_rfl) r25 (by decide)) (by kernel_rfl) rfl (rn_ _))))))))))).mono (by rintro _ ⟨_,_,rfl,⟨a,rfl⟩,_,_,rfl,⟨l1,rfl,_⟩,_,_,rfl,⟨l2,rfl,_⟩,_,_,rfl,⟨l3,rfl,_⟩,_,_,rfl,⟨l4,rfl,_⟩,_,_,rfl,⟨s,rfl⟩,_,_,rfl,⟨l5,rfl,_⟩,_,_,rfl,⟨l6,rfl,_⟩,_,_,rfl,⟨l7,rfl,_⟩,rfl⟩;exact⟨⟨a,l1,l2,l3,l4,s,l5,l6,l7⟩,rfl⟩)
theorem ha_ {W:World} {u:Nat} {x:Value} (h:W.var? Tryz.prog "errors.errorType" =some #[.iface u (.agg #[x])]) {e:AV} (hx:∀F nm,Rd W F nm e x):Rd W (oldF W) n10 (.eptr (.iface u (.agg [e])) 0) (.pointer (some ⟨0,0,none⟩))∧W10 W 0 (.iface u (.agg [e])):=by
 have hg:Tryz.prog.globalNamed "errors.errorType" =some 0:=by kernel_rfl
 simp only[World.var?,hg,vU] at h;split at h
 ·rename_i cs t fz hb;simp only[zJ] at h;subst h;refine⟨?_,_,t,fz,hb,rfl⟩
  have key:=Rd.eptr (w:=W) (F:=oldF W) n10 (.iface u (.agg [e])) 0 0 0 (fun _ =>.iface u (.agg #[x])) (yK.1 hb).1
   (fun p hp=>by
    have:p=0:=by simp [AV.cells] at hp;omega
    subst this;simp [World.cell?,hb])
   (fun p hp=>rfl)
   (fun j c hj=>by
    match j,hj with
    | 0,hj=>cases hj;exact .iface _ _ _ _ (.agg _ [_] [_] rfl fun j c z hc hz=>by
      match j,hc,hz with
      | 0,hc,hz=>cases hc;cases hz;exact hx _ _))
  simpa using key
 ·cases h
def nb (c:UInt8):Bool:=c.toNat==95||(decide (48≤c.toNat)&&decide (c.toNat≤57)||(decide (65≤c.toNat)&&decide (c.toNat≤90)||decide (97≤c.toNat)&&decide (c.toNat≤122)))
def d17 (c:UInt8):Bool:=decide (48≤c.toNat)&&decide (c.toNat≤57)
def s24 (s:Str):Bool:=match s with
 | []=>false
 | c::_ =>decide (s.length≤32)&&(!d17 c&&s.all nb)
def w11:List Str:=[[97,99,99,101,112,116],[97,108,115,111],[97,110,100],[98,111,111,108],[100,111],[101,118,101,110,116],[101,120,105,115,116,115],[102,97,108,115,101],[102,111,114,97,108,108],[102,114,101,101],[105,102],[105,110,116],[110,101,120,116],[110,111,116],[111,110],[111,114],[113,101,97],[115,107,105,112],[115,116,97,114,116],[115,116,114,105,110,103],[116,111],[116,114,117,101]]
def n12 (s:Str):Bool:=s24 s&&(!(w11.any fun x=>s==x)&& !(s==[95]))
def idxR (p:Nat→Bool) (s:Str):Nat→Nat→Int
 | 0,_ =>-1
 | n+1,pos=>if pos<s.length then (if p (adec s pos).1 then (pos:Int) else idxR p s n (pos+(adec s pos).2)) else -1
def oddR (c:Nat):Bool:=!(c==95)&&((decide (c<48)||decide (57<c))&&((decide (c<65)||decide (90<c))&&(decide (c<97)||decide (122<c))))
theorem ga11 (s:Str) (p:Nat) (hp:p<s.length):(⟨s.toArray⟩:ByteArray).get! p=s[p]:=by simp [ByteArray.get!,hp]
theorem al15 (s:Str) (p:Nat) (hp:p<s.length) (h:s[p].toNat<128):adec s p=(s[p].toNat,1):=by unfold adec Utf8.decode;simp only[vZ,ga11 s p hp,h,xZ]
theorem ah_ (s:Str) (p:Nat) (hp:p<s.length) (h:¬s[p].toNat<128):128≤(adec s p).1:=by
 unfold adec Utf8.decode;simp only[vZ,ga11 s p hp,h,yA,Utf8.runeError]
 repeat' split
 all_goals first | omega | (simp only[ge_iff_le,zK,zU] at*;omega) | simp
theorem aw10 (s:Str) (p:Nat):1≤(adec s p).2:=by
 unfold adec Utf8.decode;simp only
 repeat' split
 all_goals simp
theorem ob_ {c:UInt8} (h:c.toNat<128):oddR c.toNat= !nb c:=by rw[yY];simp only[oddR,nb,zK,xT,yQ,zU,xC,uC,wX,zO,sY];omega
theorem oh10 {c:Nat} (h:128≤c):oddR c=true:=by simp only[oddR,zK,xT,yQ,zU,xC,sY];omega
theorem nh_ {c:UInt8} (h:¬c.toNat<128):nb c=false:=by simp only[nb,uC,wX,zU,zO,xC,sY];omega
theorem io_ (s:Str):∀n pos,s.length≤pos+n→(idxR oddR s (n+1) pos<0↔(s.drop pos).all nb=true)
 | 0,pos,h=>by
  have:¬pos<s.length:=by omega
  simp [idxR,this,xH (show s.length≤pos by omega)]
 | n+1,pos,h=>by
  unfold idxR;by_cases hp:pos<s.length
  ·rw[zG hp,yD hp,List.all_cons];by_cases hl:s[pos].toNat<128
   ·rw[al15 s pos hp hl];simp only[ob_ hl];cases hn:nb s[pos]
    ·simp
     try omega
    ·simp only[vX,zW,yA,xG];exact io_ s n (pos+1) (by omega)
   ·rw[zG (oh10 (ah_ s pos hp hl)),nh_ hl];simp
    try omega
  ·rw[zF hp,xH (by omega)];simp
variable {G:Nat→Option AV}
theorem sip_ (f:Nat) (caps:List AV) (hf:b_ Tryz.prog f=true) (hcap:OkC caps) (p:Nat→Bool) (hp:∀r:Nat,PQ G f (.int .i32 (r:Int)::caps) (.bool (p r))) (s:Str):
  PQ G nsi_ [.str s,.fn f caps,.bool true] (iv (idxR p s (s.length+1) 0)):=by
 refine psi_ fun Φ h=>?_;unfold csi_;simp -implicitDefEqProofs only[go_sem,hcap.purge];refine al_ (fun n st=>∃pos:Nat,s.length≤pos+n∧st=⟨21,[(1,.fn f caps),(2,.bool true),(10,.ref 10 0 0)],[(10,⟨true,0,0,[.str s,iv pos]⟩)]⟩∧idxR p s (s.length+1) 0=idxR p s (n+1) pos) s.length ⟨0,by omega,rfl,rfl⟩ ?_;rintro I hI n st ⟨pos,hn,rfl,he⟩;by_cases hlt:pos<s.length
 ·obtain⟨m,rfl⟩:∃m,n=m+1:=⟨n - 1,by omega⟩;have hw:=aw10 s pos;simp -implicitDefEqProofs only[go_sem,anxt,hlt,hcap.purge];refine⟨hf,ac_ (hp (adec s pos).1) (by simp [v_,flat,viewBs,viewB,viewK,hcap.viewBs]) rfl ?_⟩;have hstep:idxR p s (m+1+1) pos=if p (adec s pos).1 then (pos:Int) else idxR p s (m+1) (pos+(adec s pos).2):=by rw[idxR,zG hlt]
  cases hpx:p (adec s pos).1
  ·rw[hpx] at hstep;simp -implicitDefEqProofs only[go_sem,hcap.purge];exact aa_ m (by omega) (hI _ _ ⟨pos+(adec s pos).2,by omega,rfl,by rw[he,hstep];rfl⟩)
  ·rw[hpx] at hstep;simp -implicitDefEqProofs only[go_sem,hcap.purge];exact h _ ⟨_,_,rfl,rfl,fitI (by rw[he,hstep];rfl)⟩
 ·simp -implicitDefEqProofs only[go_sem,anxt,hlt];exact h _ ⟨_,_,rfl,rfl,fitI (by rw[he,idxR,zF hlt])⟩
theorem sIp_ (f:Nat) (caps:List AV) (hf:b_ Tryz.prog f=true) (hcap:OkC caps) (p:Nat→Bool) (hp:∀r:Nat,PQ G f (.int .i32 (r:Int)::caps) (.bool (p r))) (s:Str):
  PQ G nsI_ [.str s,.fn f caps] (iv (idxR p s (s.length+1) 0)):=by
 refine psI_ fun Φ h=>?_;unfold csI_;simp -implicitDefEqProofs only[go_sem];refine ac_ (sip_ f caps hf hcap p hp s) (by simp [v_,flat,viewBs,viewB,viewK,hcap.viewK]) rfl ?_;simp -implicitDefEqProofs only[go_sem];exact h _ ⟨_,_,rfl,rfl,.refl _⟩
theorem sS1p_ (r:Nat):PQ G nsS1_ [.int .i32 (r:Int)] (.bool (oddR r)):=by
 refine psS1_ fun Φ h=>?_;unfold csS1_
 repeat' (first|simp -implicitDefEqProofs only[go_sem]|refine ag_ (fun hb=>?_) (fun hb=>?_)|refine⟨fun hb=>?_,fun hb=>?_⟩|fail)
 all_goals
  refine h _ ⟨_,_,rfl,rfl,fitB ?_⟩;clear h;rw[yY];simp only[oddR,zK,xT,yQ,zU,zO,xC,sY,tB,tY,zW,vB,vX,vC,true_iff,false_iff,iff_true,iff_false] at*;omega
theorem sSp_ (s:Str):PQ G nsS_ [.str s] (.bool (s24 s)):=by
 have hsp:0<s.length→(decide (idxR oddR s (s.length+1) 0<0)=s.all nb):=fun _ =>by rw[yY,zU,io_ s s.length 0 (by omega)];simp
 refine psS_ fun Φ h=>?_;unfold csS_;cases s with
 | nil=>
  simp -implicitDefEqProofs only[go_sem];exact h _ ⟨_,_,rfl,rfl,.refl _⟩
 | cons c r=>
  have e0:aidx (.str (c::r)) (.int .i64 0)=some (.int .u8 c.toNat):=rfl;have hsp':=hsp (by simp)
  repeat' (first|simp -implicitDefEqProofs only[go_sem,e0,alen]|refine ag_ (fun hb=>?_) (fun hb=>?_)|refine⟨fun hb=>?_,fun hb=>?_⟩|refine ac_ (sIp_ nsS1_ [] (by kernel_rfl) on_ oddR (fun r=>sS1p_ r) (c::r)) rfl rfl ?_|fail)
  all_goals
   refine h _ ⟨_,_,rfl,rfl,fitB ?_⟩;clear h;have e1:s24 (c::r)=(decide ((c::r).length≤32)&&(!d17 c&&(c::r).all nb)):=rfl;simp only[xX] at hsp'
   try rw[hsp']
   clear hsp hsp' e0;rw[e1];clear e1;generalize (c::r).all nb=A at*;cases A <;> (rw[yY];simp [d17] at*;try omega)
def f15 {α:Type} (f:Nat→α→Int):List α→Nat→Int×Int
 | [],_ =>(0,-1)
 | x::r,i=>if f i x=0 then f15 f r (i+1) else (f i x,i)
theorem fs14 {α:Type} {f:Nat→α→Int} {l:List α} {i:Nat} {x:α} (hx:l[i]? =some x):f15 f (l.drop i) i=if f i x=0 then f15 f (l.drop (i+1)) (i+1) else (f i x,i):=by obtain⟨hlt,rfl⟩:=zZ.1 hx;rw[yD hlt,f15]
theorem fe10 {α:Type} {f:Nat→α→Int} {l:List α} {i:Nat} (h:l.length≤i):f15 f (l.drop i) i=(0,-1):=by rw[xH h,f15]
theorem os14 (x:Str):OkC [.eptr (.str x) 0]:=⟨fun _ =>rfl,fun _ _ =>rfl,fun _ =>rfl,fun _ _ =>rfl,fun _ =>rfl,fun _ =>rfl⟩
def wg_ (G:Nat→Option AV):Prop:=G 1=some (.agg (w11.map AV.str))
theorem wl10:(w11.map AV.str).length=22:=rfl
theorem wa_:(w11.map AV.str).all c19=true:=rfl
theorem sWp_ (hG:wg_ G) (s:Str):PQ G nsW_ [.str s] (.bool (s24 s&&w11.any fun x=>s==x)):=by
 unfold wg_ at hG;refine psW_ fun Φ h=>?_;unfold csW_
 repeat' (first|simp -implicitDefEqProofs only[go_sem,hG,wl10,wa_]|refine ag_ (fun hb=>?_) (fun hb=>?_)|refine⟨fun hb=>?_,fun hb=>?_⟩|refine ac_ (sSp_ s) rfl rfl ?_|refine ac_ (sCssp_ w11 s (by decide)) rfl rfl ?_|fail)
 all_goals (refine h _ ⟨_,_,rfl,rfl,fe_ ?_⟩;clear h;first | rfl | simp_all)
theorem sNp_ (hG:wg_ G) (s:Str):PQ G nsN_ [.str s] (.bool (n12 s)):=by
 refine psN_ fun Φ h=>?_;unfold csN_
 repeat' (first|simp -implicitDefEqProofs only[go_sem]|refine ag_ (fun hb=>?_) (fun hb=>?_)|refine⟨fun hb=>?_,fun hb=>?_⟩|refine ac_ (sSp_ s) rfl rfl ?_|refine ac_ (sWp_ hG s) rfl rfl ?_|fail)
 all_goals (refine h _ ⟨_,_,rfl,rfl,fe_ ?_⟩;clear h;first | rfl | (simp_all [n12];done) | (simp_all [n12];exact fun hn=>absurd rfl (hn _ ‹s∈w11›)))
theorem rWp_:PQ G npW_ [] (.seq 1 (w11.map AV.str)):=by refine ppW_ fun Φ h=>?_;unfold cpW_;simp -implicitDefEqProofs only[go_sem];exact h _ ⟨_,_,rfl,rfl,.refl _⟩
theorem rF10 (l:List DeclT) (hl:l.length<9223372036854775807) (x:Str):PQ G np28 [d_ l,.str x] (iv (idxF (fun d=>d.name==x) l)):=by
 refine pp25 fun Φ h=>?_;unfold cp25;simp -implicitDefEqProofs only[go_sem,d_,zX];refine al_ (fun n st=>∃i:Nat,i+n=l.length∧st=⟨20,[(0,d_ l),(1,.str x),(5,iv i)],[]⟩∧∀j d,j<i→l[j]? =some d→(d.name==x)=false) l.length ⟨0,by simp,rfl,fun j x hj=>by omega⟩ ?_;rintro I hI n st ⟨i,hi,rfl,hno⟩;simp -implicitDefEqProofs only[go_sem,d_,zX];refine⟨fun hlt=>?_,fun hge=>?_⟩
 ·have hlt':i<l.length:=by omega
  obtain⟨d,hd,hm⟩:=as10 hlt';have hw:=ws_ hlt' (by omega);simp -implicitDefEqProofs only[go_sem,am_ hd,d11,i10];refine⟨fun hb=>?_,fun hb=>?_⟩
  ·exact h _ ⟨_,_,rfl,rfl,fitI (ia10 hd (by simpa using hb) hno).symm⟩
  ·simp -implicitDefEqProofs only[go_sem,hw];exact aa_ (n - 1) (by omega) (hI _ _ ⟨i+1,by omega,rfl,fun j y hj hy=>by
    by_cases e:j=i
    ·subst e;rw[hd] at hy;cases hy;simpa using hb
    ·exact hno j y (by omega) hy⟩)
 ·have:i=l.length:=by omega
  subst this;exact h _ ⟨_,_,rfl,rfl,fitI (in10 hno).symm⟩
def okAt (i:Nat) (c:UInt8):Bool:=nb c&& !(decide (i=0)&&d17 c)
theorem oa11 (c:UInt8) (r:Str):allI okAt (c::r)=(!d17 c&&(c::r).all nb):=by
 rw[yY,at10];simp only[okAt,zK,yQ,wX,zU,yH];constructor
 ·intro h;refine⟨(h 0 c rfl).2 rfl,fun x hx=>?_⟩;obtain⟨i,hi⟩:=zN hx;exact (h i x hi).1
 ·rintro⟨h0,h1⟩ i x hx;refine⟨h1 x (List.mem_of_getElem? hx),fun e=>?_⟩;subst e;cases hx;exact h0
theorem aa21 {s:Str} {i:Nat} {c:UInt8} (h:s[i]? =some c):aidx (.str s) (.int .i64 (i:Int))=some (.int .u8 c.toNat):=by
 have h0:¬(i:Int)<0:=by omega
 simp [aidx,h]
theorem rS11 (s:Str):PQ G np26 [.str s] (.bool (s24 s)):=by
 refine pp17 fun Φ h=>?_;unfold cp17;cases s with
 | nil=>
  repeat' (first|simp -implicitDefEqProofs only[go_sem]|refine ag_ (fun hb=>?_) (fun hb=>?_)|refine⟨fun hb=>?_,fun hb=>?_⟩|fail)
  all_goals first | exact h _ ⟨_,_,rfl,rfl,.refl _⟩ | (exfalso;simp at*;done)
 | cons c r=>
  have hs:s24 (c::r)=(decide ((c::r).length≤32)&&allI okAt (c::r)):=by rw[oa11];rfl
  generalize he:c::r=s at*;have h1:1≤s.length:=by rw[←he];simp
  clear he
  repeat' (first|simp -implicitDefEqProofs only[go_sem]|refine ag_ (fun hb=>?_) (fun hb=>?_)|refine⟨fun hb=>?_,fun hb=>?_⟩|fail)
  all_goals try (exfalso;simp at*;omega)
  ·exact h _ ⟨_,_,rfl,rfl,fitB (by rw[hs];simp;omega)⟩
  ·refine al_ (fun n st=>∃i:Nat,i+n=s.length∧st=⟨55,[(0,.str s),(3,iv i)],[]⟩∧∀j c,j<i→s[j]? =some c→okAt j c=true) s.length ⟨0,by simp,rfl,fun j x hj=>by omega⟩ ?_;rintro I hI n st ⟨i,hi,rfl,hno⟩;simp -implicitDefEqProofs only[go_sem];refine⟨fun hlt=>?_,fun hge=>?_⟩
   ·have hlt':i<s.length:=by omega
    obtain⟨d,hd,hm⟩:=as10 hlt';have hw:=ws_ hlt' (by omega);have fin:okAt i d=true→a11 I n ⟨55,[(0,.str s),(3,iv (i+1:Nat))],[]⟩:=fun hv=>aa_ (n - 1) (by omega) (hI _ _ ⟨i+1,by omega,rfl,fun j y hj hy=>by
     by_cases e:j=i
     ·subst e;rw[hd] at hy;cases hy;exact hv
     ·exact hno j y (by omega) hy⟩)
    have bad:okAt i d=false→s24 s=false:=fun hv=>by rw[hs,af_ hd hv];simp
    repeat' (first|simp -implicitDefEqProofs only[go_sem,aa21 hd,hw]|refine ag_ (fun hb=>?_) (fun hb=>?_)|refine⟨fun hb=>?_,fun hb=>?_⟩|fail)
    all_goals first | refine fin ?_ | refine h _ ⟨_,_,rfl,rfl,fitB (bad ?_).symm⟩
    all_goals
     clear fin bad h hI hs hno hd hm hw;rw[yY];simp only[okAt,nb,d17,zK,xT,yQ,wX,uC,zU,zO,zC,xC,vX,vC,sY,tU,zW,vB,true_iff,false_iff,iff_true,iff_false] at*;omega
   ·have:i=s.length:=by omega
    subst this;exact h _ ⟨_,_,rfl,rfl,fitB (by rw[hs,at10.2 fun i x hx=>hno i x (zZ.1 hx).1 hx];simp;omega)⟩
theorem rNp_ (x:Str):PQ G npN_ [.str x] (.bool (n12 x)):=by
 refine pp24 fun Φ h=>?_;unfold cp24;simp -implicitDefEqProofs only[go_sem];refine ac_ rWp_ rfl rfl ?_;simp -implicitDefEqProofs only[go_sem,zX];refine al_ (fun n st=>∃i:Nat,i+n=w11.length∧st=⟨24,[(0,.str x),(3,.seq 1 (w11.map AV.str)),(4,iv i)],[]⟩∧∀j y,j<i→w11[j]? =some y→(y==x)=false) w11.length ⟨0,by simp,rfl,fun j x hj=>by omega⟩ ?_;rintro I hI n st ⟨i,hi,rfl,hno⟩;simp -implicitDefEqProofs only[go_sem,zX];refine⟨fun hlt=>?_,fun hge=>?_⟩
 ·have hlt':i<w11.length:=by omega
  obtain⟨d,hd,hm⟩:=as10 hlt';have hw:=ws_ hlt' (by decide);simp -implicitDefEqProofs only[go_sem,am_ hd];refine⟨fun hb=>?_,fun hb=>?_⟩
  ·refine h _ ⟨_,_,rfl,rfl,fitB ?_⟩;have:(w11.any fun y=>x==y)=true:=yL.2 ⟨d,hm,by simp at hb;simp [hb]⟩;simp [n12,this]
  ·simp -implicitDefEqProofs only[go_sem,hw];exact aa_ (n - 1) (by omega) (hI _ _ ⟨i+1,by omega,rfl,fun j y hj hy=>by
    by_cases e:j=i
    ·subst e;rw[hd] at hy;cases hy;simpa using hb
    ·exact hno j y (by omega) hy⟩)
 ·have:i=w11.length:=by omega
  subst this;have hany:(w11.any fun y=>x==y)=false:=by rw[xR];intro y hy;obtain⟨j,hj⟩:=zN hy;have:=hno j y (zZ.1 hj).1 hj;intro e;rw[eq_of_beq e] at this;simp at this
  repeat' (first|simp -implicitDefEqProofs only[go_sem]|refine ag_ (fun hb=>?_) (fun hb=>?_)|refine⟨fun hb=>?_,fun hb=>?_⟩|refine ac_ (rS11 x) rfl rfl ?_|fail)
  all_goals (refine h _ ⟨_,_,rfl,rfl,fe_ ?_⟩;clear h;first | rfl | simp_all [n12,hany])
def d12 (l:List DeclT) (i:Nat) (d:DeclT):Int:=
 if n12 d.name=false then 11 else if idxF (fun e=>e.name==d.name) l<i then 10 else if 8<(d.types.length:Int) then 14 else if (d.types.any fun k=>k_ k==[])=true then 8 else 0
def d10 (l:List DeclT):Int×Int:=if 32<(l.length:Int) then (14,32) else f15 (d12 l) l 0
theorem sF1p_ (d:DeclT) (x:Str):PQ G nsF1_ [d11 d,.eptr (.str x) 0] (.bool (d.name==x)):=by
 refine psF1_ fun Φ h=>?_;unfold csF1_
 repeat' (first|simp -implicitDefEqProofs only[go_sem,d11,i10]|refine ag_ (fun hb=>?_) (fun hb=>?_)|refine⟨fun hb=>?_,fun hb=>?_⟩|fail)
 all_goals (refine h _ ⟨_,_,rfl,rfl,fe_ ?_⟩;clear h;first | rfl | simp_all)
theorem sFp_ (l:List DeclT) (hl:l.length<9223372036854775807) (x:Str):PQ G nsF_ [d_ l,.str x] (.tup [iv (max (idxF (fun d=>d.name==x) l) 0),.bool (decide (0≤idxF (fun d=>d.name==x) l))]):=by refine psF_ fun Φ h=>?_;unfold csF_;simp -implicitDefEqProofs only[go_sem,d_];refine ac_ (sIaDaDp_ nsF1_ [.eptr (.str x) 0] (by kernel_rfl) (os14 x) (fun d=>d.name==x) l (fun d _ =>sF1p_ d x) hl) rfl rfl ?_;simp -implicitDefEqProofs only[go_sem];refine h _ ⟨_,_,rfl,rfl,fe_ ?_⟩;congr 3;rw[show (max (idxF (fun d=>d.name==x) l) 0)=if 0>idxF (fun d=>d.name==x) l then 0 else idxF (fun d=>d.name==x) l by split <;> omega]
theorem so1p_ (k:Int):PQ G nso1_ [iv k] (.bool (k_ k==[])):=by
 refine pso1_ fun Φ h=>?_;unfold cso1_
 repeat' (first|simp -implicitDefEqProofs only[go_sem]|refine ag_ (fun hb=>?_) (fun hb=>?_)|refine⟨fun hb=>?_,fun hb=>?_⟩|refine ac_ (vNp_ k) rfl rfl ?_|fail)
 all_goals (refine h _ ⟨_,_,rfl,rfl,fe_ ?_⟩;clear h;first | rfl | simp_all)
theorem sop_ (hG:wg_ G) (l:List DeclT) (hl:l.length<9223372036854775807) (i:Nat) (d:DeclT) (hd:l[i]? =some d) (ht:d.types.length<9223372036854775807):PQ G nso_ [d_ l,iv i] (iv (d12 l i d)):=by
 refine pso_ fun Φ h=>?_;unfold cso_;have hf0:0≤idxF (fun e=>e.name==d.name) l:=by rw[←zU (p:=0≤idxF (fun e=>e.name==d.name) l),ia_,yL];exact⟨d,List.mem_of_getElem? hd,by simp⟩
 have hfm:max (idxF (fun e=>e.name==d.name) l) 0=idxF (fun e=>e.name==d.name) l:=by omega
 have hc:=(sC17 (G:=G) nso1_ [] (by kernel_rfl) on_ (fun k=>k_ k==[]) d.types (fun k _ =>so1p_ k) ht)
 repeat' (first|simp -implicitDefEqProofs only[go_sem,am_ hd,d11,i10,d_]|refine ag_ (fun hb=>?_) (fun hb=>?_)|refine⟨fun hb=>?_,fun hb=>?_⟩|refine ac_ (sFp_ l hl d.name) rfl rfl ?_|refine ac_ (sNp_ hG d.name) rfl rfl ?_|refine ac_ hc rfl rfl ?_|fail)
 all_goals
  refine h _ ⟨_,_,rfl,rfl,fitI ?_⟩
  try rw[hfm] at*
  clear h hc hfm hf0 hG
  try simp only[zX] at*
  simp only[d12];generalize (d.types.any fun k=>k_ k==[])=B at*;simp_all
  try ((repeat' split) <;> first | rfl | omega | (simp_all;done))
theorem sCp_ (hG:wg_ G) (l:List DeclT) (hl:l.length<9223372036854775807) (ht:∀d∈l,d.types.length<9223372036854775807):PQ G nsC_ [d_ l] (.tup [iv (d10 l).2,iv (d10 l).1]):=by
 refine psC_ fun Φ h=>?_;unfold csC_
 repeat' (first|simp -implicitDefEqProofs only[go_sem,d_,zX]|refine ag_ (fun hb=>?_) (fun hb=>?_)|refine⟨fun hb=>?_,fun hb=>?_⟩|fail)
 ·exact h _ ⟨_,_,rfl,rfl,fe_ (by rw[d10,zG ‹_›])⟩
 ·have he:d10 l=f15 (d12 l) l 0:=by rw[d10,zF hb]
  refine al_ (fun n st=>∃i:Nat,i+n=l.length∧st=⟨22,[(0,d_ l),(10,iv l.length),(11,iv i)],[]⟩∧d10 l=f15 (d12 l) (l.drop i) i) l.length ⟨0,by simp,rfl,he⟩ ?_;rintro I hI n st ⟨i,hi,rfl,hno⟩;simp -implicitDefEqProofs only[go_sem];refine⟨fun hlt=>?_,fun hge=>?_⟩
  ·have hlt':i<l.length:=by omega
   obtain⟨d,hd,hm⟩:=as10 hlt';have hw:=ws_ hlt' (by omega);rw[fs14 hd] at hno
   repeat' (first|simp -implicitDefEqProofs only[go_sem,hw]|refine ag_ (fun hb=>?_) (fun hb=>?_)|refine⟨fun hb=>?_,fun hb=>?_⟩|refine ac_ (sop_ hG l hl i d hd (ht d hm)) rfl rfl ?_|fail)
   ·rw[zF (by simpa using hb)] at hno;exact h _ ⟨_,_,rfl,rfl,fe_ (by rw[hno])⟩
   ·rw[zG (by simpa using hb)] at hno;exact aa_ (n - 1) (by omega) (hI _ _ ⟨i+1,by omega,rfl,hno⟩)
  ·rw[fe10 (by omega)] at hno;exact h _ ⟨_,_,rfl,rfl,fe_ (by rw[hno])⟩
theorem kb_ (k:Int):(k_ k==[])= !(decide (1≤k)&&decide (k≤3)):=by
 unfold k_;split
 ·subst k;rfl
 ·split
  ·subst k;rfl
  ·split
   ·subst k;rfl
   ·rw[yY];simp;omega
theorem rCp_ (l:List DeclT) (hl:l.length<9223372036854775807) (ht:∀d∈l,d.types.length<9223372036854775807):PQ G npC_ [d_ l] (.tup [iv (d10 l).1,iv (d10 l).2]):=by
 refine ppC_ fun Φ h=>?_;unfold cpC_
 repeat' (first|simp -implicitDefEqProofs only[go_sem,d_,zX]|refine ag_ (fun hb=>?_) (fun hb=>?_)|refine⟨fun hb=>?_,fun hb=>?_⟩|fail)
 ·exact h _ ⟨_,_,rfl,rfl,fe_ (by rw[d10,zG ‹_›])⟩
 ·have he:d10 l=f15 (d12 l) l 0:=by rw[d10,zF hb]
  refine al_ (fun n st=>∃i:Nat,i+n=l.length∧st=⟨72,[(0,d_ l),(4,iv i)],[]⟩∧d10 l=f15 (d12 l) (l.drop i) i) l.length ⟨0,by simp,rfl,he⟩ ?_;rintro I hI n st ⟨i,hi,rfl,hno⟩;simp -implicitDefEqProofs only[go_sem,d_,zX];refine⟨fun hlt=>?_,fun hge=>?_⟩
  ·have hlt':i<l.length:=by omega
   obtain⟨d,hd,hm⟩:=as10 hlt';have hw:=ws_ hlt' (by omega);rw[fs14 hd] at hno
   repeat' (first|simp -implicitDefEqProofs only[go_sem,hw,am_ hd,d11,i10,zX]|refine ag_ (fun hb=>?_) (fun hb=>?_)|refine⟨fun hb=>?_,fun hb=>?_⟩|refine ac_ (rNp_ d.name) rfl rfl ?_|refine ac_ (rF10 l hl d.name) rfl rfl ?_|fail)
   all_goals try (refine h _ ⟨_,_,rfl,rfl,fe_ ?_⟩;clear h hI;try rw[zF (by simp_all [d12];try ((repeat' split) <;> omega))] at hno;rw[hno];simp_all [d12];try (repeat' split) <;> first | rfl | omega | (simp_all;done))
   have hT:=ht d hm;have hok:(d12 l i d=if (d.types.any fun k=>k_ k==[])=true then 8 else 0):=by
    simp only[d12];generalize (d.types.any fun k=>k_ k==[])=B at*;simp_all
    try ((repeat' split) <;> first | rfl | omega | (simp_all;done))
   refine al_ (fun m st=>∃k:Nat,k+m=d.types.length∧st=⟨72,[(0,d_ l),(4,iv i),(5,iv k)],[]⟩∧∀j t,j<k→d.types[j]? =some t→(k_ t==[])=false) d.types.length ⟨0,by simp,rfl,fun j x hj=>by omega⟩ ?_;rintro J hJ m st ⟨k,hk,rfl,hall⟩;simp -implicitDefEqProofs only[go_sem,hw,am_ hd,d11,i10,d_,zX];refine⟨fun hlt2=>?_,fun hge2=>?_⟩
   ·obtain⟨t,htt,htm⟩:=as10 (l:=d.types) (i:=k) (by omega);have hw2:=ws_ (i:=k) (n:=d.types.length) (by omega) (by omega);have bad:(k_ t==[])=true→d10 l=(8,(i:Int)):=fun hv=>by
     have:(d.types.any fun k=>k_ k==[])=true:=yL.2 ⟨t,htm,hv⟩;rw[this] at hok;rw[hno,hok];rfl
    have fin:(k_ t==[])=false→a11 J m ⟨72,[(0,d_ l),(4,iv i),(5,iv (k+1:Nat))],[]⟩:=fun hv=>aa_ (m - 1) (by omega) (hJ _ _ ⟨k+1,by omega,rfl,fun j y hj hy=>by
     by_cases e:j=k
     ·subst e;rw[htt] at hy;cases hy;exact hv
     ·exact hall j y (by omega) hy⟩)
    repeat' (first|simp -implicitDefEqProofs only[go_sem,hw2,am_ hd,am_ htt,d11,i10,d_,zX]|refine ag_ (fun hb=>?_) (fun hb=>?_)|refine⟨fun hb=>?_,fun hb=>?_⟩|fail)
    all_goals first | refine fin ?_ | (refine h _ ⟨_,_,rfl,rfl,fe_ ?_⟩;rw[bad])
    all_goals
     clear h hI hJ bad fin;rw[kb_,yY];simp at*;omega
   ·rw[show (d.types.any fun k=>k_ k==[])=false by
     rw[xR];intro y hy;obtain⟨j,hj⟩:=zN hy;rw[hall j y (by have:=(zZ.1 hj).1;omega) hj];simp] at hok
    rw[hok] at hno;exact aa_ (n - 1) (by omega) (hI _ _ ⟨i+1,by omega,rfl,by rw[hno];rfl⟩)
  ·rw[fe10 (by omega)] at hno;exact h _ ⟨_,_,rfl,rfl,fe_ (by rw[hno])⟩
