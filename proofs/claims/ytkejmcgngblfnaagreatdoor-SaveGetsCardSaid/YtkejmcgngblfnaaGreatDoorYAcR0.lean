/-
  Printing and reading of bytes, plainly: a pair that fits, and how pairs are put together (for chapter 38). Lists of values, and functions handed over: what proofs about loops share. Numbers as texts, in plain words. The numbers of functions and types. No claim is proved here.
-/
import Derived.Test.YtkejmcgngblfnaaGreatDoorYAbRun
import Derived.Lib.ItoaNum
import Derived.Test.YtkejmcgngblfnaaGreatDoorProg
namespace Go.Proofs.YtkejmcgngblfnaaGreatDoor.Ab
open Go
structure PP {α:Type} (good:α→Prop) (pr:α→List UInt8) (p:List UInt8→Option (α×List UInt8)):Prop where
 fwd:∀a r,good a→p (pr a++r)=some (a,r)
 bwd:∀b a r,p b=some (a,r)→good a∧b=pr a++r
def f10 (n:Nat):List UInt8:=[UInt8.ofNat (n / 16777216),UInt8.ofNat (n / 65536 % 256),UInt8.ofNat (n / 256 % 256),UInt8.ofNat (n % 256)]
def numP:List UInt8→Option (Nat×List UInt8)
 | a::b::c::d::r=>if 127<a.toNat then none else some (a.toNat*16777216+b.toNat*65536+c.toNat*256+d.toNat,r)
 | _ =>none
theorem fl10 (n:Nat):(f10 n).length=4:=rfl
theorem np12:PP (fun n=>n<2147483648) f10 numP where
 fwd:=by
  intro n r hn
  simp only[f10,List.cons_append,List.nil_append,numP]
  have h1:(UInt8.ofNat (n / 16777216)).toNat=n / 16777216:=by simp;omega
  have h2:(UInt8.ofNat (n / 65536 % 256)).toNat=n / 65536 % 256:=by simp
  have h3:(UInt8.ofNat (n / 256 % 256)).toNat=n / 256 % 256:=by simp
  have h4:(UInt8.ofNat (n % 256)).toNat=n % 256:=by simp
  rw[h1,h2,h3,h4,if_neg (by omega)]
  congr 2
  omega
 bwd:=by
  intro b n r h
  match b,h with
  | a::b::c::d::q,h=>
   simp only[numP] at h
   split at h
   ·cases h
   ·rename_i ha
    simp only[Option.some.injEq,Prod.mk.injEq] at h
    obtain⟨rfl,rfl⟩:=h
    have hb:=b.toNat_lt
    have hc:=c.toNat_lt
    have hd:=d.toNat_lt
    refine⟨by omega,?_⟩
    simp only[f10,List.cons_append,List.nil_append,List.cons.injEq,and_true]
    refine⟨?_,?_,?_,?_⟩ <;> (apply UInt8.toNat_inj.1;simp;omega)
def seqP {α β:Type} (p:List UInt8→Option (α×List UInt8)) (q:List UInt8→Option (β×List UInt8)) (b:List UInt8):Option ((α×β)×List UInt8):=
 match p b with
 | some (x,r)=>match q r with
  | some (y,s)=>some ((x,y),s)
  | none=>none
 | none=>none
theorem sp_ {α β:Type} {ga:α→Prop} {gb:β→Prop} {pa:α→List UInt8} {pb:β→List UInt8} {p:List UInt8→Option (α×List UInt8)} {q:List UInt8→Option (β×List UInt8)} (h:PP ga pa p) (k:PP gb pb q):
  PP (fun x:α×β=>ga x.1∧gb x.2) (fun x=>pa x.1++pb x.2) (seqP p q) where
 fwd:=by
  intro x r hx
  unfold seqP
  rw[List.append_assoc,h.fwd _ _ hx.1]
  simp only
  rw[k.fwd _ _ hx.2]
 bwd:=by
  intro b x r hb
  unfold seqP at hb
  split at hb
  ·rename_i y s hy
   split at hb
   ·rename_i z t hz
    simp only[Option.some.injEq,Prod.mk.injEq] at hb
    obtain⟨rfl,rfl⟩:=hb
    obtain⟨g1,e1⟩:=h.bwd _ _ _ hy
    obtain⟨g2,e2⟩:=k.bwd _ _ _ hz
    exact⟨⟨g1,g2⟩,by rw[e1,e2,List.append_assoc]⟩
   ·cases hb
  ·cases hb
def t11 {α:Type} (p:List UInt8→Option (α×List UInt8)):Nat→List UInt8→Option (List α×List UInt8)
 | 0,b=>some ([],b)
 | n+1,b=>match p b with
  | some (x,r)=>match t11 p n r with
   | some (l,s)=>some (x::l,s)
   | none=>none
  | none=>none
def l17 {α:Type} (p:List UInt8→Option (α×List UInt8)) (b:List UInt8):Option (List α×List UInt8):=
 match numP b with
 | some (n,r)=>if r.length<n then none else t11 p n r
 | none=>none
def l10 {α:Type} (pr:α→List UInt8) (l:List α):List UInt8:=f10 l.length++l.flatMap pr
theorem tf_ {α:Type} {ga:α→Prop} {pa:α→List UInt8} {p:List UInt8→Option (α×List UInt8)} (h:PP ga pa p):∀(l:List α) (r:List UInt8),(∀a∈l,ga a)→t11 p l.length (l.flatMap pa++r)=some (l,r)
 | [],r,_ =>rfl
 | a::l,r,hl=>by
  simp only[List.length_cons,List.flatMap_cons,t11,List.append_assoc]
  rw[h.fwd _ _ (hl a List.mem_cons_self)]
  simp only
  rw[tf_ h l r fun x hx=>hl x (List.mem_cons_of_mem _ hx)]
theorem tb11 {α:Type} {ga:α→Prop} {pa:α→List UInt8} {p:List UInt8→Option (α×List UInt8)} (h:PP ga pa p):∀(n:Nat) (b r:List UInt8) (l:List α),t11 p n b=some (l,r)→l.length=n∧(∀a∈l,ga a)∧b=l.flatMap pa++r
 | 0,b,r,l,hb=>by
  simp only[t11,Option.some.injEq,Prod.mk.injEq] at hb
  obtain⟨rfl,rfl⟩:=hb
  exact⟨rfl,fun a ha=>(by cases ha),rfl⟩
 | n+1,b,r,l,hb=>by
  simp only[t11] at hb
  split at hb
  ·rename_i x s hx
   split at hb
   ·rename_i k t hk
    simp only[Option.some.injEq,Prod.mk.injEq] at hb
    obtain⟨rfl,rfl⟩:=hb
    obtain⟨g1,e1⟩:=h.bwd _ _ _ hx
    obtain⟨e2,g2,e3⟩:=tb11 h n _ _ _ hk
    refine⟨by rw[List.length_cons,e2],fun a ha=>?_,by rw[e1,e3,List.flatMap_cons,List.append_assoc]⟩
    rcases List.mem_cons.1 ha with rfl | ha
    ·exact g1
    ·exact g2 a ha
   ·cases hb
  ·cases hb
theorem fl_ {α:Type} {pa:α→List UInt8} (hne:∀a,pa a≠[]):∀l:List α,l.length≤(l.flatMap pa).length
 | []=>Nat.le_refl _
 | a::l=>by
  have h1:=fl_ hne l
  have h2:0<(pa a).length:=List.length_pos_iff.2 (hne a)
  rw[List.flatMap_cons,List.length_append,List.length_cons]
  omega
theorem lp_ {α:Type} {ga:α→Prop} {pa:α→List UInt8} {p:List UInt8→Option (α×List UInt8)} (h:PP ga pa p) (hne:∀a,pa a≠[]):
  PP (fun l:List α=>l.length<2147483648∧∀a∈l,ga a) (l10 pa) (l17 p) where
 fwd:=by
  intro l r hl
  unfold l17 l10
  rw[List.append_assoc,np12.fwd _ _ hl.1]
  simp only
  have:=fl_ hne l
  rw[if_neg (by rw[List.length_append];omega)]
  exact tf_ h l r hl.2
 bwd:=by
  intro b l r hb
  unfold l17 at hb
  split at hb
  ·rename_i n s hn
   split at hb
   ·cases hb
   ·obtain⟨g1,e1⟩:=np12.bwd _ _ _ hn
    obtain⟨e2,g2,e3⟩:=tb11 h _ _ _ _ hb
    subst e2
    exact⟨⟨g1,g2⟩,by unfold l10;rw[e1,e3,List.append_assoc]⟩
  ·cases hb
theorem ln_ {α:Type} {pa:α→List UInt8} (l:List α):l10 pa l≠[]:=by
 unfold l10 f10
 simp
end Go.Proofs.YtkejmcgngblfnaaGreatDoor.Ab
namespace Go.Proofs.YtkejmcgngblfnaaGreatDoor.Ab
open Go
abbrev iv (n:Int):AV:=.int .i64 n
abbrev Str:=List UInt8
theorem fe_ {a b:AV} (h:a=b):Fit a b:=h ▸ .refl _
theorem am_ {α:Type} {e:α→AV} {H:List (Nat×Box)} {sz:Nat} {l:List α} {i:Nat} {x:α} (h:l[i]? =some x):a10 H sz (.seq sz (l.map e)) (.int .i64 (i:Int))=some (.eptr (e x) 0):=
 as16 _ (by omega) (by simp [h])
theorem ws_ {i n:Nat} (h:i<n) (hn:n<9223372036854775808):IntKind.i64.wrap ((i:Int)+1)=((i+1:Nat):Int):=by rw[wi_ (by omega) (by omega)];omega
theorem as10 {α:Type} {l:List α} {i:Nat} (h:i<l.length):∃x,l[i]? =some x∧x∈l:=⟨l[i],List.getElem?_eq_getElem h,List.getElem_mem h⟩
end Go.Proofs.YtkejmcgngblfnaaGreatDoor.Ab
namespace Go.Proofs.YtkejmcgngblfnaaGreatDoor.Ab
open Go
set_option linter.unusedSimpArgs false
def i64 (n:Int):Prop:=-9223372036854775808≤n∧n<9223372036854775808
end Go.Proofs.YtkejmcgngblfnaaGreatDoor.Ab
namespace Go.Proofs.YtkejmcgngblfnaaGreatDoor.Ab
open Go
abbrev ti_:Nat:=3
abbrev tu_:Nat:=5
abbrev ts_:Nat:=9
abbrev taS_:Nat:=26
abbrev taQ_:Nat:=46
abbrev teO_:Nat:=48
abbrev tSV_:Nat:=62
abbrev taR_:Nat:=67
abbrev taV_:Nat:=69
abbrev ta10:Nat:=71
abbrev taC_:Nat:=73
abbrev ta11:Nat:=75
abbrev tsw_:Nat:=79
abbrev tS10:Nat:=80
abbrev tsp_:Nat:=91
abbrev tsr_:Nat:=93
abbrev taD_:Nat:=101
abbrev ta13:Nat:=104
abbrev taF_:Nat:=108
abbrev taN_:Nat:=110
abbrev taT_:Nat:=113
abbrev ta12:Nat:=115
abbrev tPI_:Nat:=126
abbrev teM_:Nat:=130
abbrev teC_:Nat:=135
abbrev ta14:Nat:=140
abbrev tep_:Nat:=144
abbrev teb_:Nat:=148
abbrev tP_:Nat:=155
abbrev ttT_:Nat:=185
abbrev taE_:Nat:=193
abbrev tsA_:Nat:=201
abbrev tS_:Nat:=230
abbrev tSe_:Nat:=263
abbrev tce_:Nat:=266
abbrev tfiib_:Nat:=267
abbrev np11:Nat:=4
abbrev npa_:Nat:=8
abbrev nsP_:Nat:=9
abbrev nsG_:Nat:=11
abbrev npB_:Nat:=12
abbrev nps_:Nat:=13
abbrev ns18:Nat:=17
abbrev neMS_:Nat:=19
abbrev neN_:Nat:=24
abbrev nswn_:Nat:=25
abbrev nswv_:Nat:=26
abbrev nswr_:Nat:=27
abbrev ns12:Nat:=30
abbrev neI_:Nat:=31
abbrev npf_:Nat:=32
abbrev npv_:Nat:=33
abbrev npr_:Nat:=34
abbrev npS_:Nat:=35
abbrev nt10:Nat:=44
abbrev neMp_:Nat:=46
abbrev nsCaVaV_:Nat:=47
abbrev neMD_:Nat:=48
abbrev neMR_:Nat:=49
abbrev ncR_:Nat:=52
abbrev ntN_:Nat:=53
abbrev ndO_:Nat:=54
abbrev ns17:Nat:=55
abbrev niN_:Nat:=56
abbrev ncS_:Nat:=57
abbrev nsww_:Nat:=58
abbrev ns11:Nat:=59
abbrev nspr_:Nat:=60
abbrev nsrn_:Nat:=61
abbrev ns10:Nat:=62
abbrev nsrs1_:Nat:=63
abbrev nslaV_:Nat:=64
abbrev nsrv_:Nat:=65
abbrev nslaR_:Nat:=66
abbrev nsrr_:Nat:=67
abbrev np10:Nat:=70
abbrev npK_:Nat:=71
abbrev nbL_:Nat:=81
abbrev nvR_:Nat:=82
abbrev ntTP_:Nat:=87
abbrev niIA_:Nat:=88
abbrev ntTR_:Nat:=89
abbrev ncf_:Nat:=91
abbrev nch_:Nat:=92
abbrev nct_:Nat:=93
abbrev ncs_:Nat:=94
abbrev ndA_:Nat:=95
abbrev ncP_:Nat:=96
abbrev nkO_:Nat:=97
abbrev nkC_:Nat:=98
abbrev nslaS_:Nat:=99
abbrev nsrs_:Nat:=100
abbrev nslaC_:Nat:=101
abbrev nsrc_:Nat:=102
abbrev nvI_:Nat:=119
abbrev nvS_:Nat:=120
abbrev nvB_:Nat:=121
abbrev nbK_:Nat:=122
abbrev niIe_:Nat:=123
abbrev ntc_:Nat:=126
abbrev nsCaSaS_:Nat:=127
abbrev niIA1_:Nat:=128
abbrev nsSaRaR_:Nat:=130
abbrev ntTR1_:Nat:=131
abbrev nsC_:Nat:=132
abbrev nsN_:Nat:=133
abbrev ncn_:Nat:=134
abbrev ncaaQ_:Nat:=135
abbrev nch1_:Nat:=136
abbrev ncaaF_:Nat:=138
abbrev nch2_:Nat:=139
abbrev nce_:Nat:=140
abbrev nct1_:Nat:=141
abbrev nct2_:Nat:=142
abbrev nc10:Nat:=146
abbrev ncaaN_:Nat:=147
abbrev ncaaT_:Nat:=150
abbrev ns16:Nat:=151
abbrev ncs1_:Nat:=152
abbrev ncai_:Nat:=157
abbrev ncs2_:Nat:=158
abbrev ncaaS_:Nat:=159
abbrev ncs3_:Nat:=160
abbrev nsCaTaT_:Nat:=167
abbrev ncP1_:Nat:=168
abbrev nko_:Nat:=169
abbrev nk10:Nat:=170
abbrev nm11:Nat:=179
abbrev nsCaCaC_:Nat:=185
abbrev nspaR_:Nat:=187
abbrev nso_:Nat:=188
abbrev nsS_:Nat:=189
abbrev nsW_:Nat:=190
abbrev ncas_:Nat:=191
abbrev ncn1_:Nat:=192
abbrev nsIss_:Nat:=193
abbrev ncl_:Nat:=194
abbrev nvT_:Nat:=195
abbrev nsIaTaT_:Nat:=208
abbrev nkn_:Nat:=209
abbrev nkt_:Nat:=210
abbrev nkc_:Nat:=211
abbrev nm10:Nat:=223
abbrev nmbL_:Nat:=224
abbrev nsiaR_:Nat:=229
abbrev nshaR_:Nat:=230
abbrev nsbaR_:Nat:=231
abbrev nscaR_:Nat:=232
abbrev nsraR_:Nat:=233
abbrev ns13:Nat:=234
abbrev ns14:Nat:=235
abbrev ns15:Nat:=236
abbrev nsF_:Nat:=237
abbrev nsCii_:Nat:=238
abbrev nso1_:Nat:=239
abbrev nsS1_:Nat:=240
abbrev nsI_:Nat:=241
abbrev nsCss_:Nat:=242
abbrev nsi_:Nat:=265
theorem pcR {f:Nat} {fn:Func} {A:AFun} (hf:Tryz.prog.funcs[f]? =some fn) (hc:chkF Tryz.prog fn A=true) {G:Nat→Option AV} {args:List AV} {r:AV} (h:Runs Tryz.prog G A args r) (hk:args.length=A.k:=by rfl):P_ Tryz.prog G f args r:=P_.of_runs hf hc hk h
abbrev op (d:Nat) (x:AOp):AO:=⟨some d,x,none⟩
abbrev oG (d:Nat) (x:AOp) (t:Nat) (b:Bool):AO:=⟨some d,x,some (t,b)⟩
abbrev oM (d x:Nat):AO:=⟨some d,.mov (.t x),none⟩
abbrev oN (d p n:Nat):AO:=⟨some d,.loadN (.t p) n,none⟩
abbrev oL (d p:Nat):AO:=⟨some d,.load (.t p),none⟩
abbrev oF (d p n:Nat):AO:=⟨some d,.faddr (.t p) n,none⟩
abbrev oI (d z x i:Nat):AO:=⟨some d,.iaddr z (.t x) (.t i),none⟩
abbrev oB (d:Nat) (o:BinOp) (x y:Nat):AO:=⟨some d,.bin o (.t x) (.t y),none⟩
abbrev oK (d:Nat) (o:BinOp) (x:Nat) (k:Int):AO:=⟨some d,.bin o (.t x) (.k (.int .i64 k)),none⟩
abbrev oE (d x i:Nat):AO:=⟨some d,.ext (.t x) i,none⟩
abbrev oZ (d x:Nat):AO:=⟨some d,.len false (.t x),none⟩
abbrev oA (d x y:Nat):AO:=⟨some d,.pick (.t x) (.t y) (.k (.bool false)),none⟩
abbrev oO (d x y:Nat):AO:=⟨some d,.pick (.t x) (.k (.bool true)) (.t y),none⟩
abbrev oU (d x:Nat):AO:=⟨some d,.un .not (.t x),none⟩
abbrev oV (d:Nat) (b:Bool):AO:=⟨some d,.mov (.k (.bool b)),none⟩
abbrev oC (d:Nat) (k:Int):AO:=⟨some d,.mov (.k (.int .i64 k)),none⟩
abbrev qM (d x t:Nat) (b:Bool):AO:=⟨some d,.mov (.t x),some (t,b)⟩
abbrev qL (d p t:Nat) (b:Bool):AO:=⟨some d,.load (.t p),some (t,b)⟩
abbrev qN (d p n t:Nat) (b:Bool):AO:=⟨some d,.loadN (.t p) n,some (t,b)⟩
abbrev qF (d p n t:Nat) (b:Bool):AO:=⟨some d,.faddr (.t p) n,some (t,b)⟩
abbrev qI (d z x i t:Nat) (b:Bool):AO:=⟨some d,.iaddr z (.t x) (.t i),some (t,b)⟩
abbrev qB (d:Nat) (o:BinOp) (x y t:Nat) (b:Bool):AO:=⟨some d,.bin o (.t x) (.t y),some (t,b)⟩
abbrev qK (d:Nat) (o:BinOp) (x:Nat) (k:Int) (t:Nat) (b:Bool):AO:=⟨some d,.bin o (.t x) (.k (.int .i64 k)),some (t,b)⟩
abbrev qA (d x y t:Nat) (b:Bool):AO:=⟨some d,.pick (.t x) (.t y) (.k (.bool false)),some (t,b)⟩
abbrev qO (d x y t:Nat) (b:Bool):AO:=⟨some d,.pick (.t x) (.k (.bool true)) (.t y),some (t,b)⟩
end Go.Proofs.YtkejmcgngblfnaaGreatDoor.Ab
