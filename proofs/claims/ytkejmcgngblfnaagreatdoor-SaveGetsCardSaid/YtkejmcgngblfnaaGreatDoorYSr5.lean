/-
  errors.Is at the error of save, walked, and its contracts. The example of chapter 38: awake, run by reckoning. SavePuts and SaveGets: the walks. No claim is proved here.
-/
import Derived.Test.YtkejmcgngblfnaaGreatDoorYSw7
import Derived.WalkLawsBesides
import Derived.Stop.Asserts
import Derived.RowKitTokens
import Derived.Test.YtkejmcgngblfnaaGreatDoorYSxT
import Derived.Test.YtkejmcgngblfnaaGreatDoorYSr4
set_option linter.unusedSimpArgs false
set_option maxHeartbeats 4000000
set_option maxRecDepth 100000
namespace Go.Proofs.YtkejmcgngblfnaaGreatDoor.Ab
open Go Go.RowKit Go.Extern.Stop Go.Stop Go.Extern
abbrev tP:Nat:=405
abbrev tEr:Nat:=87
abbrev tRy:Nat:=218
abbrev hBk:Nat:=2
abbrev rtpP:Value:=.agg #[.pointer (some ⟨hBk,tP,none⟩)]
theorem en_ (v:Value) (w:World):Calls Tryz.prog 31 #[.nilIface,.iface tP v] w fun e w'=>e= .returned (.bool false)∧w'=w:=by
 have hn:∀w:World,(binOp .eql tEr .nilIface (.iface tP v)).run Tryz.prog w= .ok (.bool false) w:=fun w=>run_eql_iface_nil_left w tP v Tryz.underlying87
 go_enter Tryz.func31,Tryz.ntmps31
 go_wp2
 go_ret
 exact⟨rfl,rfl⟩
theorem e12 (a:Addr) (w:World):(binOp .eql tEr (.iface tP (.pointer (some a))) (.iface tP (.pointer (some a)))).run Tryz.prog w= .ok (.bool true) w:=
 by
 have h1:(Tryz.prog.info? tP).map (·.comparable)=some true:=by kernel_rfl
 have h2:(Tryz.prog.info? 431).isSome=true:=by kernel_rfl
 obtain⟨i,hi,hc⟩:=Option.map_eq_some_iff.1 h1
 obtain⟨j,hj⟩:=Option.isSome_iff_exists.1 h2
 exact run_eql_iface_ptr_same w a Tryz.underlying87 Tryz.underlying405 hi hc hj
theorem es11 (a:Addr) (w:World):Calls Tryz.prog 69 #[.iface tP (.pointer (some a)),.iface tP (.pointer (some a)),.bool true] w fun e w'=>e= .returned (.bool true)∧w'=w:=by
 have he:=e12 a
 go_enter Tryz.func69,Tryz.ntmps69
 go_wp2
 refine wp_loop_rounds 1 ?_
 rw[rounds_succ]
 go_wp2
 go_ret
 exact⟨rfl,rfl⟩
theorem t17 (v:Value) (w:World):(ReflectliteType.typeOf #[.iface tP v]).run Tryz.prog w= .ok (.iface tRy rtpP) w:=by kernel_rfl
theorem c19 (w:World):((ReflectliteType.method fun t=>do Rtype.noPackHeld "Comparable" t;(fun a=>Value.bool a.comparable)<$>typeInfo t) #[rtpP]).run Tryz.prog w= .ok (.bool true) w:=by kernel_rfl
theorem es12 (a:Addr) (w:World):Calls Tryz.prog 31 #[.iface tP (.pointer (some a)),.iface tP (.pointer (some a))] w fun e w'=>e= .returned (.bool true)∧w'=w:=by
 have h8:=@run_callFunc_extern Tryz.prog 68 _ ReflectliteType.typeOf Tryz.func68 (by kernel_rfl) (by kernel_rfl) (by kernel_rfl) (by kernel_rfl)
 have h32:=@run_callFunc_extern Tryz.prog 315 _ (ReflectliteType.method fun t=>do Rtype.noPackHeld "Comparable" t;pure (.bool (←typeInfo t).comparable)) Tryz.func315 (by kernel_rfl) (by kernel_rfl) (by kernel_rfl) (by kernel_rfl)
 have tT:=t17
 have cT:=c19
 have mR:∀(h:Value) (w:World),(Go.method 543 tRy (.agg #[h]) "Comparable").run Tryz.prog w= .ok (315,.agg #[h]) w:=fun _ _ =>by kernel_rfl
 go_enter Tryz.func31,Tryz.ntmps31
 go_wp2_with (go_at_call 69;refine (es11 _ _).mono ?_;rintro e w' ⟨rfl,rfl⟩)
 go_ret
 exact⟨rfl,rfl⟩
variable {G:Nat→Option AV}
theorem eInp_ (e:Nat×Nat):P_ Tryz.prog G 31 [.nili,errA e] (.bool false):=by
 intro w F vs hg ⟨hs,hr⟩
 obtain⟨l⟩:=vs
 match l,hs with
 | [x,y],_ =>
  have h0:=hr 0 _ x rfl rfl
  have h1:=hr 1 _ y rfl rfl
  cases h0
  cases h1 with
  | iface _ _ _ u hu=>
   refine (en_ u w).mono ?_
   rintro ev w' ⟨rfl,rfl⟩
   exact⟨_,F,rfl,fun _ h=>h,fun _ h=>.inl h,hg.1,.bool _ _,.refl _ _⟩
theorem eIsp_ (e:Nat×Nat):P_ Tryz.prog G 31 [errA e,errA e] (.bool true):=by
 intro w F vs hg ⟨hs,hr⟩
 obtain⟨l⟩:=vs
 match l,hs with
 | [x,y],_ =>
  have h0:=hr 0 _ x rfl rfl
  have h1:=hr 1 _ y rfl rfl
  cases h0 with
  | iface _ _ _ u hu=>
   cases hu
   cases h1 with
   | iface _ _ _ u hu=>
    cases hu
    refine (es12 ⟨e.1,e.2,none⟩ w).mono ?_
    rintro ev w' ⟨rfl,rfl⟩
    exact⟨_,F,rfl,fun _ h=>h,fun _ h=>.inl h,hg.1,.bool _ _,.refl _ _⟩
abbrev z10:AV:=.agg [.int .i64 0,.int .i64 0,.int .i64 0,.int .i64 0,.nils,.nils]
def getE (b:Str):AV:=if (s12 b).2=true then .tup [s15 (s12 b).1,iv 0] else .tup [z10,iv 4]
theorem sGp_ {e:Nat×Nat} (hE:ErrG G e) (b:Str) (hb:b.length≤maxB):P_ Tryz.prog G nsG_ [.seq 1 (b.map byV)] (getE b):=by
 have hs:=rsh_ hE b hb
 have i1:=eIsp_ (G:=G) e
 have i0:=eInp_ (G:=G) e
 refine psG_ (Runs.of fun Φ h=>?_)
 unfold csG_
 unfold getE at h
 unfold ErrG at hE
 simp only[plH,plB,outE] at hs
 generalize s12 b=x at*
 obtain⟨⟨a1,a2,a3,a4,a5,a6⟩,ok⟩:=x
 simp only[s15,errA] at*
 cases ok with
 | false=>
  simp only[if_false,Bool.false_eq_true] at hs h
  repeat' (first|simp -implicitDefEqProofs only[go_sem,hE]|refine ag_ (fun hb=>?_) (fun hb=>?_)|refine⟨fun hb=>?_,fun hb=>?_⟩|(refine ac_ [(1003,9)] hs rfl ⟨⟨_,_,rfl,rfl,rfl⟩,trivial⟩ rfl rfl rfl ?_)|refine ac10 i1 rfl rfl ?_|fail)
  exact h _ ⟨_,_,rfl,rfl,.refl _⟩
 | true=>
  simp only[if_true] at hs h
  repeat' (first|simp -implicitDefEqProofs only[go_sem,hE]|refine ag_ (fun hb=>?_) (fun hb=>?_)|refine⟨fun hb=>?_,fun hb=>?_⟩|(refine ac_ [(1003,9)] hs rfl ⟨⟨_,_,rfl,rfl,rfl⟩,trivial⟩ rfl rfl rfl ?_)|refine ac10 i0 rfl rfl ?_|fail)
  exact h _ ⟨_,_,rfl,rfl,.refl _⟩
end Go.Proofs.YtkejmcgngblfnaaGreatDoor.Ab
namespace Go.Proofs.YtkejmcgngblfnaaGreatDoor.Ab
open Go
def Gs (e:Nat×Nat) (g:Nat):Option AV:=if g=0 then some (errA e) else if g=1 then some (.agg (w10.map AV.str)) else none
def pcS (f:Nat) (args:List AV):Option AV:=if f=31 then (match args with | [.nili,.iface t _]=>if t=tP then some (.bool false) else none | _ =>none) else none
theorem po_ {G:Nat→Option AV} (f:Nat) (args:List AV) (r:AV) (h:pcS f args=some r):P_ Tryz.prog G f args r:=by
 unfold pcS at h
 split at h
 ·rename_i hf
  subst hf
  split at h
  ·split at h
   ·rename_i ht
    subst ht
    cases h
    intro w F vs hg ⟨hs,hr⟩
    obtain⟨l⟩:=vs
    match l,hs with
    | [x,y],_ =>
     have h0:=hr 0 _ x rfl rfl
     have h1:=hr 1 _ y rfl rfl
     cases h0
     cases h1 with
     | iface _ _ _ u hu=>
      refine (en_ u w).mono ?_
      rintro ev w' ⟨rfl,rfl⟩
      exact⟨_,F,rfl,fun _ h=>h,fun _ h=>.inl h,hg.1,.bool _ _,.refl _ _⟩
   ·cases h
  ·cases h
 ·cases h
theorem lap_ (e:Nat×Nat):P_ Tryz.prog (Gs e) npa_ [] (.bool true):=xp_ xo18 po_ 1000 40 (by kernel_rfl)
end Go.Proofs.YtkejmcgngblfnaaGreatDoor.Ab
namespace Go.Proofs.YtkejmcgngblfnaaGreatDoor.Ab
open Go Go.RowKit
theorem mf_ {α:Type} {pa:α→List UInt8}:∀{l:List α} {a:α},a∈l→(pa a).length≤(l.flatMap pa).length
 | b::l,a,h=>by
  rw[List.flatMap_cons,List.length_append]
  rcases List.mem_cons.1 h with rfl | h
  ·omega
  ·have:=mf_ (pa:=pa) h
   omega
theorem sl10 (s:V_):(s19 s).length=25+szD s.doms+szRs s.rows:=by
 simp only[s19,szD,szRs,List.length_cons,List.length_append,l10,fl10,show ∀n,(intB n).length=4 from fun _ =>rfl]
 omega
theorem os11 {v:Val} (h:v.ok=true):v.str.length≤10000:=by
 unfold Val.ok at h
 split at h
 ·simp only[Bool.and_eq_true,beq_iff_eq] at h
  rw[h.1]
  simp
 ·split at h
  ·simp only[Bool.and_eq_true,decide_eq_true_eq] at h
   omega
  ·simp only[Bool.and_eq_true,beq_iff_eq] at h
   rw[h.2.2]
   simp
theorem ko_ {v:Val} (h:g11 v):KOk v:=⟨h.1,h.2,os11 h.1⟩
theorem wo_ {v:Val} (h:KOk v):WOk v:=⟨h.2.1,h.2.2⟩
theorem io_ {n:Int} (h:in31 n):in63 n:=⟨h.1,by have:=h.2;omega⟩
def lenK (k:Nat) (s:V_):Prop:=s.doms.length≤k∧(∀l∈s.doms,l.length≤k)∧s.rows.length≤k∧∀r∈s.rows,r.1.length≤k∧r.2.length≤k∧∀c∈r.2,c.2.length≤k
theorem lm11 {a b:Nat} (hab:a≤b) {s:V_} (h:lenK a s):lenK b s:=
 ⟨Nat.le_trans h.1 hab,fun l hl=>Nat.le_trans (h.2.1 l hl) hab,Nat.le_trans h.2.2.1 hab,fun r hr=>⟨Nat.le_trans (h.2.2.2 r hr).1 hab,Nat.le_trans (h.2.2.2 r hr).2.1 hab,fun c hc=>Nat.le_trans ((h.2.2.2 r hr).2.2 c hc) hab⟩⟩
theorem lb11 (s:V_):lenK (s19 s).length s:=by
 rw[sl10]
 have d1:s.doms.length≤szD s.doms:=fl_ (pa:=l10 k_) ln_ s.doms
 have r1:s.rows.length≤szRs s.rows:=fl_ (pa:=rowB) rn_ s.rows
 refine⟨by omega,fun l hl=>?_,by omega,fun r hr=>?_⟩
 ·have h1:(l10 k_ l).length≤szD s.doms:=mf_ (pa:=l10 k_) hl
  have h2:=fl_ (pa:=k_) kn_ l
  rw[l10,List.length_append] at h1
  omega
 ·have h1:(rowB r).length≤szRs s.rows:=mf_ (pa:=rowB) hr
  simp only[rowB,l10,List.length_append] at h1
  have h2:=fl_ (pa:=s20) (fun s=>an_ (in10 s.1)) r.1
  have h3:=fl_ (pa:=cfgB) (fun s=>an_ (in10 s.1)) r.2
  refine⟨by omega,by omega,fun c hc=>?_⟩
  have h4:(cfgB c).length≤(r.2.flatMap cfgB).length:=mf_ (pa:=cfgB) hc
  simp only[cfgB,l10,List.length_append] at h4
  have h5:=fl_ (pa:=k_) kn_ c.2
  omega
theorem so12 {s:V_} (h:g10 s) (hl:lenK 10000 s):SnOk s:=by
 obtain⟨h1,h2,h3,h4,h5,h6,h7⟩:=h
 refine⟨io_ h1,io_ h2,io_ h3,io_ h4,⟨hl.1,fun l hm=>⟨hl.2.1 l hm,fun v hv=>ko_ ((h5.2 l hm).2 v hv)⟩⟩,hl.2.2.1,fun r hr=>?_⟩
 obtain⟨g1,g2⟩:=h7 r hr
 obtain⟨k1,k2,k3⟩:=hl.2.2.2 r hr
 exact⟨⟨k1,fun x hx=>⟨io_ (g1.2 x hx).1,ko_ (g1.2 x hx).2⟩⟩,k2,fun c hc=>⟨io_ (g2.2 c hc).1,k3 c hc,fun v hv=>ko_ ((g2.2 c hc).2.2 v hv)⟩⟩
theorem so13 {s:V_} (h:SnOk s):SWOk s:=by
 obtain⟨_,_,_,_,⟨h1,h2⟩,h3,h4⟩:=h
 refine⟨by omega,by omega,fun l hl=>⟨by have:=(h2 l hl).1;omega,fun v hv=>wo_ ((h2 l hl).2 v hv)⟩,fun r hr=>?_⟩
 obtain⟨⟨g1,g2⟩,g3,g4⟩:=h4 r hr
 exact⟨by omega,by omega,fun x hx=>wo_ (g2 x hx).2,fun c hc=>⟨by have:=(g4 c hc).2.1;omega,fun v hv=>wo_ ((g4 c hc).2.2 v hv)⟩⟩
theorem Ge_ (e:Nat×Nat):ErrG (Gs e) e:=by
 unfold ErrG Gs
 rw[if_pos rfl]
theorem zf_:FitL [z10,z10] [s15 V_.none,s15 V_.none]:=by
 have hz:Fit z10 (s15 V_.none):=by
  refine Fit.agg _ _ rfl fun j c d hc hd=>?_
  match j,hc,hd with
  | 0,hc,hd=>cases hc;cases hd;exact .refl _
  | 1,hc,hd=>cases hc;cases hd;exact .refl _
  | 2,hc,hd=>cases hc;cases hd;exact .refl _
  | 3,hc,hd=>cases hc;cases hd;exact .refl _
  | 4,hc,hd=>cases hc;cases hd;exact .nil 1
  | 5,hc,hd=>cases hc;cases hd;exact .nil 2
  | j+6,hc,hd=>simp at hc
 exact⟨hz,hz,trivial⟩
theorem lsn_ {G:Nat→Option AV}:P_ Tryz.prog G nps_ [s15 V_.none,s15 V_.none] (.bool true):=by
 refine lsp_ V_.none ?_ ?_
 ·exact so12 ⟨⟨by decide,by decide⟩,⟨by decide,by decide⟩,⟨by decide,by decide⟩,⟨by decide,by decide⟩,⟨by decide,fun l hl=>(by cases hl)⟩,by decide,fun r hr=>(by cases hr)⟩ ⟨by decide,fun l hl=>(by cases hl),by decide,fun r hr=>(by cases hr)⟩
 ·rw[sl10]
  decide
theorem Sp_ (e:Nat×Nat) (b:Str):P_ Tryz.prog (Gs e) np11 [b_ b] (.bool true):=by
 have haw:=lap_ e
 by_cases hbl:b.length≤5000
 case neg=>
  have g1:decide ((5000:Int)<(b.length:Int))=true:=gy_ hbl
  refine ppS_ (Runs.of fun Φ h=>?_)
  unfold cpS_
  repeat' (first|simp -implicitDefEqProofs only[go_sem,b_,List.length_map,g1]|refine ag_ (fun hb=>?_) (fun hb=>?_)|refine⟨fun hb=>?_,fun hb=>?_⟩|refine ac10 haw rfl rfl ?_|fail)
  exact h _ ⟨_,_,rfl,rfl,.refl _⟩
 have g1:decide ((5000:Int)<(b.length:Int))=false:=gn_ hbl
 have hG:=sGp_ (Ge_ e) b (by simp only[maxB];omega)
 unfold getE at hG
 cases hr:(s12 b).2 with
 | false=>
  rw[if_neg (by rw[hr];decide)] at hG
  have hS:=lsn_ (G:=Gs e)
  refine ppS_ (Runs.of fun Φ h=>?_)
  unfold cpS_
  repeat' (first|simp -implicitDefEqProofs only[go_sem,b_,List.length_map,g1]|refine ag_ (fun hb=>?_) (fun hb=>?_)|refine⟨fun hb=>?_,fun hb=>?_⟩|refine ac10 hG rfl rfl ?_|refine al_ hG rfl rfl ?_|(refine acf_ hS rfl zf_ rfl ?_)|refine ac10 haw rfl rfl ?_|(refine And.intro (a:=l13 ..) ?_ ?_)|fail)
  exact h _ ⟨_,_,rfl,rfl,.refl _⟩
 | true=>
  rw[if_pos hr] at hG
  have eg:getS b=((s12 b).1,true):=by unfold getS;rw[if_pos hr]
  obtain⟨hz,h0,hsb,_⟩:=pg11 (b:=b) (by rw[eg])
  rw[eg] at hz h0 hsb
  generalize (s12 b).1=s at*
  have hg:=gob_ hz h0
  have hl:=lm11 (b:=10000) (by rw[hsb];omega) (lb11 s)
  have hsn:=so12 hg hl
  have hbm:(s19 s).length≤maxB:=by rw[hsb];simp only[maxB];omega
  have hp:=sPp_ (G:=Gs e) s (so13 hsn) (by rw[←sl10];exact hbm)
  have hB:=rBp_ (G:=Gs e) s hsn hbm
  obtain⟨w1,w2⟩:=pi_ s hz
  unfold p14 at hp
  rw[w1,h0,if_pos rfl,w2 h0] at hp
  rw[hsb] at hp hB
  clear hg hl hsn hbm w1 w2 hz h0 hsb eg hr hbl
  have hab:=am10 b
  obtain⟨p1,p2,p3,p4,ds,rs⟩:=s
  simp only[s15,b_] at hp hB hG
  refine ppS_ (Runs.of fun Φ h=>?_)
  unfold cpS_
  repeat' (first|simp -implicitDefEqProofs only[go_sem,b_,List.length_map,g1,beq_self_eq_true,bne_self_eq_false,hab]|refine ag_ (fun hb=>?_) (fun hb=>?_)|refine⟨fun hb=>?_,fun hb=>?_⟩|refine ac10 hG rfl rfl ?_|refine al_ hG rfl rfl ?_|refine ac10 hp rfl rfl ?_|refine al_ hp rfl rfl ?_|refine ac10 hB rfl rfl ?_|refine al_ hB rfl rfl ?_|refine ac10 haw rfl rfl ?_|(refine And.intro (a:=l13 ..) ?_ ?_)|fail)
  exact h _ ⟨_,_,rfl,rfl,.refl _⟩
end Go.Proofs.YtkejmcgngblfnaaGreatDoor.Ab
