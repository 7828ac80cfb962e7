/-
  errors.Is at the error of save, walked, and its contracts. The example of chapter 38: awake, run by reckoning. SavePuts and SaveGets: the walks. No claim is proved here.
-/
import Derived.Test.YtkejmcgngblfnaaGreatDoorQSw7
import Derived.WalkLawsBesides
import Derived.Stop.Asserts
import Derived.RowKitTokens
import Derived.Test.YtkejmcgngblfnaaGreatDoorQSxT
import Derived.Test.YtkejmcgngblfnaaGreatDoorQSr2
import Derived.Test.YtkejmcgngblfnaaGreatDoorQSr4
set_option linter.unusedSimpArgs false
set_option maxHeartbeats 4000000
set_option maxRecDepth 100000
namespace Go.Proofs.YtkejmcgngblfnaaGreatDoor.Ab
open Go Go.RowKit Go.Extern.Stop Go.Stop Go.Extern
abbrev tP:Nat:=405
abbrev tEr:Nat:=87
abbrev tRy:Nat:=218
abbrev hBk:Nat:=2
abbrev rtpP:Value:=.agg #[.pointer (some ⟨hBk,tP,none⟩)]
theorem en_ (v:Value) (w:World):Calls Tryz.prog 31 #[.nilIface,.iface tP v] w fun e w'=>e= .returned (.bool false)∧w'=w:=by
 have hn:∀w:World,(binOp .eql tEr .nilIface (.iface tP v)).run Tryz.prog w= .ok (.bool false) w:=fun w=>run_eql_iface_nil_left w tP v Tryz.underlying87
 go_enter Tryz.func31,Tryz.ntmps31
 go_wp2
 go_ret
 exact⟨rfl,rfl⟩
theorem e12 (a:Addr) (w:World):(binOp .eql tEr (.iface tP (.pointer (some a))) (.iface tP (.pointer (some a)))).run Tryz.prog w= .ok (.bool true) w:=
 by
 have h1:(Tryz.prog.info? tP).map (·.comparable)=some true:=by kernel_rfl
 have h2:(Tryz.prog.info? 431).isSome=true:=by kernel_rfl
 obtain⟨i,hi,hc⟩:=Option.map_eq_some_iff.1 h1
 obtain⟨j,hj⟩:=Option.isSome_iff_exists.1 h2
 exact run_eql_iface_ptr_same w a Tryz.underlying87 Tryz.underlying405 hi hc hj
theorem es11 (a:Addr) (w:World):Calls Tryz.prog 69 #[.iface tP (.pointer (some a)),.iface tP (.pointer (some a)),.bool true] w fun e w'=>e= .returned (.bool true)∧w'=w:=by
 have he:=e12 a
 go_enter Tryz.func69,Tryz.ntmps69
 go_wp2
 refine wp_loop_rounds 1 ?_
 rw[rounds_succ]
 go_wp2
 go_ret
 exact⟨rfl,rfl⟩
theorem t17 (v:Value) (w:World):(ReflectliteType.typeOf #[.iface tP v]).run Tryz.prog w= .ok (.iface tRy rtpP) w:=by kernel_rfl
theorem c19 (w:World):((ReflectliteType.method fun t=>do Rtype.noPackHeld "Comparable" t;(fun a=>Value.bool a.comparable)<$>typeInfo t) #[rtpP]).run Tryz.prog w= .ok (.bool true) w:=by kernel_rfl
theorem es12 (a:Addr) (w:World):Calls Tryz.prog 31 #[.iface tP (.pointer (some a)),.iface tP (.pointer (some a))] w fun e w'=>e= .returned (.bool true)∧w'=w:=by
 have h8:=@run_callFunc_extern Tryz.prog 68 _ ReflectliteType.typeOf Tryz.func68 (by kernel_rfl) (by kernel_rfl) (by kernel_rfl) (by kernel_rfl)
 have h32:=@run_callFunc_extern Tryz.prog 315 _ (ReflectliteType.method fun t=>do Rtype.noPackHeld "Comparable" t;pure (.bool (←typeInfo t).comparable)) Tryz.func315 (by kernel_rfl) (by kernel_rfl) (by kernel_rfl) (by kernel_rfl)
 have tT:=t17
 have cT:=c19
 have mR:∀(h:Value) (w:World),(Go.method 543 tRy (.agg #[h]) "Comparable").run Tryz.prog w= .ok (315,.agg #[h]) w:=fun _ _ =>by kernel_rfl
 go_enter Tryz.func31,Tryz.ntmps31
 go_wp2_with (go_at_call 69;refine (es11 _ _).mono ?_;rintro e w' ⟨rfl,rfl⟩)
 go_ret
 exact⟨rfl,rfl⟩
variable {G:Nat→Option AV}
theorem eInp_ (e:Nat×Nat):P_ Tryz.prog G 31 [.nili,errA e] (.bool false):=by
 intro w F vs hg ⟨hs,hr⟩
 obtain⟨l⟩:=vs
 match l,hs with
 | [x,y],_ =>
  have h0:=hr 0 _ x rfl rfl
  have h1:=hr 1 _ y rfl rfl
  cases h0
  cases h1 with
  | iface _ _ _ u hu=>
   refine (en_ u w).mono ?_
   rintro ev w' ⟨rfl,rfl⟩
   exact⟨_,F,rfl,fun _ h=>h,fun _ h=>.inl h,hg.1,.bool _ _,.refl _ _⟩
theorem eIsp_ (e:Nat×Nat):P_ Tryz.prog G 31 [errA e,errA e] (.bool true):=by
 intro w F vs hg ⟨hs,hr⟩
 obtain⟨l⟩:=vs
 match l,hs with
 | [x,y],_ =>
  have h0:=hr 0 _ x rfl rfl
  have h1:=hr 1 _ y rfl rfl
  cases h0 with
  | iface _ _ _ u hu=>
   cases hu
   cases h1 with
   | iface _ _ _ u hu=>
    cases hu
    refine (es12 ⟨e.1,e.2,none⟩ w).mono ?_
    rintro ev w' ⟨rfl,rfl⟩
    exact⟨_,F,rfl,fun _ h=>h,fun _ h=>.inl h,hg.1,.bool _ _,.refl _ _⟩
abbrev z10:AV:=.agg [.int .i64 0,.int .i64 0,.int .i64 0,.int .i64 0,.nils,.nils]
def getE (b:Str):AV:=if (s18 b).2=true then .tup [s14 (s18 b).1,iv 0] else .tup [z10,iv 4]
theorem sGp_ {e:Nat×Nat} (hE:ErrG G e) (b:Str) (hb:b.length≤maxB):P_ Tryz.prog G nsG_ [.seq 1 (b.map byV)] (getE b):=by
 have hs:=rsh_ hE b hb
 have i1:=eIsp_ (G:=G) e
 have i0:=eInp_ (G:=G) e
 refine psG_ (Runs.of fun Φ h=>?_)
 unfold csG_
 unfold getE at h
 unfold ErrG at hE
 simp only[plH,plB,outE] at hs
 generalize s18 b=x at*
 obtain⟨⟨a1,a2,a3,a4,a5,a6⟩,ok⟩:=x
 simp only[s14,errA] at*
 cases ok with
 | false=>
  simp only[if_false,Bool.false_eq_true] at hs h
  repeat' (first|simp -implicitDefEqProofs only[go_sem,hE]|refine ag_ (fun hb=>?_) (fun hb=>?_)|refine⟨fun hb=>?_,fun hb=>?_⟩|(refine ac_ [(1003,9)] hs rfl ⟨⟨_,_,rfl,rfl,rfl⟩,trivial⟩ rfl rfl rfl ?_)|refine ac10 i1 rfl rfl ?_|fail)
  exact h _ ⟨_,_,rfl,rfl,.refl _⟩
 | true=>
  simp only[if_true] at hs h
  repeat' (first|simp -implicitDefEqProofs only[go_sem,hE]|refine ag_ (fun hb=>?_) (fun hb=>?_)|refine⟨fun hb=>?_,fun hb=>?_⟩|(refine ac_ [(1003,9)] hs rfl ⟨⟨_,_,rfl,rfl,rfl⟩,trivial⟩ rfl rfl rfl ?_)|refine ac10 i0 rfl rfl ?_|fail)
  exact h _ ⟨_,_,rfl,rfl,.refl _⟩
end Go.Proofs.YtkejmcgngblfnaaGreatDoor.Ab
namespace Go.Proofs.YtkejmcgngblfnaaGreatDoor.Ab
open Go
def Gs (e:Nat×Nat) (g:Nat):Option AV:=if g=0 then some (errA e) else if g=1 then some (.agg (w10.map AV.str)) else none
def pcS (f:Nat) (args:List AV):Option AV:=if f=31 then (match args with | [.nili,.iface t _]=>if t=tP then some (.bool false) else none | _ =>none) else none
theorem po_ {G:Nat→Option AV} (f:Nat) (args:List AV) (r:AV) (h:pcS f args=some r):P_ Tryz.prog G f args r:=by
 unfold pcS at h
 split at h
 ·rename_i hf
  subst hf
  split at h
  ·split at h
   ·rename_i ht
    subst ht
    cases h
    intro w F vs hg ⟨hs,hr⟩
    obtain⟨l⟩:=vs
    match l,hs with
    | [x,y],_ =>
     have h0:=hr 0 _ x rfl rfl
     have h1:=hr 1 _ y rfl rfl
     cases h0
     cases h1 with
     | iface _ _ _ u hu=>
      refine (en_ u w).mono ?_
      rintro ev w' ⟨rfl,rfl⟩
      exact⟨_,F,rfl,fun _ h=>h,fun _ h=>.inl h,hg.1,.bool _ _,.refl _ _⟩
   ·cases h
  ·cases h
 ·cases h
theorem lap_ (e:Nat×Nat):P_ Tryz.prog (Gs e) npa_ [] (.bool true):=xp_ xo18 po_ 1000 40 (by kernel_rfl)
end Go.Proofs.YtkejmcgngblfnaaGreatDoor.Ab
namespace Go.Proofs.YtkejmcgngblfnaaGreatDoor.Ab
open Go Go.RowKit
theorem fl10 {α:Type} {pa:α→List UInt8} {B:Nat}:∀{l:List α},(∀a∈l,(pa a).length≤B)→(l.flatMap pa).length≤B*l.length
 | [],_ =>Nat.zero_le _
 | a::l,h=>by
  have h1:=fl10 (pa:=pa) fun x hx=>h x (List.mem_cons_of_mem a hx)
  have h2:=h a List.mem_cons_self
  rw[List.flatMap_cons,List.length_append,List.length_cons,Nat.mul_succ]
  omega
theorem sl11 (s:V_):(s19 s).length=25+szD s.doms+szRs s.rows:=by
 simp only[s19,szD,szRs,List.length_cons,List.length_append,l10,fl_,show ∀n,(intB n).length=4 from fun _ =>rfl]
 omega
theorem os11 {v:Val} (h:v.ok=true):v.str.length≤10000:=by
 unfold Val.ok at h
 split at h
 ·simp only[Bool.and_eq_true,beq_iff_eq] at h
  rw[h.1]
  simp
 ·split at h
  ·simp only[Bool.and_eq_true,decide_eq_true_eq] at h
   omega
  ·simp only[Bool.and_eq_true,beq_iff_eq] at h
   rw[h.2.2]
   simp
theorem ko_ {v:Val} (h:g10 v):KOk v:=⟨h.1,h.2,os11 h.1⟩
theorem io_ {n:Int} (h:in31 n):in63 n:=⟨h.1,by have:=h.2;omega⟩
def lenK (k:Nat) (s:V_):Prop:=s.doms.length≤k∧(∀l∈s.doms,l.length≤k)∧s.rows.length≤k∧∀r∈s.rows,r.1.length≤k∧r.2.length≤k∧∀c∈r.2,c.2.length≤k
theorem ll_ {s:V_} (h:lenK 10000 s):lenS s:=h
theorem lf_ {s:V_} (h:fewS s=true):lenK 12 s:=by
 simp only[fewS,Bool.and_eq_true,decide_eq_true_eq,List.all_eq_true] at h
 obtain⟨⟨⟨h1,h2⟩,h3⟩,h4⟩:=h
 refine⟨by omega,fun l hl=>(h3 l hl).1,h2,fun r hr=>?_⟩
 have:=h4 r hr
 simp only[fewR,Bool.and_eq_true,decide_eq_true_eq,List.all_eq_true] at this
 exact⟨this.1.1.1,this.1.1.2,fun c hc=>(this.2 c hc).1⟩
theorem lm12 {a b:Nat} (hab:a≤b) {s:V_} (h:lenK a s):lenK b s:=
 ⟨Nat.le_trans h.1 hab,fun l hl=>Nat.le_trans (h.2.1 l hl) hab,Nat.le_trans h.2.2.1 hab,fun r hr=>⟨Nat.le_trans (h.2.2.2 r hr).1 hab,Nat.le_trans (h.2.2.2 r hr).2.1 hab,fun c hc=>Nat.le_trans ((h.2.2.2 r hr).2.2 c hc) hab⟩⟩
theorem so12 {s:V_} (h:g12 s) (hl:lenK 10000 s):SnOk s:=by
 obtain⟨h1,h2,h3,h4,h5,h6,h7⟩:=h
 refine⟨io_ h1,io_ h2,io_ h3,io_ h4,⟨hl.1,fun l hm=>⟨hl.2.1 l hm,fun v hv=>ko_ ((h5.2 l hm).2 v hv)⟩⟩,hl.2.2.1,fun r hr=>?_⟩
 obtain⟨g1,g2⟩:=h7 r hr
 obtain⟨k1,k2,k3⟩:=hl.2.2.2 r hr
 exact⟨⟨k1,fun x hx=>⟨io_ (g1.2 x hx).1,ko_ (g1.2 x hx).2⟩⟩,k2,fun c hc=>⟨io_ (g2.2 c hc).1,k3 c hc,fun v hv=>ko_ ((g2.2 c hc).2.2 v hv)⟩⟩
theorem sf_ {s:V_} (h:fewS s=true) (hi:i16 s):SWOk s:=by
 have hl:=lf_ h
 simp only[fewS,Bool.and_eq_true,decide_eq_true_eq,List.all_eq_true,s_] at h
 obtain⟨⟨⟨h1,h2⟩,h3⟩,h4⟩:=h
 refine⟨by omega,by omega,fun l hm=>⟨by have:=hl.2.1 l hm;omega,fun v hv=>⟨hi.1 l hm v hv,by have:=(h3 l hm).2 v hv;omega⟩⟩,fun r hr=>?_⟩
 have:=h4 r hr
 simp only[fewR,Bool.and_eq_true,decide_eq_true_eq,List.all_eq_true,s_] at this
 obtain⟨⟨⟨g1,g2⟩,g3⟩,g4⟩:=this
 exact⟨by omega,by omega,fun x hx=>⟨(hi.2 r hr).1 x hx,by have:=g3 x hx;omega⟩,fun c hc=>⟨by have:=(g4 c hc).1;omega,fun v hv=>⟨(hi.2 r hr).2 c hc v hv,by have:=(g4 c hc).2 v hv;omega⟩⟩⟩
theorem fb_ {s:V_} (h:fewS s=true):25+szD s.doms+szRs s.rows≤10000000:=by
 simp only[fewS,Bool.and_eq_true,decide_eq_true_eq,List.all_eq_true,s_] at h
 obtain⟨⟨⟨h1,h2⟩,h3⟩,h4⟩:=h
 have kv:∀v:Val,v.str.length≤100→(k_ v).length≤209:=fun v hv=>by have:=kl_ v;omega
 have kl:∀l:List Val,l.length≤12→(∀v∈l,v.str.length≤100)→(l10 k_ l).length≤2512:=fun l hl hv=>by
  have:=fl10 (pa:=k_) (B:=209) (l:=l) fun v hm=>kv v (hv v hm)
  rw[l10,List.length_append,fl_]
  have:=Nat.mul_le_mul_left 209 hl
  omega
 have k1:szD s.doms≤2512*s.doms.length:=fl10 (pa:=l10 k_) fun l hl=>kl l (h3 l hl).1 (h3 l hl).2
 have k2:szRs s.rows≤40000*s.rows.length:=fl10 (pa:=rowB) fun r hr=>by
  have:=h4 r hr
  simp only[fewR,Bool.and_eq_true,decide_eq_true_eq,List.all_eq_true,s_] at this
  obtain⟨⟨⟨g1,g2⟩,g3⟩,g4⟩:=this
  have e1:=fl10 (pa:=s21) (B:=213) (l:=r.1) fun x hx=>by
   have:=kv x.2 (g3 x hx)
   rw[s21,List.length_append,show (intB x.1).length=4 from rfl]
   omega
  have e2:=fl10 (pa:=cfgB) (B:=2516) (l:=r.2) fun c hc=>by
   have:=kl c.2 (g4 c hc).1 (g4 c hc).2
   rw[cfgB,List.length_append,show (intB c.1).length=4 from rfl]
   omega
  simp only[rowB,List.length_append]
  rw[l10,l10,List.length_append,List.length_append,fl_,fl_]
  have:=Nat.mul_le_mul_left 213 g1
  have:=Nat.mul_le_mul_left 2516 g2
  omega
 have:=Nat.mul_le_mul_left 2512 h1
 have:=Nat.mul_le_mul_left 40000 h2
 omega
theorem Ge_ (e:Nat×Nat):ErrG (Gs e) e:=by
 unfold ErrG Gs
 rw[if_pos rfl]
theorem Sp_ (e:Nat×Nat) (s:V_) (hi:i16 s):P_ Tryz.prog (Gs e) np12 [s14 s] (.bool true):=by
 have haw:=lap_ e
 have hf:=lfp_ (G:=Gs e) s
 cases hfew:fewS s with
 | false=>
  rw[hfew] at hf
  obtain⟨p1,p2,p3,p4,ds,rs⟩:=s
  simp only[s14] at hf
  refine ppS_ (Runs.of fun Φ h=>?_)
  unfold cpS_
  repeat' (first|simp -implicitDefEqProofs only[go_sem,s14]|refine ag_ (fun hb=>?_) (fun hb=>?_)|refine⟨fun hb=>?_,fun hb=>?_⟩|refine ac10 hf rfl rfl ?_|refine ac10 haw rfl rfl ?_|fail)
  exact h _ ⟨_,_,rfl,rfl,.refl _⟩
 | true=>
  rw[hfew] at hf
  have hz:=sof_ hfew hi
  have hlen:=fb_ hfew
  have hl:=lm12 (b:=10000) (by decide) (lf_ hfew)
  have hp:=sPp_ (G:=Gs e) s (sf_ hfew hi) (by simp only[maxB];omega)
  have hb:=lbp_ (G:=Gs e) s (ll_ hl)
  obtain⟨w1,w2⟩:=pi_ s hz
  unfold p14 at hp
  rw[w1] at hp
  by_cases h0:badS s=0
  ·have hg:=gob_ hz h0
   have hsn:=so12 hg hl
   have hbl:(s19 s).length≤maxB:=by rw[sl11];simp only[maxB];omega
   have hB:=rBp_ (G:=Gs e) s hsn hbl
   have hS:=ls10 (G:=Gs e) s hsn hbl
   have hG:=sGp_ (Ge_ e) (s19 s) hbl
   have hgp:=gp10 hz h0
   unfold getE at hG
   unfold getS at hgp
   rw[h0] at hp hb
   rw[if_pos rfl,w2 h0] at hp
   split at hgp
   ·rename_i hr
    simp only[Prod.mk.injEq,and_true] at hgp
    rw[if_pos hr,hgp] at hG
    clear w1 w2 hz hlen hl hsn hbl hg h0 hgp hr
    have hab:=am10 (s19 s)
    generalize s19 s=y at*
    obtain⟨p1,p2,p3,p4,ds,rs⟩:=s
    simp only[s14,b10] at hf hp hb hB hS hG
    refine ppS_ (Runs.of fun Φ h=>?_)
    unfold cpS_
    repeat' (first|simp -implicitDefEqProofs only[go_sem,s14,bne_self_eq_false,beq_self_eq_true,hab]|refine ag_ (fun hb=>?_) (fun hb=>?_)|refine⟨fun hb=>?_,fun hb=>?_⟩|refine ac10 hf rfl rfl ?_|refine ac10 hp rfl rfl ?_|refine al10 hp rfl rfl ?_|refine ac10 hb rfl rfl ?_|refine ac10 hG rfl rfl ?_|refine al10 hG rfl rfl ?_|refine ac10 hB rfl rfl ?_|refine al10 hB rfl rfl ?_|refine ac10 hS rfl rfl ?_|refine ac10 haw rfl rfl ?_|(refine And.intro (a:=l13 ..) ?_ ?_)|fail)
    exact h _ ⟨_,_,rfl,rfl,.refl _⟩
   ·simp at hgp
  ·rw[if_neg h0] at hp
   have e0:(badS s != 0)=true:=by simpa using h0
   clear w1 w2 hz hlen hl h0
   generalize badS s=z at*
   obtain⟨p1,p2,p3,p4,ds,rs⟩:=s
   simp only[s14,b10] at hf hp hb
   refine ppS_ (Runs.of fun Φ h=>?_)
   unfold cpS_
   repeat' (first|simp -implicitDefEqProofs only[go_sem,s14,bne_self_eq_false,beq_self_eq_true,e0,List.map_nil,List.length_nil]|refine ag_ (fun hb=>?_) (fun hb=>?_)|refine⟨fun hb=>?_,fun hb=>?_⟩|refine ac10 hf rfl rfl ?_|refine ac10 hp rfl rfl ?_|refine al10 hp rfl rfl ?_|refine ac10 hb rfl rfl ?_|refine ac10 haw rfl rfl ?_|(refine And.intro (a:=l13 ..) ?_ ?_)|fail)
   ·exact h _ ⟨_,_,rfl,rfl,.refl _⟩
   ·exact absurd hb (by decide)
end Go.Proofs.YtkejmcgngblfnaaGreatDoor.Ab
