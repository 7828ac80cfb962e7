/-
  It is proved that proctorlaw39.LintTrue returns true for every automaton, binding and all events and turns nothing that was there, where the listed variables hold what the program's text lays in them; and the card that ties this (Rows.LintTrueCardSaid).
-/
import Derived.Test.YtjbcfpkibnhodaaGreatDoorCards
import Derived.Test.YtjbcfpkibnhodaaGreatDoorTie
import Derived.Test.YtjbcfpkibnhodaaGreatDoorYV21
namespace Go.Proofs.YtjbcfpkibnhodaaGreatDoor.lintTrue
open Go.ChangeShapes Go.WideShapes Go.ChangeAt Go.RowKit Go.Proofs.YtjbcfpkibnhodaaGreatDoor.Ab
theorem own:ownKnob Tryz.prog.godebug=none:=by kernel_rfl
theorem laidOut:laidOutB Tryz.prog=true:=by kernel_rfl
def laidL:List (String×DataW Unit):=[("math/bits.deBruijn32tab",Rows.laid_math_bits_deBruijn32tab),("math/bits.deBruijn64tab",Rows.laid_math_bits_deBruijn64tab),("internal/strconv.uint64pow10",Rows.laid_internal_strconv_uint64pow10),("errors.errorType",Rows.laid_errors_errorType),("unicode.White_Space",Rows.laid_unicode_White_Space),("strings.asciiSpace",Rows.laid_strings_asciiSpace),("proctor/schema.words",Rows.laid_proctor_schema_words)]
def p18:List (String×DataW Unit):=[("math/bits.deBruijn32tab",Rows.laid_math_bits_deBruijn32tab),("math/bits.deBruijn64tab",Rows.laid_math_bits_deBruijn64tab),("internal/strconv.uint64pow10",Rows.laid_internal_strconv_uint64pow10),("unicode.White_Space",Rows.laid_unicode_White_Space),("strings.asciiSpace",Rows.laid_strings_asciiSpace),("proctor/schema.words",Rows.laid_proctor_schema_words)]
def Gw (g:Nat):Option AV:=if g=6 then some (.iface 383 (.agg [.rawp 11 170])) else if g=5 then some (.agg (w11.map AV.str)) else if g=7 then some (.agg (Lib.pow10Tab.map (AV.int .u64))) else if g=0 then some (.agg (Lib.asciiSpaceTab.map (AV.int .u8))) else none
theorem o18:((List.range Tryz.prog.types.size).filter fun t=>Tryz.prog.rowNamed t [101,114,114,111,114])=[170]:=by kernel_rfl
set_option maxRecDepth 100000 in
theorem good_laid {W:World} (h0:laidMetH Tryz.prog laidL W):Ab.Good W (oldF W) Gw:=by
 have h':laidMet Tryz.prog p18 W∧handlesMet Tryz.prog [("errors.errorType",Rows.laid_errors_errorType)] W:=h0
 have h:=h'.1
 obtain⟨name,u,ty,e1,e2,e3,e4,e5⟩:=h'.2 _ (List.mem_singleton.2 rfl)
 have en:name=[101,114,114,111,114]:=(Option.some.inj e1).symm
 subst en
 obtain rfl:=Option.some.inj ((show (Tryz.prog.cutTypes.find? (·.1== "internal/reflectlite.rtype")).map (·.2)=some 383 by kernel_rfl).symm.trans e2)
 have hm:ty∈(List.range Tryz.prog.types.size).filter fun t=>Tryz.prog.rowNamed t [101,114,114,111,114]:=List.mem_filter.2 ⟨List.mem_range.2 e3,e4⟩
 rw[o18] at hm
 obtain rfl:=List.mem_singleton.1 hm
 have hh:typeHandle Tryz.prog 170= .pointer (some ⟨11,170,none⟩):=by kernel_rfl
 rw[hh] at e5
 refine⟨fun b hb=>hb,fun g e he=>?_⟩
 unfold Gw at he
 split at he
 ·rename_i hg;subst hg;cases he
  exact ha11 e5 fun F nm=>.rawp _ _ _
 split at he
 ·rename_i hg;subst hg;cases he
  obtain⟨g,t,cs,fuel,p,hg,ht,hcell,hwv,hd⟩:=la10 5 h rfl
  obtain rfl:=Option.some.inj ((show Tryz.prog.globalNamed "proctor/schema.words" =some 5 by kernel_rfl).symm.trans hg)
  obtain rfl:=Option.some.inj ((show (Tryz.prog.globals[5]?).map (·.type)=some 346 by kernel_rfl).symm.trans ht)
  exact sl11 (l:=w11) (e:=9) (by decide) (by kernel_rfl) (by kernel_rfl) (by kernel_rfl) (by kernel_rfl) hcell hwv hd
 split at he
 ·rename_i hg;subst hg;cases he
  obtain⟨g,t,cs,fuel,p,hg,ht,hcell,hwv,hd⟩:=la10 2 h rfl
  obtain rfl:=Option.some.inj ((show Tryz.prog.globalNamed "internal/strconv.uint64pow10" =some 7 by kernel_rfl).symm.trans hg)
  obtain rfl:=Option.some.inj ((show (Tryz.prog.globals[7]?).map (·.type)=some 373 by kernel_rfl).symm.trans ht)
  exact il_ (k:=.u64) (l:=Lib.pow10Tab) (e:=57) (by decide) (by kernel_rfl) (by kernel_rfl) (by kernel_rfl) (by kernel_rfl) hcell hwv hd
 split at he
 ·rename_i hg;subst hg;cases he
  obtain⟨g,t,cs,fuel,p,hg,ht,hcell,hwv,hd⟩:=la10 4 h rfl
  obtain rfl:=Option.some.inj ((show Tryz.prog.globalNamed "strings.asciiSpace" =some 0 by kernel_rfl).symm.trans hg)
  obtain rfl:=Option.some.inj ((show (Tryz.prog.globals[0]?).map (·.type)=some 224 by kernel_rfl).symm.trans ht)
  exact il_ (k:=.u8) (l:=Lib.asciiSpaceTab) (e:=5) (by decide) (by kernel_rfl) (by kernel_rfl) (by kernel_rfl) (by kernel_rfl) hcell hwv hd
 cases he
theorem door_met (os:Os) (args:Array Value):laidMetH Tryz.prog laidL ((World.doorLaid Tryz.prog 400 os).forCall (fun _ _ =>0) ⟨#[],args,[]⟩).memory:=
 laidMetH_of_parts3 (fuel:=8) (laidMet_of_run' 8 (by kernel_rfl) (by kernel_rfl)) (by kernel_rfl) (by kernel_rfl)
theorem walk {c0:List AV} {c1:AV} {c2:AV} {v0 v1 v2:Value} {w:World} (hg:Ab.Good w (oldF w) Gw) (h0:∃x:{q:QeaT // QL64 q},.agg c0=qeaV x.1) (h1:∃x:{l:List SlotT // ∀s∈l,i64 s.value.int},[c1]=[s11 x.1]) (h2:∃x:{l:List EvT // ∀e∈l,∀v∈e.args,i64 v.int},[c2]=[e10 x.1]) (r0:Rd w (oldF w) n10 (.agg c0) v0) (r1:Rd w (oldF w) n10 (c1) v1) (r2:Rd w (oldF w) n10 (c2) v2):
  Calls Tryz.prog 7 #[v0,v1,v2] w fun e w'=>e= .returned (.bool true)∧Below w.heap.size w w':=by
 obtain⟨x0,e0⟩:=h0
 rw[e0] at r0
 obtain⟨x1,e1⟩:=h1
 cases e1
 obtain⟨x2,e2⟩:=h2
 cases e2
 exact ((lLp_ (G:=Gw) rfl rfl ⟨rfl,rfl⟩ x0.1 x0.2.nodes x0.2.frees x1.1 x2.1 x2.2):P_ _ Gw _ _ _).calls_trueG hg (ac12 r0 (ac12 r1 (ac12 r2 an_)))
set_option maxRecDepth 100000 in
theorem lifted (os:Os) (started:os.Started) (H:Type) (enc:TypeId×Value→H):
  ReturnsInHanded {} Tryz.checked os 7 .any (fun w args=>(Rows.lintTrueSpec.pre enc Tryz.prog Tryz.f7 [] false w args∧laidMetH Tryz.prog laidL w)∧sizedMet enc Tryz.prog Tryz.f7 (OpenSpec.ofChange Rows.lintTrueSpec) false w args)
   (Rows.lintTrueSpec.post enc Tryz.prog Tryz.f7 false true false false):=by
 refine returnsInHanded_of_change_and (C:=Tryz.checked) (X:=fun w _ =>laidMetH Tryz.prog laidL w) (fun _ _ _ hh h=>h.of_heap hh) own started (by kernel_rfl) Tryz.func7
  (ChangeSpec.witness_shaped (enc:=enc) (C:=Tryz.checked) (os:=os) (X:=fun w _ =>laidMetH Tryz.prog laidL w) false (World.doorLaid Tryz.prog 400 os) #[.agg #[.string ⟨#[]⟩,.slice none 0 0,.slice none 0 0,.slice none 0 0,.slice none 0 0,.int .i64 0,.slice none 0 0,.slice none 0 0,.slice none 0 0],.slice none 0 0,.slice none 0 0] 8 rfl (World.shaped_of_RefB (by kernel_rfl) (by kernel_rfl)) (by kernel_rfl) (by kernel_rfl) (by kernel_rfl) (door_met os _)) ?_
 intro W base args ds gs before hval0 hW _ _ hL _
 have hval:∀(j:Nat) t v,Tryz.f7.params[j]? =some t→args[j]? =some v→Value.okWide Tryz.prog W .any base t v:=hval0
 have hW':=hW
 obtain⟨p,q,hA0,hV,rfl,hfz,hnd⟩:=hW
 have hA:DataW.TrodAll enc Tryz.prog W 0 (fun _ =>true) true Tryz.f7.params.toList args.toList ds p:=hA0
 have hparams:Tryz.f7.params.toList=[30,70,93]:=by kernel_rfl
 have hAll:=hA
 rw[hparams] at hA
 obtain⟨v0,vs0,d0,ds0,p0,q0,hargs,rfl,rfl,h0,r0⟩:=trodAll_cons hA
 obtain⟨v1,vs1,d1,ds1,p1,q1,rfl,rfl,rfl,h1,r1⟩:=trodAll_cons r0
 obtain⟨v2,vs2,d2,ds2,p2,q2,rfl,rfl,rfl,h2,r2⟩:=trodAll_cons r1
 obtain⟨rfl,rfl,rfl⟩:=trodAll_nil r2
 obtain rfl:args=#[v0,v1,v2]:=by cases args;simp_all
 obtain⟨rfl,rfl⟩:=trodVars_none hV
 obtain⟨us0,rfl,_⟩:=okWide_struct (fs:=(Tryz.prog.fieldsOf 30)) (by kernel_rfl) (hval 0 30 v0 (by kernel_rfl) rfl)
 obtain⟨a0,g0,k0⟩:=oa_ r33 rfl h0
 obtain⟨s1,n1,c1,rfl⟩:=okWide_slice (e:=97) (by kernel_rfl) (hval 1 70 v1 (by kernel_rfl) rfl)
 obtain⟨a1,g1,k1⟩:=ol10 r28 rfl h1
 obtain⟨s2,n2,c2,rfl⟩:=okWide_slice (e:=72) (by kernel_rfl) (hval 2 93 v2 (by kernel_rfl) rfl)
 obtain⟨a2,g2,k2⟩:=ol10 r24 rfl h2
 have hlt:=hW'.lt
 refine (walk (good_laid hL) g0 g1 g2 k0 k1 k2).mono fun e W' ⟨he,hb⟩=>?_
 subst he
 refine⟨_,rfl,Ab.post_of_below (pa:=(p0++(p1++(p2++[])))) (pv:=[]) hW' (fun _ _ _ =>?_) (fun sp hs=>?_) (fun _ _ =>rfl) rfl hb (ok_one (by kernel_rfl) rfl (okWide_bool_mk (t:=4) (by kernel_rfl) _))⟩
 ·exact trodAll_cons_mk (shut_bool (t:=4) (by kernel_rfl) _) trodAll_mk0
 ·refine as24 laidOut hb ?_ hAll (fun x hx=>hlt x (by simpa using hx)) sp (fun x hx=>hs x (by simpa using hx))
  rw[hparams]
  kernel_rfl
theorem fact0:mapsRowed Tryz.prog=true:=by kernel_rfl
theorem fact1:(Rows.lintTrueRow.inPlace==Tryz.prog.inPlace 7)=true:=by kernel_rfl
theorem fact2:(Rows.lintTrueRow.unfollowed==Tryz.prog.unfollowed 7)=true:=by kernel_rfl
theorem fact3:(Rows.lintTrueRow.recurses==Tryz.prog.recurses 7)=true:=by kernel_rfl
theorem fact4:(Rows.lintTrueRow.named==Tryz.prog.varsNamed 7)=true:=by kernel_rfl
theorem fact5:(Rows.lintTrueRow.plainKeys==Tryz.prog.plainKeys)=true:=by kernel_rfl
theorem fact6:Tryz.prog.stopsHeard=true:=by kernel_rfl
theorem fact7:Tryz.prog.mayEnter=true:=by kernel_rfl
theorem fact8:(Rows.lintTrueRow.lifted==Tryz.prog.liftsFinal)=true:=by kernel_rfl
theorem fact9:(Tryz.prog.make==some Rows.lintTrueRow.make)=true:=by kernel_rfl
theorem facts:joinedFacts Tryz.prog 7 Tryz.f7 Rows.lintTrueSpec Rows.lintTrueRow=true:=by
 unfold joinedFacts
 rw[fact0,fact1,fact2,fact3,fact4,fact5,fact6,fact7,fact8,fact9]
 kernel_rfl
theorem over:Rows.LintTrueSaid:=
 OpenClaim.holds_of_wide 7 Tryz.f7 rfl rfl rfl rfl rfl rfl rfl ⟨rfl,rfl,rfl,rfl,rfl⟩ rfl rfl rfl rfl rfl (by kernel_rfl) Tryz.func7 facts
  (of_decide_eq_true (by kernel_rfl)) (by unfold Func.isWrapper;first | (rw[if_pos (by decide+kernel)];kernel_rfl) | (rw[if_neg (by decide+kernel)];exact⟨rfl,rfl⟩))
  (fun os started H enc _ =>lifted os started H enc)
theorem proved:Rows.LintTrueCardSaid:=
 Claim7.holds_tied_plain_at .later [] [.data,.data,.data,.handle,.listed,.data,.widerDeep] true (true, "83e2afa12538e0bb58d6f79085591273bba17282942e290ad6a42c8d0e1597a1") true
  over (fun _ h=>by cases h) (by kernel_rfl) (fun _ h=>by cases h) lintTrue_row_tie rfl ⟨rfl,rfl⟩ (by kernel_rfl) rfl
  (fun f fn hf hfn=>by
   obtain rfl:f=7:=Option.some.inj ((show Tryz.prog.funcNamed "proctor/proctorlaw39.LintTrue" =some 7 by kernel_rfl).symm.trans hf) |>.symm
   obtain rfl:fn=Tryz.f7:=(Option.some.inj (Tryz.func7.symm.trans hfn)).symm
   exact⟨by kernel_rfl,fun j t ht=>by
    have hall:(Tryz.f7.params.toList.all fun u=>!Tryz.prog.wantsStandIn u)=true:=by kernel_rfl
    have hm:t∈Tryz.f7.params.toList:=Array.mem_toList_iff.2 (Array.mem_of_getElem? ht)
    exact (show Tryz.prog.wantsStandIn t=false by simpa using List.all_eq_true.1 hall t hm)⟩)
  (by kernel_rfl)
#print axioms proved
end Go.Proofs.YtjbcfpkibnhodaaGreatDoor.lintTrue
