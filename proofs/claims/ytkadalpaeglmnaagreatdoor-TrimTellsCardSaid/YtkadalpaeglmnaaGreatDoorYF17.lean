/-
  It is proved that proctorlaw41.TrimTells returns true for every automaton and turns nothing that was there, where the listed variables hold what the program's text lays in them; and the card that ties this (Rows.TrimTellsCardSaid).
-/
import Derived.Test.YtkadalpaeglmnaaGreatDoorCards
import Derived.Test.YtkadalpaeglmnaaGreatDoorTie
import Derived.Test.YtkadalpaeglmnaaGreatDoorYTbC
set_option linter.unusedSimpArgs false
namespace Go.Proofs.YtkadalpaeglmnaaGreatDoor.trimTells
open Go.ChangeShapes Go.WideShapes Go.ChangeAt Go.RowKit Go.Proofs.YtkadalpaeglmnaaGreatDoor.Ab
theorem own:ownKnob Tryz.prog.godebug=none:=by kernel_rfl
theorem laidOut:laidOutB Tryz.prog=true:=by kernel_rfl
def laidL:List (String×DataW Unit):=[("errors.errorType",Rows.laid_errors_errorType),("proctor/schema.words",Rows.laid_proctor_schema_words)]
def p16:List (String×DataW Unit):=[("proctor/schema.words",Rows.laid_proctor_schema_words)]
def Gw (g:Nat):Option AV:=if g=0 then some (.iface 263 (.agg [.rawp 2 146])) else if g=1 then some (.agg (w11.map AV.str)) else none
theorem o13:((List.range Tryz.prog.types.size).filter fun t=>Tryz.prog.rowNamed t [101,114,114,111,114])=[146]:=by kernel_rfl
set_option maxRecDepth 100000 in
theorem good_laid {W:World} (h0:laidMetH Tryz.prog laidL W):Ab.Good W (oldF W) Gw:=by
 have h':laidMet Tryz.prog p16 W∧handlesMet Tryz.prog [("errors.errorType",Rows.laid_errors_errorType)] W:=h0;have h:=h'.1;obtain⟨name,u,ty,e1,e2,e3,e4,e5⟩:=h'.2 _ (yP.2 rfl);have en:name=[101,114,114,111,114]:=(wR e1).symm;subst en;obtain rfl:=wR ((show (Tryz.prog.cutTypes.find? (·.1== "internal/reflectlite.rtype")).map (·.2)=some 263 by kernel_rfl).symm.trans e2);have hm:ty∈(List.range Tryz.prog.types.size).filter fun t=>Tryz.prog.rowNamed t [101,114,114,111,114]:=yG.2 ⟨yS.2 e3,e4⟩;rw[o13] at hm;obtain rfl:=yP.1 hm;have hh:typeHandle Tryz.prog 146= .pointer (some ⟨2,146,none⟩):=by kernel_rfl
 rw[hh] at e5;refine⟨fun b hb=>hb,fun g e he=>?_⟩;unfold Gw at he;split at he
 ·rename_i hg;subst hg;cases he;exact ha_ e5 fun F nm=>.rawp _ _ _
 split at he
 ·rename_i hg;subst hg;cases he;obtain⟨g,t,cs,fuel,p,hg,ht,hcell,hwv,hd⟩:=la14 0 h rfl;obtain rfl:=wR ((show Tryz.prog.globalNamed "proctor/schema.words" =some 1 by kernel_rfl).symm.trans hg);obtain rfl:=wR ((show (Tryz.prog.globals[1]?).map (·.type)=some 326 by kernel_rfl).symm.trans ht);exact sl14 (l:=w11) (e:=9) (by decide) (by kernel_rfl) (by kernel_rfl) (by kernel_rfl) (by kernel_rfl) hcell hwv hd
 cases he
theorem door_met (os:Os) (args:Array Value):laidMetH Tryz.prog laidL ((World.doorLaid Tryz.prog 400 os).forCall (fun _ _ =>0) ⟨#[],args,[]⟩).memory:=
 laidMetH_of_parts3 (fuel:=8) (laidMet_of_run' 8 (by kernel_rfl) (by kernel_rfl)) (by kernel_rfl) (by kernel_rfl)
theorem walk {c0:List AV} {v0:Value} {w:World} (hg:Ab.Good w (oldF w) Gw) (h0:∃x:QeaT,.agg c0=qeaV x) (r0:Rd w (oldF w) n10 (.agg c0) v0):
  Calls Tryz.prog 3 #[v0] w fun e w'=>e= .returned (.bool true)∧Below w.heap.size w w':=by
 obtain⟨x0,e0⟩:=h0;rw[e0] at r0;exact ((Tp_ (G:=Gw) rfl x0):P_ _ Gw _ _ _).calls_trueG hg (ac17 r0 an11)
set_option maxRecDepth 100000 in
theorem lifted (os:Os) (started:os.Started) (H:Type) (enc:TypeId×Value→H):
  ReturnsInHanded {} Tryz.checked os 3 .any (fun w args=>(Rows.trimTellsSpec.pre enc Tryz.prog Tryz.f3 [] false w args∧laidMetH Tryz.prog laidL w)∧sizedMet enc Tryz.prog Tryz.f3 (OpenSpec.ofChange Rows.trimTellsSpec) false w args)
   (Rows.trimTellsSpec.post enc Tryz.prog Tryz.f3 false true false false):=by
 refine returnsInHanded_of_change_and (C:=Tryz.checked) (X:=fun w _ =>laidMetH Tryz.prog laidL w) (fun _ _ _ hh h=>h.of_heap hh) own started (by kernel_rfl) Tryz.func3
  (ChangeSpec.witness_shaped (enc:=enc) (C:=Tryz.checked) (os:=os) (X:=fun w _ =>laidMetH Tryz.prog laidL w) false (World.doorLaid Tryz.prog 400 os) #[.agg #[.string ⟨#[]⟩,.slice none 0 0,.slice none 0 0,.slice none 0 0,.slice none 0 0,.int .i64 0,.slice none 0 0,.slice none 0 0,.slice none 0 0]] 8 rfl (World.shaped_of_RefB (by kernel_rfl) (by kernel_rfl)) (by kernel_rfl) (by kernel_rfl) (by kernel_rfl) (door_met os _)) ?_
 intro W base args ds gs before hval0 hW _ _ hL _;have hval:∀(j:Nat) t v,Tryz.f3.params[j]? =some t→args[j]? =some v→Value.okWide Tryz.prog W .any base t v:=hval0;have hW':=hW;obtain⟨p,q,hA0,hV,rfl,hfz,hnd⟩:=hW;have hA:DataW.TrodAll enc Tryz.prog W 0 (fun _ =>true) true Tryz.f3.params.toList args.toList ds p:=hA0;have hparams:Tryz.f3.params.toList=[30]:=by kernel_rfl
 have hAll:=hA;rw[hparams] at hA;obtain⟨v0,vs0,d0,ds0,p0,q0,hargs,rfl,rfl,h0,r0⟩:=trodAll_cons hA;obtain⟨rfl,rfl,rfl⟩:=trodAll_nil r0;obtain rfl:args=#[v0]:=by cases args;simp_all
 obtain⟨rfl,rfl⟩:=trodVars_none hV;obtain⟨us0,rfl,_⟩:=okWide_struct (fs:=(Tryz.prog.fieldsOf 30)) (by kernel_rfl) (hval 0 30 v0 (by kernel_rfl) rfl);obtain⟨a0,g0,k0⟩:=oa10 rQea rfl h0;have hlt:=hW'.lt;refine (walk (good_laid hL) g0 k0).mono fun e W' ⟨he,hb⟩=>?_;subst he;refine⟨_,rfl,Ab.post_of_below (pa:=(p0++[])) (pv:=[]) hW' (fun _ _ _ =>?_) (fun sp hs=>?_) (fun _ _ =>rfl) rfl hb (ok_one (by kernel_rfl) rfl (okWide_bool_mk (t:=4) (by kernel_rfl) _))⟩
 ·exact trodAll_cons_mk (shut_bool (t:=4) (by kernel_rfl) _) trodAll_mk0
 ·refine as21 laidOut hb ?_ hAll (fun x hx=>hlt x (by simpa using hx)) sp (fun x hx=>hs x (by simpa using hx));rw[hparams]
  kernel_rfl
theorem fact0:mapsRowed Tryz.prog=true:=by kernel_rfl
theorem fact1:(Rows.trimTellsRow.inPlace==Tryz.prog.inPlace 3)=true:=by kernel_rfl
theorem fact2:(Rows.trimTellsRow.unfollowed==Tryz.prog.unfollowed 3)=true:=by kernel_rfl
theorem fact3:(Rows.trimTellsRow.recurses==Tryz.prog.recurses 3)=true:=by kernel_rfl
theorem fact4:(Rows.trimTellsRow.named==Tryz.prog.varsNamed 3)=true:=by kernel_rfl
theorem fact5:(Rows.trimTellsRow.plainKeys==Tryz.prog.plainKeys)=true:=by kernel_rfl
theorem fact6:Tryz.prog.stopsHeard=true:=by kernel_rfl
theorem fact7:Tryz.prog.mayEnter=true:=by kernel_rfl
theorem fact8:(Rows.trimTellsRow.lifted==Tryz.prog.liftsFinal)=true:=by kernel_rfl
theorem fact9:(Tryz.prog.make==some Rows.trimTellsRow.make)=true:=by kernel_rfl
theorem facts:joinedFacts Tryz.prog 3 Tryz.f3 Rows.trimTellsSpec Rows.trimTellsRow=true:=by
 unfold joinedFacts;rw[fact0,fact1,fact2,fact3,fact4,fact5,fact6,fact7,fact8,fact9]
 kernel_rfl
theorem over:Rows.TrimTellsSaid:=
 OpenClaim.holds_of_wide 3 Tryz.f3 rfl rfl rfl rfl rfl rfl rfl ⟨rfl,rfl,rfl,rfl,rfl⟩ rfl rfl rfl rfl rfl (by kernel_rfl) Tryz.func3 facts
  (of_decide_eq_true (by kernel_rfl)) (by unfold Func.isWrapper;first | (rw[zG (by decide+kernel)];kernel_rfl) | (rw[zF (by decide+kernel)];exact⟨rfl,rfl⟩))
  (fun os started H enc _ =>lifted os started H enc)
theorem proved:Rows.TrimTellsCardSaid:=
 Claim7.holds_tied_plain_at .later [] [.handle,.widerDeep] true (true, "5af98bfd24aa1b2878c26f70b67508f683e2f9b32f77e4b4299e7ceac917ba3c") true
  over (fun _ h=>by cases h) (by kernel_rfl) (fun _ h=>by cases h) trimTells_row_tie rfl ⟨rfl,rfl⟩ (by kernel_rfl) rfl
  (fun f fn hf hfn=>by
   obtain rfl:f=3:=wR ((show Tryz.prog.funcNamed "proctor/proctorlaw41.TrimTells" =some 3 by kernel_rfl).symm.trans hf) |>.symm;obtain rfl:fn=Tryz.f3:=(wR (Tryz.func3.symm.trans hfn)).symm;exact⟨by kernel_rfl,fun j t ht=>by
    have hall:(Tryz.f3.params.toList.all fun u=>!Tryz.prog.wantsStandIn u)=true:=by kernel_rfl
    have hm:t∈Tryz.f3.params.toList:=Array.mem_toList_iff.2 (Array.mem_of_getElem? ht);exact (show Tryz.prog.wantsStandIn t=false by simpa using List.all_eq_true.1 hall t hm)⟩)
  (by kernel_rfl)
#print axioms proved
end Go.Proofs.YtkadalpaeglmnaaGreatDoor.trimTells
