/-
  It is proved that proctorlaw38.SaveGets returns true for all bytes and turns nothing that was there, where the listed variables hold what the program's text lays in them; and the card that ties this (Rows.SaveGetsCardSaid).
-/
import Derived.Test.YtkejmcgngblfnaaGreatDoorCards
import Derived.Test.YtkejmcgngblfnaaGreatDoorTie
import Derived.Test.YtkejmcgngblfnaaGreatDoorYSr6
import Derived.LaidMore
namespace Go.Proofs.YtkejmcgngblfnaaGreatDoor.saveGets
open Go.ChangeShapes Go.WideShapes Go.ChangeAt Go.RowKit Go.Proofs.YtkejmcgngblfnaaGreatDoor.Ab
theorem own:ownKnob Tryz.prog.godebug=none:=by kernel_rfl
theorem laidOut:laidOutB Tryz.prog=true:=by kernel_rfl
def laidL:List (String×DataW Unit):=[("proctor/schema.words",Rows.laid_proctor_schema_words),("proctor/save.errShort",Rows.laid_proctor_save_errShort)]
set_option maxRecDepth 100000 in
theorem good_laid {W:World} (h:laidMetH Tryz.prog laidL W):∃e,Ab.Good W (oldF W) (Gs e):=by
 rw[MakeChecks.laidMetH_plain _ _ _ (by kernel_rfl)] at h
 obtain⟨a,s,hv,hc,_⟩:=laid_sentinel (ms:=(match Tryz.prog.underlying 87 with | some (.interface m)=>m | _ =>#[])) (ti:=87) (tp:=tP) (te:=431) (ts:=9) (f:=(Tryz.prog.fieldsOf 431)[0]!) (laidMet.tail h) (show Tryz.prog.globalNamed "proctor/save.errShort" =some 0 by kernel_rfl) (by kernel_rfl) (by kernel_rfl) e13 (by kernel_rfl) (by kernel_rfl) (by kernel_rfl) (by kernel_rfl) (by kernel_rfl) (by kernel_rfl) (by kernel_rfl)
 refine⟨(a.block,a.off),fun b hb=>hb,fun g e he=>?_⟩
 unfold Gs at he
 split at he
 ·rename_i hg;subst hg;cases he
  exact ea10 hv (sn10 hc)
 split at he
 ·rename_i hg;subst hg;cases he
  obtain⟨g,t,cs,fuel,p,hg,ht,hcell,hwv,hd⟩:=la12 0 h rfl
  obtain rfl:=Option.some.inj ((show Tryz.prog.globalNamed "proctor/schema.words" =some 1 by kernel_rfl).symm.trans hg)
  obtain rfl:=Option.some.inj ((show (Tryz.prog.globals[1]?).map (·.type)=some 362 by kernel_rfl).symm.trans ht)
  exact sl11 (l:=w10) (e:=9) (by decide) (by kernel_rfl) (by kernel_rfl) (by kernel_rfl) (by kernel_rfl) hcell hwv hd
 cases he
theorem door_met (os:Os) (args:Array Value):laidMetH Tryz.prog laidL ((World.doorLaid Tryz.prog 400 os).forCall (fun _ _ =>0) ⟨#[],args,[]⟩).memory:=
 laidMetH_of_parts3 (fuel:=8) (laidMet_of_run' 8 (by kernel_rfl) (by kernel_rfl)) (by kernel_rfl) (by kernel_rfl)
theorem walk {c0:AV} {v0:Value} {w:World} {e:Nat×Nat} (hg:Ab.Good w (oldF w) (Gs e)) (h0:∃x:Str,[c0]=[b_ x]) (r0:Rd w (oldF w) n_ (c0) v0):
  Calls Tryz.prog 4 #[v0] w fun e w'=>e= .returned (.bool true)∧Below w.heap.size w w':=by
 obtain⟨x0,e0⟩:=h0
 cases e0
 exact ((Sp_ e x0):P_ _ (Gs e) _ _ _).calls_trueG hg (ac13 r0 an11)
set_option maxRecDepth 100000 in
theorem lifted (os:Os) (started:os.Started) (H:Type) (enc:TypeId×Value→H):
  ReturnsInHanded {} Tryz.checked os 4 .any (fun w args=>(Rows.saveGetsSpec.pre enc Tryz.prog Tryz.f4 [] false w args∧laidMetH Tryz.prog laidL w)∧sizedMet enc Tryz.prog Tryz.f4 (OpenSpec.ofChange Rows.saveGetsSpec) false w args)
   (Rows.saveGetsSpec.post enc Tryz.prog Tryz.f4 false true false false):=by
 refine returnsInHanded_of_change_and (C:=Tryz.checked) (X:=fun w _ =>laidMetH Tryz.prog laidL w) (fun _ _ _ hh h=>h.of_heap hh) own started (by kernel_rfl) Tryz.func4
  (ChangeSpec.witness_shaped (enc:=enc) (C:=Tryz.checked) (os:=os) (X:=fun w _ =>laidMetH Tryz.prog laidL w) false (World.doorLaid Tryz.prog 400 os) #[.slice none 0 0] 8 rfl (World.shaped_of_RefB (by kernel_rfl) (by kernel_rfl)) (by kernel_rfl) (by kernel_rfl) (by kernel_rfl) (door_met os _)) ?_
 intro W base args ds gs before hval0 hW _ _ hL _
 have hval:∀(j:Nat) t v,Tryz.f4.params[j]? =some t→args[j]? =some v→Value.okWide Tryz.prog W .any base t v:=hval0
 have hW':=hW
 obtain⟨p,q,hA0,hV,rfl,hfz,hnd⟩:=hW
 have hA:DataW.TrodAll enc Tryz.prog W 0 (fun _ =>true) true Tryz.f4.params.toList args.toList ds p:=hA0
 have hparams:Tryz.f4.params.toList=[29]:=by kernel_rfl
 have hAll:=hA
 rw[hparams] at hA
 obtain⟨v0,vs0,d0,ds0,p0,q0,hargs,rfl,rfl,h0,r0⟩:=trodAll_cons hA
 obtain⟨rfl,rfl,rfl⟩:=trodAll_nil r0
 obtain rfl:args=#[v0]:=by cases args;simp_all
 obtain⟨rfl,rfl⟩:=trodVars_none hV
 obtain⟨s0,n0,c0,rfl⟩:=okWide_slice (e:=5) (by kernel_rfl) (hval 0 29 v0 (by kernel_rfl) rfl)
 obtain⟨a0,g0,k0⟩:=ol_ r18 rfl h0
 have hlt:=hW'.lt
 obtain⟨e0,hgood⟩:=good_laid hL
 refine (walk hgood g0 k0).mono fun e W' ⟨he,hb⟩=>?_
 subst he
 refine⟨_,rfl,Ab.post_of_below (pa:=(p0++[])) (pv:=[]) hW' (fun _ _ _ =>?_) (fun sp hs=>?_) (fun _ _ =>rfl) rfl hb (ok_one (by kernel_rfl) rfl (okWide_bool_mk (t:=4) (by kernel_rfl) _))⟩
 ·exact trodAll_cons_mk (shut_bool (t:=4) (by kernel_rfl) _) trodAll_mk0
 ·refine as20 laidOut hb ?_ hAll (fun x hx=>hlt x (by simpa using hx)) sp (fun x hx=>hs x (by simpa using hx))
  rw[hparams]
  kernel_rfl
theorem fact0:mapsRowed Tryz.prog=true:=by kernel_rfl
theorem fact1:(Rows.saveGetsRow.inPlace==Tryz.prog.inPlace 4)=true:=by kernel_rfl
theorem fact2:(Rows.saveGetsRow.unfollowed==Tryz.prog.unfollowed 4)=true:=by kernel_rfl
theorem fact3:(Rows.saveGetsRow.recurses==Tryz.prog.recurses 4)=true:=by kernel_rfl
theorem fact4:(Rows.saveGetsRow.named==Tryz.prog.varsNamed 4)=true:=by kernel_rfl
theorem fact5:(Rows.saveGetsRow.plainKeys==Tryz.prog.plainKeys)=true:=by kernel_rfl
theorem fact6:Tryz.prog.stopsHeard=true:=by kernel_rfl
theorem fact7:Tryz.prog.mayEnter=true:=by kernel_rfl
theorem fact8:(Rows.saveGetsRow.lifted==Tryz.prog.liftsFinal)=true:=by kernel_rfl
theorem fact9:(Tryz.prog.make==some Rows.saveGetsRow.make)=true:=by kernel_rfl
theorem facts:joinedFacts Tryz.prog 4 Tryz.f4 Rows.saveGetsSpec Rows.saveGetsRow=true:=by
 unfold joinedFacts
 rw[fact0,fact1,fact2,fact3,fact4,fact5,fact6,fact7,fact8,fact9]
 kernel_rfl
theorem over:Rows.SaveGetsSaid:=
 OpenClaim.holds_of_wide 4 Tryz.f4 rfl rfl rfl rfl rfl rfl rfl ⟨rfl,rfl,rfl,rfl,rfl⟩ rfl rfl rfl rfl rfl (by kernel_rfl) Tryz.func4 facts
  (of_decide_eq_true (by kernel_rfl)) (by unfold Func.isWrapper;first | (rw[if_pos (by decide+kernel)];kernel_rfl) | (rw[if_neg (by decide+kernel)];exact⟨rfl,rfl⟩))
  (fun os started H enc _ =>lifted os started H enc)
theorem proved:Rows.SaveGetsCardSaid:=
 Claim7.holds_tied_plain_at .later [] [.widerDeep,.sentinel] true (true, "bc98e199c8c4df022172bece466c7a9e264492abfc89e69410d2376eb36253de") true
  over (fun _ h=>by cases h) (by kernel_rfl) (fun _ h=>by cases h) saveGets_row_tie rfl ⟨rfl,rfl⟩ (by kernel_rfl) rfl
  (fun f fn hf hfn=>by
   obtain rfl:f=4:=Option.some.inj ((show Tryz.prog.funcNamed "proctor/proctorlaw38.SaveGets" =some 4 by kernel_rfl).symm.trans hf) |>.symm
   obtain rfl:fn=Tryz.f4:=(Option.some.inj (Tryz.func4.symm.trans hfn)).symm
   exact⟨by kernel_rfl,fun j t ht=>by
    have hall:(Tryz.f4.params.toList.all fun u=>!Tryz.prog.wantsStandIn u)=true:=by kernel_rfl
    have hm:t∈Tryz.f4.params.toList:=Array.mem_toList_iff.2 (Array.mem_of_getElem? ht)
    exact (show Tryz.prog.wantsStandIn t=false by simpa using List.all_eq_true.1 hall t hm)⟩)
  (by kernel_rfl)
#print axioms proved
end Go.Proofs.YtkejmcgngblfnaaGreatDoor.saveGets
