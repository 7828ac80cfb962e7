/-
  It is proved that proctorlaw41.TrimHolds returns true for every automaton and all events and turns nothing that was there, where the listed variables hold what the program's text lays in them; and the card that ties this (Rows.TrimHoldsCardSaid).
-/
import Derived.Test.YtkgcnoghjibiaaaGreatDoorCards
import Derived.Test.YtkgcnoghjibiaaaGreatDoorTie
import Derived.Test.YtkgcnoghjibiaaaGreatDoorYTh8
set_option linter.unusedSimpArgs false
namespace Go.Proofs.YtkgcnoghjibiaaaGreatDoor.trimHolds
open Go.ChangeShapes Go.WideShapes Go.ChangeAt Go.RowKit Go.Proofs.YtkgcnoghjibiaaaGreatDoor.Ab
theorem own:ownKnob Tryz.prog.godebug=none:=by kernel_rfl
theorem laidOut:laidOutB Tryz.prog=true:=by kernel_rfl
def laidL:List (String×DataW Unit):=[("errors.errorType",Rows.laid_errors_errorType),("proctor/schema.words",Rows.laid_proctor_schema_words)]
def p19:List (String×DataW Unit):=[("proctor/schema.words",Rows.laid_proctor_schema_words)]
def Gw (g:Nat):Option AV:=if g=0 then some (.iface 296 (.agg [.rawp 2 158])) else if g=1 then some (.agg (w11.map AV.str)) else none
theorem o15:((List.range Tryz.prog.types.size).filter λt=>Tryz.prog.rowNamed t [101,114,114,111,114])=[158]:=by kernel_rfl
set_option maxRecDepth 100000 in
theorem good_laid {W:World} (h0:laidMetH Tryz.prog laidL W):Ab.Good W (oldF W) Gw:=by
 have h':laidMet Tryz.prog p19 W∧handlesMet Tryz.prog [("errors.errorType",Rows.laid_errors_errorType)] W:=h0;have h:=h'.1;obtain⟨name,u,ty,e1,e2,e3,e4,e5⟩:=h'.2 _ (yZ.2 rfl);have en:name=[101,114,114,111,114]:=(wL e1).symm;subst en;obtain rfl:=wL ((show (Tryz.prog.cutTypes.find? (·.1== "internal/reflectlite.rtype")).map (·.2)=some 296 by kernel_rfl).symm.trans e2);have hm:ty∈(List.range Tryz.prog.types.size).filter λt=>Tryz.prog.rowNamed t [101,114,114,111,114]:=yP.2 ⟨xF.2 e3,e4⟩;rw[o15] at hm;obtain rfl:=yZ.1 hm;have hh:typeHandle Tryz.prog 158= .pointer (some ⟨2,158,none⟩):=by kernel_rfl
 rw[hh] at e5;refine⟨λb hb=>hb,λg e he=>?_⟩;unfold Gw at he;split at he
 .rename_i hg;subst hg;cases he;exact ha11 e5 λF nm=>.rawp _ _ _
 split at he
 .rename_i hg;subst hg;cases he;obtain⟨g,t,cs,fuel,p,hg,ht,hcell,hwv,hd⟩:=la14 0 h rfl;obtain rfl:=wL ((show Tryz.prog.globalNamed "proctor/schema.words" =some 1 by kernel_rfl).symm.trans hg);obtain rfl:=wL ((show (Tryz.prog.globals[1]?).map (·.type)=some 371 by kernel_rfl).symm.trans ht);exact sl14 (l:=w11) (e:=9) (by decide) (by kernel_rfl) (by kernel_rfl) (by kernel_rfl) (by kernel_rfl) hcell hwv hd
 cases he
theorem door_met (os:Os) (args:Array Value):laidMetH Tryz.prog laidL ((World.doorLaid Tryz.prog 400 os).forCall (λ_ _ =>0) ⟨#[],args,[]⟩).memory:=
 laidMetH_of_parts3 (fuel:=8) (laidMet_of_run' 8 (by kernel_rfl) (by kernel_rfl)) (by kernel_rfl) (by kernel_rfl)
theorem walk {c0:List AV} {c1:AV} {v0 v1:Value} {w:World} (hg:Ab.Good w (oldF w) Gw) (h0:∃x:{q:QeaT // QL64 q},.agg c0=qeaV x.1) (h1:∃x:{l:List EvT // ∀e∈l,∀v∈e.args,i64 v.int},[c1]=[e_ x.1]) (r0:Rd w (oldF w) n10 (.agg c0) v0) (r1:Rd w (oldF w) n10 (c1) v1):
  Calls Tryz.prog 3 #[v0,v1] w λe w'=>e= .returned (.bool true)∧Below w.heap.size w w':=by
 obtain⟨x0,e0⟩:=h0;rw[e0] at r0;obtain⟨x1,e1⟩:=h1;cases e1;exact ((Tp_ (G:=Gw) rfl x0.1 x0.2.nodes x0.2.frees x1.1 x1.2):P_ _ Gw _ _ _).calls_trueG hg (ac14 r0 (ac14 r1 an11))
set_option maxRecDepth 100000 in
theorem lifted (os:Os) (started:os.Started) (H:Type) (enc:TypeId×Value->H):
  ReturnsInHanded {} Tryz.checked os 3 .any (λw args=>(Rows.trimHoldsSpec.pre enc Tryz.prog Tryz.f3 [] false w args∧laidMetH Tryz.prog laidL w)∧sizedMet enc Tryz.prog Tryz.f3 (OpenSpec.ofChange Rows.trimHoldsSpec) false w args)
   (Rows.trimHoldsSpec.post enc Tryz.prog Tryz.f3 false true false false):=by
 refine returnsInHanded_of_change_and (C:=Tryz.checked) (X:=λw _ =>laidMetH Tryz.prog laidL w) (λ_ _ _ hh h=>h.of_heap hh) own started (by kernel_rfl) Tryz.func3
  (ChangeSpec.witness_shaped (enc:=enc) (C:=Tryz.checked) (os:=os) (X:=λw _ =>laidMetH Tryz.prog laidL w) false (World.doorLaid Tryz.prog 400 os) #[.agg #[.string ⟨#[]⟩,.slice none 0 0,.slice none 0 0,.slice none 0 0,.slice none 0 0,.int .i64 0,.slice none 0 0,.slice none 0 0,.slice none 0 0],.slice none 0 0] 8 rfl (World.shaped_of_RefB (by kernel_rfl) (by kernel_rfl)) (by kernel_rfl) (by kernel_rfl) (by kernel_rfl) (door_met os _)) ?_
 intro W base args ds gs before hval0 hW _ _ hL _;have hval:∀(j:Nat) t v,Tryz.f3.params[j]?=some t->args[j]?=some v->Value.okWide Tryz.prog W .any base t v:=hval0;have hW':=hW;obtain⟨p,q,hA0,hV,rfl,hfz,hnd⟩:=hW;have hA:DataW.TrodAll enc Tryz.prog W 0 (λ_ =>true) true Tryz.f3.params.toList args.toList ds p:=hA0;have hparams:Tryz.f3.params.toList=[30,31]:=by kernel_rfl
 have hAll:=hA;rw[hparams] at hA;obtain⟨v0,vs0,d0,ds0,p0,q0,hargs,rfl,rfl,h0,r0⟩:=trodAll_cons hA;obtain⟨v1,vs1,d1,ds1,p1,q1,rfl,rfl,rfl,h1,r1⟩:=trodAll_cons r0;obtain⟨rfl,rfl,rfl⟩:=trodAll_nil r1;obtain rfl:args=#[v0,v1]:=by cases args;simp_all
 obtain⟨rfl,rfl⟩:=trodVars_none hV;obtain⟨us0,rfl,_⟩:=okWide_struct (fs:=(Tryz.prog.fieldsOf 30)) (by kernel_rfl) (hval 0 30 v0 (by kernel_rfl) rfl);obtain⟨a0,g0,k0⟩:=oa10 r35 rfl h0;obtain⟨s1,n1,c1,rfl⟩:=okWide_slice (e:=45) (by kernel_rfl) (hval 1 31 v1 (by kernel_rfl) rfl);obtain⟨a1,g1,k1⟩:=ol11 r27 rfl h1;have hlt:=hW'.lt;refine (walk (good_laid hL) g0 g1 k0 k1).mono λe W' ⟨he,hb⟩=>?_;subst he;refine⟨_,rfl,Ab.post_of_below (pa:=(p0++(p1++[]))) (pv:=[]) hW' (λ_ _ _ =>?_) (λsp hs=>?_) (λ_ _ =>rfl) rfl hb (ok_one (by kernel_rfl) rfl (okWide_bool_mk (t:=4) (by kernel_rfl) _))⟩
 .exact trodAll_cons_mk (shut_bool (t:=4) (by kernel_rfl) _) trodAll_mk0
 .refine as23 laidOut hb ?_ hAll (λx hx=>hlt x (by simpa using hx)) sp (λx hx=>hs x (by simpa using hx));rw[hparams]
  kernel_rfl
theorem fact0:mapsRowed Tryz.prog=true:=by kernel_rfl
theorem fact1:(Rows.trimHoldsRow.inPlace==Tryz.prog.inPlace 3)=true:=by kernel_rfl
theorem fact2:(Rows.trimHoldsRow.unfollowed==Tryz.prog.unfollowed 3)=true:=by kernel_rfl
theorem fact3:(Rows.trimHoldsRow.recurses==Tryz.prog.recurses 3)=true:=by kernel_rfl
theorem fact4:(Rows.trimHoldsRow.named==Tryz.prog.varsNamed 3)=true:=by kernel_rfl
theorem fact5:(Rows.trimHoldsRow.plainKeys==Tryz.prog.plainKeys)=true:=by kernel_rfl
theorem fact6:Tryz.prog.stopsHeard=true:=by kernel_rfl
theorem fact7:Tryz.prog.mayEnter=true:=by kernel_rfl
theorem fact8:(Rows.trimHoldsRow.lifted==Tryz.prog.liftsFinal)=true:=by kernel_rfl
theorem fact9:(Tryz.prog.make==some Rows.trimHoldsRow.make)=true:=by kernel_rfl
theorem facts:joinedFacts Tryz.prog 3 Tryz.f3 Rows.trimHoldsSpec Rows.trimHoldsRow=true:=by
 unfold joinedFacts;rw[fact0,fact1,fact2,fact3,fact4,fact5,fact6,fact7,fact8,fact9]
 kernel_rfl
theorem over:Rows.TrimHoldsSaid:=
 OpenClaim.holds_of_wide 3 Tryz.f3 rfl rfl rfl rfl rfl rfl rfl ⟨rfl,rfl,rfl,rfl,rfl⟩ rfl rfl rfl rfl rfl (by kernel_rfl) Tryz.func3 facts
  (of_decide_eq_true (by kernel_rfl)) (by unfold Func.isWrapper;first | (rw[zY (by decide+kernel)];kernel_rfl) | (rw[zK (by decide+kernel)];exact⟨rfl,rfl⟩))
  (λos started H enc _ =>lifted os started H enc)
theorem proved:Rows.TrimHoldsCardSaid:=
 Claim7.holds_tied_plain_at .later [] [.handle,.widerDeep] true (true, "edb684d5cdd10aa7a14e6a2732b1632bd11940de2c75576ddb84b2882b6e5b42") true
  over (λ_ h=>by cases h) (by kernel_rfl) (λ_ h=>by cases h) trimHolds_row_tie rfl ⟨rfl,rfl⟩ (by kernel_rfl) rfl
  (λf fn hf hfn=>by
   obtain rfl:f=3:=wL ((show Tryz.prog.funcNamed "proctor/proctorlaw41.TrimHolds" =some 3 by kernel_rfl).symm.trans hf) |>.symm;obtain rfl:fn=Tryz.f3:=(wL (Tryz.func3.symm.trans hfn)).symm;exact⟨by kernel_rfl,λj t ht=>by
    have hall:(Tryz.f3.params.toList.all λu=>!Tryz.prog.wantsStandIn u)=true:=by kernel_rfl
    have hm:t∈Tryz.f3.params.toList:=Array.mem_toList_iff.2 (Array.mem_of_getElem? ht);exact (show Tryz.prog.wantsStandIn t=false by simpa using List.all_eq_true.1 hall t hm)⟩)
  (by kernel_rfl)
#print axioms proved
end Go.Proofs.YtkgcnoghjibiaaaGreatDoor.trimHolds
