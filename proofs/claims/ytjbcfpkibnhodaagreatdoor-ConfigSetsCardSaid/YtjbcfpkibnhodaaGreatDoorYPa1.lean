/-
  A row of the call's own, read as a variable, and back. DERIVED: THE SHELF's CONTRACTS AT THIS DUMP, IN PLAIN WORDS (tools/lay-plain.mjs out of 'TryzShelfS.lean', which tools/lay-shelf.mjs wrote): THE SAME DECLARATIONS UNDER THE SAME NAMES: 'import', 'namespace', 'open', 'def', 'theorem' AND NOTHING ELSE: no command of the shelf's: FOR A HAND-IN. Each laying: the table of numbers ('.._ren') and one theorem, a field a fact of the dump's own or the kernel's comparison; each contract: ONE APPLICATION. config.Of. proctorref04.Key: a value's key. No claim is proved here.
-/
import Derived.Test.YtjbcfpkibnhodaaGreatDoorYAcR1
import Derived.Shelf.SlLaysF0
import Derived.Shelf.SlGeneric
import Derived.Test.YtjbcfpkibnhodaaGreatDoorProg
import Derived.Test.YtjbcfpkibnhodaaGreatDoorYC5
import Derived.Test.YtjbcfpkibnhodaaGreatDoorYOd2
import Derived.Test.YtjbcfpkibnhodaaGreatDoorYSoK
import Derived.Test.YtjbcfpkibnhodaaGreatDoorYC4
namespace Go.Proofs.YtjbcfpkibnhodaaGreatDoor.Ab
open Go Go.RowKit
mutual
theorem ren_clean (I : List (Nat × Nat)) : ∀ (c : AV), clean c = true → renO I c = some c
  | .arr .., h => by simp [clean] at h
  | .ref .., h => by simp [clean] at h
  | .mapv _, h => by simp [clean] at h
  | .agg cs, h => by simp only [clean] at h; simp only [renO, ren_cleanL I cs h, Option.map_some]
  | .tup cs, h => by simp only [clean] at h; simp only [renO, ren_cleanL I cs h, Option.map_some]
  | .fn f cs, h => by simp only [clean] at h; simp only [renO, ren_cleanL I cs h, Option.map_some]
  | .iface t v, h => by simp only [clean] at h; simp only [renO, ren_clean I v h, Option.map_some]
  | .int .., _ => rfl
  | .bool _, _ => rfl
  | .str _, _ => rfl
  | .seq .., _ => rfl
  | .nilp, _ => rfl
  | .nilm, _ => rfl
  | .nilfn, _ => rfl
  | .top, _ => rfl
  | .nils, _ => rfl
  | .eptr .., _ => rfl
  | .nili, _ => rfl
  | .undef, _ => rfl
  | .rawp .., _ => rfl
theorem ren_cleanL (I : List (Nat × Nat)) : ∀ (cs : List AV), clean.go cs = true → renO.go I cs = some cs
  | [], _ => rfl
  | c :: cs, h => by
    simp only [clean.go, Bool.and_eq_true] at h
    simp only [renO.go, ren_clean I c h.1, ren_cleanL I cs h.2]
end
theorem clean_goL {cs : List AV} (h : ∀ e ∈ cs, clean e = true) : clean.go cs = true := by
  induction cs with
  | nil => rfl
  | cons c cs ih => simp only [clean.go, Bool.and_eq_true]; exact ⟨h c (by simp), ih fun e he => h e (by simp [he])⟩
theorem take_var {j ty sz : Nat} {es : List AV} (h : ∀ e ∈ es, clean e = true) : takeL [(1000, j)] [(1000, ⟨false, ty, sz, es⟩)] = some [(j, ⟨false, ty, sz, es⟩)] := by
  have e : renO.go [(1000, j)] es = some es := ren_cleanL _ _ (clean_goL h)
  simp [takeL, look, renB, e]
theorem give_var {j ty sz : Nat} {es : List AV} {heap : List (Nat × Box)} (h : ∀ e ∈ es, clean e = true) (hh : hget heap j = some ⟨false, ty, sz, es⟩) : GiveOK [(1000, j)] heap [(1000, ⟨false, ty, sz, es⟩)] := by
  have e : renO.go [(1000, j)] es = some es := ren_cleanL _ _ (clean_goL h)
  exact ⟨⟨j, _, rfl, by simp [renB, e], hh⟩, trivial⟩
theorem weak_var {N : Nat} {E : List (Nat × AV)} {H : List (Nat × Box)} {i ty sz : Nat} {es : List AV} (hi : hget H i = some ⟨true, ty, sz, es⟩) (h0 : es ≠ []) (hs : 0 < sz) : Weak ⟨N, E, H⟩ ⟨N, E, hset H i ⟨false, ty, sz, es⟩⟩ := by
  rintro G C a w ⟨nm, F, h⟩
  have hb : ∀ j b, hget (hset H i ⟨false, ty, sz, es⟩) j = some b → (∃ b', hget H j = some b') := fun j b hj => by
    rw [hget_hset] at hj
    split at hj
    · rename_i e; subst e; exact ⟨_, hi⟩
    · exact ⟨b, hj⟩
  refine ⟨nm, F, ⟨h.N, h.df, h.env, fun j b hj => ?_, fun j j' b c m m' hj hj' hm hm' hg => ?_, fun j b m hj hm => ?_, fun j b m hj hm => ?_, h.good, h.f0, h.fb, h.keep, fun j hj => ?_⟩⟩
  · simp only [hget_hset] at hj
    split at hj
    · rename_i e
      subst e
      cases hj
      rcases h.box i _ hi with ⟨_, h2, _⟩ | ⟨m, hm, hl⟩
      · exact absurd h2 h0
      · obtain ⟨h1, h2, h3, cs, h4, h5, h6, h7, h8, h9⟩ := hl.c hs
        refine .inr ⟨m, hm, .inl ⟨h1, h2, h3, cs, h4, h5, h6, h7, h8, fun k e j c he hc => ?_⟩⟩
        obtain ⟨u, u1, u2, u3⟩ := h9 k e j c he hc
        exact ⟨u, u1, u2, u3.any nm⟩
    · exact h.box j b hj
  · obtain ⟨b', hb'⟩ := hb j b hj
    obtain ⟨c', hc'⟩ := hb j' c hj'
    exact h.inj j j' b' c' m m' hb' hc' hm hm' hg
  · obtain ⟨b', hb'⟩ := hb j b hj
    exact h.fr j b' m hb' hm
  · obtain ⟨b', hb'⟩ := hb j b hj
    exact h.own j b' m hb' hm
  · obtain ⟨h1, h2, h3⟩ := h.vn j hj
    refine ⟨h1, h2, fun b hb => ?_⟩
    simp only [hget_hset] at hb
    split at hb
    · cases hb; rfl
    · exact h3 b hb
theorem weak_row {N : Nat} {E : List (Nat × AV)} {H : List (Nat × Box)} {i ty sz : Nat} {es : List AV} (hi : hget H i = some ⟨false, ty, sz, es⟩) (hs : 0 < sz) (hc : ∀ e ∈ es, clean e = true) (hN : i < N) : Weak ⟨N, E, H⟩ ⟨N, E, hset H i ⟨true, ty, sz, es⟩⟩ := by
  rintro G C a w ⟨nm, F, h⟩
  have hb : ∀ j b, hget (hset H i ⟨true, ty, sz, es⟩) j = some b → (∃ b', hget H j = some b') := fun j b hj => by
    rw [hget_hset] at hj
    split at hj
    · rename_i e; subst e; exact ⟨_, hi⟩
    · exact ⟨b, hj⟩
  refine ⟨nm, F, ⟨h.N, h.df, h.env, fun j b hj => ?_, fun j j' b c m m' hj hj' hm hm' hg => ?_, fun j b m hj hm => ?_, fun j b m hj hm => ?_, h.good, h.f0, h.fb, h.keep, fun j hj => ?_⟩⟩
  · simp only [hget_hset] at hj
    split at hj
    · rename_i e
      subst e
      cases hj
      rcases h.box i _ hi with ⟨_, _, h2, _⟩ | ⟨m, hm, hl⟩
      · cases h2
      · obtain ⟨h1, h2, h3, cs, h4, h5, h6, h7, h8, h9⟩ := hl.c hs
        refine .inr ⟨m, hm, .inl ⟨h1, h2, h3, cs, h4, h5, h6, h7, h8, fun k e j c he hc' => ?_⟩⟩
        obtain ⟨u, u1, u2, u3⟩ := h9 k e j c he hc'
        exact ⟨u, u1, u2, u3.clean (clean_cells (hc e (List.mem_of_getElem? he)) c (List.mem_of_getElem? hc'))⟩
    · exact h.box j b hj
  · obtain ⟨b', hb'⟩ := hb j b hj
    obtain ⟨c', hc'⟩ := hb j' c hj'
    exact h.inj j j' b' c' m m' hb' hc' hm hm' hg
  · obtain ⟨b', hb'⟩ := hb j b hj
    exact h.fr j b' m hb' hm
  · obtain ⟨b', hb'⟩ := hb j b hj
    exact h.own j b' m hb' hm
  · obtain ⟨h1, h2, h3⟩ := h.vn j hj
    refine ⟨h1, h2, fun b hb => ?_⟩
    simp only [hget_hset] at hb
    split at hb
    · rename_i e
      subst e
      exact absurd h1 (by show ¬ N ≤ i; omega)
    · exact h3 b hb
end Go.Proofs.YtjbcfpkibnhodaaGreatDoor.Ab
namespace Go.Proofs
open Go.Shelf
def Tryz.sortSl_ren : Go.Shelf.Ren := ⟨fun | 6 => 55 | 15 => 114 | 14 => 113 | 28 => 176 | 29 => 177 | 20 => 168 | 21 => 169 | 22 => 170 | 23 => 171 | 24 => 172 | 25 => 173 | 26 => 174 | 27 => 175 | 46 => 234 | 47 => 235 | 48 => 236 | 49 => 237 | 50 => 238 | 57 => 265 | n => n, fun | 22 => 31 | 24 => 43 | 25 => 109 | 3 => 3 | 39 => 45 | 0 => 0 | 53 => 40 | 55 => 57 | 4 => 4 | 46 => 229 | 45 => 228 | 50 => 140 | 5 => 5 | 9 => 9 | 66 => 294 | 70 => 298 | 76 => 337 | 77 => 138 | n => n, fun | n => n⟩
theorem Tryz.sortSl : Go.Proofs.SlLaysF0.n6 Tryz.prog Tryz.sortSl_ren := {
  mixed := by kernel_rfl
  f6 := ⟨Tryz.f55.name, by decide, Tryz.func55.trans (congrArg some (by kernel_rfl))⟩
  f14 := ⟨Tryz.f113.name, by decide, Tryz.func113.trans (congrArg some (by kernel_rfl))⟩
  f15 := Tryz.func114.trans (congrArg some (by kernel_rfl))
  f20 := ⟨Tryz.f168.name, by decide, Tryz.func168.trans (congrArg some (by kernel_rfl))⟩
  f21 := ⟨Tryz.f169.name, by decide, Tryz.func169.trans (congrArg some (by kernel_rfl))⟩
  f22 := ⟨Tryz.f170.name, by decide, Tryz.func170.trans (congrArg some (by kernel_rfl))⟩
  f23 := ⟨Tryz.f171.name, by decide, Tryz.func171.trans (congrArg some (by kernel_rfl))⟩
  f24 := ⟨Tryz.f172.name, by decide, Tryz.func172.trans (congrArg some (by kernel_rfl))⟩
  f25 := ⟨Tryz.f173.name, by decide, Tryz.func173.trans (congrArg some (by kernel_rfl))⟩
  f26 := ⟨Tryz.f174.name, by decide, Tryz.func174.trans (congrArg some (by kernel_rfl))⟩
  f27 := ⟨Tryz.f175.name, by decide, Tryz.func175.trans (congrArg some (by kernel_rfl))⟩
  f28 := Tryz.func176.trans (congrArg some (by kernel_rfl))
  f29 := Tryz.func177.trans (congrArg some (by kernel_rfl))
  f46 := ⟨Tryz.f234.name, by decide, Tryz.func234.trans (congrArg some (by kernel_rfl))⟩
  f47 := Tryz.func235.trans (congrArg some (by kernel_rfl))
  f48 := Tryz.func236.trans (congrArg some (by kernel_rfl))
  f49 := ⟨Tryz.f237.name, by decide, Tryz.func237.trans (congrArg some (by kernel_rfl))⟩
  f50 := ⟨Tryz.f238.name, by decide, Tryz.func238.trans (congrArg some (by kernel_rfl))⟩
  f57 := ⟨Tryz.f265.name, by decide, Tryz.func265.trans (congrArg some (by kernel_rfl))⟩
  t0 := Tryz.underlying0
  a0 := Tryz.isAgg0
  z0 := Tryz.sizeOf0
  v0 := Tryz.zeroValue0
  t3 := Tryz.underlying3
  a3 := Tryz.isAgg3
  z3 := Tryz.sizeOf3
  v3 := Tryz.zeroValue3
  t4 := Tryz.underlying4
  a4 := Tryz.isAgg4
  z4 := Tryz.sizeOf4
  v4 := Tryz.zeroValue4
  t5 := Tryz.underlying5
  a5 := Tryz.isAgg5
  z5 := Tryz.sizeOf5
  v5 := Tryz.zeroValue5
  t9 := Tryz.underlying9
  a9 := Tryz.isAgg9
  z9 := Tryz.sizeOf9
  v9 := Tryz.zeroValue9
  t22 := Tryz.underlying31
  a22 := Tryz.isAgg31
  z22 := Tryz.sizeOf31
  v22 := Tryz.zeroValue31
  t25 := Tryz.underlying109
  a25 := Tryz.isAgg109
  z25 := Tryz.sizeOf109
  v25 := Tryz.zeroValue109
  t39 := Tryz.underlying45
  a39 := Tryz.isAgg45
  z39 := Tryz.sizeOf45
  v39 := Tryz.zeroValue45
  t45 := Tryz.underlying228
  a45 := Tryz.isAgg228
  z45 := Tryz.sizeOf228
  v45 := Tryz.zeroValue228
  t46 := Tryz.underlying229
  a46 := Tryz.isAgg229
  z46 := Tryz.sizeOf229
  v46 := Tryz.zeroValue229
  t50 := Tryz.underlying140
  a50 := Tryz.isAgg140
  z50 := Tryz.sizeOf140
  v50 := Tryz.zeroValue140
  t53 := Tryz.underlying40
  a53 := Tryz.isAgg40
  z53 := Tryz.sizeOf40
  v53 := Tryz.zeroValue40
  t55 := Tryz.underlying57
  a55 := Tryz.isAgg57
  z55 := Tryz.sizeOf57
  v55 := Tryz.zeroValue57
  t66 := Tryz.underlying294
  a66 := Tryz.isAgg294
  z66 := Tryz.sizeOf294
  v66 := Tryz.zeroValue294
  t70 := Tryz.underlying298
  a70 := Tryz.isAgg298
  z70 := Tryz.sizeOf298
  v70 := Tryz.zeroValue298
  t76 := Tryz.underlying337
  a76 := Tryz.isAgg337
  z76 := Tryz.sizeOf337
  v76 := Tryz.zeroValue337
  t77 := Tryz.underlying138
  a77 := Tryz.isAgg138
  z77 := Tryz.sizeOf138
  v77 := Tryz.zeroValue138 }
end Go.Proofs
namespace Go.Proofs.YtjbcfpkibnhodaaGreatDoor.Ab
open Go Go.RowKit
set_option linter.unusedSimpArgs false
set_option maxHeartbeats 4000000
set_option maxRecDepth 100000
variable {G : Nat → Option AV}
def cfgCmp (a b : CfgT) : Int := if ¬ a.state = b.state then a.state - b.state else cmpL a.vals b.vals
theorem cfgCmp_lt (a b : CfgT) : decide (cfgCmp a b < 0) = cfgLess a b := by
  unfold cfgCmp cfgLess
  split
  · rw [decide_eq_decide]; omega
  · exact cmpL_lt _ _
def okSt (c : CfgT) : Prop := okCfg c ∧ c.St
theorem cfgTO2 : TO cfgLess okSt := ⟨cfgTO.irr, fun h1 h2 => cfgTO.trans h1 h2, fun ha hb => cfgTO.tot ha.1 hb.1⟩
theorem sortC_hc (l : List CfgT) (h0 : 0 < l.length) (hl : l.length ≤ 1000000) (hx : ∀ x ∈ l, okSt x) :
    HeapC Tryz.prog G n_slices_SortFunc_api_Config_api_Config [.arr 1000 0 l.length, .fn n_config_compare []] [(1000, ⟨false, t_api_Config, 2, l.map cfgV⟩)] (.tup []) [(1000, ⟨false, t_api_Config, 2, (sortO cfgLess l).map cfgV⟩)] :=
  sortK_hc (P := Tryz.prog) (ρ := Tryz.sortSl_ren) Tryz.sortSl (k := 2) (by decide) (fun w => by kernel_rfl) (fun w => by kernel_rfl) (e := cfgV) (ce := fun c => [iv c.state, .seq 4 (c.vals.map valV)]) (fun _ => rfl) (fun _ => rfl) (fun _ => rfl) cfgTO2 cfgCmp (fun x y _ _ => cfgCmp_lt x y)
    (enters_of Tryz.func56 (by kernel_rfl) rfl) (fun x y hx hy => config_compare_pc x y hx.2 hy.2) t_api_Config l h0 hl hx
theorem sortC_none : PureC Tryz.prog G n_slices_SortFunc_api_Config_api_Config [.seq 2 [], .fn n_config_compare []] (.tup []) :=
  sortK_none (P := Tryz.prog) (ρ := Tryz.sortSl_ren) Tryz.sortSl 2 n_config_compare
theorem config_Of_pc (q : QeaT) (l : List CfgT) (hl : l.length ≤ 1000000) (hfl : q.frees.length < 9223372036854775807) (hls : ∀ c ∈ l, c.vals.length ≤ 1000) (hst : ∀ c ∈ l, cfgR q c = true → okSt c) :
    PureC Tryz.prog G n_config_Of [qeaV q, cfgsV l] (cfgsV (setC (l.filter (cfgR q)))) := by
  refine pc_config_Of (Runs.of fun Φ h => ?_)
  unfold c_config_Of
  simp -implicitDefEqProofs only [go_sem, cfgsV, qeaV, declsV, quantsV, freesV, statesV, symsV, nodesV, transsV]
  refine at_loop (fun n st => ∃ (i : Nat) (m : List CfgT), i + n = l.length ∧ st = ⟨26, [(2, .ref 2 0 0), (5, .arr 5 0 m.length), (8, .seq 2 (l.map cfgV)), (9, iv l.length), (10, iv i)], [(2, ⟨false, t_api_Qea, 9, [qeaV q]⟩), (4, ⟨true, t_api_Config, 2, []⟩), (5, ⟨true, t_api_Config, 2, m.map cfgV⟩)]⟩ ∧ m = (l.take i).filter (cfgR q)) l.length ⟨0, [], by simp, by simp [List.length_map, qeaV, declsV, quantsV, freesV, statesV, symsV, nodesV, transsV]; rfl, rfl⟩ ?_
  rintro I hI n st ⟨i, m, hi, rfl, hm⟩
  have hml : m.length ≤ 1000000 := by
    have := List.length_filter_le (cfgR q) (l.take i)
    rw [hm]
    simp only [List.length_take] at this
    omega
  simp -implicitDefEqProofs only [go_sem, qeaV, declsV, quantsV, freesV, statesV, symsV, nodesV, transsV, List.length_map]
  refine ⟨fun hlt => ?_, fun hge => ?_⟩
  · have hlt' : i < l.length := by omega
    obtain ⟨c, hc, hcm⟩ := at_some hlt'
    have hw := wrap_succ hlt' (by omega)
    have hck := hls c hcm
    have h2 := config_Right_pc (G := G) q c (by omega) hfl
    have hnx := filter_succ (p := cfgR q) hc
    rw [← hm] at hnx
    generalize cfgR q c = z at *
    obtain ⟨x, vs⟩ := c
    simp only [qeaV, declsV, quantsV, freesV, statesV, symsV, nodesV, transsV, cfgV] at h2
    have hb1 : (m.length + 1) * 32 ≤ 140737488355328 := by omega
    cases z
    · rw [if_neg (by decide), List.append_nil] at hnx
      repeat' (first | (simp -implicitDefEqProofs only [go_sem, qeaV, declsV, quantsV, freesV, statesV, symsV, nodesV, transsV, aiaddr_map hc, cfgV, hw, List.length_map]) | refine at_guard (fun hb => ?_) (fun hb => ?_) | refine ⟨fun hb => ?_, fun hb => ?_⟩ | refine at_call (h2) rfl rfl ?_ | fail)
      exact at_again (n - 1) (by omega) (hI _ _ ⟨i + 1, m, by omega, rfl, hnx.symm⟩)
    · rw [if_pos rfl] at hnx
      repeat' (first | (simp -implicitDefEqProofs only [go_sem, qeaV, declsV, quantsV, freesV, statesV, symsV, nodesV, transsV, aiaddr_map hc, cfgV, hw, List.length_map, List.length_append, hb1]) | refine at_guard (fun hb => ?_) (fun hb => ?_) | refine ⟨fun hb => ?_, fun hb => ?_⟩ | refine at_call (h2) rfl rfl ?_ | fail)
      refine at_again (n - 1) (by omega) (hI _ _ ⟨i + 1, m ++ [⟨x, vs⟩], by omega, ?_, hnx.symm⟩)
      simp [cfgV]
      rfl
  · rw [List.take_of_length_le (by omega)] at hm
    have hok : ∀ x ∈ m, okSt x := fun x hx => by
      rw [hm] at hx
      obtain ⟨h1, h2⟩ := List.mem_filter.1 hx
      exact hst x h1 h2
    have hvl : ∀ x ∈ m, x.vals.length ≤ 1000 := fun x hx => hls x (by rw [hm] at hx; exact (List.mem_filter.1 hx).1)
    rw [← hm] at h
    clear hI hm hst hls I hge hi
    have hp := sortO_perm cfgLess m
    have hcl : ∀ (k : List CfgT), ∀ e ∈ k.map cfgV, clean e = true := fun k e he => by
      obtain ⟨x, _, rfl⟩ := List.mem_map.1 he
      rfl
    have hcomp := compactC_hc (G := G) (sortO cfgLess m) (by rw [hp.length_eq]; omega) (fun x hx => hvl x (hp.subset hx))
    rw [show compA (sortO cfgLess m) = setC m from rfl] at hcomp
    by_cases h0 : m = []
    · subst h0
      have hs := sortC_none (G := G)
      rw [show sortO cfgLess ([] : List CfgT) = [] from rfl] at hcomp
      rw [show setC [] = [] from rfl] at hcomp h
      simp only [List.length_nil, List.map_nil, List.replicate, Nat.sub_self, List.append_nil] at hcomp
      repeat' (first | (simp -implicitDefEqProofs only [go_sem, List.length_nil, List.map_nil]) | refine at_guard (fun hb => ?_) (fun hb => ?_) | refine ⟨fun hb => ?_, fun hb => ?_⟩ | refine at_call (hs) rfl rfl ?_ | (refine at_callH [(1000, 5)] hcomp rfl ⟨⟨_, _, rfl, rfl, rfl⟩, trivial⟩ rfl rfl rfl ?_) | fail)
      exact h _ ⟨_, _, rfl, rfl, .refl _⟩
    · have hpos : 0 < m.length := List.length_pos_iff.2 h0
      have hs := sortC_hc (G := G) m hpos (by omega) hok
      have hne : m.map cfgV ≠ [] := by simpa using h0
      rw [hp.length_eq] at hcomp
      generalize setC m = r at *
      generalize sortO cfgLess m = k at *
      repeat' (first | (simp -implicitDefEqProofs only [go_sem, List.length_map]) | refine at_guard (fun hb => ?_) (fun hb => ?_) | refine ⟨fun hb => ?_, fun hb => ?_⟩ | fail)
      refine at_weak _ (weak_var (i := 5) rfl hne (by decide)) ?_
      refine callX_heap [(1000, 5)] hs (FitL.refl _) rfl (give_var (hcl m) rfl) rfl (take_var (hcl k)) rfl ?_
      repeat' (first | (simp -implicitDefEqProofs only [go_sem, List.length_map]) | refine at_guard (fun hb => ?_) (fun hb => ?_) | refine ⟨fun hb => ?_, fun hb => ?_⟩ | fail)
      refine at_weak _ (weak_row (i := 5) rfl (by decide) (hcl k) (by decide)) ?_
      refine callX_heap [(1000, 5)] hcomp (FitL.refl _) rfl ⟨⟨_, _, rfl, rfl, rfl⟩, trivial⟩ rfl rfl rfl ?_
      repeat' (first | (simp -implicitDefEqProofs only [go_sem, List.length_map]) | refine at_guard (fun hb => ?_) (fun hb => ?_) | refine ⟨fun hb => ?_, fun hb => ?_⟩ | fail)
      refine h _ ⟨_, _, rfl, ?_, .refl _⟩
      exact view_rowP (sz := 2) (e := cfgV) (l := r) (ty := t_api_Config) (rest := List.replicate (m.length - r.length) cfgZ) (by decide) (by simp [hget])
end Go.Proofs.YtjbcfpkibnhodaaGreatDoor.Ab
namespace Go.Proofs.YtjbcfpkibnhodaaGreatDoor.Ab
open Go Go.RowKit
set_option linter.unusedSimpArgs false
set_option maxHeartbeats 4000000
set_option maxRecDepth 100000
variable {G : Nat → Option AV}
theorem u64_top {n : Int} (hn : i64 n) : IntKind.u64.wrap (IntKind.u64.wrap n + 9223372036854775808) = ((n + 9223372036854775808).toNat : Int) := by
  unfold i64 at hn
  simp [IntKind.wrap, IntKind.bits, IntKind.signed]
  omega
theorem u64_nat {m : Nat} (h : m < 18446744073709551616) : IntKind.u64.wrap (m : Int) = (m : Int) := by
  simp [IntKind.wrap, IntKind.bits, IntKind.signed]
  omega
theorem quoU {a b : Nat} (ha : a < 18446744073709551616) (hb : 0 < b) : abin .quo (.int .u64 (a : Int)) (.int .u64 (b : Int)) = some (.int .u64 ((a / b : Nat) : Int)) := by
  rw [abin_quo _ _ _ (by omega)]
  have : (a : Int).tdiv (b : Int) = ((a / b : Nat) : Int) := by
    rw [Int.tdiv_eq_ediv_of_nonneg (by omega)]
    simp
  rw [this, u64_nat (Nat.lt_of_le_of_lt (Nat.div_le_self _ _) ha)]
theorem remU (a : Nat) : abin .rem (.int .u64 (a : Int)) (.int .u64 256) = some (.int .u64 ((a % 256 : Nat) : Int)) := by
  rw [abin_rem _ _ _ (by decide)]
  have : (a : Int).tmod 256 = ((a % 256 : Nat) : Int) := by
    rw [Int.tmod_eq_emod_of_nonneg (by omega)]
    simp
  rw [this]
theorem byteU (a : Nat) : IntKind.u8.wrap ((a % 256 : Nat) : Int) = ((UInt8.ofNat a).toNat : Int) := by
  simp [IntKind.wrap, IntKind.bits, IntKind.signed]
def divU (i : Nat) : Nat := if i < 8 then 256 ^ (7 - i) else 0
theorem divU_next : ∀ i, i < 8 → divU i / 256 = divU (i + 1)
  | 0, _ => by decide
  | 1, _ => by decide
  | 2, _ => by decide
  | 3, _ => by decide
  | 4, _ => by decide
  | 5, _ => by decide
  | 6, _ => by decide
  | 7, _ => by decide
  | i + 8, h => by omega
theorem divU_lt : ∀ i, i < 8 → 0 < divU i ∧ divU i < 18446744073709551616
  | 0, _ => by decide
  | 1, _ => by decide
  | 2, _ => by decide
  | 3, _ => by decide
  | 4, _ => by decide
  | 5, _ => by decide
  | 6, _ => by decide
  | 7, _ => by decide
  | i + 8, h => by omega
theorem beB_at (U : Nat) : ∀ i, i < 8 → (beB U)[i]? = some (UInt8.ofNat (U / divU i))
  | 0, _ => rfl
  | 1, _ => rfl
  | 2, _ => rfl
  | 3, _ => rfl
  | 4, _ => rfl
  | 5, _ => rfl
  | 6, _ => rfl
  | 7, _ => by simp [beB, divU]
  | i + 8, h => by omega
theorem ref04_Key_pc (v : Val) (hok : v.ok = true) (hn : i64 v.int) (hs : v.str.length ≤ 1000) : PureC Tryz.prog G n_proctorref04_Key [valV v] (bytesV (keyOne v)) := by
  have hk := ok_kind hok
  clear hok
  obtain ⟨k, n, s, b⟩ := v
  simp only at hn hs hk
  refine pc_proctorref04_Key (Runs.of fun Φ h => ?_)
  unfold c_proctorref04_Key
  have w1 : IntKind.u8.wrap 1 = 1 := by decide
  have w2 : IntKind.u8.wrap 2 = 2 := by decide
  have w3 : IntKind.u8.wrap 3 = 3 := by decide
  rcases hk with rfl | rfl | rfl
  · have e : keyOne ⟨1, n, s, b⟩ = 1 :: keyNum n := by simp [keyOne]
    rw [e] at h
    have hU := u64_top hn
    have hUlt : (n + 9223372036854775808).toNat < 18446744073709551616 := by unfold i64 at hn; omega
    unfold keyNum at h
    generalize (n + 9223372036854775808).toNat = U at *
    repeat' (first | (simp -implicitDefEqProofs only [go_sem, valV, w1, hU]) | refine at_guard (fun hb => ?_) (fun hb => ?_) | refine ⟨fun hb => ?_, fun hb => ?_⟩ | fail)
    refine at_loop (fun n2 st => ∃ (i : Nat) (m : Str), i + n2 = 8 ∧ st = ⟨70, [(3, .arr 11 0 m.length), (5, .int .u64 (U : Int)), (6, .int .u64 (divU i : Int)), (7, iv i)], [(1, ⟨false, t_api_Value, 4, [.agg [iv 1, iv n, .str s, .bool b]]⟩), (2, ⟨true, t_uint8, 1, []⟩), (11, ⟨true, t_uint8, 1, m.map byV⟩)]⟩ ∧ m = 1 :: (beB U).take i) 8 ⟨0, [1], by simp, by rfl, rfl⟩ ?_
    rintro I hI n2 st ⟨i, m, hi, rfl, hm⟩
    have hml : m.length = i + 1 := by
      rw [hm]
      simp only [List.length_cons, List.length_take]
      have : (beB U).length = 8 := rfl
      omega
    simp -implicitDefEqProofs only [go_sem]
    refine ⟨fun hlt => ?_, fun hge => ?_⟩
    · have hlt' : i < 8 := by omega
      have hw := wrap_succ hlt' (by omega)
      obtain ⟨d1, d2⟩ := divU_lt i hlt'
      have q1 := quoU hUlt d1
      have q2 := remU (U / divU i)
      have q3 := byteU (U / divU i)
      have q4 := quoU d2 (show 0 < 256 by decide)
      have q4' : abin .quo (.int .u64 (divU i : Int)) (.int .u64 256) = some (.int .u64 (divU (i + 1) : Int)) := by rw [← divU_next i hlt']; exact q4
      have hnx := take_at (beB_at U i hlt')
      have hb1 : m.length + 1 ≤ 140737488355328 := by omega
      clear q4 d1 d2
      repeat' (first | (simp -implicitDefEqProofs only [go_sem, q1, q2, q3, q4', hw, List.length_map, List.length_append, hb1, Nat.mul_one]) | refine at_guard (fun hb => ?_) (fun hb => ?_) | refine ⟨fun hb => ?_, fun hb => ?_⟩ | fail)
      refine at_again (n2 - 1) (by omega) (hI _ _ ⟨i + 1, m ++ [UInt8.ofNat (U / divU i)], by omega, ?_, by rw [hnx, hm]; rfl⟩)
      simp [byV]
    · have hi8 : i = 8 := by omega
      subst hi8
      have hm8 : m = 1 :: beB U := hm
      clear hm hI
      subst hm8
      repeat' (first | (simp -implicitDefEqProofs only [go_sem]) | refine at_guard (fun hb => ?_) (fun hb => ?_) | refine ⟨fun hb => ?_, fun hb => ?_⟩ | fail)
      exact h _ ⟨_, _, rfl, view_bytes (ty := t_uint8) (out := 1 :: beB U) (by simp [hget]) rfl, .refl _⟩
  · have e : keyOne ⟨2, n, s, b⟩ = 2 :: keyTxt s := by simp [keyOne]
    rw [e, keyTxt_esc] at h
    repeat' (first | (simp -implicitDefEqProofs only [go_sem, valV, w2]) | refine at_guard (fun hb => ?_) (fun hb => ?_) | refine ⟨fun hb => ?_, fun hb => ?_⟩ | fail)
    refine at_loop (fun n2 st => ∃ (i : Nat) (m : Str), i + n2 = s.length ∧ st = ⟨70, [(1, .ref 1 0 0), (3, .arr 11 0 m.length), (4, iv i)], [(1, ⟨false, t_api_Value, 4, [.agg [iv 2, iv n, .str s, .bool b]]⟩), (2, ⟨true, t_uint8, 1, []⟩), (11, ⟨true, t_uint8, 1, m.map byV⟩)]⟩ ∧ m = 2 :: escT (s.take i)) s.length ⟨0, [2], by simp, by rfl, rfl⟩ ?_
    rintro I hI n2 st ⟨i, m, hi, rfl, hm⟩
    have hml : m.length ≤ 2001 := by
      have := escT_len (s.take i)
      rw [hm]
      simp only [List.length_take, List.length_cons] at this ⊢
      omega
    simp -implicitDefEqProofs only [go_sem]
    refine ⟨fun hlt => ?_, fun hge => ?_⟩
    · have hlt' : i < s.length := by omega
      obtain ⟨c, hc, _⟩ := at_some hlt'
      have hw := wrap_succ hlt' (by omega)
      have hnx : 2 :: escT (s.take (i + 1)) = m ++ (if c = 0 then [0, 255] else [c]) := by rw [take_at hc, escT_append, hm, escT, escT]; simp
      have hb1 : m.length + 1 ≤ 140737488355328 := by omega
      have hb2 : m.length + 1 + 1 ≤ 140737488355328 := by omega
      by_cases h0 : c = 0
      · subst h0
        rw [if_pos rfl] at hnx
        have e0 : (((0 : UInt8).toNat : Int) == 0) = true := rfl
        repeat' (first | (simp -implicitDefEqProofs only [go_sem, aidx_at hc, hw, e0, List.length_map, List.length_append, hb1, hb2, Nat.mul_one]) | refine at_guard (fun hb => ?_) (fun hb => ?_) | refine ⟨fun hb => ?_, fun hb => ?_⟩ | fail)
        refine at_again (n2 - 1) (by omega) (hI _ _ ⟨i + 1, m ++ [0, 255], by omega, ?_, hnx.symm⟩)
        simp [byV]
      · rw [if_neg h0] at hnx
        have e0 : ((c.toNat : Int) == 0) = false := by
          have : c.toNat ≠ 0 := fun e => h0 (UInt8.toNat_inj.1 e)
          simp; omega
        repeat' (first | (simp -implicitDefEqProofs only [go_sem, aidx_at hc, hw, e0, List.length_map, List.length_append, hb1, hb2, Nat.mul_one]) | refine at_guard (fun hb => ?_) (fun hb => ?_) | refine ⟨fun hb => ?_, fun hb => ?_⟩ | fail)
        refine at_again (n2 - 1) (by omega) (hI _ _ ⟨i + 1, m ++ [c], by omega, ?_, hnx.symm⟩)
        simp [byV]
    · rw [List.take_of_length_le (by omega)] at hm
      rw [show 2 :: (escT s ++ [0, 1]) = m ++ [0, 1] by rw [hm]; rfl] at h
      have hb1 : m.length + 2 ≤ 140737488355328 := by omega
      have hb2 : m.length + 1 + 1 ≤ 140737488355328 := by omega
      repeat' (first | (simp -implicitDefEqProofs only [go_sem, List.length_map, List.length_append, hb1, hb2, Nat.mul_one]) | refine at_guard (fun hb => ?_) (fun hb => ?_) | refine ⟨fun hb => ?_, fun hb => ?_⟩ | fail)
      exact h _ ⟨_, _, rfl, view_bytes (ty := t_uint8) (out := m ++ [0, 1]) (by simp [hget, byV]) (by simp), .refl _⟩
  · have e : keyOne ⟨3, n, s, b⟩ = [3, if b then 1 else 0] := by simp [keyOne]
    rw [e] at h
    clear e
    cases b
    · repeat' (first | (simp -implicitDefEqProofs only [go_sem, valV, w3, bytesV]) | refine at_guard (fun hb => ?_) (fun hb => ?_) | refine ⟨fun hb => ?_, fun hb => ?_⟩ | fail)
      exact h _ ⟨_, _, rfl, view_bytes (ty := t_uint8) (out := [3, 0]) (by simp [hget, byV]) (by simp), .refl _⟩
    · repeat' (first | (simp -implicitDefEqProofs only [go_sem, valV, w3, bytesV]) | refine at_guard (fun hb => ?_) (fun hb => ?_) | refine ⟨fun hb => ?_, fun hb => ?_⟩ | fail)
      exact h _ ⟨_, _, rfl, view_bytes (ty := t_uint8) (out := [3, 1]) (by simp [hget, byV]) (by simp), .refl _⟩
end Go.Proofs.YtjbcfpkibnhodaaGreatDoor.Ab
