/-
  How the arguments of the laws on configurations are read. proctorref18: sets of configurations; the law's own words. Keys of values: no two rows of values of one length have one key. key, config.Key: keys of values and of sets of configurations. No claim is proved here.
-/
import Derived.Test.YtjbcfpkibnhodaaGreatDoorYV14
import Derived.Test.YtjbcfpkibnhodaaGreatDoorYC1
import Derived.Test.YtjbcfpkibnhodaaGreatDoorYD4
namespace Go.Proofs.YtjbcfpkibnhodaaGreatDoor.Ab
open Go Go.ChangeShapes Go.WideShapes Go.RowKit
set_option linter.unusedSimpArgs false
set_option maxRecDepth 100000
theorem rCfg64 : RdT Tryz.prog 43 2 fun cs => ∃ c : CfgT, .agg cs = cfgV c ∧ ∀ v ∈ c.vals, i64 v.int :=
  (rd_struct (t := 43) (fs := (Tryz.prog.fieldsOf 43)) (by kernel_rfl) (by kernel_rfl) (rdf_cons (f := (Tryz.prog.fieldsOf 43)[0]!) (rInt (by kernel_rfl) (by kernel_rfl)) (by kernel_rfl) rfl (rdf_cons (f := (Tryz.prog.fieldsOf 43)[1]!) rVals (by kernel_rfl) rfl (rdf_nil _)))).mono (by
    rintro _ ⟨_, _, rfl, ⟨a, rfl⟩, _, _, rfl, ⟨⟨l, hl⟩, rfl⟩, rfl⟩
    exact ⟨⟨a, l⟩, rfl, hl⟩)
theorem rCfgs : RdT Tryz.prog 31 1 fun cs => ∃ l : {l : List CfgT // ∀ c ∈ l, ∀ v ∈ c.vals, i64 v.int}, cs = [cfgsV l.1] :=
  (rd_listQ (by kernel_rfl) (by kernel_rfl) rCfg64 (by decide)).mono (by
    rintro _ ⟨l, rfl, _, h⟩
    exact ⟨⟨l, h⟩, rfl⟩)
end Go.Proofs.YtjbcfpkibnhodaaGreatDoor.Ab
namespace Go.Proofs.YtjbcfpkibnhodaaGreatDoor.Ab
open Go Go.RowKit
set_option linter.unusedSimpArgs false
set_option maxHeartbeats 4000000
set_option maxRecDepth 100000
variable {G : Nat → Option AV}
theorem run_assocC {P : Program} {Φ : St → Prop} (a b c : AC) (κ : List Kt) (st : St) : run P G Φ (.seq a (.seq b c)) κ st = run P G Φ (.seq (.seq a b) c) κ st := by
  simp only [run_seq]
  unfold run
  congr 1
  funext e st'
  cases e
  · exact run_seq b c κ st'
  · rfl
  · rfl
theorem aslc_takeC {α : Type} {e : α → AV} {sz : Nat} {l : List α} {i : Nat} (hs : 0 < sz) (h : i ≤ l.length) : aslc sz (.seq sz (l.map e)) none (some (.int .i64 (i : Int))) = some (.seq sz ((l.take i).map e)) := by
  simp [aslc, hs, h, List.map_take]
theorem view_map {α : Type} {e : α → AV} {sz : Nat} {H : List (Nat × Box)} {i n : Nat} {ty : Nat} {l : List α} (h0 : 0 < sz) (hH : hget H i = some ⟨true, ty, sz, l.map e⟩) (hn : l.length = n) : view H (.arr i 0 n) = some (.seq sz (l.map e)) := by
  simp only [view, hH, List.drop_zero, List.length_map, hn]
  simp [h0, ← hn]
  exact List.take_of_length_le (by simp)
def CfgT.Sm (c : CfgT) : Prop := c.vals.length ≤ 1000 ∧ ∀ v ∈ c.vals, v.str.length < 9223372036854775807
def putAt (l : List CfgT) (c : CfgT) : Nat → Nat
  | 0 => 0
  | n + 1 => match l[n]? with
    | some x => if cfgLess c x = true then putAt l c n else n + 1
    | none => n + 1
theorem putAt_le (l : List CfgT) (c : CfgT) : ∀ n, putAt l c n ≤ n
  | 0 => Nat.le_refl _
  | n + 1 => by
    rw [putAt]
    split
    · split
      · have := putAt_le l c n; omega
      · exact Nat.le_refl _
    · exact Nat.le_refl _
def isAt (l : List CfgT) (c : CfgT) : Nat → Bool
  | 0 => false
  | n + 1 => match l[n]? with
    | some x => cfgOne x c
    | none => false
def putR (l : List CfgT) (c : CfgT) : List CfgT := if isAt l c (putAt l c l.length) = true then l else l.take (putAt l c l.length) ++ c :: l.drop (putAt l c l.length)
theorem putR_mem {l : List CfgT} {c x : CfgT} (h : x ∈ putR l c) : x ∈ l ∨ x = c := by
  unfold putR at h
  split at h
  · exact .inl h
  · simp only [List.mem_append, List.mem_cons] at h
    rcases h with h | h | h
    · exact .inl (List.mem_of_mem_take h)
    · exact .inr h
    · exact .inl (List.mem_of_mem_drop h)
theorem putR_len (l : List CfgT) (c : CfgT) : (putR l c).length ≤ l.length + 1 := by
  unfold putR
  split
  · omega
  · have := putAt_le l c l.length
    simp only [List.length_append, List.length_cons, List.length_take, List.length_drop]
    omega
theorem aslc_drop {α : Type} {e : α → AV} {sz : Nat} {l : List α} {i : Nat} (hs : 0 < sz) (h : i ≤ l.length) : aslc sz (.seq sz (l.map e)) (some (.int .i64 (i : Int))) none = some (.seq sz ((l.drop i).map e)) := by
  simp [aslc, hs, h, List.map_drop]
  rw [List.take_of_length_le (by simp)]
theorem ref18_Put_pc (l : List CfgT) (c : CfgT) (hl : l.length ≤ 1000) (hls : ∀ x ∈ l, x.Sm) (hc : c.Sm) : PureC Tryz.prog G n_proctorref18_Put [cfgsV l, cfgV c] (cfgsV (putR l c)) := by
  refine pc_proctorref18_Put (Runs.of fun Φ h => ?_)
  unfold c_proctorref18_Put
  dsimp only
  rw [run_assocC, run_assocC]
  refine at_cut (fun st => st = ⟨48, [(0, cfgsV l), (3, .ref 3 0 0), (5, iv (putAt l c l.length : Nat)), (19, .bool false)], [(3, ⟨false, t_api_Config, 2, [cfgV c]⟩), (4, ⟨true, t_api_Config, 2, []⟩)]⟩) ?_ ?_
  · simp -implicitDefEqProofs only [go_sem, cfgsV, cfgV, List.length_map]
    refine at_loop (fun n st => st = ⟨48, [(0, cfgsV l), (3, .ref 3 0 0), (5, iv n)], [(3, ⟨false, t_api_Config, 2, [cfgV c]⟩), (4, ⟨true, t_api_Config, 2, []⟩)]⟩ ∧ n ≤ l.length ∧ putAt l c n = putAt l c l.length) l.length ⟨rfl, Nat.le_refl _, rfl⟩ ?_
    rintro I hI n st ⟨rfl, hn, hp⟩
    rw [← hp]
    cases n with
    | zero =>
      have e1 : ((0 : Int) < ((0 : Nat) : Int)) = False := by simp
      repeat' (first | (simp -implicitDefEqProofs only [go_sem, e1, decide_false, cfgV, cfgsV]) | refine at_guard (fun hb => ?_) (fun hb => ?_) | refine ⟨fun hb => ?_, fun hb => ?_⟩ | fail)
      try rfl
    | succ n =>
      obtain ⟨x, hx, hxm⟩ := at_some (l := l) (i := n) (by omega)
      have e1 : ((0 : Int) < ((n + 1 : Nat) : Int)) = True := by rw [eq_iff_iff]; exact ⟨fun _ => trivial, fun _ => by omega⟩
      have hw : IntKind.wrap .i64 (((n + 1 : Nat) : Int) - 1) = (n : Int) := by rw [wrap_i64 (by omega) (by omega)]; omega
      have hls := ref18_Less_pc (G := G) c x hc.2 hc.1 (hls x hxm).1
      have hps : putAt l c (n + 1) = if cfgLess c x = true then putAt l c n else n + 1 := by rw [putAt, hx]
      generalize cfgLess c x = z at *
      obtain ⟨xs, xl⟩ := x
      simp only [cfgV] at hls
      cases z
      · rw [if_neg (by decide)] at hps
        rw [hps]
        repeat' (first | (simp -implicitDefEqProofs only [go_sem, e1, hw, aiaddr_map hx, decide_true, cfgV, cfgsV]) | refine at_guard (fun hb => ?_) (fun hb => ?_) | refine ⟨fun hb => ?_, fun hb => ?_⟩ | refine at_call (hls) rfl rfl ?_ | fail)
        try rfl
      · rw [if_pos rfl] at hps
        rw [hps] at hp
        repeat' (first | (simp -implicitDefEqProofs only [go_sem, e1, hw, aiaddr_map hx, decide_true, cfgV, cfgsV]) | refine at_guard (fun hb => ?_) (fun hb => ?_) | refine ⟨fun hb => ?_, fun hb => ?_⟩ | refine at_call (hls) rfl rfl ?_ | fail)
        exact at_again n (by omega) (hI _ _ ⟨rfl, by omega, hp⟩)
  · rintro st hst
    subst hst
    have hple := putAt_le l c l.length
    unfold putR at h
    generalize putAt l c l.length = n at *
    refine at_cut (fun st => st = ⟨48, [(0, cfgsV l), (3, .ref 3 0 0), (5, iv n), (32, .bool false)], [(3, ⟨false, t_api_Config, 2, [cfgV c]⟩), (4, ⟨true, t_api_Config, 2, []⟩)]⟩ ∧ isAt l c n = false) ?_ ?_
    · cases n with
      | zero =>
        have e1 : ((0 : Int) < ((0 : Nat) : Int)) = False := by simp
        repeat' (first | (simp -implicitDefEqProofs only [go_sem, e1, decide_false, cfgV, cfgsV, List.length_map]) | refine at_guard (fun hb => ?_) (fun hb => ?_) | refine ⟨fun hb => ?_, fun hb => ?_⟩ | fail)
        first | rfl | exact ⟨rfl, rfl⟩
      | succ n =>
        obtain ⟨x, hx, hxm⟩ := at_some (l := l) (i := n) (by omega)
        have e1 : ((0 : Int) < ((n + 1 : Nat) : Int)) = True := by rw [eq_iff_iff]; exact ⟨fun _ => trivial, fun _ => by omega⟩
        have hw : IntKind.wrap .i64 (((n + 1 : Nat) : Int) - 1) = (n : Int) := by rw [wrap_i64 (by omega) (by omega)]; omega
        have ho := ref18_One_pc (G := G) x c (hls x hxm).2 hc.2 (hls x hxm).1 hc.1
        have his : isAt l c (n + 1) = cfgOne x c := by rw [isAt, hx]
        generalize cfgOne x c = z at *
        obtain ⟨xs, xl⟩ := x
        simp only [cfgV] at ho
        cases z
        · repeat' (first | (simp -implicitDefEqProofs only [go_sem, e1, hw, aiaddr_map hx, decide_true, cfgV, cfgsV]) | refine at_guard (fun hb => ?_) (fun hb => ?_) | refine ⟨fun hb => ?_, fun hb => ?_⟩ | refine at_call (ho) rfl rfl ?_ | fail)
          first | exact his | exact ⟨rfl, his⟩
        · rw [his, if_pos rfl] at h
          repeat' (first | (simp -implicitDefEqProofs only [go_sem, e1, hw, aiaddr_map hx, decide_true, cfgV, cfgsV]) | refine at_guard (fun hb => ?_) (fun hb => ?_) | refine ⟨fun hb => ?_, fun hb => ?_⟩ | refine at_call (ho) rfl rfl ?_ | fail)
          exact h _ ⟨_, _, rfl, rfl, .refl _⟩
    · rintro st ⟨rfl, hat⟩
      rw [hat, if_neg (by decide)] at h
      have hs1 := aslc_takeC (e := cfgV) (sz := 2) (l := l) (i := n) (by decide) hple
      have hs2 := aslc_drop (e := cfgV) (sz := 2) (l := l) (i := n) (by decide) hple
      have ht : (l.take n).length = n := by simp; omega
      have hb1 : n * 32 ≤ 140737488355328 := by omega
      have hb2 : (n + 1) * 32 ≤ 140737488355328 := by omega
      have hb3 : (n + 1 + (l.length - n)) * 32 ≤ 140737488355328 := by omega
      repeat' (first | (simp -implicitDefEqProofs only [go_sem, hs1, hs2, cfgV, cfgsV, List.length_map, List.length_append, List.length_drop, ht, hb1, hb2, hb3]) | refine at_guard (fun hb => ?_) (fun hb => ?_) | refine ⟨fun hb => ?_, fun hb => ?_⟩ | fail)
      exact h _ ⟨_, _, rfl, view_map (e := cfgV) (l := l.take n ++ c :: l.drop n) (by decide) (by simp [hget, cfgV]; rfl) (by simp; omega), .refl _⟩
def ofR (l : List CfgT) : List CfgT := l.foldl putR []
theorem ofR_succ {l : List CfgT} {i : Nat} {c : CfgT} (h : l[i]? = some c) : ofR (l.take (i + 1)) = putR (ofR (l.take i)) c := by
  rw [List.take_add_one, h]
  simp [ofR]
theorem ofR_mem {c : CfgT} : ∀ {l : List CfgT} {acc : List CfgT}, c ∈ l.foldl putR acc → c ∈ acc ∨ c ∈ l
  | [], acc, h => .inl h
  | x :: l, acc, h => by
    rcases ofR_mem (l := l) (acc := putR acc x) h with h | h
    · rcases putR_mem h with h | rfl
      · exact .inl h
      · exact .inr (by simp)
    · exact .inr (by simp [h])
theorem ofR_len : ∀ (l : List CfgT) (acc : List CfgT), (l.foldl putR acc).length ≤ acc.length + l.length
  | [], acc => by simp
  | x :: l, acc => by
    have h1 := ofR_len l (putR acc x)
    have h2 := putR_len acc x
    simp only [List.foldl_cons, List.length_cons]
    omega
theorem ref18_Of_pc (l : List CfgT) (hl : l.length ≤ 100) (hls : ∀ x ∈ l, x.Sm) : PureC Tryz.prog G n_proctorref18_Of [cfgsV l] (cfgsV (ofR l)) := by
  refine pc_proctorref18_Of (Runs.of fun Φ h => ?_)
  unfold c_proctorref18_Of
  simp -implicitDefEqProofs only [go_sem, cfgsV]
  refine at_loop (fun n st => ∃ (i : Nat) (v : AV) (H : List (Nat × Box)), i + n = l.length ∧ st = ⟨18, [(0, cfgsV l), (3, v), (4, iv i)], H⟩ ∧ ((v = .arr 3 0 0 ∧ H = [(2, ⟨true, t_api_Config, 2, []⟩), (3, ⟨true, t_api_Config, 2, []⟩)] ∧ ofR (l.take i) = []) ∨ (v = cfgsV (ofR (l.take i))))) l.length ⟨0, _, _, by simp, rfl, .inl ⟨rfl, rfl, rfl⟩⟩ ?_
  rintro I hI n st ⟨i, v, H, hi, rfl, hv⟩
  simp -implicitDefEqProofs only [go_sem, cfgsV, List.length_map]
  refine ⟨fun hlt => ?_, fun hge => ?_⟩
  · have hlt' : i < l.length := by omega
    obtain ⟨c, hc, hm⟩ := at_some hlt'
    have hw := wrap_succ hlt' (by omega)
    have hol : (ofR (l.take i)).length ≤ 1000 := by
      have := ofR_len (l.take i) []
      simp only [List.length_take, List.length_nil] at this
      unfold ofR
      omega
    have hp := ref18_Put_pc (G := G) (ofR (l.take i)) c hol (fun x hx => by
      rcases ofR_mem hx with h | h
      · cases h
      · exact hls x (List.mem_of_mem_take h)) (hls c hm)
    rw [← ofR_succ hc] at hp
    obtain ⟨cs, cl⟩ := c
    rcases hv with ⟨rfl, rfl, h0⟩ | rfl
    · rw [h0] at hp
      simp only [cfgsV, cfgV, List.map_nil] at hp
      repeat' (first | (simp -implicitDefEqProofs only [go_sem, aiaddr_map hc, hw, cfgV, cfgsV]) | refine at_guard (fun hb => ?_) (fun hb => ?_) | refine ⟨fun hb => ?_, fun hb => ?_⟩ | refine at_call (hp) rfl rfl ?_ | fail)
      exact at_again (n - 1) (by omega) (hI _ _ ⟨i + 1, _, _, by omega, rfl, .inr rfl⟩)
    · simp only [cfgsV, cfgV] at hp
      repeat' (first | (simp -implicitDefEqProofs only [go_sem, aiaddr_map hc, hw, cfgV, cfgsV]) | refine at_guard (fun hb => ?_) (fun hb => ?_) | refine ⟨fun hb => ?_, fun hb => ?_⟩ | refine at_call (hp) rfl rfl ?_ | fail)
      exact at_again (n - 1) (by omega) (hI _ _ ⟨i + 1, _, _, by omega, rfl, .inr rfl⟩)
  · rw [List.take_of_length_le (by omega)] at hv
    rcases hv with ⟨rfl, rfl, h0⟩ | rfl
    · rw [h0] at h
      repeat' (first | (simp -implicitDefEqProofs only [go_sem]) | refine at_guard (fun hb => ?_) (fun hb => ?_) | refine ⟨fun hb => ?_, fun hb => ?_⟩ | fail)
      exact h _ ⟨_, _, rfl, rfl, .refl _⟩
    · repeat' (first | (simp -implicitDefEqProofs only [go_sem, cfgsV]) | refine at_guard (fun hb => ?_) (fun hb => ?_) | refine ⟨fun hb => ?_, fun hb => ?_⟩ | fail)
      exact h _ ⟨_, _, rfl, rfl, .refl _⟩
theorem ref18_Same_pc (a b : List CfgT) (ha : ∀ x ∈ a, x.Sm) (hb : ∀ x ∈ b, x.Sm) (hl : a.length ≤ 1000) : PureC Tryz.prog G n_proctorref18_Same [cfgsV a, cfgsV b] (.bool (zipB cfgOne a b)) := by
  refine pc_proctorref18_Same (Runs.of fun Φ h => ?_)
  unfold c_proctorref18_Same
  by_cases hlk : a.length = b.length
  · have e0 : ((a.length : Int) != (b.length : Int)) = false := by simp [hlk]
    generalize hv : zipB cfgOne a b = v at *
    simp -implicitDefEqProofs only [go_sem, cfgsV, List.length_map, e0]
    refine at_loop (fun n st => ∃ i : Nat, i + n = a.length ∧ st = ⟨27, [(0, cfgsV a), (1, cfgsV b), (5, iv i)], []⟩ ∧ zipB cfgOne (a.drop i) (b.drop i) = v) a.length ⟨0, by simp, rfl, hv⟩ ?_
    rintro I hI n st ⟨i, hi, rfl, hno⟩
    simp -implicitDefEqProofs only [go_sem, cfgsV, List.length_map]
    refine ⟨fun hlt => ?_, fun hge => ?_⟩
    · have hlt' : i < a.length := by omega
      obtain ⟨x, hx, hm⟩ := at_some hlt'
      obtain ⟨y, hy, hm'⟩ := at_some (l := b) (i := i) (by omega)
      have hw := wrap_succ hlt' (by omega)
      have hc := ref18_One_pc (G := G) x y (ha x hm).2 (hb y hm').2 (ha x hm).1 (hb y hm').1
      rw [zipB_step hx hy] at hno
      obtain ⟨x1, x2⟩ := x
      obtain ⟨y1, y2⟩ := y
      simp only [cfgV] at hc
      generalize cfgOne ⟨x1, x2⟩ ⟨y1, y2⟩ = β at *
      cases β
      · rw [Bool.false_and] at hno
        subst hno
        repeat' (first | (simp -implicitDefEqProofs only [go_sem, aiaddr_map hx, aiaddr_map hy, hw, cfgV, cfgsV]) | refine at_guard (fun hb => ?_) (fun hb => ?_) | refine ⟨fun hb => ?_, fun hb => ?_⟩ | refine at_call (hc) rfl rfl ?_ | fail)
        exact h _ ⟨_, _, rfl, rfl, .refl _⟩
      · rw [Bool.true_and] at hno
        repeat' (first | (simp -implicitDefEqProofs only [go_sem, aiaddr_map hx, aiaddr_map hy, hw, cfgV, cfgsV]) | refine at_guard (fun hb => ?_) (fun hb => ?_) | refine ⟨fun hb => ?_, fun hb => ?_⟩ | refine at_call (hc) rfl rfl ?_ | fail)
        exact at_again (n - 1) (by omega) (hI _ _ ⟨i + 1, by omega, rfl, hno⟩)
    · rw [zipB_end (by omega) (by omega)] at hno
      subst hno
      exact h _ ⟨_, _, rfl, rfl, .refl _⟩
  · have hv := zipB_len (p := cfgOne) hlk
    rw [hv] at h
    have e0 : ((a.length : Int) != (b.length : Int)) = true := by simp; omega
    repeat' (first | (simp -implicitDefEqProofs only [go_sem, cfgsV, List.length_map, e0]) | refine at_guard (fun hb => ?_) (fun hb => ?_) | refine ⟨fun hb => ?_, fun hb => ?_⟩ | fail)
    exact h _ ⟨_, _, rfl, rfl, .refl _⟩
end Go.Proofs.YtjbcfpkibnhodaaGreatDoor.Ab
namespace Go.Proofs.YtjbcfpkibnhodaaGreatDoor.Ab
open Go
set_option linter.unusedSimpArgs false
def beB (u : Nat) : Str := [UInt8.ofNat (u / 72057594037927936), UInt8.ofNat (u / 281474976710656), UInt8.ofNat (u / 1099511627776), UInt8.ofNat (u / 4294967296), UInt8.ofNat (u / 16777216), UInt8.ofNat (u / 65536), UInt8.ofNat (u / 256), UInt8.ofNat u]
def keyNum (n : Int) : Str := beB (n + 9223372036854775808).toNat
def keyTxt : Str → Str
  | [] => [0, 1]
  | c :: r => if c = 0 then 0 :: 255 :: keyTxt r else c :: keyTxt r
def keyOne (v : Val) : Str := UInt8.ofNat v.kind.toNat :: (if v.kind = 1 then keyNum v.int else if v.kind = 2 then keyTxt v.str else [if v.bool then 1 else 0])
def keyVs (l : List Val) : Str := l.flatMap keyOne
end Go.Proofs.YtjbcfpkibnhodaaGreatDoor.Ab
namespace Go.Proofs.YtjbcfpkibnhodaaGreatDoor.Ab
open Go Go.RowKit
set_option linter.unusedSimpArgs false
set_option maxHeartbeats 4000000
set_option maxRecDepth 100000
variable {G : Nat → Option AV}
def byV (c : UInt8) : AV := .int .u8 (c.toNat : Int)
def bytesV (l : Str) : AV := .seq 1 (l.map byV)
theorem asBytes_map : ∀ (l : Str), asBytes (l.map byV) = some l
  | [] => rfl
  | c :: l => by
    simp only [List.map_cons, byV, asBytes]
    rw [asBytes_map l]
    simp
theorem view_bytes {H : List (Nat × Box)} {i n : Nat} {ty : Nat} {out : Str} (hH : hget H i = some ⟨true, ty, 1, out.map byV⟩) (hn : out.length = n) : view H (.arr i 0 n) = some (bytesV out) := by
  simp only [view, hH, List.drop_zero, List.length_map, hn]
  simp [bytesV, ← hn]
  exact List.take_of_length_le (by simp)
def escT : Str → Str
  | [] => []
  | c :: r => (if c = 0 then [0, 255] else [c]) ++ escT r
theorem escT_append : ∀ (a b : Str), escT (a ++ b) = escT a ++ escT b
  | [], b => rfl
  | c :: a, b => by rw [List.cons_append, escT, escT, escT_append a b, List.append_assoc]
theorem keyTxt_esc : ∀ (s : Str), keyTxt s = escT s ++ [0, 1]
  | [] => rfl
  | c :: r => by
    rw [keyTxt, escT, keyTxt_esc r]
    split <;> simp
theorem escT_len : ∀ (s : Str), (escT s).length ≤ 2 * s.length
  | [] => Nat.le_refl _
  | c :: r => by
    have := escT_len r
    rw [escT]
    split <;> simp <;> omega
theorem take_at {α : Type} {l : List α} {i : Nat} {x : α} (h : l[i]? = some x) : l.take (i + 1) = l.take i ++ [x] := by
  rw [List.take_add_one, h]; rfl
theorem key_text_pc (s : Str) (hs : s.length ≤ 1000000) : PureC Tryz.prog G n_key_text [.str s] (bytesV (keyTxt s)) := by
  refine pc_key_text (Runs.of fun Φ h => ?_)
  unfold c_key_text
  simp -implicitDefEqProofs only [go_sem]
  refine at_loop (fun n st => ∃ (i : Nat) (m : Str), i + n = s.length ∧ st = ⟨27, [(0, .str s), (3, .arr 3 0 m.length), (6, iv s.length), (7, iv i)], [(2, ⟨true, t_uint8, 1, []⟩), (3, ⟨true, t_uint8, 1, m.map byV⟩)]⟩ ∧ m = escT (s.take i)) s.length ⟨0, [], by simp, rfl, rfl⟩ ?_
  rintro I hI n st ⟨i, m, hi, rfl, hm⟩
  have hml : m.length ≤ 2000000 := by
    have := escT_len (s.take i)
    rw [hm]
    simp only [List.length_take] at this
    omega
  simp -implicitDefEqProofs only [go_sem, List.length_map]
  refine ⟨fun hlt => ?_, fun hge => ?_⟩
  · have hlt' : i < s.length := by omega
    obtain ⟨c, hc, _⟩ := at_some hlt'
    have hw := wrap_succ hlt' (by omega)
    have hnx : escT (s.take (i + 1)) = m ++ (if c = 0 then [0, 255] else [c]) := by rw [take_at hc, escT_append, ← hm, escT, escT]; simp
    have hb1 : m.length + 1 ≤ 140737488355328 := by omega
    have hb2 : m.length + 1 + 1 ≤ 140737488355328 := by omega
    have hm1 : m.map byV ++ [.int .u8 (c.toNat : Int)] = (m ++ [c]).map byV := by simp [byV]
    by_cases h0 : c = 0
    · subst h0
      rw [if_pos rfl] at hnx
      have e0 : (((0 : UInt8).toNat : Int) == 0) = true := rfl
      repeat' (first | (simp -implicitDefEqProofs only [go_sem, aidx_at hc, hw, e0, List.length_map, List.length_append, hb1, hb2, Nat.mul_one]) | refine at_guard (fun hb => ?_) (fun hb => ?_) | refine ⟨fun hb => ?_, fun hb => ?_⟩ | fail)
      refine at_again (n - 1) (by omega) (hI _ _ ⟨i + 1, m ++ [0, 255], by omega, ?_, hnx.symm⟩)
      simp [byV]
    · rw [if_neg h0] at hnx
      have e0 : ((c.toNat : Int) == 0) = false := by
        have : c.toNat ≠ 0 := fun e => h0 (UInt8.toNat_inj.1 e)
        simp; omega
      repeat' (first | (simp -implicitDefEqProofs only [go_sem, aidx_at hc, hw, e0, List.length_map, List.length_append, hb1, hb2, Nat.mul_one]) | refine at_guard (fun hb => ?_) (fun hb => ?_) | refine ⟨fun hb => ?_, fun hb => ?_⟩ | fail)
      refine at_again (n - 1) (by omega) (hI _ _ ⟨i + 1, m ++ [c], by omega, ?_, hnx.symm⟩)
      simp [byV]
  · rw [List.take_of_length_le (by omega)] at hm
    rw [keyTxt_esc, ← hm] at h
    have hb1 : m.length + 2 ≤ 140737488355328 := by omega
    have hb2 : m.length + 1 + 1 ≤ 140737488355328 := by omega
    repeat' (first | (simp -implicitDefEqProofs only [go_sem, List.length_map, List.length_append, hb1, hb2, Nat.mul_one]) | refine at_guard (fun hb => ?_) (fun hb => ?_) | refine ⟨fun hb => ?_, fun hb => ?_⟩ | fail)
    exact h _ ⟨_, _, rfl, view_bytes (out := m ++ [0, 1]) (by simp [hget, byV]; rfl) (by simp), .refl _⟩
end Go.Proofs.YtjbcfpkibnhodaaGreatDoor.Ab
