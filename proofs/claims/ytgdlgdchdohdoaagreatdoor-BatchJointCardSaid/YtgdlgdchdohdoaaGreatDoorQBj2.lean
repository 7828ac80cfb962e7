/-
  The example of chapter 44: awake, run by reckoning. No claim is proved here.
-/
import Derived.Test.YtgdlgdchdohdoaaGreatDoorQBjX
import Derived.Test.YtgdlgdchdohdoaaGreatDoorQShelfC
namespace Go.Proofs.YtgdlgdchdohdoaaGreatDoor.Ab
open Go
set_option maxRecDepth 100000
/-- What is known of functions that have no code in the table. -/
def pc0 (f : Nat) (args : List AV) : Option AV := if f = n_strings_Count then (match args with | [.str s, .str [c]] => some (.int .i64 (Lib.countByte s c : Nat)) | _ => none) else none
theorem pc0_ok {G : Nat → Option AV} (f : Nat) (args : List AV) (r : AV) (h : pc0 f args = some r) : PureC Tryz.prog G f args r := by
  unfold pc0 at h
  split at h
  · rename_i hf
    subst hf
    split at h
    · rename_i s c
      cases h
      intro w F vs hg ha
      obtain ⟨hs, hr⟩ := ha
      obtain ⟨l⟩ := vs
      match l, hs, hr with
      | [v, u], _, hr =>
        have h1 := hr 0 _ v rfl rfl
        have h2 := hr 1 _ u rfl rfl
        cases h1
        cases h2
        refine (Tryz.strings_Count_one ⟨s.toArray⟩ c w).mono ?_
        rintro e w' ⟨rfl, rfl⟩
        exact ⟨_, F, rfl, fun _ h => h, fun _ h => .inl h, hg.1, .int _ _ _, .refl _ _⟩
    · cases h
  · cases h
def wordsL : List (List UInt8) := [[97, 99, 99, 101, 112, 116], [97, 108, 115, 111], [97, 110, 100], [98, 111, 111, 108], [100, 111], [101, 118, 101, 110, 116], [101, 120, 105, 115, 116, 115], [102, 97, 108, 115, 101], [102, 111, 114, 97, 108, 108], [102, 114, 101, 101], [105, 102], [105, 110, 116], [110, 101, 120, 116], [110, 111, 116], [111, 110], [111, 114], [113, 101, 97], [115, 107, 105, 112], [115, 116, 97, 114, 116], [115, 116, 114, 105, 110, 103], [116, 111], [116, 114, 117, 101]]
def nameL : List (List UInt8) := [[115, 117, 114, 101, 45, 116, 114, 117, 101], [110, 111, 119, 45, 116, 114, 117, 101], [110, 111, 119, 45, 102, 97, 108, 115, 101], [115, 117, 114, 101, 45, 102, 97, 108, 115, 101]]
/-- What is known of the variables. -/
def Gj (g : Nat) : Option AV := if g = 1 then some (.iface 262 (.agg [.rawp 13 75])) else if g = 2 then some (.agg (wordsL.map AV.str)) else if g = 0 then some (.agg (nameL.map AV.str)) else none
theorem law44_awake_pc : PureC Tryz.prog Gj n_proctorlaw44_awake [] (.bool true) := xrun_pure xtab_ok pc0_ok 1000 40 (by kernel_rfl)
end Go.Proofs.YtgdlgdchdohdoaaGreatDoor.Ab
