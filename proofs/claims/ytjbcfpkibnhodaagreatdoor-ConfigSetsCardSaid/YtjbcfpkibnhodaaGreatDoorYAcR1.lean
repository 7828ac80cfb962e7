/-
  Lists of values, and functions handed over: what proofs about loops share. Numbers as texts, in plain words. The numbers of functions and types. The functions' abstract code, by program (acgen.py), and that the model's code is it, reckoned by the kernel. No claim is proved here.
-/
import Derived.Test.YtjbcfpkibnhodaaGreatDoorYAbRun
import Derived.Lib.ItoaNum
import Derived.Test.YtjbcfpkibnhodaaGreatDoorProg
namespace Go.Proofs.YtjbcfpkibnhodaaGreatDoor.Ab
open Go
abbrev iv (n : Int) : AV := .int .i64 n
abbrev Str := List UInt8
theorem fit_eq {a b : AV} (h : a = b) : Fit a b := h ▸ .refl _
theorem fitB {a b : Bool} (h : a = b) : Fit (.bool a) (.bool b) := h ▸ .refl _
theorem fitI {a b : Int} (h : a = b) : Fit (iv a) (iv b) := h ▸ .refl _
structure OkC (caps : List AV) : Prop where
  purge : ∀ i, purge.go i caps = caps
  viewK : ∀ rec H, viewK.go rec H caps = some caps
  view : ∀ H, view.go H caps = some caps
  thaw : ∀ i b, thaw.go i b caps = caps
  viewBs : ∀ H, viewBs H caps = some caps
  viewAll : ∀ H, viewAll H caps = some caps
theorem aiaddr_map {α : Type} {e : α → AV} {H : List (Nat × Box)} {sz : Nat} {l : List α} {i : Nat} {x : α} (h : l[i]? = some x) : aiaddr H sz (.seq sz (l.map e)) (.int .i64 (i : Int)) = some (.eptr (e x) 0) :=
  aiaddr_seq _ (by omega) (by simp [h])
theorem wrap_succ {i n : Nat} (h : i < n) (hn : n < 9223372036854775808) : IntKind.i64.wrap ((i : Int) + 1) = ((i + 1 : Nat) : Int) := by rw [wrap_i64 (by omega) (by omega)]; omega
theorem at_some {α : Type} {l : List α} {i : Nat} (h : i < l.length) : ∃ x, l[i]? = some x ∧ x ∈ l := ⟨l[i], List.getElem?_eq_getElem h, List.getElem_mem h⟩
def idxF {α : Type} (p : α → Bool) (l : List α) : Int := match l.findIdx? p with | some i => (i : Int) | none => -1
theorem idxF_at {α : Type} {p : α → Bool} {l : List α} {i : Nat} {x : α} (hx : l[i]? = some x) (hp : p x = true) (hno : ∀ j y, j < i → l[j]? = some y → p y = false) : idxF p l = i := by
  have : l.findIdx? p = some i := by
    rw [List.findIdx?_eq_some_iff_getElem]
    obtain ⟨hlt, rfl⟩ := List.getElem?_eq_some_iff.1 hx
    exact ⟨hlt, hp, fun j hj => by simp [hno j _ hj (List.getElem?_eq_getElem (by omega))]⟩
  simp [idxF, this]
theorem idxF_none {α : Type} {p : α → Bool} {l : List α} (hno : ∀ j y, j < l.length → l[j]? = some y → p y = false) : idxF p l = -1 := by
  have : l.findIdx? p = none := by
    rw [List.findIdx?_eq_none_iff]
    intro x hx
    obtain ⟨j, hj⟩ := List.getElem?_of_mem hx
    exact hno j x (List.getElem?_eq_some_iff.1 hj).1 hj
  simp [idxF, this]
theorem idxF_any {α : Type} (p : α → Bool) (l : List α) : decide (0 ≤ idxF p l) = l.any p := by
  unfold idxF
  cases h : l.findIdx? p with
  | none =>
    rw [List.findIdx?_eq_none_iff] at h
    rw [show l.any p = false by rw [List.any_eq_false]; intro x hx; simp [h x hx]]
    rfl
  | some i =>
    rw [List.findIdx?_eq_some_iff_getElem] at h
    obtain ⟨hlt, hp, _⟩ := h
    rw [show l.any p = true by rw [List.any_eq_true]; exact ⟨l[i], List.getElem_mem hlt, hp⟩]
    simp
def allI {α : Type} (p : Nat → α → Bool) (l : List α) : Bool := l.zipIdx.all fun x => p x.2 x.1
theorem allI_true {α : Type} {p : Nat → α → Bool} {l : List α} : allI p l = true ↔ ∀ i x, l[i]? = some x → p i x = true := by
  simp only [allI, List.all_eq_true, Prod.forall]
  constructor
  · intro h i x hx
    exact h x i (by rw [List.mem_zipIdx_iff_getElem?]; exact hx)
  · intro h x i hx
    rw [List.mem_zipIdx_iff_getElem?] at hx
    exact h i x hx
theorem allI_false {α : Type} {p : Nat → α → Bool} {l : List α} {i : Nat} {x : α} (hx : l[i]? = some x) (hp : p i x = false) : allI p l = false := by
  cases h : allI p l with
  | false => rfl
  | true => rw [allI_true.1 h i x hx] at hp; cases hp
theorem allI_step {α : Type} {p : Nat → α → Bool} {l : List α} {i : Nat} {x : α} (hx : l[i]? = some x) (hp : p i x = true) (h : ∀ j y, j < i → l[j]? = some y → p j y = true) : ∀ j y, j < i + 1 → l[j]? = some y → p j y = true := fun j y hj hy => by
  by_cases e : j = i
  · subst e; rw [hx] at hy; cases hy; exact hp
  · exact h j y (by omega) hy
theorem allI_all {α : Type} {p : Nat → α → Bool} {l : List α} {i : Nat} (hi : l.length ≤ i) (h : ∀ j y, j < i → l[j]? = some y → p j y = true) : allI p l = true := allI_true.2 fun j y hj => h j y (by have := (List.getElem?_eq_some_iff.1 hj).1; omega) hj
end Go.Proofs.YtjbcfpkibnhodaaGreatDoor.Ab
namespace Go.Proofs.YtjbcfpkibnhodaaGreatDoor.Ab
open Go
set_option linter.unusedSimpArgs false
theorem abin_adds {a b : Str} (h : a.length + b.length ≤ 9223372036854775807) : abin .add (.str a) (.str b) = some (.str (a ++ b)) := by simp [abin, h]
def i64 (n : Int) : Prop := -9223372036854775808 ≤ n ∧ n < 9223372036854775808
def dgt (n : Nat) : UInt8 := UInt8.ofNat (48 + n)
theorem itoa_pos {n : Int} (h : 0 ≤ n) : Lib.itoa n = Lib.decDigits n.toNat := if_neg (by omega)
theorem itoa_neg {n : Int} (h : n < 0) : Lib.itoa n = 45 :: Lib.decDigits n.natAbs := if_pos h
theorem dec_small {u : Nat} (h : u < 10) : Lib.decDigits u = [dgt u] := by rw [Lib.decDigits, dif_pos h]; rfl
theorem dec_big {u : Nat} (h : ¬ u < 10) : Lib.decDigits u = Lib.decDigits (u / 10) ++ [dgt (u % 10)] := by rw [Lib.decDigits, dif_neg h]; rfl
theorem slc_digit {n : Int} (h0 : 0 ≤ n) (h1 : n < 10) : aslc 0 (.str [48, 49, 50, 51, 52, 53, 54, 55, 56, 57]) (some (.int .i64 n)) (some (.int .i64 (n + 1))) = some (.str [dgt n.toNat]) := by
  have : n = 0 ∨ n = 1 ∨ n = 2 ∨ n = 3 ∨ n = 4 ∨ n = 5 ∨ n = 6 ∨ n = 7 ∨ n = 8 ∨ n = 9 := by omega
  rcases this with rfl | rfl | rfl | rfl | rfl | rfl | rfl | rfl | rfl | rfl <;> rfl
theorem dec_len : ∀ (k u : Nat), u < 10 ^ (k + 1) → (Lib.decDigits u).length ≤ k + 1
  | 0, u, h => by rw [dec_small (by simpa using h)]; simp
  | k + 1, u, h => by
    by_cases h10 : u < 10
    · rw [dec_small h10]; simp
    · have := dec_len k (u / 10) (by rw [Nat.pow_succ] at h; omega)
      rw [dec_big h10]
      simp
      omega
theorem itoa_len {n : Int} (h : i64 n) : (Lib.itoa n).length ≤ 20 := by
  unfold i64 at h
  by_cases h0 : 0 ≤ n
  · rw [itoa_pos h0]
    have := dec_len 18 n.toNat (by have : (10 : Nat) ^ (18 + 1) = 10000000000000000000 := by decide
                                   omega)
    omega
  · rw [itoa_neg (by omega)]
    have := dec_len 18 n.natAbs (by have : (10 : Nat) ^ (18 + 1) = 10000000000000000000 := by decide
                                    omega)
    simp
    omega
end Go.Proofs.YtjbcfpkibnhodaaGreatDoor.Ab
namespace Go.Proofs.YtjbcfpkibnhodaaGreatDoor.Ab
open Go
abbrev t_int : Nat := 3
abbrev t_bool : Nat := 4
abbrev t_uint8 : Nat := 5
abbrev t_string : Nat := 9
abbrev t_api_Qea : Nat := 30
abbrev t_api_Config : Nat := 43
abbrev t_api_Value : Nat := 95
abbrev t_api_Free : Nat := 104
abbrev t_api_State : Nat := 106
abbrev t_api_Symbol : Nat := 125
abbrev t_api_Arg : Nat := 127
abbrev t_api_Node : Nat := 129
abbrev t_api_Trans : Nat := 132
abbrev t_api_Set : Nat := 195
abbrev n_proctorlaw18_ConfigSets : Nat := 3
abbrev n_proctorlaw18_small : Nat := 8
abbrev n_proctorlaw18_awake : Nat := 9
abbrev n_proctorref18_Of : Nat := 10
abbrev n_proctorlaw18_rights : Nat := 11
abbrev n_config_Of : Nat := 12
abbrev n_proctorref18_Same : Nat := 13
abbrev n_config_Accepts : Nat := 14
abbrev n_proctorref18_Accepts : Nat := 15
abbrev n_config_Start : Nat := 16
abbrev n_proctorref18_Start : Nat := 17
abbrev n_proctorref04_Keys : Nat := 18
abbrev n_config_Text : Nat := 19
abbrev n_proctorref18_Text : Nat := 20
abbrev n_proctorref18_Right : Nat := 21
abbrev n_config_Right : Nat := 22
abbrev n_config_Key : Nat := 23
abbrev n_config_States : Nat := 24
abbrev n_proctorref13_Few : Nat := 25
abbrev n_proctorref13_Right : Nat := 28
abbrev n_proctorref18_Put : Nat := 54
abbrev n_slices_SortFunc_api_Config_api_Config : Nat := 55
abbrev n_config_compare : Nat := 56
abbrev n_slices_CompactFunc_api_Config_api_Config : Nat := 57
abbrev n_config_one : Nat := 58
abbrev n_proctorref18_One : Nat := 59
abbrev n_slices_ContainsFunc_api_Config_api_Config : Nat := 60
abbrev n_config_Accepts_1 : Nat := 61
abbrev n_proctorref04_Key : Nat := 62
abbrev n_value_Text : Nat := 63
abbrev n_strings_Join : Nat := 64
abbrev n_proctorref03_Text : Nat := 65
abbrev n_proctorref16_Fits : Nat := 66
abbrev n_eval_Fits : Nat := 67
abbrev n_key_Of : Nat := 68
abbrev n_proctorref07_Check : Nat := 71
abbrev n_proctorref13_names : Nat := 72
abbrev n_proctorref13_trans : Nat := 73
abbrev n_proctorref13_symbols : Nat := 74
abbrev n_proctorref03_Right : Nat := 76
abbrev n_proctorref07_Find : Nat := 77
abbrev n_proctorref01_Text : Nat := 111
abbrev n_proctorref18_Less : Nat := 112
abbrev n_slices_CompareFunc_api_Value_api_Value_api_Value_api_Value : Nat := 115
abbrev n_config_compare_1 : Nat := 116
abbrev n_value_Less : Nat := 117
abbrev n_slices_Equal_api_Value_api_Value : Nat := 118
abbrev n_slices_IndexFunc_api_Config_api_Config : Nat := 119
abbrev n_value_Right : Nat := 120
abbrev n_num_Text : Nat := 121
abbrev n_quote_Quote : Nat := 122
abbrev n_proctorref02_Quote : Nat := 124
abbrev n_slices_EqualFunc_api_Value_api_Free_api_Value_api_Free : Nat := 125
abbrev n_eval_Fits_1 : Nat := 126
abbrev n_key_one : Nat := 127
abbrev n_proctorref07_Name : Nat := 134
abbrev n_proctorref13_twice : Nat := 135
abbrev n_proctorref13_Kind : Nat := 136
abbrev n_proctorref13_bound : Nat := 137
abbrev n_proctorref13_symbol : Nat := 138
abbrev n_proctorref13_SameSymbol : Nat := 139
abbrev n_proctorref13_Names : Nat := 140
abbrev n_proctorref03_Less : Nat := 167
abbrev n_value_Int : Nat := 178
abbrev n_value_Str : Nat := 179
abbrev n_value_Bool : Nat := 180
abbrev n_strconv_FormatInt : Nat := 181
abbrev n_quote_one : Nat := 183
abbrev n_proctorref02_One : Nat := 185
abbrev n_key_number : Nat := 186
abbrev n_key_text : Nat := 187
abbrev n_proctorref07_Words : Nat := 216
abbrev n_proctorref07_Spelt : Nat := 217
abbrev n_proctorref13_below : Nat := 218
abbrev n_proctorref13_arg : Nat := 219
abbrev n_proctorref03_Op : Nat := 231
abbrev n_proctorref03_Below : Nat := 233
abbrev n_quote_shown : Nat := 240
abbrev n_slices_Index_byte_byte : Nat := 241
abbrev n_proctorref02_hex : Nat := 243
abbrev n_proctorref13_Type : Nat := 256
abbrev n_proctorref03_truth : Nat := 261
abbrev n_proctorref03_arith : Nat := 262
abbrev n_proctorref01_Add : Nat := 285
abbrev n_proctorref03_number : Nat := 286
abbrev n_proctorref01_Sub : Nat := 287
abbrev n_proctorref01_Mul : Nat := 288
abbrev n_proctorref01_Div : Nat := 289
end Go.Proofs.YtjbcfpkibnhodaaGreatDoor.Ab
namespace Go.Proofs.YtjbcfpkibnhodaaGreatDoor.Ab
open Go
def c_config_Accepts : AFun := ⟨8, 2, [.t 4],
  (.seq (.reg [⟨some 2, .box t_api_Qea 9 (.t 0), none⟩,
⟨some 4, .mov (.k (.bool false)), none⟩]
[1, 2])
(.seq (.reg [⟨some 5, .mov (.t 1), none⟩,
⟨some 6, .mkfn n_config_Accepts_1 [.t 2], none⟩,
⟨some 7, .call n_slices_ContainsFunc_api_Config_api_Config [.t 5, .t 6], none⟩,
⟨some 4, .mov (.t 7), none⟩]
[4])
.ret))⟩
theorem k_config_Accepts : chkF Tryz.prog Tryz.f14 c_config_Accepts = true := by kernel_rfl
theorem pc_config_Accepts {G : Nat → Option AV} {args : List AV} {r : AV} (h : Runs Tryz.prog G c_config_Accepts args r) (hk : args.length = c_config_Accepts.k := by rfl) : PureC Tryz.prog G n_config_Accepts args r := PureC.of_runs (fn := Tryz.f14) (A := c_config_Accepts) Tryz.func14 k_config_Accepts hk h
def c_config_Accepts_1 : AFun := ⟨11, 2, [.t 3],
  (.seq (.reg [⟨some 2, .box t_api_Config 2 (.t 0), none⟩,
⟨some 3, .mov (.k (.bool false)), none⟩]
[1, 2])
(.seq (.reg [⟨some 4, .faddr (.t 1) 4, none⟩,
⟨some 5, .load (.t 4), none⟩,
⟨some 6, .faddr (.t 2) 0, none⟩,
⟨some 7, .load (.t 6), none⟩,
⟨some 8, .iaddr 3 (.t 5) (.t 7), none⟩,
⟨some 9, .faddr (.t 8) 2, none⟩,
⟨some 10, .load (.t 9), none⟩,
⟨some 3, .mov (.t 10), none⟩]
[3])
.ret))⟩
theorem k_config_Accepts_1 : chkF Tryz.prog Tryz.f61 c_config_Accepts_1 = true := by kernel_rfl
theorem pc_config_Accepts_1 {G : Nat → Option AV} {args : List AV} {r : AV} (h : Runs Tryz.prog G c_config_Accepts_1 args r) (hk : args.length = c_config_Accepts_1.k := by rfl) : PureC Tryz.prog G n_config_Accepts_1 args r := PureC.of_runs (fn := Tryz.f61) (A := c_config_Accepts_1) Tryz.func61 k_config_Accepts_1 hk h
def c_config_Key : AFun := ⟨25, 1, [.t 2],
  (.seq (.reg [⟨some 2, .mov (.k (.str [])), none⟩]
[0])
(.seq (.reg [⟨some 3, .nilrow t_uint8 1, none⟩]
[0, 3])
(.seq (.seq (.reg [⟨some 6, .mov (.t 0), none⟩,
⟨some 7, .len false (.t 6), none⟩,
⟨some 8, .mov (.k (.int .i64 0)), none⟩]
[3, 6, 7, 8])
(.block 0
(.loop [3, 6, 7, 8] [3, 7, 17, 21]
  (.seq (.reg [⟨some 9, .bin .lss (.t 8) (.t 7), none⟩]
[3, 6, 7, 8, 9])
(.seq (.cond (.t 9)
.skip
(.exit 0))
(.seq (.block 1
(.seq (.reg [⟨some 10, .iaddr 2 (.t 6) (.t 8), none⟩,
⟨some 11, .loadN (.t 10) 2, none⟩,
⟨some 5, .alloc t_api_Config 2 (.agg [.int .i64 0, .nils]), none⟩,
⟨none, .store (.t 5) (.t 11) 2, none⟩]
[3, 5, 6, 7, 8])
(.dregC [⟨some 12, .mov (.t 3), none⟩,
⟨some 13, .faddr (.t 5) 0, none⟩,
⟨some 14, .load (.t 13), none⟩,
⟨some 15, .conv .u8 (.t 14), none⟩,
⟨some 16, .mkrow t_uint8 1 1 (.int .u8 0) [(0, .t 15)], none⟩,
⟨some 17, .app t_uint8 1 1 (.t 12) (.t 16), none⟩,
⟨some 18, .faddr (.t 5) 1, none⟩,
⟨some 19, .load (.t 18), none⟩,
⟨some 20, .call n_key_Of [.t 19], none⟩,
⟨some 21, .app t_uint8 1 1 (.t 17) (.t 20), none⟩,
⟨some 3, .mov (.t 21), none⟩]
[4, 5, 9] [0, 0, 0, 0, 1, 2, 0, 0, 2, 3, 3] [1, 0, 0, 0, 3, 3, 2, 2, 2, 3, 3] [([0, 1, 2, 3, 6, 7], []), ([], [0, 6, 7]), ([8], [6, 7]), ([10], [])] [3, 5, 6, 7, 8, 12, 13, 14, 15, 16, 17, 18, 19, 20, 21]
[3, 6, 7, 8])))
(.reg [⟨some 22, .bin .add (.t 8) (.k (.int .i64 1)), none⟩,
⟨some 8, .mov (.t 22), none⟩]
[3, 6, 7, 8])))))))
(.seq (.reg [⟨some 23, .mov (.t 3), none⟩,
⟨some 24, .b2s (.t 23), none⟩,
⟨some 2, .mov (.t 24), none⟩]
[2])
.ret))))⟩
theorem k_config_Key : chkF Tryz.prog Tryz.f23 c_config_Key = true := by kernel_rfl
theorem pc_config_Key {G : Nat → Option AV} {args : List AV} {r : AV} (h : Runs Tryz.prog G c_config_Key args r) (hk : args.length = c_config_Key.k := by rfl) : PureC Tryz.prog G n_config_Key args r := PureC.of_runs (fn := Tryz.f23) (A := c_config_Key) Tryz.func23 k_config_Key hk h
def c_config_Of : AFun := ⟨26, 2, [.t 4],
  (.seq (.reg [⟨some 2, .box t_api_Qea 9 (.t 0), none⟩,
⟨some 4, .nilrow t_api_Config 2, none⟩]
[1, 2])
(.seq (.reg [⟨some 5, .nilrow t_api_Config 2, none⟩]
[1, 2, 5])
(.seq (.seq (.reg [⟨some 8, .mov (.t 1), none⟩,
⟨some 9, .len false (.t 8), none⟩,
⟨some 10, .mov (.k (.int .i64 0)), none⟩]
[2, 5, 8, 9, 10])
(.block 0
(.loop [2, 5, 8, 9, 10] [2, 4, 5, 9, 20]
  (.seq (.reg [⟨some 11, .bin .lss (.t 10) (.t 9), none⟩]
[2, 5, 8, 9, 10, 11])
(.seq (.cond (.t 11)
.skip
(.exit 0))
(.seq (.block 1
(.seq (.reg [⟨some 12, .iaddr 2 (.t 8) (.t 10), none⟩,
⟨some 13, .loadN (.t 12) 2, none⟩,
⟨some 7, .alloc t_api_Config 2 (.agg [.int .i64 0, .nils]), none⟩,
⟨none, .store (.t 7) (.t 13) 2, none⟩]
[2, 5, 7, 8, 9, 10])
(.seq (.reg [⟨some 14, .loadN (.t 2) 9, none⟩,
⟨some 15, .loadN (.t 7) 2, none⟩,
⟨some 16, .call n_config_Right [.t 14, .t 15], none⟩]
[2, 5, 7, 8, 9, 10, 16])
(.cond (.t 16)
(.reg [⟨some 17, .mov (.t 5), none⟩,
⟨some 18, .loadN (.t 7) 2, none⟩,
⟨some 19, .mkrow t_api_Config 2 1 (.agg [.int .i64 0, .nils]) [(0, .t 18)], none⟩,
⟨some 20, .app t_api_Config 2 32 (.t 17) (.t 19), none⟩,
⟨some 5, .mov (.t 20), none⟩]
[2, 5, 8, 9, 10])
.skip))))
(.reg [⟨some 21, .bin .add (.t 10) (.k (.int .i64 1)), none⟩,
⟨some 10, .mov (.t 21), none⟩]
[2, 5, 8, 9, 10])))))))
(.seq (.reg [⟨some 22, .mov (.t 5), none⟩,
⟨some 23, .call n_slices_SortFunc_api_Config_api_Config [.t 22, .f n_config_compare], none⟩]
[5])
(.seq (.reg [⟨some 24, .mov (.t 5), none⟩,
⟨some 25, .call n_slices_CompactFunc_api_Config_api_Config [.t 24, .f n_config_one], none⟩,
⟨some 4, .mov (.t 25), none⟩]
[4])
.ret)))))⟩
theorem k_config_Of : chkF Tryz.prog Tryz.f12 c_config_Of = true := by kernel_rfl
theorem pc_config_Of {G : Nat → Option AV} {args : List AV} {r : AV} (h : Runs Tryz.prog G c_config_Of args r) (hk : args.length = c_config_Of.k := by rfl) : PureC Tryz.prog G n_config_Of args r := PureC.of_runs (fn := Tryz.f12) (A := c_config_Of) Tryz.func12 k_config_Of hk h
def c_config_Right : AFun := ⟨22, 2, [.t 4],
  (.seq (.reg [⟨some 2, .box t_api_Qea 9 (.t 0), none⟩,
⟨some 3, .box t_api_Config 2 (.t 1), none⟩,
⟨some 4, .mov (.k (.bool false)), none⟩]
[2, 3])
(.seq (.reg [⟨some 5, .faddr (.t 3) 0, none⟩,
⟨some 6, .load (.t 5), none⟩,
⟨some 7, .bin .geq (.t 6) (.k (.int .i64 0)), none⟩,
⟨some 8, .mov (.t 7), none⟩,
⟨some 9, .faddr (.t 3) 0, (some (8, true))⟩,
⟨some 10, .load (.t 9), (some (8, true))⟩,
⟨some 11, .faddr (.t 2) 4, (some (8, true))⟩,
⟨some 12, .load (.t 11), (some (8, true))⟩,
⟨some 13, .len false (.t 12), (some (8, true))⟩,
⟨some 14, .bin .lss (.t 10) (.t 13), (some (8, true))⟩,
⟨some 15, .pick (.t 8) (.t 14) (.k (.bool false)), none⟩,
⟨some 16, .mov (.t 15), none⟩,
⟨some 17, .loadN (.t 2) 9, (some (16, true))⟩,
⟨some 18, .faddr (.t 3) 1, (some (16, true))⟩,
⟨some 19, .load (.t 18), (some (16, true))⟩,
⟨some 20, .call n_eval_Fits [.t 17, .t 19], (some (16, true))⟩,
⟨some 21, .pick (.t 16) (.t 20) (.k (.bool false)), none⟩,
⟨some 4, .mov (.t 21), none⟩]
[4])
.ret))⟩
theorem k_config_Right : chkF Tryz.prog Tryz.f22 c_config_Right = true := by kernel_rfl
theorem pc_config_Right {G : Nat → Option AV} {args : List AV} {r : AV} (h : Runs Tryz.prog G c_config_Right args r) (hk : args.length = c_config_Right.k := by rfl) : PureC Tryz.prog G n_config_Right args r := PureC.of_runs (fn := Tryz.f22) (A := c_config_Right) Tryz.func22 k_config_Right hk h
def c_config_Start : AFun := ⟨26, 1, [.t 2],
  (.seq (.reg [⟨some 1, .box t_api_Qea 9 (.t 0), none⟩,
⟨some 2, .nilrow t_api_Config 2, none⟩]
[1])
(.seq (.reg [⟨some 6, .faddr (.t 1) 5, none⟩,
⟨some 7, .load (.t 6), none⟩,
⟨some 8, .build [.int .i64 0, .nils] [(0, 1, .t 7)], none⟩,
⟨some 3, .alloc t_api_Config 2 (.agg [.int .i64 0, .nils]), none⟩,
⟨none, .store (.t 3) (.t 8) 2, none⟩]
[1, 3])
(.seq (.seq (.reg [⟨some 9, .faddr (.t 1) 3, none⟩,
⟨some 10, .load (.t 9), none⟩,
⟨some 11, .len false (.t 10), none⟩,
⟨some 12, .mov (.k (.int .i64 0)), none⟩]
[3, 10, 11, 12])
(.block 0
(.loop [3, 10, 11, 12] [1, 2, 3, 11, 21]
  (.seq (.reg [⟨some 13, .bin .lss (.t 12) (.t 11), none⟩]
[3, 10, 11, 12, 13])
(.seq (.cond (.t 13)
.skip
(.exit 0))
(.seq (.block 1
(.seq (.reg [⟨some 14, .iaddr 5 (.t 10) (.t 12), none⟩,
⟨some 15, .loadN (.t 14) 5, none⟩,
⟨some 5, .alloc t_api_Free 5 (.agg [.str [], .int .i64 0, .int .i64 0, .str [], .bool false]), none⟩,
⟨none, .store (.t 5) (.t 15) 5, none⟩]
[3, 5, 10, 11, 12])
(.reg [⟨some 16, .faddr (.t 3) 1, none⟩,
⟨some 17, .load (.t 16), none⟩,
⟨some 18, .faddr (.t 5) 1, none⟩,
⟨some 19, .loadN (.t 18) 4, none⟩,
⟨some 20, .mkrow t_api_Value 4 1 (.agg [.int .i64 0, .int .i64 0, .str [], .bool false]) [(0, .t 19)], none⟩,
⟨some 21, .app t_api_Value 4 40 (.t 17) (.t 20), none⟩,
⟨some 22, .faddr (.t 3) 1, none⟩,
⟨none, .store (.t 22) (.t 21) 1, none⟩]
[3, 10, 11, 12])))
(.reg [⟨some 23, .bin .add (.t 12) (.k (.int .i64 1)), none⟩,
⟨some 12, .mov (.t 23), none⟩]
[3, 10, 11, 12])))))))
(.seq (.reg [⟨some 24, .loadN (.t 3) 2, none⟩,
⟨some 25, .mkrow t_api_Config 2 1 (.agg [.int .i64 0, .nils]) [(0, .t 24)], none⟩,
⟨some 2, .mov (.t 25), none⟩]
[2])
.ret))))⟩
theorem k_config_Start : chkF Tryz.prog Tryz.f16 c_config_Start = true := by kernel_rfl
theorem pc_config_Start {G : Nat → Option AV} {args : List AV} {r : AV} (h : Runs Tryz.prog G c_config_Start args r) (hk : args.length = c_config_Start.k := by rfl) : PureC Tryz.prog G n_config_Start args r := PureC.of_runs (fn := Tryz.f16) (A := c_config_Start) Tryz.func16 k_config_Start hk h
def c_config_States : AFun := ⟨20, 1, [.t 2],
  (.seq (.reg [⟨some 2, .mov (.k (.int .u32 0)), none⟩]
[0])
(.seq (.reg [⟨some 3, .mov (.k (.int .u32 0)), none⟩]
[0, 3])
(.seq (.seq (.reg [⟨some 6, .mov (.t 0), none⟩,
⟨some 7, .len false (.t 6), none⟩,
⟨some 8, .mov (.k (.int .i64 0)), none⟩]
[3, 6, 7, 8])
(.block 0
(.loop [3, 6, 7, 8] [7]
  (.seq (.reg [⟨some 9, .bin .lss (.t 8) (.t 7), none⟩]
[3, 6, 7, 8, 9])
(.seq (.cond (.t 9)
.skip
(.exit 0))
(.seq (.block 1
(.seq (.reg [⟨some 10, .iaddr 2 (.t 6) (.t 8), none⟩,
⟨some 11, .loadN (.t 10) 2, none⟩,
⟨some 5, .alloc t_api_Config 2 (.agg [.int .i64 0, .nils]), none⟩,
⟨none, .store (.t 5) (.t 11) 2, none⟩]
[3, 5, 6, 7, 8])
(.reg [⟨some 12, .mov (.t 3), none⟩,
⟨some 13, .faddr (.t 5) 0, none⟩,
⟨some 14, .load (.t 13), none⟩,
⟨some 15, .conv .u64 (.t 14), none⟩,
⟨some 16, .bin .shl (.k (.int .u32 1)) (.t 15), none⟩,
⟨some 17, .bin .or (.t 12) (.t 16), none⟩,
⟨some 3, .mov (.t 17), none⟩]
[3, 6, 7, 8])))
(.reg [⟨some 18, .bin .add (.t 8) (.k (.int .i64 1)), none⟩,
⟨some 8, .mov (.t 18), none⟩]
[3, 6, 7, 8])))))))
(.seq (.reg [⟨some 19, .mov (.t 3), none⟩,
⟨some 2, .mov (.t 19), none⟩]
[2])
.ret))))⟩
theorem k_config_States : chkF Tryz.prog Tryz.f24 c_config_States = true := by kernel_rfl
theorem pc_config_States {G : Nat → Option AV} {args : List AV} {r : AV} (h : Runs Tryz.prog G c_config_States args r) (hk : args.length = c_config_States.k := by rfl) : PureC Tryz.prog G n_config_States args r := PureC.of_runs (fn := Tryz.f24) (A := c_config_States) Tryz.func24 k_config_States hk h
def c_config_Text : AFun := ⟨44, 2, [.t 4],
  (.seq (.reg [⟨some 2, .box t_api_Qea 9 (.t 0), none⟩,
⟨some 3, .box t_api_Config 2 (.t 1), none⟩,
⟨some 4, .mov (.k (.str [])), none⟩]
[2, 3])
(.seq (.seq (.reg [⟨some 8, .loadN (.t 2) 9, none⟩,
⟨some 9, .loadN (.t 3) 2, none⟩,
⟨some 10, .call n_config_Right [.t 8, .t 9], none⟩,
⟨some 11, .un .not (.t 10), none⟩]
[2, 3, 11])
(.cond (.t 11)
(.seq (.reg [⟨some 4, .mov (.k (.str [])), none⟩]
[4])
.ret)
.skip))
(.seq (.reg [⟨some 12, .faddr (.t 2) 4, none⟩,
⟨some 13, .load (.t 12), none⟩,
⟨some 14, .faddr (.t 3) 0, none⟩,
⟨some 15, .load (.t 14), none⟩,
⟨some 16, .iaddr 3 (.t 13) (.t 15), none⟩,
⟨some 17, .faddr (.t 16) 0, none⟩,
⟨some 18, .load (.t 17), none⟩,
⟨some 19, .mkrow t_string 1 1 (.str []) [(0, .t 18)], none⟩,
⟨some 5, .mov (.t 19), none⟩]
[2, 3, 5])
(.seq (.seq (.reg [⟨some 20, .faddr (.t 2) 3, none⟩,
⟨some 21, .load (.t 20), none⟩,
⟨some 22, .len false (.t 21), none⟩,
⟨some 23, .mov (.k (.int .i64 0)), none⟩]
[3, 5, 21, 22, 23])
(.block 0
(.loop [3, 5, 21, 22, 23] [2, 3, 10, 19, 22, 40]
  (.seq (.reg [⟨some 24, .bin .lss (.t 23) (.t 22), none⟩]
[3, 5, 21, 22, 23, 24])
(.seq (.cond (.t 24)
.skip
(.exit 0))
(.seq (.block 1
(.seq (.reg [⟨some 25, .mov (.t 23), none⟩,
⟨some 26, .iaddr 5 (.t 21) (.t 23), none⟩,
⟨some 27, .loadN (.t 26) 5, none⟩,
⟨some 7, .alloc t_api_Free 5 (.agg [.str [], .int .i64 0, .int .i64 0, .str [], .bool false]), none⟩,
⟨some 6, .mov (.t 25), none⟩,
⟨none, .store (.t 7) (.t 27) 5, none⟩]
[3, 5, 6, 7, 21, 22, 23])
(.dregC [⟨some 28, .mov (.t 5), none⟩,
⟨some 29, .faddr (.t 7) 0, none⟩,
⟨some 30, .load (.t 29), none⟩,
⟨some 31, .bin .add (.t 30) (.k (.str [61])), none⟩,
⟨some 32, .faddr (.t 3) 1, none⟩,
⟨some 33, .load (.t 32), none⟩,
⟨some 34, .mov (.t 6), none⟩,
⟨some 35, .iaddr 4 (.t 33) (.t 34), none⟩,
⟨some 36, .loadN (.t 35) 4, none⟩,
⟨some 37, .call n_value_Text [.t 36], none⟩,
⟨some 38, .bin .add (.t 31) (.t 37), none⟩,
⟨some 39, .mkrow t_string 1 1 (.str []) [(0, .t 38)], none⟩,
⟨some 40, .app t_string 1 16 (.t 28) (.t 39), none⟩,
⟨some 5, .mov (.t 40), none⟩]
[11, 12] [0, 0, 0, 0, 0, 0, 0, 0, 0, 0, 0, 1, 2, 2] [1, 0, 0, 0, 0, 0, 0, 0, 0, 0, 0, 2, 2, 2] [([0, 1, 2, 3, 4, 5, 6, 7, 8, 9, 10], []), ([], [0]), ([13], [])] [3, 5, 6, 7, 21, 22, 23, 28, 29, 30, 31, 32, 33, 34, 35, 36, 37, 38, 39, 40]
[3, 5, 21, 22, 23])))
(.reg [⟨some 41, .bin .add (.t 23) (.k (.int .i64 1)), none⟩,
⟨some 23, .mov (.t 41), none⟩]
[3, 5, 21, 22, 23])))))))
(.seq (.reg [⟨some 42, .mov (.t 5), none⟩,
⟨some 43, .call n_strings_Join [.t 42, .k (.str [32])], none⟩,
⟨some 4, .mov (.t 43), none⟩]
[4])
.ret)))))⟩
theorem k_config_Text : chkF Tryz.prog Tryz.f19 c_config_Text = true := by kernel_rfl
theorem pc_config_Text {G : Nat → Option AV} {args : List AV} {r : AV} (h : Runs Tryz.prog G c_config_Text args r) (hk : args.length = c_config_Text.k := by rfl) : PureC Tryz.prog G n_config_Text args r := PureC.of_runs (fn := Tryz.f19) (A := c_config_Text) Tryz.func19 k_config_Text hk h
def c_config_compare : AFun := ⟨20, 2, [.t 4],
  (.seq (.reg [⟨some 2, .box t_api_Config 2 (.t 0), none⟩,
⟨some 3, .box t_api_Config 2 (.t 1), none⟩,
⟨some 4, .mov (.k (.int .i64 0)), none⟩]
[2, 3])
(.seq (.seq (.reg [⟨some 5, .faddr (.t 2) 0, none⟩,
⟨some 6, .load (.t 5), none⟩,
⟨some 7, .faddr (.t 3) 0, none⟩,
⟨some 8, .load (.t 7), none⟩,
⟨some 9, .bin .neq (.t 6) (.t 8), none⟩]
[2, 3, 9])
(.cond (.t 9)
(.seq (.reg [⟨some 10, .faddr (.t 2) 0, none⟩,
⟨some 11, .load (.t 10), none⟩,
⟨some 12, .faddr (.t 3) 0, none⟩,
⟨some 13, .load (.t 12), none⟩,
⟨some 14, .bin .sub (.t 11) (.t 13), none⟩,
⟨some 4, .mov (.t 14), none⟩]
[4])
.ret)
.skip))
(.seq (.reg [⟨some 15, .faddr (.t 2) 1, none⟩,
⟨some 16, .load (.t 15), none⟩,
⟨some 17, .faddr (.t 3) 1, none⟩,
⟨some 18, .load (.t 17), none⟩,
⟨some 19, .call n_slices_CompareFunc_api_Value_api_Value_api_Value_api_Value [.t 16, .t 18, .f n_config_compare_1], none⟩,
⟨some 4, .mov (.t 19), none⟩]
[4])
.ret)))⟩
theorem k_config_compare : chkF Tryz.prog Tryz.f56 c_config_compare = true := by kernel_rfl
theorem pc_config_compare {G : Nat → Option AV} {args : List AV} {r : AV} (h : Runs Tryz.prog G c_config_compare args r) (hk : args.length = c_config_compare.k := by rfl) : PureC Tryz.prog G n_config_compare args r := PureC.of_runs (fn := Tryz.f56) (A := c_config_compare) Tryz.func56 k_config_compare hk h
def c_config_compare_1 : AFun := ⟨13, 2, [.t 4],
  (.seq (.reg [⟨some 2, .box t_api_Value 4 (.t 0), none⟩,
⟨some 3, .box t_api_Value 4 (.t 1), none⟩,
⟨some 4, .mov (.k (.int .i64 0)), none⟩]
[2, 3])
(.seq (.block 0
(.seq (.reg [⟨some 6, .loadN (.t 2) 4, none⟩,
⟨some 7, .loadN (.t 3) 4, none⟩,
⟨some 8, .eqA false [0, 0, 1, 2] (.t 6) (.t 7), none⟩,
⟨some 5, .mov (.t 8), none⟩]
[2, 3, 5])
(.cond (.t 5)
(.seq (.reg [⟨some 4, .mov (.k (.int .i64 0)), none⟩]
[4])
.ret)
(.seq (.reg [⟨some 10, .loadN (.t 2) 4, none⟩,
⟨some 11, .loadN (.t 3) 4, none⟩,
⟨some 12, .call n_value_Less [.t 10, .t 11], none⟩,
⟨some 9, .mov (.t 12), none⟩]
[9])
(.cond (.t 9)
(.seq (.reg [⟨some 4, .mov (.k (.int .i64 (-1))), none⟩]
[4])
.ret)
.skip)))))
(.seq (.reg [⟨some 4, .mov (.k (.int .i64 1)), none⟩]
[4])
.ret)))⟩
theorem k_config_compare_1 : chkF Tryz.prog Tryz.f116 c_config_compare_1 = true := by kernel_rfl
theorem pc_config_compare_1 {G : Nat → Option AV} {args : List AV} {r : AV} (h : Runs Tryz.prog G c_config_compare_1 args r) (hk : args.length = c_config_compare_1.k := by rfl) : PureC Tryz.prog G n_config_compare_1 args r := PureC.of_runs (fn := Tryz.f116) (A := c_config_compare_1) Tryz.func116 k_config_compare_1 hk h
def c_config_one : AFun := ⟨17, 2, [.t 4],
  (.seq (.reg [⟨some 2, .box t_api_Config 2 (.t 0), none⟩,
⟨some 3, .box t_api_Config 2 (.t 1), none⟩,
⟨some 4, .mov (.k (.bool false)), none⟩]
[2, 3])
(.seq (.reg [⟨some 5, .faddr (.t 2) 0, none⟩,
⟨some 6, .load (.t 5), none⟩,
⟨some 7, .faddr (.t 3) 0, none⟩,
⟨some 8, .load (.t 7), none⟩,
⟨some 9, .bin .eql (.t 6) (.t 8), none⟩,
⟨some 10, .mov (.t 9), none⟩,
⟨some 11, .faddr (.t 2) 1, (some (10, true))⟩,
⟨some 12, .load (.t 11), (some (10, true))⟩,
⟨some 13, .faddr (.t 3) 1, (some (10, true))⟩,
⟨some 14, .load (.t 13), (some (10, true))⟩,
⟨some 15, .call n_slices_Equal_api_Value_api_Value [.t 12, .t 14], (some (10, true))⟩,
⟨some 16, .pick (.t 10) (.t 15) (.k (.bool false)), none⟩,
⟨some 4, .mov (.t 16), none⟩]
[4])
.ret))⟩
theorem k_config_one : chkF Tryz.prog Tryz.f58 c_config_one = true := by kernel_rfl
theorem pc_config_one {G : Nat → Option AV} {args : List AV} {r : AV} (h : Runs Tryz.prog G c_config_one args r) (hk : args.length = c_config_one.k := by rfl) : PureC Tryz.prog G n_config_one args r := PureC.of_runs (fn := Tryz.f58) (A := c_config_one) Tryz.func58 k_config_one hk h
def c_eval_Fits : AFun := ⟨9, 2, [.t 4],
  (.seq (.reg [⟨some 2, .box t_api_Qea 9 (.t 0), none⟩,
⟨some 4, .mov (.k (.bool false)), none⟩]
[1, 2])
(.seq (.reg [⟨some 5, .mov (.t 1), none⟩,
⟨some 6, .faddr (.t 2) 3, none⟩,
⟨some 7, .load (.t 6), none⟩,
⟨some 8, .call n_slices_EqualFunc_api_Value_api_Free_api_Value_api_Free [.t 5, .t 7, .f n_eval_Fits_1], none⟩,
⟨some 4, .mov (.t 8), none⟩]
[4])
.ret))⟩
theorem k_eval_Fits : chkF Tryz.prog Tryz.f67 c_eval_Fits = true := by kernel_rfl
theorem pc_eval_Fits {G : Nat → Option AV} {args : List AV} {r : AV} (h : Runs Tryz.prog G c_eval_Fits args r) (hk : args.length = c_eval_Fits.k := by rfl) : PureC Tryz.prog G n_eval_Fits args r := PureC.of_runs (fn := Tryz.f67) (A := c_eval_Fits) Tryz.func67 k_eval_Fits hk h
def c_eval_Fits_1 : AFun := ⟨15, 2, [.t 4],
  (.seq (.reg [⟨some 2, .box t_api_Value 4 (.t 0), none⟩,
⟨some 3, .box t_api_Free 5 (.t 1), none⟩,
⟨some 4, .mov (.k (.bool false)), none⟩]
[2, 3])
(.seq (.reg [⟨some 5, .loadN (.t 2) 4, none⟩,
⟨some 6, .call n_value_Right [.t 5], none⟩,
⟨some 7, .mov (.t 6), none⟩,
⟨some 8, .faddr (.t 2) 0, (some (7, true))⟩,
⟨some 9, .load (.t 8), (some (7, true))⟩,
⟨some 10, .faddr (.t 3) 1, (some (7, true))⟩,
⟨some 11, .faddr (.t 10) 0, (some (7, true))⟩,
⟨some 12, .load (.t 11), (some (7, true))⟩,
⟨some 13, .bin .eql (.t 9) (.t 12), (some (7, true))⟩,
⟨some 14, .pick (.t 7) (.t 13) (.k (.bool false)), none⟩,
⟨some 4, .mov (.t 14), none⟩]
[4])
.ret))⟩
theorem k_eval_Fits_1 : chkF Tryz.prog Tryz.f126 c_eval_Fits_1 = true := by kernel_rfl
theorem pc_eval_Fits_1 {G : Nat → Option AV} {args : List AV} {r : AV} (h : Runs Tryz.prog G c_eval_Fits_1 args r) (hk : args.length = c_eval_Fits_1.k := by rfl) : PureC Tryz.prog G n_eval_Fits_1 args r := PureC.of_runs (fn := Tryz.f126) (A := c_eval_Fits_1) Tryz.func126 k_eval_Fits_1 hk h
def c_key_Of : AFun := ⟨21, 1, [.t 2],
  (.seq (.reg [⟨some 2, .nilrow t_uint8 1, none⟩]
[0])
(.seq (.reg [⟨some 3, .nilrow t_uint8 1, none⟩]
[0, 3])
(.seq (.seq (.reg [⟨some 6, .mov (.t 0), none⟩,
⟨some 7, .len false (.t 6), none⟩,
⟨some 8, .mov (.k (.int .i64 0)), none⟩]
[3, 6, 7, 8])
(.block 0
(.loop [3, 6, 7, 8] [2, 3, 7, 18]
  (.seq (.reg [⟨some 9, .bin .lss (.t 8) (.t 7), none⟩]
[3, 6, 7, 8, 9])
(.seq (.cond (.t 9)
.skip
(.exit 0))
(.seq (.block 1
(.seq (.reg [⟨some 10, .iaddr 4 (.t 6) (.t 8), none⟩,
⟨some 11, .loadN (.t 10) 4, none⟩,
⟨some 5, .alloc t_api_Value 4 (.agg [.int .i64 0, .int .i64 0, .str [], .bool false]), none⟩,
⟨none, .store (.t 5) (.t 11) 4, none⟩]
[3, 5, 6, 7, 8])
(.seq (.seq (.reg [⟨some 12, .loadN (.t 5) 4, none⟩,
⟨some 13, .call n_value_Right [.t 12], none⟩,
⟨some 14, .un .not (.t 13), none⟩]
[3, 5, 6, 7, 8, 14])
(.cond (.t 14)
(.seq (.reg [⟨some 2, .nilrow t_uint8 1, none⟩]
[2])
.ret)
.skip))
(.reg [⟨some 15, .mov (.t 3), none⟩,
⟨some 16, .loadN (.t 5) 4, none⟩,
⟨some 17, .call n_key_one [.t 16], none⟩,
⟨some 18, .app t_uint8 1 1 (.t 15) (.t 17), none⟩,
⟨some 3, .mov (.t 18), none⟩]
[3, 6, 7, 8]))))
(.reg [⟨some 19, .bin .add (.t 8) (.k (.int .i64 1)), none⟩,
⟨some 8, .mov (.t 19), none⟩]
[3, 6, 7, 8])))))))
(.seq (.reg [⟨some 20, .mov (.t 3), none⟩,
⟨some 2, .mov (.t 20), none⟩]
[2])
.ret))))⟩
theorem k_key_Of : chkF Tryz.prog Tryz.f68 c_key_Of = true := by kernel_rfl
theorem pc_key_Of {G : Nat → Option AV} {args : List AV} {r : AV} (h : Runs Tryz.prog G c_key_Of args r) (hk : args.length = c_key_Of.k := by rfl) : PureC Tryz.prog G n_key_Of args r := PureC.of_runs (fn := Tryz.f68) (A := c_key_Of) Tryz.func68 k_key_Of hk h
def c_key_one : AFun := ⟨32, 1, [.t 2],
  (.seq (.reg [⟨some 1, .box t_api_Value 4 (.t 0), none⟩,
⟨some 2, .nilrow t_uint8 1, none⟩]
[1])
(.seq (.reg [⟨some 4, .faddr (.t 1) 0, none⟩,
⟨some 5, .load (.t 4), none⟩,
⟨some 6, .conv .u8 (.t 5), none⟩,
⟨some 7, .mkrow t_uint8 1 1 (.int .u8 0) [(0, .t 6)], none⟩,
⟨some 3, .mov (.t 7), none⟩]
[1, 3])
(.seq (.seq (.reg [⟨some 8, .faddr (.t 1) 0, none⟩,
⟨some 9, .load (.t 8), none⟩]
[1, 3, 9])
(.block 0
(.seq (.reg [⟨some 11, .bin .eql (.t 9) (.k (.int .i64 1)), none⟩,
⟨some 10, .mov (.t 11), none⟩]
[1, 3, 9, 10])
(.cond (.t 10)
(.seq (.reg [⟨some 12, .mov (.t 3), none⟩,
⟨some 13, .faddr (.t 1) 1, none⟩,
⟨some 14, .load (.t 13), none⟩,
⟨some 15, .call n_key_number [.t 14], none⟩,
⟨some 16, .app t_uint8 1 1 (.t 12) (.t 15), none⟩,
⟨some 2, .mov (.t 16), none⟩]
[2])
.ret)
(.seq (.reg [⟨some 18, .bin .eql (.t 9) (.k (.int .i64 2)), none⟩,
⟨some 17, .mov (.t 18), none⟩]
[1, 3, 17])
(.cond (.t 17)
(.seq (.reg [⟨some 19, .mov (.t 3), none⟩,
⟨some 20, .faddr (.t 1) 2, none⟩,
⟨some 21, .load (.t 20), none⟩,
⟨some 22, .call n_key_text [.t 21], none⟩,
⟨some 23, .app t_uint8 1 1 (.t 19) (.t 22), none⟩,
⟨some 2, .mov (.t 23), none⟩]
[2])
.ret)
.skip))))))
(.seq (.seq (.reg [⟨some 24, .faddr (.t 1) 3, none⟩,
⟨some 25, .load (.t 24), none⟩]
[3, 25])
(.cond (.t 25)
(.seq (.reg [⟨some 26, .mov (.t 3), none⟩,
⟨some 27, .mkrow t_uint8 1 1 (.int .u8 0) [(0, .k (.int .u8 1))], none⟩,
⟨some 28, .app t_uint8 1 1 (.t 26) (.t 27), none⟩,
⟨some 2, .mov (.t 28), none⟩]
[2])
.ret)
.skip))
(.seq (.reg [⟨some 29, .mov (.t 3), none⟩,
⟨some 30, .mkrow t_uint8 1 1 (.int .u8 0) [(0, .k (.int .u8 0))], none⟩,
⟨some 31, .app t_uint8 1 1 (.t 29) (.t 30), none⟩,
⟨some 2, .mov (.t 31), none⟩]
[2])
.ret)))))⟩
theorem k_key_one : chkF Tryz.prog Tryz.f127 c_key_one = true := by kernel_rfl
theorem pc_key_one {G : Nat → Option AV} {args : List AV} {r : AV} (h : Runs Tryz.prog G c_key_one args r) (hk : args.length = c_key_one.k := by rfl) : PureC Tryz.prog G n_key_one args r := PureC.of_runs (fn := Tryz.f127) (A := c_key_one) Tryz.func127 k_key_one hk h
def c_key_text : AFun := ⟨27, 1, [.t 2],
  (.seq (.reg [⟨some 2, .nilrow t_uint8 1, none⟩]
[0])
(.seq (.reg [⟨some 3, .nilrow t_uint8 1, none⟩]
[0, 3])
(.seq (.seq (.reg [⟨some 5, .mov (.t 0), none⟩,
⟨some 6, .len true (.t 5), none⟩,
⟨some 7, .mov (.k (.int .i64 0)), none⟩]
[0, 3, 6, 7])
(.block 0
(.loop [0, 3, 6, 7] [2, 3, 6, 15, 22]
  (.seq (.reg [⟨some 8, .bin .lss (.t 7) (.t 6), none⟩]
[0, 3, 6, 7, 8])
(.seq (.cond (.t 8)
.skip
(.exit 0))
(.seq (.block 1
(.seq (.reg [⟨some 9, .mov (.t 7), none⟩,
⟨some 4, .mov (.t 9), none⟩]
[0, 3, 4, 6, 7])
(.seq (.reg [⟨some 10, .mov (.t 3), none⟩,
⟨some 11, .mov (.t 0), none⟩,
⟨some 12, .mov (.t 4), none⟩,
⟨some 13, .idx (.t 11) (.t 12), none⟩,
⟨some 14, .mkrow t_uint8 1 1 (.int .u8 0) [(0, .t 13)], none⟩,
⟨some 15, .app t_uint8 1 1 (.t 10) (.t 14), none⟩,
⟨some 3, .mov (.t 15), none⟩]
[0, 3, 4, 6, 7])
(.seq (.reg [⟨some 16, .mov (.t 0), none⟩,
⟨some 17, .mov (.t 4), none⟩,
⟨some 18, .idx (.t 16) (.t 17), none⟩,
⟨some 19, .bin .eql (.t 18) (.k (.int .u8 0)), none⟩]
[0, 3, 6, 7, 19])
(.cond (.t 19)
(.reg [⟨some 20, .mov (.t 3), none⟩,
⟨some 21, .mkrow t_uint8 1 1 (.int .u8 0) [(0, .k (.int .u8 255))], none⟩,
⟨some 22, .app t_uint8 1 1 (.t 20) (.t 21), none⟩,
⟨some 3, .mov (.t 22), none⟩]
[0, 3, 6, 7])
.skip)))))
(.reg [⟨some 23, .bin .add (.t 7) (.k (.int .i64 1)), none⟩,
⟨some 7, .mov (.t 23), none⟩]
[0, 3, 6, 7])))))))
(.seq (.reg [⟨some 24, .mov (.t 3), none⟩,
⟨some 25, .mkrow t_uint8 1 2 (.int .u8 0) [(0, .k (.int .u8 0)), (1, .k (.int .u8 1))], none⟩,
⟨some 26, .app t_uint8 1 1 (.t 24) (.t 25), none⟩,
⟨some 2, .mov (.t 26), none⟩]
[2])
.ret))))⟩
theorem k_key_text : chkF Tryz.prog Tryz.f187 c_key_text = true := by kernel_rfl
theorem pc_key_text {G : Nat → Option AV} {args : List AV} {r : AV} (h : Runs Tryz.prog G c_key_text args r) (hk : args.length = c_key_text.k := by rfl) : PureC Tryz.prog G n_key_text args r := PureC.of_runs (fn := Tryz.f187) (A := c_key_text) Tryz.func187 k_key_text hk h
end Go.Proofs.YtjbcfpkibnhodaaGreatDoor.Ab
