/-
  Lists of values, and functions handed over: what proofs about loops share. Numbers as texts, in plain words. The numbers of functions and types. No claim is proved here.
-/
import Derived.Test.YtjbcfpkibnhodaaGreatDoorWAbRun
import Derived.Lib.ItoaNum
import Derived.Test.YtjbcfpkibnhodaaGreatDoorProg
namespace Go.Proofs.YtjbcfpkibnhodaaGreatDoor.Ab
open Go
abbrev iv (n : Int) : AV := .int .i64 n
abbrev Str := List UInt8
theorem fe_ {a b : AV} (h : a = b) : Fit a b := h ▸ .refl _
theorem fitB {a b : Bool} (h : a = b) : Fit (.bool a) (.bool b) := h ▸ .refl _
theorem fitI {a b : Int} (h : a = b) : Fit (iv a) (iv b) := h ▸ .refl _
structure OkC (caps : List AV) : Prop where
  purge : ∀ i, purge.go i caps = caps
  viewK : ∀ rec H, viewK.go rec H caps = some caps
  view : ∀ H, view.go H caps = some caps
  thaw : ∀ i b, thaw.go i b caps = caps
  viewBs : ∀ H, viewBs H caps = some caps
  viewAll : ∀ H, viewAll H caps = some caps
theorem okC_nil : OkC [] := ⟨fun _ => rfl, fun _ _ => rfl, fun _ => rfl, fun _ _ => rfl, fun _ => rfl, fun _ => rfl⟩
theorem am_ {α : Type} {e : α → AV} {H : List (Nat × Box)} {sz : Nat} {l : List α} {i : Nat} {x : α} (h : l[i]? = some x) : aiaddr H sz (.seq sz (l.map e)) (.int .i64 (i : Int)) = some (.eptr (e x) 0) :=
  aiaddr_seq _ (by omega) (by simp [h])
theorem ws_ {i n : Nat} (h : i < n) (hn : n < 9223372036854775808) : IntKind.i64.wrap ((i : Int) + 1) = ((i + 1 : Nat) : Int) := by rw [wi_ (by omega) (by omega)]; omega
theorem as10 {α : Type} {l : List α} {i : Nat} (h : i < l.length) : ∃ x, l[i]? = some x ∧ x ∈ l := ⟨l[i], List.getElem?_eq_getElem h, List.getElem_mem h⟩
def idxF {α : Type} (p : α → Bool) (l : List α) : Int := match l.findIdx? p with | some i => (i : Int) | none => -1
theorem idxF_at {α : Type} {p : α → Bool} {l : List α} {i : Nat} {x : α} (hx : l[i]? = some x) (hp : p x = true) (hno : ∀ j y, j < i → l[j]? = some y → p y = false) : idxF p l = i := by
  have : l.findIdx? p = some i := by
    rw [List.findIdx?_eq_some_iff_getElem]
    obtain ⟨hlt, rfl⟩ := List.getElem?_eq_some_iff.1 hx
    exact ⟨hlt, hp, fun j hj => by simp [hno j _ hj (List.getElem?_eq_getElem (by omega))]⟩
  simp [idxF, this]
theorem idxF_none {α : Type} {p : α → Bool} {l : List α} (hno : ∀ j y, j < l.length → l[j]? = some y → p y = false) : idxF p l = -1 := by
  have : l.findIdx? p = none := by
    rw [List.findIdx?_eq_none_iff]
    intro x hx
    obtain ⟨j, hj⟩ := List.getElem?_of_mem hx
    exact hno j x (List.getElem?_eq_some_iff.1 hj).1 hj
  simp [idxF, this]
theorem idxF_any {α : Type} (p : α → Bool) (l : List α) : decide (0 ≤ idxF p l) = l.any p := by
  unfold idxF
  cases h : l.findIdx? p with
  | none =>
    rw [List.findIdx?_eq_none_iff] at h
    rw [show l.any p = false by rw [List.any_eq_false]; intro x hx; simp [h x hx]]
    rfl
  | some i =>
    rw [List.findIdx?_eq_some_iff_getElem] at h
    obtain ⟨hlt, hp, _⟩ := h
    rw [show l.any p = true by rw [List.any_eq_true]; exact ⟨l[i], List.getElem_mem hlt, hp⟩]
    simp
def allI {α : Type} (p : Nat → α → Bool) (l : List α) : Bool := l.zipIdx.all fun x => p x.2 x.1
theorem at10 {α : Type} {p : Nat → α → Bool} {l : List α} : allI p l = true ↔ ∀ i x, l[i]? = some x → p i x = true := by
  simp only [allI, List.all_eq_true, Prod.forall]
  constructor
  · intro h i x hx
    exact h x i (by rw [List.mem_zipIdx_iff_getElem?]; exact hx)
  · intro h x i hx
    rw [List.mem_zipIdx_iff_getElem?] at hx
    exact h i x hx
theorem af_ {α : Type} {p : Nat → α → Bool} {l : List α} {i : Nat} {x : α} (hx : l[i]? = some x) (hp : p i x = false) : allI p l = false := by
  cases h : allI p l with
  | false => rfl
  | true => rw [at10.1 h i x hx] at hp; cases hp
theorem allI_const {α : Type} (p : α → Bool) (l : List α) : allI (fun _ => p) l = l.all p := by
  rw [Bool.eq_iff_iff, at10, List.all_eq_true]
  exact ⟨fun h x hx => let ⟨i, hi⟩ := List.getElem?_of_mem hx; h i x hi, fun h i x hx => h x (List.mem_of_getElem? hx)⟩
theorem allI_step {α : Type} {p : Nat → α → Bool} {l : List α} {i : Nat} {x : α} (hx : l[i]? = some x) (hp : p i x = true) (h : ∀ j y, j < i → l[j]? = some y → p j y = true) : ∀ j y, j < i + 1 → l[j]? = some y → p j y = true := fun j y hj hy => by
  by_cases e : j = i
  · subst e; rw [hx] at hy; cases hy; exact hp
  · exact h j y (by omega) hy
theorem allI_all {α : Type} {p : Nat → α → Bool} {l : List α} {i : Nat} (hi : l.length ≤ i) (h : ∀ j y, j < i → l[j]? = some y → p j y = true) : allI p l = true := at10.2 fun j y hj => h j y (by have := (List.getElem?_eq_some_iff.1 hj).1; omega) hj
end Go.Proofs.YtjbcfpkibnhodaaGreatDoor.Ab
namespace Go.Proofs.YtjbcfpkibnhodaaGreatDoor.Ab
open Go
set_option linter.unusedSimpArgs false
theorem abin_adds {a b : Str} (h : a.length + b.length ≤ 9223372036854775807) : abin .add (.str a) (.str b) = some (.str (a ++ b)) := by simp [abin, h]
def i64 (n : Int) : Prop := -9223372036854775808 ≤ n ∧ n < 9223372036854775808
end Go.Proofs.YtjbcfpkibnhodaaGreatDoor.Ab
namespace Go.Proofs.YtjbcfpkibnhodaaGreatDoor.Ab
open Go
abbrev t_int : Nat := 3
abbrev t_bool : Nat := 4
abbrev ts_ : Nat := 9
abbrev taQ_ : Nat := 30
abbrev taC_ : Nat := 43
abbrev t_api_Event : Nat := 72
abbrev taV_ : Nat := 95
abbrev ta10 : Nat := 97
abbrev t_api_Quant : Nat := 99
abbrev t_api_Free : Nat := 104
abbrev t_api_State : Nat := 106
abbrev t_Sstring : Nat := 115
abbrev t_Sint : Nat := 120
abbrev t_api_Decl : Nat := 122
abbrev taS_ : Nat := 125
abbrev t_api_Arg : Nat := 127
abbrev t_api_Node : Nat := 129
abbrev taT_ : Nat := 132
abbrev t_subset_pair : Nat := 135
abbrev t_subset_Auto : Nat := 137
abbrev taH_ : Nat := 147
abbrev t_api_Set : Nat := 195
abbrev t_Score_expr : Nat := 252
abbrev tce_ : Nat := 255
abbrev t_func_int_int_bool : Nat := 256
abbrev n_proctorlaw28_SubsetHits : Nat := 5
abbrev n_proctorref18_Same : Nat := 13
abbrev n_proctorref13_Few : Nat := 25
abbrev np10 : Nat := 26
abbrev n_subset_New : Nat := 27
abbrev n_proctorref13_Right : Nat := 28
abbrev n_proctorref28_Plain : Nat := 29
abbrev n_subset_Auto_Start : Nat := 30
abbrev n_subset_Auto_Next : Nat := 31
abbrev n_subset_Auto_Set : Nat := 32
abbrev n_subset_Auto_Accepts : Nat := 33
abbrev n_subset_Auto_Known : Nat := 34
abbrev n_proctorref28_Set : Nat := 39
abbrev n_proctorref05_Right : Nat := 40
abbrev n_proctorref08_Right : Nat := 41
abbrev n_proctorref17_Under : Nat := 42
abbrev n_proctorref17_All : Nat := 43
abbrev n_subset_Auto_Hits : Nat := 44
abbrev n_proctorref19_All : Nat := 45
abbrev n_proctorref18_Put : Nat := 54
abbrev n_proctorref18_One : Nat := 59
abbrev n_core_Right : Nat := 69
abbrev n_core_Plain : Nat := 70
abbrev n_proctorref07_Check : Nat := 71
abbrev n_proctorref13_names : Nat := 72
abbrev n_proctorref13_trans : Nat := 73
abbrev n_proctorref13_symbols : Nat := 74
abbrev n_joint_Next : Nat := 75
abbrev npR_ : Nat := 76
abbrev n_proctorref07_Find : Nat := 77
abbrev n_proctorref05_Under : Nat := 78
abbrev n_proctorref17_Hit : Nat := 79
abbrev n_proctorref19_One : Nat := 80
abbrev n_proctorref19_worse : Nat := 81
abbrev ns12 : Nat := 86
abbrev nsCaSaS_ : Nat := 99
abbrev np11 : Nat := 112
abbrev n_value_Right : Nat := 120
abbrev n_core_few : Nat := 128
abbrev n_core_head : Nat := 129
abbrev n_core_trans : Nat := 130
abbrev n_core_symbols : Nat := 131
abbrev nsCaTaT_ : Nat := 132
abbrev n_core_Plain_1 : Nat := 133
abbrev npN_ : Nat := 134
abbrev n_proctorref13_twice : Nat := 135
abbrev n_proctorref13_Kind : Nat := 136
abbrev n_proctorref13_bound : Nat := 137
abbrev n_proctorref13_symbol : Nat := 138
abbrev n_proctorref13_SameSymbol : Nat := 139
abbrev n_proctorref13_Names : Nat := 140
abbrev npG_ : Nat := 141
abbrev n_proctorref05_Fits : Nat := 142
abbrev n_proctorref05_Union : Nat := 143
abbrev n_proctorref17_put : Nat := 144
abbrev n_proctorref19_fired : Nat := 145
abbrev n_slices_Index_int_int : Nat := 147
abbrev nsCii_ : Nat := 149
abbrev nsCaAaA_ : Nat := 154
abbrev ns10 : Nat := 155
abbrev nsIaSaS_ : Nat := 161
abbrev npV_ : Nat := 164
abbrev npL_ : Nat := 167
abbrev n_value_Int : Nat := 178
abbrev n_value_Str : Nat := 179
abbrev n_value_Bool : Nat := 180
abbrev n_schema_Check : Nat := 188
abbrev n_schema_Name : Nat := 189
abbrev n_core_names : Nat := 190
abbrev n_core_all_api_Quant : Nat := 191
abbrev n_core_head_1 : Nat := 192
abbrev n_value_Name : Nat := 193
abbrev n_core_all_api_Free : Nat := 194
abbrev n_core_head_2 : Nat := 195
abbrev n_core_exprs : Nat := 196
abbrev n_core_trans_1 : Nat := 197
abbrev n_core_trans_2 : Nat := 198
abbrev n_core_trans_2_1 : Nat := 199
abbrev n_core_trans_2_1_1 : Nat := 200
abbrev n_core_all_api_Set : Nat := 201
abbrev n_core_all_api_Node : Nat := 202
abbrev n_core_trans_2_2 : Nat := 203
abbrev n_core_Stands : Nat := 204
abbrev n_core_all_api_Trans : Nat := 205
abbrev n_core_symbols_1 : Nat := 206
abbrev n_core_symbol : Nat := 207
abbrev n_core_symbols_1_1 : Nat := 208
abbrev n_core_sameSymbol : Nat := 209
abbrev n_core_all_int : Nat := 210
abbrev n_core_symbols_2 : Nat := 211
abbrev n_core_all_api_Symbol : Nat := 212
abbrev n_core_symbols_3 : Nat := 213
abbrev n_core_symbols_3_1 : Nat := 214
abbrev nsIaTaT_ : Nat := 215
abbrev n_proctorref07_Words : Nat := 216
abbrev n_proctorref07_Spelt : Nat := 217
abbrev npb_ : Nat := 218
abbrev n_proctorref13_arg : Nat := 219
abbrev n_proctorref19_free : Nat := 220
abbrev n_proctorref16_Guard : Nat := 221
abbrev n_proctorref16_Sets : Nat := 222
abbrev nsIii_ : Nat := 223
abbrev nsIaAaA_ : Nat := 224
abbrev ns11 : Nat := 225
abbrev npO_ : Nat := 231
abbrev n_proctorref03_Below : Nat := 233
abbrev n_schema_one : Nat := 244
abbrev n_schema_Spelt : Nat := 245
abbrev n_schema_Word : Nat := 246
abbrev n_core_all_string : Nat := 247
abbrev n_core_names_1 : Nat := 248
abbrev nsIss_ : Nat := 249
abbrev n_core_leaf : Nat := 250
abbrev n_value_Type : Nat := 251
abbrev nsEaAiaAi_ : Nat := 252
abbrev n_core_symbol_1 : Nat := 253
abbrev n_core_arg : Nat := 254
abbrev nsEaAaA_ : Nat := 255
abbrev n_proctorref13_Type : Nat := 256
abbrev npt_ : Nat := 261
abbrev npa_ : Nat := 262
abbrev n_schema_Find : Nat := 270
abbrev n_schema_one_1 : Nat := 271
abbrev n_schema_Spelt_1 : Nat := 272
abbrev n_strings_IndexFunc : Nat := 273
abbrev nsCss_ : Nat := 274
abbrev n_value_when : Nat := 275
abbrev n_proctorref01_Add : Nat := 285
abbrev npn_ : Nat := 286
abbrev npS_ : Nat := 287
abbrev n_proctorref01_Mul : Nat := 288
abbrev n_proctorref01_Div : Nat := 289
abbrev nsIaDaD_ : Nat := 294
abbrev n_schema_Find_1 : Nat := 295
abbrev n_strings_indexFunc : Nat := 296
theorem pcR {f : Nat} {fn : Func} {A : AFun} (hf : Tryz.prog.funcs[f]? = some fn) (hc : chkF Tryz.prog fn A = true) {G : Nat → Option AV} {args : List AV} {r : AV} (h : Runs Tryz.prog G A args r) (hk : args.length = A.k := by rfl) : P_ Tryz.prog G f args r := P_.of_runs hf hc hk h
abbrev op (d : Nat) (x : AOp) : AO := ⟨some d, x, none⟩
end Go.Proofs.YtjbcfpkibnhodaaGreatDoor.Ab
