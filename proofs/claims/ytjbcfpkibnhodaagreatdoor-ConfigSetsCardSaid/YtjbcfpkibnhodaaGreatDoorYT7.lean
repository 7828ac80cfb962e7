/-
  Texts of values, in plain words; proctorref01.Text, proctorref02.Quote, proctorref03.Text. The library's texts, by the shelf's contracts: strings.Join, strconv.FormatInt, strings.Builder; quote.one, quote.Quote. quote.one, quote.Quote. num.Text, value.Text, core.Symbol: a symbol's text. The law CoreSymbols: plain part. The law CoreSymbols; how its automaton is read. How an automaton is read whose symbols' numbers are numbers. No claim is proved here.
-/
import Derived.Test.YtjbcfpkibnhodaaGreatDoorYD5
import Derived.Lib.ItoaNum
import Derived.Test.YtjbcfpkibnhodaaGreatDoorYT8
import Derived.WalkKit
import Derived.Lib.Builder
import Derived.Lib.Walk
import Derived.Lib.AppendIntMem
import Derived.Test.YtjbcfpkibnhodaaGreatDoorYAbTrod
import Derived.Lib.AppendStr
import Derived.Test.YtjbcfpkibnhodaaGreatDoorYV14
import Derived.Test.YtjbcfpkibnhodaaGreatDoorYAcR1
import Derived.Test.YtjbcfpkibnhodaaGreatDoorYD9
namespace Go.Proofs.YtjbcfpkibnhodaaGreatDoor.Ab
set_option linter.unusedSimpArgs false
open Go
set_option maxHeartbeats 4000000
variable {G : Nat → Option AV}
def hexD (n : Nat) : UInt8 := UInt8.ofNat (if n < 10 then 48 + n else 87 + n)
def shownS (c : UInt8) : Bool := decide (32 ≤ c.toNat) && (decide (c.toNat ≤ 126) && (!(c.toNat == 34) && !(c.toNat == 92)))
def oneS (c : UInt8) : Str :=
  if c.toNat = 34 then [92, 34] else if c.toNat = 92 then [92, 92] else if c.toNat = 10 then [92, 110] else if c.toNat = 13 then [92, 114] else if c.toNat = 9 then [92, 116]
  else if c.toNat < 32 ∨ 126 < c.toNat then [92, 120, hexD (c.toNat / 16), hexD (c.toNat % 16)] else [c]
def quoteS (s : Str) : Str := [34] ++ s.flatMap oneS ++ [34]
def valText (v : Val) : Str := if v.kind = 1 then Lib.itoa v.int else if v.kind = 2 then quoteS v.str else if v.bool = true then [116, 114, 117, 101] else [102, 97, 108, 115, 101]
theorem slc_hex {n : Int} (h0 : 0 ≤ n) (h1 : n < 16) : aslc 0 (.str [48, 49, 50, 51, 52, 53, 54, 55, 56, 57, 97, 98, 99, 100, 101, 102]) (some (.int .i64 n)) (some (.int .i64 (n + 1))) = some (.str [hexD n.toNat]) := by
  have : n = 0 ∨ n = 1 ∨ n = 2 ∨ n = 3 ∨ n = 4 ∨ n = 5 ∨ n = 6 ∨ n = 7 ∨ n = 8 ∨ n = 9 ∨ n = 10 ∨ n = 11 ∨ n = 12 ∨ n = 13 ∨ n = 14 ∨ n = 15 := by omega
  rcases this with rfl | rfl | rfl | rfl | rfl | rfl | rfl | rfl | rfl | rfl | rfl | rfl | rfl | rfl | rfl | rfl <;> rfl
theorem ref02_hex_pc (n : Int) (h0 : 0 ≤ n) (h1 : n < 16) : PureC Tryz.prog G n_proctorref02_hex [iv n] (.str [hexD n.toNat]) := by
  have w1 : IntKind.i64.wrap (n + 1) = n + 1 := wrap_i64 (by omega) (by omega)
  refine pc_proctorref02_hex (Runs.of fun Φ h => ?_)
  unfold c_proctorref02_hex
  simp -implicitDefEqProofs only [go_sem, slc_hex h0 h1, w1]
  exact h _ ⟨_, _, rfl, rfl, .refl _⟩
theorem u8_lt (c : UInt8) : c.toNat < 256 := c.toNat_lt
theorem ref02_One_pc (c : UInt8) : PureC Tryz.prog G n_proctorref02_One [.int .u8 c.toNat] (.str (oneS c)) := by
  have hc := u8_lt c
  have wc : IntKind.i64.wrap (c.toNat : Int) = c.toNat := wrap_i64 (by omega) (by omega)
  have hq : (c.toNat : Int).tdiv 16 = (c.toNat / 16 : Nat) := by rw [Int.tdiv_eq_ediv_of_nonneg (by omega)]; omega
  have hr : (c.toNat : Int).tmod 16 = (c.toNat % 16 : Nat) := by rw [Int.tmod_eq_emod_of_nonneg (by omega)]; omega
  have wq : IntKind.i64.wrap ((c.toNat / 16 : Nat) : Int) = (c.toNat / 16 : Nat) := wrap_i64 (by omega) (by omega)
  have h1 := ref02_hex_pc (G := G) ((c.toNat / 16 : Nat) : Int) (by omega) (by omega)
  have h2 := ref02_hex_pc (G := G) ((c.toNat % 16 : Nat) : Int) (by omega) (by omega)
  rw [Int.toNat_natCast] at h1 h2
  have a1 : abin .add (.str [92, 120]) (.str [hexD (c.toNat / 16)]) = some (.str [92, 120, hexD (c.toNat / 16)]) := abin_adds (by simp)
  have a2 : abin .add (.str [92, 120, hexD (c.toNat / 16)]) (.str [hexD (c.toNat % 16)]) = some (.str [92, 120, hexD (c.toNat / 16), hexD (c.toNat % 16)]) := abin_adds (by simp)
  have hu : UInt8.ofNat (c.toNat : Int).toNat = c := by rw [Int.toNat_natCast]; simp
  refine pc_proctorref02_One (Runs.of fun Φ h => ?_)
  unfold c_proctorref02_One
  generalize hx : hexD (c.toNat / 16) = x at *
  generalize hy : hexD (c.toNat % 16) = y at *
  generalize hw : oneS c = w at *
  unfold oneS at hw
  rw [hx, hy] at hw
  repeat' (first | (simp -implicitDefEqProofs only [go_sem, wc, hq, hr, wq, a1, a2, hu]) | refine at_guard (fun hb => ?_) (fun hb => ?_) | refine ⟨fun hb => ?_, fun hb => ?_⟩ | refine at_call (h1) rfl rfl ?_ | refine at_call (h2) rfl rfl ?_ | fail)
  all_goals
    refine h _ ⟨_, _, rfl, rfl, fit_eq ?_⟩
    rw [← hw]
    clear h h1 h2 a1 a2 hw hx hy hq hr wq wc hu
    simp only [beq_iff_eq, beq_eq_false_iff_ne, decide_eq_true_eq, decide_eq_false_iff_not, Bool.not_true, Bool.not_false] at *
    first
      | (rw [if_pos (by omega)]; done)
      | (rw [if_neg (by omega), if_pos (by omega)]; done)
      | (rw [if_neg (by omega), if_neg (by omega), if_pos (by omega)]; done)
      | (rw [if_neg (by omega), if_neg (by omega), if_neg (by omega), if_pos (by omega)]; done)
      | (rw [if_neg (by omega), if_neg (by omega), if_neg (by omega), if_neg (by omega), if_pos (by omega)]; done)
      | (rw [if_neg (by omega), if_neg (by omega), if_neg (by omega), if_neg (by omega), if_neg (by omega), if_pos (by omega)]; done)
      | (rw [if_neg (by omega), if_neg (by omega), if_neg (by omega), if_neg (by omega), if_neg (by omega), if_neg (by omega)]; done)
      | (rw [if_neg (by omega), if_neg (by omega), if_neg (by omega), if_neg (by omega), if_neg (by omega), if_neg (by omega)]; simp)
theorem oneS_len (c : UInt8) : 1 ≤ (oneS c).length ∧ (oneS c).length ≤ 4 := by
  unfold oneS
  repeat' split
  all_goals simp
theorem flatOne_len (s : Str) : (s.flatMap oneS).length ≤ 4 * s.length := by
  induction s with
  | nil => simp
  | cons c r ih =>
    have := oneS_len c
    rw [List.flatMap_cons, List.length_append, List.length_cons]
    omega
theorem take_flat_succ {s : Str} {i : Nat} {c : UInt8} (h : s[i]? = some c) : (s.take (i + 1)).flatMap oneS = (s.take i).flatMap oneS ++ oneS c := by
  rw [List.take_add_one, h]
  simp
theorem ref02_Quote_pc (s : Str) (hs : s.length ≤ 1000000) : PureC Tryz.prog G n_proctorref02_Quote [.str s] (.str (quoteS s)) := by
  refine pc_proctorref02_Quote (Runs.of fun Φ h => ?_)
  unfold c_proctorref02_Quote
  simp -implicitDefEqProofs only [go_sem]
  refine at_loop (fun n st => ∃ (i : Nat) (o : Str), i + n = s.length ∧ st = ⟨19, [(0, .str s), (3, .str o), (4, iv i)], []⟩ ∧ o = 34 :: (s.take i).flatMap oneS) s.length ⟨0, [34], by simp, rfl, by simp⟩ ?_
  rintro I hI n st ⟨i, o, hi, rfl, rfl⟩
  simp -implicitDefEqProofs only [go_sem]
  refine ⟨fun hlt => ?_, fun hge => ?_⟩
  · have hlt' : i < s.length := by omega
    obtain ⟨c, hc, hm⟩ := at_some hlt'
    have hw := wrap_succ hlt' (by omega)
    have h1 := ref02_One_pc (G := G) c
    have hl := flatOne_len (s.take i)
    have ho := oneS_len c
    have htl : (s.take i).length = i := by simp; omega
    have ha : abin .add (.str (34 :: (s.take i).flatMap oneS)) (.str (oneS c)) = some (.str (34 :: (s.take i).flatMap oneS ++ oneS c)) := abin_adds (by rw [List.length_cons]; omega)
    have hnext : again I n ⟨19, [(0, .str s), (3, .str (34 :: (s.take i).flatMap oneS ++ oneS c)), (4, iv (i + 1 : Nat))], []⟩ := at_again (n - 1) (by omega) (hI _ _ ⟨i + 1, _, by omega, rfl, by rw [take_flat_succ hc]; simp⟩)
    generalize 34 :: (s.take i).flatMap oneS = P at *
    generalize oneS c = o at *
    repeat' (first | (simp -implicitDefEqProofs only [go_sem, aidx_at hc, ha, hw]) | refine at_guard (fun hb => ?_) (fun hb => ?_) | refine ⟨fun hb => ?_, fun hb => ?_⟩ | refine at_call (h1) rfl rfl ?_ | fail)
    exact hnext
  · rw [List.take_of_length_le (by omega)]
    have hl := flatOne_len s
    have ha : abin .add (.str (34 :: s.flatMap oneS)) (.str [34]) = some (.str (34 :: s.flatMap oneS ++ [34])) := abin_adds (by rw [List.length_cons]; simp only [List.length_cons, List.length_nil]; omega)
    have hq : quoteS s = 34 :: s.flatMap oneS ++ [34] := rfl
    rw [hq] at h
    generalize 34 :: s.flatMap oneS = P at *
    try (simp -implicitDefEqProofs only [go_sem, ha])
    exact h _ ⟨_, _, rfl, rfl, .refl _⟩
theorem ref03_Text_pc (v : Val) (hn : i64 v.int) (hs : v.str.length ≤ 1000000) : PureC Tryz.prog G n_proctorref03_Text [valV v] (.str (valText v)) := by
  obtain ⟨k, n, s, b⟩ := v
  have h1 := ref01_Text_pc (G := G) (n.natAbs + 1) n (by omega) hn
  have h2 := ref02_Quote_pc (G := G) s hs
  refine pc_proctorref03_Text (Runs.of fun Φ h => ?_)
  unfold c_proctorref03_Text
  unfold valText at h
  dsimp only at h
  generalize Lib.itoa n = x at *
  generalize quoteS s = y at *
  repeat' (first | (simp -implicitDefEqProofs only [go_sem, valV]) | refine at_guard (fun hb => ?_) (fun hb => ?_) | refine ⟨fun hb => ?_, fun hb => ?_⟩ | refine at_call (h1) rfl rfl ?_ | refine at_call (h2) rfl rfl ?_ | fail)
  all_goals
    refine h _ ⟨_, _, rfl, rfl, fit_eq ?_⟩
    clear h h1 h2
    simp_all
end Go.Proofs.YtjbcfpkibnhodaaGreatDoor.Ab
namespace Go.Proofs.YtjbcfpkibnhodaaGreatDoor.Ab
set_option linter.unusedSimpArgs false
open Go Go.RowKit
variable {G : Nat → Option AV} {P : Program}
theorem builder_byte (B b : Nat) (bs : List Value) (c : Int) (w : World) (h : Lib.IsBuilder 168 5 B b bs w) (hlen : bs.length + 1 ≤ 140737488355328) (hBw : B ≤ w.heap.size) :
    Calls Tryz.prog 182 #[.pointer (some ⟨b, 0, none⟩), .int .u8 c] w fun e w' => e = .returned .nilIface ∧ (Lib.IsBuilder 168 5 B b (bs ++ [.int .u8 c]) w' ∧ Below B w w') :=
  (Any.Builder_WriteByte Tryz.laysW Tryz.extraW B b bs c w h hlen hBw).mono fun _ _ ⟨h1, h2, h3⟩ => ⟨h1, .inr h2, h3⟩
theorem builder_str (B b : Nat) (bs : List Value) (s : Str) (w : World) (h : Lib.IsBuilder 168 5 B b bs w) (hlen : bs.length + s.length ≤ 140737488355328) (hBw : B ≤ w.heap.size) :
    Calls Tryz.prog 101 #[.pointer (some ⟨b, 0, none⟩), .string ⟨s.toArray⟩] w fun e w' => e = .returned (.tuple #[.int .i64 s.length, .nilIface]) ∧ (Lib.IsBuilder 168 5 B b (bs ++ Lib.byteCells s) w' ∧ Below B w w') := by
  have hs : (⟨s.toArray⟩ : ByteArray).size = s.length := by simp [ByteArray.size]
  refine (Any.Builder_WriteString { Tryz.lays156 with } Tryz.Builder_Extra_156 B b bs ⟨s.toArray⟩ w h (by rw [hs]; exact hlen) hBw).mono ?_
  rintro e w' ⟨rfl, h2, h3⟩
  rw [hs]
  exact ⟨rfl, .inr (by rw [← Lib.strCells_toArray]; exact h2), h3⟩
end Go.Proofs.YtjbcfpkibnhodaaGreatDoor.Ab
namespace Go.Proofs.YtjbcfpkibnhodaaGreatDoor.Ab
set_option linter.unusedSimpArgs false
open Go Go.RowKit
variable {G : Nat → Option AV}
def marksL : List Int := [34, 92, 10, 13, 9]
def lettersL : List Int := [34, 92, 110, 114, 116]
theorem quote_shown_pc (c : UInt8) : PureC Tryz.prog G n_quote_shown [.int .u8 c.toNat] (.bool (shownS c)) := by
  refine pc_quote_shown (Runs.of fun Φ h => ?_)
  unfold c_quote_shown
  repeat' (first | (simp -implicitDefEqProofs only [go_sem]) | refine at_guard (fun hb => ?_) (fun hb => ?_) | refine ⟨fun hb => ?_, fun hb => ?_⟩ | fail)
  all_goals
    refine h _ ⟨_, _, rfl, rfl, fitB ?_⟩
    clear h
    unfold shownS
    rw [Bool.eq_iff_iff]
    simp at *
    try omega
theorem foldl_push2 : ∀ (l : List UInt8) (acc : ByteArray), (l.map fun b => (b.toNat : Int)).foldl (fun r n => r.push (UInt8.ofNat n.toNat)) acc = ⟨acc.data ++ l.toArray⟩
  | [], acc => by simp
  | c :: l, acc => by
    rw [List.map_cons, List.foldl_cons, foldl_push2 l, Int.toNat_natCast]
    simp [ByteArray.push]
theorem run_conv {t s e : Nat} (hs : Tryz.prog.underlying s = some (.slice e)) (he : Tryz.prog.underlying e = some (.int .u8)) (hd : Tryz.prog.underlying t = some .string) (w : World) (b o cap : Nat) (l : List UInt8)
    (h : ∀ (j : Nat) c, l[j]? = some c → w.cell? ⟨b, o + j, none⟩ = some (.int .u8 c.toNat)) : (convert s t (.slice (some ⟨b, o, none⟩) l.length cap)).run Tryz.prog w = .ok (.string ⟨l.toArray⟩) w := by
  rw [run_convert_bytes_string w s t e _ _ _ hs he hd, run_bytesToString w ⟨b, o, none⟩ l.length cap (l.map fun b => (b.toNat : Int)) ?_, foldl_push2]
  · rw [show ByteArray.empty.data ++ l.toArray = l.toArray from by simp [ByteArray.empty, ByteArray.emptyWithCapacity]; rfl]
  · have := run_loadCells_list (P := Tryz.prog) (w := w) ⟨b, o, none⟩ (l.map fun c => Value.int .u8 c.toNat) (fun j v hv => by
      rw [List.getElem?_map] at hv
      obtain ⟨c, hc, rfl⟩ := Option.map_eq_some_iff.1 hv
      have e := h j c hc
      unfold Addr.add
      by_cases hj : j = 0
      · subst hj
        simpa using e
      · simpa [hj] using e)
    rw [List.length_map] at this
    rw [this, List.map_map]
    rfl
theorem tab_slice {w : World} {F : Nat → Prop} {g : Nat} {k : IntKind} {l : List Int} (_hl : 0 < l.length) (hm : l.length ≤ maxLen) (hg : Good w F G) (h : G g = some (.agg (l.map (AV.int k)))) : Rd w F noNames (.seq 1 (l.map (AV.int k))) (.slice (some ⟨g, 0, none⟩) l.length l.length) := by
  have h1 := (hg.2 g _ h).1
  cases h1 with
  | eptr _ _ _ _ _ u hF hw h1 h =>
    have key := Rd.seq (w := w) (F := F) noNames 1 (l.map (AV.int k)) g 0 l.length u (by decide) hF (by simp) hm (fun e he => by obtain ⟨n, _, rfl⟩ := List.mem_map.1 he; rfl)
      (fun p hp => by simpa [AV.cells] using hw p (by simpa [AV.cells] using hp)) (fun p hp => h1 p (by simpa [AV.cells] using hp))
      (fun i e j c hi hj => by
        rw [List.getElem?_map] at hi
        obtain ⟨n, hn, rfl⟩ := Option.map_eq_some_iff.1 hi
        match j, hj with
        | 0, hj =>
          cases hj
          simpa using h i (.int k n) (by simp [AV.cells, hn]))
    simpa using key
theorem tab_cell {w : World} {F : Nat → Prop} {g : Nat} {k : IntKind} {l : List Int} (hg : Good w F G) (h : G g = some (.agg (l.map (AV.int k)))) {i : Nat} {n : Int} (hn : l[i]? = some n) : w.cell? ⟨g, i, none⟩ = some (.int k n) := by
  have h1 := (hg.2 g _ h).1
  have hi := (List.getElem?_eq_some_iff.1 hn).1
  cases h1 with
  | eptr _ _ _ _ _ u hF hw h1 h =>
    have e1 := hw i (by simpa [AV.cells] using hi)
    have e2 := h i (.int k n) (by simp [AV.cells, hn])
    rw [Nat.zero_add] at e1
    rw [e1]
    generalize u i = z at *
    cases e2
    rfl
theorem hex_at : ∀ (n : Nat) (h : n < (⟨#[48, 49, 50, 51, 52, 53, 54, 55, 56, 57, 97, 98, 99, 100, 101, 102]⟩ : ByteArray).size), (⟨#[48, 49, 50, 51, 52, 53, 54, 55, 56, 57, 97, 98, 99, 100, 101, 102]⟩ : ByteArray)[n]'h = hexD n := by
  have : ∀ n : Fin 16, (⟨#[48, 49, 50, 51, 52, 53, 54, 55, 56, 57, 97, 98, 99, 100, 101, 102]⟩ : ByteArray)[n.val]'n.2 = hexD n := by decide
  exact fun n h => this ⟨n, h⟩
abbrev u8v (n : Int) : AV := .int .u8 n
set_option maxHeartbeats 4000000 in
theorem slices_Index_byte_byte_pc (l : List Int) (v : Int) (hl : l.length < 9223372036854775807) : PureC Tryz.prog G n_slices_Index_byte_byte [.seq 1 (l.map u8v), u8v v] (iv (idxF (fun x => v == x) l)) := by
  refine pc_slices_Index_byte_byte (Runs.of fun Φ h => ?_)
  unfold c_slices_Index_byte_byte
  simp -implicitDefEqProofs only [go_sem, List.length_map]
  refine at_loop (fun n st => ∃ i : Nat, i + n = l.length ∧ st = ⟨19, [(0, .seq 1 (l.map u8v)), (1, u8v v), (7, iv l.length), (8, iv i)], []⟩ ∧ ∀ j x, j < i → l[j]? = some x → (v == x) = false) l.length ⟨0, by simp, rfl, fun j x hj => by omega⟩ ?_
  rintro I hI n st ⟨i, hi, rfl, hno⟩
  simp -implicitDefEqProofs only [go_sem]
  refine ⟨fun hlt => ?_, fun hge => ?_⟩
  · have hlt' : i < l.length := by omega
    obtain ⟨x, hx, hm⟩ := at_some hlt'
    have hw := wrap_succ hlt' (by omega)
    have fin : (v == x) = false → again I n ⟨19, [(0, .seq 1 (l.map u8v)), (1, u8v v), (7, iv l.length), (8, iv (i + 1 : Nat))], []⟩ := fun hv => at_again (n - 1) (by omega) (hI _ _ ⟨i + 1, by omega, rfl, fun j y hj hy => by
        by_cases e : j = i
        · subst e; rw [hx] at hy; cases hy; exact hv
        · exact hno j y (by omega) hy⟩)
    simp -implicitDefEqProofs only [go_sem, aiaddr_map hx]
    refine ⟨fun hb => ?_, fun hb => ?_⟩
    · have hv : (v == x) = true := by simpa using hb
      exact h _ ⟨_, _, rfl, rfl, fitI (idxF_at hx hv hno).symm⟩
    · have hv : (v == x) = false := by simpa using hb
      simp -implicitDefEqProofs only [go_sem, hw]
      exact fin hv
  · have : i = l.length := by omega
    subst this
    exact h _ ⟨_, _, rfl, rfl, fitI (idxF_none hno).symm⟩
theorem marks_at (c : UInt8) : idxF (fun x => (c.toNat : Int) == x) marksL = if c.toNat = 34 then 0 else if c.toNat = 92 then 1 else if c.toNat = 10 then 2 else if c.toNat = 13 then 3 else if c.toNat = 9 then 4 else -1 := by
  have h := u8_lt c
  unfold idxF marksL
  generalize c.toNat = n at *
  simp only [List.findIdx?_cons, List.findIdx?_nil]
  by_cases h1 : n = 34
  · subst h1; rfl
  by_cases h2 : n = 92
  · subst h2; rfl
  by_cases h3 : n = 10
  · subst h3; rfl
  by_cases h4 : n = 13
  · subst h4; rfl
  by_cases h5 : n = 9
  · subst h5; rfl
  rw [if_neg h1, if_neg h2, if_neg h3, if_neg h4, if_neg h5]
  simp [show ¬ (n : Int) = 34 by omega, show ¬ (n : Int) = 92 by omega, show ¬ (n : Int) = 10 by omega, show ¬ (n : Int) = 13 by omega, show ¬ (n : Int) = 9 by omega]
set_option maxHeartbeats 4000000 in
set_option maxRecDepth 100000 in
theorem quote_one_walk (hM : G 2 = some (.agg (marksL.map (AV.int .u8)))) (hL : G 3 = some (.agg (lettersL.map (AV.int .u8)))) (c : UInt8) (w : World) (F : Nat → Prop) (hg : Good w F G) :
    Calls Tryz.prog n_quote_one #[.int .u8 c.toNat] w fun e w' => e = .returned (.string ⟨(oneS c).toArray⟩) ∧ Below w.heap.size w w' := by
  have h1 := (quote_shown_pc (G := G) c).to_bool hg (argsR_cons (Rd.int _ _ _) argsR_nil)
  go_enter Tryz.func183, Tryz.ntmps183
  go_wp2_with (go_at_call 240; refine h1.mono ?_)
  rintro e w1 ⟨rfl, b1⟩
  have hg1 := good_below hg (Nat.le_refl _) b1
  cases hs : shownS c with
  | true =>
    have hcv := run_conv (s := 39) (e := 5) (t := 9) (by kernel_rfl) (by kernel_rfl) (by kernel_rfl) (w1.alloc (.cells #[.int .u8 c.toNat] 5)) w1.heap.size 0 1 [c] (fun j d hj => by
      match j, hj with
      | 0, hj => cases hj; simp)
    have hcv' : (convert 39 9 (.slice (some ⟨w1.heap.size, 0, none⟩) 1 1)).run Tryz.prog (w1.alloc (.cells #[.int .u8 c.toNat] 5)) = .ok (.string ⟨[c].toArray⟩) (w1.alloc (.cells #[.int .u8 c.toNat] 5)) := hcv
    go_wp2
    go_ret
    have : oneS c = [c] := by
      unfold shownS at hs
      simp at hs
      unfold oneS
      rw [if_neg (by omega), if_neg (by omega), if_neg (by omega), if_neg (by omega), if_neg (by omega), if_neg (by omega)]
    exact ⟨by rw [this]; rfl, b1.trans ((Below.refl _ _).alloc b1.size _)⟩
  | false =>
    have h2 := (slices_Index_byte_byte_pc (G := G) marksL c.toNat (by decide)).to_int hg1 (argsR_cons (tab_slice (by decide) (by decide) hg1 hM) (argsR_cons (Rd.int _ _ _) argsR_nil))
    rw [marks_at] at h2
    go_wp2_with fail
    refine h2.mono ?_
    rintro e w2 ⟨rfl, b2⟩
    have hg2 := good_below hg1 (Nat.le_refl _) b2
    have lc := fun i n h => tab_cell hg2 hL (i := i) (n := n) h
    have cv : ∀ (k : Nat) (l : UInt8), lettersL[k]? = some (l.toNat : Int) → (convert 39 9 (.slice (some ⟨3, k, none⟩) 1 (5 - k))).run Tryz.prog w2 = .ok (.string ⟨#[l]⟩) w2 := fun k l hl =>
      run_conv (s := 39) (e := 5) (t := 9) (by kernel_rfl) (by kernel_rfl) (by kernel_rfl) w2 3 k (5 - k) [l] (fun j d hj => by
        match j, hj with
        | 0, hj => cases hj; exact tab_cell hg2 hL hl)
    have hb := b1.trans (b2.mono b1.size)
    by_cases c0 : c.toNat = 34
    · rw [if_pos c0]
      have cv' : (convert 39 9 (.slice (some ⟨3, 0, none⟩) 1 5)).run Tryz.prog w2 = .ok (.string ⟨#[34]⟩) w2 := cv 0 34 rfl
      have e1 : oneS c = [92, 34] := by unfold oneS; rw [if_pos c0]
      clear cv
      go_wp2
      go_ret
      exact ⟨by rw [e1]; rfl, hb⟩
    by_cases c1 : c.toNat = 92
    · rw [if_neg c0, if_pos c1]
      have cv' : (convert 39 9 (.slice (some ⟨3, 1, none⟩) 1 4)).run Tryz.prog w2 = .ok (.string ⟨#[92]⟩) w2 := cv 1 92 rfl
      have e1 : oneS c = [92, 92] := by unfold oneS; rw [if_neg c0, if_pos c1]
      clear cv
      go_wp2
      go_ret
      exact ⟨by rw [e1]; rfl, hb⟩
    by_cases c2 : c.toNat = 10
    · rw [if_neg c0, if_neg c1, if_pos c2]
      have cv' : (convert 39 9 (.slice (some ⟨3, 2, none⟩) 1 3)).run Tryz.prog w2 = .ok (.string ⟨#[110]⟩) w2 := cv 2 110 rfl
      have e1 : oneS c = [92, 110] := by unfold oneS; rw [if_neg c0, if_neg c1, if_pos c2]
      clear cv
      go_wp2
      go_ret
      exact ⟨by rw [e1]; rfl, hb⟩
    by_cases c3 : c.toNat = 13
    · rw [if_neg c0, if_neg c1, if_neg c2, if_pos c3]
      have cv' : (convert 39 9 (.slice (some ⟨3, 3, none⟩) 1 2)).run Tryz.prog w2 = .ok (.string ⟨#[114]⟩) w2 := cv 3 114 rfl
      have e1 : oneS c = [92, 114] := by unfold oneS; rw [if_neg c0, if_neg c1, if_neg c2, if_pos c3]
      clear cv
      go_wp2
      go_ret
      exact ⟨by rw [e1]; rfl, hb⟩
    by_cases c4 : c.toNat = 9
    · rw [if_neg c0, if_neg c1, if_neg c2, if_neg c3, if_pos c4]
      have cv' : (convert 39 9 (.slice (some ⟨3, 4, none⟩) 1 1)).run Tryz.prog w2 = .ok (.string ⟨#[116]⟩) w2 := cv 4 116 rfl
      have e1 : oneS c = [92, 116] := by unfold oneS; rw [if_neg c0, if_neg c1, if_neg c2, if_neg c3, if_pos c4]
      clear cv
      go_wp2
      go_ret
      exact ⟨by rw [e1]; rfl, hb⟩
    rw [if_neg c0, if_neg c1, if_neg c2, if_neg c3, if_neg c4]
    clear cv
    have hc := u8_lt c
    have hi : 0 ≤ (c.toNat : Int) / 16 ∧ (c.toNat : Int) / 16 < 16 := ⟨by omega, by omega⟩
    have hj : 0 ≤ (c.toNat : Int) % 16 ∧ (c.toNat : Int) % 16 < 16 := ⟨by omega, by omega⟩
    go_wp2
    go_region
    go_wp2
    simp only [hex_at]
    have hcv := run_conv (s := 39) (e := 5) (t := 9) (by kernel_rfl) (by kernel_rfl) (by kernel_rfl) ((w2.alloc (.cells #[.int .u8 (hexD (c.toNat / 16)).toNat, .int .u8 (hexD (c.toNat % 16)).toNat] 303)).drew) w2.heap.size 0 2 [hexD (c.toNat / 16), hexD (c.toNat % 16)] (fun j d hj => by
      match j, hj with
      | 0, hj => cases hj; simp
      | 1, hj => cases hj; simp)
    have hcv' : (convert 39 9 (.slice (some ⟨w2.heap.size, 0, none⟩) 2 2)).run Tryz.prog ((w2.alloc (.cells #[.int .u8 (hexD (c.toNat / 16)).toNat, .int .u8 (hexD (c.toNat % 16)).toNat] 303)).drew) = .ok (.string ⟨#[hexD (c.toNat / 16), hexD (c.toNat % 16)]⟩) ((w2.alloc (.cells #[.int .u8 (hexD (c.toNat / 16)).toNat, .int .u8 (hexD (c.toNat % 16)).toNat] 303)).drew) := hcv
    rw [hcv']
    simp only [Result.andThen]
    rw [Oper.upon_value]
    go_wp2
    go_ret
    have e1 : oneS c = [92, 120, hexD (c.toNat / 16), hexD (c.toNat % 16)] := by
      unfold oneS
      unfold shownS at hs
      rw [if_neg c0, if_neg c1, if_neg c2, if_neg c3, if_neg c4, if_pos (by simp at hs; omega)]
    exact ⟨by rw [e1]; rfl, hb.trans (((Below.refl _ _).alloc hb.size _).drew)⟩
set_option maxHeartbeats 4000000 in
set_option maxRecDepth 100000 in
theorem quote_Quote_walk (hM : G 2 = some (.agg (marksL.map (AV.int .u8)))) (hL : G 3 = some (.agg (lettersL.map (AV.int .u8)))) (s : Str) (hs : s.length ≤ 1000000) (w : World) (F : Nat → Prop) (hg : Good w F G) :
    Calls Tryz.prog n_quote_Quote #[.string ⟨s.toArray⟩] w fun e w' => e = .returned (.string ⟨(quoteS s).toArray⟩) ∧ Below w.heap.size w w' := by
  have h0 : Lib.IsBuilder 168 5 w.heap.size w.heap.size [] (w.alloc (.cells #[.pointer none, .slice none 0 0] 168)) := Lib.fresh_isBuilder 168 5 w
  have b0 : Below w.heap.size w (w.alloc (.cells #[.pointer none, .slice none 0 0] 168)) := (Below.refl _ w).alloc (Nat.le_refl _) _
  have hsz : (⟨s.toArray⟩ : ByteArray).size = s.length := by simp [ByteArray.size]
  go_enter Tryz.func122, Tryz.ntmps122
  go_wp2_with (go_at_call 182; refine (builder_byte w.heap.size w.heap.size [] 34 _ h0 (by simp) b0.size).mono ?_)
  rintro e W1 ⟨rfl, h1, b1⟩
  go_wp2
  go_loopw [8] (fun v wr => ∃ i : Nat, i ≤ s.length ∧ v = .int .i64 i ∧ Lib.IsBuilder 168 5 w.heap.size w.heap.size (Lib.byteCells (34 :: (s.take i).flatMap oneS)) wr ∧ Below w.heap.size w wr) (fun v _ => s.length - (intOf v).toNat)
  case atStart => exact ⟨0, Nat.zero_le _, rfl, h1, b0.trans b1⟩
  case round =>
    obtain ⟨i, hi, rfl, hB, hb⟩ := hrel
    have hlen : (34 :: (s.take i).flatMap oneS).length ≤ 4000001 := by
      have := flatOne_len (s.take i)
      simp only [List.length_cons, List.length_take] at *
      omega
    by_cases hlt : i < s.length
    · obtain ⟨c, hc⟩ : ∃ c, s[i]? = some c := ⟨s[i], List.getElem?_eq_getElem hlt⟩
      have hl2 : (i : Int) < (s.length : Int) := by omega
      have hx : (Instr.index 9 (.string ⟨s.toArray⟩) (.int .i64 i)).run Tryz.prog wr = .ok (.int .u8 c.toNat) wr := by
        rw [run_index_string (P := Tryz.prog) wr 9 ⟨s.toArray⟩ .i64 i (by kernel_rfl), dif_pos ⟨by omega, by rw [hsz]; omega⟩]
        congr 4
        obtain ⟨h2, h3⟩ := List.getElem?_eq_some_iff.1 hc
        rw [← h3]
        rfl
      go_wp2_with (go_at_call 183; refine (quote_one_walk hM hL c _ F (good_below hg (Nat.le_refl _) hb)).mono ?_)
      rintro e W2 ⟨rfl, b2⟩
      have hb2 := hb.trans (b2.mono hb.size)
      have hB2 := builder_below hB b2
      go_wp2_with (go_at_call 101; refine (builder_str w.heap.size w.heap.size _ (oneS c) _ hB2 (by rw [Lib.byteCells_length]; have := oneS_len c; omega) hb2.size).mono ?_)
      rintro e W3 ⟨rfl, hB3, b3⟩
      go_wp2
      go_roundw
      case rel =>
        refine ⟨i + 1, hlt, by simp, ?_, hb2.trans b3⟩
        rw [take_flat_succ hc, ← List.cons_append, Lib.byteCells_append]
        exact hB3
      case measure =>
        simp [intOf]
        omega
    · have hie : i = s.length := by omega
      subst hie
      rw [List.take_length] at hB hlen
      have hl2 : ¬ (s.length : Int) < (s.length : Int) := by omega
      go_wp2_with fail
      refine (builder_byte w.heap.size w.heap.size _ 34 _ hB (by rw [Lib.byteCells_length]; omega) hb.size).mono ?_
      rintro e W2 ⟨rfl, hB2, b2⟩
      have hb2 := hb.trans b2
      have hB2' : Lib.IsBuilder 168 5 w.heap.size w.heap.size (Lib.byteCells (quoteS s)) W2 := by
        unfold quoteS
        rw [Lib.byteCells_append]
        exact hB2
      go_wp2_with (go_at_call 102; refine (Tryz.Builder_String_any w.heap.size w.heap.size _ _ hB2' hb2.size).mono ?_)
      rintro e W3 ⟨rfl, b3⟩
      go_wp2
      go_ret
      exact ⟨rfl, hb2.trans b3⟩
theorem quote_Quote_pc (hM : G 2 = some (.agg (marksL.map (AV.int .u8)))) (hL : G 3 = some (.agg (lettersL.map (AV.int .u8)))) (s : Str) (hs : s.length ≤ 1000000) : PureC Tryz.prog G n_quote_Quote [.str s] (.str (quoteS s)) := by
  refine PureC.of_str fun w F vs hg ha => ?_
  obtain ⟨v, rfl, h1⟩ := argsR_1 ha
  cases h1
  exact quote_Quote_walk hM hL s hs w F hg
end Go.Proofs.YtjbcfpkibnhodaaGreatDoor.Ab
namespace Go.Proofs.YtjbcfpkibnhodaaGreatDoor.Ab
set_option linter.unusedSimpArgs false
open Go
set_option maxHeartbeats 4000000
variable {G : Nat → Option AV}
structure TextG (G : Nat → Option AV) : Prop where
  pow : G 7 = some (.agg (Lib.pow10Tab.map (AV.int .u64)))
  marks : G 2 = some (.agg (marksL.map (AV.int .u8)))
  letters : G 3 = some (.agg (lettersL.map (AV.int .u8)))
theorem num_Text_pc (hT : TextG G) (n : Int) (hn : i64 n) : PureC Tryz.prog G n_num_Text [iv n] (.str (Lib.itoa n)) := by
  have h1 := strconv_FormatInt_pc (G := G) hT.pow n hn
  refine pc_num_Text (Runs.of fun Φ h => ?_)
  unfold c_num_Text
  generalize Lib.itoa n = x at *
  repeat' (first | (simp -implicitDefEqProofs only [go_sem, valV]) | refine at_guard (fun hb => ?_) (fun hb => ?_) | refine ⟨fun hb => ?_, fun hb => ?_⟩ | refine at_call (h1) rfl rfl ?_ | fail)
  all_goals (refine h _ ⟨_, _, rfl, rfl, fit_eq ?_⟩; clear h; first | rfl | simp_all)
theorem value_Text_pc (hT : TextG G) (v : Val) (hv : v.ok = true) (hn : i64 v.int) (hs : v.str.length ≤ 1000000) : PureC Tryz.prog G n_value_Text [valV v] (.str (valText v)) := by
  have h0 := value_Right_pc (G := G) v
  rw [hv] at h0
  obtain ⟨k, n, s, b⟩ := v
  have h1 := num_Text_pc hT n hn
  have h2 := quote_Quote_pc hT.marks hT.letters s hs
  refine pc_value_Text (Runs.of fun Φ h => ?_)
  unfold c_value_Text
  unfold valText at h
  dsimp only at h
  simp only [valV] at h0
  generalize Lib.itoa n = x at *
  generalize quoteS s = y at *
  repeat' (first | (simp -implicitDefEqProofs only [go_sem, valV]) | refine at_guard (fun hb => ?_) (fun hb => ?_) | refine ⟨fun hb => ?_, fun hb => ?_⟩ | refine at_call (h0) rfl rfl ?_ | refine at_call (h1) rfl rfl ?_ | refine at_call (h2) rfl rfl ?_ | fail)
  all_goals
    refine h _ ⟨_, _, rfl, rfl, fit_eq ?_⟩
    clear h h0 h1 h2
    simp_all
structure ShortQ (q : QeaT) : Prop where
  decls : ∀ y ∈ q.decls, y.name.length ≤ 1000
  quants : ∀ y ∈ q.quants, y.name.length ≤ 1000
  frees : ∀ y ∈ q.frees, y.name.length ≤ 1000
theorem valText_len {v : Val} (hn : i64 v.int) (hs : v.str.length ≤ 1000) : (valText v).length ≤ 5000 := by
  unfold valText
  have h1 := itoa_len hn
  have h2 := flatOne_len v.str
  split
  · omega
  split
  · unfold quoteS
    simp only [List.length_append, List.length_cons, List.length_nil]
    omega
  split <;> simp
theorem joinTail_len {sep : Str} {c : Nat} : ∀ {l : List Str}, (∀ x ∈ l, x.length ≤ c) → (Lib.joinTail sep l).length ≤ l.length * (sep.length + c)
  | [], _ => by simp [Lib.joinTail]
  | x :: l, h => by
    have h1 := joinTail_len (sep := sep) (l := l) (fun y hy => h y (List.mem_cons_of_mem _ hy))
    have h2 := h x List.mem_cons_self
    unfold Lib.joinTail at *
    rw [List.map_cons, List.flatten_cons, List.length_append, List.length_append, List.length_cons, Nat.add_mul, Nat.one_mul]
    omega
theorem join_len {sep : Str} {c : Nat} {l : List Str} (h : ∀ x ∈ l, x.length ≤ c) : (Lib.join l sep).length ≤ l.length * (sep.length + c) := by
  cases l with
  | nil => simp [Lib.join_nil]
  | cons x l =>
    have h1 := joinTail_len (sep := sep) (l := l) (fun y hy => h y (List.mem_cons_of_mem _ hy))
    have h2 := h x List.mem_cons_self
    rw [Lib.join_cons, List.length_append, List.length_cons, Nat.add_mul, Nat.one_mul]
    omega
end Go.Proofs.YtjbcfpkibnhodaaGreatDoor.Ab
namespace Go.Proofs.YtjbcfpkibnhodaaGreatDoor.Ab
set_option linter.unusedSimpArgs false
open Go
set_option maxHeartbeats 4000000
variable {G : Nat → Option AV}
theorem nameOk_len {s : Str} (h : nameOk s = true) : s.length ≤ 32 := by
  unfold nameOk at h
  rw [Bool.and_eq_true] at h
  have h1 := h.1
  unfold speltOk at h1
  split at h1
  · cases h1
  · simp only [Bool.and_eq_true, decide_eq_true_eq] at h1
    exact h1.1
theorem right_parts {q : QeaT} (h : rightR q = true) : headR q = true ∧ (allS (stepR q) q.trans 0 0).1 = true ∧ allI (symR q) q.symbols = true := by
  unfold rightR topR transAll symbolsR at h
  simp only [Bool.and_eq_true] at h
  exact ⟨h.1.2.2.2.2, h.2.1.1, h.2.2.2.1⟩
theorem short_of {q : QeaT} (hf : fewQ q = true) (h : rightR q = true) : ShortQ q := by
  have hv : ∀ x ∈ q.vars, x.length ≤ 32 := fun x hx => by
    have h1 := (right_parts h).1
    unfold headR at h1
    simp only [Bool.and_eq_true] at h1
    obtain ⟨i, hi⟩ := List.getElem?_of_mem hx
    have h2 := allI_true.1 h1.2.2.1 i x hi
    unfold nameR at h2
    rw [Bool.and_eq_true] at h2
    exact nameOk_len h2.1
  refine ⟨fun y hy => ?_, fun y hy => ?_, fun y hy => ?_⟩
  · unfold fewQ at hf
    simp only [Bool.and_eq_true] at hf
    obtain ⟨i, hi⟩ := List.getElem?_of_mem hy
    have h2 := allI_true.1 hf.2.1 i y hi
    unfold fewDecl short at h2
    simp only [Bool.and_eq_true, decide_eq_true_eq] at h2
    omega
  · have := hv y.name (List.mem_append.2 (.inl (List.mem_map.2 ⟨y, hy, rfl⟩)))
    omega
  · have := hv y.name (List.mem_append.2 (.inr (List.mem_map.2 ⟨y, hy, rfl⟩)))
    omega
theorem join_snoc {sep x : Str} {l : List Str} : Lib.join (l ++ [x]) sep = if l = [] then x else Lib.join l sep ++ sep ++ x := by
  cases l with
  | nil => rw [List.nil_append, Lib.join_one, if_pos rfl]
  | cons y l =>
    rw [List.cons_append, Lib.join_cons, Lib.join_cons, if_neg (by simp)]
    unfold Lib.joinTail
    simp
end Go.Proofs.YtjbcfpkibnhodaaGreatDoor.Ab
namespace Go.Proofs.YtjbcfpkibnhodaaGreatDoor.Ab
set_option linter.unusedSimpArgs false
open Go
set_option maxHeartbeats 4000000
variable {G : Nat → Option AV}
end Go.Proofs.YtjbcfpkibnhodaaGreatDoor.Ab
namespace Go.Proofs.YtjbcfpkibnhodaaGreatDoor.Ab
set_option linter.unusedSimpArgs false
open Go Go.ChangeShapes Go.WideShapes Go.RowKit
set_option maxRecDepth 100000
end Go.Proofs.YtjbcfpkibnhodaaGreatDoor.Ab
