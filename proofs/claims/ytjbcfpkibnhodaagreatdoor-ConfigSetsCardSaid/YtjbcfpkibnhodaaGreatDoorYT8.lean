/-
  Sets of configurations of one automaton: one order, one key each. The functions' abstract code, by program (acgen.py), and that the model's code is it, reckoned by the kernel. report, verdict, proctorref32: what their functions hand back. report.Of: what it hands back. DERIVED: THE SHELF's CONTRACTS AT THIS DUMP, IN PLAIN WORDS (tools/lay-plain.mjs out of 'TryzHomeShelf.lean', which tools/lay-shelf.mjs wrote): THE SAME DECLARATIONS UNDER THE SAME NAMES: 'import', 'namespace', 'open', 'def', 'theorem' AND NOTHING ELSE: no command of the shelf's: FOR A HAND-IN. Each laying: the table of numbers ('.._ren') and one theorem, a field a fact of the dump's own or the kernel's comparison; each contract: ONE APPLICATION. Numbers as texts; the library's texts, by the shelf's contracts: strconv.FormatInt, strings.Builder; report's texts. Texts in a row; the text of a number. No claim is proved here.
-/
import Derived.Test.YtjbcfpkibnhodaaGreatDoorYC4
import Derived.Test.YtjbcfpkibnhodaaGreatDoorYC5
import Derived.Test.YtjbcfpkibnhodaaGreatDoorYAbRun
import Derived.Test.YtjbcfpkibnhodaaGreatDoorProg
import Derived.Test.YtjbcfpkibnhodaaGreatDoorYAcR1
import Derived.Shelf.Strings.Builder1
import Derived.Shelf.Strings.Builder2
import Derived.Shelf.Strings.OnBuilder
import Derived.Shelf.Strconv.Itoa0
import Derived.Shelf.Strconv.Itoa1
import Derived.Shelf.LaysM
import Derived.Shelf.Strconv.Itoa2
import Derived.Shelf.Strconv.Itoa3
import Derived.Shelf.Strconv.Itoa4
import Derived.Shelf.Bits.Mul64
import Derived.WalkKit
import Derived.Lib.Builder
import Derived.Lib.Walk
import Derived.Test.YtjbcfpkibnhodaaGreatDoorYAbTrod
import Derived.Lib.AppendStr
import Derived.Lib.AppendIntMem
import Derived.Test.YtjbcfpkibnhodaaGreatDoorYD9
import Derived.Test.YtjbcfpkibnhodaaGreatDoorYD4
namespace Go.Proofs.YtjbcfpkibnhodaaGreatDoor.Ab
open Go
set_option linter.unusedSimpArgs false
theorem less_tri : ∀ {s t : Str}, s ≠ t → Op.bytesLess s t = true ∨ Op.bytesLess t s = true
  | [], [], h => absurd rfl h
  | [], b :: t, _ => .inl rfl
  | a :: s, [], _ => .inr rfl
  | a :: s, b :: t, h => by
    rw [Op.bytesLess, Op.bytesLess]
    by_cases hab : a = b
    · subst hab
      have hst : s ≠ t := fun e => h (by rw [e])
      rcases less_tri hst with h1 | h1
      · left; simp [h1]
      · right; simp [h1]
    · rcases Nat.lt_or_ge a.toNat b.toNat with h1 | h1
      · left
        have : a < b := h1
        simp [this]
      · right
        have h2 : b.toNat < a.toNat := by
          have : a.toNat ≠ b.toNat := fun e => hab (UInt8.toNat_inj.1 e)
          omega
        have : b < a := h2
        simp [this]
theorem lessV_tri {a b : Val} (ha : a.ok = true) (hb : b.ok = true) (hk : a.kind = b.kind) (h : a ≠ b) : lessV a b = true ∨ lessV b a = true := by
  obtain ⟨k, n, s, t⟩ := a
  obtain ⟨k', n', s', t'⟩ := b
  simp only at hk
  subst hk
  have h3 := ok_kind ha
  simp only at h3
  rcases h3 with rfl | rfl | rfl
  · simp [Val.ok] at ha hb
    obtain ⟨rfl, rfl⟩ := ha
    obtain ⟨rfl, rfl⟩ := hb
    have hn : n ≠ n' := fun e => h (by rw [e])
    simp [lessV]
    omega
  · simp [Val.ok] at ha hb
    obtain ⟨rfl, rfl, _⟩ := ha
    obtain ⟨rfl, rfl, _⟩ := hb
    have hn : s ≠ s' := fun e => h (by rw [e])
    simpa [lessV] using less_tri hn
  · simp [Val.ok] at ha hb
    obtain ⟨rfl, rfl⟩ := ha
    obtain ⟨rfl, rfl⟩ := hb
    have hn : t ≠ t' := fun e => h (by rw [e])
    cases t <;> cases t' <;> simp_all [lessV]
theorem lessVs_irr : ∀ (l : List Val), lessVs l l = false
  | [] => rfl
  | v :: l => by
    rw [lessVs, if_neg (by simp)]
    exact lessVs_irr l
theorem lessVs_tri : ∀ {l k : List Val}, l.length = k.length → (∀ (i : Nat) v w, l[i]? = some v → k[i]? = some w → v.ok = true ∧ w.ok = true ∧ v.kind = w.kind) → l ≠ k → lessVs l k = true ∨ lessVs k l = true
  | [], [], _, _, h => absurd rfl h
  | v :: l, w :: k, hl, hh, h => by
    rw [lessVs, lessVs]
    by_cases hvw : v = w
    · rw [if_neg (by simp [hvw]), if_neg (by simp [hvw])]
      exact lessVs_tri (by simpa using hl) (fun i x y hx hy => hh (i + 1) x y hx hy) fun e => h (by rw [hvw, e])
    · rw [if_pos hvw, if_pos fun e => hvw e.symm]
      obtain ⟨h1, h2, h3⟩ := hh 0 v w rfl rfl
      exact lessV_tri h1 h2 h3 hvw
theorem cfgOne_eq {q : QeaT} {a b : CfgT} (ha : cfgR q a = true) (hb : cfgR q b = true) : cfgOne a b = decide (a = b) := by
  unfold cfgR at ha hb
  simp only [Bool.and_eq_true, decide_eq_true_eq] at ha hb
  obtain ⟨a1, a2⟩ := fitsR_at ha.2.2
  obtain ⟨b1, b2⟩ := fitsR_at hb.2.2
  obtain ⟨x, l⟩ := a
  obtain ⟨y, k⟩ := b
  simp only at a1 a2 b1 b2
  unfold cfgOne cfgLess
  simp only
  by_cases hxy : x = y
  · subst hxy
    rw [if_neg (by simp), if_neg (by simp)]
    by_cases hlk : l = k
    · subst hlk
      rw [lessVs_irr]
      simp
    · have htri := lessVs_tri (l := l) (k := k) (by omega) (fun i v w hv hw => by
        have hi := (List.getElem?_eq_some_iff.1 hv).1
        obtain ⟨f, hf, _⟩ := at_some (l := q.frees) (i := i) (by omega)
        obtain ⟨c1, c2⟩ := a2 i v f hv hf
        obtain ⟨c3, c4⟩ := b2 i w f hw hf
        exact ⟨c1, c3, c2.trans c4.symm⟩) hlk
      have : ¬ (⟨x, l⟩ : CfgT) = ⟨x, k⟩ := fun e => hlk (by injection e)
      rw [decide_eq_false this]
      rcases htri with h | h <;> rw [h] <;> simp
  · rw [if_pos hxy, if_pos fun e => hxy e.symm]
    have : ¬ (⟨x, l⟩ : CfgT) = ⟨y, k⟩ := fun e => hxy (by injection e)
    rw [decide_eq_false this]
    rcases Int.lt_or_gt_of_ne hxy with h | h
    · simp [h]
    · simp [h]
theorem zipB_congr {α : Type} {p p' : α → α → Bool} : ∀ {l k : List α}, (∀ x ∈ l, ∀ y ∈ k, p x y = p' x y) → zipB p l k = zipB p' l k
  | [], [], _ => rfl
  | [], _ :: _, _ => rfl
  | _ :: _, [], _ => rfl
  | x :: l, y :: k, h => by
    rw [zipB, zipB, h x (by simp) y (by simp), zipB_congr (l := l) (k := k) fun a ha b hb => h a (by simp [ha]) b (by simp [hb])]
theorem same_eq {q : QeaT} {a b : List CfgT} (ha : ∀ c ∈ a, cfgR q c = true) (hb : ∀ c ∈ b, cfgR q c = true) : zipB cfgOne a b = decide (a = b) := by
  rw [← zipB_eq]
  exact zipB_congr fun x hx y hy => cfgOne_eq (ha x hx) (hb y hy)
end Go.Proofs.YtjbcfpkibnhodaaGreatDoor.Ab
namespace Go.Proofs.YtjbcfpkibnhodaaGreatDoor.Ab
open Go
end Go.Proofs.YtjbcfpkibnhodaaGreatDoor.Ab
namespace Go.Proofs.YtjbcfpkibnhodaaGreatDoor.Ab
open Go
set_option linter.unusedSimpArgs false
end Go.Proofs.YtjbcfpkibnhodaaGreatDoor.Ab
namespace Go.Proofs.YtjbcfpkibnhodaaGreatDoor.Ab
open Go
set_option linter.unusedSimpArgs false
end Go.Proofs.YtjbcfpkibnhodaaGreatDoor.Ab
namespace Go.Proofs
open Go.Shelf
def Tryz.lays169_ren : Go.Shelf.Ren := ⟨fun | 169 => 102 | n => n, fun | 70 => 166 | 9 => 9 | 0 => 0 | 72 => 168 | 37 => 39 | 127 => 221 | 3 => 3 | 5 => 5 | n => n, fun | n => n⟩
theorem Tryz.lays169 : Go.Proofs.Lays.n169 Tryz.prog Tryz.lays169_ren := {
  mixed := by kernel_rfl
  f169 := Tryz.func102.trans (congrArg some (by kernel_rfl))
  t0 := Tryz.underlying0
  a0 := Tryz.isAgg0
  z0 := Tryz.sizeOf0
  v0 := Tryz.zeroValue0
  t3 := Tryz.underlying3
  a3 := Tryz.isAgg3
  z3 := Tryz.sizeOf3
  v3 := Tryz.zeroValue3
  t9 := Tryz.underlying9
  a9 := Tryz.isAgg9
  z9 := Tryz.sizeOf9
  v9 := Tryz.zeroValue9
  t37 := Tryz.underlying39
  a37 := Tryz.isAgg39
  z37 := Tryz.sizeOf39
  v37 := Tryz.zeroValue39
  t70 := Tryz.underlying166
  a70 := Tryz.isAgg166
  z70 := Tryz.sizeOf166
  v70 := Tryz.zeroValue166
  t72 := Tryz.underlying168
  a72 := Tryz.isAgg168
  z72 := Tryz.sizeOf168
  v72 := Tryz.zeroValue168
  t127 := Tryz.underlying221
  a127 := Tryz.isAgg221
  z127 := Tryz.sizeOf221
  v127 := Tryz.zeroValue221 }
theorem Tryz.Builder_Extra_169 : Builder.Extra Tryz.prog Tryz.lays169_ren := {
  sizeBuilder := by kernel_rfl
  liesBuilder := by kernel_rfl
  t5 := Tryz.underlying5
  a5 := Tryz.isAgg5
  z5 := Tryz.sizeOf5
  v5 := Tryz.zeroValue5
  infoByte := by kernel_rfl
  cellsByte := by kernel_rfl
  sizeByte := by kernel_rfl
  neB5 := by decide }
open Go.RowKit in
theorem Tryz.Builder_String_any (B b : Nat) (l : List UInt8) (w : World) (h : Lib.IsBuilder 168 5 B b (Lib.byteCells l) w) (hBw : B ≤ w.heap.size) :
    Calls Tryz.prog 102 #[.pointer (some ⟨b, 0, none⟩)] w fun e w' => e = .returned (.string ⟨l.toArray⟩) ∧ Below B w w' := Any.Builder_String_any Tryz.lays169 Tryz.Builder_Extra_169 B b l w h hBw
def Tryz.lays156_ren : Go.Shelf.Ren := ⟨fun | 156 => 64 | 165 => 123 | 166 => 101 | 169 => 102 | 240 => 162 | 241 => 184 | 276 => 230 | 277 => 242 | n => n, fun | 31 => 115 | 9 => 9 | 3 => 3 | 4 => 4 | 0 => 0 | 20 => 20 | 72 => 168 | 76 => 171 | 70 => 166 | 37 => 39 | 75 => 170 | 127 => 221 | 164 => 285 | 5 => 5 | 80 => 173 | n => n, fun | n => n⟩
theorem Tryz.lays156 : Go.Proofs.Lays.n156 Tryz.prog Tryz.lays156_ren := {
  mixed := by kernel_rfl
  f156 := Tryz.func64.trans (congrArg some (by kernel_rfl))
  f165 := Tryz.func123.trans (congrArg some (by kernel_rfl))
  f166 := Tryz.func101.trans (congrArg some (by kernel_rfl))
  f169 := Tryz.func102.trans (congrArg some (by kernel_rfl))
  f240 := Tryz.func162.trans (congrArg some (by kernel_rfl))
  f241 := Tryz.func184.trans (congrArg some (by kernel_rfl))
  f276 := Tryz.func230.trans (congrArg some (by kernel_rfl))
  f277 := Tryz.func242.trans (congrArg some (by kernel_rfl))
  t0 := Tryz.underlying0
  a0 := Tryz.isAgg0
  z0 := Tryz.sizeOf0
  v0 := Tryz.zeroValue0
  t3 := Tryz.underlying3
  a3 := Tryz.isAgg3
  z3 := Tryz.sizeOf3
  v3 := Tryz.zeroValue3
  t4 := Tryz.underlying4
  a4 := Tryz.isAgg4
  z4 := Tryz.sizeOf4
  v4 := Tryz.zeroValue4
  t9 := Tryz.underlying9
  a9 := Tryz.isAgg9
  z9 := Tryz.sizeOf9
  v9 := Tryz.zeroValue9
  t20 := Tryz.underlying20
  a20 := Tryz.isAgg20
  z20 := Tryz.sizeOf20
  v20 := Tryz.zeroValue20
  t31 := Tryz.underlying115
  a31 := Tryz.isAgg115
  z31 := Tryz.sizeOf115
  v31 := Tryz.zeroValue115
  t37 := Tryz.underlying39
  a37 := Tryz.isAgg39
  z37 := Tryz.sizeOf39
  v37 := Tryz.zeroValue39
  t70 := Tryz.underlying166
  a70 := Tryz.isAgg166
  z70 := Tryz.sizeOf166
  v70 := Tryz.zeroValue166
  t72 := Tryz.underlying168
  a72 := Tryz.isAgg168
  z72 := Tryz.sizeOf168
  v72 := Tryz.zeroValue168
  t75 := Tryz.underlying170
  a75 := Tryz.isAgg170
  z75 := Tryz.sizeOf170
  v75 := Tryz.zeroValue170
  t76 := Tryz.underlying171
  a76 := Tryz.isAgg171
  z76 := Tryz.sizeOf171
  v76 := Tryz.zeroValue171
  t127 := Tryz.underlying221
  a127 := Tryz.isAgg221
  z127 := Tryz.sizeOf221
  v127 := Tryz.zeroValue221
  t164 := Tryz.underlying285
  a164 := Tryz.isAgg285
  z164 := Tryz.sizeOf285
  v164 := Tryz.zeroValue285 }
theorem Tryz.Builder_Extra_156 : Builder.Extra Tryz.prog Tryz.lays156_ren := {
  sizeBuilder := by kernel_rfl
  liesBuilder := by kernel_rfl
  t5 := Tryz.underlying5
  a5 := Tryz.isAgg5
  z5 := Tryz.sizeOf5
  v5 := Tryz.zeroValue5
  infoByte := by kernel_rfl
  cellsByte := by kernel_rfl
  sizeByte := by kernel_rfl
  neB5 := by decide }
open Go.RowKit in
theorem Tryz.strings_Join_none (a : Option Addr) (c : Nat) (sep : ByteArray) (w : World) :
    Calls Tryz.prog 64 #[.slice a 0 c, .string sep] w fun e w' => e = .returned (.string ⟨#[]⟩) ∧ w' = w := Any.strings_Join_none Tryz.lays156 Tryz.Builder_Extra_156 a c sep w
open Go.RowKit in
theorem Tryz.strings_Join (bk o c : Nat) (xs : List ByteArray) (sep : ByteArray) (w : World) (hcells : ∀ (j : Nat) x, xs[j]? = some x → w.cell? ⟨bk, o + j, none⟩ = some (.string x)) (hbk : bk < w.heap.size) (hN : xs.length ≤ 140737488355328) (hcap : xs.length ≤ c) (hlen : (Lib.join (xs.map (·.data.toList)) sep.data.toList).length ≤ 140737488355328) :
    Calls Tryz.prog 64 #[.slice (some ⟨bk, o, none⟩) xs.length c, .string sep] w fun e w' => e = .returned (.string ⟨(Lib.join (xs.map (·.data.toList)) sep.data.toList).toArray⟩) ∧ Below w.heap.size w w' := Any.strings_Join Tryz.lays156 Tryz.Builder_Extra_156 bk o c xs sep w hcells hbk hN hcap hlen
def Tryz.laysM173_ren : Go.Shelf.Ren := ⟨fun | 173 => 181 | 246 => 239 | 283 => 266 | 284 => 267 | 285 => 268 | 286 => 269 | 129 => 177 | 317 => 290 | 318 => 291 | 319 => 292 | 320 => 293 | 337 => 303 | 338 => 304 | n => n, fun | 2 => 2 | 3 => 3 | 9 => 9 | 4 => 4 | 171 => 339 | 0 => 0 | 53 => 57 | 37 => 39 | 5 => 5 | 173 => 341 | 212 => 373 | 51 => 40 | 20 => 20 | 213 => 374 | 46 => 45 | 232 => 399 | 233 => 400 | n => n, fun | 17 => 7 | 18 => 8 | 19 => 9 | n => n⟩
theorem Tryz.laysM173 : Go.Proofs.LaysM.n173 Tryz.prog Tryz.laysM173_ren := {
  mixed := by kernel_rfl
  f129 := Tryz.func177.trans (congrArg some (by kernel_rfl))
  f173 := Tryz.func181.trans (congrArg some (by kernel_rfl))
  f246 := Tryz.func239.trans (congrArg some (by kernel_rfl))
  f283 := Tryz.func266.trans (congrArg some (by kernel_rfl))
  f284 := Tryz.func267.trans (congrArg some (by kernel_rfl))
  f285 := Tryz.func268.trans (congrArg some (by kernel_rfl))
  f286 := Tryz.func269.trans (congrArg some (by kernel_rfl))
  f317 := Tryz.func290.trans (congrArg some (by kernel_rfl))
  f318 := Tryz.func291.trans (congrArg some (by kernel_rfl))
  f319 := Tryz.func292.trans (congrArg some (by kernel_rfl))
  f320 := Tryz.func293.trans (congrArg some (by kernel_rfl))
  f337 := Tryz.func303.trans (congrArg some (by kernel_rfl))
  f338 := Tryz.func304.trans (congrArg some (by kernel_rfl))
  t0 := Tryz.underlying0
  a0 := Tryz.isAgg0
  z0 := Tryz.sizeOf0
  v0 := Tryz.zeroValue0
  t2 := Tryz.underlying2
  a2 := Tryz.isAgg2
  z2 := Tryz.sizeOf2
  v2 := Tryz.zeroValue2
  t3 := Tryz.underlying3
  a3 := Tryz.isAgg3
  z3 := Tryz.sizeOf3
  v3 := Tryz.zeroValue3
  t4 := Tryz.underlying4
  a4 := Tryz.isAgg4
  z4 := Tryz.sizeOf4
  v4 := Tryz.zeroValue4
  t5 := Tryz.underlying5
  a5 := Tryz.isAgg5
  z5 := Tryz.sizeOf5
  v5 := Tryz.zeroValue5
  t9 := Tryz.underlying9
  a9 := Tryz.isAgg9
  z9 := Tryz.sizeOf9
  v9 := Tryz.zeroValue9
  t20 := Tryz.underlying20
  a20 := Tryz.isAgg20
  z20 := Tryz.sizeOf20
  v20 := Tryz.zeroValue20
  t37 := Tryz.underlying39
  a37 := Tryz.isAgg39
  z37 := Tryz.sizeOf39
  v37 := Tryz.zeroValue39
  t46 := Tryz.underlying45
  a46 := Tryz.isAgg45
  z46 := Tryz.sizeOf45
  v46 := Tryz.zeroValue45
  t51 := Tryz.underlying40
  a51 := Tryz.isAgg40
  z51 := Tryz.sizeOf40
  v51 := Tryz.zeroValue40
  t53 := Tryz.underlying57
  a53 := Tryz.isAgg57
  z53 := Tryz.sizeOf57
  v53 := Tryz.zeroValue57
  t171 := Tryz.underlying339
  a171 := Tryz.isAgg339
  z171 := Tryz.sizeOf339
  v171 := Tryz.zeroValue339
  t173 := Tryz.underlying341
  a173 := Tryz.isAgg341
  z173 := Tryz.sizeOf341
  v173 := Tryz.zeroValue341
  t212 := Tryz.underlying373
  a212 := Tryz.isAgg373
  z212 := Tryz.sizeOf373
  v212 := Tryz.zeroValue373
  t213 := Tryz.underlying374
  a213 := Tryz.isAgg374
  z213 := Tryz.sizeOf374
  t232 := Tryz.underlying399
  a232 := Tryz.isAgg399
  z232 := Tryz.sizeOf399
  v232 := Tryz.zeroValue399
  t233 := Tryz.underlying400
  a233 := Tryz.isAgg400
  z233 := Tryz.sizeOf400
  v233 := Tryz.zeroValue400
  g17 := by kernel_rfl
  g18 := by kernel_rfl
  g19 := by kernel_rfl
  i0 := by kernel_rfl
  i2 := by kernel_rfl
  i3 := by kernel_rfl
  i4 := by kernel_rfl
  i5 := by kernel_rfl
  i9 := by kernel_rfl
  i20 := by kernel_rfl
  i37 := by kernel_rfl
  i46 := by kernel_rfl
  i51 := by kernel_rfl
  i53 := by kernel_rfl
  i171 := by kernel_rfl
  i173 := by kernel_rfl
  i212 := by kernel_rfl
  i232 := by kernel_rfl
  i233 := by kernel_rfl
  m17 := by kernel_rfl
  m18 := by kernel_rfl
  m19 := by kernel_rfl }
open Go.RowKit Go.Sort Go.Lib in
theorem Tryz.strconv_FormatInt_10 (n : Int) (h0 : -9223372036854775808 ≤ n) (h1 : n ≤ 9223372036854775807) (w : World) (htab : Lib.TabIs Tryz.prog w "internal/strconv.uint64pow10" .u64 Lib.pow10Tab) :
    Calls Tryz.prog 181 #[.int .i64 n, .int .i64 10] w fun e w' => e = .returned (.string ⟨(Lib.itoa n).toArray⟩) ∧ ∃ k os, w' = grow (w.drewN k) os := Any.strconv_FormatInt_10 Tryz.laysM173 n h0 h1 w htab
def Tryz.laysW_ren : Go.Shelf.Ren := ⟨fun | 167 => 182 | n => Tryz.lays156_ren.f n, Tryz.lays156_ren.t, Tryz.lays156_ren.g⟩
theorem Tryz.laysW : Go.Proofs.Lays.n167 Tryz.prog Tryz.laysW_ren := { Tryz.lays156 with
  f167 := Tryz.func182.trans (congrArg some (by kernel_rfl))
  t5 := Tryz.underlying5
  a5 := Tryz.isAgg5
  z5 := Tryz.sizeOf5
  v5 := Tryz.zeroValue5 }
theorem Tryz.extraW : Builder.Extra Tryz.prog Tryz.laysW_ren := {
  sizeBuilder := by kernel_rfl
  liesBuilder := by kernel_rfl
  t5 := Tryz.underlying5
  a5 := Tryz.isAgg5
  z5 := Tryz.sizeOf5
  v5 := Tryz.zeroValue5
  infoByte := by kernel_rfl
  cellsByte := by kernel_rfl
  sizeByte := by kernel_rfl
  neB5 := by decide }
end Go.Proofs
namespace Go.Proofs.YtjbcfpkibnhodaaGreatDoor.Ab
open Go
set_option linter.unusedSimpArgs false
set_option maxHeartbeats 4000000
section
variable {G : Nat → Option AV}
theorem ref01_Text_pc : ∀ (k : Nat) (n : Int), n.natAbs < k → i64 n → PureC Tryz.prog G n_proctorref01_Text [iv n] (.str (Lib.itoa n))
  | 0, n, h, _ => absurd h (by omega)
  | k + 1, n, hk, hn => by
    have hn' := hn
    unfold i64 at hn'
    have hlen := itoa_len hn
    refine pc_proctorref01_Text (Runs.of fun Φ h => ?_)
    unfold c_proctorref01_Text
    by_cases h0 : 0 ≤ n
    · by_cases h10 : n < 10
      · have w1 : IntKind.i64.wrap (n + 1) = n + 1 := wrap_i64 (by omega) (by omega)
        rw [itoa_pos h0, dec_small (by omega)] at h
        repeat' (first | (simp -implicitDefEqProofs only [go_sem, slc_digit h0 h10, w1]) | refine at_guard (fun hb => ?_) (fun hb => ?_) | refine ⟨fun hb => ?_, fun hb => ?_⟩ | fail)
        all_goals first | (exfalso; simp at *; omega) | exact h _ ⟨_, _, rfl, rfl, .refl _⟩
      · have hq : n.tdiv 10 = n / 10 := Int.tdiv_eq_ediv_of_nonneg h0
        have hr : n.tmod 10 = n % 10 := Int.tmod_eq_emod_of_nonneg h0
        have ih := ref01_Text_pc k (n / 10) (by omega) (by unfold i64; omega)
        have w0 : IntKind.i64.wrap (n / 10) = n / 10 := wrap_i64 (by omega) (by omega)
        have w1 : IntKind.i64.wrap (n % 10 + 1) = n % 10 + 1 := wrap_i64 (by omega) (by omega)
        have e : Lib.itoa n = Lib.itoa (n / 10) ++ [dgt (n % 10).toNat] := by
          rw [itoa_pos h0, dec_big (by omega), itoa_pos (by omega)]
          congr 2
          · omega
          · congr 1; omega
        have hd := slc_digit (n := n % 10) (by omega) (by omega)
        have ha : abin .add (.str (Lib.itoa (n / 10))) (.str [dgt (n % 10).toNat]) = some (.str (Lib.itoa (n / 10) ++ [dgt (n % 10).toNat])) := abin_adds (by rw [e] at hlen; simp at hlen ⊢; omega)
        rw [e] at h
        generalize Lib.itoa (n / 10) = P at *
        repeat' (first | (simp -implicitDefEqProofs only [go_sem, hq, hr, w0, w1, hd, ha]) | refine at_guard (fun hb => ?_) (fun hb => ?_) | refine ⟨fun hb => ?_, fun hb => ?_⟩ | refine at_call (ih) rfl rfl ?_ | fail)
        all_goals first | (exfalso; simp at *; omega) | exact h _ ⟨_, _, rfl, rfl, .refl _⟩
    · by_cases h10 : -10 < n
      · have w0 : IntKind.i64.wrap (0 - n) = -n := by rw [wrap_i64 (by omega) (by omega)]; omega
        have w1 : IntKind.i64.wrap (-n + 1) = -n + 1 := wrap_i64 (by omega) (by omega)
        have hd := slc_digit (n := -n) (by omega) (by omega)
        have ha : abin .add (.str [45]) (.str [dgt (-n).toNat]) = some (.str [45, dgt (-n).toNat]) := abin_adds (by simp)
        rw [itoa_neg (by omega), dec_small (by omega), show n.natAbs = (-n).toNat by omega] at h
        repeat' (first | (simp -implicitDefEqProofs only [go_sem, w0, w1, hd, ha]) | refine at_guard (fun hb => ?_) (fun hb => ?_) | refine ⟨fun hb => ?_, fun hb => ?_⟩ | fail)
        all_goals first | (exfalso; simp at *; omega) | exact h _ ⟨_, _, rfl, rfl, .refl _⟩
      · have hq : n.tdiv 10 = -((-n) / 10) := by
          rw [show n = -(-n) by omega, Int.neg_tdiv, Int.tdiv_eq_ediv_of_nonneg (by omega)]
          omega
        have hr : n.tmod 10 = -((-n) % 10) := by
          rw [show n = -(-n) by omega, Int.neg_tmod, Int.tmod_eq_emod_of_nonneg (by omega)]
          omega
        have ih := ref01_Text_pc k (-((-n) / 10)) (by omega) (by unfold i64; omega)
        have w0 : IntKind.i64.wrap (-((-n) / 10)) = -((-n) / 10) := wrap_i64 (by omega) (by omega)
        have w2 : IntKind.i64.wrap (0 - -((-n) % 10)) = (-n) % 10 := by rw [wrap_i64 (by omega) (by omega)]; omega
        have w1 : IntKind.i64.wrap ((-n) % 10 + 1) = (-n) % 10 + 1 := wrap_i64 (by omega) (by omega)
        have e : Lib.itoa n = Lib.itoa (-((-n) / 10)) ++ [dgt ((-n) % 10).toNat] := by
          rw [itoa_neg (by omega), dec_big (by omega), itoa_neg (by omega)]
          rw [List.cons_append]
          congr 2
          · congr 1; omega
          · congr 2; omega
        have hd := slc_digit (n := (-n) % 10) (by omega) (by omega)
        have ha : abin .add (.str (Lib.itoa (-((-n) / 10)))) (.str [dgt ((-n) % 10).toNat]) = some (.str (Lib.itoa (-((-n) / 10)) ++ [dgt ((-n) % 10).toNat])) := abin_adds (by rw [e] at hlen; simp at hlen ⊢; omega)
        rw [e] at h
        generalize Lib.itoa (-((-n) / 10)) = P at *
        repeat' (first | (simp -implicitDefEqProofs only [go_sem, hq, hr, w0, w1, w2, hd, ha]) | refine at_guard (fun hb => ?_) (fun hb => ?_) | refine ⟨fun hb => ?_, fun hb => ?_⟩ | refine at_call (ih) rfl rfl ?_ | fail)
        all_goals first | (exfalso; simp at *; omega) | exact h _ ⟨_, _, rfl, rfl, .refl _⟩
end
section
open Go.RowKit
variable {G : Nat → Option AV} {P : Program}
theorem PureC.of_str {f : Nat} {args : List AV} {r : Str} (h : ∀ (w : World) (F : Nat → Prop) (vs : Array Value), Good w F G → ArgsR w F args vs → Calls P f vs w fun e w' => e = .returned (.string ⟨r.toArray⟩) ∧ Below w.heap.size w w') : PureC P G f args (.str r) := by
  intro w F vs hg ha
  refine (h w F vs hg ha).mono ?_
  rintro e w' ⟨rfl, hb⟩
  exact ⟨_, F, rfl, fun b h => h, fun b h => .inl h, fun b h => Nat.lt_of_lt_of_le (hg.1 b h) hb.size, .str _ _, hb⟩
theorem PureC.to_bool {f : Nat} {args : List AV} {r : Bool} (h : PureC P G f args (.bool r)) {w : World} {F : Nat → Prop} {vs : Array Value} (hg : Good w F G) (ha : ArgsR w F args vs) : Calls P f vs w fun e w' => e = .returned (.bool r) ∧ Below w.heap.size w w' := by
  refine (h w F vs hg ha).mono ?_
  rintro e w' ⟨v, F', rfl, _, _, _, hr, hb⟩
  cases hr
  exact ⟨rfl, hb⟩
theorem PureC.to_int {f : Nat} {args : List AV} {k : IntKind} {r : Int} (h : PureC P G f args (.int k r)) {w : World} {F : Nat → Prop} {vs : Array Value} (hg : Good w F G) (ha : ArgsR w F args vs) : Calls P f vs w fun e w' => e = .returned (.int k r) ∧ Below w.heap.size w w' := by
  refine (h w F vs hg ha).mono ?_
  rintro e w' ⟨v, F', rfl, _, _, _, hr, hb⟩
  cases hr
  exact ⟨rfl, hb⟩
theorem argsR_1 {w : World} {F : Nat → Prop} {c : AV} {vs : Array Value} (h : ArgsR w F [c] vs) : ∃ v, vs = #[v] ∧ Rd w F noNames c v := by
  obtain ⟨hs, hr⟩ := h
  obtain ⟨l⟩ := vs
  match l, hs with
  | [v], _ => exact ⟨v, rfl, hr 0 c v rfl rfl⟩
theorem argsR_2 {w : World} {F : Nat → Prop} {c d : AV} {vs : Array Value} (h : ArgsR w F [c, d] vs) : ∃ v u, vs = #[v, u] ∧ Rd w F noNames c v ∧ Rd w F noNames d u := by
  obtain ⟨hs, hr⟩ := h
  obtain ⟨l⟩ := vs
  match l, hs with
  | [v, u], _ => exact ⟨v, u, rfl, hr 0 c v rfl rfl, hr 1 d u rfl rfl⟩
theorem builder_below {T e : TypeId} {B b : Nat} {bs : List Value} {w w' : World} (h : Lib.IsBuilder T e B b bs w) (hb : Below w.heap.size w w') : Lib.IsBuilder T e B b bs w' := by
  have one : ∀ p, Lib.BuilderAt T e B b p bs w → Lib.BuilderAt T e B b p bs w' := fun p h => by
    have hlt := h.lt
    obtain ⟨hB, v, hbk, ⟨hl, hown⟩, hne⟩ := h
    refine ⟨hB, v, by rw [hb.block b hlt]; exact hbk, ⟨hl, ?_⟩, hne⟩
    rcases hown with h | ⟨g, cap, cur, hv, hBg, hg, rest⟩
    · exact .inl h
    · exact .inr ⟨g, cap, cur, hv, hBg, by rw [hb.block g (Array.getElem?_eq_some_iff.1 hg).1]; exact hg, rest⟩
  exact h.imp (one _) (one _)
theorem tab_of {w : World} {F : Nat → Prop} {g : Nat} {n : String} {k : IntKind} {l : List Int} (hn : P.globalNamed n = some g) (hg : Good w F G) (h : G g = some (.agg (l.map (AV.int k)))) : Lib.TabIs P w n k l := by
  obtain ⟨h1, arr, t, fz, h2, h3⟩ := hg.2 g _ h
  unfold Lib.TabIs World.var?
  rw [hn]
  simp only [Option.bind_some, h2]
  have hs : arr.size = l.length := by simpa [AV.cells] using h3
  congr 1
  apply Array.ext
  · simp [hs]
  · intro i hi hi'
    rw [hs] at hi
    cases h1 with
    | eptr _ _ _ _ _ u hF hw h1 h =>
      have e1 := hw i (by simpa [AV.cells] using hi)
      have e2 := h i (.int k l[i]) (by simp [AV.cells, hi])
      simp only [World.cell?, Nat.zero_add, h2, Option.isSome_none, if_false] at e1
      simp only [List.getElem_toArray, List.getElem_map]
      cases e2' : u i with
      | int k' n' => 
        rw [e2'] at e2
        cases e2
        rw [e2'] at e1
        have e3 : arr[i]? = some (Value.int k l[i]) := by simpa using e1
        exact (Array.getElem?_eq_some_iff.1 e3).2
      | _ => rw [e2'] at e2; cases e2
theorem strconv_FormatInt_pc (hG : G 7 = some (.agg (Lib.pow10Tab.map (AV.int .u64)))) (n : Int) (hn : i64 n) : PureC Tryz.prog G n_strconv_FormatInt [iv n, iv 10] (.str (Lib.itoa n)) := by
  refine PureC.of_str fun w F vs hg ha => ?_
  obtain ⟨v, u, rfl, h1, h2⟩ := argsR_2 ha
  cases h1
  cases h2
  unfold i64 at hn
  refine (Tryz.strconv_FormatInt_10 n hn.1 (by omega) w (tab_of (by kernel_rfl) hg hG)).mono ?_
  rintro e w' ⟨rfl, k, os, rfl⟩
  exact ⟨rfl, Lib.below_grow _ _ (Nat.le_refl _) _ _⟩
end
end Go.Proofs.YtjbcfpkibnhodaaGreatDoor.Ab
namespace Go.Proofs.YtjbcfpkibnhodaaGreatDoor.Ab
open Go Go.RowKit
set_option linter.unusedSimpArgs false
set_option maxHeartbeats 4000000
set_option maxRecDepth 100000
variable {G : Nat → Option AV}
theorem strings_Join_pc (xs : List Str) (sep : Str) (hN : xs.length ≤ 1000000) (hlen : (Lib.join xs sep).length ≤ 140737488355328) : PureC Tryz.prog G n_strings_Join [.seq 1 (xs.map AV.str), .str sep] (.str (Lib.join xs sep)) := by
  refine PureC.of_str fun w F vs hg ha => ?_
  obtain ⟨v, u, rfl, h1, h2⟩ := argsR_2 ha
  cases h2
  have hmap : (xs.map fun s => (⟨s.toArray⟩ : ByteArray)).map (fun x => x.data.toList) = xs := by
    rw [List.map_map]
    conv => rhs; rw [← List.map_id xs]
    rfl
  have emp : ∀ a c, xs = [] → v = .slice a 0 c → Calls Tryz.prog n_strings_Join #[v, .string ⟨sep.toArray⟩] w fun e w' => e = .returned (.string ⟨(Lib.join xs sep).toArray⟩) ∧ Below w.heap.size w w' := fun a c hx hv => by
    subst hx hv
    refine (Tryz.strings_Join_none a c ⟨sep.toArray⟩ w).mono ?_
    rintro e w' ⟨rfl, rfl⟩
    exact ⟨rfl, Below.refl _ _⟩
  generalize hes : xs.map AV.str = es at h1
  cases h1 with
  | seq0 _ _ a cap => exact emp a cap (by simpa using hes) rfl
  | seq _ _ _ g o cap u' h0 hF hc hm hs hw h1 h =>
    have hl : es.length = xs.length := by rw [← hes]; simp
    by_cases hx0 : xs = []
    · exact emp (some ⟨g, o, .none⟩) cap hx0 (by rw [hl, hx0]; rfl)
    rw [hl]
    have hpos : 0 < xs.length := List.length_pos_iff.2 hx0
    have each : ∀ (j : Nat) (s : Str), xs[j]? = some s → w.cell? ⟨g, o + j, none⟩ = some (.string ⟨s.toArray⟩) := fun j s hj => by
      have hjl := (List.getElem?_eq_some_iff.1 hj).1
      have e1 := hw j (by omega)
      have e2 := h j (.str s) 0 (.str s) (by rw [← hes, List.getElem?_map, hj]; rfl) rfl
      rw [e1]
      simp only [Nat.mul_one, Nat.add_zero] at e2
      congr 1
      generalize u' j = z at *
      cases e2
      rfl
    have key := Tryz.strings_Join g o cap (xs.map fun s => ⟨s.toArray⟩) ⟨sep.toArray⟩ w (fun j x hj => by
        rw [List.getElem?_map] at hj
        obtain ⟨s, hs, rfl⟩ := Option.map_eq_some_iff.1 hj
        exact each j s hs) (hg.1 g hF) (by simp; omega) (by simpa using hl ▸ hc) (by rw [hmap]; simpa using hlen)
    rw [List.length_map, hmap] at key
    simpa using key
theorem num_TextB_pc (hG : G 7 = some (.agg (Lib.pow10Tab.map (AV.int .u64)))) (n : Int) (hn : i64 n) : PureC Tryz.prog G n_num_Text [iv n] (.str (Lib.itoa n)) := by
  have h1 := strconv_FormatInt_pc (G := G) hG n hn
  refine pc_num_Text (Runs.of fun Φ h => ?_)
  unfold c_num_Text
  generalize Lib.itoa n = x at *
  repeat' (first | (simp -implicitDefEqProofs only [go_sem]) | refine at_guard (fun hb => ?_) (fun hb => ?_) | refine ⟨fun hb => ?_, fun hb => ?_⟩ | refine at_call (h1) rfl rfl ?_ | fail)
  all_goals (refine h _ ⟨_, _, rfl, rfl, fit_eq ?_⟩; clear h; first | rfl | simp_all)
theorem value_Text_num (hG : G 7 = some (.agg (Lib.pow10Tab.map (AV.int .u64)))) (n : Int) (hn : i64 n) : PureC Tryz.prog G n_value_Text [valV ⟨1, n, [], false⟩] (.str (Lib.itoa n)) := by
  have h0 := value_Right_pc (G := G) ⟨1, n, [], false⟩
  rw [show (⟨1, n, [], false⟩ : Val).ok = true from rfl] at h0
  have h1 := num_TextB_pc (G := G) hG n hn
  refine pc_value_Text (Runs.of fun Φ h => ?_)
  unfold c_value_Text
  simp only [valV] at h0
  generalize Lib.itoa n = x at *
  repeat' (first | (simp -implicitDefEqProofs only [go_sem, valV]) | refine at_guard (fun hb => ?_) (fun hb => ?_) | refine ⟨fun hb => ?_, fun hb => ?_⟩ | refine at_call (h0) rfl rfl ?_ | refine at_call (h1) rfl rfl ?_ | fail)
  exact h _ ⟨_, _, rfl, rfl, .refl _⟩
end Go.Proofs.YtjbcfpkibnhodaaGreatDoor.Ab
