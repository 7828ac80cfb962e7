/-
  Sets of configurations of one automaton: one order, one key each. DERIVED: THE SHELF's CONTRACTS AT THIS DUMP, IN PLAIN WORDS (tools/lay-plain.mjs out of 'TryzShelf.lean', which tools/lay-shelf.mjs wrote): THE SAME DECLARATIONS UNDER THE SAME NAMES: 'import', 'namespace', 'open', 'def', 'theorem' AND NOTHING ELSE: no command of the shelf's: FOR A HAND-IN. Each laying: the table of numbers ('.._ren') and one theorem, a field a fact of the dump's own or the kernel's comparison; each contract: ONE APPLICATION. The library's texts, by the shelf's contracts: strconv.FormatInt; contracts out of walks. Texts in a row; the text of a number. No claim is proved here.
-/
import Derived.Test.YtdfdiglnpekcpabDoorWC4
import Derived.Test.YtdfdiglnpekcpabDoorWC5
import Derived.Shelf.Strings.Builder1
import Derived.Shelf.Strings.Builder2
import Derived.Shelf.Strings.OnBuilder
import Derived.Shelf.Strconv.Itoa0
import Derived.Shelf.Strconv.Itoa1
import Derived.Shelf.LaysM
import Derived.Shelf.Strconv.Itoa2
import Derived.Shelf.Strconv.Itoa3
import Derived.Shelf.Strconv.Itoa4
import Derived.Shelf.Bits.Mul64
import Derived.Test.YtdfdiglnpekcpabDoorProg
import Derived.Test.YtdfdiglnpekcpabDoorWAcR
import Derived.Test.YtdfdiglnpekcpabDoorWN0
import Derived.WalkKit
import Derived.Lib.Walk
import Derived.Lib.AppendIntMem
import Derived.Test.YtdfdiglnpekcpabDoorWAbTrod
import Derived.Test.YtdfdiglnpekcpabDoorWD4
namespace Go.Proofs.YtdfdiglnpekcpabDoor.Ab
open Go
set_option linter.unusedSimpArgs false
theorem less_tri : ∀ {s t : Str}, s ≠ t → Op.bytesLess s t = true ∨ Op.bytesLess t s = true
  | [], [], h => absurd rfl h
  | [], b :: t, _ => .inl rfl
  | a :: s, [], _ => .inr rfl
  | a :: s, b :: t, h => by
    rw [Op.bytesLess, Op.bytesLess]
    by_cases hab : a = b
    · subst hab
      have hst : s ≠ t := fun e => h (by rw [e])
      rcases less_tri hst with h1 | h1
      · left; simp [h1]
      · right; simp [h1]
    · rcases Nat.lt_or_ge a.toNat b.toNat with h1 | h1
      · left
        have : a < b := h1
        simp [this]
      · right
        have h2 : b.toNat < a.toNat := by
          have : a.toNat ≠ b.toNat := fun e => hab (UInt8.toNat_inj.1 e)
          omega
        have : b < a := h2
        simp [this]
theorem lessV_tri {a b : Val} (ha : a.ok = true) (hb : b.ok = true) (hk : a.kind = b.kind) (h : a ≠ b) : lessV a b = true ∨ lessV b a = true := by
  obtain ⟨k, n, s, t⟩ := a
  obtain ⟨k', n', s', t'⟩ := b
  simp only at hk
  subst hk
  have h3 := ok_kind ha
  simp only at h3
  rcases h3 with rfl | rfl | rfl
  · simp [Val.ok] at ha hb
    obtain ⟨rfl, rfl⟩ := ha
    obtain ⟨rfl, rfl⟩ := hb
    have hn : n ≠ n' := fun e => h (by rw [e])
    simp [lessV]
    omega
  · simp [Val.ok] at ha hb
    obtain ⟨rfl, rfl, _⟩ := ha
    obtain ⟨rfl, rfl, _⟩ := hb
    have hn : s ≠ s' := fun e => h (by rw [e])
    simpa [lessV] using less_tri hn
  · simp [Val.ok] at ha hb
    obtain ⟨rfl, rfl⟩ := ha
    obtain ⟨rfl, rfl⟩ := hb
    have hn : t ≠ t' := fun e => h (by rw [e])
    cases t <;> cases t' <;> simp_all [lessV]
theorem lessVs_irr : ∀ (l : List Val), lessVs l l = false
  | [] => rfl
  | v :: l => by
    rw [lessVs, if_neg (by simp)]
    exact lessVs_irr l
theorem lessVs_tri : ∀ {l k : List Val}, l.length = k.length → (∀ (i : Nat) v w, l[i]? = some v → k[i]? = some w → v.ok = true ∧ w.ok = true ∧ v.kind = w.kind) → l ≠ k → lessVs l k = true ∨ lessVs k l = true
  | [], [], _, _, h => absurd rfl h
  | v :: l, w :: k, hl, hh, h => by
    rw [lessVs, lessVs]
    by_cases hvw : v = w
    · rw [if_neg (by simp [hvw]), if_neg (by simp [hvw])]
      exact lessVs_tri (by simpa using hl) (fun i x y hx hy => hh (i + 1) x y hx hy) fun e => h (by rw [hvw, e])
    · rw [if_pos hvw, if_pos fun e => hvw e.symm]
      obtain ⟨h1, h2, h3⟩ := hh 0 v w rfl rfl
      exact lessV_tri h1 h2 h3 hvw
theorem cfgOne_eq {q : QeaT} {a b : CfgT} (ha : cfgR q a = true) (hb : cfgR q b = true) : cfgOne a b = decide (a = b) := by
  unfold cfgR at ha hb
  simp only [Bool.and_eq_true, decide_eq_true_eq] at ha hb
  obtain ⟨a1, a2⟩ := fitsR_at ha.2.2
  obtain ⟨b1, b2⟩ := fitsR_at hb.2.2
  obtain ⟨x, l⟩ := a
  obtain ⟨y, k⟩ := b
  simp only at a1 a2 b1 b2
  unfold cfgOne cfgLess
  simp only
  by_cases hxy : x = y
  · subst hxy
    rw [if_neg (by simp), if_neg (by simp)]
    by_cases hlk : l = k
    · subst hlk
      rw [lessVs_irr]
      simp
    · have htri := lessVs_tri (l := l) (k := k) (by omega) (fun i v w hv hw => by
        have hi := (List.getElem?_eq_some_iff.1 hv).1
        obtain ⟨f, hf, _⟩ := at_some (l := q.frees) (i := i) (by omega)
        obtain ⟨c1, c2⟩ := a2 i v f hv hf
        obtain ⟨c3, c4⟩ := b2 i w f hw hf
        exact ⟨c1, c3, c2.trans c4.symm⟩) hlk
      have : ¬ (⟨x, l⟩ : CfgT) = ⟨x, k⟩ := fun e => hlk (by injection e)
      rw [decide_eq_false this]
      rcases htri with h | h <;> rw [h] <;> simp
  · rw [if_pos hxy, if_pos fun e => hxy e.symm]
    have : ¬ (⟨x, l⟩ : CfgT) = ⟨y, k⟩ := fun e => hxy (by injection e)
    rw [decide_eq_false this]
    rcases Int.lt_or_gt_of_ne hxy with h | h
    · simp [h]
    · simp [h]
theorem zipB_congr {α : Type} {p p' : α → α → Bool} : ∀ {l k : List α}, (∀ x ∈ l, ∀ y ∈ k, p x y = p' x y) → zipB p l k = zipB p' l k
  | [], [], _ => rfl
  | [], _ :: _, _ => rfl
  | _ :: _, [], _ => rfl
  | x :: l, y :: k, h => by
    rw [zipB, zipB, h x (by simp) y (by simp), zipB_congr (l := l) (k := k) fun a ha b hb => h a (by simp [ha]) b (by simp [hb])]
theorem same_eq {q : QeaT} {a b : List CfgT} (ha : ∀ c ∈ a, cfgR q c = true) (hb : ∀ c ∈ b, cfgR q c = true) : zipB cfgOne a b = decide (a = b) := by
  rw [← zipB_eq]
  exact zipB_congr fun x hx y hy => cfgOne_eq (ha x hx) (hb y hy)
theorem keySet_inj : ∀ {n : Nat} {a b : List CfgT}, (∀ c ∈ a, c.Key ∧ c.vals.length = n) → (∀ c ∈ b, c.Key ∧ c.vals.length = n) → keySet a = keySet b → a = b
  | n, [], [], _, _, _ => rfl
  | n, [], c :: b, _, _, h => by simp [keySet] at h
  | n, c :: a, [], _, _, h => by simp [keySet] at h
  | n, c :: a, d :: b, ha, hb, h => by
    simp only [keySet, List.flatMap_cons, List.cons_append, List.cons.injEq] at h
    obtain ⟨h0, h⟩ := h
    obtain ⟨c1, c2⟩ := ha c (by simp)
    obtain ⟨d1, d2⟩ := hb d (by simp)
    obtain ⟨e1, e2⟩ := keyVs_inj (by omega) (fun v hv => ⟨(c1.ok v hv).1, (c1.ok v hv).2.1⟩) (fun v hv => ⟨(d1.ok v hv).1, (d1.ok v hv).2.1⟩) h
    have e3 := keySet_inj (n := n) (a := a) (b := b) (fun x hx => ha x (by simp [hx])) (fun x hx => hb x (by simp [hx])) e2
    have e4 : c.state = d.state := by
      have := congrArg UInt8.toNat h0
      have c3 := c1.st0; have c4 := c1.st; have d3 := d1.st0; have d4 := d1.st
      simp at this
      omega
    obtain ⟨x, l⟩ := c
    obtain ⟨y, k⟩ := d
    simp only at e1 e4
    rw [e1, e3, e4]
end Go.Proofs.YtdfdiglnpekcpabDoor.Ab
namespace Go.Proofs
open Go.Shelf
def Tryd.lays156_ren : Go.Shelf.Ren := ⟨fun | 156 => 55 | 165 => 84 | 166 => 85 | 169 => 86 | 240 => 113 | 241 => 114 | 276 => 127 | 277 => 128 | n => n, fun | 31 => 113 | 9 => 9 | 3 => 3 | 4 => 4 | 0 => 0 | 20 => 20 | 72 => 155 | 76 => 157 | 70 => 153 | 37 => 74 | 75 => 92 | 127 => 195 | 164 => 169 | 5 => 5 | 80 => 159 | n => n, fun | n => n⟩
theorem Tryd.lays156 : Go.Proofs.Lays.n156 Tryd.prog Tryd.lays156_ren := {
  mixed := by kernel_rfl
  f156 := Tryd.func55.trans (congrArg some (by kernel_rfl))
  f165 := Tryd.func84.trans (congrArg some (by kernel_rfl))
  f166 := Tryd.func85.trans (congrArg some (by kernel_rfl))
  f169 := Tryd.func86.trans (congrArg some (by kernel_rfl))
  f240 := Tryd.func113.trans (congrArg some (by kernel_rfl))
  f241 := Tryd.func114.trans (congrArg some (by kernel_rfl))
  f276 := Tryd.func127.trans (congrArg some (by kernel_rfl))
  f277 := Tryd.func128.trans (congrArg some (by kernel_rfl))
  t0 := Tryd.underlying0
  a0 := Tryd.isAgg0
  z0 := Tryd.sizeOf0
  v0 := Tryd.zeroValue0
  t3 := Tryd.underlying3
  a3 := Tryd.isAgg3
  z3 := Tryd.sizeOf3
  v3 := Tryd.zeroValue3
  t4 := Tryd.underlying4
  a4 := Tryd.isAgg4
  z4 := Tryd.sizeOf4
  v4 := Tryd.zeroValue4
  t9 := Tryd.underlying9
  a9 := Tryd.isAgg9
  z9 := Tryd.sizeOf9
  v9 := Tryd.zeroValue9
  t20 := Tryd.underlying20
  a20 := Tryd.isAgg20
  z20 := Tryd.sizeOf20
  v20 := Tryd.zeroValue20
  t31 := Tryd.underlying113
  a31 := Tryd.isAgg113
  z31 := Tryd.sizeOf113
  v31 := Tryd.zeroValue113
  t37 := Tryd.underlying74
  a37 := Tryd.isAgg74
  z37 := Tryd.sizeOf74
  v37 := Tryd.zeroValue74
  t70 := Tryd.underlying153
  a70 := Tryd.isAgg153
  z70 := Tryd.sizeOf153
  v70 := Tryd.zeroValue153
  t72 := Tryd.underlying155
  a72 := Tryd.isAgg155
  z72 := Tryd.sizeOf155
  v72 := Tryd.zeroValue155
  t75 := Tryd.underlying92
  a75 := Tryd.isAgg92
  z75 := Tryd.sizeOf92
  v75 := Tryd.zeroValue92
  t76 := Tryd.underlying157
  a76 := Tryd.isAgg157
  z76 := Tryd.sizeOf157
  v76 := Tryd.zeroValue157
  t127 := Tryd.underlying195
  a127 := Tryd.isAgg195
  z127 := Tryd.sizeOf195
  v127 := Tryd.zeroValue195
  t164 := Tryd.underlying169
  a164 := Tryd.isAgg169
  z164 := Tryd.sizeOf169
  v164 := Tryd.zeroValue169 }
theorem Tryd.Builder_Extra_156 : Builder.Extra Tryd.prog Tryd.lays156_ren := {
  sizeBuilder := by kernel_rfl
  liesBuilder := by kernel_rfl
  t5 := Tryd.underlying5
  a5 := Tryd.isAgg5
  z5 := Tryd.sizeOf5
  v5 := Tryd.zeroValue5
  infoByte := by kernel_rfl
  cellsByte := by kernel_rfl
  sizeByte := by kernel_rfl
  neB5 := by decide }
open Go.RowKit in
/-- No element: the empty string; the world is as it was. (Whatever the slice's address and capacity: a nil slice too.) (LAID: no walk: one application.) -/
theorem Tryd.strings_Join_none (a : Option Addr) (c : Nat) (sep : ByteArray) (w : World) :
    Calls Tryd.prog 55 #[.slice a 0 c, .string sep] w fun e w' => e = .returned (.string ⟨#[]⟩) ∧ w' = w := Any.strings_Join_none Tryd.lays156 Tryd.Builder_Extra_156 a c sep w
open Go.RowKit in
/-- strings.Join: "Join concatenates the elements of its first argument to create a single string. The separator string sep is placed between elements in the resulting string.": HOWEVER MANY ELEMENTS. Below the heap's end the world is as it was. (LAID: no walk: one application.) -/
theorem Tryd.strings_Join (bk o c : Nat) (xs : List ByteArray) (sep : ByteArray) (w : World) (hcells : ∀ (j : Nat) x, xs[j]? = some x → w.cell? ⟨bk, o + j, none⟩ = some (.string x)) (hbk : bk < w.heap.size) (hN : xs.length ≤ 140737488355328) (hcap : xs.length ≤ c) (hlen : (Lib.join (xs.map (·.data.toList)) sep.data.toList).length ≤ 140737488355328) :
    Calls Tryd.prog 55 #[.slice (some ⟨bk, o, none⟩) xs.length c, .string sep] w fun e w' => e = .returned (.string ⟨(Lib.join (xs.map (·.data.toList)) sep.data.toList).toArray⟩) ∧ Below w.heap.size w w' := Any.strings_Join Tryd.lays156 Tryd.Builder_Extra_156 bk o c xs sep w hcells hbk hN hcap hlen
def Tryd.laysM173_ren : Go.Shelf.Ren := ⟨fun | 173 => 110 | 246 => 124 | 283 => 134 | 284 => 135 | 285 => 136 | 286 => 137 | 129 => 142 | 317 => 141 | 318 => 143 | 319 => 144 | 320 => 145 | 337 => 146 | 338 => 147 | n => n, fun | 2 => 2 | 3 => 3 | 9 => 9 | 4 => 4 | 171 => 227 | 0 => 0 | 53 => 196 | 37 => 74 | 5 => 5 | 173 => 230 | 212 => 238 | 51 => 67 | 20 => 20 | 213 => 239 | 46 => 118 | 232 => 243 | 233 => 244 | n => n, fun | 17 => 4 | 18 => 5 | 19 => 6 | n => n⟩
theorem Tryd.laysM173 : Go.Proofs.LaysM.n173 Tryd.prog Tryd.laysM173_ren := {
  mixed := by kernel_rfl
  f129 := Tryd.func142.trans (congrArg some (by kernel_rfl))
  f173 := Tryd.func110.trans (congrArg some (by kernel_rfl))
  f246 := Tryd.func124.trans (congrArg some (by kernel_rfl))
  f283 := Tryd.func134.trans (congrArg some (by kernel_rfl))
  f284 := Tryd.func135.trans (congrArg some (by kernel_rfl))
  f285 := Tryd.func136.trans (congrArg some (by kernel_rfl))
  f286 := Tryd.func137.trans (congrArg some (by kernel_rfl))
  f317 := Tryd.func141.trans (congrArg some (by kernel_rfl))
  f318 := Tryd.func143.trans (congrArg some (by kernel_rfl))
  f319 := Tryd.func144.trans (congrArg some (by kernel_rfl))
  f320 := Tryd.func145.trans (congrArg some (by kernel_rfl))
  f337 := Tryd.func146.trans (congrArg some (by kernel_rfl))
  f338 := Tryd.func147.trans (congrArg some (by kernel_rfl))
  t0 := Tryd.underlying0
  a0 := Tryd.isAgg0
  z0 := Tryd.sizeOf0
  v0 := Tryd.zeroValue0
  t2 := Tryd.underlying2
  a2 := Tryd.isAgg2
  z2 := Tryd.sizeOf2
  v2 := Tryd.zeroValue2
  t3 := Tryd.underlying3
  a3 := Tryd.isAgg3
  z3 := Tryd.sizeOf3
  v3 := Tryd.zeroValue3
  t4 := Tryd.underlying4
  a4 := Tryd.isAgg4
  z4 := Tryd.sizeOf4
  v4 := Tryd.zeroValue4
  t5 := Tryd.underlying5
  a5 := Tryd.isAgg5
  z5 := Tryd.sizeOf5
  v5 := Tryd.zeroValue5
  t9 := Tryd.underlying9
  a9 := Tryd.isAgg9
  z9 := Tryd.sizeOf9
  v9 := Tryd.zeroValue9
  t20 := Tryd.underlying20
  a20 := Tryd.isAgg20
  z20 := Tryd.sizeOf20
  v20 := Tryd.zeroValue20
  t37 := Tryd.underlying74
  a37 := Tryd.isAgg74
  z37 := Tryd.sizeOf74
  v37 := Tryd.zeroValue74
  t46 := Tryd.underlying118
  a46 := Tryd.isAgg118
  z46 := Tryd.sizeOf118
  v46 := Tryd.zeroValue118
  t51 := Tryd.underlying67
  a51 := Tryd.isAgg67
  z51 := Tryd.sizeOf67
  v51 := Tryd.zeroValue67
  t53 := Tryd.underlying196
  a53 := Tryd.isAgg196
  z53 := Tryd.sizeOf196
  v53 := Tryd.zeroValue196
  t171 := Tryd.underlying227
  a171 := Tryd.isAgg227
  z171 := Tryd.sizeOf227
  v171 := Tryd.zeroValue227
  t173 := Tryd.underlying230
  a173 := Tryd.isAgg230
  z173 := Tryd.sizeOf230
  v173 := Tryd.zeroValue230
  t212 := Tryd.underlying238
  a212 := Tryd.isAgg238
  z212 := Tryd.sizeOf238
  v212 := Tryd.zeroValue238
  t213 := Tryd.underlying239
  a213 := Tryd.isAgg239
  z213 := Tryd.sizeOf239
  t232 := Tryd.underlying243
  a232 := Tryd.isAgg243
  z232 := Tryd.sizeOf243
  v232 := Tryd.zeroValue243
  t233 := Tryd.underlying244
  a233 := Tryd.isAgg244
  z233 := Tryd.sizeOf244
  v233 := Tryd.zeroValue244
  g17 := by kernel_rfl
  g18 := by kernel_rfl
  g19 := by kernel_rfl
  i0 := by kernel_rfl
  i2 := by kernel_rfl
  i3 := by kernel_rfl
  i4 := by kernel_rfl
  i5 := by kernel_rfl
  i9 := by kernel_rfl
  i20 := by kernel_rfl
  i37 := by kernel_rfl
  i46 := by kernel_rfl
  i51 := by kernel_rfl
  i53 := by kernel_rfl
  i171 := by kernel_rfl
  i173 := by kernel_rfl
  i212 := by kernel_rfl
  i232 := by kernel_rfl
  i233 := by kernel_rfl
  m17 := by kernel_rfl
  m18 := by kernel_rfl
  m19 := by kernel_rfl }
open Go.RowKit Go.Sort Go.Lib in
/-- strconv.FormatInt: "FormatInt returns the string representation of i in the given base": AT BASE 10: i's decimal numeral, for every int64. (LAID: no walk: one application.) -/
theorem Tryd.strconv_FormatInt_10 (n : Int) (h0 : -9223372036854775808 ≤ n) (h1 : n ≤ 9223372036854775807) (w : World) (htab : Lib.TabIs Tryd.prog w "internal/strconv.uint64pow10" .u64 Lib.pow10Tab) :
    Calls Tryd.prog 110 #[.int .i64 n, .int .i64 10] w fun e w' => e = .returned (.string ⟨(Lib.itoa n).toArray⟩) ∧ ∃ k os, w' = grow (w.drewN k) os := Any.strconv_FormatInt_10 Tryd.laysM173 n h0 h1 w htab
end Go.Proofs
namespace Go.Proofs.YtdfdiglnpekcpabDoor.Ab
open Go
set_option linter.unusedSimpArgs false
set_option maxHeartbeats 4000000
section
open Go.RowKit
variable {G : Nat → Option AV} {P : Program}
/-- A contract on a text, out of a walk. -/
theorem PureC.of_str {f : Nat} {args : List AV} {r : Str} (h : ∀ (w : World) (F : Nat → Prop) (vs : Array Value), Good w F G → ArgsR w F args vs → Calls P f vs w fun e w' => e = .returned (.string ⟨r.toArray⟩) ∧ Below w.heap.size w w') : PureC P G f args (.str r) := by
  intro w F vs hg ha
  refine (h w F vs hg ha).mono ?_
  rintro e w' ⟨rfl, hb⟩
  exact ⟨_, F, rfl, fun b h => h, fun b h => .inl h, fun b h => Nat.lt_of_lt_of_le (hg.1 b h) hb.size, .str _ _, hb⟩
theorem argsR_2 {w : World} {F : Nat → Prop} {c d : AV} {vs : Array Value} (h : ArgsR w F [c, d] vs) : ∃ v u, vs = #[v, u] ∧ Rd w F noNames c v ∧ Rd w F noNames d u := by
  obtain ⟨hs, hr⟩ := h
  obtain ⟨l⟩ := vs
  match l, hs with
  | [v, u], _ => exact ⟨v, u, rfl, hr 0 c v rfl rfl, hr 1 d u rfl rfl⟩
/-- A variable that is known to be a table of numbers. -/
theorem tab_of {w : World} {F : Nat → Prop} {g : Nat} {n : String} {k : IntKind} {l : List Int} (hn : P.globalNamed n = some g) (hg : Good w F G) (h : G g = some (.agg (l.map (AV.int k)))) : Lib.TabIs P w n k l := by
  obtain ⟨h1, arr, t, fz, h2, h3⟩ := hg.2 g _ h
  unfold Lib.TabIs World.var?
  rw [hn]
  simp only [Option.bind_some, h2]
  have hs : arr.size = l.length := by simpa [AV.cells] using h3
  congr 1
  apply Array.ext
  · simp [hs]
  · intro i hi hi'
    rw [hs] at hi
    cases h1 with
    | eptr _ _ _ _ _ u hF hw h1 h =>
      have e1 := hw i (by simpa [AV.cells] using hi)
      have e2 := h i (.int k l[i]) (by simp [AV.cells, hi])
      simp only [World.cell?, Nat.zero_add, h2, Option.isSome_none, if_false] at e1
      simp only [List.getElem_toArray, List.getElem_map]
      cases e2' : u i with
      | int k' n' => 
        rw [e2'] at e2
        cases e2
        rw [e2'] at e1
        have e3 : arr[i]? = some (Value.int k l[i]) := by simpa using e1
        exact (Array.getElem?_eq_some_iff.1 e3).2
      | _ => rw [e2'] at e2; cases e2
theorem strconv_FormatInt_pc (hG : G 4 = some (.agg (Lib.pow10Tab.map (AV.int .u64)))) (n : Int) (hn : i64 n) : PureC Tryd.prog G n_strconv_FormatInt [iv n, iv 10] (.str (Lib.itoa n)) := by
  refine PureC.of_str fun w F vs hg ha => ?_
  obtain ⟨v, u, rfl, h1, h2⟩ := argsR_2 ha
  cases h1
  cases h2
  unfold i64 at hn
  refine (Tryd.strconv_FormatInt_10 n hn.1 (by omega) w (tab_of (by kernel_rfl) hg hG)).mono ?_
  rintro e w' ⟨rfl, k, os, rfl⟩
  exact ⟨rfl, Lib.below_grow _ _ (Nat.le_refl _) _ _⟩
end
end Go.Proofs.YtdfdiglnpekcpabDoor.Ab
namespace Go.Proofs.YtdfdiglnpekcpabDoor.Ab
open Nat renaming reduceAdd → zq0, reduceSub → zq1, reduceMul → zq2, reduceLT → zq3, reduceLeDiff → zq4, reduceEqDiff → zq5, reduceBEq → zq6
open Int renaming reduceNeg → zq7, reduceAdd → zq8, reduceLT → zq9, reduceLE → zq10, reduceToNat → zq11, reduceEq → zq12, reduceNe → zq13, reduceBEq → zq14, reduceBNe → zq15, reduceMul → zq16, reduceSub → zq17
open Go Go.RowKit
set_option linter.unusedSimpArgs false
set_option maxHeartbeats 4000000
set_option maxRecDepth 100000
variable {G : Nat → Option AV}
/-- Texts in a row, one by one. -/
theorem strings_Join_pc (xs : List Str) (sep : Str) (hN : xs.length ≤ 1000000) (hlen : (Lib.join xs sep).length ≤ 140737488355328) : PureC Tryd.prog G n_strings_Join [.seq 1 (xs.map AV.str), .str sep] (.str (Lib.join xs sep)) := by
  refine PureC.of_str fun w F vs hg ha => ?_
  obtain ⟨v, u, rfl, h1, h2⟩ := argsR_2 ha
  cases h2
  have hmap : (xs.map fun s => (⟨s.toArray⟩ : ByteArray)).map (fun x => x.data.toList) = xs := by
    rw [List.map_map]
    conv => rhs; rw [← List.map_id xs]
    rfl
  have emp : ∀ a c, xs = [] → v = .slice a 0 c → Calls Tryd.prog n_strings_Join #[v, .string ⟨sep.toArray⟩] w fun e w' => e = .returned (.string ⟨(Lib.join xs sep).toArray⟩) ∧ Below w.heap.size w w' := fun a c hx hv => by
    subst hx hv
    refine (Tryd.strings_Join_none a c ⟨sep.toArray⟩ w).mono ?_
    rintro e w' ⟨rfl, rfl⟩
    exact ⟨rfl, Below.refl _ _⟩
  generalize hes : xs.map AV.str = es at h1
  cases h1 with
  | seq0 _ _ a cap => exact emp a cap (by simpa using hes) rfl
  | seq _ _ _ g o cap u' h0 hF hc hm hs hw h1 h =>
    have hl : es.length = xs.length := by rw [← hes]; simp
    by_cases hx0 : xs = []
    · exact emp (some ⟨g, o, .none⟩) cap hx0 (by rw [hl, hx0]; rfl)
    rw [hl]
    have hpos : 0 < xs.length := List.length_pos_iff.2 hx0
    have each : ∀ (j : Nat) (s : Str), xs[j]? = some s → w.cell? ⟨g, o + j, none⟩ = some (.string ⟨s.toArray⟩) := fun j s hj => by
      have hjl := (List.getElem?_eq_some_iff.1 hj).1
      have e1 := hw j (by omega)
      have e2 := h j (.str s) 0 (.str s) (by rw [← hes, List.getElem?_map, hj]; rfl) rfl
      rw [e1]
      simp only [Nat.mul_one, Nat.add_zero] at e2
      congr 1
      generalize u' j = z at *
      cases e2
      rfl
    have key := Tryd.strings_Join g o cap (xs.map fun s => ⟨s.toArray⟩) ⟨sep.toArray⟩ w (fun j x hj => by
        rw [List.getElem?_map] at hj
        obtain ⟨s, hs, rfl⟩ := Option.map_eq_some_iff.1 hj
        exact each j s hs) (hg.1 g hF) (by simp; omega) (by simpa using hl ▸ hc) (by rw [hmap]; simpa using hlen)
    rw [List.length_map, hmap] at key
    simpa using key
theorem num_Text_pc (hG : G 4 = some (.agg (Lib.pow10Tab.map (AV.int .u64)))) (n : Int) (hn : i64 n) : PureC Tryd.prog G n_num_Text [iv n] (.str (Lib.itoa n)) := by
  have h1 := strconv_FormatInt_pc (G := G) hG n hn
  refine pc_num_Text (Runs.of fun Φ h => ?_)
  unfold c_num_Text
  generalize Lib.itoa n = x at *
  (try (simp -implicitDefEqProofs only [go_sem, zq0, zq1, zq2, zq3, zq4, zq5, zq6, zq7, zq8, zq9, zq10, zq11, zq12, zq13, zq14, zq15, zq16, zq17, reduceIte, reduceCtorEq])); repeat' ((first | refine at_guard (fun hb => ?_) (fun hb => ?_) | refine ⟨fun hb => ?_, fun hb => ?_⟩ | refine at_call (h1) rfl rfl ?_ | fail) <;> (try (simp -implicitDefEqProofs only [go_sem, zq0, zq1, zq2, zq3, zq4, zq5, zq6, zq7, zq8, zq9, zq10, zq11, zq12, zq13, zq14, zq15, zq16, zq17, reduceIte, reduceCtorEq])))
  all_goals (refine h _ ⟨_, _, rfl, rfl, fit_eq ?_⟩; clear h; first | rfl | simp_all)
/-- The text of a number. -/
theorem value_Text_num (hG : G 4 = some (.agg (Lib.pow10Tab.map (AV.int .u64)))) (n : Int) (hn : i64 n) : PureC Tryd.prog G n_value_Text [valV ⟨1, n, [], false⟩] (.str (Lib.itoa n)) := by
  have h0 := value_Right_pc (G := G) ⟨1, n, [], false⟩
  rw [show (⟨1, n, [], false⟩ : Val).ok = true from rfl] at h0
  have h1 := num_Text_pc (G := G) hG n hn
  refine pc_value_Text (Runs.of fun Φ h => ?_)
  unfold c_value_Text
  simp only [valV] at h0
  generalize Lib.itoa n = x at *
  (try (simp -implicitDefEqProofs only [go_sem, zq0, zq1, zq2, zq3, zq4, zq5, zq6, zq7, zq8, zq9, zq10, zq11, zq12, zq13, zq14, zq15, zq16, zq17, reduceIte, reduceCtorEq, valV])); repeat' ((first | refine at_guard (fun hb => ?_) (fun hb => ?_) | refine ⟨fun hb => ?_, fun hb => ?_⟩ | refine at_call (h0) rfl rfl ?_ | refine at_call (h1) rfl rfl ?_ | fail) <;> (try (simp -implicitDefEqProofs only [go_sem, zq0, zq1, zq2, zq3, zq4, zq5, zq6, zq7, zq8, zq9, zq10, zq11, zq12, zq13, zq14, zq15, zq16, zq17, reduceIte, reduceCtorEq, valV])))
  exact h _ ⟨_, _, rfl, rfl, .refl _⟩
end Go.Proofs.YtdfdiglnpekcpabDoor.Ab
