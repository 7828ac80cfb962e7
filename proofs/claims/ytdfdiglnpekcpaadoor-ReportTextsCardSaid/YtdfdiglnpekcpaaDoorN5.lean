/-
  (*report.page).line: what it writes. No claim is proved here.
-/
import Derived.Test.YtdfdiglnpekcpaaDoorN3
import Derived.Test.YtdfdiglnpekcpaaDoorN4
import Derived.Deep.RegionWith
namespace Go.Proofs.YtdfdiglnpekcpaaDoor.Ab
open Go Go.RowKit
set_option linter.unusedSimpArgs false
/-- A line. -/
def numsS (ns : List Int) : Str := ns.flatMap fun n => [32] ++ Lib.itoa n
def lineS (word : Str) (ns : List Int) : Str := word ++ numsS ns ++ [10]
theorem nums_len {ns : List Int} (h : ∀ n ∈ ns, i64 n) : (numsS ns).length ≤ 21 * ns.length := by
  induction ns with
  | nil => simp [numsS]
  | cons n ns ih =>
    have h1 := itoa_len (h n (by simp))
    have h2 := ih fun x hx => h x (by simp [hx])
    unfold numsS at *
    simp only [List.flatMap_cons, List.length_append, List.length_cons, List.length_nil]
    omega
theorem nums_succ {ns : List Int} {i : Nat} {n : Int} (h : ns[i]? = some n) : numsS (ns.take (i + 1)) = numsS (ns.take i) ++ ([32] ++ Lib.itoa n) := by
  rw [List.take_add_one, h]
  simp [numsS]
theorem bytes_app (a b : List UInt8) : (⟨a.toArray⟩ ++ ⟨b.toArray⟩ : ByteArray) = ⟨(a ++ b).toArray⟩ := by
  apply ByteArray.ext
  simp
theorem cell_cells {w : World} {g : Nat} {cs : Array Value} {t : Nat} {fz : Nat × Nat} (h : w.heap[g]? = some (.cells cs t fz)) (i : Nat) : w.cell? ⟨g, i, none⟩ = cs[i]? := by
  simp [World.cell?, h]
theorem good_rest {w w' : World} {F : Nat → Prop} {G : Nat → Option AV} (hg : Good w F G) {n : Nat} (hn : w.heap.size ≤ n) (hb : Below n w w') : Good w' F G := good_below hg hn hb
set_option maxHeartbeats 4000000 in
set_option maxRecDepth 100000 in
theorem line_walk (W0 : World) (F : Nat → Prop) (hg0 : Good W0 F G1) (b : Nat) (bs : List Value) (word : Str) (ns : List Int) (s : Value) (w : World) (hB0 : Below W0.heap.size W0 w) (h0 : Lib.IsBuilder pgT u8T W0.heap.size b bs w)
    (hs : (ns = [] ∧ s = .slice none 0 0) ∨ ∃ g, s = .slice (some ⟨g, 0, none⟩) ns.length ns.length ∧ g ≠ b ∧ w.heap[g]? = some (.cells (ns.map (Value.int .i64)).toArray 3 (0, 0)))
    (hn : ∀ n ∈ ns, i64 n) (hl : ns.length ≤ 3) (hw : word.length ≤ 1000) (hbs : bs.length ≤ 100000) :
    Calls Tryd.prog 20 #[.pointer (some ⟨b, 0, none⟩), .string ⟨word.toArray⟩, s] w fun e w' => e = .returned (.tuple #[]) ∧
      (Lib.IsBuilder pgT u8T W0.heap.size b (bs ++ Lib.byteCells (lineS word ns)) w' ∧ Below W0.heap.size W0 w' ∧ Rest b w w') := by
  obtain ⟨a, c, rfl, ha⟩ : ∃ a c, s = .slice a ns.length c ∧ ∀ (i : Nat) (n : Int), ns[i]? = some n → ∃ g, a = some ⟨g, 0, none⟩ ∧ c = ns.length ∧ g ≠ b ∧ w.heap[g]? = some (.cells (ns.map (Value.int .i64)).toArray 3 (0, 0)) := by
    rcases hs with ⟨rfl, rfl⟩ | ⟨g, rfl, h1, h2⟩
    · exact ⟨none, 0, rfl, by simp⟩
    · exact ⟨_, _, rfl, fun i n _ => ⟨g, rfl, rfl, h1, h2⟩⟩
  go_enter Tryd.func20, Tryd.ntmps20
  go_wp2_with (go_at_call 41; refine (page_WriteString W0.heap.size b bs word _ h0 (by omega) hB0.size).mono ?_)
  rintro e W1 ⟨rfl, h1, b1, r1⟩
  have hb1 := hB0.trans b1
  go_wp2
  go_loopw [15] (fun v wr => ∃ i : Nat, i ≤ ns.length ∧ v = .int .i64 i ∧ Lib.IsBuilder pgT u8T W0.heap.size b (bs ++ Lib.byteCells (word ++ numsS (ns.take i))) wr ∧ Below W0.heap.size W0 wr ∧ Rest b w wr) (fun v _ => ns.length - (intOf v).toNat)
  case atStart => exact ⟨0, Nat.zero_le _, rfl, by simpa [numsS] using h1, hb1, r1⟩
  case round =>
    obtain ⟨i, hi, rfl, hB, hb, hr⟩ := hrel
    have hlen : (bs ++ Lib.byteCells (word ++ numsS (ns.take i))).length ≤ 101063 := by
      have := nums_len (ns := ns.take i) fun x hx => hn x (List.mem_of_mem_take hx)
      simp only [List.length_append, Lib.byteCells_length, List.length_take] at *
      omega
    by_cases hlt : i < ns.length
    · obtain ⟨n, hx⟩ : ∃ n, ns[i]? = some n := ⟨ns[i], List.getElem?_eq_getElem hlt⟩
      obtain ⟨g, rfl, rfl, hgb, hgw⟩ := ha i n hx
      have hin := hn n (List.mem_of_getElem? hx)
      have hgr := hr g _ _ _ hgb (by decide) hgw
      have hc : wr.cell? ⟨g, i, none⟩ = some (.int .i64 n) := by rw [cell_cells hgr]; simp [hx]
      have hl2 : (i : Int) < (ns.length : Int) := by omega
      have hT := fun w hw => (num_Text_pc n hin).to_str (w := w) (good_below hg0 (Nat.le_refl _) hw) (argsR_cons (Rd.int _ _ _) argsR_nil)
      have hil := itoa_len hin
      have hbd : Below W0.heap.size W0 wr.drew := hb.drew
      have hBd : Lib.IsBuilder pgT u8T W0.heap.size b (bs ++ Lib.byteCells (word ++ numsS (ns.take i))) wr.drew := hB.imp (fun h => h.drew) (fun h => h.drew)
      have hrd : Rest b w wr.drew := hr
      have hWS : ∀ w2 : World, Lib.IsBuilder pgT u8T W0.heap.size b (bs ++ Lib.byteCells (word ++ numsS (ns.take i))) w2 → W0.heap.size ≤ w2.heap.size →
          Calls Tryd.prog 41 #[.pointer (some ⟨b, 0, none⟩), .string (⟨#[32]⟩ ++ ⟨(Lib.itoa n).toArray⟩)] w2 fun e w' => e = .returned (.tuple #[.int .i64 ([32] ++ Lib.itoa n).length, .nilIface]) ∧
            (Lib.IsBuilder pgT u8T W0.heap.size b ((bs ++ Lib.byteCells (word ++ numsS (ns.take i))) ++ Lib.byteCells ([32] ++ Lib.itoa n)) w' ∧ Below W0.heap.size w2 w' ∧ Rest b w2 w') := fun w2 h1 h2 => by
        rw [bytes_app [32]]
        exact page_WriteString W0.heap.size b _ ([32] ++ Lib.itoa n) w2 h1 (by simp only [List.length_append, List.length_cons, List.length_nil] at *; omega) h2
      generalize ([32] ++ Lib.itoa n).length = k at hWS
      clear hn hw hbs h0 h1 r1 b1 hb1 hlen hB
      go_wp2
      go_region_with (first | (go_at_call 42; refine (hT _ ?_).mono ?_; exact hbd; rintro e W2 ⟨rfl, b2⟩) | (go_at_call 41; refine (hWS _ ?_ ?_).mono ?_; exact builder_below hBd b2; exact (hbd.trans (b2.mono hbd.size)).size; rintro e W3 ⟨rfl, h3, b3, r3⟩))
      go_wp2
      go_roundw
      case rel =>
        refine ⟨i + 1, hlt, by simp, ?_, hbd.trans ((b2.mono hbd.size).trans b3), hrd.trans ((Rest.below (Nat.le_refl _) b2).trans r3)⟩
        rw [nums_succ hx, ← List.append_assoc word, Lib.byteCells_append, ← List.append_assoc]
        exact h3
      case measure =>
        simp [intOf]
        omega
    · have hie : i = ns.length := by omega
      subst hie
      have hl2 : ¬ (ns.length : Int) < (ns.length : Int) := by omega
      rw [List.take_length] at hB hlen
      go_wp2_with fail
      refine (page_WriteString W0.heap.size b _ [10] _ hB (by simp only [List.length_cons, List.length_nil]; omega) hb.size).mono ?_
      rintro e W2 ⟨rfl, h2, b2, r2⟩
      go_wp2
      go_end0
      refine ⟨rfl, ?_, hb.trans b2, hr.trans r2⟩
      rw [lineS, Lib.byteCells_append, ← List.append_assoc]
      exact h2
end Go.Proofs.YtdfdiglnpekcpaaDoor.Ab
