/-
  impl.numText (function 10): the number's digits, '-' turned to '~'. Conditions: the table of powers of ten is laid, bytealg.MaxLen holds some int (both are the row's own).
-/
import Derived.Test.YtdcalhgcocdaeaaDoorHEnv
import Derived.Test.YtdcalhgcocdaeaaDoorWWords
import Derived.Lib.ItoaLen
import Derived.Lib.ItoaMem
import Derived.Lib.Replace
import Derived.Lib.SplitLaws
import Derived.WalkKit
set_option linter.unusedVariables false
namespace Go.Proofs.YtdcalhgcocdaeaaDoor.K
open Go Go.Shelf Go.RowKit
set_option maxRecDepth 100000
set_option maxHeartbeats 2000000

theorem replace_num (n : Int) : Lib.replace (Lib.itoa n) [45] [126] 1 = numL n := by
  unfold Lib.replace numL Lib.itoa
  rw [if_neg (by decide)]
  by_cases h : n < 0
  · rw [if_pos h, if_pos h]
    have hc : Lib.count (45 :: Lib.decDigits n.natAbs) [45] = (Lib.decDigits n.natAbs).count 45 + 1 := by
      rw [Lib.count_one]
      simp
    have hn : Lib.replaceNum (45 :: Lib.decDigits n.natAbs) [45] 1 = 1 := by
      unfold Lib.replaceNum
      rw [hc, if_neg (by omega)]
      rfl
    rw [hn, Lib.replaceK_hit [45] [126] 0 _ 0 (by simp [Lib.index])]
    simp [Lib.replaceK]
  · rw [if_neg h, if_neg h]
    have hc : Lib.count (Lib.decDigits n.toNat) [45] = 0 := by rw [Lib.count_one, dec_no45]
    have hn : Lib.replaceNum (Lib.decDigits n.toNat) [45] 1 = 0 := by
      unfold Lib.replaceNum
      rw [hc, if_pos (by omega)]
    rw [hn]
    rfl
theorem numText_calls (n : Int) (h0 : -9223372036854775808 ≤ n) (h1 : n ≤ 9223372036854775807) (w : World) (henv : Env w) :
    Calls Tryd.prog 10 #[.int .i64 n] w fun e w' => e = .returned (.string ⟨(numL n).toArray⟩) ∧ Below w.heap.size w w' := by
  obtain ⟨⟨m, hm⟩, htab⟩ := henv
  have hl := Lib.itoa_length_le n h0 h1
  go_enter Tryd.func10, Tryd.ntmps10
  have hcb := Lib.countB_le (⟨#[45]⟩ : ByteArray) (by decide) (Lib.itoa n).length (⟨(Lib.itoa n).toArray⟩ : ByteArray) (by simp [ByteArray.size])
  have hsz : (⟨(Lib.itoa n).toArray⟩ : ByteArray).size = (Lib.itoa n).length := by simp [ByteArray.size]
  go_wp2_with (go_at_call 14; refine (Tryd.strconv_FormatInt_10 n h0 h1 _ htab).mono ?_; rintro e w' ⟨rfl, k, os, rfl⟩)
  have hb : Below w.heap.size w (Sort.grow (w.drewN k) os) := Lib.below_grow _ _ (Nat.le_refl _) _ _
  have hm' := (hb.cell (World.block_lt_of_cell? w _ hm)).trans hm
  refine (Tryd.strings_Replace ⟨(Lib.itoa n).toArray⟩ ⟨#[45]⟩ ⟨#[126]⟩ 1 m _ (by rw [hsz]; omega) hm' (by decide) ?_).mono ?_
  · have h2 : (⟨#[126]⟩ : ByteArray).size = 1 := rfl
    rw [hsz] at hcb ⊢
    rw [h2]
    omega
  · rintro e w' ⟨rfl, hb2⟩
    have hrn := replace_num n
    go_wp2
    go_ret
    refine ⟨?_, hb.trans (hb2.mono hb.size)⟩
    show _ = Ending.returned (Value.string ⟨(numL n).toArray⟩)
    rw [← hrn]
    rfl
def impl_numText.f (n : Int) : Option ByteArray := if -9223372036854775808 ≤ n ∧ n ≤ 9223372036854775807 then some ⟨(numL n).toArray⟩ else none
theorem impl_numText.calls (n : Int) (r : ByteArray) (w : World) (henv : Env w) (h : impl_numText.f n = some r) :
    Calls Tryd.prog 10 #[.int .i64 n] w fun e w' => e = .returned (.string r) ∧ Below w.heap.size w w' := by
  unfold impl_numText.f at h
  by_cases hn : -9223372036854775808 ≤ n ∧ n ≤ 9223372036854775807
  · rw [if_pos hn] at h
    obtain rfl := Option.some.inj h
    exact numText_calls n hn.1 hn.2 w henv
  · rw [if_neg hn] at h
    cases h
end Go.Proofs.YtdcalhgcocdaeaaDoor.K
