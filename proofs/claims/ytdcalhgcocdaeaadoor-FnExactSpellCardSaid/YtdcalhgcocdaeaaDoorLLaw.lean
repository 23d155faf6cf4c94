/-
  The law's Lean function answers true: impl.Spell and the reference's Spell answer the same text. Conditions: the text is one that Go can hold, the number is an int64.
-/
import Derived.Test.YtdcalhgcocdaeaaDoorLSpell
import Derived.Test.YtdcalhgcocdaeaaDoorHSpell
set_option linter.unusedVariables false
namespace Go.Proofs.YtdcalhgcocdaeaaDoor.K
open Go Go.RowKit Go.Proofs.YtdcalhgcocdaeaaDoorW.PrintWords

theorem num_k (m : Nat) (n : Int) (h0 : -9223372036854775808 ≤ n) (h1 : n ≤ 9223372036854775807) : spec_l5Num.f (m + 20) n = some ⟨(numL n).toArray⟩ := by
  have hp : ∀ u : Nat, u ≤ 9223372036854775808 → spec_l5Down.f (m + 20) (-(u : Int)) = some ⟨(Lib.decDigits u).toArray⟩ := fun u hu => by
    have h2 : (10 : Nat) ^ 20 ≤ 10 ^ (m + 19 + 1) := Nat.pow_le_pow_right (by decide) (by omega)
    exact down (m + 19) u (Nat.lt_of_lt_of_le (by omega) h2) hu
  unfold spec_l5Num.f numL
  by_cases h : n < 0
  · rw [if_pos h, if_pos h]
    have e : n = -((n.natAbs : Nat) : Int) := by omega
    have hd := hp n.natAbs (by omega)
    rw [← e] at hd
    rw [hd]
    simp only [Option.bind_some]
    have := dec_short n.natAbs (by omega)
    rw [if_pos (by rw [size_mk]; omega)]
    exact congrArg some (append_mk [126] (Lib.decDigits n.natAbs))
  · rw [if_neg h, if_neg h]
    have e : wrap64 (-n) = -((n.toNat : Nat) : Int) := by unfold wrap64; omega
    rw [e, hp n.toNat (by omega)]
    rfl
theorem str_k (s : ByteArray) (hs : s.size ≤ 1099511627776) (k : Nat) (hk : 2 * s.size + 1 ≤ k) : spec_l5Str.f k s = some ⟨(strL s.data.toList).toArray⟩ := by
  unfold spec_l5Str.f
  exact str_l0 s hs s.size 0 k [34] (by omega) hk (by simp)

/-- What both answer. -/
def spellB (a0 : Int) (a1 : ByteArray) (a2 : Int) : ByteArray :=
  if a0 = 1 ∨ a0 = 2 ∨ a0 = 3 then a1 else if a0 = 4 then (⟨#[39]⟩ : ByteArray) ++ a1 else if a0 = 5 then ⟨(numL a2).toArray⟩ else if a0 = 6 then ⟨(strL a1.data.toList).toArray⟩ else ⟨#[]⟩

theorem spec_j (a0 : Int) (a1 : ByteArray) (a2 a3 : Int) (hs : a1.size ≤ 1048576) (h0 : -9223372036854775808 ≤ a2) (h1 : a2 ≤ 9223372036854775807) (b : Bool) (hb : b = true ↔ (a0 = 1 ∨ a0 = 2 ∨ a0 = 3)) :
    spec_Spell.j0 (2 * a1.size + 21 + 1) b a0 a1 a2 a3 = some (spellB a0 a1 a2) := by
  simp only [spec_Spell.j0]
  unfold spellB
  cases b with
  | true => rw [if_pos rfl, if_pos (hb.1 rfl)]
  | false =>
    rw [if_neg (by decide), if_neg (fun h => absurd (hb.2 h) (by decide))]
    by_cases h4 : a0 = 4
    · rw [if_pos h4, if_pos h4, if_pos (by omega)]
    · rw [if_neg h4, if_neg h4]
      by_cases h5 : a0 = 5
      · rw [if_pos h5, if_pos h5, show 2 * a1.size + 21 = (2 * a1.size + 1) + 20 by omega, num_k _ _ h0 h1]
        rfl
      · rw [if_neg h5, if_neg h5]
        by_cases h6 : a0 = 6
        · rw [if_pos h6, if_pos h6, str_k a1 (by omega) _ (by omega)]
          rfl
        · rw [if_neg h6, if_neg h6]
theorem impl_j (a0 : Int) (a1 : ByteArray) (a2 a3 : Int) (hs : a1.size ≤ 1048576) (h0 : -9223372036854775808 ≤ a2) (h1 : a2 ≤ 9223372036854775807) (b : Bool) (hb : b = true ↔ (a0 = 1 ∨ a0 = 2 ∨ a0 = 3)) :
    impl_Spell.j0 (2 * a1.size + 21 + 1) a0 b a0 a1 a2 a3 = some (spellB a0 a1 a2) := by
  simp only [impl_Spell.j0]
  unfold spellB
  cases b with
  | true => rw [if_pos rfl, if_pos (hb.1 rfl)]
  | false =>
    rw [if_neg (by decide), if_neg (fun h => absurd (hb.2 h) (by decide))]
    by_cases h4 : a0 = 4
    · rw [if_pos h4, if_pos h4, if_pos (by omega)]
    · rw [if_neg h4, if_neg h4]
      by_cases h5 : a0 = 5
      · rw [if_pos h5, if_pos h5]
        unfold impl_numText.f
        rw [if_pos ⟨h0, h1⟩]
        rfl
      · rw [if_neg h5, if_neg h5]
        by_cases h6 : a0 = 6
        · rw [if_pos h6, if_pos h6]
          unfold impl_strText.f
          rw [if_pos (by omega)]
          rfl
        · rw [if_neg h6, if_neg h6]
theorem spec_spell (a0 : Int) (a1 : ByteArray) (a2 a3 : Int) (hs : a1.size ≤ 1048576) (h0 : -9223372036854775808 ≤ a2) (h1 : a2 ≤ 9223372036854775807) :
    spec_Spell.f (2 * a1.size + 21 + 1) a0 a1 a2 a3 = some (spellB a0 a1 a2) := by
  unfold spec_Spell.f
  by_cases e1 : a0 = 1
  · rw [if_pos e1, spec_j a0 a1 a2 a3 hs h0 h1 true ⟨fun _ => .inl e1, fun _ => rfl⟩]
  · rw [if_neg e1]
    by_cases e2 : a0 = 2
    · rw [if_pos e2, spec_j a0 a1 a2 a3 hs h0 h1 true ⟨fun _ => .inr (.inl e2), fun _ => rfl⟩]
    · rw [if_neg e2, spec_j a0 a1 a2 a3 hs h0 h1 (a0 == 3) ⟨fun h => .inr (.inr (beq_iff_eq.1 h)), fun h => beq_iff_eq.2 ((h.resolve_left e1).resolve_left e2)⟩]
theorem impl_spell (a0 : Int) (a1 : ByteArray) (a2 a3 : Int) (hs : a1.size ≤ 1048576) (h0 : -9223372036854775808 ≤ a2) (h1 : a2 ≤ 9223372036854775807) :
    impl_Spell.f (2 * a1.size + 21 + 1) a0 a1 a2 a3 = some (spellB a0 a1 a2) := by
  unfold impl_Spell.f
  by_cases e1 : a0 = 1
  · rw [if_pos e1, impl_j a0 a1 a2 a3 hs h0 h1 (a0 == 1) ⟨fun _ => .inl e1, fun _ => beq_iff_eq.2 e1⟩]
  · rw [if_neg e1]
    by_cases e2 : a0 = 2
    · rw [if_pos e2, impl_j a0 a1 a2 a3 hs h0 h1 (a0 == 2) ⟨fun _ => .inr (.inl e2), fun _ => beq_iff_eq.2 e2⟩]
    · rw [if_neg e2, impl_j a0 a1 a2 a3 hs h0 h1 (a0 == 3) ⟨fun h => .inr (.inr (beq_iff_eq.1 h)), fun h => beq_iff_eq.2 ((h.resolve_left e1).resolve_left e2)⟩]
theorem law_true (a0 : Int) (a1 : ByteArray) (a2 a3 : Int) (hs : a1.size ≤ 9223372036854775807) (h0 : -9223372036854775808 ≤ a2) (h1 : a2 ≤ 9223372036854775807) :
    laws_FnExactSpell.f (2 * a1.size + 21 + 1) a0 a1 a2 a3 = some true := by
  unfold laws_FnExactSpell.f laws_szToken.f laws_toToken.f
  have hw : wrap64 (1048576 - (a1.size : Int)) = 1048576 - (a1.size : Int) := by unfold wrap64; omega
  rw [hw]
  by_cases h : 1048576 - (a1.size : Int) < 0
  · rw [if_pos h]
    simp only [Option.bind_some]
    rw [if_pos (by decide)]
  · rw [if_neg h]
    simp only [Option.bind_some]
    rw [if_neg h, spec_spell a0 a1 a2 a3 (by omega) h0 h1]
    simp only [Option.bind_some]
    rw [impl_spell a0 a1 a2 a3 (by omega) h0 h1]
    simp only [Option.bind_some, if_true]
end Go.Proofs.YtdcalhgcocdaeaaDoor.K
