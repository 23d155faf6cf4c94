/-
  What the words of the print are, in plain Lean: a number's text with '~' for the minus sign, and a byte's escape. Condition: none; no program stands in this text.
-/
import Derived.Lib.ItoaNum
import Derived.Lib.Repeat
set_option linter.unusedVariables false
namespace Go.Proofs.YtdcalhgcocdaeaaDoor.K
open Go

def numL (n : Int) : List UInt8 := if n < 0 then 126 :: Lib.decDigits n.natAbs else Lib.decDigits n.toNat
/-- A byte of the text, escaped. -/
def enc (c : UInt8) : List UInt8 :=
  if c = 10 then [92, 110] else if c = 9 then [92, 116] else if c = 92 ∨ c = 34 then [92, c] else if c.toNat < 32 ∨ 126 < c.toNat then 92 :: (Lib.repeatL [48] (3 - (Lib.decDigits c.toNat).length) ++ Lib.decDigits c.toNat) else [c]
def strL (l : List UInt8) : List UInt8 := 34 :: (l.flatMap enc ++ [34])

theorem dec_digit : ∀ (u : Nat), ∀ x ∈ Lib.decDigits u, 48 ≤ x.toNat ∧ x.toNat ≤ 57 := by
  intro u
  induction u using Nat.strongRecOn with
  | _ u ih =>
    intro x hx
    rw [Lib.decDigits] at hx
    by_cases h : u < 10
    · rw [dif_pos h] at hx
      rw [List.mem_singleton.1 hx]
      simp [UInt8.toNat_ofNat]
      omega
    · rw [dif_neg h] at hx
      rcases List.mem_append.1 hx with hx | hx
      · exact ih (u / 10) (by omega) x hx
      · rw [List.mem_singleton.1 hx]
        simp [UInt8.toNat_ofNat]
        omega
theorem dec_no45 (u : Nat) : (Lib.decDigits u).count 45 = 0 := by
  rw [List.count_eq_zero]
  intro h
  have := (dec_digit u 45 h).1
  revert this
  decide
theorem dec_length_byte (c : UInt8) : 1 ≤ (Lib.decDigits c.toNat).length ∧ (Lib.decDigits c.toNat).length ≤ 3 := by
  have hc : c.toNat < 256 := c.toNat_lt
  by_cases h1 : c.toNat < 10
  · rw [Lib.decDigits_one h1]; simp
  · by_cases h2 : c.toNat < 100
    · rw [Lib.decDigits_two h1 h2]; simp
    · rw [Lib.decDigits, dif_neg h1, List.length_append, Lib.decDigits_two (by omega) (by omega)]; simp
theorem enc_esc (c : UInt8) : Lib.repeatL [48] (3 - (Lib.decDigits c.toNat).length) ++ Lib.decDigits c.toNat = [UInt8.ofNat (48 + c.toNat / 100), UInt8.ofNat (48 + c.toNat / 10 % 10), UInt8.ofNat (48 + c.toNat % 10)] := by
  have hc : c.toNat < 256 := c.toNat_lt
  by_cases h1 : c.toNat < 10
  · rw [Lib.decDigits_one h1]
    have e1 : c.toNat / 100 = 0 := by omega
    have e2 : c.toNat / 10 % 10 = 0 := by omega
    have e3 : c.toNat % 10 = c.toNat := by omega
    rw [e1, e2, e3]
    rfl
  · by_cases h2 : c.toNat < 100
    · rw [Lib.decDigits_two h1 h2]
      have e1 : c.toNat / 100 = 0 := by omega
      have e2 : c.toNat / 10 % 10 = c.toNat / 10 := by omega
      rw [e1, e2]
      rfl
    · have hd : Lib.decDigits c.toNat = [UInt8.ofNat (48 + c.toNat / 100), UInt8.ofNat (48 + c.toNat / 10 % 10), UInt8.ofNat (48 + c.toNat % 10)] := by
        rw [Lib.decDigits, dif_neg h1, Lib.decDigits_two (by omega) (by omega)]
        have e1 : c.toNat / 10 / 10 = c.toNat / 100 := by omega
        rw [e1]
        rfl
      rw [hd]
      rfl
theorem enc_length (c : UInt8) : (enc c).length ≤ 4 := by
  unfold enc
  split
  · simp
  · split
    · simp
    · split
      · simp
      · split
        · rw [enc_esc]; simp
        · simp
theorem flat_length (l : List UInt8) : (l.flatMap enc).length ≤ 4 * l.length := by
  induction l with
  | nil => simp
  | cons x l ih =>
    have := enc_length x
    rw [List.flatMap_cons, List.length_append, List.length_cons]
    omega
theorem flat_take (l : List UInt8) (i : Nat) (h : i < l.length) : (l.take (i + 1)).flatMap enc = (l.take i).flatMap enc ++ enc l[i] := by
  rw [List.take_succ_eq_append_getElem h, List.flatMap_append]
  simp
end Go.Proofs.YtdcalhgcocdaeaaDoor.K
