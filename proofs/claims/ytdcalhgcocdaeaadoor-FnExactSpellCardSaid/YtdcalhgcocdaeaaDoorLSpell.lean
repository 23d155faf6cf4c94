/-
  The reference's words answer what LDefs says: l5Num the number's text, l5Str the escaped text. Conditions: the number is an int64, the text at most 2^40 bytes.
-/
import Derived.Test.YtdcalhgcocdaeaaDoorKx1
import Derived.Test.YtdcalhgcocdaeaaDoorLDefs
set_option linter.unusedVariables false
namespace Go.Proofs.YtdcalhgcocdaeaaDoor.K
open Go Go.RowKit Go.Proofs.YtdcalhgcocdaeaaDoorW.PrintWords

theorem digit_piece : ∀ d : Fin 10, (⟨#[48, 49, 50, 51, 52, 53, 54, 55, 56, 57]⟩ : ByteArray).extract d.val (d.val + 1) = ⟨#[UInt8.ofNat (48 + d.val)]⟩ := by decide
theorem append_mk (a b : List UInt8) : (⟨a.toArray⟩ : ByteArray) ++ ⟨b.toArray⟩ = ⟨(a ++ b).toArray⟩ := by
  apply ByteArray.ext
  rw [ByteArray.data_append]
  simp
theorem size_mk (a : List UInt8) : (⟨a.toArray⟩ : ByteArray).size = a.length := by simp [ByteArray.size]

theorem down (k : Nat) : ∀ u : Nat, u < 10 ^ (k + 1) → u ≤ 9223372036854775808 → spec_l5Down.f (k + 1) (-(u : Int)) = some ⟨(Lib.decDigits u).toArray⟩ := by
  induction k with
  | zero =>
    intro u h hu
    simp only [spec_l5Down.f]
    have hm : wrap64 (-(Int.tmod (-(u : Int)) 10)) = (u : Int) := by
      rw [Int.neg_tmod, Int.neg_neg, Int.tmod_eq_emod_of_nonneg (by omega)]
      unfold wrap64; omega
    have hm1 : wrap64 ((u : Int) + 1) = (u : Int) + 1 := by unfold wrap64; omega
    rw [hm, hm1, if_pos (by omega), if_pos (by omega), if_pos (by omega), if_pos (by omega)]
    have e1 : ((u : Int)).toNat = u := by omega
    have e2 : ((u : Int) + 1).toNat = u + 1 := by omega
    rw [e1, e2, digit_piece ⟨u, by omega⟩, Lib.decDigits_one (by omega)]
  | succ k ih =>
    intro u h hu
    by_cases h10 : u < 10
    · simp only [spec_l5Down.f]
      have hm : wrap64 (-(Int.tmod (-(u : Int)) 10)) = (u : Int) := by
        rw [Int.neg_tmod, Int.neg_neg, Int.tmod_eq_emod_of_nonneg (by omega)]
        unfold wrap64; omega
      have hm1 : wrap64 ((u : Int) + 1) = (u : Int) + 1 := by unfold wrap64; omega
      rw [hm, hm1, if_pos (by omega), if_pos (by omega), if_pos (by omega), if_pos (by omega)]
      have e1 : ((u : Int)).toNat = u := by omega
      have e2 : ((u : Int) + 1).toNat = u + 1 := by omega
      rw [e1, e2, digit_piece ⟨u, by omega⟩, Lib.decDigits_one (by omega)]
    · rw [spec_l5Down.f]
      have hd : wrap64 (Int.tdiv (-(u : Int)) 10) = -((u / 10 : Nat) : Int) := by
        rw [Int.neg_tdiv, Int.tdiv_eq_ediv_of_nonneg (by omega)]
        unfold wrap64; omega
      have hm : wrap64 (-(Int.tmod (-(u : Int)) 10)) = ((u % 10 : Nat) : Int) := by
        rw [Int.neg_tmod, Int.neg_neg, Int.tmod_eq_emod_of_nonneg (by omega)]
        unfold wrap64; omega
      have hm1 : wrap64 (((u % 10 : Nat) : Int) + 1) = ((u % 10 : Nat) : Int) + 1 := by unfold wrap64; omega
      have hp : (10 : Nat) ^ (k + 1 + 1) = 10 ^ (k + 1) * 10 := Nat.pow_succ ..
      rw [if_neg (by omega), hd, ih (u / 10) (by omega) (by omega), hm, hm1]
      simp only [Option.bind_some]
      rw [if_pos (by omega), if_pos (by omega), if_pos (by omega)]
      have e1 : (((u % 10 : Nat) : Int)).toNat = u % 10 := by omega
      have e2 : (((u % 10 : Nat) : Int) + 1).toNat = u % 10 + 1 := by omega
      rw [e1, e2, digit_piece ⟨u % 10, by omega⟩]
      have hl : (Lib.decDigits (u / 10)).length ≤ 1000 := by
        rw [Lib.decDigits_length]
        have : ∀ j v : Nat, v < 10 ^ (j + 1) → Lib.nDigits v ≤ j + 1 := by
          intro j
          induction j with
          | zero => intro v hv; rw [Lib.nDigits_small (by omega)]; omega
          | succ j ihj =>
            intro v hv
            by_cases hv10 : v < 10
            · rw [Lib.nDigits_small hv10]; omega
            · rw [Lib.nDigits_big hv10]
              have hp2 : (10 : Nat) ^ (j + 1 + 1) = 10 ^ (j + 1) * 10 := Nat.pow_succ ..
              have := ihj (v / 10) (by omega)
              omega
        have := this 30 (u / 10) (by omega)
        omega
      have hs : (⟨#[UInt8.ofNat (48 + u % 10)]⟩ : ByteArray).size = 1 := rfl
      rw [if_pos (by rw [size_mk, hs]; omega)]
      have hdec : Lib.decDigits u = Lib.decDigits (u / 10) ++ [UInt8.ofNat (48 + u % 10)] := by rw [Lib.decDigits, dif_neg h10]
      rw [hdec]
      exact congrArg some (append_mk (Lib.decDigits (u / 10)) [UInt8.ofNat (48 + u % 10)])
theorem down20 (u : Nat) (hu : u ≤ 9223372036854775808) : spec_l5Down.f 20 (-(u : Int)) = some ⟨(Lib.decDigits u).toArray⟩ := down 19 u (by omega) hu
theorem dec_short (u : Nat) (hu : u ≤ 9223372036854775808) : (Lib.decDigits u).length ≤ 20 := by
  rw [Lib.decDigits_length]
  have : ∀ j v : Nat, v < 10 ^ (j + 1) → Lib.nDigits v ≤ j + 1 := by
    intro j
    induction j with
    | zero => intro v hv; rw [Lib.nDigits_small (by omega)]; omega
    | succ j ihj =>
      intro v hv
      by_cases hv10 : v < 10
      · rw [Lib.nDigits_small hv10]; omega
      · rw [Lib.nDigits_big hv10]
        have hp2 : (10 : Nat) ^ (j + 1 + 1) = 10 ^ (j + 1) * 10 := Nat.pow_succ ..
        have := ihj (v / 10) (by omega)
        omega
  exact this 19 u (by omega)
theorem num20 (n : Int) (h0 : -9223372036854775808 ≤ n) (h1 : n ≤ 9223372036854775807) : spec_l5Num.f 20 n = some ⟨(numL n).toArray⟩ := by
  unfold spec_l5Num.f numL
  by_cases h : n < 0
  · rw [if_pos h, if_pos h]
    have e : n = -((n.natAbs : Nat) : Int) := by omega
    have hd := down20 n.natAbs (by omega)
    rw [← e] at hd
    rw [hd]
    simp only [Option.bind_some]
    have := dec_short n.natAbs (by omega)
    rw [if_pos (by rw [size_mk]; omega)]
    exact congrArg some (append_mk [126] (Lib.decDigits n.natAbs))
  · rw [if_neg h, if_neg h]
    have e : wrap64 (-n) = -((n.toNat : Nat) : Int) := by unfold wrap64; omega
    rw [e, down20 n.toNat (by omega)]
    rfl

def nums (l : List UInt8) : List Int := l.map fun b => (b.toNat : Int)
theorem nums_length (l : List UInt8) : (nums l).length = l.length := by simp [nums]
theorem nums_append (a b : List UInt8) : nums (a ++ b) = nums a ++ nums b := by simp [nums]
theorem strOfNums_nums (l : List UInt8) : strOfNums (nums l) = ⟨l.toArray⟩ := by
  unfold strOfNums nums
  rw [List.map_map]
  have : (fun n : Int => UInt8.ofNat n.toNat) ∘ (fun b : UInt8 => (b.toNat : Int)) = id := by
    funext b
    simp
  rw [this]
  simp
theorem len_list (s : ByteArray) : s.data.toList.length = s.size := Array.length_toList
theorem bt_elem (s : ByteArray) (i : Nat) (h : i < s.size) : bt s (i : Int) = (s.data.toList[i]'(by rw [len_list]; exact h)).toNat := by
  unfold bt
  have e : ((i : Int)).toNat = i := by omega
  rw [dif_pos (by rw [e]; exact h)]
  simp [e, ByteArray.getElem_eq_getElem_data]
theorem byte_eq (c : UInt8) (d : UInt8) : ((c.toNat : Int) = (d.toNat : Int)) ↔ c = d := by
  rw [Int.ofNat_inj]
  exact UInt8.toNat_inj
theorem esc_nums (c : UInt8) : ([92, (48 + ((Int.tdiv (c.toNat : Int) 100) % 256)) % 256, 48 + (((Int.tdiv (c.toNat : Int) 10) % 256) % 10), (48 + (Int.tmod (c.toNat : Int) 10)) % 256] : List Int) = nums (92 :: (Lib.repeatL [48] (3 - (Lib.decDigits c.toNat).length) ++ Lib.decDigits c.toNat)) := by
  rw [enc_esc]
  have hc : c.toNat < 256 := c.toNat_lt
  rw [Int.tdiv_eq_ediv_of_nonneg (by omega), Int.tdiv_eq_ediv_of_nonneg (by omega), Int.tmod_eq_emod_of_nonneg (by omega)]
  simp only [nums, List.map_cons, List.map_nil, UInt8.toNat_ofNat']
  have e0 : ((92 : UInt8).toNat : Int) = 92 := rfl
  rw [e0]
  congr 1
  congr 1
  · omega
  · congr 1
    omega
theorem str_l0 (s : ByteArray) (hs : s.size ≤ 1099511627776) (d : Nat) : ∀ (i k : Nat) (acc : List UInt8), i + d = s.size → 2 * d + 1 ≤ k → acc.length ≤ 1 + 4 * i → spec_l5Str.l0 k s (nums acc) (i : Int) = some ⟨(acc ++ ((s.data.toList.drop i).flatMap enc ++ [34])).toArray⟩ := by
  induction d with
  | zero =>
    intro i k acc hi hk hacc
    obtain ⟨k, rfl⟩ : ∃ m, k = m + 1 := ⟨k - 1, by omega⟩
    simp only [spec_l5Str.l0]
    rw [if_neg (by omega), if_pos (by rw [nums_length]; omega)]
    have e : nums acc ++ [34] = nums (acc ++ [34]) := by rw [nums_append]; rfl
    rw [e, strOfNums_nums, List.drop_eq_nil_of_le (by rw [len_list]; omega)]
    rfl
  | succ d ih =>
    intro i k acc hi hk hacc
    obtain ⟨k, rfl⟩ : ∃ m, k = m + 1 + 1 := ⟨k - 2, by omega⟩
    have hlt : i < s.size := by omega
    have hlt' : i < s.data.toList.length := by rw [len_list]; exact hlt
    obtain ⟨c, hc⟩ : ∃ c, s.data.toList[i] = c := ⟨_, rfl⟩
    have hb : bt s (i : Int) = (c.toNat : Int) := by rw [bt_elem s i hlt, hc]
    have hw : wrap64 ((i : Int) + 1) = ((i + 1 : Nat) : Int) := by unfold wrap64; omega
    have hdrop : s.data.toList.drop i = c :: s.data.toList.drop (i + 1) := by rw [List.drop_eq_getElem_cons hlt', hc]
    have hcl : c.toNat < 256 := c.toNat_lt
    have go0 : ∀ (k' : Nat) (y : List UInt8), 2 * d + 1 ≤ k' → enc c = y → (if (nums acc).length + (nums y).length < 140737488355328 then spec_l5Str.l0 k' s (nums acc ++ nums y) (wrap64 ((i : Int) + 1)) else none) = some ⟨(acc ++ ((s.data.toList.drop i).flatMap enc ++ [34])).toArray⟩ := by
      intro k' y hk' hy
      have hyl : y.length ≤ 4 := by rw [← hy]; exact enc_length c
      rw [if_pos (by rw [nums_length, nums_length]; omega), ← nums_append, hw, ih (i + 1) k' (acc ++ y) (by omega) hk' (by rw [List.length_append]; omega), hdrop, List.flatMap_cons, hy]
      simp
    simp only [spec_l5Str.l0]
    rw [if_pos (by omega), if_pos (by omega), hb]
    have i10 : ((c.toNat : Int) = 10) ↔ c = 10 := byte_eq c 10
    have i9 : ((c.toNat : Int) = 9) ↔ c = 9 := byte_eq c 9
    have i92 : ((c.toNat : Int) = 92) ↔ c = 92 := byte_eq c 92
    have i34 : ((c.toNat : Int) = 34) ↔ c = 34 := byte_eq c 34
    by_cases h10 : c = 10
    · rw [if_pos (i10.2 h10)]
      exact go0 (k + 1) [92, 110] (by omega) (by unfold enc; rw [if_pos h10])
    · rw [if_neg (fun h => h10 (i10.1 h))]
      by_cases h9 : c = 9
      · rw [if_pos (i9.2 h9)]
        exact go0 (k + 1) [92, 116] (by omega) (by unfold enc; rw [if_neg h10, if_pos h9])
      · rw [if_neg (fun h => h9 (i9.1 h))]
        by_cases h2 : c = 92 ∨ c = 34
        · have e : (if (c.toNat : Int) = 92 then spec_l5Str.j1 (k + 1) s (nums acc) i c.toNat true else spec_l5Str.j1 (k + 1) s (nums acc) i c.toNat ((c.toNat : Int) == 34)) = spec_l5Str.j1 (k + 1) s (nums acc) i c.toNat true := by
            rcases h2 with h | h
            · rw [if_pos (i92.2 h)]
            · by_cases h' : (c.toNat : Int) = 92
              · rw [if_pos h']
              · rw [if_neg h', i34.2 h]; rfl
          rw [e]
          simp only [spec_l5Str.j1]
          rw [if_pos trivial]
          exact go0 k [92, c] (by omega) (by unfold enc; rw [if_neg h10, if_neg h9, if_pos h2])
        · have h92 : c ≠ 92 := fun h => h2 (.inl h)
          have h34 : c ≠ 34 := fun h => h2 (.inr h)
          have hb34 : ((c.toNat : Int) == 34) = false := by
            rw [beq_eq_false_iff_ne]
            exact fun h => h34 (i34.1 h)
          rw [if_neg (fun h => h92 (i92.1 h)), hb34]
          simp only [spec_l5Str.j1]
          rw [if_neg (by simp)]
          by_cases h32 : (c.toNat : Int) ≥ 32
          · rw [if_pos h32]
            by_cases h126 : (c.toNat : Int) ≤ 126
            · rw [if_pos h126]
              have hx := go0 k [c] (by omega) (by unfold enc; rw [if_neg h10, if_neg h9, if_neg h2, if_neg (by omega)])
              have e1 : (nums [c]).length = 1 := rfl
              have e2 : nums [c] = [(c.toNat : Int)] := rfl
              rw [if_pos (by rw [e1, nums_length]; omega)] at hx
              rw [if_pos (by rw [nums_length]; omega)]
              exact hx
            · rw [if_neg h126, esc_nums]
              exact go0 k _ (by omega) (by unfold enc; rw [if_neg h10, if_neg h9, if_neg h2, if_pos (by omega)])
          · rw [if_neg h32, esc_nums]
            exact go0 k _ (by omega) (by unfold enc; rw [if_neg h10, if_neg h9, if_neg h2, if_pos (by omega)])
theorem str_f (s : ByteArray) (hs : s.size ≤ 1099511627776) : spec_l5Str.f (2 * s.size + 1) s = some ⟨(strL s.data.toList).toArray⟩ := by
  unfold spec_l5Str.f
  have h := str_l0 s hs s.size 0 (2 * s.size + 1) [34] (by omega) (by omega) (by simp)
  exact h
end Go.Proofs.YtdcalhgcocdaeaaDoor.K
