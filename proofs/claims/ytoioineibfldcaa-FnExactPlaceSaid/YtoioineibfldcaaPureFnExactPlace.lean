/-
  The plain law of FnExactPlace: the count of line ends and the last one against the reference's loop. No condition beyond the row's own.
-/
import Derived.Test.YtoioineibfldcaaQx16
set_option linter.unusedVariables false
namespace Go.Proofs.Ytoioineibfldcaa.Pure
open Go.RowKit Go.Proofs.Ytoioineibfldcaa.Q Go.Proofs.YtoioineibfldcaaW.PrintWords Go.Proofs.YtoioineibfldcaaW.PrintLast

theorem wrapId {x : Int} (h0 : -9223372036854775808 ≤ x) (h1 : x ≤ 9223372036854775807) : wrap64 x = x := by unfold wrap64; omega
def cnt (s : ByteArray) : Nat → Nat
  | 0 => 0
  | i + 1 => if bt s i = 10 then cnt s i + 1 else cnt s i
def lastAt (s : ByteArray) : Nat → Int
  | 0 => -1
  | i + 1 => if bt s i = 10 then (i : Int) else lastAt s i
theorem cnt_le (s : ByteArray) : ∀ i, cnt s i ≤ i
  | 0 => Nat.le_refl _
  | i + 1 => by
    have := cnt_le s i
    rw [cnt]
    split <;> omega
theorem last_bd (s : ByteArray) : ∀ i : Nat, -1 ≤ lastAt s i ∧ lastAt s i < i
  | 0 => ⟨Int.le_refl _, by show (-1 : Int) < 0; decide⟩
  | i + 1 => by
    have := last_bd s i
    rw [lastAt]
    split <;> omega
theorem spec_loop (s : ByteArray) (n : Nat) (hn : n ≤ s.size) (hs : s.size ≤ 1048576) (d : Nat) : ∀ (i : Nat) (x y : Int), x = 1 + cnt s i → y = i - lastAt s i → i ≤ n → n - i = d →
    Ev (fun k => spec_Place.l0 k s n x y i) (1 + (cnt s n : Int), (n : Int) - lastAt s n) := by
  induction d with
  | zero =>
    intro i x y hx hy hi hd
    obtain rfl : i = n := by omega
    have hc : ¬ ((i : Int) < (i : Int)) := by omega
    subst hx hy
    refine Ev.step (f := fun _ => some (1 + (cnt s i : Int), (i : Int) - lastAt s i)) (fun k => ?_) (Ev.now _)
    rw [spec_Place.l0, if_neg hc]
  | succ d ih =>
    intro i x y hx hy hi hd
    have hlt : i < n := by omega
    have hc : (i : Int) < (n : Int) := by omega
    have hc0 : (0 : Int) ≤ (i : Int) := by omega
    have hcs : (i : Int) < (s.size : Int) := by omega
    have h1 := cnt_le s i
    have h2 := last_bd s i
    have h3 : cnt s (i + 1) = if bt s i = 10 then cnt s i + 1 else cnt s i := rfl
    have h4 : lastAt s (i + 1) = if bt s i = 10 then (i : Int) else lastAt s i := rfl
    have w1 : wrap64 (x + 1) = x + 1 := wrapId (by omega) (by omega)
    have w2 : wrap64 (y + 1) = y + 1 := wrapId (by omega) (by omega)
    have w3 : wrap64 ((i : Int) + 1) = ((i + 1 : Nat) : Int) := by rw [wrapId (by omega) (by omega)]; rfl
    by_cases hb : bt s (i : Int) = 10
    · rw [if_pos hb] at h3 h4
      have hstep : ∀ k, spec_Place.l0 (k + 1) s n x y i = spec_Place.l0 k s n (x + 1) 1 ((i + 1 : Nat) : Int) := fun k => by
        rw [spec_Place.l0, if_pos hc, if_pos hc0, if_pos hcs, if_pos hb, w1, w3]
      clear w1 w2 w3
      exact Ev.step hstep (ih (i + 1) (x + 1) 1 (by rw [h3]; omega) (by rw [h4]; omega) (by omega) (by omega))
    · rw [if_neg hb] at h3 h4
      have hstep : ∀ k, spec_Place.l0 (k + 1) s n x y i = spec_Place.l0 k s n x (y + 1) ((i + 1 : Nat) : Int) := fun k => by
        rw [spec_Place.l0, if_pos hc, if_pos hc0, if_pos hcs, if_neg hb, w2, w3]
      clear w1 w2 w3
      exact Ev.step hstep (ih (i + 1) x (y + 1) (by rw [h3]; exact hx) (by rw [h4]; omega) (by omega) (by omega))
theorem last_loop (b : ByteArray) (hb : b.size ≤ 1048576) : ∀ (i : Nat) (x : Int), x = (i : Int) - 1 → i ≤ b.size → Ev (fun k => bytealg_LastIndexByteString.l0 k b 10 x) (lastAt b i)
  | 0, x, hx, _ => by
    have hc : ¬ (x ≥ 0) := by omega
    refine Ev.step (f := fun _ => some (-1)) (fun k => ?_) (Ev.now _)
    rw [bytealg_LastIndexByteString.l0, if_neg hc]
  | i + 1, x, hx, hi => by
    obtain rfl : x = (i : Int) := by omega
    have hc : (i : Int) ≥ 0 := by omega
    have hc0 : (0 : Int) ≤ (i : Int) := by omega
    have hcs : (i : Int) < (b.size : Int) := by omega
    have h4 : lastAt b (i + 1) = if bt b i = 10 then (i : Int) else lastAt b i := rfl
    by_cases hbt : bt b (i : Int) = 10
    · rw [if_pos hbt] at h4
      rw [h4]
      refine Ev.step (f := fun _ => some (i : Int)) (fun k => ?_) (Ev.now _)
      rw [bytealg_LastIndexByteString.l0, if_pos hc, if_pos hc0, if_pos hcs, if_pos hbt]
    · rw [if_neg hbt] at h4
      rw [h4]
      have w1 : wrap64 ((i : Int) - 1) = (i : Int) - 1 := wrapId (by omega) (by omega)
      refine Ev.step (fun k => ?_) (last_loop b hb i ((i : Int) - 1) rfl (by omega))
      rw [bytealg_LastIndexByteString.l0, if_pos hc, if_pos hc0, if_pos hcs, if_neg hbt, w1]
theorem bt_extract (s : ByteArray) (n i : Nat) (hn : n ≤ s.size) (hi : i < n) : bt (s.extract 0 n) (i : Int) = bt s (i : Int) := by
  have hsz : (s.extract 0 n).size = n := by rw [ByteArray.size_extract]; omega
  unfold bt
  rw [dif_pos (by rw [Int.toNat_natCast, hsz]; exact hi), dif_pos (by rw [Int.toNat_natCast]; omega)]
  congr 2
  simp [ByteArray.getElem_extract]
theorem cnt_congr (s b : ByteArray) (n : Nat) (h : ∀ i, i < n → bt b (i : Int) = bt s (i : Int)) : ∀ i, i ≤ n → cnt b i = cnt s i ∧ lastAt b i = lastAt s i
  | 0, _ => ⟨rfl, rfl⟩
  | i + 1, hi => by
    obtain ⟨h1, h2⟩ := cnt_congr s b n h i (by omega)
    rw [cnt, cnt, lastAt, lastAt, h i (by omega), h1, h2]
    exact ⟨rfl, rfl⟩
theorem count_cnt (b : ByteArray) : ∀ i, i ≤ b.size → (b.data.toList.take i).count 10 = cnt b i
  | 0, _ => rfl
  | i + 1, hi => by
    have hlt2 : i < b.size := hi
    have hlt : i < b.data.toList.length := by rw [Array.length_toList]; exact hlt2
    rw [List.take_succ_eq_append_getElem hlt, List.count_append, count_cnt b i (by omega), cnt]
    have hbt : bt b (i : Int) = ((b.data.toList[i]).toNat : Int) := by
      unfold bt
      rw [dif_pos (by rw [Int.toNat_natCast]; exact hlt2)]
      simp
      rfl
    rw [hbt]
    obtain ⟨x, hx⟩ : ∃ x, b.data.toList[i] = x := ⟨_, rfl⟩
    rw [hx]
    by_cases h : x = 10
    · rw [h]; simp
    · have h3 : x.toNat ≠ 10 := fun he => h (UInt8.toNat_inj.1 he)
      have h2 : ¬ (x.toNat : Int) = 10 := by omega
      rw [if_neg h2, List.count_singleton, if_neg (by simpa using h), Nat.add_zero]
theorem FnExactPlace : laws_FnExactPlace.Pure := by
  intro a0 a1 h0 h1
  refine Ev.rounds (g := fun k => laws_FnExactPlace.f k a0 a1) ?_
  by_cases hbig : (a0.size : Int) > 1048576
  · exact Ev.congr (fun k => if_pos hbig) (Ev.now true)
  refine Ev.congr (fun k => if_neg hbig) ?_
  have hs : a0.size ≤ 1048576 := by omega
  have fin : ∀ p : Int × Int, Ev (fun k => spec_Place.f k a0 a1) p → Ev (fun k => impl_Place.f k a0 a1) p → Ev (fun k => (spec_Place.f k a0 a1).bind fun bt106 => ((impl_Place.f k a0 a1).bind fun bt108 => (if bt108.1 = bt106.1 then (if bt108.2 = bt106.2 then (some true) else (some false)) else (some false)))) true := fun p h2 h3 =>
    Ev.bind h2 (Ev.bind h3 (Ev.congr (fun k => by rw [if_pos rfl, if_pos rfl]) (Ev.now true)))
  have out : (a1 < 0 ∨ a1 > (a0.size : Int)) → Ev (fun k => spec_Place.f k a0 a1) (0, 0) ∧ Ev (fun k => impl_Place.f k a0 a1) (0, 0) := by
    intro h
    have e1 : ∀ k, spec_Place.f k a0 a1 = spec_Place.j0 k a0 a1 true := fun k => by
      unfold spec_Place.f
      by_cases hn : a1 < 0
      · rw [if_pos hn]
      · rw [if_neg hn, decide_eq_true (by omega)]
    have e2 : ∀ k, impl_Place.f k a0 a1 = impl_Place.j0 k a0 a1 true := fun k => by
      unfold impl_Place.f
      by_cases hn : a1 < 0
      · rw [if_pos hn]
      · rw [if_neg hn, decide_eq_true (by omega)]
    exact ⟨Ev.congr e1 (Ev.step (f := fun _ => some (0, 0)) (fun k => by rw [spec_Place.j0, if_pos rfl]) (Ev.now _)), Ev.congr e2 (Ev.step (f := fun _ => some (0, 0)) (fun k => by rw [impl_Place.j0, if_pos rfl]) (Ev.now _))⟩
  by_cases ho : a1 < 0 ∨ a1 > (a0.size : Int)
  · obtain ⟨h2, h3⟩ := out ho
    exact fin _ h2 h3
  obtain ⟨n, rfl⟩ : ∃ n : Nat, a1 = n := ⟨a1.toNat, by omega⟩
  have hn : n ≤ a0.size := by omega
  have hneg : ¬ ((n : Int) < 0) := by omega
  have hgt : ¬ ((n : Int) > (a0.size : Int)) := by omega
  have hsz : (a0.extract 0 n).size = n := by rw [ByteArray.size_extract]; omega
  obtain ⟨hcc, hll⟩ := cnt_congr a0 (a0.extract 0 n) n (fun i hi => bt_extract a0 n i hn hi) n (Nat.le_refl _)
  have hcount : (Lib.countByte (a0.extract 0 n).data.toList 10 : Nat) = cnt a0 n := by
    have := count_cnt (a0.extract 0 n) n (by omega)
    rw [List.take_of_length_le (by rw [Array.length_toList]; exact Nat.le_of_eq hsz)] at this
    rw [Lib.countByte, this, hcc]
  have hlast := last_loop (a0.extract 0 n) (by omega) n ((n : Int) - 1) rfl (by omega)
  rw [hll] at hlast
  have hc1 := cnt_le a0 n
  have hl1 := last_bd a0 n
  refine fin (1 + (cnt a0 n : Int), (n : Int) - lastAt a0 n) ?_ ?_
  · refine Ev.congr (f := fun k => spec_Place.j0 k a0 n false) (fun k => ?_) (Ev.step (f := fun k => spec_Place.l0 k a0 n 1 1 0) (fun k => ?_) ?_)
    · unfold spec_Place.f
      rw [if_neg hneg, decide_eq_false hgt]
    · rw [spec_Place.j0, if_neg (by simp)]
    · exact spec_loop a0 n hn hs _ 0 1 1 rfl rfl (Nat.zero_le _) rfl
  · have e3 : wrap64 ((cnt a0 n : Int) + 1) = 1 + (cnt a0 n : Int) := by rw [wrapId (by omega) (by omega)]; omega
    have e4 : wrap64 ((n : Int) - lastAt a0 n) = (n : Int) - lastAt a0 n := wrapId (by omega) (by omega)
    have e5 : wrap64 (((a0.extract 0 n).size : Int) - 1) = (n : Int) - 1 := by rw [hsz]; exact wrapId (by omega) (by omega)
    have hz : (0 : Int) ≤ (n : Int) := by omega
    have hzz : (n : Int) ≤ (a0.size : Int) := by omega
    obtain ⟨K, hK⟩ := hlast
    refine ⟨K + 1, fun k hk => ?_⟩
    obtain ⟨k, rfl⟩ : ∃ k', k = k' + 1 := ⟨k - 1, by omega⟩
    have h5 := hK k (by omega)
    simp only at h5
    show impl_Place.f (k + 1) a0 n = _
    unfold impl_Place.f
    rw [if_neg hneg, decide_eq_false hgt, impl_Place.j0, if_neg (by simp), if_pos hz, if_pos hzz, Int.toNat_natCast]
    unfold strings_Count.f strings_LastIndexByte.f bytealg_LastIndexByteString.f
    rw [if_pos rfl, Option.bind_some, e5, h5, Option.bind_some, Option.bind_some, hcount, e3, e4]
end Go.Proofs.Ytoioineibfldcaa.Pure
