/-
  The plain laws of the helpers szNodeS, toNodeS and eqNodeS: what their printed functions answer. Conditions: at most 1048576 is asked of szNodeS, texts are no longer than the model lets them be; toNodeS at most 5864062014805 elements.
-/
import Derived.Test.YtoioineibfldcaaKx3
import Derived.Test.YtoioineibfldcaaKx7
import Derived.Test.YtoioineibfldcaaKx10
set_option linter.unusedVariables false
namespace Go.Proofs.Ytoioineibfldcaa.K
open Go.RowKit Go.Proofs.YtoioineibfldcaaW.PrintWords Go.Proofs.YtoioineibfldcaaW.PrintLast Go.Proofs.YtoioineibfldcaaW.PrintMore

theorem wrap_id {x : Int} (h0 : -9223372036854775808 ≤ x) (h1 : x ≤ 9223372036854775807) : wrap64 x = x := by unfold wrap64; omega
theorem wrap_succ {i n : Nat} (h : i < n) (hn : n ≤ 9223372036854775807) : wrap64 ((i : Int) + 1) = ((i + 1 : Nat) : Int) := by rw [wrap_id (by omega) (by omega)]; omega

/-! ### szNodeS -/
theorem szNode_tells (s : S36) (a : Int) (h0 : 0 ≤ a) (h1 : a ≤ 1048576) (hs : s.f2.size ≤ 9223372036854775807) :
    ∃ r, laws_szNode.f s.f0 s.f1 s.f2 s.f3 s.f4 a = some r ∧ -1 ≤ r ∧ r ≤ a := by
  unfold laws_szNode.f
  rw [wrap_id (by omega) (by omega)]
  by_cases h : a - (s.f2.size : Int) < 0
  · rw [if_pos h]; exact ⟨-1, rfl, by omega, by omega⟩
  · rw [if_neg h]; exact ⟨_, rfl, by omega, by omega⟩
theorem szNodeS_loop (l : List S36) (hl : l.length ≤ 9223372036854775807) (hs : ∀ s ∈ l, s.f2.size ≤ 9223372036854775807) (d : Nat) : ∀ (i : Nat) (a : Int), 0 ≤ a → a ≤ 1048576 → i ≤ l.length → l.length - i = d →
    ∃ r, Ev (fun k => laws_szNodeS.l0 k l a i) r ∧ -1 ≤ r ∧ r ≤ a := by
  induction d with
  | zero =>
    intro i a h0 h1 hi hd
    refine ⟨a, Ev.step (f := fun _ => some a) (fun k => ?_) (Ev.now a), by omega, by omega⟩
    simp only [laws_szNodeS.l0]
    rw [if_neg (by omega)]
  | succ d ih =>
    intro i a h0 h1 hi hd
    have hlt : i < l.length := by omega
    have hx : rd_T36 l (i : Int) = l[i] := by simp [rd_T36, List.getD_eq_getElem?_getD, hlt]
    obtain ⟨r1, hr1, hr2, hr3⟩ := szNode_tells l[i] a h0 h1 (hs _ (List.getElem_mem _))
    by_cases hn : r1 < 0
    · refine ⟨-1, Ev.step (f := fun _ => some (-1)) (fun k => ?_) (Ev.now _), by omega, by omega⟩
      simp only [laws_szNodeS.l0]
      rw [if_pos (by omega), if_pos (by omega), hx, hr1, Option.bind_some, if_pos hn]
    · obtain ⟨r, hr, h2, h3⟩ := ih (i + 1) r1 (by omega) (by omega) (by omega) (by omega)
      refine ⟨r, Ev.step (fun k => ?_) hr, h2, by omega⟩
      simp only [laws_szNodeS.l0]
      rw [if_pos (by omega), if_pos (by omega), hx, hr1, Option.bind_some, if_neg hn, wrap_succ hlt hl]
theorem szNodeS_ev (l : List S36) (hl : l.length ≤ 9223372036854775807) (hs : ∀ s ∈ l, s.f2.size ≤ 9223372036854775807) (a : Int) (h0 : 0 ≤ a) (h1 : a ≤ 1048576) :
    ∃ r, Ev (fun k => laws_szNodeS.f k l a) r ∧ -1 ≤ r ∧ r ≤ a ∧ (0 ≤ r → (l.length : Int) ≤ a) := by
  have hw : wrap64 (a - (l.length : Int)) = a - (l.length : Int) := wrap_id (by omega) (by omega)
  by_cases h : a - (l.length : Int) < 0
  · refine ⟨-1, Ev.congr (f := fun _ => some (-1)) (fun k => ?_) (Ev.now _), by omega, by omega, fun h => by omega⟩
    unfold laws_szNodeS.f
    rw [hw, if_pos h]
  · obtain ⟨r, hr, h2, h3⟩ := szNodeS_loop l hl hs _ 0 (a - (l.length : Int)) (by omega) (by omega) (Nat.zero_le _) rfl
    refine ⟨r, Ev.congr (fun k => ?_) hr, h2, by omega, fun h => by omega⟩
    unfold laws_szNodeS.f
    rw [hw, if_neg h]
    rfl

/-! ### toNodeS -/
def cv (s : S36) : S41 := ⟨s.f0, s.f1, s.f2, s.f3, s.f4⟩
theorem toNodeS_loop (l : List S36) (hl : l.length ≤ 9223372036854775807) (d : Nat) : ∀ (i : Nat) (o : List S41), i ≤ l.length → l.length - i = d → o.length = l.length → o.take i = (l.map cv).take i →
    Ev (fun k => laws_toNodeS.l0 k l o i) (l.map cv) := by
  induction d with
  | zero =>
    intro i o hi hd ho ht
    have hi' : i = l.length := by omega
    refine Ev.step (f := fun _ => some (l.map cv)) (fun k => ?_) (Ev.now _)
    simp only [laws_toNodeS.l0]
    rw [if_neg (by omega)]
    rw [hi', List.take_of_length_le (by omega), List.take_of_length_le (by simp)] at ht
    rw [ht]
  | succ d ih =>
    intro i o hi hd ho ht
    have hlt : i < l.length := by omega
    have hx : rd_T36 l (i : Int) = l[i] := by simp [rd_T36, List.getD_eq_getElem?_getD, hlt]
    refine Ev.step (fun k => ?_) (ih (i + 1) (o.set i (cv l[i])) (by omega) (by omega) (by simpa using ho) ?_)
    · simp only [laws_toNodeS.l0, laws_toNode.f]
      rw [if_pos (by omega), if_pos (by omega), hx, Option.bind_some, if_pos (by omega), wrap_succ hlt hl, Int.toNat_natCast]
      rfl
    · have hio : i < o.length := by omega
      rw [List.take_succ_eq_append_getElem (by simpa using hio), List.take_succ_eq_append_getElem (by simpa using hlt), List.take_set_of_le (Nat.le_refl _), ht]
      simp
theorem toNodeS_ev (l : List S36) (hl : l.length ≤ 5864062014805) : Ev (fun k => laws_toNodeS.f k l) (l.map cv) := by
  refine Ev.congr (fun k => ?_) (toNodeS_loop l (by omega) _ 0 (List.replicate l.length z41) (Nat.zero_le _) rfl (by simp) (by simp))
  unfold laws_toNodeS.f
  rw [if_pos (by omega), if_pos (by omega), Int.toNat_natCast]
  rfl

/-! ### eqNodeS -/
theorem eqNode_refl (x : S41) : laws_eqNode.f x.f0 x.f1 x.f2 x.f3 x.f4 x.f0 x.f1 x.f2 x.f3 x.f4 = some true := by
  unfold laws_eqNode.f
  rw [if_pos rfl, if_pos rfl, if_pos rfl, if_pos rfl, if_pos rfl]
theorem eqNodeS_loop (l : List S41) (hl : l.length ≤ 9223372036854775807) (d : Nat) : ∀ (i : Nat), i ≤ l.length → l.length - i = d → Ev (fun k => laws_eqNodeS.l0 k l l i) true := by
  induction d with
  | zero =>
    intro i hi hd
    refine Ev.step (f := fun _ => some true) (fun k => ?_) (Ev.now _)
    simp only [laws_eqNodeS.l0]
    rw [if_neg (by omega)]
  | succ d ih =>
    intro i hi hd
    have hlt : i < l.length := by omega
    refine Ev.step (fun k => ?_) (ih (i + 1) (by omega) (by omega))
    simp only [laws_eqNodeS.l0]
    rw [if_pos (by omega), if_pos (by omega), if_pos (by omega), eqNode_refl, Option.bind_some, if_pos rfl, wrap_succ hlt hl]
theorem eqNodeS_ev (l : List S41) (hl : l.length ≤ 9223372036854775807) : Ev (fun k => laws_eqNodeS.f k l l) true := by
  refine Ev.congr (fun k => ?_) (eqNodeS_loop l hl _ 0 (Nat.zero_le _) rfl)
  unfold laws_eqNodeS.f
  rw [if_pos rfl]
  rfl
end Go.Proofs.Ytoioineibfldcaa.K
