/-
  The plain law of Good: the program's and the reference's agree, and where they say yes the run of the stack gives what measure and l1Sizes tell. Condition: at most 2932031007402 nodes.
-/
import Derived.Test.YtoioineibfldcaaLDepth
import Derived.Test.YtoioineibfldcaaKx15
import Derived.Test.YtoioineibfldcaaKx18
set_option linter.unusedVariables false
namespace Go.Proofs.Ytoioineibfldcaa.K
open Go.RowKit Go.Proofs.YtoioineibfldcaaW.PrintWords Go.Proofs.YtoioineibfldcaaW.PrintLast Go.Proofs.YtoioineibfldcaaW.PrintMore

theorem foldmax_ge : ∀ (l : List Int) (d : Int), d ≤ l.foldl (fun d r => if d < r then r else d) d := by
  intro l
  induction l with
  | nil => intro d; exact Int.le_refl _
  | cons x l ih =>
    intro d
    rw [List.foldl_cons]
    have := ih (if d < x then x else d)
    split at this <;> split <;> omega
theorem run_pos : ∀ (ks : List Int) (st : List (Int × Int)) (i : Int) (Y fin : List (Int × Int)), run st i ks = some (Y, fin) → ∀ y ∈ Y, 1 ≤ y.1 := by
  intro ks
  induction ks with
  | nil => intro st i Y fin h; simp [run] at h; obtain ⟨rfl, rfl⟩ := h; simp
  | cons k ks ih =>
    intro st i Y fin h
    by_cases hb : k < 0 ∨ (st.length : Int) < k
    · rw [run_bad _ _ _ _ hb] at h; cases h
    · rw [run_ok _ _ _ _ hb] at h
      obtain ⟨⟨Y', fin'⟩, h1, h2⟩ := Option.map_eq_some_iff.1 h
      obtain ⟨h3, h4⟩ := Prod.mk.inj h2
      simp only at h3 h4
      subst h3 h4
      intro y hy
      rcases List.mem_cons.1 hy with rfl | hy
      · have h1 := foldKids_fst (st.drop (st.length - k.toNat)) 0 i
        rw [Int.zero_add] at h1
        have := foldmax_ge ((st.drop (st.length - k.toNat)).map (·.1)) 0
        omega
      · exact ih _ _ _ _ h1 y hy

/-- A list that is one term: what the run gives. -/
structure OneTerm (l : List S41) (Y : List (Int × Int)) (x : Int × Int) : Prop where
  run_ : run [] 0 (l.map (·.f3)) = some (Y, [x])
  len : Y.length = l.length
  pos : 0 < l.length
  small : l.length ≤ 6000
  last : Y[l.length - 1]? = some x
  zero : x.2 = 0
  deep1 : 1 ≤ x.1
  deep2 : x.1 ≤ 300
  sizes : spec_l1Sizes.f l = some (szOf 0 Y)
  meas : impl_measure.f l = some (x.1, Y.map (·.2))
  at_ : At Y [x] l.length

theorem sizes_run (l : List S41) (hl : l.length ≤ 2932031007402) : spec_l1Sizes.f l = some (((run [] 0 (l.map (·.f3))).map (fun p => szOf 0 p.1)).getD []) := by
  unfold spec_l1Sizes.f sizesP
  rw [if_pos hl]
  have := szs_run (l.map (·.f3)) [] 0
  rw [List.map_nil] at this
  rw [this]
theorem meas_run (l : List S41) (hl : l.length ≤ 2932031007402) : impl_measure.f l = some (measL (hts [] 0 (l.map (·.f3)))) := by
  unfold impl_measure.f
  rw [if_pos hl]

theorem good_cases (l : List S41) (hl : l.length ≤ 2932031007402) :
    ∃ b, Ev (fun k => spec_Good.f k l) b ∧ impl_Good.f l = some b ∧ (b = true → ∃ Y x, OneTerm l Y x) := by
  have hm := meas_run l hl
  by_cases h0 : l.length = 0
  · refine ⟨false, Ev.congr (f := fun k => spec_Good.j0 k l true) (fun k => ?_) (Ev.step (f := fun _ => some false) (fun k => ?_) (Ev.now _)), ?_, fun h => by cases h⟩
    · unfold spec_Good.f
      rw [if_pos (by omega)]
    · rw [spec_Good.j0, if_pos rfl]
    · have : l = [] := List.eq_nil_of_length_eq_zero h0
      subst this
      unfold impl_Good.f
      rw [hm, Option.bind_some]
      simp [hts, measL]
  by_cases h1' : 6000 < l.length
  · refine ⟨false, Ev.congr (f := fun k => spec_Good.j0 k l true) (fun k => ?_) (Ev.step (f := fun _ => some false) (fun k => ?_) (Ev.now _)), ?_, fun h => by cases h⟩
    · unfold spec_Good.f
      rw [if_neg (by omega), decide_eq_true (by omega)]
    · rw [spec_Good.j0, if_pos rfl]
    · unfold impl_Good.f
      rw [hm, Option.bind_some, if_neg (by omega)]
  have h1 : l.length ≤ 6000 := by omega
  have hw : wrap64 ((l.length : Int) - 1) = ((l.length - 1 : Nat) : Int) := by rw [wrap_id (by omega) (by omega)]; omega
  have hf : ∀ k, spec_Good.f k l = spec_Good.j0 k l false := fun k => by
    unfold spec_Good.f
    rw [if_neg (by omega), decide_eq_false (by omega)]
  have hs := sizes_run l hl
  cases hrun : run [] 0 (l.map (·.f3)) with
  | none =>
    rw [hrun] at hs
    refine ⟨false, Ev.congr hf (Ev.step (f := fun _ => some false) (fun k => ?_) (Ev.now _)), ?_, fun h => by cases h⟩
    · simp only [spec_Good.j0]
      rw [if_neg (by simp), hs, Option.bind_some, if_pos (by simp)]
    · obtain ⟨x, hx, hn⟩ := hts_none _ _ _ hrun
      unfold impl_Good.f
      rw [hm, Option.bind_some, measL, if_pos (List.any_eq_true.2 ⟨x, hx, by simpa using hn⟩), if_pos (by omega), if_neg (by simp)]
  | some p =>
    obtain ⟨Y, fin⟩ := p
    have hY : Y.length = l.length := by rw [run_len _ _ _ _ _ hrun, List.length_map]
    rw [hrun, Option.map_some, Option.getD_some] at hs
    replace hs : spec_l1Sizes.f l = some (szOf 0 Y) := hs
    obtain ⟨hd, hA⟩ := depths_ev l hl Y fin hrun
    have hpos := run_pos _ _ _ _ _ hrun
    have hts' := hts_some _ _ _ _ _ hrun
    have hlt : l.length - 1 < Y.length := by omega
    cases hrev : fin.reverse with
    | nil =>
      have h2 := hA.fin
      rw [hrev, ends] at h2
      omega
    | cons x s =>
      have hch := hA.ch
      have hen := hA.fin
      rw [hrev] at hch hen
      obtain ⟨c0, c1, c2⟩ := hch
      rw [show ((l.length : Int) - 1) = ((l.length - 1 : Nat) : Int) by omega, Int.toNat_natCast] at c1
      have hmem : x ∈ fin := by rw [← List.mem_reverse, hrev]; simp
      have hbx := hA.bd x hmem
      have hszl : rd (szOf 0 Y) ((l.length - 1 : Nat) : Int) = (l.length : Int) - x.2 := by
        rw [rd_nat, List.getD_eq_getElem?_getD, szOf_get Y 0 _ x c1, Option.getD_some]
        omega
      have hlen : ((szOf 0 Y).length : Int) = l.length := by rw [szOf_len, hY]
      cases s with
      | nil =>
        rw [ends, ends] at hen
        have hx2 : x.2 = 0 := by omega
        have hfin : fin = [x] := by
          have := congrArg List.reverse hrev
          simpa using this
        subst hfin
        rw [if_pos (by simp), List.append_nil] at hts'
        have hml : measL (hts [] 0 (l.map (·.f3))) = (x.1, Y.map (·.2)) := by
          rw [hts', measL, if_neg (by
            rw [List.any_eq_true]
            rintro ⟨y, hy, hn⟩
            have := hpos y hy
            simp at hn
            omega), List.getLast?_eq_getElem?, hY, c1]
          rfl
        refine ⟨decide (x.1 ≤ 300), Ev.congr hf (Ev.step (f := fun k => (spec_l1Depths.f k l (szOf 0 Y)).bind fun t => if ((l.length - 1 : Nat) : Int) < (t.length : Int) then some (decide (rd t ((l.length - 1 : Nat) : Int) ≤ 300)) else none) (fun k => ?_) (Ev.bind hd ?_)), ?_, ?_⟩
        · simp only [spec_Good.j0]
          rw [if_neg (by simp), hs, Option.bind_some, if_neg (by omega), hw, if_pos (by omega), if_pos (by omega), hszl, if_pos (by omega)]
        · refine Ev.congr (f := fun _ => some (decide (x.1 ≤ 300))) (fun k => ?_) (Ev.now _)
          rw [if_pos (by rw [List.length_map]; omega), rd_nat, List.getD_eq_getElem?_getD, List.getElem?_map, c1]
          rfl
        · unfold impl_Good.f
          rw [hm, Option.bind_some, hml, if_pos (by omega), if_pos hbx.1]
        · intro hdd
          exact ⟨Y, x, hrun, hY, by omega, h1, c1, hx2, hbx.1, of_decide_eq_true hdd, hs, by rw [hm, hml], hA⟩
      | cons y s' =>
        have hx2 : 0 ≤ x.2 - 1 := c2.1
        have hl2 : fin.length ≠ 1 := by
          have := congrArg List.length hrev
          simp at this
          omega
        rw [if_neg hl2] at hts'
        refine ⟨false, Ev.congr hf (Ev.step (f := fun _ => some false) (fun k => ?_) (Ev.now _)), ?_, fun h => by cases h⟩
        · simp only [spec_Good.j0]
          rw [if_neg (by simp), hs, Option.bind_some, if_neg (by omega), hw, if_pos (by omega), if_pos (by omega), hszl, if_neg (by omega)]
        · unfold impl_Good.f
          rw [hm, Option.bind_some, hts', measL, if_pos (List.any_eq_true.2 ⟨(-1, -1), by simp, by decide⟩), if_pos (by omega), if_neg (by simp)]
end Go.Proofs.Ytoioineibfldcaa.K
