/- Joined by wip/tools/merge.py from: Kx37, Kx43, LSS, HMarkSS, HToSS, HJoin, HKidsLaw, HRow, LawKids. -/
import Derived.Test.YtoioineibfldcaaJKids3
import Derived.Test.YtoioineibfldcaaRows
import Derived.WalkKit
import Derived.ProofKit
import Derived.OpenShut
import Derived.ShutString
import Derived.ChangeOld
import Derived.Below
import Derived.SizedLaws
import Derived.Deep.Slices
import Derived.Deep.Fields
import Derived.ChangeSame
section
-- Printed by wip/tools/stubprint.py, a driver of mine over the kit's print.py: some callees are proved by hand.
namespace Go.Proofs.Ytoioineibfldcaa.K
open Go.RowKit Go.Proofs.YtoioineibfldcaaW.PrintWords Go.Proofs.YtoioineibfldcaaW.PrintLast Go.Proofs.YtoioineibfldcaaW.PrintMore
attribute [local go_sem] max2_int min2_int max_two min_two max_three min_three max_four min_four   -- for this text's walks alone
set_option linter.unusedVariables false
set_option linter.unusedSimpArgs false

/-! ### laws_eqNodeSS: function 28 -/
def laws_eqNodeSS.l0 : Nat → List (List (S41)) → List (List (S41)) → Int → Option (Bool)
  | 0, _, _, _ => none
  | k + 1, x0, x1, x5 => if x5 < (x0.length : Int) then (if 0 ≤ x5 then (if x5 < (x1.length : Int) then ((laws_eqNodeS.f k (rd_L7 x0 x5) (rd_L7 x1 x5)).bind fun t344 => (if t344 = true then (laws_eqNodeSS.l0 k x0 x1 (wrap64 (x5 + 1))) else (some false))) else (none)) else (none)) else (some true)
def laws_eqNodeSS.f (k : Nat) (l0 : List (List (S41))) (l1 : List (List (S41))) : Option (Bool) := if (l0.length : Int) = (l1.length : Int) then (laws_eqNodeSS.l0 k l0 l1 0) else (some false)
theorem laws_eqNodeSS.mono_l : ∀ k, (∀ y0 y1 y2, LeO (laws_eqNodeSS.l0 k y0 y1 y2) (laws_eqNodeSS.l0 (k + 1) y0 y1 y2))
  | 0 => fun _ _ _ r h => by simp [laws_eqNodeSS.l0] at h
  | k + 1 => by
    have ih0 := laws_eqNodeSS.mono_l k
    · intro y0 y1 y2
      unfold laws_eqNodeSS.l0
      repeat' first
      | (with_reducible exact ih0 _ _ _)
      | (with_reducible exact laws_eqNodeS.mono _ _ _)
      | (with_reducible exact LeO.refl _)
      | (with_reducible exact LeO.none _)
      | (with_reducible refine LeO.ite ?_ ?_)
      | (with_reducible refine LeO.bind ?_ (fun _ => ?_))
      | exact ih0 _ _ _
      | exact laws_eqNodeS.mono _ _ _
      | exact LeO.none _
      | refine LeO.ite ?_ ?_
      | refine LeO.bind ?_ (fun _ => ?_)
theorem laws_eqNodeSS.mono : ∀ a0 a1 k, LeO (laws_eqNodeSS.f k a0 a1) (laws_eqNodeSS.f (k + 1) a0 a1) := by
  intro a0 a1 k
  have ih0 := laws_eqNodeSS.mono_l k
  unfold laws_eqNodeSS.f
  repeat' first
      | (with_reducible exact ih0 _ _ _)
      | (with_reducible exact laws_eqNodeS.mono _ _ _)
      | (with_reducible exact LeO.refl _)
      | (with_reducible exact LeO.none _)
      | (with_reducible refine LeO.ite ?_ ?_)
      | (with_reducible refine LeO.bind ?_ (fun _ => ?_))
      | exact ih0 _ _ _
      | exact laws_eqNodeS.mono _ _ _
      | exact LeO.none _
      | refine LeO.ite ?_ ?_
      | refine LeO.bind ?_ (fun _ => ?_)
def laws_eqNodeSS.T6 : Bool × List (List Nat × List Nat) := (true, [([], []), ([], []), ([0, 1], [0, 1]), ([2], [2]), ([], []), ([], []), ([4, 5], [4, 5]), ([6], [6]), ([3, 7], [3, 7]), ([8], [8])])
def laws_eqNodeSS.B6 : List Nat := [0, 0, 3, 7, 0, 0, 48, 112, 255, 511]
theorem laws_eqNodeSS.tab6 : rtab .any (opsOf Try.f28 6) = laws_eqNodeSS.T6 := by kernel_rfl
theorem laws_eqNodeSS.bits6 : waitsOk laws_eqNodeSS.T6.2 laws_eqNodeSS.B6 = true := by kernel_rfl
set_option maxHeartbeats 8000000 in
set_option maxRecDepth 100000 in
theorem laws_eqNodeSS.calls (k : Nat) (A0 : Option Addr) (c0 : Nat) (l0 : List (List (S41))) (A1 : Option Addr) (c1 : Nat) (l1 : List (List (S41))) (r : Bool) (w : World) (hr0 : Kd.C (Kd.slice 41 k41) w A0 l0.length l0) (hc0 : l0.length ≤ c0) (hr1 : Kd.C (Kd.slice 41 k41) w A1 l1.length l1) (hc1 : l1.length ≤ c1) (h : laws_eqNodeSS.f k l0 l1 = some r) :
    Calls Try.prog 28 #[.slice A0 l0.length c0, .slice A1 l1.length c1] w fun e w' => e = .returned (.bool r) ∧ Below w.heap.size w w' := by
  have HR0 := Aside0.mk hr0
  have HC0 := Aside0.mk hc0
  clear hr0 hc0
  have HR1 := Aside0.mk hr1
  have HC1 := Aside0.mk hc1
  clear hr1 hc1
  have HB := Aside0.mk (Below.refl w.heap.size w)
  have H : (if (l0.length : Int) = (l1.length : Int) then (laws_eqNodeSS.l0 k l0 l1 0) else (some false)) = some r := h
  clear h
  by_cases c3 : (l0.length : Int) = (l1.length : Int)
  · rw [if_pos c3] at H
    have c3b0 : ((l0.length : Int) == (l1.length : Int)) = true := beq_iff_eq.mpr c3
    have c3b1 : ((l0.length : Int) != (l1.length : Int)) = false := bne_eq_false_iff_eq.mpr c3
    have c3b2 : (l0.length == l1.length) = true := by first | simpa using c3 | (simp at c3 ⊢; omega)
    clear c3
    have H' := Aside0.mk H
    clear H
    go_enter Try.func28, Try.ntmps28
    go_wp2
    go_loopg [5] k (fun kq v5 w' => ∃ (x5_1 : Int), v5 = .int .i64 x5_1 ∧ Aside0 (laws_eqNodeSS.l0 kq l0 l1 x5_1 = some r) ∧ Aside0 (kq ≤ k) ∧ Aside0 (Below w.heap.size w w'))
    case atStart => exact ⟨(0), (by first | rfl | (simp; done) | (simp [*]; done)), H', ⟨Nat.le_refl _⟩, ⟨by repeat (first | (with_reducible first | exact HB.out | apply below_alloc | apply pw_below_drewN | apply below_drew1) | exact HB.out)⟩⟩
    case round =>
      clear H'
      try clear c1
      try clear c2
      try clear p2
      try clear c3
      try clear c3b0
      try clear c3b1
      try clear c3b2
      obtain ⟨x5_1, rfl, HA, HK1, HB⟩ := hrel
      cases gk with
      | zero => exact absurd HA.out (by simp [laws_eqNodeSS.l0])
      | succ k1 =>
        have H := HA.out
        clear HA
        simp only [laws_eqNodeSS.l0] at H
        by_cases c4 : x5_1 < (l0.length : Int)
        · rw [if_pos c4] at H
          have c4b0 : decide (x5_1 < (l0.length : Int)) = true := decide_eq_true c4
          clear c4
          by_cases c5 : 0 ≤ x5_1
          · rw [if_pos c5] at H
            have c5b0 : decide (0 ≤ x5_1) = true := decide_eq_true c5
            clear c5
            by_cases c6 : x5_1 < (l1.length : Int)
            · rw [if_pos c6] at H
              have c6b0 : decide (x5_1 < (l1.length : Int)) = true := decide_eq_true c6
              clear c6
              replace H := Option.bind_eq_some_iff.mp H
              obtain ⟨t344, A70, H⟩ := H
              replace H : (if t344 = true then (laws_eqNodeSS.l0 k1 l0 l1 (wrap64 (x5_1 + 1))) else (some false)) = some r := H
              have A7 := Aside0.mk A70
              clear A70
              by_cases c8 : t344 = true
              · subst c8
                have H1 : (laws_eqNodeSS.l0 k1 l0 l1 (wrap64 (x5_1 + 1))) = some r := by rw [if_pos rfl] at H; exact H
                clear H
                have H := H1
                clear H1
                have H' := Aside0.mk H
                clear H
                try go_wp2
                have n0_ := Aside0.mk (below_drew1 HB.out)
                clear HB
                have HB := n0_
                clear n0_
                have p342 : 0 ≤ (x5_1 : Int) := of_decide_eq_true (by first | (with_reducible assumption) | assumption)
                have q342 : x5_1 < (l0.length : Int) := of_decide_eq_true (by first | (with_reducible assumption) | assumption)
                obtain ⟨ad342, A342_0, c342_0, e342, hx342_0, hl342_0, hi342_0⟩ := at_L7 HR0.out x5_1 p342 q342
                have hw342_0 := hx342_0
                cases e342
                replace hx342_0 := (HB.out.cell (World.block_lt_of_cell? w _ hx342_0)).trans hx342_0
                have HR342_0 := Aside0.mk hi342_0
                have HC342_0 := Aside0.mk hl342_0
                clear hi342_0 hl342_0
                replace p342 := eq_true p342
                replace q342 := eq_true q342
                have p343 : 0 ≤ (x5_1 : Int) := of_decide_eq_true (by first | (with_reducible assumption) | assumption)
                have q343 : x5_1 < (l1.length : Int) := of_decide_eq_true (by first | (with_reducible assumption) | assumption)
                obtain ⟨ad343, A343_0, c343_0, e343, hx343_0, hl343_0, hi343_0⟩ := at_L7 HR1.out x5_1 p343 q343
                have hw343_0 := hx343_0
                cases e343
                replace hx343_0 := (HB.out.cell (World.block_lt_of_cell? w _ hx343_0)).trans hx343_0
                have HR343_0 := Aside0.mk hi343_0
                have HC343_0 := Aside0.mk hl343_0
                clear hi343_0 hl343_0
                replace p343 := eq_true p343
                replace q343 := eq_true q343
                refine start_ (n := 10) (S := fun w' => w'.cell? (ad342.add (x5_1).toNat) = some (.slice A342_0 (rd_L7 l0 x5_1).length c342_0) ∧ w'.cell? (ad343.add (x5_1).toNat) = some (.slice A343_0 (rd_L7 l1 x5_1).length c343_0)) (ds := []) #[false, false, false, false, false, false, false, false, false, false] (by kernel_rfl) rfl rfl ⟨((HB.out.cell (World.block_lt_of_cell? w _ hw342_0)).trans hw342_0), ((HB.out.cell (World.block_lt_of_cell? w _ hw343_0)).trans hw343_0)⟩ (fun hHeld => ?_); refine with_tabW laws_eqNodeSS.tab6 laws_eqNodeSS.bits6 (fun HT_ HW_ => ?_)
                generalize wr.drew = w9 at HB HR342_0 HR343_0 hx342_0 hx343_0 hHeld ⊢
                refine pure_ (i := 0) (N := some 17) (v := ?_) (a' := ?_) #[true, false, false, false, false, false, false, false, false, false] rfl rfl (any_of HT_.out (by kernel_rfl)) (fun _ _ _ h => h) (Or.inl ⟨by rfl, ?_⟩) ?_ ?_
                rotate_left
                · intro w'
                  go_simp
                  with_reducible rfl
                rotate_left
                · simp only [Act.put, List.setIfInBounds_toArray, List.set_cons_zero, List.set_cons_succ, i64_w, i32_w]
                  rfl
                refine pure_ (i := 1) (N := some 18) (v := ?_) (a' := ?_) #[true, true, false, false, false, false, false, false, false, false] rfl rfl (any_of HT_.out (by kernel_rfl)) (fun _ _ _ h => h) (Or.inl ⟨by rfl, ?_⟩) ?_ ?_
                rotate_left
                · intro w'
                  go_simp
                  with_reducible rfl
                rotate_left
                · simp only [Act.put, List.setIfInBounds_toArray, List.set_cons_zero, List.set_cons_succ, i64_w, i32_w]
                  rfl
                refine pure_ (i := 2) (N := some 19) (v := ?_) (a' := ?_) #[true, true, true, false, false, false, false, false, false, false] rfl rfl (any_of HT_.out (by kernel_rfl)) (fun _ _ _ h => h) (Or.inl ⟨by rfl, ?_⟩) ?_ ?_
                rotate_left
                · intro w'
                  go_simp
                  with_reducible rfl
                rotate_left
                · simp only [Act.put, List.setIfInBounds_toArray, List.set_cons_zero, List.set_cons_succ, i64_w, i32_w]
                  rfl
                refine pure_ (i := 4) (N := some 21) (v := ?_) (a' := ?_) #[true, true, true, false, true, false, false, false, false, false] rfl rfl (any_of HT_.out (by kernel_rfl)) (fun _ _ _ h => h) (Or.inl ⟨by rfl, ?_⟩) ?_ ?_
                rotate_left
                · intro w'
                  go_simp
                  with_reducible rfl
                rotate_left
                · simp only [Act.put, List.setIfInBounds_toArray, List.set_cons_zero, List.set_cons_succ, i64_w, i32_w]
                  rfl
                refine pure_ (i := 5) (N := some 22) (v := ?_) (a' := ?_) #[true, true, true, false, true, true, false, false, false, false] rfl rfl (any_of HT_.out (by kernel_rfl)) (fun _ _ _ h => h) (Or.inl ⟨by rfl, ?_⟩) ?_ ?_
                rotate_left
                · intro w'
                  go_simp
                  with_reducible rfl
                rotate_left
                · simp only [Act.put, List.setIfInBounds_toArray, List.set_cons_zero, List.set_cons_succ, i64_w, i32_w]
                  rfl
                refine pure_ (i := 6) (N := some 23) (v := ?_) (a' := ?_) #[true, true, true, false, true, true, true, false, false, false] rfl rfl (any_of HT_.out (by kernel_rfl)) (fun _ _ _ h => h) (Or.inl ⟨by rfl, ?_⟩) ?_ ?_
                rotate_left
                · intro w'
                  go_simp
                  with_reducible rfl
                rotate_left
                · simp only [Act.put, List.setIfInBounds_toArray, List.set_cons_zero, List.set_cons_succ, i64_w, i32_w]
                  rfl
                refine take_ (i := 3) (N := some 20) (v := ?_) (a' := ?_) #[true, true, true, true, true, true, true, false, false, false] rfl rfl (take_ofW HT_.out HW_.out (by kernel_rfl)) (fun _ _ _ h => h) (Or.inl ⟨by rfl, ?_⟩) hHeld ?_ ?_
                rotate_left
                · rintro w' ⟨s0, s1⟩
                  go_simp
                  with_reducible rfl
                rotate_left
                · simp only [Act.put, List.setIfInBounds_toArray, List.set_cons_zero, List.set_cons_succ, i64_w, i32_w]
                  rfl
                refine take_ (i := 7) (N := some 24) (v := ?_) (a' := ?_) #[true, true, true, true, true, true, true, true, false, false] rfl rfl (take_ofW HT_.out HW_.out (by kernel_rfl)) (fun _ _ _ h => h) (Or.inl ⟨by rfl, ?_⟩) hHeld ?_ ?_
                rotate_left
                · rintro w' ⟨s0, s1⟩
                  go_simp
                  with_reducible rfl
                rotate_left
                · simp only [Act.put, List.setIfInBounds_toArray, List.set_cons_zero, List.set_cons_succ, i64_w, i32_w]
                  rfl
                refine one_ (i := 8) (N := some 25) #[true, true, true, true, true, true, true, true, true, false] rfl rfl (one_of HT_.out (by kernel_rfl)) (by decide) (fun K hK => ?_)
                refine goes_ Try.func15 (by kernel_rfl) rfl #[.slice A342_0 (rd_L7 l0 x5_1).length c342_0, .slice A343_0 (rd_L7 l1 x5_1).length c343_0] (by rfl) rfl rfl (by (try simp only [List.map_toArray, List.map_cons, List.map_nil]); first | done | rfl | (simp only [List.length_drop, List.length_take]; rfl)) ?_
                with_reducible refine (laws_eqNodeS.calls k1 _ _ (rd_L7 l0 x5_1) _ _ (rd_L7 l1 x5_1) true _ ?side1 ?side2 ?side3 ?side4 A7.out).mono ?_
                (case side1 => repeat (first | exact (Kd.C_below HR342_0.out HB.out) | (with_reducible refine Kd.C_alloc ?_ _) | (with_reducible refine Kd.C_drewN ?_ _) | (with_reducible refine Kd.C_drew ?_)))
                (case side2 => exact HC342_0.out)
                (case side3 => repeat (first | exact (Kd.C_below HR343_0.out HB.out) | (with_reducible refine Kd.C_alloc ?_ _) | (with_reducible refine Kd.C_drewN ?_ _) | (with_reducible refine Kd.C_drew ?_)))
                (case side4 => exact HC343_0.out)
                rintro e w10 ⟨rfl, hb⟩
                refine ⟨_, rfl, ?_⟩
                have n0_ := Aside0.mk (below_step (by repeat (first | (with_reducible first | exact HB.out | apply below_alloc | apply pw_below_drewN | apply below_drew1) | exact HB.out)) hb)
                clear HB
                have HB := n0_
                clear n0_
                (try clear hb)
                (try clear hb2)
                (try clear hk)
                (try clear hi)
                refine hK.out _ _ ⟨((HB.out.cell (World.block_lt_of_cell? w _ hw342_0)).trans hw342_0), ((HB.out.cell (World.block_lt_of_cell? w _ hw343_0)).trans hw343_0)⟩ (fun hHeld => ?_)
                clear hK K
                refine norm_ (a' := ?_) ?_ ?_
                rotate_left
                · show Act.put _ (some 25) _ = _
                  simp only [Act.put, List.setIfInBounds_toArray, List.set_cons_zero, List.set_cons_succ, i64_w, i32_w]
                  rfl
                refine pure_ (i := 9) (N := some 26) (v := ?_) (a' := ?_) #[true, true, true, true, true, true, true, true, true, true] rfl rfl (any_of HT_.out (by kernel_rfl)) (fun _ _ _ h => h) (Or.inl ⟨by rfl, ?_⟩) ?_ ?_
                rotate_left
                · intro w'
                  go_simp
                  with_reducible rfl
                rotate_left
                · simp only [Act.put, List.setIfInBounds_toArray, List.set_cons_zero, List.set_cons_succ, i64_w, i32_w]
                  rfl
                refine done_ (done_of HT_.out (by kernel_rfl)) ?_
                try go_wp2
                go_roundg k1
                case measure => have := HK1.out; omega
                case rel => exact ⟨(wrap64 (x5_1 + 1)), (by first | rfl | (simp; done) | (simp [*]; done)), H', ⟨by have := HK1.out; omega⟩, ⟨by repeat (first | (with_reducible first | exact HB.out | apply below_alloc | apply pw_below_drewN | apply below_drew1) | exact HB.out)⟩⟩
              · replace c8 := Bool.eq_false_iff.mpr c8
                subst c8
                have H1 : (some false) = some r := by rw [if_neg (show ¬ (false = true) by decide)] at H; exact H
                clear H
                have H := H1
                clear H1
                obtain rfl := Option.some.inj H
                try go_wp2
                have n0_ := Aside0.mk (below_drew1 HB.out)
                clear HB
                have HB := n0_
                clear n0_
                have p342 : 0 ≤ (x5_1 : Int) := of_decide_eq_true (by first | (with_reducible assumption) | assumption)
                have q342 : x5_1 < (l0.length : Int) := of_decide_eq_true (by first | (with_reducible assumption) | assumption)
                obtain ⟨ad342, A342_0, c342_0, e342, hx342_0, hl342_0, hi342_0⟩ := at_L7 HR0.out x5_1 p342 q342
                have hw342_0 := hx342_0
                cases e342
                replace hx342_0 := (HB.out.cell (World.block_lt_of_cell? w _ hx342_0)).trans hx342_0
                have HR342_0 := Aside0.mk hi342_0
                have HC342_0 := Aside0.mk hl342_0
                clear hi342_0 hl342_0
                replace p342 := eq_true p342
                replace q342 := eq_true q342
                have p343 : 0 ≤ (x5_1 : Int) := of_decide_eq_true (by first | (with_reducible assumption) | assumption)
                have q343 : x5_1 < (l1.length : Int) := of_decide_eq_true (by first | (with_reducible assumption) | assumption)
                obtain ⟨ad343, A343_0, c343_0, e343, hx343_0, hl343_0, hi343_0⟩ := at_L7 HR1.out x5_1 p343 q343
                have hw343_0 := hx343_0
                cases e343
                replace hx343_0 := (HB.out.cell (World.block_lt_of_cell? w _ hx343_0)).trans hx343_0
                have HR343_0 := Aside0.mk hi343_0
                have HC343_0 := Aside0.mk hl343_0
                clear hi343_0 hl343_0
                replace p343 := eq_true p343
                replace q343 := eq_true q343
                refine start_ (n := 10) (S := fun w' => w'.cell? (ad342.add (x5_1).toNat) = some (.slice A342_0 (rd_L7 l0 x5_1).length c342_0) ∧ w'.cell? (ad343.add (x5_1).toNat) = some (.slice A343_0 (rd_L7 l1 x5_1).length c343_0)) (ds := []) #[false, false, false, false, false, false, false, false, false, false] (by kernel_rfl) rfl rfl ⟨((HB.out.cell (World.block_lt_of_cell? w _ hw342_0)).trans hw342_0), ((HB.out.cell (World.block_lt_of_cell? w _ hw343_0)).trans hw343_0)⟩ (fun hHeld => ?_); refine with_tabW laws_eqNodeSS.tab6 laws_eqNodeSS.bits6 (fun HT_ HW_ => ?_)
                generalize wr.drew = w11 at HB HR342_0 HR343_0 hx342_0 hx343_0 hHeld ⊢
                refine pure_ (i := 0) (N := some 17) (v := ?_) (a' := ?_) #[true, false, false, false, false, false, false, false, false, false] rfl rfl (any_of HT_.out (by kernel_rfl)) (fun _ _ _ h => h) (Or.inl ⟨by rfl, ?_⟩) ?_ ?_
                rotate_left
                · intro w'
                  go_simp
                  with_reducible rfl
                rotate_left
                · simp only [Act.put, List.setIfInBounds_toArray, List.set_cons_zero, List.set_cons_succ, i64_w, i32_w]
                  rfl
                refine pure_ (i := 1) (N := some 18) (v := ?_) (a' := ?_) #[true, true, false, false, false, false, false, false, false, false] rfl rfl (any_of HT_.out (by kernel_rfl)) (fun _ _ _ h => h) (Or.inl ⟨by rfl, ?_⟩) ?_ ?_
                rotate_left
                · intro w'
                  go_simp
                  with_reducible rfl
                rotate_left
                · simp only [Act.put, List.setIfInBounds_toArray, List.set_cons_zero, List.set_cons_succ, i64_w, i32_w]
                  rfl
                refine pure_ (i := 2) (N := some 19) (v := ?_) (a' := ?_) #[true, true, true, false, false, false, false, false, false, false] rfl rfl (any_of HT_.out (by kernel_rfl)) (fun _ _ _ h => h) (Or.inl ⟨by rfl, ?_⟩) ?_ ?_
                rotate_left
                · intro w'
                  go_simp
                  with_reducible rfl
                rotate_left
                · simp only [Act.put, List.setIfInBounds_toArray, List.set_cons_zero, List.set_cons_succ, i64_w, i32_w]
                  rfl
                refine pure_ (i := 4) (N := some 21) (v := ?_) (a' := ?_) #[true, true, true, false, true, false, false, false, false, false] rfl rfl (any_of HT_.out (by kernel_rfl)) (fun _ _ _ h => h) (Or.inl ⟨by rfl, ?_⟩) ?_ ?_
                rotate_left
                · intro w'
                  go_simp
                  with_reducible rfl
                rotate_left
                · simp only [Act.put, List.setIfInBounds_toArray, List.set_cons_zero, List.set_cons_succ, i64_w, i32_w]
                  rfl
                refine pure_ (i := 5) (N := some 22) (v := ?_) (a' := ?_) #[true, true, true, false, true, true, false, false, false, false] rfl rfl (any_of HT_.out (by kernel_rfl)) (fun _ _ _ h => h) (Or.inl ⟨by rfl, ?_⟩) ?_ ?_
                rotate_left
                · intro w'
                  go_simp
                  with_reducible rfl
                rotate_left
                · simp only [Act.put, List.setIfInBounds_toArray, List.set_cons_zero, List.set_cons_succ, i64_w, i32_w]
                  rfl
                refine pure_ (i := 6) (N := some 23) (v := ?_) (a' := ?_) #[true, true, true, false, true, true, true, false, false, false] rfl rfl (any_of HT_.out (by kernel_rfl)) (fun _ _ _ h => h) (Or.inl ⟨by rfl, ?_⟩) ?_ ?_
                rotate_left
                · intro w'
                  go_simp
                  with_reducible rfl
                rotate_left
                · simp only [Act.put, List.setIfInBounds_toArray, List.set_cons_zero, List.set_cons_succ, i64_w, i32_w]
                  rfl
                refine take_ (i := 3) (N := some 20) (v := ?_) (a' := ?_) #[true, true, true, true, true, true, true, false, false, false] rfl rfl (take_ofW HT_.out HW_.out (by kernel_rfl)) (fun _ _ _ h => h) (Or.inl ⟨by rfl, ?_⟩) hHeld ?_ ?_
                rotate_left
                · rintro w' ⟨s0, s1⟩
                  go_simp
                  with_reducible rfl
                rotate_left
                · simp only [Act.put, List.setIfInBounds_toArray, List.set_cons_zero, List.set_cons_succ, i64_w, i32_w]
                  rfl
                refine take_ (i := 7) (N := some 24) (v := ?_) (a' := ?_) #[true, true, true, true, true, true, true, true, false, false] rfl rfl (take_ofW HT_.out HW_.out (by kernel_rfl)) (fun _ _ _ h => h) (Or.inl ⟨by rfl, ?_⟩) hHeld ?_ ?_
                rotate_left
                · rintro w' ⟨s0, s1⟩
                  go_simp
                  with_reducible rfl
                rotate_left
                · simp only [Act.put, List.setIfInBounds_toArray, List.set_cons_zero, List.set_cons_succ, i64_w, i32_w]
                  rfl
                refine one_ (i := 8) (N := some 25) #[true, true, true, true, true, true, true, true, true, false] rfl rfl (one_of HT_.out (by kernel_rfl)) (by decide) (fun K hK => ?_)
                refine goes_ Try.func15 (by kernel_rfl) rfl #[.slice A342_0 (rd_L7 l0 x5_1).length c342_0, .slice A343_0 (rd_L7 l1 x5_1).length c343_0] (by rfl) rfl rfl (by (try simp only [List.map_toArray, List.map_cons, List.map_nil]); first | done | rfl | (simp only [List.length_drop, List.length_take]; rfl)) ?_
                with_reducible refine (laws_eqNodeS.calls k1 _ _ (rd_L7 l0 x5_1) _ _ (rd_L7 l1 x5_1) false _ ?side1 ?side2 ?side3 ?side4 A7.out).mono ?_
                (case side1 => repeat (first | exact (Kd.C_below HR342_0.out HB.out) | (with_reducible refine Kd.C_alloc ?_ _) | (with_reducible refine Kd.C_drewN ?_ _) | (with_reducible refine Kd.C_drew ?_)))
                (case side2 => exact HC342_0.out)
                (case side3 => repeat (first | exact (Kd.C_below HR343_0.out HB.out) | (with_reducible refine Kd.C_alloc ?_ _) | (with_reducible refine Kd.C_drewN ?_ _) | (with_reducible refine Kd.C_drew ?_)))
                (case side4 => exact HC343_0.out)
                rintro e w12 ⟨rfl, hb⟩
                refine ⟨_, rfl, ?_⟩
                have n0_ := Aside0.mk (below_step (by repeat (first | (with_reducible first | exact HB.out | apply below_alloc | apply pw_below_drewN | apply below_drew1) | exact HB.out)) hb)
                clear HB
                have HB := n0_
                clear n0_
                (try clear hb)
                (try clear hb2)
                (try clear hk)
                (try clear hi)
                refine hK.out _ _ ⟨((HB.out.cell (World.block_lt_of_cell? w _ hw342_0)).trans hw342_0), ((HB.out.cell (World.block_lt_of_cell? w _ hw343_0)).trans hw343_0)⟩ (fun hHeld => ?_)
                clear hK K
                refine norm_ (a' := ?_) ?_ ?_
                rotate_left
                · show Act.put _ (some 25) _ = _
                  simp only [Act.put, List.setIfInBounds_toArray, List.set_cons_zero, List.set_cons_succ, i64_w, i32_w]
                  rfl
                refine pure_ (i := 9) (N := some 26) (v := ?_) (a' := ?_) #[true, true, true, true, true, true, true, true, true, true] rfl rfl (any_of HT_.out (by kernel_rfl)) (fun _ _ _ h => h) (Or.inl ⟨by rfl, ?_⟩) ?_ ?_
                rotate_left
                · intro w'
                  go_simp
                  with_reducible rfl
                rotate_left
                · simp only [Act.put, List.setIfInBounds_toArray, List.set_cons_zero, List.set_cons_succ, i64_w, i32_w]
                  rfl
                refine done_ (done_of HT_.out (by kernel_rfl)) ?_
                try go_wp2
                go_ret
                exact ⟨by first | rfl | (simp [errW_none, errW_some] <;> rfl) | (simp [*, errW_none, errW_some] <;> rfl), by repeat (first | (with_reducible first | exact HB.out | apply below_alloc | apply pw_below_drewN | apply below_drew1) | exact HB.out)⟩
            · rw [if_neg c6] at H
              exact absurd H (by simp)
          · rw [if_neg c5] at H
            exact absurd H (by simp)
        · rw [if_neg c4] at H
          have c4b0 : decide (x5_1 < (l0.length : Int)) = false := decide_eq_false c4
          clear c4
          obtain rfl := Option.some.inj H
          go_wp2
          go_ret
          exact ⟨by first | rfl | (simp [errW_none, errW_some] <;> rfl) | (simp [*, errW_none, errW_some] <;> rfl), by repeat (first | (with_reducible first | exact HB.out | apply below_alloc | apply pw_below_drewN | apply below_drew1) | exact HB.out)⟩
  · rw [if_neg c3] at H
    have c3b0 : ((l0.length : Int) == (l1.length : Int)) = false := beq_eq_false_iff_ne.mpr c3
    have c3b1 : ((l0.length : Int) != (l1.length : Int)) = true := bne_iff_ne.mpr c3
    have c3b2 : (l0.length == l1.length) = false := by first | simpa using c3 | (simp at c3 ⊢; omega)
    obtain rfl := Option.some.inj H
    go_enter Try.func28, Try.ntmps28
    go_wp2
    go_ret
    exact ⟨by first | rfl | (simp [errW_none, errW_some] <;> rfl) | (simp [*, errW_none, errW_some] <;> rfl), by repeat (first | (with_reducible first | exact HB.out | apply below_alloc | apply pw_below_drewN | apply below_drew1) | exact HB.out)⟩

end Go.Proofs.Ytoioineibfldcaa.K
end

section
-- Printed by wip/tools/stubprint.py, a driver of mine over the kit's print.py: some callees are proved by hand.
namespace Go.Proofs.Ytoioineibfldcaa.K
open Go.RowKit Go.Proofs.YtoioineibfldcaaW.PrintWords Go.Proofs.YtoioineibfldcaaW.PrintLast Go.Proofs.YtoioineibfldcaaW.PrintMore
attribute [local go_sem] max2_int min2_int max_two min_two max_three min_three max_four min_four   -- for this text's walks alone
set_option linter.unusedVariables false
set_option linter.unusedSimpArgs false

/-! ### laws_heldNodeSS: function 36 -/
def laws_heldNodeSS.l0 : Nat → List (List (S41)) → Int → Int → Option (Int)
  | 0, _, _, _ => none
  | k + 1, x0, x1, x5 => if x5 < (x0.length : Int) then (if 0 ≤ x5 then ((laws_heldNodeS.f k (rd_L7 x0 x5) x1).bind fun t401 => (if t401 < 0 then (some (-1)) else (laws_heldNodeSS.l0 k x0 t401 (wrap64 (x5 + 1))))) else (none)) else (some x1)
def laws_heldNodeSS.f (k : Nat) (l0 : List (List (S41))) (a1 : Int) : Option (Int) := laws_heldNodeSS.l0 k l0 a1 0
theorem laws_heldNodeSS.mono_l : ∀ k, (∀ y0 y1 y2, LeO (laws_heldNodeSS.l0 k y0 y1 y2) (laws_heldNodeSS.l0 (k + 1) y0 y1 y2))
  | 0 => fun _ _ _ r h => by simp [laws_heldNodeSS.l0] at h
  | k + 1 => by
    have ih0 := laws_heldNodeSS.mono_l k
    · intro y0 y1 y2
      unfold laws_heldNodeSS.l0
      repeat' first
      | (with_reducible exact ih0 _ _ _)
      | (with_reducible exact laws_heldNodeS.mono _ _ _)
      | (with_reducible exact LeO.refl _)
      | (with_reducible exact LeO.none _)
      | (with_reducible refine LeO.ite ?_ ?_)
      | (with_reducible refine LeO.bind ?_ (fun _ => ?_))
      | exact ih0 _ _ _
      | exact laws_heldNodeS.mono _ _ _
      | exact LeO.none _
      | refine LeO.ite ?_ ?_
      | refine LeO.bind ?_ (fun _ => ?_)
theorem laws_heldNodeSS.mono : ∀ a0 a1 k, LeO (laws_heldNodeSS.f k a0 a1) (laws_heldNodeSS.f (k + 1) a0 a1) := by
  intro a0 a1 k
  have ih0 := laws_heldNodeSS.mono_l k
  unfold laws_heldNodeSS.f
  repeat' first
      | (with_reducible exact ih0 _ _ _)
      | (with_reducible exact laws_heldNodeS.mono _ _ _)
      | (with_reducible exact LeO.refl _)
      | (with_reducible exact LeO.none _)
      | (with_reducible refine LeO.ite ?_ ?_)
      | (with_reducible refine LeO.bind ?_ (fun _ => ?_))
      | exact ih0 _ _ _
      | exact laws_heldNodeS.mono _ _ _
      | exact LeO.none _
      | refine LeO.ite ?_ ?_
      | refine LeO.bind ?_ (fun _ => ?_)
set_option maxHeartbeats 8000000 in
set_option maxRecDepth 100000 in
theorem laws_heldNodeSS.calls (k : Nat) (A0 : Option Addr) (c0 : Nat) (l0 : List (List (S41))) (a1 : Int) (r : Int) (w : World) (hr0 : Kd.C (Kd.slice 41 k41) w A0 l0.length l0) (hc0 : l0.length ≤ c0) (h : laws_heldNodeSS.f k l0 a1 = some r) :
    Calls Try.prog 36 #[.slice A0 l0.length c0, .int .i64 a1] w fun e w' => e = .returned (.int .i64 r) ∧ Below w.heap.size w w' := by
  have HR0 := Aside0.mk hr0
  have HC0 := Aside0.mk hc0
  clear hr0 hc0
  have HB := Aside0.mk (Below.refl w.heap.size w)
  have H : (laws_heldNodeSS.l0 k l0 a1 0) = some r := h
  clear h
  have H' := Aside0.mk H
  clear H
  go_enter Try.func36, Try.ntmps36
  go_wp2
  go_loopg [1, 5] k (fun kq v1 v5 w' => ∃ (x1_1 : Int) (x5_1 : Int), v1 = .int .i64 x1_1 ∧ v5 = .int .i64 x5_1 ∧ Aside0 (laws_heldNodeSS.l0 kq l0 x1_1 x5_1 = some r) ∧ Aside0 (kq ≤ k) ∧ Aside0 (Below w.heap.size w w'))
  case atStart => exact ⟨(a1), (0), (by first | rfl | (simp; done) | (simp [*]; done)), (by first | rfl | (simp; done) | (simp [*]; done)), H', ⟨Nat.le_refl _⟩, ⟨by repeat (first | (with_reducible first | exact HB.out | apply below_alloc | apply pw_below_drewN | apply below_drew1) | exact HB.out)⟩⟩
  case round =>
    clear H'
    try clear p2
    obtain ⟨x1_1, x5_1, rfl, rfl, HA, HK1, HB⟩ := hrel
    cases gk with
    | zero => exact absurd HA.out (by simp [laws_heldNodeSS.l0])
    | succ k1 =>
      have H := HA.out
      clear HA
      simp only [laws_heldNodeSS.l0] at H
      by_cases c3 : x5_1 < (l0.length : Int)
      · rw [if_pos c3] at H
        have c3b0 : decide (x5_1 < (l0.length : Int)) = true := decide_eq_true c3
        clear c3
        by_cases c4 : 0 ≤ x5_1
        · rw [if_pos c4] at H
          have c4b0 : decide (0 ≤ x5_1) = true := decide_eq_true c4
          clear c4
          replace H := Option.bind_eq_some_iff.mp H
          obtain ⟨t401, A50, H⟩ := H
          replace H : (if t401 < 0 then (some (-1)) else (laws_heldNodeSS.l0 k1 l0 t401 (wrap64 (x5_1 + 1)))) = some r := H
          have A5 := Aside0.mk A50
          clear A50
          by_cases c6 : t401 < 0
          · rw [if_pos c6] at H
            have c6b0 : decide (t401 < 0) = true := decide_eq_true c6
            clear c6
            obtain rfl := Option.some.inj H
            have p400 : 0 ≤ (x5_1 : Int) := of_decide_eq_true (by first | (with_reducible assumption) | assumption)
            have q400 : x5_1 < (l0.length : Int) := of_decide_eq_true (by first | (with_reducible assumption) | assumption)
            obtain ⟨ad400, A400_0, c400_0, e400, hx400_0, hl400_0, hi400_0⟩ := at_L7 HR0.out x5_1 p400 q400
            cases e400
            replace hx400_0 := (HB.out.cell (World.block_lt_of_cell? w _ hx400_0)).trans hx400_0
            have HR400_0 := Aside0.mk hi400_0
            have HC400_0 := Aside0.mk hl400_0
            clear hi400_0 hl400_0
            replace p400 := eq_true p400
            replace q400 := eq_true q400
            go_wp2_with (first | ((with_reducible refine gate_callee (f := 31) rfl ?_); refine goesL_ (some 17) rfl rfl Try.func31 (by kernel_rfl) rfl #[.slice A400_0 (rd_L7 l0 x5_1).length c400_0, .int .i64 x1_1] rfl (by (try simp only [List.map_toArray, List.map_cons, List.map_nil]); first | done | rfl | (simp only [List.length_drop, List.length_take]; rfl)) ?_; (with_reducible refine (laws_heldNodeS.calls k1 _ _ (rd_L7 l0 x5_1) x1_1 t401 _ ?side1 ?side2 A5.out).mono ?_); (case side1 => repeat (first | exact (Kd.C_below HR400_0.out HB.out) | (with_reducible refine Kd.C_alloc ?_ _) | (with_reducible refine Kd.C_drewN ?_ _) | (with_reducible refine Kd.C_drew ?_))); (case side2 => exact HC400_0.out); rintro e w7 ⟨rfl, hb⟩; refine ⟨_, rfl, ?_⟩; have n0_ := Aside0.mk (below_step (by repeat (first | (with_reducible first | exact HB.out | apply below_alloc | apply pw_below_drewN | apply below_drew1) | exact HB.out)) hb); clear HB; have HB := n0_; clear n0_; (try clear hb); (try clear hb2); (try clear hk); (try clear hi)))
            go_ret
            exact ⟨by first | rfl | (simp [errW_none, errW_some] <;> rfl) | (simp [*, errW_none, errW_some] <;> rfl), by repeat (first | (with_reducible first | exact HB.out | apply below_alloc | apply pw_below_drewN | apply below_drew1) | exact HB.out)⟩
          · rw [if_neg c6] at H
            have c6b0 : decide (t401 < 0) = false := decide_eq_false c6
            clear c6
            have H' := Aside0.mk H
            clear H
            have p400 : 0 ≤ (x5_1 : Int) := of_decide_eq_true (by first | (with_reducible assumption) | assumption)
            have q400 : x5_1 < (l0.length : Int) := of_decide_eq_true (by first | (with_reducible assumption) | assumption)
            obtain ⟨ad400, A400_0, c400_0, e400, hx400_0, hl400_0, hi400_0⟩ := at_L7 HR0.out x5_1 p400 q400
            cases e400
            replace hx400_0 := (HB.out.cell (World.block_lt_of_cell? w _ hx400_0)).trans hx400_0
            have HR400_0 := Aside0.mk hi400_0
            have HC400_0 := Aside0.mk hl400_0
            clear hi400_0 hl400_0
            replace p400 := eq_true p400
            replace q400 := eq_true q400
            go_wp2_with (first | ((with_reducible refine gate_callee (f := 31) rfl ?_); refine goesL_ (some 17) rfl rfl Try.func31 (by kernel_rfl) rfl #[.slice A400_0 (rd_L7 l0 x5_1).length c400_0, .int .i64 x1_1] rfl (by (try simp only [List.map_toArray, List.map_cons, List.map_nil]); first | done | rfl | (simp only [List.length_drop, List.length_take]; rfl)) ?_; (with_reducible refine (laws_heldNodeS.calls k1 _ _ (rd_L7 l0 x5_1) x1_1 t401 _ ?side1 ?side2 A5.out).mono ?_); (case side1 => repeat (first | exact (Kd.C_below HR400_0.out HB.out) | (with_reducible refine Kd.C_alloc ?_ _) | (with_reducible refine Kd.C_drewN ?_ _) | (with_reducible refine Kd.C_drew ?_))); (case side2 => exact HC400_0.out); rintro e w8 ⟨rfl, hb⟩; refine ⟨_, rfl, ?_⟩; have n0_ := Aside0.mk (below_step (by repeat (first | (with_reducible first | exact HB.out | apply below_alloc | apply pw_below_drewN | apply below_drew1) | exact HB.out)) hb); clear HB; have HB := n0_; clear n0_; (try clear hb); (try clear hb2); (try clear hk); (try clear hi)))
            go_roundg k1
            case measure => have := HK1.out; omega
            case rel => exact ⟨(t401), (wrap64 (x5_1 + 1)), (by first | rfl | (simp; done) | (simp [*]; done)), (by first | rfl | (simp; done) | (simp [*]; done)), H', ⟨by have := HK1.out; omega⟩, ⟨by repeat (first | (with_reducible first | exact HB.out | apply below_alloc | apply pw_below_drewN | apply below_drew1) | exact HB.out)⟩⟩
        · rw [if_neg c4] at H
          exact absurd H (by simp)
      · rw [if_neg c3] at H
        have c3b0 : decide (x5_1 < (l0.length : Int)) = false := decide_eq_false c3
        clear c3
        obtain rfl := Option.some.inj H
        go_wp2
        go_ret
        exact ⟨by first | rfl | (simp [errW_none, errW_some] <;> rfl) | (simp [*, errW_none, errW_some] <;> rfl), by repeat (first | (with_reducible first | exact HB.out | apply below_alloc | apply pw_below_drewN | apply below_drew1) | exact HB.out)⟩

end Go.Proofs.Ytoioineibfldcaa.K
end

section
/-
  The plain laws for rows of rows: szNodeSS, eqNodeSS, heldNodeSS, both Joins. Conditions: at most 1048576 is asked of szNodeSS; the marks stay below 900000000; the joined row has at most 2097152 nodes.
-/
set_option linter.unusedVariables false
namespace Go.Proofs.Ytoioineibfldcaa.K
open Go.RowKit Go.Proofs.YtoioineibfldcaaW.PrintWords Go.Proofs.YtoioineibfldcaaW.PrintLast Go.Proofs.YtoioineibfldcaaW.PrintMore

def tot {α : Type} (ls : List (List α)) : Nat := (ls.map (·.length)).sum
theorem tot_cons {α : Type} (l : List α) (ls : List (List α)) : tot (l :: ls) = l.length + tot ls := by simp [tot]
theorem tot_flat {α : Type} : ∀ (ls : List (List α)), ls.flatten.length = tot ls
  | [] => rfl
  | l :: ls => by rw [List.flatten_cons, List.length_append, tot_flat ls, tot_cons]
theorem tot_drop {α : Type} (ls : List (List α)) (i : Nat) (h : i < ls.length) : tot (ls.drop i) = ls[i].length + tot (ls.drop (i + 1)) := by rw [List.drop_eq_getElem_cons h, tot_cons]
theorem tot_append {α : Type} (a b : List (List α)) : tot (a ++ b) = tot a + tot b := by simp [tot]
theorem tot_take {α : Type} (ls : List (List α)) (i : Nat) (h : i < ls.length) : tot (ls.take (i + 1)) = tot (ls.take i) + ls[i].length := by
  rw [List.take_succ_eq_append_getElem h, tot_append, tot_cons]
  rfl
theorem tot_take_le {α : Type} (ls : List (List α)) (i : Nat) : tot (ls.take i) ≤ tot ls := by
  have h := tot_append (ls.take i) (ls.drop i)
  rw [List.take_append_drop] at h
  omega
theorem tot_mem {α : Type} (ls : List (List α)) (l : List α) (h : l ∈ ls) : l.length ≤ tot ls := by
  obtain ⟨i, hi, rfl⟩ := List.getElem_of_mem h
  have h1 := tot_take ls i hi
  have h2 := tot_take_le ls (i + 1)
  omega

/-! ### szNodeSS -/
theorem szNodeS_ev2 (l : List S36) (hl : l.length ≤ 9223372036854775807) (hs : ∀ s ∈ l, s.f2.size ≤ 9223372036854775807) (a : Int) (h0 : 0 ≤ a) (h1 : a ≤ 1048576) :
    ∃ r, Ev (fun k => laws_szNodeS.f k l a) r ∧ -1 ≤ r ∧ r ≤ a ∧ (0 ≤ r → (l.length : Int) + r ≤ a) := by
  have hw : wrap64 (a - (l.length : Int)) = a - (l.length : Int) := wrap_id (by omega) (by omega)
  by_cases h : a - (l.length : Int) < 0
  · refine ⟨-1, Ev.congr (f := fun _ => some (-1)) (fun k => ?_) (Ev.now _), by omega, by omega, fun h => by omega⟩
    unfold laws_szNodeS.f
    rw [hw, if_pos h]
  · obtain ⟨r, hr, h2, h3⟩ := szNodeS_loop l hl hs _ 0 (a - (l.length : Int)) (by omega) (by omega) (Nat.zero_le _) rfl
    refine ⟨r, Ev.congr (fun k => ?_) hr, h2, by omega, fun h => by omega⟩
    unfold laws_szNodeS.f
    rw [hw, if_neg h]
    rfl
theorem szNodeSS_loop (l : List (List S36)) (hl : l.length ≤ 9223372036854775807) (hs : ∀ x ∈ l, x.length ≤ 9223372036854775807 ∧ ∀ s ∈ x, s.f2.size ≤ 9223372036854775807) (d : Nat) : ∀ (i : Nat) (a : Int), 0 ≤ a → a ≤ 1048576 → i ≤ l.length → l.length - i = d →
    ∃ r, Ev (fun k => laws_szNodeSS.l0 k l a i) r ∧ -1 ≤ r ∧ r ≤ a ∧ (0 ≤ r → (tot (l.drop i) : Int) + r ≤ a) := by
  induction d with
  | zero =>
    intro i a h0 h1 hi hd
    obtain rfl : i = l.length := by omega
    have hn : ¬ ((l.length : Int) < (l.length : Int)) := by omega
    refine ⟨a, Ev.step (f := fun _ => some a) (fun k => ?_) (Ev.now a), by omega, by omega, fun _ => by simp [tot]⟩
    rw [laws_szNodeSS.l0, if_neg hn]
  | succ d ih =>
    intro i a h0 h1 hi hd
    have hlt : i < l.length := by omega
    have hx : rd_L6 l (i : Int) = l[i] := by simp [rd_L6, List.getD_eq_getElem?_getD, hlt]
    have hmem := hs l[i] (List.getElem_mem hlt)
    obtain ⟨r1, hr1, hr2, hr3, hr4⟩ := szNodeS_ev2 l[i] hmem.1 hmem.2 a h0 h1
    have hc : (i : Int) < (l.length : Int) := by omega
    have hc0 : (0 : Int) ≤ (i : Int) := by omega
    have ht := tot_drop l i hlt
    have hstep : ∀ k, laws_szNodeSS.l0 (k + 1) l a i = (laws_szNodeS.f k l[i] a).bind fun t => if t < 0 then some (-1) else laws_szNodeSS.l0 k l t ((i + 1 : Nat) : Int) := fun k => by
      rw [laws_szNodeSS.l0, if_pos hc, if_pos hc0, hx, wrap_succ hlt hl]
    by_cases hn : r1 < 0
    · exact ⟨-1, Ev.step hstep (Ev.bind hr1 (Ev.congr (fun k => if_pos hn) (Ev.now _))), by omega, by omega, fun h => by omega⟩
    · obtain ⟨r, hr, h2, h3, h4⟩ := ih (i + 1) r1 (by omega) (by omega) (by omega) (by omega)
      exact ⟨r, Ev.step hstep (Ev.bind hr1 (Ev.congr (fun k => if_neg hn) hr)), h2, by omega, fun h => by have := h4 h; have := hr4 (by omega); omega⟩
theorem szNodeSS_ev (l : List (List S36)) (hl : l.length ≤ 9223372036854775807) (hs : ∀ x ∈ l, x.length ≤ 9223372036854775807 ∧ ∀ s ∈ x, s.f2.size ≤ 9223372036854775807) (a : Int) (h0 : 0 ≤ a) (h1 : a ≤ 1048576) :
    ∃ r, Ev (fun k => laws_szNodeSS.f k l a) r ∧ -1 ≤ r ∧ r ≤ a ∧ (0 ≤ r → (l.length : Int) + tot l + r ≤ a) := by
  have hw : wrap64 (a - (l.length : Int)) = a - (l.length : Int) := wrap_id (by omega) (by omega)
  by_cases h : a - (l.length : Int) < 0
  · refine ⟨-1, Ev.congr (f := fun _ => some (-1)) (fun k => ?_) (Ev.now _), by omega, by omega, fun h => by omega⟩
    rw [laws_szNodeSS.f, hw, if_pos h]
  · obtain ⟨r, hr, h2, h3, h4⟩ := szNodeSS_loop l hl hs _ 0 (a - (l.length : Int)) (by omega) (by omega) (Nat.zero_le _) rfl
    rw [List.drop_zero] at h4
    refine ⟨r, Ev.congr (fun k => ?_) hr, h2, by omega, fun h => by have := h4 h; omega⟩
    rw [laws_szNodeSS.f, hw, if_neg h]
    rfl

/-! ### eqNodeSS -/
theorem rdL7 (l : List (List S41)) (i : Nat) (h : i < l.length) : rd_L7 l (i : Int) = l[i] := by simp [rd_L7, List.getD_eq_getElem?_getD, h]
theorem eqNodeSS_loop (l : List (List S41)) (hl : l.length ≤ 9223372036854775807) (hs : ∀ x ∈ l, x.length ≤ 9223372036854775807) (d : Nat) : ∀ (i : Nat), i ≤ l.length → l.length - i = d → Ev (fun k => laws_eqNodeSS.l0 k l l i) true := by
  induction d with
  | zero =>
    intro i hi hd
    have hn : ¬ ((i : Int) < (l.length : Int)) := by omega
    refine Ev.step (f := fun _ => some true) (fun k => ?_) (Ev.now _)
    rw [laws_eqNodeSS.l0, if_neg hn]
  | succ d ih =>
    intro i hi hd
    have hlt : i < l.length := by omega
    have hc : (i : Int) < (l.length : Int) := by omega
    have hc0 : (0 : Int) ≤ (i : Int) := by omega
    refine Ev.step (f := fun k => (laws_eqNodeS.f k l[i] l[i]).bind fun t => if t = true then laws_eqNodeSS.l0 k l l ((i + 1 : Nat) : Int) else some false) (fun k => ?_) (Ev.bind (eqNodeS_ev l[i] (hs _ (List.getElem_mem hlt))) (Ev.congr (fun k => if_pos rfl) (ih (i + 1) (by omega) (by omega))))
    rw [laws_eqNodeSS.l0, if_pos hc, if_pos hc0, if_pos hc, rdL7 l i hlt, wrap_succ hlt hl]
theorem eqNodeSS_ev (l : List (List S41)) (hl : l.length ≤ 9223372036854775807) (hs : ∀ x ∈ l, x.length ≤ 9223372036854775807) : Ev (fun k => laws_eqNodeSS.f k l l) true := by
  refine Ev.congr (fun k => ?_) (eqNodeSS_loop l hl hs _ 0 (Nat.zero_le _) rfl)
  rw [laws_eqNodeSS.f, if_pos rfl]
  rfl

/-! ### the marks of rows of rows -/
noncomputable def mkss (a : Int) (ls : List (List S41)) : List (List S41) := (List.range ls.length).map fun i => mks (a + 5 * (tot (ls.take i) : Int)) (ls.getD i []).length
theorem mkss_len (a : Int) (ls : List (List S41)) : (mkss a ls).length = ls.length := by simp [mkss]
theorem mkss_get (a : Int) (ls : List (List S41)) (i : Nat) (h : i < ls.length) : (mkss a ls)[i]'(by rw [mkss_len]; exact h) = mks (a + 5 * (tot (ls.take i) : Int)) ls[i].length := by
  simp [mkss, List.getD_eq_getElem?_getD, h]
theorem heldSS_loop (a : Int) (ls : List (List S41)) (ha : 0 ≤ a) (hn : a + 5 * tot ls ≤ 900000000) (hl : ls.length ≤ 900000000) (d : Nat) : ∀ (i : Nat) (b : Int), b = a + 5 * tot (ls.take i) → i ≤ ls.length → ls.length - i = d →
    Ev (fun k => laws_heldNodeSS.l0 k (mkss a ls) b i) (a + 5 * tot ls) := by
  induction d with
  | zero =>
    intro i b hb hi hd
    obtain rfl : i = ls.length := by omega
    have hnn : ¬ ((ls.length : Int) < ((mkss a ls).length : Int)) := by rw [mkss_len]; omega
    rw [List.take_length] at hb
    subst hb
    refine Ev.step (f := fun _ => some (a + 5 * (tot ls : Int))) (fun k => ?_) (Ev.now _)
    rw [laws_heldNodeSS.l0, if_neg hnn]
  | succ d ih =>
    intro i b hb hi hd
    have hlt : i < ls.length := by omega
    have hc : (i : Int) < ((mkss a ls).length : Int) := by rw [mkss_len]; omega
    have hc0 : (0 : Int) ≤ (i : Int) := by omega
    have h1 := tot_take ls i hlt
    have h2 := tot_take_le ls (i + 1)
    have hrow : rd_L7 (mkss a ls) (i : Int) = mks b ls[i].length := by
      rw [rdL7 _ i (by rw [mkss_len]; exact hlt), mkss_get a ls i hlt, hb]
    have hh := held_ev b ls[i].length (by omega) (by omega)
    refine Ev.step (f := fun k => (laws_heldNodeS.f k (mks b ls[i].length) b).bind fun t => if t < 0 then some (-1) else laws_heldNodeSS.l0 k (mkss a ls) t ((i + 1 : Nat) : Int)) (fun k => ?_) (Ev.bind hh (Ev.congr (fun k => if_neg (by omega)) (ih (i + 1) _ (by omega) (by omega) (by omega))))
    rw [laws_heldNodeSS.l0, if_pos hc, if_pos hc0, hrow, wrap_succ hlt (by omega)]
theorem heldSS_ev (a : Int) (ls : List (List S41)) (ha : 0 ≤ a) (hn : a + 5 * tot ls ≤ 900000000) (hl : ls.length ≤ 900000000) : Ev (fun k => laws_heldNodeSS.f k (mkss a ls) a) (a + 5 * tot ls) :=
  heldSS_loop a ls ha hn hl _ 0 a (by simp [tot]) (Nat.zero_le _) rfl

/-! ### Join -/
def joinL (x : S41) (ls : List (List S41)) : List S41 := ls.flatten ++ [⟨x.f0, x.f1, x.f2, (ls.length : Int), x.f4⟩]
theorem flat_take (ls : List (List S41)) (i : Nat) (h : i < ls.length) : (ls.take (i + 1)).flatten = (ls.take i).flatten ++ ls[i] := by
  rw [List.take_succ_eq_append_getElem h, List.flatten_append]
  simp
theorem implJoin_loop (x : S41) (ls : List (List S41)) (hl : ls.length ≤ 1048576) (ht : tot ls ≤ 1048576) (d : Nat) : ∀ (i : Nat), i ≤ ls.length → ls.length - i = d →
    Ev (fun k => impl_join.l0 k ls (ls.take i).flatten ls (ls.length : Int) i x.f0 x.f1 x.f2 x.f3 x.f4) (joinL x ls) := by
  induction d with
  | zero =>
    intro i hi hd
    obtain rfl : i = ls.length := by omega
    have hn : ¬ ((ls.length : Int) < (ls.length : Int)) := by omega
    have hb : ls.flatten.length < 2932031007402 := by rw [tot_flat]; omega
    refine Ev.step (f := fun _ => some (joinL x ls)) (fun k => ?_) (Ev.now _)
    rw [impl_join.l0, if_neg hn, List.take_length, if_pos hb]
    rfl
  | succ d ih =>
    intro i hi hd
    have hlt : i < ls.length := by omega
    have hc : (i : Int) < (ls.length : Int) := by omega
    have hc0 : (0 : Int) ≤ (i : Int) := by omega
    have h1 := tot_take ls i hlt
    have h2 := tot_take_le ls (i + 1)
    have hb : (ls.take i).flatten.length + ls[i].length < 2932031007402 := by rw [tot_flat]; omega
    refine Ev.step (fun k => ?_) (ih (i + 1) (by omega) (by omega))
    rw [impl_join.l0, if_pos hc, if_pos hc0, if_pos hc, rdL7 ls i hlt, if_pos hb, wrap_succ hlt (by omega), flat_take ls i hlt]
theorem implJoin_ev (x : S41) (ls : List (List S41)) (hl : ls.length ≤ 1048576) (ht : tot ls ≤ 1048576) : Ev (fun k => impl_Join.f k x.f0 x.f1 x.f2 x.f3 x.f4 ls) (joinL x ls) :=
  Ev.bind (implJoin_loop x ls hl ht _ 0 (Nat.zero_le _) rfl) (Ev.now _)
theorem specJoin_in (x : S41) (ls : List (List S41)) (hl : ls.length ≤ 1048576) (ht : tot ls ≤ 1048576) (i : Nat) (hlt : i < ls.length)
    (hnext : Ev (fun k => spec_Join.l0 k ls (ls.take (i + 1)).flatten ((i + 1 : Nat) : Int) x.f0 x.f1 x.f2 x.f3 x.f4) (joinL x ls)) (d : Nat) : ∀ (j : Nat), j ≤ ls[i].length → ls[i].length - j = d →
    Ev (fun k => spec_Join.l1 k ls ((ls.take i).flatten ++ ls[i].take j) i j x.f0 x.f1 x.f2 x.f3 x.f4) (joinL x ls) := by
  have hc : (i : Int) < (ls.length : Int) := by omega
  have hc0 : (0 : Int) ≤ (i : Int) := by omega
  have h1 := tot_take ls i hlt
  have h2 := tot_take_le ls (i + 1)
  induction d with
  | zero =>
    intro j hj hd
    obtain rfl : j = ls[i].length := by omega
    have hn : ¬ ((ls[i].length : Int) < (ls[i].length : Int)) := by omega
    refine Ev.step (fun k => ?_) hnext
    rw [spec_Join.l1, if_pos hc0, if_pos hc, rdL7 ls i hlt, if_neg hn, List.take_length, wrap_succ hlt (by omega), flat_take ls i hlt]
  | succ d ih =>
    intro j hj hd
    have hjlt : j < ls[i].length := by omega
    have hjc : (j : Int) < (ls[i].length : Int) := by omega
    have hjc0 : (0 : Int) ≤ (j : Int) := by omega
    have hx : rd_T41 ls[i] (j : Int) = ls[i][j] := by simp [rd_T41, List.getD_eq_getElem?_getD, hjlt]
    have hb : ((ls.take i).flatten ++ ls[i].take j).length < 2932031007402 := by rw [List.length_append, tot_flat, List.length_take]; omega
    refine Ev.step (fun k => ?_) (ih (j + 1) (by omega) (by omega))
    rw [spec_Join.l1, if_pos hc0, if_pos hc, rdL7 ls i hlt, if_pos hjc, if_pos hjc0, if_pos hb, hx, wrap_succ hjlt (by omega), List.take_succ_eq_append_getElem hjlt, List.append_assoc]
theorem specJoin_loop (x : S41) (ls : List (List S41)) (hl : ls.length ≤ 1048576) (ht : tot ls ≤ 1048576) (d : Nat) : ∀ (i : Nat), i ≤ ls.length → ls.length - i = d →
    Ev (fun k => spec_Join.l0 k ls (ls.take i).flatten i x.f0 x.f1 x.f2 x.f3 x.f4) (joinL x ls) := by
  induction d with
  | zero =>
    intro i hi hd
    obtain rfl : i = ls.length := by omega
    have hn : ¬ ((ls.length : Int) < (ls.length : Int)) := by omega
    have hb : ls.flatten.length < 2932031007402 := by rw [tot_flat]; omega
    refine Ev.step (f := fun _ => some (joinL x ls)) (fun k => ?_) (Ev.now _)
    rw [spec_Join.l0, if_neg hn, List.take_length, if_pos hb]
    rfl
  | succ d ih =>
    intro i hi hd
    have hlt : i < ls.length := by omega
    have hc : (i : Int) < (ls.length : Int) := by omega
    have hin := specJoin_in x ls hl ht i hlt (ih (i + 1) (by omega) (by omega)) _ 0 (Nat.zero_le _) rfl
    rw [List.take_zero, List.append_nil] at hin
    refine Ev.step (fun k => ?_) hin
    rw [spec_Join.l0, if_pos hc]
    rfl
theorem specJoin_ev (x : S41) (ls : List (List S41)) (hl : ls.length ≤ 1048576) (ht : tot ls ≤ 1048576) : Ev (fun k => spec_Join.f k x.f0 x.f1 x.f2 x.f3 x.f4 ls) (joinL x ls) :=
  specJoin_loop x ls hl ht _ 0 (Nat.zero_le _) rfl
end Go.Proofs.Ytoioineibfldcaa.K
end

section
/-
  laws.markNodeSS (function 29) marks each row of a row of rows where it lies; what is neither of these rows nor new stays. Conditions: the marks stay below 900000000, at most 1048576 rows.
-/
set_option linter.unusedVariables false
namespace Go.Proofs.Ytoioineibfldcaa.K
open Go.RowKit Go.Proofs.YtoioineibfldcaaW.PrintWords Go.Proofs.YtoioineibfldcaaW.PrintLast Go.Proofs.YtoioineibfldcaaW.PrintMore
set_option maxRecDepth 100000
set_option maxHeartbeats 2000000

theorem mkss_step (a : Int) (ls : List (List S41)) (i : Nat) (h : i < ls.length) :
    ((mkss a ls).take i ++ ls.drop i).set i (mks (a + 5 * (tot (ls.take i) : Int)) ls[i].length) = (mkss a ls).take (i + 1) ++ ls.drop (i + 1) := by
  have h1 : ((mkss a ls).take i).length = i := by rw [List.length_take, mkss_len]; omega
  rw [List.set_append_right _ _ (by omega), h1, Nat.sub_self, List.drop_eq_getElem_cons h, List.set_cons_zero, List.take_succ_eq_append_getElem (by rw [mkss_len]; exact h), mkss_get a ls i h, List.append_assoc]
  rfl

theorem markNodeSS.calls (v : Value) (ls : List (List S41)) (a : Int) (w0 wm w : World) (ha : 0 ≤ a) (hn : a + 5 * tot ls ≤ 900000000) (hl : ls.length ≤ 1048576)
    (hB0 : Below w0.heap.size w0 wm) (hBm : Below wm.heap.size wm w) (hr : RR wm w0.heap.size v ls) :
    Calls Try.prog 29 #[v, .int .i64 a] w fun e w' => e = .returned (.int .i64 (a + 5 * tot ls)) ∧ RR w' w0.heap.size v (mkss a ls) ∧ Kept w w' (fun k => w0.heap.size ≤ k ∧ k < wm.heap.size) ∧ Below w0.heap.size w0 w' := by
  have HRM := Aside0.mk hr
  have HBM := Aside0.mk hBm
  have HRW := Aside0.mk (hr.below hBm)
  have HB0 := Aside0.mk (hB0.trans (hBm.mono hB0.size))
  obtain ⟨A, c, rfl, hc⟩ := hr.slice
  clear hr hB0 hBm
  go_enter Try.func29, Try.ntmps29
  go_wp2
  go_loopw [1, 5] (fun v1 v5 wr => ∃ (i : Nat), v5 = .int .i64 i ∧ v1 = .int .i64 (a + 5 * (tot (ls.take i) : Int)) ∧ i ≤ ls.length ∧ Aside0 (RR wr w0.heap.size (.slice A ls.length c) ((mkss a ls).take i ++ ls.drop i)) ∧ Aside0 (Kept w wr (fun k => w0.heap.size ≤ k ∧ k < wm.heap.size)) ∧ Aside0 (Below w0.heap.size w0 wr) ∧
    Aside0 (∀ k, (Value.slice A ls.length c).ownBlock = some k → wr.heap[k]? = wm.heap[k]?)) (fun _ i _ => ls.length - (intOf i).toNat)
  case atStart =>
    refine ⟨0, rfl, by simp [tot], Nat.zero_le _, ⟨by simpa using HRW.out⟩, ⟨Kept.refl _ _⟩, HB0, ⟨fun k hk => HBM.out.block k (HRM.out.blocks k hk).2.1⟩⟩
  case round =>
    obtain ⟨i, rfl, rfl, hi, HRR, HK, HB, HO⟩ := hrel
    by_cases hlt : i < ls.length
    · have hlen : ((mkss a ls).take i ++ ls.drop i).length = ls.length := by rw [List.length_append, List.length_take, List.length_drop, mkss_len]; omega
      obtain ⟨g, cg, hv, hcg, _⟩ := HRM.out.form (by omega)
      cases hv
      obtain ⟨u, hcu, hnu⟩ := RR.cell (c := c) (g := g) (j := i) (by rw [hlen]; exact HRR.out) (by rw [hlen]; exact hlt)
      have hrow : ((mkss a ls).take i ++ ls.drop i)[i]'(by rw [hlen]; exact hlt) = ls[i] := by
        rw [List.getElem_append_right (by rw [List.length_take, mkss_len]; omega)]
        have e : i + (i - min i ls.length) = i := by omega
        simp [mkss_len, e]
      rw [hrow] at hnu
      have h1 := tot_take ls i hlt
      have h2 := tot_take_le ls (i + 1)
      obtain ⟨b, hb⟩ : ∃ b : Int, b = a + 5 * (tot (ls.take i) : Int) := ⟨_, rfl⟩
      rw [← hb]
      have hnext : b + 5 * (ls[i].length : Int) = a + 5 * (tot (ls.take (i + 1)) : Int) := by omega
      obtain ⟨k1, hk1⟩ := (mark_ev ls[i] b (by omega) (by omega)).rounds
      have HKK := Aside0.mk hk1
      have HNU := Aside0.mk hnu
      obtain ⟨Au, cu, rfl⟩ := Kd.R_slice hnu
      have HCU := Aside0.mk hcu
      have hbd : ∀ k, (Value.slice Au ls[i].length cu).ownBlock = some k → w0.heap.size ≤ k ∧ k < wm.heap.size := fun k hk => by
        obtain ⟨u2, hc2, hn2⟩ := RR.cell (c := c) (g := g) (j := i) HRM.out hlt
        have : wr.cell? ⟨g, i, none⟩ = wm.cell? ⟨g, i, none⟩ := World.cell?_of_block (HO.out g (by simp [Value.ownBlock]))
        rw [this, hc2] at hcu
        cases hcu
        have := NR_blk hn2 k hk
        exact ⟨this.1, this.2.1⟩
      have HBD := Aside0.mk hbd
      have HBE := Aside0.mk hb
      have HNX := Aside0.mk hnext
      clear hbd hnu hk1 hb hnext
      go_wp2_with (go_at_call 30; refine (laws_markNodeS.calls k1 (fun k => some k = (Value.slice Au ls[i].length cu).ownBlock) _ ls[i] b _ _ w0 _ HB.out (NR_tight HNU.out) HKK.out).mono ?_; rintro e w5 ⟨rfl, hu, hb5, hk5⟩; have HU := Aside0.mk hu; have HB5 := Aside0.mk hb5; have HK5 := Aside0.mk hk5; clear hu hb5 hk5)
      go_roundw
      case rel =>
        refine ⟨i + 1, by go_num, by rw [← HNX.out], by omega, ⟨?_⟩, ⟨HK.out.then_ HK5.out (fun k hk => .inl (HBD.out k hk.symm))⟩, HB5, ⟨fun k hk => ?_⟩⟩
        · have ht := RR.turn (g := g) (c := c) (j := i) (l' := mks b ls[i].length) (w1 := w5) (by rw [hlen]; exact HRR.out) (by rw [hlen]; exact hlt) HCU.out HK5.out (Kd.R_mono HU.out (fun _ _ => trivial))
          rw [hlen, HBE.out, mkss_step a ls i hlt] at ht
          exact ht
        · have hg2 := (HRR.out.blocks k hk)
          refine (HK5.out.2 k hg2.2.1 (fun he => ?_)).trans (HO.out k hk)
          obtain ⟨_, _, c1, hc1⟩ := NR_blk HNU.out k he.symm
          obtain ⟨_, _, c2, hc2⟩ := hg2
          rw [hc1] at hc2
          injection hc2 with hc2
          injection hc2 with _ hc2
          cases hc2
      case measure => simp [intOf]; omega
    · obtain rfl : i = ls.length := by omega
      go_wp2
      go_ret
      refine ⟨by first | rfl | simp, ?_, HK.out, HB.out⟩
      have := HRR.out
      rw [List.drop_length, List.append_nil, List.take_of_length_le (by rw [mkss_len]; exact Nat.le_refl _)] at this
      exact this
end Go.Proofs.Ytoioineibfldcaa.K
end

section
/-
  laws.toNodeSS (function 26) hands back, in new memory, the rows turned to the program's nodes, each row apart. Condition: at most 1048576 rows of at most 1048576 nodes.
-/
set_option linter.unusedVariables false
namespace Go.Proofs.Ytoioineibfldcaa.K
open Go.RowKit Go.Proofs.YtoioineibfldcaaW.PrintWords Go.Proofs.YtoioineibfldcaaW.PrintLast Go.Proofs.YtoioineibfldcaaW.PrintMore
set_option maxRecDepth 100000
set_option maxHeartbeats 2000000

/-- A cell that is a slice of no elements. -/
def kN : Kd Unit := Kd.scalar (fun _ => Value.slice none 0 0) (fun _ => rfl)
theorem RR.made {w : World} {base n : Nat} {v : Value} (h : kN.R 26 w base (fun _ => True) v (List.replicate n ())) : RR w base v (List.replicate n []) := by
  have ho := Kd.own_of_R h
  rw [List.length_replicate] at ho
  refine ⟨List.replicate n (Value.slice none 0 0), by simp, by simpa [encs] using ho, fun j u l hu hl => ?_, fun i j u u' _ hu hu' k hk => ?_⟩
  · have h1 := List.mem_of_getElem? hu
    have h2 := List.mem_of_getElem? hl
    rw [List.eq_of_mem_replicate h1, List.eq_of_mem_replicate h2]
    exact Kd.R_nil _ _ _ _ _
  · have h1 := List.mem_of_getElem? hu
    rw [List.eq_of_mem_replicate h1] at hk
    simp [Value.ownBlock] at hk

theorem toNodeSS.calls (A0 : Option Addr) (c0 : Nat) (l0 : List (List S36)) (w : World) (hr0 : Kd.C (Kd.slice 36 k36) w A0 l0.length l0) (hc0 : l0.length ≤ c0) (hl : l0.length ≤ 1048576) (hls : ∀ l ∈ l0, l.length ≤ 1048576) :
    Calls Try.prog 26 #[.slice A0 l0.length c0] w fun e w' => ∃ v0_ : Value, e = .returned v0_ ∧ RR w' w.heap.size v0_ (l0.map (·.map cv)) ∧ Below w.heap.size w w' := by
  have HR0 := Aside0.mk hr0
  have HLS := Aside0.mk hls
  clear hr0 hls
  go_enter Try.func26, Try.ntmps26
  go_wp2_with (refine Kd.R_make kN _ 26 rfl (N := 7) rfl 43 _ _ rfl (l0.length : Int) rfl rfl Try.underlying43 (.slice none 0 0) 24 (by kernel_rfl) rfl (by decide) (by omega) () (ok := fun _ => True) (okp := fun _ => True) rfl (fun _ hk => hk) trivial (by omega) (by omega) (Below.refl _ _) (Nat.le_refl _) ?_; intro v122 w4 ho5 hb hg_ hnew_; rw [Int.toNat_natCast] at ho5; have HRR := Aside0.mk (RR.made ho5); have HB := Aside0.mk hb; clear hg_ hnew_ ho5 hb)
  go_loopw [4] (fun v4 wr => ∃ (i : Nat), v4 = .int .i64 i ∧ i ≤ l0.length ∧ Aside0 (RR wr w.heap.size v122 ((l0.take i).map (·.map cv) ++ List.replicate (l0.length - i) [])) ∧ Aside0 (Below w.heap.size w wr)) (fun i _ => l0.length - (intOf i).toNat)
  case atStart => exact ⟨0, rfl, Nat.zero_le _, ⟨by simpa using HRR.out⟩, HB⟩
  case round =>
    obtain ⟨i, rfl, hi, HRR, HB⟩ := hrel
    by_cases hlt : i < l0.length
    · obtain ⟨ad, A1, c1, rfl, hx, hc1, hr1⟩ := at_L6 HR0.out (i : Int) (by omega) (by omega)
      have hli : rd_L6 l0 (i : Int) = l0[i] := by simp [rd_L6, List.getD_eq_getElem?_getD, hlt]
      rw [hli] at hx hc1 hr1
      rw [Int.toNat_natCast] at hx
      replace hx := (HB.out.cell (World.block_lt_of_cell? w _ hx)).trans hx
      have HR1 := Aside0.mk (Kd.C_below hr1 HB.out)
      clear hr1
      have hlen : ((l0.take i).map (·.map cv) ++ List.replicate (l0.length - i) ([] : List S41)).length = l0.length := by simp; omega
      obtain ⟨k1, hk1⟩ := (toNodeS_ev l0[i] (by have := HLS.out _ (List.getElem_mem hlt); omega)).rounds
      have HK1 := Aside0.mk hk1
      obtain ⟨g, cg, hv, hcg, hbg, hgs⟩ := HRR.out.form (by omega)
      rw [hlen] at hv hcg
      subst hv
      go_wp2_with (go_at_call 13; refine (laws_toNodeS.calls k1 _ _ l0[i] _ _ HR1.out hc1 HK1.out).mono ?_; rintro e w5 ⟨u, rfl, hu, hb5⟩; obtain ⟨Au, cu, rfl⟩ := Kd.R_slice hu; have HU := Aside0.mk hu; have HB5 := Aside0.mk hb5; have hrr5 := HRR.out.below hb5; obtain ⟨u0, hcu, _⟩ := RR.cell (j := i) (by rw [hlen]; exact hrr5) (by rw [hlen]; exact hlt); have hfr := hrr5.frozen i; have HRR5 := Aside0.mk hrr5; clear hu hb5 hrr5)
      go_roundw
      case rel =>
        refine ⟨i + 1, by go_num, by omega, ⟨?_⟩, ⟨?_⟩⟩
        · have hst := RR.store (c := cg) (g := g) (j := i) (l' := l0[i].map cv) (u := .slice Au (l0[i].map cv).length cu) (w := w5) (base := w.heap.size) (by rw [hlen]; exact HRR5.out) (by rw [hlen]; exact hlt) (Kd.R_lower HU.out HB.out.size) ?_
          · rw [hlen, List.length_map] at hst
            have he : ((l0.take i).map (·.map cv) ++ List.replicate (l0.length - i) ([] : List S41)).set i (l0[i].map cv) = (l0.take (i + 1)).map (·.map cv) ++ List.replicate (l0.length - (i + 1)) [] := by
              rw [List.set_append_right _ _ (by simp; omega)]
              have h1 : l0.length - i = (l0.length - (i + 1)) + 1 := by omega
              have h2 : i - ((l0.take i).map (·.map cv)).length = 0 := by simp; omega
              rw [h1, h2, List.replicate_succ, List.set_cons_zero, List.take_succ_eq_append_getElem hlt, List.map_append, List.append_assoc]
              rfl
            rw [he] at hst
            exact hst
          · intro k hk j u' hne hjl hcj he
            have hge := (NR_blk HU.out k hk).1
            obtain ⟨u2, hc2, hn2⟩ := RR.cell (c := cg) (g := g) (j := j) (by rw [hlen]; exact HRR.out) hjl
            have hc3 := (HB5.out.cell (World.block_lt_of_cell? wr _ hc2)).trans hc2
            rw [hc3] at hcj
            cases hcj
            have := (NR_blk hn2 k he).2.1
            omega
        · exact (HB.out.trans (HB5.out.mono HB.out.size)).setCell (p := ⟨g, i, none⟩) hbg _
      case measure => simp [intOf]; omega
    · obtain rfl : i = l0.length := by omega
      go_wp2
      go_ret
      refine ⟨_, rfl, ?_, HB.out⟩
      simpa using HRR.out
end Go.Proofs.Ytoioineibfldcaa.K
end

section
/-
  laws.FnExactJoin (function 8) walked: it returns true, and writes only into what it made. Condition: none (szNode and szNodeSS let only small arguments through).
-/
set_option linter.unusedVariables false
namespace Go.Proofs.Ytoioineibfldcaa.K
open Go.RowKit Go.Proofs.YtoioineibfldcaaW.PrintWords Go.Proofs.YtoioineibfldcaaW.PrintLast Go.Proofs.YtoioineibfldcaaW.PrintMore
set_option maxRecDepth 100000
set_option maxHeartbeats 4000000

theorem toNode_is (s : S36) : laws_toNode.f s.f0 s.f1 s.f2 s.f3 s.f4 = some (s.f0, s.f1, s.f2, s.f3, s.f4) := rfl
section
variable {w w1 : World} {base : Nat} {A : Option Addr} {n c : Nat} {l : List S41} {ls : List (List S41)}
theorem RRC (h : RR w base (.slice A n c) ls) : Kd.C kL w A ls.length ls := by
  obtain ⟨A', c', e, _, h2⟩ := h.reads
  cases e
  exact h2
theorem NRC (h : NR w base (.slice A n c) l) : Kd.C k41 w A l.length l := (Kd.R_reads' h).2.2
theorem NR_below (h : NR w base (.slice A n c) l) (hb : Below w.heap.size w w1) : NR w1 base (.slice A n c) l := Kd.R_below h hb
/-- A row over a call that keeps all but S. -/
theorem NR_kept {S : Nat → Prop} {u : Value} (h : NR w base u l) (hk : Kept w w1 S) (hn : ∀ k, u.ownBlock = some k → ¬ S k) : NR w1 base u l :=
  NR_keep h (fun k hkk => hk.2 k (NR_blk h k hkk).2.1 (hn k hkk))
theorem NR_in {u : Value} (h : NR w base u l) : ∀ k, u.ownBlock = some k → base ≤ k ∧ k < w.heap.size := fun k hk => ⟨(NR_blk h k hk).1, (NR_blk h k hk).2.1⟩
end
theorem held_calls (k : Nat) (A0 : Option Addr) (n c0 : Nat) (l0 : List S41) (a1 r : Int) (w : World) (hn : n = l0.length) (hr0 : Kd.C k41 w A0 l0.length l0) (hc0 : n ≤ c0) (h : laws_heldNodeS.f k l0 a1 = some r) :
    Calls Try.prog 31 #[.slice A0 n c0, .int .i64 a1] w fun e w' => e = .returned (.int .i64 r) ∧ Below w.heap.size w w' := by
  subst hn
  exact laws_heldNodeS.calls k A0 c0 l0 a1 r w hr0 hc0 h
theorem markSS_calls (v : Value) (ls : List (List S41)) (a m : Int) (w0 wm w : World) (hm : m = a + 5 * tot ls) (ha : 0 ≤ a) (hn : a + 5 * tot ls ≤ 900000000) (hl : ls.length ≤ 1048576)
    (hB0 : Below w0.heap.size w0 wm) (hBm : Below wm.heap.size wm w) (hr : RR wm w0.heap.size v ls) :
    Calls Try.prog 29 #[v, .int .i64 a] w fun e w' => e = .returned (.int .i64 m) ∧ RR w' w0.heap.size v (mkss a ls) ∧ Kept w w' (fun k => w0.heap.size ≤ k ∧ k < wm.heap.size) ∧ Below w0.heap.size w0 w' := by
  subst hm
  exact markNodeSS.calls v ls a w0 wm w ha hn hl hB0 hBm hr
theorem mark_calls (k : Nat) (v : Value) (l : List S41) (r1 : Int) (r2 : List S41) (w0 w : World) (hB : Below w0.heap.size w0 w) (ho : NR w w0.heap.size v l) (h : laws_markNodeS.f k l 1 = some (r1, r2)) :
    Calls Try.prog 30 #[v, .int .i64 1] w fun e w' => e = .returned (.int .i64 r1) ∧ NR w' w0.heap.size v r2 ∧ Below w0.heap.size w0 w' ∧ Kept w w' (fun k => some k = v.ownBlock) :=
  (laws_markNodeS.calls k (fun k => some k = v.ownBlock) v l 1 r1 r2 w0 w hB (NR_tight ho) h).mono (fun e w' ⟨h1, h2, h3, h4⟩ => ⟨h1, Kd.R_mono h2 (fun _ _ => trivial), h3, h4⟩)
theorem toSS_calls (A0 : Option Addr) (c0 : Nat) (l0 : List (List S36)) (L : List (List S41)) (hL : L = l0.map (·.map cv)) (w : World) (hr0 : Kd.C (Kd.slice 36 k36) w A0 l0.length l0) (hc0 : l0.length ≤ c0) (hl : l0.length ≤ 1048576) (hls : ∀ l ∈ l0, l.length ≤ 1048576) :
    Calls Try.prog 26 #[.slice A0 l0.length c0] w fun e w' => ∃ A c, e = .returned (.slice A L.length c) ∧ L.length ≤ c ∧ RR w' w.heap.size (.slice A L.length c) L ∧ Below w.heap.size w w' := by
  subst hL
  exact (toNodeSS.calls A0 c0 l0 w hr0 hc0 hl hls).mono (fun e w' ⟨v, h1, h2, h3⟩ => by
    obtain ⟨A, c, rfl, hc⟩ := h2.slice
    exact ⟨A, c, h1, hc, h2, h3⟩)
theorem specJoin_calls (k : Nat) (s : S36) (A1 : Option Addr) (c1 : Nat) (l1 : List (List S41)) (r : List S41) (w : World) (hr1 : Kd.C kL w A1 l1.length l1) (hc1 : l1.length ≤ c1) (h : spec_Join.f k s.f0 s.f1 s.f2 s.f3 s.f4 l1 = some r) :
    Calls Try.prog 24 #[.agg #[.int .i64 s.f0, .int .i64 s.f1, .string s.f2, .int .i64 s.f3, .int .i64 s.f4], .slice A1 l1.length c1] w fun e w' => ∃ A c, e = .returned (.slice A r.length c) ∧ r.length ≤ c ∧ NR w' w.heap.size (.slice A r.length c) r ∧ Below w.heap.size w w' :=
  (spec_Join.calls k _ _ _ _ _ A1 c1 l1 r w hr1 hc1 h).mono (fun e w' ⟨v, h1, h2, h3⟩ => by
    obtain ⟨A, c, rfl, hc, _⟩ := Kd.R_reads h2
    exact ⟨A, c, h1, hc, h2, h3⟩)
theorem implJoin_calls (k : Nat) (s : S36) (A1 : Option Addr) (c1 : Nat) (l1 : List (List S41)) (r : List S41) (w : World) (hr1 : Kd.C kL w A1 l1.length l1) (hc1 : l1.length ≤ c1) (h : impl_Join.f k s.f0 s.f1 s.f2 s.f3 s.f4 l1 = some r) :
    Calls Try.prog 27 #[.agg #[.int .i64 s.f0, .int .i64 s.f1, .string s.f2, .int .i64 s.f3, .int .i64 s.f4], .slice A1 l1.length c1] w fun e w' => ∃ A c, e = .returned (.slice A r.length c) ∧ r.length ≤ c ∧ NR w' w.heap.size (.slice A r.length c) r ∧ Below w.heap.size w w' :=
  (impl_Join.calls k _ _ _ _ _ A1 c1 l1 r w hr1 hc1 h).mono (fun e w' ⟨v, h1, h2, h3⟩ => by
    obtain ⟨A, c, rfl, hc, _⟩ := Kd.R_reads h2
    exact ⟨A, c, h1, hc, h2, h3⟩)

theorem laws_FnExactJoin.calls (s : S36) (A1 : Option Addr) (c1 : Nat) (ls : List (List S36)) (w : World) (hr1 : Kd.C (Kd.slice 36 k36) w A1 ls.length ls) (hc1 : ls.length ≤ c1)
    (hs : s.f2.size ≤ 9223372036854775807) (hls : ∀ l ∈ ls, l.length ≤ 9223372036854775807 ∧ ∀ s ∈ l, s.f2.size ≤ 9223372036854775807) :
    Calls Try.prog 8 #[.agg #[.int .i64 s.f0, .int .i64 s.f1, .string s.f2, .int .i64 s.f3, .int .i64 s.f4], .slice A1 ls.length c1] w fun e w' => e = .returned (.bool true) ∧ Below w.heap.size w w' := by
  obtain ⟨r1, hz1, hz2, hz3⟩ := szNode_tells s 1048576 (by omega) (by omega) hs
  have HZ1 := Aside0.mk hz1
  clear hz1
  have HR0 := Aside0.mk hr1
  have hlen0 := hr1.2.1
  clear hr1
  have HBo := Aside0.mk ((Below.refl w.heap.size w).alloc (Nat.le_refl _) (.cells #[.int .i64 s.f0, .int .i64 s.f1, .string s.f2, .int .i64 s.f3, .int .i64 s.f4] 36))
  have BKo : Aside0 (Blk (w.alloc (.cells #[.int .i64 s.f0, .int .i64 s.f1, .string s.f2, .int .i64 s.f3, .int .i64 s.f4] 36)) w.heap.size 36 #[.int .i64 s.f0, .int .i64 s.f1, .string s.f2, .int .i64 s.f3, .int .i64 s.f4]) := ⟨Blk.new w 36 _⟩
  by_cases hn1 : r1 < 0
  · go_enter Try.func8, Try.ntmps8
    go_wp2_with (go_at_call 22; refine (laws_szNode.calls _ _ _ _ _ _ r1 _ HZ1.out).mono ?_; rintro e w5 ⟨rfl, hb5⟩; have HB5 := Aside0.mk hb5; clear hb5)
    go_ret
    exact ⟨rfl, HBo.out.trans (HB5.out.mono HBo.out.size)⟩
  · obtain ⟨r2, hz4, hz5, hz6, hz7⟩ := szNodeSS_ev ls hlen0 hls r1 (by omega) (by omega)
    obtain ⟨k2, hz4⟩ := hz4.rounds
    have HZ2 := Aside0.mk hz4
    clear hz4
    by_cases hn2 : r2 < 0
    · clear hz7
      go_enter Try.func8, Try.ntmps8
      go_wp2_with (first | (go_at_call 22; refine (laws_szNode.calls _ _ _ _ _ _ r1 _ HZ1.out).mono ?_; rintro e w1 ⟨rfl, hb⟩; have HB1 := Aside0.mk (HBo.out.trans (hb.mono HBo.out.size)); clear hb) | (go_at_call 23; refine (laws_szNodeSS.calls k2 _ _ ls r1 r2 _ (Kd.C_below HR0.out HB1.out) hc1 HZ2.out).mono ?_; rintro e w2 ⟨rfl, hb⟩; have HB2 := Aside0.mk (HB1.out.trans (hb.mono HB1.out.size)); clear hb))
      go_ret
      exact ⟨rfl, HB2.out⟩
    · have hz8 := hz7 (by omega)
      clear hz7
      have hbl : ls.length ≤ 1048576 := by omega
      have HLL : Aside0 (∀ l ∈ ls, l.length ≤ 1048576) := ⟨fun l hl => by have := tot_mem ls l hl; omega⟩
      obtain ⟨L, hL⟩ : ∃ L, L = ls.map (·.map cv) := ⟨_, rfl⟩
      have htl : tot L ≤ 1048576 := by
        have : tot L = tot ls := by rw [hL, tot, tot, List.map_map]; congr 1; apply List.map_congr_left; intro x _; simp
        omega
      have hll : L.length ≤ 1048576 := by rw [hL, List.length_map]; omega
      obtain ⟨J, hJ⟩ : ∃ J, J = joinL (cv s) L := ⟨_, rfl⟩
      have hjl : J.length ≤ 1048577 := by rw [hJ, joinL, List.length_append, tot_flat]; simp; omega
      obtain ⟨kG, hkG⟩ : ∃ k, spec_Join.f k s.f0 s.f1 s.f2 s.f3 s.f4 L = some J := by rw [hJ]; exact (specJoin_ev (cv s) L hll htl).rounds
      obtain ⟨kH, hkH⟩ : ∃ k, impl_Join.f k s.f0 s.f1 s.f2 s.f3 s.f4 L = some J := by rw [hJ]; exact (implJoin_ev (cv s) L hll htl).rounds
      obtain ⟨kE, hkE⟩ := (eqNodeS_ev J (by omega)).rounds
      obtain ⟨kF, hkF⟩ := (eqNodeSS_ev L (by omega) (fun x hx => by have := tot_mem L x hx; omega)).rounds
      obtain ⟨kM, hkM⟩ := (mark_ev J 1 (by omega) (by omega)).rounds
      obtain ⟨kD, hkD⟩ := (held_ev 1 J.length (by omega) (by omega)).rounds
      obtain ⟨M, hM⟩ : ∃ M, M = mks 1 J.length := ⟨_, rfl⟩
      obtain ⟨m2, hm2⟩ : ∃ m2 : Int, m2 = 1 + 5 * (J.length : Int) := ⟨_, rfl⟩
      obtain ⟨m1, hm1⟩ : ∃ m1 : Int, m1 = 1 + 5 * (tot L : Int) := ⟨_, rfl⟩
      have hml : J.length = M.length := by rw [hM, mks_len]
      rw [← hM, ← hm2] at hkM hkD
      have hm10 : ¬ m1 < 0 := by omega
      have hm20 : ¬ m2 < 0 := by omega
      have KG := Aside0.mk hkG
      have KH := Aside0.mk hkH
      have KE := Aside0.mk hkE
      have KF := Aside0.mk hkF
      have KM := Aside0.mk hkM
      have KD := Aside0.mk hkD
      have HLQ := Aside0.mk hL
      have HM1 := Aside0.mk hm1
      have HML := Aside0.mk hml
      have HLB := Aside0.mk hbl
      have HTL : Aside0 ((1 : Int) + 5 * tot L ≤ 900000000) := ⟨by omega⟩
      have HLE := Aside0.mk hll
      have HTM : Aside0 ((1 : Int) ≤ 1) := ⟨by omega⟩
      clear hkG hkH hkE hkF hkM hkD hL hm1 hm2 hml hM hJ htl hll hbl hjl hz8 hz5 hz6 hz2 hz3 hlen0
      go_enter Try.func8, Try.ntmps8
      go_upto_region 5 with (first | (go_at_call 22; refine (laws_szNode.calls _ _ _ _ _ _ r1 _ HZ1.out).mono ?_; rintro e w1 ⟨rfl, hb⟩; have HB1 := Aside0.mk (HBo.out.trans (hb.mono HBo.out.size)); have HL1 := Aside0.mk hb; have BK1 : Aside0 (Blk w1 w.heap.size 36 #[.int .i64 s.f0, .int .i64 s.f1, .string s.f2, .int .i64 s.f3, .int .i64 s.f4]) := ⟨(hb.block _ BKo.out.lt).trans BKo.out⟩; (try clear hb); (try clear hv); (try clear hk)))
      go_upto_region 8 with (first | (go_at_call 23; refine (laws_szNodeSS.calls k2 _ _ ls r1 r2 _ (Kd.C_below HR0.out HB1.out) hc1 HZ2.out).mono ?_; rintro e w2 ⟨rfl, hb⟩; have HB2 := Aside0.mk (HB1.out.trans (hb.mono HB1.out.size)); have HL2 := Aside0.mk hb; have BK2 : Aside0 (Blk w2 w.heap.size 36 #[.int .i64 s.f0, .int .i64 s.f1, .string s.f2, .int .i64 s.f3, .int .i64 s.f4]) := ⟨(hb.block _ BK1.out.lt).trans BK1.out⟩; have z0 := BK2.out.cell 0; have z1 := BK2.out.cell 1; have z2 := BK2.out.cell 2; have z3 := BK2.out.cell 3; have z4 := BK2.out.cell 4; (simp only [List.getElem?_toArray, List.getElem?_cons_zero, List.getElem?_cons_succ] at z0 z1 z2 z3 z4); (try clear hb); (try clear hv); (try clear hk)))
      go_upto_region 9 with (first | (go_at_call 25; refine (laws_toNode.calls s.f0 s.f1 s.f2 s.f3 s.f4 _ _ _ _ _ _ (toNode_is s)).mono ?_; rintro e w3 ⟨rfl, hb⟩; have HB3 := Aside0.mk (HB2.out.trans (hb.mono HB2.out.size)); have HL3 := Aside0.mk hb; have BK3 : Aside0 (Blk w3 w.heap.size 36 #[.int .i64 s.f0, .int .i64 s.f1, .string s.f2, .int .i64 s.f3, .int .i64 s.f4]) := ⟨(hb.block _ BK2.out.lt).trans BK2.out⟩; (try clear hb); (try clear hv); (try clear hk)) | (go_at_call 26; refine (toSS_calls _ _ ls L HLQ.out _ (Kd.C_below HR0.out HB3.out) hc1 HLB.out HLL.out).mono ?_; rintro e w4 ⟨AX, cX, rfl, hcX, hv, hb⟩; have X4 := Aside0.mk hv; have HB4 := Aside0.mk (HB3.out.trans (hb.mono HB3.out.size)); have HL4 := Aside0.mk hb; have BK4 : Aside0 (Blk w4 w.heap.size 36 #[.int .i64 s.f0, .int .i64 s.f1, .string s.f2, .int .i64 s.f3, .int .i64 s.f4]) := ⟨(hb.block _ BK3.out.lt).trans BK3.out⟩; (try clear hb); (try clear hv); (try clear hk)) | (go_at_call 24; refine (specJoin_calls kG s _ _ L J _ (RRC X4.out) hcX KG.out).mono ?_; rintro e w5 ⟨AW, cW, rfl, hcW, hv, hb⟩; have W5 := Aside0.mk hv; have UW := Aside0.mk (NR_in hv); have HB5 := Aside0.mk (HB4.out.trans (hb.mono HB4.out.size)); have HL5 := Aside0.mk hb; have BK5 : Aside0 (Blk w5 w.heap.size 36 #[.int .i64 s.f0, .int .i64 s.f1, .string s.f2, .int .i64 s.f3, .int .i64 s.f4]) := ⟨(hb.block _ BK4.out.lt).trans BK4.out⟩; (try clear hb); (try clear hv); (try clear hk)))
      clear z0 z1 z2 z3 z4
      go_upto_region 10 with (first | (go_at_call 26; refine (toSS_calls _ _ ls L HLQ.out _ (Kd.C_below HR0.out HB5.out) hc1 HLB.out HLL.out).mono ?_; rintro e w6 ⟨AY, cY, rfl, hcY, hv, hb⟩; have Y6 := Aside0.mk hv; have HB6 := Aside0.mk (HB5.out.trans (hb.mono HB5.out.size)); have HL6 := Aside0.mk hb; have BK6 : Aside0 (Blk w6 w.heap.size 36 #[.int .i64 s.f0, .int .i64 s.f1, .string s.f2, .int .i64 s.f3, .int .i64 s.f4]) := ⟨(hb.block _ BK5.out.lt).trans BK5.out⟩; have W6 := Aside0.mk (NR_below W5.out hb); have z0 := BK6.out.cell 0; have z1 := BK6.out.cell 1; have z2 := BK6.out.cell 2; have z3 := BK6.out.cell 3; have z4 := BK6.out.cell 4; (simp only [List.getElem?_toArray, List.getElem?_cons_zero, List.getElem?_cons_succ] at z0 z1 z2 z3 z4); (try clear hb); (try clear hv); (try clear hk)))
      go_upto_region 11 with (first | (go_at_call 25; refine (laws_toNode.calls s.f0 s.f1 s.f2 s.f3 s.f4 _ _ _ _ _ _ (toNode_is s)).mono ?_; rintro e w7 ⟨rfl, hb⟩; have HB7 := Aside0.mk (HB6.out.trans (hb.mono HB6.out.size)); have HL7 := Aside0.mk hb; have BK7 : Aside0 (Blk w7 w.heap.size 36 #[.int .i64 s.f0, .int .i64 s.f1, .string s.f2, .int .i64 s.f3, .int .i64 s.f4]) := ⟨(hb.block _ BK6.out.lt).trans BK6.out⟩; have W7 := Aside0.mk (NR_below W6.out hb); have Y7 := Aside0.mk (Y6.out.below hb); (try clear hb); (try clear hv); (try clear hk)) | (go_at_call 27; refine (implJoin_calls kH s _ _ L J _ (RRC Y7.out) hcY KH.out).mono ?_; rintro e w8 ⟨AZ, cZ, rfl, hcZ, hv, hb⟩; have Z8 := Aside0.mk hv; have UZ := Aside0.mk (NR_in hv); have HB8 := Aside0.mk (HB7.out.trans (hb.mono HB7.out.size)); have HL8 := Aside0.mk hb; have BK8 : Aside0 (Blk w8 w.heap.size 36 #[.int .i64 s.f0, .int .i64 s.f1, .string s.f2, .int .i64 s.f3, .int .i64 s.f4]) := ⟨(hb.block _ BK7.out.lt).trans BK7.out⟩; have W8 := Aside0.mk (NR_below W7.out hb); have Y8 := Aside0.mk (Y7.out.below hb); (try clear hb); (try clear hv); (try clear hk)))
      clear z0 z1 z2 z3 z4
      go_upto_region 13 with (first | (go_at_call 15; refine (laws_eqNodeS.calls kE _ _ J _ _ J true _ (NRC Z8.out) hcZ (NRC W8.out) hcW KE.out).mono ?_; rintro e w9 ⟨rfl, hb⟩; have HB9 := Aside0.mk (HB8.out.trans (hb.mono HB8.out.size)); have HL9 := Aside0.mk hb; have BK9 : Aside0 (Blk w9 w.heap.size 36 #[.int .i64 s.f0, .int .i64 s.f1, .string s.f2, .int .i64 s.f3, .int .i64 s.f4]) := ⟨(hb.block _ BK8.out.lt).trans BK8.out⟩; have W9 := Aside0.mk (NR_below W8.out hb); have Y9 := Aside0.mk (Y8.out.below hb); have Z9 := Aside0.mk (NR_below Z8.out hb); (try clear hb); (try clear hv); (try clear hk)))
      go_upto_region 15 with (first | (go_at_call 26; refine (toSS_calls _ _ ls L HLQ.out _ (Kd.C_below HR0.out HB9.out) hc1 HLB.out HLL.out).mono ?_; rintro e w10 ⟨AV, cV, rfl, hcV, hv, hb⟩; have V10 := Aside0.mk hv; have HB10 := Aside0.mk (HB9.out.trans (hb.mono HB9.out.size)); have HL10 := Aside0.mk hb; have BK10 : Aside0 (Blk w10 w.heap.size 36 #[.int .i64 s.f0, .int .i64 s.f1, .string s.f2, .int .i64 s.f3, .int .i64 s.f4]) := ⟨(hb.block _ BK9.out.lt).trans BK9.out⟩; have W10 := Aside0.mk (NR_below W9.out hb); have Y10 := Aside0.mk (Y9.out.below hb); have Z10 := Aside0.mk (NR_below Z9.out hb); (try clear hb); (try clear hv); (try clear hk)) | (go_at_call 28; refine (laws_eqNodeSS.calls kF _ _ L _ _ L true _ (RRC Y10.out) hcY (RRC V10.out) hcV KF.out).mono ?_; rintro e w11 ⟨rfl, hb⟩; have HB11 := Aside0.mk (HB10.out.trans (hb.mono HB10.out.size)); have HL11 := Aside0.mk hb; have BK11 : Aside0 (Blk w11 w.heap.size 36 #[.int .i64 s.f0, .int .i64 s.f1, .string s.f2, .int .i64 s.f3, .int .i64 s.f4]) := ⟨(hb.block _ BK10.out.lt).trans BK10.out⟩; have W11 := Aside0.mk (NR_below W10.out hb); have Y11 := Aside0.mk (Y10.out.below hb); have Z11 := Aside0.mk (NR_below Z10.out hb); (try clear hb); (try clear hv); (try clear hk)))
      have H611 : Aside0 (Below w6.heap.size w6 w11) := ⟨HL7.out.trans ((HL8.out.mono HL7.out.size).trans ((HL9.out.mono (Nat.le_trans HL7.out.size HL8.out.size)).trans ((HL10.out.mono (Nat.le_trans HL7.out.size (Nat.le_trans HL8.out.size HL9.out.size))).trans (HL11.out.mono (Nat.le_trans HL7.out.size (Nat.le_trans HL8.out.size (Nat.le_trans HL9.out.size HL10.out.size)))))))⟩
      have SZ : Aside0 (w.heap.size < w5.heap.size ∧ w5.heap.size ≤ w6.heap.size ∧ w6.heap.size ≤ w7.heap.size) := ⟨BK5.out.lt, HL6.out.size, HL7.out.size⟩
      go_upto_region 17 with (first | (go_at_call 29; refine (markSS_calls _ L 1 m1 w5 w6 _ HM1.out (by omega) HTL.out HLE.out HL6.out H611.out Y6.out).mono ?_; rintro e w12 ⟨rfl, hv, hk, hb⟩; have HB12 := Aside0.mk (HB5.out.trans (hb.mono HB5.out.size)); have BK12 : Aside0 (Blk w12 w.heap.size 36 #[.int .i64 s.f0, .int .i64 s.f1, .string s.f2, .int .i64 s.f3, .int .i64 s.f4]) := ⟨(hk.2 _ BK11.out.lt (fun h => by have := SZ.out; omega)).trans BK11.out⟩; have W12 := Aside0.mk (NR_kept W11.out hk (fun k hkk h => by have := UW.out k hkk; omega)); have Z12 := Aside0.mk (NR_kept Z11.out hk (fun k hkk h => by have := UZ.out k hkk; have := SZ.out; omega)); (try clear hb); (try clear hv); (try clear hk)))
      go_upto_region 19 with (first | (go_at_call 15; refine (laws_eqNodeS.calls kE _ _ J _ _ J true _ (NRC Z12.out) hcZ (NRC W12.out) hcW KE.out).mono ?_; rintro e w13 ⟨rfl, hb⟩; have HB13 := Aside0.mk (HB12.out.trans (hb.mono HB12.out.size)); have HL13 := Aside0.mk hb; have BK13 : Aside0 (Blk w13 w.heap.size 36 #[.int .i64 s.f0, .int .i64 s.f1, .string s.f2, .int .i64 s.f3, .int .i64 s.f4]) := ⟨(hb.block _ BK12.out.lt).trans BK12.out⟩; have W13 := Aside0.mk (NR_below W12.out hb); have Z13 := Aside0.mk (NR_below Z12.out hb); (try clear hb); (try clear hv); (try clear hk)))
      go_upto_region 22 with (first | (go_at_call 30; refine (mark_calls kM _ J m2 M w _ HB13.out (Kd.R_lower Z13.out (by have := SZ.out; omega)) KM.out).mono ?_; rintro e w14 ⟨rfl, hv, hb, hk⟩; have HB14 := Aside0.mk hb; have BK14 : Aside0 (Blk w14 w.heap.size 36 #[.int .i64 s.f0, .int .i64 s.f1, .string s.f2, .int .i64 s.f3, .int .i64 s.f4]) := ⟨(hk.2 _ BK13.out.lt (fun h => by have := UZ.out _ h.symm; have := SZ.out; omega)).trans BK13.out⟩; have Z14 := Aside0.mk hv; have W14 := Aside0.mk (NR_kept W13.out hk (fun k hkk h => by have := UW.out k hkk; have := UZ.out k h.symm; have := SZ.out; omega)); (try clear hb); (try clear hv); (try clear hk)))
      go_upto_region 27 with (first | (go_at_call 31; refine (held_calls kD _ _ _ M 1 m2 _ HML.out (NRC Z14.out) hcZ KD.out).mono ?_; rintro e w15 ⟨rfl, hb⟩; have HB15 := Aside0.mk (HB14.out.trans (hb.mono HB14.out.size)); have HL15 := Aside0.mk hb; have BK15 : Aside0 (Blk w15 w.heap.size 36 #[.int .i64 s.f0, .int .i64 s.f1, .string s.f2, .int .i64 s.f3, .int .i64 s.f4]) := ⟨(hb.block _ BK14.out.lt).trans BK14.out⟩; have W15 := Aside0.mk (NR_below W14.out hb); have Z15 := Aside0.mk (NR_below Z14.out hb); have z0 := BK15.out.cell 0; have z1 := BK15.out.cell 1; have z2 := BK15.out.cell 2; have z3 := BK15.out.cell 3; have z4 := BK15.out.cell 4; (simp only [List.getElem?_toArray, List.getElem?_cons_zero, List.getElem?_cons_succ] at z0 z1 z2 z3 z4); (try clear hb); (try clear hv); (try clear hk)))
      go_upto_region 28 with (first | (go_at_call 25; refine (laws_toNode.calls s.f0 s.f1 s.f2 s.f3 s.f4 _ _ _ _ _ _ (toNode_is s)).mono ?_; rintro e w16 ⟨rfl, hb⟩; have HB16 := Aside0.mk (HB15.out.trans (hb.mono HB15.out.size)); have HL16 := Aside0.mk hb; have W16 := Aside0.mk (NR_below W15.out hb); have Z16 := Aside0.mk (NR_below Z15.out hb); (try clear hb); (try clear hv); (try clear hk)) | (go_at_call 26; refine (toSS_calls _ _ ls L HLQ.out _ (Kd.C_below HR0.out HB16.out) hc1 HLB.out HLL.out).mono ?_; rintro e w17 ⟨AT, cT, rfl, hcT, hv, hb⟩; have T17 := Aside0.mk hv; have HB17 := Aside0.mk (HB16.out.trans (hb.mono HB16.out.size)); have HL17 := Aside0.mk hb; have W17 := Aside0.mk (NR_below W16.out hb); have Z17 := Aside0.mk (NR_below Z16.out hb); (try clear hb); (try clear hv); (try clear hk)) | (go_at_call 27; refine (implJoin_calls kH s _ _ L J _ (RRC T17.out) hcT KH.out).mono ?_; rintro e w18 ⟨AQ, cQ, rfl, hcQ, hv, hb⟩; have Q18 := Aside0.mk hv; have UQ := Aside0.mk (NR_in hv); have HB18 := Aside0.mk (HB17.out.trans (hb.mono HB17.out.size)); have HL18 := Aside0.mk hb; have W18 := Aside0.mk (NR_below W17.out hb); have Z18 := Aside0.mk (NR_below Z17.out hb); (try clear hb); (try clear hv); (try clear hk)))
      clear z0 z1 z2 z3 z4
      go_upto_region 31 with (first | (go_at_call 15; refine (laws_eqNodeS.calls kE _ _ J _ _ J true _ (NRC Q18.out) hcQ (NRC W18.out) hcW KE.out).mono ?_; rintro e w19 ⟨rfl, hb⟩; have HB19 := Aside0.mk (HB18.out.trans (hb.mono HB18.out.size)); have HL19 := Aside0.mk hb; have Z19 := Aside0.mk (NR_below Z18.out hb); (try clear hb); (try clear hv); (try clear hk)))
      go_wp2_with (first | (go_at_call 31; refine (held_calls kD _ _ _ M 1 m2 _ HML.out (NRC Z19.out) hcZ KD.out).mono ?_; rintro e w20 ⟨rfl, hb⟩; have HB20 := Aside0.mk (HB19.out.trans (hb.mono HB19.out.size)); have HL20 := Aside0.mk hb; (try clear hb); (try clear hv); (try clear hk)))
      go_ret
      exact ⟨rfl, HB20.out⟩
end Go.Proofs.Ytoioineibfldcaa.K
end

section
/-
  laws.FnExactKids (function 10) walked: it returns true, and writes only into what it made. Condition: none (szNodeS lets only small arguments through).
-/
set_option linter.unusedVariables false
namespace Go.Proofs.Ytoioineibfldcaa.K
open Go.RowKit Go.Proofs.YtoioineibfldcaaW.PrintWords Go.Proofs.YtoioineibfldcaaW.PrintLast Go.Proofs.YtoioineibfldcaaW.PrintMore
set_option maxRecDepth 100000
set_option maxHeartbeats 4000000

theorem tot_le (B : Nat) : ∀ (ls : List (List S41)), (∀ x ∈ ls, x.length ≤ B) → tot ls ≤ ls.length * B
  | [], _ => by simp [tot]
  | l :: ls, h => by
    rw [tot_cons, List.length_cons, Nat.succ_mul]
    have h1 := h l (by simp)
    have h2 := tot_le B ls (fun x hx => h x (List.mem_cons_of_mem _ hx))
    omega
/-- What both Kids make of a list. -/
theorem kids_both (l : List S41) (hl : l.length ≤ 2932031007402) : ∃ R : List (List S41), Ev (fun k => spec_Kids.f k l) R ∧ R.length ≤ 6000 ∧ (∀ x ∈ R, x.length ≤ 6000) ∧
    ∀ (A : Option Addr) (c : Nat) (w : World), Kd.C k41 w A l.length l → l.length ≤ c → Calls Try.prog 35 #[.slice A l.length c] w fun e w' => ∃ A c, e = .returned (.slice A R.length c) ∧ R.length ≤ c ∧ RR w' w.heap.size (.slice A R.length c) R ∧ Below w.heap.size w w' := by
  obtain ⟨b, hg1, hg2, hg3⟩ := good_cases l hl
  cases b with
  | false =>
    obtain ⟨K1, g1⟩ := hg1
    refine ⟨[], ⟨K1, fun k hk => ?_⟩, Nat.zero_le _, by simp, fun A c w hr hc => ?_⟩
    · have g1 := g1 k hk
      simp only at g1
      show spec_Kids.f k l = _
      rw [spec_Kids.f, Option.bind_some, g1, Option.bind_some, if_neg (by simp)]
    · exact (impl_Kids.no A c l w hr hc hg2).mono (fun e w' ⟨h1, h2⟩ => ⟨none, 0, h1, Nat.le_refl _, RR.nil _ _, h2⟩)
  | true =>
    obtain ⟨Y, x, o⟩ := hg3 rfl
    obtain ⟨K, es, roots, h⟩ := kidEnds l Y x o
    have hsm := o.small
    have hks := h.small
    have hlen : (kidsL l es K).length = K := by simp [kidsL]
    refine ⟨kidsL l es K, specKids_ev l Y x o K es roots h (by omega) hg1, by omega, fun y hy => ?_, fun A c w hr hc => ?_⟩
    · obtain ⟨i, _, rfl⟩ := List.mem_map.1 hy
      rw [List.length_drop, List.length_take]
      omega
    · obtain ⟨ad, rfl, _⟩ := hr.2.2 o.pos
      exact (impl_Kids.yes ad c l Y x K es roots w hr hc hg2 o h).mono (fun e w' ⟨v, h1, h2, h3⟩ => by
        obtain ⟨A, c, rfl, hc'⟩ := h2.slice
        exact ⟨A, c, h1, hc', h2, h3⟩)
theorem toS_calls (k : Nat) (A0 : Option Addr) (c0 : Nat) (l0 : List S36) (L : List S41) (w : World) (hr0 : Kd.C k36 w A0 l0.length l0) (hc0 : l0.length ≤ c0) (h : laws_toNodeS.f k l0 = some L) :
    Calls Try.prog 13 #[.slice A0 l0.length c0] w fun e w' => ∃ A c, e = .returned (.slice A L.length c) ∧ L.length ≤ c ∧ NR w' w.heap.size (.slice A L.length c) L ∧ Below w.heap.size w w' :=
  (laws_toNodeS.calls k A0 c0 l0 L w hr0 hc0 h).mono (fun e w' ⟨v, h1, h2, h3⟩ => by
    obtain ⟨A, c, rfl, hc, _⟩ := Kd.R_reads h2
    exact ⟨A, c, h1, hc, h2, h3⟩)
/-- A row of rows of which only reading is asked: its blocks lie from lo up to hi. -/
abbrev SR (w : World) (lo hi : Nat) (v : Value) (ls : List (List S41)) : Prop := Kd.S kL 26 w lo (fun k => lo ≤ k ∧ k < hi) v ls
theorem specKids_calls (k : Nat) (A0 : Option Addr) (c0 : Nat) (l : List S41) (R : List (List S41)) (w : World) (hr0 : Kd.C k41 w A0 l.length l) (hc0 : l.length ≤ c0) (h : spec_Kids.f k l = some R) :
    Calls Try.prog 34 #[.slice A0 l.length c0] w fun e w' => ∃ A c, e = .returned (.slice A R.length c) ∧ R.length ≤ c ∧ SR w' w.heap.size w'.heap.size (.slice A R.length c) R ∧ Below w.heap.size w w' :=
  (spec_Kids.calls k A0 c0 l R w hr0 hc0 h).mono (fun e w' ⟨v, h1, h2, h3⟩ => by
    obtain ⟨A, c, rfl, hc, _⟩ := Kd.S_reads h2
    exact ⟨A, c, h1, hc, Kd.S_mono (Kd.S_bound h2) (fun _ hk => ⟨hk.2.1, hk.2.2.1⟩), h3⟩)
theorem SRC {w : World} {lo hi n c : Nat} {A : Option Addr} {ls : List (List S41)} (h : SR w lo hi (.slice A n c) ls) : Kd.C kL w A ls.length ls := (Kd.S_reads' h).2.2
theorem SR_below {w w1 : World} {lo hi : Nat} {v : Value} {ls : List (List S41)} (h : SR w lo hi v ls) (hb : Below w.heap.size w w1) : SR w1 lo hi v ls := Kd.S_below h hb
theorem SR_kept {w w1 : World} {lo hi : Nat} {v : Value} {ls : List (List S41)} {S : Nat → Prop} (h : SR w lo hi v ls) (hk : Kept w w1 S) (hn : ∀ k, lo ≤ k ∧ k < hi → ¬ S k) : SR w1 lo hi v ls := Kd.S_kept h hk hn
theorem RR_kept {w w1 : World} {base : Nat} {v : Value} {ls : List (List S41)} {S : Nat → Prop} (h : RR w base v ls) (hk : Kept w w1 S) (hn : ∀ k, base ≤ k → ¬ S k) : RR w1 base v ls :=
  h.keep (fun k cells e hb hc _ => hk.2 k (Array.getElem?_eq_some_iff.1 hc).1 (hn k hb))
theorem heldSS_calls (k : Nat) (A0 : Option Addr) (n c0 : Nat) (l0 : List (List S41)) (a1 r : Int) (w : World) (hn : n = l0.length) (hr0 : Kd.C kL w A0 l0.length l0) (hc0 : n ≤ c0) (h : laws_heldNodeSS.f k l0 a1 = some r) :
    Calls Try.prog 36 #[.slice A0 n c0, .int .i64 a1] w fun e w' => e = .returned (.int .i64 r) ∧ Below w.heap.size w w' := by
  subst hn
  exact laws_heldNodeSS.calls k A0 c0 l0 a1 r w hr0 hc0 h

/-- The world without what lies from n on. -/
def trunc (w : World) (n : Nat) : World := { w with heap := w.heap.extract 0 n }
theorem trunc_size {w : World} {n : Nat} (h : n ≤ w.heap.size) : (trunc w n).heap.size = n := by simp [trunc]; omega
theorem trunc_below {w : World} {n : Nat} (h : n ≤ w.heap.size) : Below n (trunc w n) w := ⟨rfl, rfl, rfl, by rw [trunc_size h]; exact h, fun k hk => by
  simp [trunc, Array.getElem?_extract]
  intro hc
  omega⟩
theorem markSS_calls2 (v : Value) (ls : List (List S41)) (a m : Int) (lo : Nat) (w0 w : World) (hm : m = a + 5 * tot ls) (ha : 0 ≤ a) (hn : a + 5 * tot ls ≤ 900000000) (hl : ls.length ≤ 1048576)
    (hlo : w0.heap.size ≤ lo) (hlo2 : lo ≤ w.heap.size) (hB : Below w0.heap.size w0 w) (hr : RR w lo v ls) :
    Calls Try.prog 29 #[v, .int .i64 a] w fun e w' => e = .returned (.int .i64 m) ∧ RR w' lo v (mkss a ls) ∧ Kept w w' (fun k => lo ≤ k) ∧ Below w0.heap.size w0 w' := by
  have hs := trunc_size hlo2
  have hb := trunc_below hlo2
  have h := markSS_calls v ls a m (trunc w lo) w w hm ha hn hl (by rw [hs]; exact hb) (Below.refl _ _) (by rw [hs]; exact hr)
  rw [hs] at h
  refine h.mono (fun e w' ⟨h1, h2, h3, h4⟩ => ⟨h1, h2, h3.mono (fun k hk => hk.1), ?_⟩)
  exact ⟨h4.os.trans hB.os, h4.tape.trans hB.tape, h4.output.trans hB.output, Nat.le_trans hB.size h3.1, fun k hk => ((h4.block k (by omega)).trans (hb.block k (by omega)).symm).trans (hB.block k hk)⟩

theorem laws_FnExactKids.calls (A0 : Option Addr) (c0 : Nat) (l0 : List S36) (w : World) (hr0 : Kd.C k36 w A0 l0.length l0) (hc0 : l0.length ≤ c0) (hs : ∀ s ∈ l0, s.f2.size ≤ 9223372036854775807) :
    Calls Try.prog 10 #[.slice A0 l0.length c0] w fun e w' => e = .returned (.bool true) ∧ Below w.heap.size w w' := by
  have hlen0 := hr0.2.1
  obtain ⟨r1, hz1, hz2, hz3, hz4⟩ := szNodeS_ev l0 hlen0 hs 1048576 (by omega) (by omega)
  obtain ⟨k1, hz1⟩ := hz1.rounds
  have HZ1 := Aside0.mk hz1
  have HR0 := Aside0.mk hr0
  have HBo := Aside0.mk (Below.refl w.heap.size w)
  clear hz1 hr0 hs
  by_cases hn1 : r1 < 0
  · clear hz4
    go_enter Try.func10, Try.ntmps10
    go_wp2_with (go_at_call 11; refine (laws_szNodeS.calls k1 _ _ l0 _ r1 _ HR0.out hc0 HZ1.out).mono ?_; rintro e w5 ⟨rfl, hb5⟩; have HB5 := Aside0.mk hb5; clear hb5)
    go_ret
    exact ⟨rfl, HB5.out⟩
  · have hz5 := hz4 (by omega)
    clear hz4
    obtain ⟨kT, hkT⟩ := (toNodeS_ev l0 (by omega)).rounds
    obtain ⟨L, hL⟩ : ∃ L, L = l0.map cv := ⟨_, rfl⟩
    rw [← hL] at hkT
    have hll : L.length ≤ 1048576 := by rw [hL, List.length_map]; omega
    obtain ⟨R, hR1, hR2, hR3, hR4⟩ := kids_both L (by omega)
    obtain ⟨kG, hkG⟩ := hR1.rounds
    have htl : tot R ≤ 36000000 := by have := tot_le 6000 R hR3; omega
    obtain ⟨kE, hkE⟩ := (eqNodeS_ev L (by omega)).rounds
    obtain ⟨kF, hkF⟩ := (eqNodeSS_ev R (by omega) (fun x hx => by have := hR3 x hx; omega)).rounds
    obtain ⟨kM, hkM⟩ := (mark_ev L 1 (by omega) (by omega)).rounds
    obtain ⟨kD, hkD⟩ := (heldSS_ev 1 R (by omega) (by omega) (by omega)).rounds
    obtain ⟨M, hM⟩ : ∃ M, M = mks 1 L.length := ⟨_, rfl⟩
    obtain ⟨m0, hm0⟩ : ∃ m0 : Int, m0 = 1 + 5 * (L.length : Int) := ⟨_, rfl⟩
    obtain ⟨m1, hm1⟩ : ∃ m1 : Int, m1 = 1 + 5 * (tot R : Int) := ⟨_, rfl⟩
    rw [← hM, ← hm0] at hkM
    rw [← hm1] at hkD
    have hm00 : ¬ m0 < 0 := by omega
    have hm10 : ¬ m1 < 0 := by omega
    have KT := Aside0.mk hkT
    have KG := Aside0.mk hkG
    have KE := Aside0.mk hkE
    have KF := Aside0.mk hkF
    have KM := Aside0.mk hkM
    have KD := Aside0.mk hkD
    have HM1 := Aside0.mk hm1
    have HK4 := Aside0.mk hR4
    have HRL : Aside0 (R.length ≤ 1048576) := ⟨by omega⟩
    have HTL : Aside0 ((1 : Int) + 5 * tot R ≤ 900000000) := ⟨by omega⟩
    have HML : Aside0 (R.length = (mkss 1 R).length) := ⟨(mkss_len 1 R).symm⟩
    clear hkT hkG hkE hkF hkM hkD hL hm0 hm1 hM htl hll hz5 hz2 hz3 hlen0 hR1 hR2 hR3 hR4
    go_enter Try.func10, Try.ntmps10
    go_upto_region 5 with (first | (go_at_call 11; refine (laws_szNodeS.calls k1 _ _ l0 _ r1 _ HR0.out hc0 HZ1.out).mono ?_; rintro e w1 ⟨rfl, hb⟩; have HB1 := Aside0.mk (HBo.out.trans (hb.mono HBo.out.size)); have HL1 := Aside0.mk hb; (try clear hb); (try clear hv); (try clear hk)))
    go_upto_region 6 with (first | (go_at_call 13; refine (toS_calls kT _ _ l0 L _ (Kd.C_below HR0.out HB1.out) hc0 KT.out).mono ?_; rintro e w2 ⟨AV, cV, rfl, hcV, hv, hb⟩; have V2 := Aside0.mk hv; have UV := Aside0.mk (NR_in hv); have HB2 := Aside0.mk (HB1.out.trans (hb.mono HB1.out.size)); have HL2 := Aside0.mk hb; (try clear hb); (try clear hv); (try clear hk)) | (go_at_call 34; refine (specKids_calls kG _ _ L R _ (NRC V2.out) hcV KG.out).mono ?_; rintro e w3 ⟨AW, cW, rfl, hcW, hv, hb⟩; have W3 := Aside0.mk hv; have HB3 := Aside0.mk (HB2.out.trans (hb.mono HB2.out.size)); have HL3 := Aside0.mk hb; (try clear hb); (try clear hv); (try clear hk)))
    go_upto_region 7 with (first | (go_at_call 13; refine (toS_calls kT _ _ l0 L _ (Kd.C_below HR0.out HB3.out) hc0 KT.out).mono ?_; rintro e w4 ⟨AX, cX, rfl, hcX, hv, hb⟩; have X4 := Aside0.mk hv; have UX := Aside0.mk (NR_in hv); have HB4 := Aside0.mk (HB3.out.trans (hb.mono HB3.out.size)); have HL4 := Aside0.mk hb; have W4 := Aside0.mk (SR_below W3.out hb); (try clear hb); (try clear hv); (try clear hk)))
    go_upto_region 8 with (first | (go_at_call 35; refine (HK4.out _ _ _ (NRC X4.out) hcX).mono ?_; rintro e w5 ⟨AY, cY, rfl, hcY, hv, hb⟩; have Y5 := Aside0.mk hv; have HB5 := Aside0.mk (HB4.out.trans (hb.mono HB4.out.size)); have HL5 := Aside0.mk hb; have W5 := Aside0.mk (SR_below W4.out hb); have X5 := Aside0.mk (NR_below X4.out hb); (try clear hb); (try clear hv); (try clear hk)))
    go_upto_region 10 with (first | (go_at_call 28; refine (laws_eqNodeSS.calls kF _ _ R _ _ R true _ (RRC Y5.out) hcY (SRC W5.out) hcW KF.out).mono ?_; rintro e w6 ⟨rfl, hb⟩; have HB6 := Aside0.mk (HB5.out.trans (hb.mono HB5.out.size)); have HL6 := Aside0.mk hb; have W6 := Aside0.mk (SR_below W5.out hb); have X6 := Aside0.mk (NR_below X5.out hb); have Y6 := Aside0.mk (Y5.out.below hb); (try clear hb); (try clear hv); (try clear hk)))
    go_upto_region 12 with (first | (go_at_call 13; refine (toS_calls kT _ _ l0 L _ (Kd.C_below HR0.out HB6.out) hc0 KT.out).mono ?_; rintro e w7 ⟨AV, cV, rfl, hcV, hv, hb⟩; have V7 := Aside0.mk hv; have UV := Aside0.mk (NR_in hv); have HB7 := Aside0.mk (HB6.out.trans (hb.mono HB6.out.size)); have HL7 := Aside0.mk hb; have W7 := Aside0.mk (SR_below W6.out hb); have X7 := Aside0.mk (NR_below X6.out hb); have Y7 := Aside0.mk (Y6.out.below hb); (try clear hb); (try clear hv); (try clear hk)) | (go_at_call 15; refine (laws_eqNodeS.calls kE _ _ L _ _ L true _ (NRC X7.out) hcX (NRC V7.out) hcV KE.out).mono ?_; rintro e w8 ⟨rfl, hb⟩; have HB8 := Aside0.mk (HB7.out.trans (hb.mono HB7.out.size)); have HL8 := Aside0.mk hb; have W8 := Aside0.mk (SR_below W7.out hb); have X8 := Aside0.mk (NR_below X7.out hb); have Y8 := Aside0.mk (Y7.out.below hb); (try clear hb); (try clear hv); (try clear hk)))
    have SZ : Aside0 (w.heap.size ≤ w2.heap.size ∧ w2.heap.size ≤ w3.heap.size ∧ w3.heap.size ≤ w4.heap.size ∧ w4.heap.size ≤ w5.heap.size) := ⟨HB2.out.size, HL3.out.size, HL4.out.size, HL5.out.size⟩
    go_upto_region 14 with (first | (go_at_call 30; refine (mark_calls kM _ L m0 M w _ HB8.out (Kd.R_lower X8.out (by have := SZ.out; omega)) KM.out).mono ?_; rintro e w9 ⟨rfl, hv, hb, hk⟩; have HB9 := Aside0.mk hb; have W9 := Aside0.mk (SR_kept W8.out hk (fun k hkk h => by have := UX.out k h.symm; omega)); have Y9 := Aside0.mk (RR_kept Y8.out hk (fun k hkk h => by have := UX.out k h.symm; omega)); have HK9 := Aside0.mk hk; (try clear hb); (try clear hv); (try clear hk)))
    go_upto_region 16 with (first | (go_at_call 28; refine (laws_eqNodeSS.calls kF _ _ R _ _ R true _ (RRC Y9.out) hcY (SRC W9.out) hcW KF.out).mono ?_; rintro e w10 ⟨rfl, hb⟩; have HB10 := Aside0.mk (HB9.out.trans (hb.mono HB9.out.size)); have HL10 := Aside0.mk hb; have W10 := Aside0.mk (SR_below W9.out hb); have Y10 := Aside0.mk (Y9.out.below hb); (try clear hb); (try clear hv); (try clear hk)))
    have S10 : Aside0 (w4.heap.size ≤ w10.heap.size) := ⟨Nat.le_trans HL5.out.size (Nat.le_trans HL6.out.size (Nat.le_trans HL7.out.size (Nat.le_trans HL8.out.size (Nat.le_trans HK9.out.1 HL10.out.size))))⟩
    go_upto_region 18 with (first | (go_at_call 29; refine (markSS_calls2 _ R 1 m1 w4.heap.size w _ HM1.out (by omega) HTL.out HRL.out (by have := SZ.out; omega) S10.out HB10.out Y10.out).mono ?_; rintro e w11 ⟨rfl, hv, hk, hb⟩; have HB11 := Aside0.mk hb; have Y11 := Aside0.mk hv; have W11 := Aside0.mk (SR_kept W10.out hk (fun k hkk h => by have := SZ.out; omega)); (try clear hb); (try clear hv); (try clear hk)))
    go_upto_region 24 with (first | (go_at_call 36; refine (heldSS_calls kD _ _ _ (mkss 1 R) 1 m1 _ HML.out (RRC Y11.out) hcY KD.out).mono ?_; rintro e w12 ⟨rfl, hb⟩; have HB12 := Aside0.mk (HB11.out.trans (hb.mono HB11.out.size)); have HL12 := Aside0.mk hb; have W12 := Aside0.mk (SR_below W11.out hb); have Y12 := Aside0.mk (Y11.out.below hb); (try clear hb); (try clear hv); (try clear hk)))
    go_upto_region 25 with (first | (go_at_call 13; refine (toS_calls kT _ _ l0 L _ (Kd.C_below HR0.out HB12.out) hc0 KT.out).mono ?_; rintro e w13 ⟨AT, cT, rfl, hcT, hv, hb⟩; have T13 := Aside0.mk hv; have UT := Aside0.mk (NR_in hv); have HB13 := Aside0.mk (HB12.out.trans (hb.mono HB12.out.size)); have HL13 := Aside0.mk hb; have W13 := Aside0.mk (SR_below W12.out hb); have Y13 := Aside0.mk (Y12.out.below hb); (try clear hb); (try clear hv); (try clear hk)) | (go_at_call 35; refine (HK4.out _ _ _ (NRC T13.out) hcT).mono ?_; rintro e w14 ⟨AQ, cQ, rfl, hcQ, hv, hb⟩; have Q14 := Aside0.mk hv; have HB14 := Aside0.mk (HB13.out.trans (hb.mono HB13.out.size)); have HL14 := Aside0.mk hb; have W14 := Aside0.mk (SR_below W13.out hb); have Y14 := Aside0.mk (Y13.out.below hb); (try clear hb); (try clear hv); (try clear hk)))
    go_upto_region 27 with (first | (go_at_call 28; refine (laws_eqNodeSS.calls kF _ _ R _ _ R true _ (RRC Q14.out) hcQ (SRC W14.out) hcW KF.out).mono ?_; rintro e w15 ⟨rfl, hb⟩; have HB15 := Aside0.mk (HB14.out.trans (hb.mono HB14.out.size)); have HL15 := Aside0.mk hb; have Y15 := Aside0.mk (Y14.out.below hb); (try clear hb); (try clear hv); (try clear hk)))
    go_wp2_with (first | (go_at_call 36; refine (heldSS_calls kD _ _ _ (mkss 1 R) 1 m1 _ HML.out (RRC Y15.out) hcY KD.out).mono ?_; rintro e w16 ⟨rfl, hb⟩; have HB16 := Aside0.mk (HB15.out.trans (hb.mono HB15.out.size)); have HL16 := Aside0.mk hb; (try clear hb); (try clear hv); (try clear hk)))
    go_ret
    exact ⟨rfl, HB16.out⟩
end Go.Proofs.Ytoioineibfldcaa.K
end

section
/-
  How an argument of the type []laws.Node (and [][]laws.Node, laws.Node) is opened to a list of Lean structures. No condition.
-/
set_option linter.unusedVariables false
namespace Go.Proofs.Ytoioineibfldcaa.K
open Go.RowKit Go.Proofs.YtoioineibfldcaaW.PrintWords Go.Proofs.YtoioineibfldcaaW.PrintLast Go.Proofs.YtoioineibfldcaaW.PrintMore
open Go.ChangeShapes Go.WideShapes Go.ChangeAt Go.Deep

theorem own : ownKnob Try.prog.godebug = none := by kernel_rfl
theorem laidOut : laidOutB Try.prog = true := by kernel_rfl

section
variable {H : Type} {enc : TypeId × Value → H} {w : World} {base : Nat} {spare : Nat → Bool} {held : Bool}
theorem open_node {n : Nat} {cs : List Value} {x : DataW H × List MemPlace} (h : DataW.trod enc Try.prog w base spare held n 36 cs = some x) :
    ∃ s : S36, cs = [.int .i64 s.f0, .int .i64 s.f1, .string s.f2, .int .i64 s.f3, .int .i64 s.f4] ∧ s.f2.size ≤ maxLen := by
  obtain ⟨ys, n', _, hy, hlen, hyl, hf⟩ := DataW.trod_struct Try.underlying36 h
  have hC : cs.length = 5 := by rw [hlen]; kernel_rfl
  match cs, hC with
  | [c0, c1, c2, c3, c4], _ =>
    have g0 : DataW.trod enc Try.prog w base spare held n' 3 (([c0, c1, c2, c3, c4].drop 0).take (Try.prog.cellsOf 3)) = ys[0]? := hf 0 _ rfl
    have g1 : DataW.trod enc Try.prog w base spare held n' 2 (([c0, c1, c2, c3, c4].drop 1).take (Try.prog.cellsOf 2)) = ys[1]? := hf 1 _ rfl
    have g2 : DataW.trod enc Try.prog w base spare held n' 9 (([c0, c1, c2, c3, c4].drop 2).take (Try.prog.cellsOf 9)) = ys[2]? := hf 2 _ rfl
    have g3 : DataW.trod enc Try.prog w base spare held n' 3 (([c0, c1, c2, c3, c4].drop 3).take (Try.prog.cellsOf 3)) = ys[3]? := hf 3 _ rfl
    have g4 : DataW.trod enc Try.prog w base spare held n' 3 (([c0, c1, c2, c3, c4].drop 4).take (Try.prog.cellsOf 3)) = ys[4]? := hf 4 _ rfl
    rw [show Try.prog.cellsOf 3 = 1 from by kernel_rfl] at g0 g3 g4
    rw [show Try.prog.cellsOf 2 = 1 from by kernel_rfl] at g1
    rw [show Try.prog.cellsOf 9 = 1 from by kernel_rfl] at g2
    simp only [List.drop_zero, List.drop_succ_cons, List.take_succ_cons, List.take_zero] at g0 g1 g2 g3 g4
    have e : ∀ j, j < 5 → ∃ y, ys[j]? = some y := fun j hj => ⟨_, List.getElem?_eq_getElem (by rw [hyl]; exact hj)⟩
    obtain ⟨y0, e0⟩ := e 0 (by omega)
    obtain ⟨y1, e1⟩ := e 1 (by omega)
    obtain ⟨y2, e2⟩ := e 2 (by omega)
    obtain ⟨y3, e3⟩ := e 3 (by omega)
    obtain ⟨y4, e4⟩ := e 4 (by omega)
    rw [e0] at g0
    rw [e1] at g1
    rw [e2] at g2
    rw [e3] at g3
    rw [e4] at g4
    obtain ⟨a0, h0, _, _⟩ := DataW.trod_int Try.underlying3 g0
    obtain ⟨a1, h1, _, _⟩ := DataW.trod_int Try.underlying2 g1
    obtain ⟨a2, h2, _, hs⟩ := DataW.trod_string Try.underlying9 g2
    obtain ⟨a3, h3, _, _⟩ := DataW.trod_int Try.underlying3 g3
    obtain ⟨a4, h4, _, _⟩ := DataW.trod_int Try.underlying3 g4
    simp only [List.cons.injEq, and_true] at h0 h1 h2 h3 h4
    subst h0 h1 h2 h3 h4
    exact ⟨⟨a0, a1, a2, a3, a4⟩, rfl, hs⟩

theorem open_nodes {n : Nat} {A : Option Addr} {len cap : Nat} {x : DataW H × List MemPlace} (h : DataW.trod enc Try.prog w base spare held n 23 [.slice A len cap] = some x) :
    ∃ xs : List S36, Kd.C k36 w A len xs ∧ len ≤ cap ∧ ∀ s ∈ xs, s.f2.size ≤ maxLen := by
  rcases open_slice Try.underlying23 h with ⟨hcs, _⟩ | ⟨a, len', cap', m, n', D, Pl, hcs, hb, hl, hm, hmm, hx, hi⟩
  · simp only [List.cons.injEq, and_true, Value.slice.injEq] at hcs
    obtain ⟨rfl, rfl, rfl⟩ := hcs
    exact ⟨[], ⟨rfl, by omega, fun hp => absurd hp (by omega)⟩, Nat.le_refl _, by simp⟩
  · simp only [List.cons.injEq, and_true, Value.slice.injEq] at hcs
    obtain ⟨rfl, rfl, rfl⟩ := hcs
    rw [show Try.prog.cellsOf 36 = 5 from by kernel_rfl] at hi
    have hlm : len ≤ m := by rw [hmm]; split <;> omega
    have key : ∀ i, ∃ s : S36, i < len → (s.f2.size ≤ maxLen ∧ ∀ j u, [Value.int .i64 s.f0, .int .i64 s.f1, .string s.f2, .int .i64 s.f3, .int .i64 s.f4][j]? = some u → w.cell? (a.add (i * 5 + j)) = some u) := by
      intro i
      by_cases hil : i < len
      · obtain ⟨cs', hc, ht⟩ := hi i (by omega)
        obtain ⟨s, rfl, hs⟩ := open_node ht
        refine ⟨s, fun _ => ⟨hs, fun j u hu => ?_⟩⟩
        obtain ⟨_, hcl, hat⟩ := World.cells?_some hc
        have hj : j < 5 := by have := (List.getElem?_eq_some_iff.1 hu).1; simpa using this
        rw [← Go.Deep.add_add, hat j hj, hu]
      · exact ⟨z36, fun hh => absurd hh hil⟩
    refine ⟨(List.range len).map fun i => Classical.choose (key i), ⟨by simp, by unfold maxLen at hm; omega, fun hp => ⟨a, rfl, fun j p hj => ?_⟩⟩, hl, fun s hs => ?_⟩
    · have hjl : j < len := by have := (List.getElem?_eq_some_iff.1 hj).1; simpa using this
      have hp' : Classical.choose (key j) = p := by
        rw [List.getElem?_map, List.getElem?_range hjl] at hj
        simpa using hj
      have hk := Classical.choose_spec (key j) hjl
      rw [hp'] at hk
      exact ⟨_, rfl, k36_mk w p, hk.2⟩
    · obtain ⟨i, hi', rfl⟩ := List.mem_map.1 hs
      exact (Classical.choose_spec (key i) (List.mem_range.1 hi')).1
end
end Go.Proofs.Ytoioineibfldcaa.K
end

section
/-
  FnExactKids returns true and leaves its argument as it was, for all arguments that read as data: the program's Kids answers as the reference's. No condition.
-/
set_option linter.unusedVariables false

namespace Go.Proofs.Ytoioineibfldcaa.fnExactKids
open Go.ChangeShapes Go.WideShapes Go.ChangeAt Go.RowKit
open Go.Proofs.Ytoioineibfldcaa.K (own laidOut open_nodes)
set_option maxRecDepth 100000 in
theorem lifted (os : Os) (started : os.Started) (H : Type) (enc : TypeId × Value → H) :
    ReturnsInHanded {} Try.checked os 10 .any (Rows.fnExactKidsSpec.pre6 enc Try.prog Try.f10 Rows.fnExactKidsRow.domain false) (Rows.fnExactKidsSpec.post enc Try.prog Try.f10 false true false false) := by
  refine returnsInHanded_of_change (C := Try.checked) own started (by kernel_rfl) Try.func10
    (ChangeSpec.witness6 (enc := enc) (C := Try.checked) false ⟨#[], #[.slice none 0 0], []⟩ 8 (by kernel_rfl) (by kernel_rfl) (by kernel_rfl) (by kernel_rfl)) ?_
  intro W base args ds gs before hval0 hW hcnd _
  have hval : ∀ (j : Nat) t v, Try.f10.params[j]? = some t → args[j]? = some v → Value.okWide Try.prog W .any base t v := hval0
  have hW' := hW
  obtain ⟨p, q, hA0, hV, rfl, hfz, hnd⟩ := hW
  have hA : DataW.TrodAll enc Try.prog W 0 (fun _ => true) true Try.f10.params.toList args.toList ds p := hA0
  rw [Try.params10] at hA hval
  obtain ⟨v0, vs0, d0, ds0, p0, q0, hargs, rfl, rfl, h0, r0⟩ := trodAll_cons hA
  obtain ⟨rfl, rfl, rfl⟩ := trodAll_nil r0
  obtain rfl : args = #[v0] := by cases args; simp_all
  obtain ⟨rfl, rfl⟩ := trodVars_none hV
  obtain ⟨a0, len0, cap0, rfl⟩ := okWide_slice Try.underlying23 (hval 0 23 v0 rfl rfl)
  have k0 := h0
  have lt0 : ∀ x ∈ p0, x.block < W.heap.size := by obtain ⟨m, hm⟩ := k0; exact DataW.trod_lt m _ _ _ hm
  obtain ⟨fuel0, hf0⟩ := h0
  obtain ⟨xs0, hr0, hc0, hs0⟩ := open_nodes hf0
  obtain rfl := hr0.1
  clear hA0 hval0
  refine (K.laws_FnExactKids.calls a0 cap0 xs0 W hr0 hc0 hs0).mono fun e W' ⟨he, bel⟩ => ?_
  subst he
  exact ⟨_, rfl, _, _, _, [], _, [], hW', trodAll_mk1 (shut_bool Try.underlying4 _), (trodAll_cons_mk (Below.trod laidOut (by kernel_rfl) (of_decide_eq_true (by kernel_rfl)) k0 bel lt0) trodAll_mk0), rfl, bel.frame _, fun h => by cases h⟩
theorem over : Rows.fnExactKidsRow.holds Try.pinned (OpenSpec.ofChange Rows.fnExactKidsSpec) :=
  OpenClaim.holds_of_wide 10 Try.f10 rfl rfl rfl rfl rfl rfl rfl ⟨rfl, rfl, rfl, rfl, rfl⟩ rfl rfl rfl rfl rfl (by kernel_rfl) Try.func10 (by kernel_rfl)
    (of_decide_eq_true (by kernel_rfl)) (by unfold Func.isWrapper; first | (rw [if_pos (by decide +kernel)]; kernel_rfl) | (rw [if_neg (by decide +kernel)]; exact ⟨rfl, rfl⟩))
    (fun os started H enc _ => lifted os started H enc)
end Go.Proofs.Ytoioineibfldcaa.fnExactKids
namespace Go.Proofs.Ytoioineibfldcaa
theorem fnExactKids_holds : Rows.FnExactKidsSaid := fnExactKids.over
end Go.Proofs.Ytoioineibfldcaa
end
