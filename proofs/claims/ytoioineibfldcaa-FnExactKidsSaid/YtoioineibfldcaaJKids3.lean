/- Joined by wip/tools/merge.py from: Kx26, Kx27, Kx28, Kx30, LPart, Kx40, LKids, HKids, Kx32, Kx33, Kx35, Kx36. -/
import Derived.Test.YtoioineibfldcaaJKids2
import Derived.RangeFuncBox
import Derived.Maps.AppendAt
import Derived.Shelf.Abstract
import Derived.Shelf.RegionOpen
import Derived.RegionIn
import Derived.OwnWalkIn
import Derived.WalkKit
section
-- Printed by wip/tools/stubprint.py, a driver of mine over the kit's print.py: some callees are proved by hand.
namespace Go.Proofs.Ytoioineibfldcaa.K
open Go.RowKit Go.Proofs.YtoioineibfldcaaW.PrintWords Go.Proofs.YtoioineibfldcaaW.PrintLast Go.Proofs.YtoioineibfldcaaW.PrintMore
attribute [local go_sem] max2_int min2_int max_two min_two max_three min_three max_four min_four   -- for this text's walks alone
set_option linter.unusedVariables false
set_option linter.unusedSimpArgs false

/-! ### spec_l1Copy: function 49 -/
def spec_l1Copy.l0 : Nat → List (S41) → List (S41) → Int → Option ((List (S41)))
  | 0, _, _, _ => none
  | k + 1, x0, x3, x4 => if x4 < (x0.length : Int) then (if 0 ≤ x4 then (if x3.length < 2932031007402 then (spec_l1Copy.l0 k x0 (x3 ++ [(⟨(rd_T41 x0 x4).f0, (rd_T41 x0 x4).f1, (rd_T41 x0 x4).f2, (rd_T41 x0 x4).f3, (rd_T41 x0 x4).f4⟩ : S41)]) (wrap64 (x4 + 1))) else (none)) else (none)) else (some x3)
def spec_l1Copy.f (k : Nat) (l0 : List (S41)) : Option ((List (S41))) := spec_l1Copy.l0 k l0 (([] : List (S41))) 0
theorem spec_l1Copy.mono_l : ∀ k, (∀ y0 y1 y2, LeO (spec_l1Copy.l0 k y0 y1 y2) (spec_l1Copy.l0 (k + 1) y0 y1 y2))
  | 0 => fun _ _ _ r h => by simp [spec_l1Copy.l0] at h
  | k + 1 => by
    have ih0 := spec_l1Copy.mono_l k
    · intro y0 y1 y2
      unfold spec_l1Copy.l0
      repeat' first
      | (with_reducible exact ih0 _ _ _)
      | (with_reducible exact LeO.refl _)
      | (with_reducible exact LeO.none _)
      | (with_reducible refine LeO.ite ?_ ?_)
      | (with_reducible refine LeO.bind ?_ (fun _ => ?_))
      | exact ih0 _ _ _
      | exact LeO.none _
      | refine LeO.ite ?_ ?_
      | refine LeO.bind ?_ (fun _ => ?_)
theorem spec_l1Copy.mono : ∀ a0 k, LeO (spec_l1Copy.f k a0) (spec_l1Copy.f (k + 1) a0) := by
  intro a0 k
  have ih0 := spec_l1Copy.mono_l k
  unfold spec_l1Copy.f
  repeat' first
      | (with_reducible exact ih0 _ _ _)
      | (with_reducible exact LeO.refl _)
      | (with_reducible exact LeO.none _)
      | (with_reducible refine LeO.ite ?_ ?_)
      | (with_reducible refine LeO.bind ?_ (fun _ => ?_))
      | exact ih0 _ _ _
      | exact LeO.none _
      | refine LeO.ite ?_ ?_
      | refine LeO.bind ?_ (fun _ => ?_)
set_option maxHeartbeats 8000000 in
set_option maxRecDepth 100000 in
theorem spec_l1Copy.calls (k : Nat) (A0 : Option Addr) (c0 : Nat) (l0 : List (S41)) (r : List (S41)) (w : World) (hr0 : Kd.C k41 w A0 l0.length l0) (hc0 : l0.length ≤ c0) (h : spec_l1Copy.f k l0 = some r) :
    Calls Try.prog 49 #[.slice A0 l0.length c0] w fun e w' => ∃ v0_ : Value, e = .returned (v0_) ∧ Kd.R k41 41 w' w.heap.size (fun _ => True) v0_ r ∧ Below w.heap.size w w' := by
  have hu41 := Try.underlying41
  have HR0 := Aside0.mk hr0
  have HC0 := Aside0.mk hc0
  clear hr0 hc0
  have HB := Aside0.mk (Below.refl w.heap.size w)
  have H : (spec_l1Copy.l0 k l0 (([] : List (S41))) 0) = some r := h
  clear h
  obtain ⟨y245, hy245⟩ : ∃ y_ : List (S41), y_ = (([] : List (S41))) := ⟨_, rfl⟩
  replace H : (spec_l1Copy.l0 k l0 y245 0) = some r := by first | (rw [hy245]; with_reducible exact H) | (have H2_ := (Option.bind_some _ _).symm.trans H; rw [hy245]; with_reducible exact H2_) | (have H2_ := (Option.bind_some _ _).symm.trans H; with_reducible exact H2_) | with_reducible exact H | (rw [hy245]; exact H) | exact H
  have Ny245 := Aside0.mk hy245
  clear hy245
  have H' := Aside0.mk H
  clear H
  go_enter Try.func49, Try.ntmps49
  go_wp2_with (first | ((with_reducible refine gate_dst (N := 5) rfl ?_); refine Kd.R_lit k41 _ 41 ?hg (N := 5) ?hd (xs := ([] : List (S41))) (inner := []) (ok := fun _ => True) (okp := fun _ => True) ?hr ?hp (fun _ hk => hk) trivial (Below.refl _ _) (Nat.le_refl _) (by simp) ?_; (case hd => rfl); (case hg => rfl); (case hr => first | (go_simp; done) | (go_simp; rfl)); (case hp => exact (Reps.none _ _)); intro v246 w2 ho3 hb hg_ hnew_; clear hg_ hnew_; (first | rw [← Ny245.out] at ho3 | (simp only [Int.reduceToNat] at ho3; rw [← Ny245.out] at ho3)); have n0_ := Aside0.mk (Kd.R_lower ho3 (below_size (by repeat (first | (with_reducible first | exact HB.out | apply below_alloc | apply pw_below_drewN | apply below_drew1) | exact HB.out)))); have n1_ := Aside0.mk (below_step (by repeat (first | (with_reducible first | exact HB.out | apply below_alloc | apply pw_below_drewN | apply below_drew1) | exact HB.out)) hb); clear HB; have HO247 := n0_; have HB := n1_; clear n0_ n1_; clear hb ho3))
  go_loopg [3, 4] k (fun kq v3 v4 w' => ∃ (x3_1 : List (S41)) (x4_1 : Int), v4 = .int .i64 x4_1 ∧ Aside0 (spec_l1Copy.l0 kq l0 x3_1 x4_1 = some r) ∧ Aside0 (kq ≤ k) ∧ Aside0 (Kd.R k41 41 w' w.heap.size (fun _ => True) v3 x3_1) ∧ Aside0 (Below w.heap.size w w'))
  case atStart => exact ⟨(y245), (0), (by first | rfl | (simp; done) | (simp [*]; done)), H', ⟨Nat.le_refl _⟩, ⟨by (with_reducible repeat (first | apply Kd.R_alloc | apply Kd.R_drewN | apply Kd.R_drew)); exact HO247.out⟩, ⟨by repeat (first | (with_reducible first | exact HB.out | apply below_alloc | apply pw_below_drewN | apply below_drew1) | exact HB.out)⟩⟩
  case round =>
    clear H'
    try clear p2
    obtain ⟨x3_1, x4_1, rfl, HA, HK1, HO_3, HB⟩ := hrel
    cases gk with
    | zero => exact absurd HA.out (by simp [spec_l1Copy.l0])
    | succ k1 =>
      have H := HA.out
      clear HA
      simp only [spec_l1Copy.l0] at H
      by_cases c4 : x4_1 < (l0.length : Int)
      · rw [if_pos c4] at H
        have c4b0 : decide (x4_1 < (l0.length : Int)) = true := decide_eq_true c4
        clear c4
        by_cases c5 : 0 ≤ x4_1
        · rw [if_pos c5] at H
          have c5b0 : decide (0 ≤ x4_1) = true := decide_eq_true c5
          clear c5
          by_cases c6 : x3_1.length < 2932031007402
          · rw [if_pos c6] at H
            have LMc6 := Aside0.mk c6
            clear c6
            obtain ⟨y249, hy249⟩ : ∃ y_ : List (S41), y_ = (x3_1 ++ [(⟨(rd_T41 l0 x4_1).f0, (rd_T41 l0 x4_1).f1, (rd_T41 l0 x4_1).f2, (rd_T41 l0 x4_1).f3, (rd_T41 l0 x4_1).f4⟩ : S41)]) := ⟨_, rfl⟩
            replace H : (spec_l1Copy.l0 k1 l0 y249 (wrap64 (x4_1 + 1))) = some r := by first | (rw [hy249]; with_reducible exact H) | (have H2_ := (Option.bind_some _ _).symm.trans H; rw [hy249]; with_reducible exact H2_) | (have H2_ := (Option.bind_some _ _).symm.trans H; with_reducible exact H2_) | with_reducible exact H | (rw [hy249]; exact H) | exact H
            have Ny249 := Aside0.mk hy249
            clear hy249
            have H' := Aside0.mk H
            clear H
            have p248 : 0 ≤ (x4_1 : Int) := of_decide_eq_true (by first | (with_reducible assumption) | assumption)
            have q248 : x4_1 < (l0.length : Int) := of_decide_eq_true (by first | (with_reducible assumption) | assumption)
            obtain ⟨ad248, e248, hx248_0, hx248_1, hx248_2, hx248_3, hx248_4⟩ := at_T41 HR0.out x4_1 p248 q248
            cases e248
            replace hx248_0 := (HB.out.cell (World.block_lt_of_cell? w _ hx248_0)).trans hx248_0
            replace hx248_1 := (HB.out.cell (World.block_lt_of_cell? w _ hx248_1)).trans hx248_1
            replace hx248_2 := (HB.out.cell (World.block_lt_of_cell? w _ hx248_2)).trans hx248_2
            replace hx248_3 := (HB.out.cell (World.block_lt_of_cell? w _ hx248_3)).trans hx248_3
            replace hx248_4 := (HB.out.cell (World.block_lt_of_cell? w _ hx248_4)).trans hx248_4
            replace p248 := eq_true p248
            replace q248 := eq_true q248
            go_wp2_with (first | ((with_reducible refine gate_builtin (b := .append) (xs := #[.tmp 12, .tmp 17]) rfl ?_); at_builtin; refine Kd.R_append k41 (w0 := w) w.heap.size rfl (.tmp 12) (.tmp 17) 26 41 (.agg #[(.int .i64 0), (.int .i64 0), (.string ⟨#[]⟩), (.int .i64 0), (.int .i64 0)]) 48 rfl Try.underlying26 info41 rfl (by decide) (by omega) u3 x3_1 (⟨(rd_T41 l0 x4_1).f0, (rd_T41 l0 x4_1).f1, (rd_T41 l0 x4_1).f2, (rd_T41 l0 x4_1).f3, (rd_T41 l0 x4_1).f4⟩ : S41) [.int .i64 ((rd_T41 l0 x4_1).f0), .int .i64 ((rd_T41 l0 x4_1).f1), .string ((rd_T41 l0 x4_1).f2), .int .i64 ((rd_T41 l0 x4_1).f3), .int .i64 ((rd_T41 l0 x4_1).f4)] (fun _ => True) (fun _ => False) rfl rfl ?aP (fun _ hk => hk.elim) ?aF ?aO ?aB ?aS ?aL ?_; (case aP => exact k41_mkM _ _ _ (⟨(rd_T41 l0 x4_1).f0, (rd_T41 l0 x4_1).f1, (rd_T41 l0 x4_1).f2, (rd_T41 l0 x4_1).f3, (rd_T41 l0 x4_1).f4⟩ : S41)); (case aB => exact (by repeat (first | (with_reducible first | exact HB.out | apply below_alloc | apply pw_below_drewN | apply below_drew1) | exact HB.out))); (case aF => exact (fun _ _ => trivial)); (case aO => exact (by (with_reducible repeat (first | apply Kd.R_alloc | apply Kd.R_drewN | apply Kd.R_drew)); exact HO_3.out)); (case aS => exact (below_size (by repeat (first | (with_reducible first | exact HB.out | apply below_alloc | apply pw_below_drewN | apply below_drew1) | exact HB.out)))); (case aL => have := LMc6.out; omega); intro v250 w7 ho hb hg hat; rw [← Ny249.out] at ho; have n0_ := Aside0.mk (hb); have n1_ := Aside0.mk (ho); clear HB; clear HO_3; have HB := n0_; have HO251 := n1_; clear n0_ n1_; clear ho hb hg hat))
            go_roundg k1
            case measure => have := HK1.out; omega
            case rel => exact ⟨(y249), (wrap64 (x4_1 + 1)), (by first | rfl | (simp; done) | (simp [*]; done)), H', ⟨by have := HK1.out; omega⟩, ⟨by (with_reducible repeat (first | apply Kd.R_alloc | apply Kd.R_drewN | apply Kd.R_drew)); exact HO251.out⟩, ⟨by repeat (first | (with_reducible first | exact HB.out | apply below_alloc | apply pw_below_drewN | apply below_drew1) | exact HB.out)⟩⟩
          · rw [if_neg c6] at H
            exact absurd H (by simp)
        · rw [if_neg c5] at H
          exact absurd H (by simp)
      · rw [if_neg c4] at H
        have c4b0 : decide (x4_1 < (l0.length : Int)) = false := decide_eq_false c4
        clear c4
        obtain rfl := Option.some.inj H
        go_wp2
        go_ret
        exact ⟨_, by first | rfl | (simp [errW_none, errW_some] <;> rfl) | (simp [*, errW_none, errW_some] <;> rfl), by (with_reducible repeat (first | apply Kd.R_alloc | apply Kd.R_drewN | apply Kd.R_drew)); exact HO_3.out, by repeat (first | (with_reducible first | exact HB.out | apply below_alloc | apply pw_below_drewN | apply below_drew1) | exact HB.out)⟩

end Go.Proofs.Ytoioineibfldcaa.K
end

section
-- Printed by wip/tools/stubprint.py, a driver of mine over the kit's print.py: some callees are proved by hand.
namespace Go.Proofs.Ytoioineibfldcaa.K
open Go.RowKit Go.Proofs.YtoioineibfldcaaW.PrintWords Go.Proofs.YtoioineibfldcaaW.PrintLast Go.Proofs.YtoioineibfldcaaW.PrintMore
attribute [local go_sem] max2_int min2_int max_two min_two max_three min_three max_four min_four   -- for this text's walks alone
set_option linter.unusedVariables false
set_option linter.unusedSimpArgs false

/-! ### spec_l1Sub: function 46 -/
def spec_l1Sub.f (k : Nat) (l0 : List (S41)) (l1 : List Int) (a2 : Int) : Option ((List (S41))) := if 0 ≤ a2 then (if a2 < (l1.length : Int) then (if 0 ≤ (wrap64 ((wrap64 (a2 - (rd l1 a2))) + 1)) then (if (wrap64 ((wrap64 (a2 - (rd l1 a2))) + 1)) ≤ (wrap64 (a2 + 1)) then (if (wrap64 (a2 + 1)) ≤ (l0.length : Int) then ((spec_l1Copy.f k ((l0.take ((wrap64 (a2 + 1)) : Int).toNat).drop ((wrap64 ((wrap64 (a2 - (rd l1 a2))) + 1)) : Int).toNat)).bind fun t257 => (some t257)) else (none)) else (none)) else (none)) else (none)) else (none)
theorem spec_l1Sub.mono : ∀ a0 a1 a2 k, LeO (spec_l1Sub.f k a0 a1 a2) (spec_l1Sub.f (k + 1) a0 a1 a2) := by
  intro a0 a1 a2 k
  unfold spec_l1Sub.f
  repeat' first
      | (with_reducible exact spec_l1Copy.mono _ _)
      | (with_reducible exact LeO.refl _)
      | (with_reducible exact LeO.none _)
      | (with_reducible refine LeO.ite ?_ ?_)
      | (with_reducible refine LeO.bind ?_ (fun _ => ?_))
      | exact spec_l1Copy.mono _ _
      | exact LeO.none _
      | refine LeO.ite ?_ ?_
      | refine LeO.bind ?_ (fun _ => ?_)
set_option maxHeartbeats 8000000 in
set_option maxRecDepth 100000 in
theorem spec_l1Sub.calls (k : Nat) (A0 : Option Addr) (c0 : Nat) (l0 : List (S41)) (A1 : Option Addr) (c1 : Nat) (l1 : List Int) (a2 : Int) (r : List (S41)) (w : World) (hr0 : Kd.C k41 w A0 l0.length l0) (hc0 : l0.length ≤ c0) (hr1 : Kd.C (Kd.int .i64) w A1 l1.length l1) (hc1 : l1.length ≤ c1) (h : spec_l1Sub.f k l0 l1 a2 = some r) :
    Calls Try.prog 46 #[.slice A0 l0.length c0, .slice A1 l1.length c1, .int .i64 a2] w fun e w' => ∃ v0_ : Value, e = .returned (v0_) ∧ Kd.R k41 41 w' w.heap.size (fun _ => True) v0_ r ∧ Below w.heap.size w w' := by
  have HR0 := Aside0.mk hr0
  have HC0 := Aside0.mk hc0
  clear hr0 hc0
  have HR1 := Aside0.mk hr1
  have HC1 := Aside0.mk hc1
  clear hr1 hc1
  have HB := Aside0.mk (Below.refl w.heap.size w)
  have H : (if 0 ≤ a2 then (if a2 < (l1.length : Int) then (if 0 ≤ (wrap64 ((wrap64 (a2 - (rd l1 a2))) + 1)) then (if (wrap64 ((wrap64 (a2 - (rd l1 a2))) + 1)) ≤ (wrap64 (a2 + 1)) then (if (wrap64 (a2 + 1)) ≤ (l0.length : Int) then ((spec_l1Copy.f k ((l0.take ((wrap64 (a2 + 1)) : Int).toNat).drop ((wrap64 ((wrap64 (a2 - (rd l1 a2))) + 1)) : Int).toNat)).bind fun t257 => (some t257)) else (none)) else (none)) else (none)) else (none)) else (none)) = some r := h
  clear h
  by_cases c4 : 0 ≤ a2
  · rw [if_pos c4] at H
    have c4b0 : decide (0 ≤ a2) = true := decide_eq_true c4
    clear c4
    by_cases c5 : a2 < (l1.length : Int)
    · rw [if_pos c5] at H
      have c5b0 : decide (a2 < (l1.length : Int)) = true := decide_eq_true c5
      clear c5
      obtain ⟨ji6, hji6⟩ : ∃ j_ : Int, (wrap64 ((wrap64 (a2 - (rd l1 a2))) + 1)) = j_ := ⟨_, rfl⟩
      replace H : (if 0 ≤ (ji6) then (if (ji6) ≤ (wrap64 (a2 + 1)) then (if (wrap64 (a2 + 1)) ≤ (l0.length : Int) then ((spec_l1Copy.f k ((l0.take ((wrap64 (a2 + 1)) : Int).toNat).drop ((ji6) : Int).toNat)).bind fun t257 => (some t257)) else (none)) else (none)) else (none)) = some r := by first | (rw [hji6] at H; exact H) | (simp only [hji6] at H ⊢; exact H)
      have hji6w : (IntKind.i64.wrap ((wrap64 (a2 - (rd l1 a2))) + 1)) = ji6 := (i64_w _).trans hji6
      by_cases c7 : 0 ≤ (ji6)
      · rw [if_pos c7] at H
        have c7b0 := eq_true c7
        have c7b1 : decide (0 ≤ (ji6)) = true := decide_eq_true c7
        clear c7
        by_cases c8 : (ji6) ≤ (wrap64 (a2 + 1))
        · rw [if_pos c8] at H
          have c8b0 := eq_true c8
          have c8b1 : decide ((ji6) ≤ (wrap64 (a2 + 1))) = true := decide_eq_true c8
          by_cases c9 : (wrap64 (a2 + 1)) ≤ (l0.length : Int)
          · rw [if_pos c9] at H
            have c9b0 := eq_true c9
            have c9b1 : decide ((wrap64 (a2 + 1)) ≤ (l0.length : Int)) = true := decide_eq_true c9
            obtain ⟨y253, hy253⟩ : ∃ y_ : List (S41), y_ = ((l0.take ((wrap64 (a2 + 1)) : Int).toNat).drop ((ji6) : Int).toNat) := ⟨_, rfl⟩
            replace H : ((spec_l1Copy.f k y253).bind fun t257 => (some t257)) = some r := by first | (rw [hy253]; with_reducible exact H) | (have H2_ := (Option.bind_some _ _).symm.trans H; rw [hy253]; with_reducible exact H2_) | (have H2_ := (Option.bind_some _ _).symm.trans H; with_reducible exact H2_) | with_reducible exact H | (rw [hy253]; exact H) | exact H
            have Ny253 := Aside0.mk hy253
            clear hy253
            replace H := Option.bind_eq_some_iff.mp H
            obtain ⟨t257, A100, H⟩ := H
            replace H : (some t257) = some r := H
            have A10 := Aside0.mk A100
            clear A100
            obtain rfl := Option.some.inj H
            have p252 : 0 ≤ (a2 : Int) := of_decide_eq_true (by first | (with_reducible assumption) | assumption)
            have q252 : a2 < (l1.length : Int) := of_decide_eq_true (by first | (with_reducible assumption) | assumption)
            obtain ⟨ad252, e252, hx252_0⟩ := Kd.at_int HR1.out a2 p252 q252
            cases e252
            replace p252 := eq_true p252
            replace q252 := eq_true q252
            have q11 : ((wrap64 (a2 + 1)) : Int) ≤ ((l0.length : Int) : Int) := of_decide_eq_true (by first | (with_reducible assumption) | assumption)
            obtain ⟨i011, hi011, _, hsz11, _⟩ := info_parts info41
            have hroom11 : l0.length ≤ c0 := HC0.out
            have hC11 : Kd.C k41 _ A0 l0.length l0 := HR0.out
            have ql11 : ((ji6) : Int) ≤ ((wrap64 (a2 + 1)) : Int) := of_decide_eq_true (by first | (with_reducible assumption) | assumption)
            have q011 : (0 : Int) ≤ ((ji6) : Int) := of_decide_eq_true (by first | (with_reducible assumption) | assumption)
            have hcut11 := cut_mid (P := Try.prog) 26 41 .i64 .i64 Try.underlying26 hi011 5 hsz11 A0 l0.length c0 (ji6) (wrap64 (a2 + 1)) q011 ql11 q11 hroom11
            have hr11 := Kd.C_mid (lo := ((ji6) : Int).toNat) (hi := ((wrap64 (a2 + 1)) : Int).toNat) (c := c0) hC11 (by omega) (by omega) hroom11
            obtain ⟨A11, hA11⟩ : ∃ A1, A1 = (if c0 = ((ji6) : Int).toNat then A0 else (A0 : Option Addr).map (·.add (((ji6) : Int).toNat * 5))) := ⟨_, rfl⟩
            obtain ⟨c11, hc11⟩ : ∃ c1, c1 = c0 - ((ji6) : Int).toNat := ⟨_, rfl⟩
            have hy11 : y253.length = ((wrap64 (a2 + 1)) : Int).toNat - ((ji6) : Int).toNat := (by rw [Ny253.out, List.length_drop, List.length_take] <;> omega)
            rw [show ((l0).take ((wrap64 (a2 + 1)) : Int).toNat).drop ((ji6) : Int).toNat = y253 from Ny253.out.symm] at hr11
            replace hr11 : Kd.C k41 _ A11 y253.length y253 := (by rw [hA11]; exact hr11)
            rw [← hy11, ← hA11, ← hc11] at hcut11
            have HR256 := Aside0.mk hr11
            have HC256 := Aside0.mk (show y253.length ≤ c11 from by rw [hy11, hc11]; exact Nat.sub_le_sub_right (Nat.le_trans (by omega) hroom11) _)
            clear hr11 hC11 hroom11 hi011 hsz11 hc11
            have KY11 := Aside0.mk hy11
            have KA11 := Aside0.mk hA11
            clear hy11 hA11
            replace q11 := eq_true q11
            go_enter Try.func46, Try.ntmps46
            go_wp2_with (first | ((with_reducible refine gate_callee (f := 49) rfl ?_); refine goesL_ (some 18) rfl rfl Try.func49 (by kernel_rfl) rfl #[.slice A11 y253.length c11] rfl (by (try simp only [List.map_toArray, List.map_cons, List.map_nil]); first | done | rfl | (simp only [List.length_drop, List.length_take]; rfl)) ?_; (with_reducible refine (spec_l1Copy.calls k _ _ y253 t257 _ ?side1 ?side2 A10.out).mono ?_); (case side1 => repeat (first | exact HR256.out | (with_reducible refine Kd.C_alloc ?_ _) | (with_reducible refine Kd.C_drewN ?_ _) | (with_reducible refine Kd.C_drew ?_))); (case side2 => exact HC256.out); rintro e w12 ⟨v258, rfl, ho0, hb⟩; refine ⟨_, rfl, ?_⟩; have n0_ := Aside0.mk (Kd.R_lower ho0 (below_size (by repeat (first | (with_reducible first | exact HB.out | apply below_alloc | apply pw_below_drewN | apply below_drew1) | exact HB.out)))); have n1_ := Aside0.mk (below_step (by repeat (first | (with_reducible first | exact HB.out | apply below_alloc | apply pw_below_drewN | apply below_drew1) | exact HB.out)) hb); clear HB; have HO259 := n0_; have HB := n1_; clear n0_ n1_; (try clear hb); (try clear hb2); (try clear hk); (try clear hi); (try clear ho0)))
            go_ret
            exact ⟨_, by first | rfl | (simp [errW_none, errW_some] <;> rfl) | (simp only [← hji6]; first | rfl | (simp [errW_none, errW_some] <;> rfl)) | (simp [*, errW_none, errW_some] <;> rfl), by (with_reducible repeat (first | apply Kd.R_alloc | apply Kd.R_drewN | apply Kd.R_drew)); exact HO259.out, by repeat (first | (with_reducible first | exact HB.out | apply below_alloc | apply pw_below_drewN | apply below_drew1) | exact HB.out)⟩
          · rw [if_neg c9] at H
            exact absurd H (by simp)
        · rw [if_neg c8] at H
          exact absurd H (by simp)
      · rw [if_neg c7] at H
        exact absurd H (by simp)
    · rw [if_neg c5] at H
      exact absurd H (by simp)
  · rw [if_neg c4] at H
    exact absurd H (by simp)

end Go.Proofs.Ytoioineibfldcaa.K
end

section
-- Printed by wip/tools/stubprint.py, a driver of mine over the kit's print.py: some callees are proved by hand.
namespace Go.Proofs.Ytoioineibfldcaa.K
open Go.RowKit Go.Proofs.YtoioineibfldcaaW.PrintWords Go.Proofs.YtoioineibfldcaaW.PrintLast Go.Proofs.YtoioineibfldcaaW.PrintMore
attribute [local go_sem] max2_int min2_int max_two min_two max_three min_three max_four min_four   -- for this text's walks alone
set_option linter.unusedVariables false
set_option linter.unusedSimpArgs false

/-! ### spec_Part: function 32 -/
def spec_Part.j0 : Nat → List (S41) → Int → Bool → Option ((List (S41)))
  | 0, _, _, _ => none
  | k + 1, x0, x1, x17 => if x17 = true then (some (([] : List (S41)))) else ((spec_l1Sizes.f x0).bind fun t264 => ((spec_l1Sub.f k x0 t264 x1).bind fun t267 => (some t267)))
def spec_Part.f (k : Nat) (l0 : List (S41)) (a1 : Int) : Option ((List (S41))) := (spec_Good.f k l0).bind fun t260 => (if t260 = true then (if a1 < 0 then (spec_Part.j0 k l0 a1 true) else (spec_Part.j0 k l0 a1 (decide (a1 ≥ (l0.length : Int))))) else (spec_Part.j0 k l0 a1 true))
theorem spec_Part.mono_l : ∀ k, (∀ y0 y1 y2, LeO (spec_Part.j0 k y0 y1 y2) (spec_Part.j0 (k + 1) y0 y1 y2))
  | 0 => fun _ _ _ r h => by simp [spec_Part.j0] at h
  | k + 1 => by
    have ih0 := spec_Part.mono_l k
    · intro y0 y1 y2
      unfold spec_Part.j0
      repeat' first
      | (with_reducible exact ih0 _ _ _)
      | (with_reducible exact spec_Good.mono _ _)
      | (with_reducible exact spec_l1Sub.mono _ _ _ _)
      | (with_reducible exact LeO.refl _)
      | (with_reducible exact LeO.none _)
      | (with_reducible refine LeO.ite ?_ ?_)
      | (with_reducible refine LeO.bind ?_ (fun _ => ?_))
      | exact ih0 _ _ _
      | exact spec_Good.mono _ _
      | exact spec_l1Sub.mono _ _ _ _
      | exact LeO.none _
      | refine LeO.ite ?_ ?_
      | refine LeO.bind ?_ (fun _ => ?_)
theorem spec_Part.mono : ∀ a0 a1 k, LeO (spec_Part.f k a0 a1) (spec_Part.f (k + 1) a0 a1) := by
  intro a0 a1 k
  have ih0 := spec_Part.mono_l k
  unfold spec_Part.f
  repeat' first
      | (with_reducible exact ih0 _ _ _)
      | (with_reducible exact spec_Good.mono _ _)
      | (with_reducible exact spec_l1Sub.mono _ _ _ _)
      | (with_reducible exact LeO.refl _)
      | (with_reducible exact LeO.none _)
      | (with_reducible refine LeO.ite ?_ ?_)
      | (with_reducible refine LeO.bind ?_ (fun _ => ?_))
      | exact ih0 _ _ _
      | exact spec_Good.mono _ _
      | exact spec_l1Sub.mono _ _ _ _
      | exact LeO.none _
      | refine LeO.ite ?_ ?_
      | refine LeO.bind ?_ (fun _ => ?_)
set_option maxHeartbeats 8000000 in
set_option maxRecDepth 100000 in
theorem spec_Part.calls (k : Nat) (A0 : Option Addr) (c0 : Nat) (l0 : List (S41)) (a1 : Int) (r : List (S41)) (w : World) (hr0 : Kd.C k41 w A0 l0.length l0) (hc0 : l0.length ≤ c0) (h : spec_Part.f k l0 a1 = some r) :
    Calls Try.prog 32 #[.slice A0 l0.length c0, .int .i64 a1] w fun e w' => ∃ v0_ : Value, e = .returned (v0_) ∧ Kd.R k41 41 w' w.heap.size (fun _ => True) v0_ r ∧ Below w.heap.size w w' := by
  have HR0 := Aside0.mk hr0
  have HC0 := Aside0.mk hc0
  clear hr0 hc0
  have HB := Aside0.mk (Below.refl w.heap.size w)
  have H : ((spec_Good.f k l0).bind fun t260 => (if t260 = true then (if a1 < 0 then (spec_Part.j0 k l0 a1 true) else (spec_Part.j0 k l0 a1 (decide (a1 ≥ (l0.length : Int))))) else (spec_Part.j0 k l0 a1 true))) = some r := h
  clear h
  have HC3 := Aside0.mk H
  clear H
  go_enter Try.func32, Try.ntmps32
  go_upto_region 1 with (fail)
  go_cut [17] (fun v17 wc => ∃ (kq : Nat) (x17_2 : Bool), v17 = .bool x17_2 ∧ Aside0 (spec_Part.j0 kq l0 a1 x17_2 = some r) ∧ Aside0 (kq ≤ k) ∧ Aside0 (Below w.heap.size w wc))
  case first =>
    have H := HC3.out
    clear HC3
    replace H := Option.bind_eq_some_iff.mp H
    obtain ⟨t260, A40, H⟩ := H
    replace H : (if t260 = true then (if a1 < 0 then (spec_Part.j0 k l0 a1 true) else (spec_Part.j0 k l0 a1 (decide (a1 ≥ (l0.length : Int))))) else (spec_Part.j0 k l0 a1 true)) = some r := H
    have A4 := Aside0.mk A40
    clear A40
    by_cases c5 : t260 = true
    · subst c5
      have H1 : (if a1 < 0 then (spec_Part.j0 k l0 a1 true) else (spec_Part.j0 k l0 a1 (decide (a1 ≥ (l0.length : Int))))) = some r := by rw [if_pos rfl] at H; exact H
      clear H
      have H := H1
      clear H1
      by_cases c6 : a1 < 0
      · rw [if_pos c6] at H
        have c6b0 : decide (a1 < 0) = true := decide_eq_true c6
        clear c6
        (first | rw [c6b0] | (simp only [i64_w, i32_w]; rw [c6b0]) | skip)
        have H' := Aside0.mk H
        clear H
        go_wp2_with (first | ((with_reducible refine gate_callee (f := 18) rfl ?_); refine goesL_ (some 6) rfl rfl Try.func18 (by kernel_rfl) rfl #[.slice A0 l0.length c0] rfl (by (try simp only [List.map_toArray, List.map_cons, List.map_nil]); first | done | rfl | (simp only [List.length_drop, List.length_take]; rfl)) ?_; (with_reducible refine (spec_Good.calls k _ _ l0 true _ ?side1 ?side2 A4.out).mono ?_); (case side1 => repeat (first | exact (Kd.C_below HR0.out HB.out) | (with_reducible refine Kd.C_alloc ?_ _) | (with_reducible refine Kd.C_drewN ?_ _) | (with_reducible refine Kd.C_drew ?_))); (case side2 => exact HC0.out); rintro e w7 ⟨rfl, hb⟩; refine ⟨_, rfl, ?_⟩; have n0_ := Aside0.mk (below_step (by repeat (first | (with_reducible first | exact HB.out | apply below_alloc | apply pw_below_drewN | apply below_drew1) | exact HB.out)) hb); clear HB; have HB := n0_; clear n0_; (try clear hb); (try clear hb2); (try clear hk); (try clear hi)))
        go_meet
        case rel => exact ⟨_, (true), (by first | rfl | (simp; done) | (simp [*]; done)), H', ⟨by first | omega | exact Nat.le_refl _⟩, ⟨by repeat (first | (with_reducible first | exact HB.out | apply below_alloc | apply pw_below_drewN | apply below_drew1) | exact HB.out)⟩⟩
      · rw [if_neg c6] at H
        have c6b0 : decide (a1 < 0) = false := decide_eq_false c6
        clear c6
        (first | rw [c6b0] | (simp only [i64_w, i32_w]; rw [c6b0]) | skip)
        have H' := Aside0.mk H
        clear H
        go_wp2_with (first | ((with_reducible refine gate_callee (f := 18) rfl ?_); refine goesL_ (some 6) rfl rfl Try.func18 (by kernel_rfl) rfl #[.slice A0 l0.length c0] rfl (by (try simp only [List.map_toArray, List.map_cons, List.map_nil]); first | done | rfl | (simp only [List.length_drop, List.length_take]; rfl)) ?_; (with_reducible refine (spec_Good.calls k _ _ l0 true _ ?side1 ?side2 A4.out).mono ?_); (case side1 => repeat (first | exact (Kd.C_below HR0.out HB.out) | (with_reducible refine Kd.C_alloc ?_ _) | (with_reducible refine Kd.C_drewN ?_ _) | (with_reducible refine Kd.C_drew ?_))); (case side2 => exact HC0.out); rintro e w8 ⟨rfl, hb⟩; refine ⟨_, rfl, ?_⟩; have n0_ := Aside0.mk (below_step (by repeat (first | (with_reducible first | exact HB.out | apply below_alloc | apply pw_below_drewN | apply below_drew1) | exact HB.out)) hb); clear HB; have HB := n0_; clear n0_; (try clear hb); (try clear hb2); (try clear hk); (try clear hi)))
        go_meet
        case rel => exact ⟨_, (decide (a1 ≥ (l0.length : Int))), (by first | rfl | (simp; done) | (simp [*]; done)), H', ⟨by first | omega | exact Nat.le_refl _⟩, ⟨by repeat (first | (with_reducible first | exact HB.out | apply below_alloc | apply pw_below_drewN | apply below_drew1) | exact HB.out)⟩⟩
    · replace c5 := Bool.eq_false_iff.mpr c5
      subst c5
      have H1 : (spec_Part.j0 k l0 a1 true) = some r := by rw [if_neg (show ¬ (false = true) by decide)] at H; exact H
      clear H
      have H := H1
      clear H1
      have H' := Aside0.mk H
      clear H
      go_wp2_with (first | ((with_reducible refine gate_callee (f := 18) rfl ?_); refine goesL_ (some 6) rfl rfl Try.func18 (by kernel_rfl) rfl #[.slice A0 l0.length c0] rfl (by (try simp only [List.map_toArray, List.map_cons, List.map_nil]); first | done | rfl | (simp only [List.length_drop, List.length_take]; rfl)) ?_; (with_reducible refine (spec_Good.calls k _ _ l0 false _ ?side1 ?side2 A4.out).mono ?_); (case side1 => repeat (first | exact (Kd.C_below HR0.out HB.out) | (with_reducible refine Kd.C_alloc ?_ _) | (with_reducible refine Kd.C_drewN ?_ _) | (with_reducible refine Kd.C_drew ?_))); (case side2 => exact HC0.out); rintro e w9 ⟨rfl, hb⟩; refine ⟨_, rfl, ?_⟩; have n0_ := Aside0.mk (below_step (by repeat (first | (with_reducible first | exact HB.out | apply below_alloc | apply pw_below_drewN | apply below_drew1) | exact HB.out)) hb); clear HB; have HB := n0_; clear n0_; (try clear hb); (try clear hb2); (try clear hk); (try clear hi)))
      go_meet
      case rel => exact ⟨_, (true), (by first | rfl | (simp; done) | (simp [*]; done)), H', ⟨by first | omega | exact Nat.le_refl _⟩, ⟨by repeat (first | (with_reducible first | exact HB.out | apply below_alloc | apply pw_below_drewN | apply below_drew1) | exact HB.out)⟩⟩
  case rest =>
    clear HC3
    try clear c1
    try clear p2
    try clear c3
    try clear c5
    try clear c6
    try clear c6b0
    obtain ⟨kq, x17_2, rfl, HA, HJ2, HB⟩ := hcut
    cases kq with
    | zero => exact absurd HA.out (by simp [spec_Part.j0])
    | succ kj2 =>
      have H := HA.out
      clear HA
      simp only [spec_Part.j0] at H
      by_cases c10 : x17_2 = true
      · subst c10
        have H1 : (some (([] : List (S41)))) = some r := by rw [if_pos rfl] at H; exact H
        clear H
        have H := H1
        clear H1
        obtain ⟨y261, hy261⟩ : ∃ y_ : List (S41), y_ = (([] : List (S41))) := ⟨_, rfl⟩
        replace H : (some y261) = some r := by first | (rw [hy261]; with_reducible exact H) | (have H2_ := (Option.bind_some _ _).symm.trans H; rw [hy261]; with_reducible exact H2_) | (have H2_ := (Option.bind_some _ _).symm.trans H; with_reducible exact H2_) | with_reducible exact H | (rw [hy261]; exact H) | exact H
        have Ny261 := Aside0.mk hy261
        clear hy261
        obtain rfl := Option.some.inj H
        go_wp2_with (first | ((with_reducible refine gate_dst (N := 18) rfl ?_); (try (refine gate_guard (by rfl) ?_; dsimp only)); refine Kd.R_lit k41 _ 41 ?hg (N := 18) ?hd (xs := ([] : List (S41))) (inner := []) (ok := fun _ => True) (okp := fun _ => True) ?hr ?hp (fun _ hk => hk) trivial (Below.refl _ _) (Nat.le_refl _) (by simp) ?_; (case hd => rfl); (case hg => rfl); (case hr => first | (go_simp; done) | (go_simp; rfl)); (case hp => exact (Reps.none _ _)); intro v262 w11 ho12 hb hg_ hnew_; clear hg_ hnew_; (first | rw [← Ny261.out] at ho12 | (simp only [Int.reduceToNat] at ho12; rw [← Ny261.out] at ho12)); have n0_ := Aside0.mk (Kd.R_lower ho12 (below_size (by repeat (first | (with_reducible first | exact HB.out | apply below_alloc | apply pw_below_drewN | apply below_drew1) | exact HB.out)))); have n1_ := Aside0.mk (below_step (by repeat (first | (with_reducible first | exact HB.out | apply below_alloc | apply pw_below_drewN | apply below_drew1) | exact HB.out)) hb); clear HB; have HO263 := n0_; have HB := n1_; clear n0_ n1_; clear hb ho12))
        go_ret
        exact ⟨_, by first | rfl | (simp [errW_none, errW_some] <;> rfl) | (simp [*, errW_none, errW_some] <;> rfl), by (with_reducible repeat (first | apply Kd.R_alloc | apply Kd.R_drewN | apply Kd.R_drew)); exact HO263.out, by repeat (first | (with_reducible first | exact HB.out | apply below_alloc | apply pw_below_drewN | apply below_drew1) | exact HB.out)⟩
      · replace c10 := Bool.eq_false_iff.mpr c10
        subst c10
        have H1 : ((spec_l1Sizes.f l0).bind fun t264 => ((spec_l1Sub.f kj2 l0 t264 a1).bind fun t267 => (some t267))) = some r := by rw [if_neg (show ¬ (false = true) by decide)] at H; exact H
        clear H
        have H := H1
        clear H1
        replace H := Option.bind_eq_some_iff.mp H
        obtain ⟨t264, A130, H⟩ := H
        replace H : ((spec_l1Sub.f kj2 l0 t264 a1).bind fun t267 => (some t267)) = some r := H
        have A13 := Aside0.mk A130
        clear A130
        replace H := Option.bind_eq_some_iff.mp H
        obtain ⟨t267, A140, H⟩ := H
        replace H : (some t267) = some r := H
        have A14 := Aside0.mk A140
        clear A140
        obtain rfl := Option.some.inj H
        go_wp2_with (first | ((with_reducible refine gate_callee (f := 41) rfl ?_); refine goesL_ (some 21) rfl rfl Try.func41 (by kernel_rfl) rfl #[.slice A0 l0.length c0] rfl (by (try simp only [List.map_toArray, List.map_cons, List.map_nil]); first | done | rfl | (simp only [List.length_drop, List.length_take]; rfl)) ?_; (with_reducible refine (spec_l1Sizes.calls _ _ l0 t264 _ ?side1 ?side2 A13.out).mono ?_); (case side1 => repeat (first | exact (Kd.C_below HR0.out HB.out) | (with_reducible refine Kd.C_alloc ?_ _) | (with_reducible refine Kd.C_drewN ?_ _) | (with_reducible refine Kd.C_drew ?_))); (case side2 => exact HC0.out); rintro e w15 ⟨v265, rfl, ho0, hb⟩; refine ⟨_, rfl, ?_⟩; have n0_ := Aside0.mk (Kd.R_lower ho0 (below_size (by repeat (first | (with_reducible first | exact HB.out | apply below_alloc | apply pw_below_drewN | apply below_drew1) | exact HB.out)))); have n1_ := Aside0.mk (below_step (by repeat (first | (with_reducible first | exact HB.out | apply below_alloc | apply pw_below_drewN | apply below_drew1) | exact HB.out)) hb); clear HB; have HO266 := n0_; have HB := n1_; clear n0_ n1_; (try clear hb); (try clear hb2); (try clear hk); (try clear hi); (try clear ho0); obtain ⟨Ao16, co16, eo16⟩ := Kd.R_slice HO266.out; subst eo16) | ((with_reducible refine gate_callee (f := 46) rfl ?_); refine goesL_ (some 23) rfl rfl Try.func46 (by kernel_rfl) rfl #[.slice A0 l0.length c0, .slice Ao16 t264.length co16, .int .i64 a1] rfl (by (try simp only [List.map_toArray, List.map_cons, List.map_nil]); first | done | rfl | (simp only [List.length_drop, List.length_take]; rfl)) ?_; (with_reducible refine (spec_l1Sub.calls kj2 _ _ l0 _ _ t264 a1 t267 _ ?side1 ?side2 ?side3 ?side4 A14.out).mono ?_); (case side1 => repeat (first | exact (Kd.C_below HR0.out HB.out) | (with_reducible refine Kd.C_alloc ?_ _) | (with_reducible refine Kd.C_drewN ?_ _) | (with_reducible refine Kd.C_drew ?_))); (case side2 => exact HC0.out); (case side3 => repeat (first | exact (Kd.R_reads' HO266.out).2.2 | (with_reducible refine Kd.C_alloc ?_ _) | (with_reducible refine Kd.C_drewN ?_ _) | (with_reducible refine Kd.C_drew ?_))); (case side4 => exact (Kd.R_reads' HO266.out).2.1); rintro e w17 ⟨v268, rfl, ho0, hb⟩; refine ⟨_, rfl, ?_⟩; have n0_ := Aside0.mk (Kd.R_below (by (with_reducible repeat (first | apply Kd.R_alloc | apply Kd.R_drewN | apply Kd.R_drew)); exact HO266.out) hb); have n1_ := Aside0.mk (Kd.R_lower ho0 (below_size (by repeat (first | (with_reducible first | exact HB.out | apply below_alloc | apply pw_below_drewN | apply below_drew1) | exact HB.out)))); have n2_ := Aside0.mk (below_step (by repeat (first | (with_reducible first | exact HB.out | apply below_alloc | apply pw_below_drewN | apply below_drew1) | exact HB.out)) hb); clear HO266; clear HB; have HO266 := n0_; have HO269 := n1_; have HB := n2_; clear n0_ n1_ n2_; (try clear hb); (try clear hb2); (try clear hk); (try clear hi); (try clear ho0)))
        go_ret
        exact ⟨_, by first | rfl | (simp [errW_none, errW_some] <;> rfl) | (simp [*, errW_none, errW_some] <;> rfl), by (with_reducible repeat (first | apply Kd.R_alloc | apply Kd.R_drewN | apply Kd.R_drew)); exact HO269.out, by repeat (first | (with_reducible first | exact HB.out | apply below_alloc | apply pw_below_drewN | apply below_drew1) | exact HB.out)⟩

end Go.Proofs.Ytoioineibfldcaa.K
end

section
-- Printed by wip/tools/stubprint.py, a driver of mine over the kit's print.py: some callees are proved by hand.
namespace Go.Proofs.Ytoioineibfldcaa.K
open Go.RowKit Go.Proofs.YtoioineibfldcaaW.PrintWords Go.Proofs.YtoioineibfldcaaW.PrintLast Go.Proofs.YtoioineibfldcaaW.PrintMore
attribute [local go_sem] max2_int min2_int max_two min_two max_three min_three max_four min_four   -- for this text's walks alone
set_option linter.unusedVariables false
set_option linter.unusedSimpArgs false

/-! ### impl_Part: function 33 -/
def impl_Part.j0 : Nat → List (S41) → Int → Bool → Option ((List (S41)))
  | 0, _, _, _ => none
  | k + 1, x0, x1, x19 => if x19 = true then (some ([] : List (S41))) else ((impl_measure.f x0).bind fun bt271 => (if 0 ≤ x1 then (if x1 < (bt271.2.length : Int) then (if 0 ≤ (rd bt271.2 x1) then (if (rd bt271.2 x1) ≤ (wrap64 (x1 + 1)) then (if (wrap64 (x1 + 1)) ≤ (x0.length : Int) then ((impl_copied.f ((x0.take ((wrap64 (x1 + 1)) : Int).toNat).drop ((rd bt271.2 x1) : Int).toNat)).bind fun t280 => (some t280)) else (none)) else (none)) else (none)) else (none)) else (none)))
def impl_Part.f (k : Nat) (l0 : List (S41)) (a1 : Int) : Option ((List (S41))) := (impl_Good.f l0).bind fun t270 => (if t270 = true then (if a1 < 0 then (impl_Part.j0 k l0 a1 true) else (impl_Part.j0 k l0 a1 (decide (a1 ≥ (l0.length : Int))))) else (impl_Part.j0 k l0 a1 true))
theorem impl_Part.mono_l : ∀ k, (∀ y0 y1 y2, LeO (impl_Part.j0 k y0 y1 y2) (impl_Part.j0 (k + 1) y0 y1 y2))
  | 0 => fun _ _ _ r h => by simp [impl_Part.j0] at h
  | k + 1 => by
    have ih0 := impl_Part.mono_l k
    · intro y0 y1 y2
      unfold impl_Part.j0
      repeat' first
      | (with_reducible exact ih0 _ _ _)
      | (with_reducible exact LeO.refl _)
      | (with_reducible exact LeO.none _)
      | (with_reducible refine LeO.ite ?_ ?_)
      | (with_reducible refine LeO.bind ?_ (fun _ => ?_))
      | exact ih0 _ _ _
      | exact LeO.none _
      | refine LeO.ite ?_ ?_
      | refine LeO.bind ?_ (fun _ => ?_)
theorem impl_Part.mono : ∀ a0 a1 k, LeO (impl_Part.f k a0 a1) (impl_Part.f (k + 1) a0 a1) := by
  intro a0 a1 k
  have ih0 := impl_Part.mono_l k
  unfold impl_Part.f
  repeat' first
      | (with_reducible exact ih0 _ _ _)
      | (with_reducible exact LeO.refl _)
      | (with_reducible exact LeO.none _)
      | (with_reducible refine LeO.ite ?_ ?_)
      | (with_reducible refine LeO.bind ?_ (fun _ => ?_))
      | exact ih0 _ _ _
      | exact LeO.none _
      | refine LeO.ite ?_ ?_
      | refine LeO.bind ?_ (fun _ => ?_)
set_option maxHeartbeats 8000000 in
set_option maxRecDepth 100000 in
theorem impl_Part.calls (k : Nat) (A0 : Option Addr) (c0 : Nat) (l0 : List (S41)) (a1 : Int) (r : List (S41)) (w : World) (hr0 : Kd.C k41 w A0 l0.length l0) (hc0 : l0.length ≤ c0) (h : impl_Part.f k l0 a1 = some r) :
    Calls Try.prog 33 #[.slice A0 l0.length c0, .int .i64 a1] w fun e w' => ∃ v0_ : Value, e = .returned (v0_) ∧ Kd.R k41 41 w' w.heap.size (fun _ => True) v0_ r ∧ Below w.heap.size w w' := by
  have HR0 := Aside0.mk hr0
  have HC0 := Aside0.mk hc0
  clear hr0 hc0
  have HB := Aside0.mk (Below.refl w.heap.size w)
  have H : ((impl_Good.f l0).bind fun t270 => (if t270 = true then (if a1 < 0 then (impl_Part.j0 k l0 a1 true) else (impl_Part.j0 k l0 a1 (decide (a1 ≥ (l0.length : Int))))) else (impl_Part.j0 k l0 a1 true))) = some r := h
  clear h
  have HC3 := Aside0.mk H
  clear H
  go_enter Try.func33, Try.ntmps33
  go_upto_region 1 with (fail)
  go_cut [19] (fun v19 wc => ∃ (kq : Nat) (x19_2 : Bool), v19 = .bool x19_2 ∧ Aside0 (impl_Part.j0 kq l0 a1 x19_2 = some r) ∧ Aside0 (kq ≤ k) ∧ Aside0 (Below w.heap.size w wc))
  case first =>
    have H := HC3.out
    clear HC3
    replace H := Option.bind_eq_some_iff.mp H
    obtain ⟨t270, A40, H⟩ := H
    replace H : (if t270 = true then (if a1 < 0 then (impl_Part.j0 k l0 a1 true) else (impl_Part.j0 k l0 a1 (decide (a1 ≥ (l0.length : Int))))) else (impl_Part.j0 k l0 a1 true)) = some r := H
    have A4 := Aside0.mk A40
    clear A40
    by_cases c5 : t270 = true
    · subst c5
      have H1 : (if a1 < 0 then (impl_Part.j0 k l0 a1 true) else (impl_Part.j0 k l0 a1 (decide (a1 ≥ (l0.length : Int))))) = some r := by rw [if_pos rfl] at H; exact H
      clear H
      have H := H1
      clear H1
      by_cases c6 : a1 < 0
      · rw [if_pos c6] at H
        have c6b0 : decide (a1 < 0) = true := decide_eq_true c6
        clear c6
        (first | rw [c6b0] | (simp only [i64_w, i32_w]; rw [c6b0]) | skip)
        have H' := Aside0.mk H
        clear H
        go_wp2_with (first | ((with_reducible refine gate_callee (f := 19) rfl ?_); refine goesL_ (some 8) rfl rfl Try.func19 (by kernel_rfl) rfl #[.slice A0 l0.length c0] rfl (by (try simp only [List.map_toArray, List.map_cons, List.map_nil]); first | done | rfl | (simp only [List.length_drop, List.length_take]; rfl)) ?_; (with_reducible refine (impl_Good.calls _ _ l0 true _ ?side1 ?side2 A4.out).mono ?_); (case side1 => repeat (first | exact (Kd.C_below HR0.out HB.out) | (with_reducible refine Kd.C_alloc ?_ _) | (with_reducible refine Kd.C_drewN ?_ _) | (with_reducible refine Kd.C_drew ?_))); (case side2 => exact HC0.out); rintro e w7 ⟨rfl, hb⟩; refine ⟨_, rfl, ?_⟩; have n0_ := Aside0.mk (below_step (by repeat (first | (with_reducible first | exact HB.out | apply below_alloc | apply pw_below_drewN | apply below_drew1) | exact HB.out)) hb); clear HB; have HB := n0_; clear n0_; (try clear hb); (try clear hb2); (try clear hk); (try clear hi)))
        go_meet
        case rel => exact ⟨_, (true), (by first | rfl | (simp; done) | (simp [*]; done)), H', ⟨by first | omega | exact Nat.le_refl _⟩, ⟨by repeat (first | (with_reducible first | exact HB.out | apply below_alloc | apply pw_below_drewN | apply below_drew1) | exact HB.out)⟩⟩
      · rw [if_neg c6] at H
        have c6b0 : decide (a1 < 0) = false := decide_eq_false c6
        clear c6
        (first | rw [c6b0] | (simp only [i64_w, i32_w]; rw [c6b0]) | skip)
        have H' := Aside0.mk H
        clear H
        go_wp2_with (first | ((with_reducible refine gate_callee (f := 19) rfl ?_); refine goesL_ (some 8) rfl rfl Try.func19 (by kernel_rfl) rfl #[.slice A0 l0.length c0] rfl (by (try simp only [List.map_toArray, List.map_cons, List.map_nil]); first | done | rfl | (simp only [List.length_drop, List.length_take]; rfl)) ?_; (with_reducible refine (impl_Good.calls _ _ l0 true _ ?side1 ?side2 A4.out).mono ?_); (case side1 => repeat (first | exact (Kd.C_below HR0.out HB.out) | (with_reducible refine Kd.C_alloc ?_ _) | (with_reducible refine Kd.C_drewN ?_ _) | (with_reducible refine Kd.C_drew ?_))); (case side2 => exact HC0.out); rintro e w8 ⟨rfl, hb⟩; refine ⟨_, rfl, ?_⟩; have n0_ := Aside0.mk (below_step (by repeat (first | (with_reducible first | exact HB.out | apply below_alloc | apply pw_below_drewN | apply below_drew1) | exact HB.out)) hb); clear HB; have HB := n0_; clear n0_; (try clear hb); (try clear hb2); (try clear hk); (try clear hi)))
        go_meet
        case rel => exact ⟨_, (decide (a1 ≥ (l0.length : Int))), (by first | rfl | (simp; done) | (simp [*]; done)), H', ⟨by first | omega | exact Nat.le_refl _⟩, ⟨by repeat (first | (with_reducible first | exact HB.out | apply below_alloc | apply pw_below_drewN | apply below_drew1) | exact HB.out)⟩⟩
    · replace c5 := Bool.eq_false_iff.mpr c5
      subst c5
      have H1 : (impl_Part.j0 k l0 a1 true) = some r := by rw [if_neg (show ¬ (false = true) by decide)] at H; exact H
      clear H
      have H := H1
      clear H1
      have H' := Aside0.mk H
      clear H
      go_wp2_with (first | ((with_reducible refine gate_callee (f := 19) rfl ?_); refine goesL_ (some 8) rfl rfl Try.func19 (by kernel_rfl) rfl #[.slice A0 l0.length c0] rfl (by (try simp only [List.map_toArray, List.map_cons, List.map_nil]); first | done | rfl | (simp only [List.length_drop, List.length_take]; rfl)) ?_; (with_reducible refine (impl_Good.calls _ _ l0 false _ ?side1 ?side2 A4.out).mono ?_); (case side1 => repeat (first | exact (Kd.C_below HR0.out HB.out) | (with_reducible refine Kd.C_alloc ?_ _) | (with_reducible refine Kd.C_drewN ?_ _) | (with_reducible refine Kd.C_drew ?_))); (case side2 => exact HC0.out); rintro e w9 ⟨rfl, hb⟩; refine ⟨_, rfl, ?_⟩; have n0_ := Aside0.mk (below_step (by repeat (first | (with_reducible first | exact HB.out | apply below_alloc | apply pw_below_drewN | apply below_drew1) | exact HB.out)) hb); clear HB; have HB := n0_; clear n0_; (try clear hb); (try clear hb2); (try clear hk); (try clear hi)))
      go_meet
      case rel => exact ⟨_, (true), (by first | rfl | (simp; done) | (simp [*]; done)), H', ⟨by first | omega | exact Nat.le_refl _⟩, ⟨by repeat (first | (with_reducible first | exact HB.out | apply below_alloc | apply pw_below_drewN | apply below_drew1) | exact HB.out)⟩⟩
  case rest =>
    clear HC3
    try clear c1
    try clear p2
    try clear c3
    try clear c5
    try clear c6
    try clear c6b0
    obtain ⟨kq, x19_2, rfl, HA, HJ2, HB⟩ := hcut
    cases kq with
    | zero => exact absurd HA.out (by simp [impl_Part.j0])
    | succ kj2 =>
      have H := HA.out
      clear HA
      simp only [impl_Part.j0] at H
      by_cases c10 : x19_2 = true
      · subst c10
        have H1 : (some ([] : List (S41))) = some r := by rw [if_pos rfl] at H; exact H
        clear H
        have H := H1
        clear H1
        obtain rfl := Option.some.inj H
        go_wp2
        go_ret
        exact ⟨_, by first | rfl | (simp [errW_none, errW_some] <;> rfl) | (simp [*, errW_none, errW_some] <;> rfl), by first | exact Kd.R_nil _ _ _ _ _ | exact Kd.N_nil _ _ _ _ _ | exact Kd.V_nil _ _ _ _ _ | exact Kd.Q_nil _ _ _ _ _ | exact Kd.S_nil _ _ _ _ _, by repeat (first | (with_reducible first | exact HB.out | apply below_alloc | apply pw_below_drewN | apply below_drew1) | exact HB.out)⟩
      · replace c10 := Bool.eq_false_iff.mpr c10
        subst c10
        have H1 : ((impl_measure.f l0).bind fun bt271 => (if 0 ≤ a1 then (if a1 < (bt271.2.length : Int) then (if 0 ≤ (rd bt271.2 a1) then (if (rd bt271.2 a1) ≤ (wrap64 (a1 + 1)) then (if (wrap64 (a1 + 1)) ≤ (l0.length : Int) then ((impl_copied.f ((l0.take ((wrap64 (a1 + 1)) : Int).toNat).drop ((rd bt271.2 a1) : Int).toNat)).bind fun t280 => (some t280)) else (none)) else (none)) else (none)) else (none)) else (none))) = some r := by rw [if_neg (show ¬ (false = true) by decide)] at H; exact H
        clear H
        have H := H1
        clear H1
        replace H := Option.bind_eq_some_iff.mp H
        obtain ⟨⟨t271, t272⟩, A110, H⟩ := H
        replace H : (if 0 ≤ a1 then (if a1 < (t272.length : Int) then (if 0 ≤ (rd t272 a1) then (if (rd t272 a1) ≤ (wrap64 (a1 + 1)) then (if (wrap64 (a1 + 1)) ≤ (l0.length : Int) then ((impl_copied.f ((l0.take ((wrap64 (a1 + 1)) : Int).toNat).drop ((rd t272 a1) : Int).toNat)).bind fun t280 => (some t280)) else (none)) else (none)) else (none)) else (none)) else (none)) = some r := H
        have A11 := Aside0.mk A110
        clear A110
        by_cases c12 : 0 ≤ a1
        · rw [if_pos c12] at H
          have c12b0 : decide (0 ≤ a1) = true := decide_eq_true c12
          clear c12
          by_cases c13 : a1 < (t272.length : Int)
          · rw [if_pos c13] at H
            have c13b0 : decide (a1 < (t272.length : Int)) = true := decide_eq_true c13
            clear c13
            by_cases c14 : 0 ≤ (rd t272 a1)
            · rw [if_pos c14] at H
              have c14b0 := eq_true c14
              have c14b1 : decide (0 ≤ (rd t272 a1)) = true := decide_eq_true c14
              clear c14
              by_cases c15 : (rd t272 a1) ≤ (wrap64 (a1 + 1))
              · rw [if_pos c15] at H
                have c15b0 := eq_true c15
                have c15b1 : decide ((rd t272 a1) ≤ (wrap64 (a1 + 1))) = true := decide_eq_true c15
                by_cases c16 : (wrap64 (a1 + 1)) ≤ (l0.length : Int)
                · rw [if_pos c16] at H
                  have c16b0 := eq_true c16
                  have c16b1 : decide ((wrap64 (a1 + 1)) ≤ (l0.length : Int)) = true := decide_eq_true c16
                  obtain ⟨y276, hy276⟩ : ∃ y_ : List (S41), y_ = ((l0.take ((wrap64 (a1 + 1)) : Int).toNat).drop ((rd t272 a1) : Int).toNat) := ⟨_, rfl⟩
                  replace H : ((impl_copied.f y276).bind fun t280 => (some t280)) = some r := by first | (rw [hy276]; with_reducible exact H) | (have H2_ := (Option.bind_some _ _).symm.trans H; rw [hy276]; with_reducible exact H2_) | (have H2_ := (Option.bind_some _ _).symm.trans H; with_reducible exact H2_) | with_reducible exact H | (rw [hy276]; exact H) | exact H
                  have Ny276 := Aside0.mk hy276
                  clear hy276
                  replace H := Option.bind_eq_some_iff.mp H
                  obtain ⟨t280, A170, H⟩ := H
                  replace H : (some t280) = some r := H
                  have A17 := Aside0.mk A170
                  clear A170
                  obtain rfl := Option.some.inj H
                  go_wp2_with (first | ((with_reducible refine gate_callee (f := 43) rfl ?_); refine goesL_ (some 22) rfl rfl Try.func43 (by kernel_rfl) rfl #[.slice A0 l0.length c0] rfl (by (try simp only [List.map_toArray, List.map_cons, List.map_nil]); first | done | rfl | (simp only [List.length_drop, List.length_take]; rfl)) ?_; (with_reducible refine (impl_measure.calls _ _ l0 t271 t272 _ ?side1 ?side2 A11.out).mono ?_); (case side1 => repeat (first | exact (Kd.C_below HR0.out HB.out) | (with_reducible refine Kd.C_alloc ?_ _) | (with_reducible refine Kd.C_drewN ?_ _) | (with_reducible refine Kd.C_drew ?_))); (case side2 => exact HC0.out); rintro e w18 ⟨v273, rfl, ho0, hb⟩; refine ⟨_, rfl, ?_⟩; have n0_ := Aside0.mk (Kd.R_lower ho0 (below_size (by repeat (first | (with_reducible first | exact HB.out | apply below_alloc | apply pw_below_drewN | apply below_drew1) | exact HB.out)))); have n1_ := Aside0.mk (below_step (by repeat (first | (with_reducible first | exact HB.out | apply below_alloc | apply pw_below_drewN | apply below_drew1) | exact HB.out)) hb); clear HB; have HO274 := n0_; have HB := n1_; clear n0_ n1_; (try clear hb); (try clear hb2); (try clear hk); (try clear hi); (try clear ho0); obtain ⟨Ao19, co19, eo19⟩ := Kd.R_slice HO274.out; subst eo19; have p275 : 0 ≤ (a1 : Int) := of_decide_eq_true (by first | (with_reducible assumption) | assumption); have q275 : a1 < (t272.length : Int) := of_decide_eq_true (by first | (with_reducible assumption) | assumption); obtain ⟨ad275, e275, hx275_0⟩ := Kd.at_int (Kd.R_reads' HO274.out).2.2 a1 p275 q275; cases e275; replace p275 := eq_true p275; replace q275 := eq_true q275; have q20 : ((wrap64 (a1 + 1)) : Int) ≤ ((l0.length : Int) : Int) := of_decide_eq_true (by first | (with_reducible assumption) | assumption); obtain ⟨i020, hi020, _, hsz20, _⟩ := info_parts info41; have hroom20 : l0.length ≤ c0 := HC0.out; have hC20 : Kd.C k41 _ A0 l0.length l0 := HR0.out; have ql20 : ((rd t272 a1) : Int) ≤ ((wrap64 (a1 + 1)) : Int) := of_decide_eq_true (by first | (with_reducible assumption) | assumption); have q020 : (0 : Int) ≤ ((rd t272 a1) : Int) := of_decide_eq_true (by first | (with_reducible assumption) | assumption); have hcut20 := cut_mid (P := Try.prog) 26 41 .i64 .i64 Try.underlying26 hi020 5 hsz20 A0 l0.length c0 (rd t272 a1) (wrap64 (a1 + 1)) q020 ql20 q20 hroom20; have hr20 := Kd.C_mid (lo := ((rd t272 a1) : Int).toNat) (hi := ((wrap64 (a1 + 1)) : Int).toNat) (c := c0) hC20 (by omega) (by omega) hroom20; obtain ⟨A20, hA20⟩ : ∃ A1, A1 = (if c0 = ((rd t272 a1) : Int).toNat then A0 else (A0 : Option Addr).map (·.add (((rd t272 a1) : Int).toNat * 5))) := ⟨_, rfl⟩; obtain ⟨c20, hc20⟩ : ∃ c1, c1 = c0 - ((rd t272 a1) : Int).toNat := ⟨_, rfl⟩; have hy20 : y276.length = ((wrap64 (a1 + 1)) : Int).toNat - ((rd t272 a1) : Int).toNat := (by rw [Ny276.out, List.length_drop, List.length_take] <;> omega); rw [show ((l0).take ((wrap64 (a1 + 1)) : Int).toNat).drop ((rd t272 a1) : Int).toNat = y276 from Ny276.out.symm] at hr20; replace hr20 : Kd.C k41 _ A20 y276.length y276 := (by rw [hA20]; exact hr20); rw [← hy20, ← hA20, ← hc20] at hcut20; have HR279 := Aside0.mk hr20; have HC279 := Aside0.mk (show y276.length ≤ c20 from by rw [hy20, hc20]; exact Nat.sub_le_sub_right (Nat.le_trans (by omega) hroom20) _); clear hr20 hC20 hroom20 hi020 hsz20 hc20; have KY20 := Aside0.mk hy20; have KA20 := Aside0.mk hA20; clear hy20 hA20; replace q20 := eq_true q20) | ((with_reducible refine gate_callee (f := 47) rfl ?_); refine goesL_ (some 33) rfl rfl Try.func47 (by kernel_rfl) rfl #[.slice A20 y276.length c20] rfl (by (try simp only [List.map_toArray, List.map_cons, List.map_nil]); first | done | rfl | (simp only [List.length_drop, List.length_take]; rfl)) ?_; (with_reducible refine (impl_copied.calls _ _ y276 t280 _ ?side1 ?side2 A17.out).mono ?_); (case side1 => repeat (first | exact (Kd.C_below HR279.out HB.out) | (with_reducible refine Kd.C_alloc ?_ _) | (with_reducible refine Kd.C_drewN ?_ _) | (with_reducible refine Kd.C_drew ?_))); (case side2 => exact HC279.out); rintro e w21 ⟨v281, rfl, ho0, hb⟩; refine ⟨_, rfl, ?_⟩; have n0_ := Aside0.mk (Kd.R_below (by (with_reducible repeat (first | apply Kd.R_alloc | apply Kd.R_drewN | apply Kd.R_drew)); exact HO274.out) hb); have n1_ := Aside0.mk (Kd.R_lower ho0 (below_size (by repeat (first | (with_reducible first | exact HB.out | apply below_alloc | apply pw_below_drewN | apply below_drew1) | exact HB.out)))); have n2_ := Aside0.mk (below_step (by repeat (first | (with_reducible first | exact HB.out | apply below_alloc | apply pw_below_drewN | apply below_drew1) | exact HB.out)) hb); clear HO274; clear HB; have HO274 := n0_; have HO282 := n1_; have HB := n2_; clear n0_ n1_ n2_; (try clear hb); (try clear hb2); (try clear hk); (try clear hi); (try clear ho0)))
                  go_ret
                  exact ⟨_, by first | rfl | (simp [errW_none, errW_some] <;> rfl) | (simp [*, errW_none, errW_some] <;> rfl), by (with_reducible repeat (first | apply Kd.R_alloc | apply Kd.R_drewN | apply Kd.R_drew)); exact HO282.out, by repeat (first | (with_reducible first | exact HB.out | apply below_alloc | apply pw_below_drewN | apply below_drew1) | exact HB.out)⟩
                · rw [if_neg c16] at H
                  exact absurd H (by simp)
              · rw [if_neg c15] at H
                exact absurd H (by simp)
            · rw [if_neg c14] at H
              exact absurd H (by simp)
          · rw [if_neg c13] at H
            exact absurd H (by simp)
        · rw [if_neg c12] at H
          exact absurd H (by simp)

end Go.Proofs.Ytoioineibfldcaa.K
end

section
/-
  The plain laws behind Part: l1Copy, l1Sub, both Parts, and the marks that markNodeS sets and heldNodeS looks for. Conditions: at most 2932031007402 nodes; the marks start at 1 and at most 1000000 nodes are marked.
-/
set_option linter.unusedVariables false
namespace Go.Proofs.Ytoioineibfldcaa.K
open Go.RowKit Go.Proofs.YtoioineibfldcaaW.PrintWords Go.Proofs.YtoioineibfldcaaW.PrintLast Go.Proofs.YtoioineibfldcaaW.PrintMore

theorem run_bd : ∀ (ks : List Int) (st : List (Int × Int)) (i : Nat) (Y fin : List (Int × Int)), run st i ks = some (Y, fin) → (∀ e ∈ st, 0 ≤ e.2 ∧ e.2 < (i : Int)) → ∀ (j : Nat) (e : Int × Int), Y[j]? = some e → 0 ≤ e.2 ∧ e.2 ≤ (i : Int) + j := by
  intro ks
  induction ks with
  | nil => intro st i Y fin h _ j e he; simp [run] at h; obtain ⟨rfl, rfl⟩ := h; simp at he
  | cons k ks ih =>
    intro st i Y fin h hst j e he
    by_cases hb : k < 0 ∨ (st.length : Int) < k
    · rw [run_bad _ _ _ _ hb] at h; cases h
    · rw [run_ok _ _ _ _ hb] at h
      obtain ⟨⟨Y', fin'⟩, h1, h2⟩ := Option.map_eq_some_iff.1 h
      obtain ⟨h3, h4⟩ := Prod.mk.inj h2
      simp only at h3 h4
      subst h3 h4
      have hf := foldKids_snd (1, (i : Int)) i (st.drop (st.length - k.toNat)) (by simp) (fun e he => hst e (List.mem_of_mem_drop he))
      cases j with
      | zero => simp at he; subst he; omega
      | succ j =>
        simp at he
        rw [show ((i : Int) + 1) = ((i + 1 : Nat) : Int) by omega] at h1
        have := ih _ (i + 1) _ _ h1 (fun e he => by
          rcases List.mem_append.1 he with he | he
          · have := hst e (List.mem_of_mem_take he); omega
          · rw [List.mem_singleton.1 he]; omega) j e he
        omega

/-! ### l1Copy, l1Sub -/
theorem copy_loop (l : List S41) (hl : l.length ≤ 2932031007402) (d : Nat) : ∀ (i : Nat), i ≤ l.length → l.length - i = d → Ev (fun k => spec_l1Copy.l0 k l (l.take i) i) l := by
  induction d with
  | zero =>
    intro i hi hd
    refine Ev.step (f := fun _ => some l) (fun k => ?_) (Ev.now _)
    simp only [spec_l1Copy.l0]
    rw [if_neg (by omega), List.take_of_length_le (by omega)]
  | succ d ih =>
    intro i hi hd
    have hlt : i < l.length := by omega
    have hx : rd_T41 l (i : Int) = l[i] := by simp [rd_T41, List.getD_eq_getElem?_getD, hlt]
    refine Ev.step (fun k => ?_) (ih (i + 1) (by omega) (by omega))
    simp only [spec_l1Copy.l0]
    rw [if_pos (by omega), if_pos (by omega), if_pos (by rw [List.length_take]; omega), hx, wrap_succ hlt (by omega), List.take_succ_eq_append_getElem hlt]
theorem copy_ev (l : List S41) (hl : l.length ≤ 2932031007402) : Ev (fun k => spec_l1Copy.f k l) l := by
  have := copy_loop l hl _ 0 (Nat.zero_le _) rfl
  rw [List.take_zero] at this
  exact this
theorem sub_ev (l : List S41) (hl : l.length ≤ 2932031007402) (Y : List (Int × Int)) (i : Nat) (e : Int × Int) (hY : Y.length = l.length) (he : Y[i]? = some e) (h0 : 0 ≤ e.2) (h1 : e.2 ≤ i) :
    Ev (fun k => spec_l1Sub.f k l (szOf 0 Y) i) ((l.take (i + 1)).drop e.2.toNat) := by
  have hi : i < Y.length := (List.getElem?_eq_some_iff.1 he).1
  have hsz : rd (szOf 0 Y) (i : Int) = (i : Int) - e.2 + 1 := by
    rw [rd_nat, List.getD_eq_getElem?_getD, szOf_get Y 0 i e he, Option.getD_some]
    omega
  have hc := copy_ev ((l.take (i + 1)).drop e.2.toNat) (by rw [List.length_drop, List.length_take]; omega)
  refine Ev.congr (f := fun k => (spec_l1Copy.f k ((l.take (i + 1)).drop e.2.toNat)).bind fun t => some t) (fun k => ?_) (Ev.bind hc (Ev.now _))
  unfold spec_l1Sub.f
  rw [hsz, wrap_id (x := (i : Int) - ((i : Int) - e.2 + 1)) (by omega) (by omega), show (i : Int) - ((i : Int) - e.2 + 1) + 1 = e.2 by omega, wrap_id (x := e.2) (by omega) (by omega), wrap_succ (n := Y.length) hi (by omega)]
  rw [if_pos (by omega), if_pos (by rw [szOf_len]; omega), if_pos h0, if_pos (by omega), if_pos (by omega), Int.toNat_natCast]

theorem part_ev (l : List S41) (hl : l.length ≤ 2932031007402) (a : Int) : ∃ t, Ev (fun k => spec_Part.f k l a) t ∧ Ev (fun k => impl_Part.f k l a) t := by
  obtain ⟨b, hg1, hg2, hg3⟩ := good_cases l hl
  have out : ∀ (f : Nat → Option (List S41)), (∀ k, f k = spec_Part.j0 k l a true) → Ev f [] := fun f hf =>
    Ev.congr (f := fun k => spec_Part.j0 k l a true) hf (Ev.step (f := fun _ => some []) (fun k => by rw [spec_Part.j0, if_pos rfl]) (Ev.now _))
  have outi : ∀ (f : Nat → Option (List S41)), (∀ k, f k = impl_Part.j0 k l a true) → Ev f [] := fun f hf =>
    Ev.congr (f := fun k => impl_Part.j0 k l a true) hf (Ev.step (f := fun _ => some []) (fun k => by rw [impl_Part.j0, if_pos rfl]) (Ev.now _))
  cases b with
  | false =>
    refine ⟨[], Ev.bind hg1 (out _ (fun k => if_neg (by simp))), outi _ (fun k => ?_)⟩
    rw [impl_Part.f, hg2, Option.bind_some, if_neg (by simp)]
  | true =>
    obtain ⟨Y, x, o⟩ := hg3 rfl
    by_cases ha : a < 0
    · refine ⟨[], Ev.bind hg1 (out _ (fun k => ?_)), outi _ (fun k => ?_)⟩
      · rw [if_pos rfl, if_pos ha]
      · rw [impl_Part.f, hg2, Option.bind_some, if_pos rfl, if_pos ha]
    by_cases ha2 : a ≥ (l.length : Int)
    · refine ⟨[], Ev.bind hg1 (out _ (fun k => ?_)), outi _ (fun k => ?_)⟩
      · rw [if_pos rfl, if_neg ha, decide_eq_true ha2]
      · rw [impl_Part.f, hg2, Option.bind_some, if_pos rfl, if_neg ha, decide_eq_true ha2]
    obtain ⟨n, rfl⟩ : ∃ n : Nat, a = n := ⟨a.toNat, by omega⟩
    have hlen := o.len
    have hnY : n < Y.length := by omega
    have hy : Y[n]? = some Y[n] := List.getElem?_eq_getElem hnY
    have hbd := run_bd _ _ 0 _ _ o.run_ (by simp) n _ hy
    have hs := sub_ev l hl Y n _ hlen hy hbd.1 (by omega)
    refine ⟨_, Ev.bind hg1 (Ev.congr (f := fun k => spec_Part.j0 k l n false) (fun k => ?_) (Ev.step (fun k => ?_) (Ev.bind hs (Ev.now _)))), Ev.congr (f := fun k => impl_Part.j0 k l n false) (fun k => ?_) (Ev.step (f := fun k => some ((l.take (n + 1)).drop Y[n].2.toNat)) (fun k => ?_) (Ev.now _))⟩
    · rw [if_pos rfl, if_neg ha, decide_eq_false ha2]
    · rw [spec_Part.j0, if_neg (by simp), o.sizes, Option.bind_some]
    · rw [impl_Part.f, hg2, Option.bind_some, if_pos rfl, if_neg ha, decide_eq_false ha2]
    · have hrd : rd (Y.map (·.2)) (n : Int) = Y[n].2 := by rw [rd_nat, List.getD_eq_getElem?_getD, List.getElem?_map, hy]; rfl
      rw [impl_Part.j0, if_neg (by simp), o.meas, Option.bind_some]
      simp only [hrd]
      rw [wrap_succ (n := Y.length) hnY (by omega), if_pos (by omega), if_pos (by rw [List.length_map]; omega), if_pos hbd.1, if_pos (by omega), if_pos (by omega), Int.toNat_natCast]
      unfold impl_copied.f
      rw [if_pos (by rw [List.length_drop, List.length_take]; omega)]
      rfl

/-! ### the marks -/
theorem markText_loop : ∀ (d : Nat) (a : Int) (s : ByteArray), a.toNat ≤ d → a ≤ 1000000000 → s.size + d ≤ 9223372036854775800 → ∃ t, Ev (fun k => laws_markText.l0 k a s) t := by
  intro d
  induction d with
  | zero =>
    intro a s h1 _ h2
    refine ⟨(⟨#[109]⟩ : ByteArray) ++ s, Ev.step (f := fun _ => some ((⟨#[109]⟩ : ByteArray) ++ s)) (fun k => ?_) (Ev.now _)⟩
    rw [laws_markText.l0, if_neg (by omega), if_pos (by omega)]
  | succ d ih =>
    intro a s h1 h3 h2
    by_cases h : a > 0
    · have hd : Int.tdiv a 10 = a / 10 := Int.tdiv_eq_ediv_of_nonneg (by omega)
      have hw : wrap64 (Int.tdiv a 10) = a / 10 := by rw [hd]; exact wrap_id (by omega) (by omega)
      obtain ⟨t, ht⟩ := ih (a / 10) (strOfNums [(wrap64 (48 + (Int.tmod a 10))) % 256] ++ s) (by omega) (by omega) (by rw [ByteArray.size_append, strOfNums_size]; simp; omega)
      refine ⟨t, Ev.step (fun k => ?_) ht⟩
      rw [laws_markText.l0, if_pos h, Option.bind_some, if_pos (by rw [strOfNums_size]; simp; omega), hw]
    · refine ⟨(⟨#[109]⟩ : ByteArray) ++ s, Ev.step (f := fun _ => some ((⟨#[109]⟩ : ByteArray) ++ s)) (fun k => ?_) (Ev.now _)⟩
      rw [laws_markText.l0, if_neg h, if_pos (by omega)]
theorem markText_ex (a : Int) (ha : a ≤ 1000000000) : ∃ t, Ev (fun k => laws_markText.f k a) t := by
  by_cases h : a ≤ 0
  · exact ⟨_, Ev.congr (fun k => by rw [laws_markText.f, if_pos h]) (Ev.now _)⟩
  · obtain ⟨t, ht⟩ := markText_loop a.toNat a (⟨#[]⟩ : ByteArray) (Nat.le_refl _) ha (by have : (⟨#[]⟩ : ByteArray).size = 0 := rfl; omega)
    exact ⟨t, Ev.congr (fun k => by rw [laws_markText.f, if_neg h]) ht⟩
open Classical in
noncomputable def mt (a : Int) : ByteArray := if h : ∃ t, Ev (fun k => laws_markText.f k a) t then h.choose else ⟨#[]⟩
theorem mt_ev (a : Int) (ha : a ≤ 1000000000) : Ev (fun k => laws_markText.f k a) (mt a) := by
  have h := markText_ex a ha
  unfold mt
  rw [dif_pos h]
  exact h.choose_spec
/-- The node that the marks from a on make. -/
noncomputable def mk (a : Int) : S41 := ⟨a, a + 1, mt (a + 2), a + 3, a + 4⟩
noncomputable def mks (a : Int) (n : Nat) : List S41 := (List.range n).map (fun j : Nat => mk (a + 5 * (j : Int)))
theorem mks_len (a : Int) (n : Nat) : (mks a n).length = n := by simp [mks]
theorem mks_get (a : Int) (n i : Nat) (h : i < n) : (mks a n)[i]'(by rw [mks_len]; exact h) = mk (a + 5 * i) := by simp [mks]
theorem mks_rd (a : Int) (n i : Nat) (h : i < n) : rd_T41 (mks a n) (i : Int) = mk (a + 5 * i) := by
  rw [rd_T41, Int.toNat_natCast, List.getD_eq_getElem?_getD, List.getElem?_eq_getElem (by rw [mks_len]; exact h), Option.getD_some, mks_get _ _ _ h]
theorem rd_set (l : List S41) (i : Nat) (x : S41) (h : i < l.length) : rd_T41 (l.set i x) (i : Int) = x := by
  rw [rd_T41, Int.toNat_natCast, List.getD_eq_getElem?_getD, List.getElem?_set_self h]
  rfl
theorem mark_step (l : List S41) (b : Int) (i k : Nat) (hb0 : 0 ≤ b) (hb : b ≤ 900000000) (hlt : i < l.length) (hl : l.length ≤ 900000000) :
    laws_markNodeS.l0 (k + 1) l b i = (laws_markText.f k (b + 2)).bind fun t => laws_markNodeS.l0 k (l.set i ⟨b, b + 1, t, b + 3, b + 4⟩) (b + 5) ((i + 1 : Nat) : Int) := by
  have w1 : wrap64 (b + 1) = b + 1 := wrap_id (by omega) (by omega)
  have w2 : wrap64 (b + 1 + 1) = b + 2 := by rw [wrap_id (by omega) (by omega)]; omega
  have w3 : wrap64 (b + 2 + 1) = b + 3 := by rw [wrap_id (by omega) (by omega)]; omega
  have w4 : wrap64 (b + 3 + 1) = b + 4 := by rw [wrap_id (by omega) (by omega)]; omega
  have w5 : wrap64 (b + 4 + 1) = b + 5 := by rw [wrap_id (by omega) (by omega)]; omega
  have w6 : wrap64 ((i : Int) + 1) = ((i + 1 : Nat) : Int) := wrap_succ hlt (by omega)
  have hi : (i : Int) < (l.length : Int) := by omega
  have hi0 : (0 : Int) ≤ (i : Int) := by omega
  rw [laws_markNodeS.l0, if_pos hi, if_pos hi0]
  simp only [Option.bind_some, w1, w2, w3, w4, w5, w6, Int.toNat_natCast]
  congr 1
  funext t
  rw [rd_set l i _ hlt]
  simp only [List.set_set]
  rw [rd_set l i _ hlt]
  simp only []
  rw [rd_set l i _ hlt]
  simp only []
  rw [rd_set l i _ hlt]
theorem mark_loop (a : Int) (n : Nat) (ha : 0 ≤ a) (hn : a + 5 * n ≤ 900000000) (d : Nat) : ∀ (i : Nat) (l : List S41) (b : Int), b = a + 5 * i → l.length = n → i ≤ n → n - i = d → l.take i = (mks a n).take i →
    Ev (fun k => laws_markNodeS.l0 k l b i) (a + 5 * n, mks a n) := by
  induction d with
  | zero =>
    intro i l b hb hl hi hd ht
    obtain rfl : i = n := by omega
    rw [List.take_of_length_le (by omega), List.take_of_length_le (by rw [mks_len]; omega)] at ht
    subst hb
    have hi : ¬ ((i : Int) < (l.length : Int)) := by omega
    refine Ev.step (f := fun _ => some (a + 5 * (i : Int), mks a i)) (fun k => ?_) (Ev.now _)
    rw [laws_markNodeS.l0, if_neg hi, ht]
  | succ d ih =>
    intro i l b hb hl hi hd ht
    have hlt : i < l.length := by omega
    have hm := mt_ev (b + 2) (by omega)
    have hnext := ih (i + 1) (l.set i ⟨b, b + 1, mt (b + 2), b + 3, b + 4⟩) (b + 5) (by omega) (by rw [List.length_set]; exact hl) (by omega) (by omega) (by
      rw [List.take_succ_eq_append_getElem (by rw [List.length_set]; omega), List.take_succ_eq_append_getElem (by rw [mks_len]; omega), List.take_set_of_le (Nat.le_refl _), ht, mks_get _ _ _ (by omega)]
      rw [List.getElem_set_self, hb]
      rfl)
    obtain ⟨K1, h1⟩ := hm
    obtain ⟨K2, h2⟩ := hnext
    refine ⟨K1 + K2 + 1, fun k hk => ?_⟩
    obtain ⟨k, rfl⟩ : ∃ k', k = k' + 1 := ⟨k - 1, by omega⟩
    have h3 := h1 k (by omega)
    simp only at h3
    show laws_markNodeS.l0 (k + 1) l b i = _
    rw [mark_step l b i k (by omega) (by omega) hlt (by omega), h3, Option.bind_some]
    exact h2 k (by omega)
theorem mark_ev (l : List S41) (a : Int) (ha : 0 ≤ a) (hl : a + 5 * l.length ≤ 900000000) : Ev (fun k => laws_markNodeS.f k l a) (a + 5 * l.length, mks a l.length) :=
  mark_loop a l.length ha hl _ 0 l a (by omega) rfl (Nat.zero_le _) rfl (by simp)
theorem held_step (a : Int) (n i k : Nat) (b : Int) (hb : b = a + 5 * i) (hb0 : 0 ≤ b) (hb1 : b ≤ 900000000) (hlt : i < n) (hn : n ≤ 900000000) :
    laws_heldNodeS.l0 (k + 1) (mks a n) b i = (laws_markText.f k (b + 2)).bind fun t => if (mt (b + 2)).toList = t.toList then laws_heldNodeS.l0 k (mks a n) (b + 5) ((i + 1 : Nat) : Int) else some (-1) := by
  have w1 : wrap64 (b + 1) = b + 1 := wrap_id (by omega) (by omega)
  have w2 : wrap64 (b + 1 + 1) = b + 2 := by rw [wrap_id (by omega) (by omega)]; omega
  have w3 : wrap64 (b + 2 + 1) = b + 3 := by rw [wrap_id (by omega) (by omega)]; omega
  have w4 : wrap64 (b + 3 + 1) = b + 4 := by rw [wrap_id (by omega) (by omega)]; omega
  have w5 : wrap64 (b + 4 + 1) = b + 5 := by rw [wrap_id (by omega) (by omega)]; omega
  have w6 : wrap64 ((i : Int) + 1) = ((i + 1 : Nat) : Int) := wrap_succ hlt (by omega)
  have hi : (i : Int) < ((mks a n).length : Int) := by rw [mks_len]; omega
  have hi0 : (0 : Int) ≤ (i : Int) := by omega
  rw [laws_heldNodeS.l0, if_pos hi, if_pos hi0, mks_rd _ _ _ hlt, ← hb]
  simp only [mk, w1, w2, w3, w4, w5, w6, if_true]
theorem held_loop (a : Int) (n : Nat) (ha : 0 ≤ a) (hn : a + 5 * n ≤ 900000000) (d : Nat) : ∀ (i : Nat) (b : Int), b = a + 5 * i → i ≤ n → n - i = d →
    Ev (fun k => laws_heldNodeS.l0 k (mks a n) b i) (a + 5 * n) := by
  induction d with
  | zero =>
    intro i b hb hi hd
    obtain rfl : i = n := by omega
    subst hb
    have hi : ¬ ((i : Int) < ((mks a i).length : Int)) := by rw [mks_len]; omega
    refine Ev.step (f := fun _ => some (a + 5 * (i : Int))) (fun k => ?_) (Ev.now _)
    rw [laws_heldNodeS.l0, if_neg hi]
  | succ d ih =>
    intro i b hb hi hd
    obtain ⟨K1, h1⟩ := mt_ev (b + 2) (by omega)
    obtain ⟨K2, h2⟩ := ih (i + 1) (b + 5) (by omega) (by omega) (by omega)
    refine ⟨K1 + K2 + 1, fun k hk => ?_⟩
    obtain ⟨k, rfl⟩ : ∃ k', k = k' + 1 := ⟨k - 1, by omega⟩
    have h3 := h1 k (by omega)
    simp only at h3
    show laws_heldNodeS.l0 (k + 1) (mks a n) b i = _
    rw [held_step a n i k b hb (by omega) (by omega) (by omega) (by omega), h3, Option.bind_some, if_pos rfl]
    exact h2 k (by omega)
theorem held_ev (a : Int) (n : Nat) (ha : 0 ≤ a) (hn : a + 5 * n ≤ 900000000) : Ev (fun k => laws_heldNodeS.f k (mks a n) a) (a + 5 * n) :=
  held_loop a n ha hn _ 0 a (by omega) (Nat.zero_le _) rfl
end Go.Proofs.Ytoioineibfldcaa.K
end

section
-- Printed by wip/tools/stubprint.py, a driver of mine over the kit's print.py: some callees are proved by hand.
namespace Go.Proofs.Ytoioineibfldcaa.K
open Go.RowKit Go.Proofs.YtoioineibfldcaaW.PrintWords Go.Proofs.YtoioineibfldcaaW.PrintLast Go.Proofs.YtoioineibfldcaaW.PrintMore
attribute [local go_sem] max2_int min2_int max_two min_two max_three min_three max_four min_four   -- for this text's walks alone
set_option linter.unusedVariables false
set_option linter.unusedSimpArgs false

/-! ### spec_Kids: function 34 -/
def spec_Kids.l0 : Nat → List (S41) → List (List (S41)) → List Int → List Int → Int → Option ((List (List (S41))))
  | 0, _, _, _, _, _ => none
  | k + 1, x0, x3, x4, x5, x6 => if x6 < (x5.length : Int) then (if 0 ≤ x6 then (if 0 ≤ (rd x5 x6) then (if (rd x5 x6) < (x4.length : Int) then (if 0 ≤ (wrap64 ((wrap64 ((rd x5 x6) - (rd x4 (rd x5 x6)))) + 1)) then (if (wrap64 ((wrap64 ((rd x5 x6) - (rd x4 (rd x5 x6)))) + 1)) ≤ (wrap64 ((rd x5 x6) + 1)) then (if (wrap64 ((rd x5 x6) + 1)) ≤ (x0.length : Int) then ((spec_l1Copy.f k ((x0.take ((wrap64 ((rd x5 x6) + 1)) : Int).toNat).drop ((wrap64 ((wrap64 ((rd x5 x6) - (rd x4 (rd x5 x6)))) + 1)) : Int).toNat)).bind fun t394 => (if x3.length < 5864062014805 then (spec_Kids.l0 k x0 (x3 ++ [t394]) x4 x5 (wrap64 (x6 + 1))) else (none))) else (none)) else (none)) else (none)) else (none)) else (none)) else (none)) else (some x3)
def spec_Kids.f (k : Nat) (l0 : List (S41)) : Option ((List (List (S41)))) := (some (([] : List (List (S41))) : List (List (S41)))).bind fun y376 => ((spec_Good.f k l0).bind fun t379 => (if t379 = true then ((spec_l1Sizes.f l0).bind fun t380 => ((spec_l1Roots.f k l0 t380 (wrap64 ((l0.length : Int) - 1))).bind fun t383 => (spec_Kids.l0 k l0 y376 t380 t383 0))) else (some y376)))
theorem spec_Kids.mono_l : ∀ k, (∀ y0 y1 y2 y3 y4, LeO (spec_Kids.l0 k y0 y1 y2 y3 y4) (spec_Kids.l0 (k + 1) y0 y1 y2 y3 y4))
  | 0 => fun _ _ _ _ _ r h => by simp [spec_Kids.l0] at h
  | k + 1 => by
    have ih0 := spec_Kids.mono_l k
    · intro y0 y1 y2 y3 y4
      unfold spec_Kids.l0
      repeat' first
      | (with_reducible exact ih0 _ _ _ _ _)
      | (with_reducible exact spec_Good.mono _ _)
      | (with_reducible exact spec_l1Copy.mono _ _)
      | (with_reducible exact spec_l1Roots.mono _ _ _ _)
      | (with_reducible exact LeO.refl _)
      | (with_reducible exact LeO.none _)
      | (with_reducible refine LeO.ite ?_ ?_)
      | (with_reducible refine LeO.bind ?_ (fun _ => ?_))
      | exact ih0 _ _ _ _ _
      | exact spec_Good.mono _ _
      | exact spec_l1Copy.mono _ _
      | exact spec_l1Roots.mono _ _ _ _
      | exact LeO.none _
      | refine LeO.ite ?_ ?_
      | refine LeO.bind ?_ (fun _ => ?_)
theorem spec_Kids.mono : ∀ a0 k, LeO (spec_Kids.f k a0) (spec_Kids.f (k + 1) a0) := by
  intro a0 k
  have ih0 := spec_Kids.mono_l k
  unfold spec_Kids.f
  repeat' first
      | (with_reducible exact ih0 _ _ _ _ _)
      | (with_reducible exact spec_Good.mono _ _)
      | (with_reducible exact spec_l1Copy.mono _ _)
      | (with_reducible exact spec_l1Roots.mono _ _ _ _)
      | (with_reducible exact LeO.refl _)
      | (with_reducible exact LeO.none _)
      | (with_reducible refine LeO.ite ?_ ?_)
      | (with_reducible refine LeO.bind ?_ (fun _ => ?_))
      | exact ih0 _ _ _ _ _
      | exact spec_Good.mono _ _
      | exact spec_l1Copy.mono _ _
      | exact spec_l1Roots.mono _ _ _ _
      | exact LeO.none _
      | refine LeO.ite ?_ ?_
      | refine LeO.bind ?_ (fun _ => ?_)
def spec_Kids.T9 : Bool × List (List Nat × List Nat) := (true, [([], []), ([], []), ([], []), ([], []), ([2, 3], [2, 3]), ([4], [4]), ([], []), ([], []), ([], []), ([7, 8], [7, 8]), ([9], [9]), ([6, 10], [6, 10]), ([11], [11]), ([5, 12], [5, 12]), ([13], [13]), ([], []), ([], []), ([15, 16], [15, 16]), ([17], [17]), ([18], [18]), ([1, 14, 19], [1, 14, 19]), ([20], [20]), ([21], [21]), ([0, 22, 21], [0, 22]), ([23, 23, 0, 1, 2, 3, 4, 5, 6, 7, 8, 9, 10, 11, 12, 13, 14, 15, 16, 17, 18, 19, 20, 21, 22, 23], [0, 23])])
def spec_Kids.B9 : List Nat := [0, 0, 0, 0, 12, 28, 0, 0, 0, 384, 896, 1984, 4032, 8188, 16380, 0, 0, 98304, 229376, 491520, 1048574, 2097150, 4194302, 8388607, 16777215]
theorem spec_Kids.tab9 : rtab .any (opsOf Try.f34 9) = spec_Kids.T9 := by kernel_rfl
theorem spec_Kids.bits9 : waitsOk spec_Kids.T9.2 spec_Kids.B9 = true := by kernel_rfl
set_option maxHeartbeats 8000000 in
set_option maxRecDepth 100000 in
theorem spec_Kids.calls (k : Nat) (A0 : Option Addr) (c0 : Nat) (l0 : List (S41)) (r : List (List (S41))) (w : World) (hr0 : Kd.C k41 w A0 l0.length l0) (hc0 : l0.length ≤ c0) (h : spec_Kids.f k l0 = some r) :
    Calls Try.prog 34 #[.slice A0 l0.length c0] w fun e w' => ∃ v0_ : Value, e = .returned (v0_) ∧ Kd.S (Kd.slice 41 k41) 26 w' w.heap.size (fun _ => True) v0_ r ∧ Below w.heap.size w w' := by
  have HR0 := Aside0.mk hr0
  have HC0 := Aside0.mk hc0
  clear hr0 hc0
  have HB := Aside0.mk (Below.refl w.heap.size w)
  have H : ((some (([] : List (List (S41))) : List (List (S41)))).bind fun y376 => ((spec_Good.f k l0).bind fun t379 => (if t379 = true then ((spec_l1Sizes.f l0).bind fun t380 => ((spec_l1Roots.f k l0 t380 (wrap64 ((l0.length : Int) - 1))).bind fun t383 => (spec_Kids.l0 k l0 y376 t380 t383 0))) else (some y376)))) = some r := h
  clear h
  obtain ⟨y376, hy376⟩ : ∃ y_ : List (List (S41)), y_ = (([] : List (List (S41)))) := ⟨_, rfl⟩
  replace H : ((spec_Good.f k l0).bind fun t379 => (if t379 = true then ((spec_l1Sizes.f l0).bind fun t380 => ((spec_l1Roots.f k l0 t380 (wrap64 ((l0.length : Int) - 1))).bind fun t383 => (spec_Kids.l0 k l0 y376 t380 t383 0))) else (some y376))) = some r := by first | (rw [hy376]; with_reducible exact H) | (have H2_ := (Option.bind_some _ _).symm.trans H; rw [hy376]; with_reducible exact H2_) | (have H2_ := (Option.bind_some _ _).symm.trans H; with_reducible exact H2_) | with_reducible exact H | (rw [hy376]; exact H) | exact H
  have Ny376 := Aside0.mk hy376
  clear hy376
  replace H := Option.bind_eq_some_iff.mp H
  obtain ⟨t379, A20, H⟩ := H
  replace H : (if t379 = true then ((spec_l1Sizes.f l0).bind fun t380 => ((spec_l1Roots.f k l0 t380 (wrap64 ((l0.length : Int) - 1))).bind fun t383 => (spec_Kids.l0 k l0 y376 t380 t383 0))) else (some y376)) = some r := H
  have A2 := Aside0.mk A20
  clear A20
  by_cases c3 : t379 = true
  · subst c3
    have H1 : ((spec_l1Sizes.f l0).bind fun t380 => ((spec_l1Roots.f k l0 t380 (wrap64 ((l0.length : Int) - 1))).bind fun t383 => (spec_Kids.l0 k l0 y376 t380 t383 0))) = some r := by rw [if_pos rfl] at H; exact H
    clear H
    have H := H1
    clear H1
    replace H := Option.bind_eq_some_iff.mp H
    obtain ⟨t380, A40, H⟩ := H
    replace H : ((spec_l1Roots.f k l0 t380 (wrap64 ((l0.length : Int) - 1))).bind fun t383 => (spec_Kids.l0 k l0 y376 t380 t383 0)) = some r := H
    have A4 := Aside0.mk A40
    clear A40
    replace H := Option.bind_eq_some_iff.mp H
    obtain ⟨t383, A50, H⟩ := H
    replace H : (spec_Kids.l0 k l0 y376 t380 t383 0) = some r := H
    have A5 := Aside0.mk A50
    clear A50
    have H' := Aside0.mk H
    clear H
    go_enter Try.func34, Try.ntmps34
    go_wp2_with (first | ((with_reducible refine gate_dst (N := 7) rfl ?_); refine Kd.S_lit (Kd.slice 41 k41) _ 26 ?hg (N := 7) ?hd (xs := ([] : List (List (S41)))) (inner := []) (ok := fun _ => True) (okp := fun _ => True) ?hr ?hp (fun _ hk => hk) trivial (Below.refl _ _) (Nat.le_refl _) (by simp) ?_; (case hd => rfl); (case hg => rfl); (case hr => first | (go_simp; done) | (go_simp; rfl)); (case hp => exact (Reps.none _ _)); intro v377 w6 ho7 hb hg_ hnew_; clear hg_ hnew_; (first | rw [← Ny376.out] at ho7 | (simp only [Int.reduceToNat] at ho7; rw [← Ny376.out] at ho7)); have n0_ := Aside0.mk (Kd.S_lower ho7 (below_size (by repeat (first | (with_reducible first | exact HB.out | apply below_alloc | apply pw_below_drewN | apply below_drew1) | exact HB.out)))); have n1_ := Aside0.mk (below_step (by repeat (first | (with_reducible first | exact HB.out | apply below_alloc | apply pw_below_drewN | apply below_drew1) | exact HB.out)) hb); clear HB; have HO378 := n0_; have HB := n1_; clear n0_ n1_; clear hb ho7) | ((with_reducible refine gate_callee (f := 18) rfl ?_); refine goesL_ (some 9) rfl rfl Try.func18 (by kernel_rfl) rfl #[.slice A0 l0.length c0] rfl (by (try simp only [List.map_toArray, List.map_cons, List.map_nil]); first | done | rfl | (simp only [List.length_drop, List.length_take]; rfl)) ?_; (with_reducible refine (spec_Good.calls k _ _ l0 true _ ?side1 ?side2 A2.out).mono ?_); (case side1 => repeat (first | exact (Kd.C_below HR0.out HB.out) | (with_reducible refine Kd.C_alloc ?_ _) | (with_reducible refine Kd.C_drewN ?_ _) | (with_reducible refine Kd.C_drew ?_))); (case side2 => exact HC0.out); rintro e w8 ⟨rfl, hb⟩; refine ⟨_, rfl, ?_⟩; have n0_ := Aside0.mk (Kd.S_below (by (with_reducible repeat (first | apply Kd.S_alloc | apply Kd.S_drewN | apply Kd.S_drew)); exact HO378.out) hb); have n1_ := Aside0.mk (below_step (by repeat (first | (with_reducible first | exact HB.out | apply below_alloc | apply pw_below_drewN | apply below_drew1) | exact HB.out)) hb); clear HO378; clear HB; have HO378 := n0_; have HB := n1_; clear n0_ n1_; (try clear hb); (try clear hb2); (try clear hk); (try clear hi)) | ((with_reducible refine gate_callee (f := 41) rfl ?_); refine goesL_ (some 13) rfl rfl Try.func41 (by kernel_rfl) rfl #[.slice A0 l0.length c0] rfl (by (try simp only [List.map_toArray, List.map_cons, List.map_nil]); first | done | rfl | (simp only [List.length_drop, List.length_take]; rfl)) ?_; (with_reducible refine (spec_l1Sizes.calls _ _ l0 t380 _ ?side1 ?side2 A4.out).mono ?_); (case side1 => repeat (first | exact (Kd.C_below HR0.out HB.out) | (with_reducible refine Kd.C_alloc ?_ _) | (with_reducible refine Kd.C_drewN ?_ _) | (with_reducible refine Kd.C_drew ?_))); (case side2 => exact HC0.out); rintro e w9 ⟨v381, rfl, ho0, hb⟩; refine ⟨_, rfl, ?_⟩; have n0_ := Aside0.mk (Kd.S_below (by (with_reducible repeat (first | apply Kd.S_alloc | apply Kd.S_drewN | apply Kd.S_drew)); exact HO378.out) hb); have n1_ := Aside0.mk (Kd.R_lower ho0 (below_size (by repeat (first | (with_reducible first | exact HB.out | apply below_alloc | apply pw_below_drewN | apply below_drew1) | exact HB.out)))); have n2_ := Aside0.mk (below_step (by repeat (first | (with_reducible first | exact HB.out | apply below_alloc | apply pw_below_drewN | apply below_drew1) | exact HB.out)) hb); clear HO378; clear HB; have HO378 := n0_; have HO382 := n1_; have HB := n2_; clear n0_ n1_ n2_; (try clear hb); (try clear hb2); (try clear hk); (try clear hi); (try clear ho0); obtain ⟨Ao10, co10, eo10⟩ := Kd.R_slice HO382.out; subst eo10) | ((with_reducible refine gate_callee (f := 48) rfl ?_); refine goesL_ (some 19) rfl rfl Try.func48 (by kernel_rfl) rfl #[.slice A0 l0.length c0, .slice Ao10 t380.length co10, .int .i64 (wrap64 ((l0.length : Int) - 1))] rfl (by (try simp only [List.map_toArray, List.map_cons, List.map_nil]); first | done | rfl | (simp only [List.length_drop, List.length_take]; rfl)) ?_; (with_reducible refine (spec_l1Roots.calls k _ _ l0 _ _ t380 (wrap64 ((l0.length : Int) - 1)) t383 _ ?side1 ?side2 ?side3 ?side4 A5.out).mono ?_); (case side1 => repeat (first | exact (Kd.C_below HR0.out HB.out) | (with_reducible refine Kd.C_alloc ?_ _) | (with_reducible refine Kd.C_drewN ?_ _) | (with_reducible refine Kd.C_drew ?_))); (case side2 => exact HC0.out); (case side3 => repeat (first | exact (Kd.R_reads' HO382.out).2.2 | (with_reducible refine Kd.C_alloc ?_ _) | (with_reducible refine Kd.C_drewN ?_ _) | (with_reducible refine Kd.C_drew ?_))); (case side4 => exact (Kd.R_reads' HO382.out).2.1); rintro e w11 ⟨v384, rfl, ho0, hb⟩; refine ⟨_, rfl, ?_⟩; have n0_ := Aside0.mk (Kd.S_below (by (with_reducible repeat (first | apply Kd.S_alloc | apply Kd.S_drewN | apply Kd.S_drew)); exact HO378.out) hb); have n1_ := Aside0.mk (Kd.R_elder' (by (with_reducible repeat (first | apply Kd.R_alloc | apply Kd.R_drewN | apply Kd.R_drew)); exact HO382.out) (Kd.R_base ho0) hb); have n2_ := Aside0.mk (Kd.R_lower (Kd.R_new' ho0 (Kd.R_lt (by (with_reducible repeat (first | apply Kd.R_alloc | apply Kd.R_drewN | apply Kd.R_drew)); exact HO382.out))) (below_size (by repeat (first | (with_reducible first | exact HB.out | apply below_alloc | apply pw_below_drewN | apply below_drew1) | exact HB.out)))); have n3_ := Aside0.mk (below_step (by repeat (first | (with_reducible first | exact HB.out | apply below_alloc | apply pw_below_drewN | apply below_drew1) | exact HB.out)) hb); clear HO378; clear HO382; clear HB; have HO378 := n0_; have HO382 := n1_; have HO385 := n2_; have HB := n3_; clear n0_ n1_ n2_ n3_; (try clear hb); (try clear hb2); (try clear hk); (try clear hi); (try clear ho0)))
    go_loopg [3, 6] k (fun kq v3 v6 w' => ∃ (x3_1 : List (List (S41))) (x6_1 : Int), v6 = .int .i64 x6_1 ∧ Aside0 (spec_Kids.l0 kq l0 x3_1 t380 t383 x6_1 = some r) ∧ Aside0 (kq ≤ k) ∧ Aside0 (Kd.S (Kd.slice 41 k41) 26 w' w.heap.size (fun _ => True) v3 x3_1) ∧ Aside0 (Kd.R (Kd.int .i64) 3 w' w.heap.size (fun k_ => some k_ ≠ (v384 : Value).ownBlock) (.slice Ao10 t380.length co10) t380) ∧ Aside0 (Kd.R (Kd.int .i64) 3 w' w.heap.size (fun k_ => some k_ ≠ ((.slice Ao10 t380.length co10) : Value).ownBlock) v384 t383) ∧ Aside0 (Below w.heap.size w w'))
    case atStart => exact ⟨(y376), (0), (by first | rfl | (simp; done) | (simp [*]; done)), H', ⟨Nat.le_refl _⟩, ⟨by (with_reducible repeat (first | apply Kd.S_alloc | apply Kd.S_drewN | apply Kd.S_drew)); exact HO378.out⟩, ⟨by (with_reducible repeat (first | apply Kd.R_alloc | apply Kd.R_drewN | apply Kd.R_drew)); exact Kd.R_mono HO382.out (fun _ hk => hk.2)⟩, ⟨by (with_reducible repeat (first | apply Kd.R_alloc | apply Kd.R_drewN | apply Kd.R_drew)); exact Kd.R_mono HO385.out (fun _ hk => hk.2)⟩, ⟨by repeat (first | (with_reducible first | exact HB.out | apply below_alloc | apply pw_below_drewN | apply below_drew1) | exact HB.out)⟩⟩
    case round =>
      clear H'
      try clear c1
      try clear p2
      try clear c3
      try clear c4
      try clear p6
      obtain ⟨x3_1, x6_1, rfl, HA, HK1, HO_3, HO_4, HO_5, HB⟩ := hrel
      cases gk with
      | zero => exact absurd HA.out (by simp [spec_Kids.l0])
      | succ k1 =>
        have H := HA.out
        clear HA
        simp only [spec_Kids.l0] at H
        by_cases c12 : x6_1 < (t383.length : Int)
        · rw [if_pos c12] at H
          have c12b0 : decide (x6_1 < (t383.length : Int)) = true := decide_eq_true c12
          clear c12
          by_cases c13 : 0 ≤ x6_1
          · rw [if_pos c13] at H
            have c13b0 : decide (0 ≤ x6_1) = true := decide_eq_true c13
            clear c13
            by_cases c14 : 0 ≤ (rd t383 x6_1)
            · rw [if_pos c14] at H
              have c14b0 : decide (0 ≤ (rd t383 x6_1)) = true := decide_eq_true c14
              clear c14
              by_cases c15 : (rd t383 x6_1) < (t380.length : Int)
              · rw [if_pos c15] at H
                have c15b0 : decide ((rd t383 x6_1) < (t380.length : Int)) = true := decide_eq_true c15
                clear c15
                obtain ⟨ji16, hji16⟩ : ∃ j_ : Int, (wrap64 ((wrap64 ((rd t383 x6_1) - (rd t380 (rd t383 x6_1)))) + 1)) = j_ := ⟨_, rfl⟩
                replace H : (if 0 ≤ (ji16) then (if (ji16) ≤ (wrap64 ((rd t383 x6_1) + 1)) then (if (wrap64 ((rd t383 x6_1) + 1)) ≤ (l0.length : Int) then ((spec_l1Copy.f k1 ((l0.take ((wrap64 ((rd t383 x6_1) + 1)) : Int).toNat).drop ((ji16) : Int).toNat)).bind fun t394 => (if x3_1.length < 5864062014805 then (spec_Kids.l0 k1 l0 (x3_1 ++ [t394]) t380 t383 (wrap64 (x6_1 + 1))) else (none))) else (none)) else (none)) else (none)) = some r := by first | (rw [hji16] at H; exact H) | (simp only [hji16] at H ⊢; exact H)
                have hji16w : (IntKind.i64.wrap ((wrap64 ((rd t383 x6_1) - (rd t380 (rd t383 x6_1)))) + 1)) = ji16 := (i64_w _).trans hji16
                by_cases c17 : 0 ≤ (ji16)
                · rw [if_pos c17] at H
                  have c17b0 := eq_true c17
                  have c17b1 : decide (0 ≤ (ji16)) = true := decide_eq_true c17
                  clear c17
                  by_cases c18 : (ji16) ≤ (wrap64 ((rd t383 x6_1) + 1))
                  · rw [if_pos c18] at H
                    have c18b0 := eq_true c18
                    have c18b1 : decide ((ji16) ≤ (wrap64 ((rd t383 x6_1) + 1))) = true := decide_eq_true c18
                    by_cases c19 : (wrap64 ((rd t383 x6_1) + 1)) ≤ (l0.length : Int)
                    · rw [if_pos c19] at H
                      have c19b0 := eq_true c19
                      have c19b1 : decide ((wrap64 ((rd t383 x6_1) + 1)) ≤ (l0.length : Int)) = true := decide_eq_true c19
                      obtain ⟨y390, hy390⟩ : ∃ y_ : List (S41), y_ = ((l0.take ((wrap64 ((rd t383 x6_1) + 1)) : Int).toNat).drop ((ji16) : Int).toNat) := ⟨_, rfl⟩
                      replace H : ((spec_l1Copy.f k1 y390).bind fun t394 => (if x3_1.length < 5864062014805 then (spec_Kids.l0 k1 l0 (x3_1 ++ [t394]) t380 t383 (wrap64 (x6_1 + 1))) else (none))) = some r := by first | (rw [hy390]; with_reducible exact H) | (have H2_ := (Option.bind_some _ _).symm.trans H; rw [hy390]; with_reducible exact H2_) | (have H2_ := (Option.bind_some _ _).symm.trans H; with_reducible exact H2_) | with_reducible exact H | (rw [hy390]; exact H) | exact H
                      have Ny390 := Aside0.mk hy390
                      clear hy390
                      replace H := Option.bind_eq_some_iff.mp H
                      obtain ⟨t394, A200, H⟩ := H
                      replace H : (if x3_1.length < 5864062014805 then (spec_Kids.l0 k1 l0 (x3_1 ++ [t394]) t380 t383 (wrap64 (x6_1 + 1))) else (none)) = some r := H
                      have A20 := Aside0.mk A200
                      clear A200
                      by_cases c21 : x3_1.length < 5864062014805
                      · rw [if_pos c21] at H
                        have LMc21 := Aside0.mk c21
                        clear c21
                        obtain ⟨y397, hy397⟩ : ∃ y_ : List (List (S41)), y_ = (x3_1 ++ [t394]) := ⟨_, rfl⟩
                        replace H : (spec_Kids.l0 k1 l0 y397 t380 t383 (wrap64 (x6_1 + 1))) = some r := by first | (rw [hy397]; with_reducible exact H) | (have H2_ := (Option.bind_some _ _).symm.trans H; rw [hy397]; with_reducible exact H2_) | (have H2_ := (Option.bind_some _ _).symm.trans H; with_reducible exact H2_) | with_reducible exact H | (rw [hy397]; exact H) | exact H
                        have Ny397 := Aside0.mk hy397
                        clear hy397
                        have H' := Aside0.mk H
                        clear H
                        obtain ⟨Ao22, co22, eo22⟩ := Kd.R_slice HO_5.out
                        subst eo22
                        try go_wp2
                        have n0_ := Aside0.mk (Kd.S_drew HO_3.out)
                        have n1_ := Aside0.mk (Kd.R_drew HO_4.out)
                        have n2_ := Aside0.mk (Kd.R_drew HO_5.out)
                        have n3_ := Aside0.mk (below_drew1 HB.out)
                        clear HO_3
                        clear HO_4
                        clear HO_5
                        clear HB
                        have HO_3 := n0_
                        have HO_4 := n1_
                        have HO_5 := n2_
                        have HB := n3_
                        clear n0_ n1_ n2_ n3_
                        have p386 : 0 ≤ (x6_1 : Int) := of_decide_eq_true (by first | (with_reducible assumption) | assumption)
                        have q386 : x6_1 < (t383.length : Int) := of_decide_eq_true (by first | (with_reducible assumption) | assumption)
                        obtain ⟨ad386, e386, hx386_0⟩ := Kd.at_int (Kd.R_reads' HO_5.out).2.2 x6_1 p386 q386
                        cases e386
                        replace p386 := eq_true p386
                        replace q386 := eq_true q386
                        have p387 : 0 ≤ (x6_1 : Int) := of_decide_eq_true (by first | (with_reducible assumption) | assumption)
                        have q387 : x6_1 < (t383.length : Int) := of_decide_eq_true (by first | (with_reducible assumption) | assumption)
                        obtain ⟨ad387, e387, hx387_0⟩ := Kd.at_int (Kd.R_reads' HO_5.out).2.2 x6_1 p387 q387
                        obtain rfl : ad386 = ad387 := (by injection e387)
                        replace p387 := eq_true p387
                        replace q387 := eq_true q387
                        have p388 : 0 ≤ ((rd t383 x6_1) : Int) := of_decide_eq_true (by first | (with_reducible assumption) | assumption)
                        have q388 : (rd t383 x6_1) < (t380.length : Int) := of_decide_eq_true (by first | (with_reducible assumption) | assumption)
                        obtain ⟨ad388, e388, hx388_0⟩ := Kd.at_int (Kd.R_reads' HO_4.out).2.2 (rd t383 x6_1) p388 q388
                        cases e388
                        replace p388 := eq_true p388
                        replace q388 := eq_true q388
                        have p389 : 0 ≤ (x6_1 : Int) := of_decide_eq_true (by first | (with_reducible assumption) | assumption)
                        have q389 : x6_1 < (t383.length : Int) := of_decide_eq_true (by first | (with_reducible assumption) | assumption)
                        obtain ⟨ad389, e389, hx389_0⟩ := Kd.at_int (Kd.R_reads' HO_5.out).2.2 x6_1 p389 q389
                        obtain rfl : ad386 = ad389 := (by injection e389)
                        replace p389 := eq_true p389
                        replace q389 := eq_true q389
                        have q24 : ((wrap64 ((rd t383 x6_1) + 1)) : Int) ≤ ((l0.length : Int) : Int) := of_decide_eq_true (by first | (with_reducible assumption) | assumption)
                        obtain ⟨i024, hi024, _, hsz24, _⟩ := info_parts info41
                        have hroom24 : l0.length ≤ c0 := HC0.out
                        have hC24 : Kd.C k41 _ A0 l0.length l0 := HR0.out
                        have ql24 : ((ji16) : Int) ≤ ((wrap64 ((rd t383 x6_1) + 1)) : Int) := of_decide_eq_true (by first | (with_reducible assumption) | assumption)
                        have q024 : (0 : Int) ≤ ((ji16) : Int) := of_decide_eq_true (by first | (with_reducible assumption) | assumption)
                        have hcut24 := cut_mid (P := Try.prog) 26 41 .i64 .i64 Try.underlying26 hi024 5 hsz24 A0 l0.length c0 (ji16) (wrap64 ((rd t383 x6_1) + 1)) q024 ql24 q24 hroom24
                        have hr24 := Kd.C_mid (lo := ((ji16) : Int).toNat) (hi := ((wrap64 ((rd t383 x6_1) + 1)) : Int).toNat) (c := c0) hC24 (by omega) (by omega) hroom24
                        obtain ⟨A24, hA24⟩ : ∃ A1, A1 = (if c0 = ((ji16) : Int).toNat then A0 else (A0 : Option Addr).map (·.add (((ji16) : Int).toNat * 5))) := ⟨_, rfl⟩
                        obtain ⟨c24, hc24⟩ : ∃ c1, c1 = c0 - ((ji16) : Int).toNat := ⟨_, rfl⟩
                        have hy24 : y390.length = ((wrap64 ((rd t383 x6_1) + 1)) : Int).toNat - ((ji16) : Int).toNat := (by rw [Ny390.out, List.length_drop, List.length_take] <;> omega)
                        rw [show ((l0).take ((wrap64 ((rd t383 x6_1) + 1)) : Int).toNat).drop ((ji16) : Int).toNat = y390 from Ny390.out.symm] at hr24
                        replace hr24 : Kd.C k41 _ A24 y390.length y390 := (by rw [hA24]; exact hr24)
                        rw [← hy24, ← hA24, ← hc24] at hcut24
                        have HR393 := Aside0.mk hr24
                        have HC393 := Aside0.mk (show y390.length ≤ c24 from by rw [hy24, hc24]; exact Nat.sub_le_sub_right (Nat.le_trans (by omega) hroom24) _)
                        clear hr24 hC24 hroom24 hi024 hsz24 hc24
                        have KY24 := Aside0.mk hy24
                        have KA24 := Aside0.mk hA24
                        clear hy24 hA24
                        replace q24 := eq_true q24
                        refine start_ (n := 25) (S := fun w' => w'.cell? (ad386.add (x6_1).toNat) = some (.int .i64 (rd t383 x6_1)) ∧ w'.cell? (ad386.add (x6_1).toNat) = some (.int .i64 (rd t383 x6_1)) ∧ w'.cell? (ad388.add ((rd t383 x6_1)).toNat) = some (.int .i64 (rd t380 (rd t383 x6_1))) ∧ w'.cell? (ad386.add (x6_1).toNat) = some (.int .i64 (rd t383 x6_1))) (ds := [22, 23]) #[false, false, false, false, false, false, false, false, false, false, false, false, false, false, false, false, false, false, false, false, false, false, false, false, false] (by kernel_rfl) rfl rfl ⟨hx386_0, hx387_0, hx388_0, hx389_0⟩ (fun hHeld => ?_); refine with_tabW spec_Kids.tab9 spec_Kids.bits9 (fun HT_ HW_ => ?_)
                        generalize wr.drew = w23 at HO_3 HO_4 HO_5 HB HR393 hx386_0 hx387_0 hx388_0 hx389_0 hHeld ⊢
                        refine pure_ (i := 0) (N := some 26) (v := ?_) (a' := ?_) #[true, false, false, false, false, false, false, false, false, false, false, false, false, false, false, false, false, false, false, false, false, false, false, false, false] rfl rfl (any_of HT_.out (by kernel_rfl)) (fun _ _ _ h => h) (Or.inl ⟨by rfl, ?_⟩) ?_ ?_
                        rotate_left
                        · intro w'
                          go_simp
                          with_reducible rfl
                        rotate_left
                        · simp only [Act.put, List.setIfInBounds_toArray, List.set_cons_zero, List.set_cons_succ, i64_w, i32_w]
                          rfl
                        refine pure_ (i := 1) (N := some 27) (v := ?_) (a' := ?_) #[true, true, false, false, false, false, false, false, false, false, false, false, false, false, false, false, false, false, false, false, false, false, false, false, false] rfl rfl (any_of HT_.out (by kernel_rfl)) (fun _ _ _ h => h) (Or.inl ⟨by rfl, ?_⟩) ?_ ?_
                        rotate_left
                        · intro w'
                          go_simp
                          with_reducible rfl
                        rotate_left
                        · simp only [Act.put, List.setIfInBounds_toArray, List.set_cons_zero, List.set_cons_succ, i64_w, i32_w]
                          rfl
                        refine pure_ (i := 2) (N := some 28) (v := ?_) (a' := ?_) #[true, true, true, false, false, false, false, false, false, false, false, false, false, false, false, false, false, false, false, false, false, false, false, false, false] rfl rfl (any_of HT_.out (by kernel_rfl)) (fun _ _ _ h => h) (Or.inl ⟨by rfl, ?_⟩) ?_ ?_
                        rotate_left
                        · intro w'
                          go_simp
                          with_reducible rfl
                        rotate_left
                        · simp only [Act.put, List.setIfInBounds_toArray, List.set_cons_zero, List.set_cons_succ, i64_w, i32_w]
                          rfl
                        refine pure_ (i := 3) (N := some 29) (v := ?_) (a' := ?_) #[true, true, true, true, false, false, false, false, false, false, false, false, false, false, false, false, false, false, false, false, false, false, false, false, false] rfl rfl (any_of HT_.out (by kernel_rfl)) (fun _ _ _ h => h) (Or.inl ⟨by rfl, ?_⟩) ?_ ?_
                        rotate_left
                        · intro w'
                          go_simp
                          with_reducible rfl
                        rotate_left
                        · simp only [Act.put, List.setIfInBounds_toArray, List.set_cons_zero, List.set_cons_succ, i64_w, i32_w]
                          rfl
                        refine pure_ (i := 4) (N := some 30) (v := ?_) (a' := ?_) #[true, true, true, true, true, false, false, false, false, false, false, false, false, false, false, false, false, false, false, false, false, false, false, false, false] rfl rfl (any_of HT_.out (by kernel_rfl)) (fun _ _ _ h => h) (Or.inl ⟨by rfl, ?_⟩) ?_ ?_
                        rotate_left
                        · intro w'
                          go_simp
                          with_reducible rfl
                        rotate_left
                        · simp only [Act.put, List.setIfInBounds_toArray, List.set_cons_zero, List.set_cons_succ, i64_w, i32_w]
                          rfl
                        refine pure_ (i := 6) (N := some 32) (v := ?_) (a' := ?_) #[true, true, true, true, true, false, true, false, false, false, false, false, false, false, false, false, false, false, false, false, false, false, false, false, false] rfl rfl (any_of HT_.out (by kernel_rfl)) (fun _ _ _ h => h) (Or.inl ⟨by rfl, ?_⟩) ?_ ?_
                        rotate_left
                        · intro w'
                          go_simp
                          with_reducible rfl
                        rotate_left
                        · simp only [Act.put, List.setIfInBounds_toArray, List.set_cons_zero, List.set_cons_succ, i64_w, i32_w]
                          rfl
                        refine pure_ (i := 7) (N := some 33) (v := ?_) (a' := ?_) #[true, true, true, true, true, false, true, true, false, false, false, false, false, false, false, false, false, false, false, false, false, false, false, false, false] rfl rfl (any_of HT_.out (by kernel_rfl)) (fun _ _ _ h => h) (Or.inl ⟨by rfl, ?_⟩) ?_ ?_
                        rotate_left
                        · intro w'
                          go_simp
                          with_reducible rfl
                        rotate_left
                        · simp only [Act.put, List.setIfInBounds_toArray, List.set_cons_zero, List.set_cons_succ, i64_w, i32_w]
                          rfl
                        refine pure_ (i := 8) (N := some 34) (v := ?_) (a' := ?_) #[true, true, true, true, true, false, true, true, true, false, false, false, false, false, false, false, false, false, false, false, false, false, false, false, false] rfl rfl (any_of HT_.out (by kernel_rfl)) (fun _ _ _ h => h) (Or.inl ⟨by rfl, ?_⟩) ?_ ?_
                        rotate_left
                        · intro w'
                          go_simp
                          with_reducible rfl
                        rotate_left
                        · simp only [Act.put, List.setIfInBounds_toArray, List.set_cons_zero, List.set_cons_succ, i64_w, i32_w]
                          rfl
                        refine pure_ (i := 9) (N := some 35) (v := ?_) (a' := ?_) #[true, true, true, true, true, false, true, true, true, true, false, false, false, false, false, false, false, false, false, false, false, false, false, false, false] rfl rfl (any_of HT_.out (by kernel_rfl)) (fun _ _ _ h => h) (Or.inl ⟨by rfl, ?_⟩) ?_ ?_
                        rotate_left
                        · intro w'
                          go_simp
                          with_reducible rfl
                        rotate_left
                        · simp only [Act.put, List.setIfInBounds_toArray, List.set_cons_zero, List.set_cons_succ, i64_w, i32_w]
                          rfl
                        refine pure_ (i := 15) (N := some 41) (v := ?_) (a' := ?_) #[true, true, true, true, true, false, true, true, true, true, false, false, false, false, false, true, false, false, false, false, false, false, false, false, false] rfl rfl (any_of HT_.out (by kernel_rfl)) (fun _ _ _ h => h) (Or.inl ⟨by rfl, ?_⟩) ?_ ?_
                        rotate_left
                        · intro w'
                          go_simp
                          with_reducible rfl
                        rotate_left
                        · simp only [Act.put, List.setIfInBounds_toArray, List.set_cons_zero, List.set_cons_succ, i64_w, i32_w]
                          rfl
                        refine pure_ (i := 16) (N := some 42) (v := ?_) (a' := ?_) #[true, true, true, true, true, false, true, true, true, true, false, false, false, false, false, true, true, false, false, false, false, false, false, false, false] rfl rfl (any_of HT_.out (by kernel_rfl)) (fun _ _ _ h => h) (Or.inl ⟨by rfl, ?_⟩) ?_ ?_
                        rotate_left
                        · intro w'
                          go_simp
                          with_reducible rfl
                        rotate_left
                        · simp only [Act.put, List.setIfInBounds_toArray, List.set_cons_zero, List.set_cons_succ, i64_w, i32_w]
                          rfl
                        refine pure_ (i := 17) (N := some 43) (v := ?_) (a' := ?_) #[true, true, true, true, true, false, true, true, true, true, false, false, false, false, false, true, true, true, false, false, false, false, false, false, false] rfl rfl (any_of HT_.out (by kernel_rfl)) (fun _ _ _ h => h) (Or.inl ⟨by rfl, ?_⟩) ?_ ?_
                        rotate_left
                        · intro w'
                          go_simp
                          with_reducible rfl
                        rotate_left
                        · simp only [Act.put, List.setIfInBounds_toArray, List.set_cons_zero, List.set_cons_succ, i64_w, i32_w]
                          rfl
                        refine take_ (i := 5) (N := some 31) (v := ?_) (a' := ?_) #[true, true, true, true, true, true, true, true, true, true, false, false, false, false, false, true, true, true, false, false, false, false, false, false, false] rfl rfl (take_ofW HT_.out HW_.out (by kernel_rfl)) (fun _ _ _ h => h) (Or.inl ⟨by rfl, ?_⟩) hHeld ?_ ?_
                        rotate_left
                        · rintro w' ⟨s0, s1, s2, s3⟩
                          go_simp
                          with_reducible rfl
                        rotate_left
                        · simp only [Act.put, List.setIfInBounds_toArray, List.set_cons_zero, List.set_cons_succ, i64_w, i32_w]
                          rfl
                        refine take_ (i := 10) (N := some 36) (v := ?_) (a' := ?_) #[true, true, true, true, true, true, true, true, true, true, true, false, false, false, false, true, true, true, false, false, false, false, false, false, false] rfl rfl (take_ofW HT_.out HW_.out (by kernel_rfl)) (fun _ _ _ h => h) (Or.inl ⟨by rfl, ?_⟩) hHeld ?_ ?_
                        rotate_left
                        · rintro w' ⟨s0, s1, s2, s3⟩
                          go_simp
                          with_reducible rfl
                        rotate_left
                        · simp only [Act.put, List.setIfInBounds_toArray, List.set_cons_zero, List.set_cons_succ, i64_w, i32_w]
                          rfl
                        refine pure_ (i := 11) (N := some 37) (v := ?_) (a' := ?_) #[true, true, true, true, true, true, true, true, true, true, true, true, false, false, false, true, true, true, false, false, false, false, false, false, false] rfl rfl (any_of HT_.out (by kernel_rfl)) (fun _ _ _ h => h) (Or.inl ⟨by rfl, ?_⟩) ?_ ?_
                        rotate_left
                        · intro w'
                          go_simp
                          with_reducible rfl
                        rotate_left
                        · simp only [Act.put, List.setIfInBounds_toArray, List.set_cons_zero, List.set_cons_succ, i64_w, i32_w]
                          rfl
                        refine take_ (i := 12) (N := some 38) (v := ?_) (a' := ?_) #[true, true, true, true, true, true, true, true, true, true, true, true, true, false, false, true, true, true, false, false, false, false, false, false, false] rfl rfl (take_ofW HT_.out HW_.out (by kernel_rfl)) (fun _ _ _ h => h) (Or.inl ⟨by rfl, ?_⟩) hHeld ?_ ?_
                        rotate_left
                        · rintro w' ⟨s0, s1, s2, s3⟩
                          go_simp
                          with_reducible rfl
                        rotate_left
                        · simp only [Act.put, List.setIfInBounds_toArray, List.set_cons_zero, List.set_cons_succ, i64_w, i32_w]
                          rfl
                        refine pure_ (i := 13) (N := some 39) (v := ?_) (a' := ?_) #[true, true, true, true, true, true, true, true, true, true, true, true, true, true, false, true, true, true, false, false, false, false, false, false, false] rfl rfl (any_of HT_.out (by kernel_rfl)) (fun _ _ _ h => h) (Or.inl ⟨by rfl, ?_⟩) ?_ ?_
                        rotate_left
                        · intro w'
                          go_simp
                          with_reducible rfl
                        rotate_left
                        · simp only [Act.put, List.setIfInBounds_toArray, List.set_cons_zero, List.set_cons_succ, i64_w, i32_w]
                          rfl
                        refine pure_ (i := 14) (N := some 40) (v := ?_) (a' := ?_) #[true, true, true, true, true, true, true, true, true, true, true, true, true, true, true, true, true, true, false, false, false, false, false, false, false] rfl rfl (any_of HT_.out (by kernel_rfl)) (fun _ _ _ h => h) (Or.inl ⟨by rfl, ?_⟩) ?_ ?_
                        rotate_left
                        · intro w'
                          go_simp
                          with_reducible rfl
                        rotate_left
                        · simp only [Act.put, List.setIfInBounds_toArray, List.set_cons_zero, List.set_cons_succ, i64_w, i32_w]
                          rfl
                        refine take_ (i := 18) (N := some 44) (v := ?_) (a' := ?_) #[true, true, true, true, true, true, true, true, true, true, true, true, true, true, true, true, true, true, true, false, false, false, false, false, false] rfl rfl (take_ofW HT_.out HW_.out (by kernel_rfl)) (fun _ _ _ h => h) (Or.inl ⟨by rfl, ?_⟩) hHeld ?_ ?_
                        rotate_left
                        · rintro w' ⟨s0, s1, s2, s3⟩
                          go_simp
                          with_reducible rfl
                        rotate_left
                        · simp only [Act.put, List.setIfInBounds_toArray, List.set_cons_zero, List.set_cons_succ, i64_w, i32_w]
                          rfl
                        refine pure_ (i := 19) (N := some 45) (v := ?_) (a' := ?_) #[true, true, true, true, true, true, true, true, true, true, true, true, true, true, true, true, true, true, true, true, false, false, false, false, false] rfl rfl (any_of HT_.out (by kernel_rfl)) (fun _ _ _ h => h) (Or.inl ⟨by rfl, ?_⟩) ?_ ?_
                        rotate_left
                        · intro w'
                          go_simp
                          with_reducible rfl
                        rotate_left
                        · simp only [Act.put, List.setIfInBounds_toArray, List.set_cons_zero, List.set_cons_succ, i64_w, i32_w]
                          rfl
                        refine pure_ (i := 20) (N := some 46) (v := ?_) (a' := ?_) #[true, true, true, true, true, true, true, true, true, true, true, true, true, true, true, true, true, true, true, true, true, false, false, false, false] rfl rfl (any_of HT_.out (by kernel_rfl)) (fun _ _ _ h => h) (Or.inl ⟨by rfl, ?_⟩) ?_ ?_
                        rotate_left
                        · intro w'
                          go_simp
                          with_reducible rfl
                        rotate_left
                        · simp only [Act.put, List.setIfInBounds_toArray, List.set_cons_zero, List.set_cons_succ, i64_w, i32_w]
                          rfl
                        refine one_ (i := 21) (N := some 47) #[true, true, true, true, true, true, true, true, true, true, true, true, true, true, true, true, true, true, true, true, true, true, false, false, false] rfl rfl (one_of HT_.out (by kernel_rfl)) (by decide) (fun K hK => ?_)
                        refine goes_ Try.func49 (by kernel_rfl) rfl #[.slice A24 y390.length c24] (by rfl) rfl rfl (by (try simp only [List.map_toArray, List.map_cons, List.map_nil]); first | done | rfl | (simp only [List.length_drop, List.length_take]; rfl)) ?_
                        with_reducible refine (spec_l1Copy.calls k1 _ _ y390 t394 _ ?side1 ?side2 A20.out).mono ?_
                        (case side1 => repeat (first | exact (Kd.C_below HR393.out HB.out) | (with_reducible refine Kd.C_alloc ?_ _) | (with_reducible refine Kd.C_drewN ?_ _) | (with_reducible refine Kd.C_drew ?_)))
                        (case side2 => exact HC393.out)
                        rintro e w25 ⟨v395, rfl, ho0, hb⟩
                        have HS0_ := (hb.cell (World.block_lt_of_cell? _ _ (hHeld.1))).trans (hHeld.1)
                        have HS1_ := (hb.cell (World.block_lt_of_cell? _ _ (hHeld.2.1))).trans (hHeld.2.1)
                        have HS2_ := (hb.cell (World.block_lt_of_cell? _ _ (hHeld.2.2.1))).trans (hHeld.2.2.1)
                        have HS3_ := (hb.cell (World.block_lt_of_cell? _ _ (hHeld.2.2.2))).trans (hHeld.2.2.2)
                        refine ⟨_, rfl, ?_⟩
                        have n0_ := Aside0.mk (Kd.S_elder' (by (with_reducible repeat (first | apply Kd.S_alloc | apply Kd.S_drewN | apply Kd.S_drew)); exact HO_3.out) (Kd.R_base ho0) hb)
                        have n1_ := Aside0.mk (Kd.R_below (by (with_reducible repeat (first | apply Kd.R_alloc | apply Kd.R_drewN | apply Kd.R_drew)); exact HO_4.out) hb)
                        have n2_ := Aside0.mk (Kd.R_below (by (with_reducible repeat (first | apply Kd.R_alloc | apply Kd.R_drewN | apply Kd.R_drew)); exact HO_5.out) hb)
                        have n3_ := Aside0.mk (Kd.R_lower ho0 (below_size (by repeat (first | (with_reducible first | exact HB.out | apply below_alloc | apply pw_below_drewN | apply below_drew1) | exact HB.out))))
                        have n4_ := Aside0.mk (below_step (by repeat (first | (with_reducible first | exact HB.out | apply below_alloc | apply pw_below_drewN | apply below_drew1) | exact HB.out)) hb)
                        clear HO_3
                        clear HO_4
                        clear HO_5
                        clear HB
                        have HO_3 := n0_
                        have HO_4 := n1_
                        have HO_5 := n2_
                        have HO396 := n3_
                        have HB := n4_
                        clear n0_ n1_ n2_ n3_ n4_
                        (try clear hb)
                        (try clear hb2)
                        (try clear hk)
                        (try clear hi)
                        (try clear ho0)
                        obtain ⟨Ao27, co27, eo27⟩ := Kd.R_slice HO396.out
                        (first | subst eo27 | (injection eo27 with f1_ f2_ f3_; have f4_ := f1_.symm; have f5_ := f3_.symm; clear f1_ f2_ f3_; subst f4_; subst f5_))
                        refine hK.out _ _ ⟨HS0_, HS1_, HS2_, HS3_⟩ (fun hHeld => ?_)
                        clear hK K
                        refine norm_ (a' := ?_) ?_ ?_
                        rotate_left
                        · show Act.put _ (some 47) _ = _
                          simp only [Act.put, List.setIfInBounds_toArray, List.set_cons_zero, List.set_cons_succ, i64_w, i32_w]
                          rfl
                        refine last_ (i := 22) (N := some 48) #[true, true, true, true, true, true, true, true, true, true, true, true, true, true, true, true, true, true, true, true, true, true, true, false, false] rfl rfl (one_of HT_.out (by kernel_rfl)) (by decide) (fun K hK => ?_)
                        refine value_ (w1 := ?_) (v := ?_) (by rfl) rfl ?_ ?_
                        rotate_left 2
                        · go_simp
                          constructor
                          · rfl
                          · rfl
                        refine hK.out _ _ ?_
                        clear hK K
                        refine norm_ (a' := ?_) ?_ ?_
                        rotate_left
                        · show Act.put _ (some 48) _ = _
                          simp only [Act.put, List.setIfInBounds_toArray, List.set_cons_zero, List.set_cons_succ, i64_w, i32_w]
                          rfl
                        refine last_ (i := 23) (N := some 49) #[true, true, true, true, true, true, true, true, true, true, true, true, true, true, true, true, true, true, true, true, true, true, true, true, false] rfl rfl (one_of HT_.out (by kernel_rfl)) (by decide) (fun K hK => ?_)
                        refine Kd.S_append_step (Kd.slice 41 k41) (w0 := w) w.heap.size (by rfl) (.tmp 26) (.tmp 48) 43 26 (.slice none 0 0) 24 rfl Try.underlying43 info26 rfl (by decide) (by omega) u3 x3_1 t394 [.slice Ao27 t394.length co27] (fun _ => True) (fun k_ => some k_ = (.slice Ao27 t394.length co27 : Value).ownBlock) rfl rfl ?aP (fun k_ hk_ => ((Kd.R_mono (ok' := fun k_ => ((fun _ => True)) k_ ∧ some k_ ≠ (u3 : Value).ownBlock) (Kd.R_apart' (HO396.out) (Kd.S_typed HO_3.out) (by decide)) (fun k_ hk => ⟨trivial, hk.2⟩))).1 k_ hk_.symm) ?aF ?aO ?aB ?aS ?aL ?_
                        (case aP => exact Kd.M_row (Kd.R_mono (Kd.R_tight rfl (Kd.R_mono (ok' := fun k_ => ((fun _ => True)) k_ ∧ some k_ ≠ (u3 : Value).ownBlock) (Kd.R_apart' (HO396.out) (Kd.S_typed HO_3.out) (by decide)) (fun k_ hk => ⟨trivial, hk.2⟩))) (fun _ h_ => h_)))
                        (case aB => exact (by repeat (first | (with_reducible first | exact HB.out | apply below_alloc | apply pw_below_drewN | apply below_drew1) | exact HB.out)))
                        (case aF => exact (fun _ _ => trivial))
                        (case aO => exact (by (with_reducible repeat (first | apply Kd.S_alloc | apply Kd.S_drewN | apply Kd.S_drew)); exact Kd.S_mono HO_3.out (fun k_ hk => ⟨trivial, fun e_ => hk.2 e_⟩)))
                        (case aS => exact (below_size (by repeat (first | (with_reducible first | exact HB.out | apply below_alloc | apply pw_below_drewN | apply below_drew1) | exact HB.out))))
                        (case aL => have := LMc21.out; omega)
                        intro v398 w26 ho hb hg hat
                        rw [← Ny397.out] at ho
                        have n0_ := Aside0.mk (Kd.R_over' (by (with_reducible repeat (first | apply Kd.R_alloc | apply Kd.R_drewN | apply Kd.R_drew)); exact HO_4.out) (Kd.S_typed (by (with_reducible repeat (first | apply Kd.S_alloc | apply Kd.S_drewN | apply Kd.S_drew)); exact HO_3.out)) (by decide) hg)
                        have n1_ := Aside0.mk (Kd.R_over' (by (with_reducible repeat (first | apply Kd.R_alloc | apply Kd.R_drewN | apply Kd.R_drew)); exact HO_5.out) (Kd.S_typed (by (with_reducible repeat (first | apply Kd.S_alloc | apply Kd.S_drewN | apply Kd.S_drew)); exact HO_3.out)) (by decide) hg)
                        have n2_ := Aside0.mk (hb)
                        have n3_ := Aside0.mk (ho)
                        clear HO_4
                        clear HO_5
                        clear HB
                        clear HO_3
                        clear HO396
                        have HO_4 := n0_
                        have HO_5 := n1_
                        have HB := n2_
                        have HO399 := n3_
                        clear n0_ n1_ n2_ n3_
                        clear ho hb hg hat
                        refine hK.out _ _ ?_
                        clear hK K
                        refine norm_ (a' := ?_) ?_ ?_
                        rotate_left
                        · show Act.put _ (some 49) _ = _
                          simp only [Act.put, List.setIfInBounds_toArray, List.set_cons_zero, List.set_cons_succ, i64_w, i32_w]
                          rfl
                        refine pure_ (i := 24) (N := some 3) (v := ?_) (a' := ?_) #[true, true, true, true, true, true, true, true, true, true, true, true, true, true, true, true, true, true, true, true, true, true, true, true, true] rfl rfl (any_of HT_.out (by kernel_rfl)) (fun _ _ _ h => h) (Or.inl ⟨by rfl, ?_⟩) ?_ ?_
                        rotate_left
                        · intro w'
                          go_simp
                          with_reducible rfl
                        rotate_left
                        · simp only [Act.put, List.setIfInBounds_toArray, List.set_cons_zero, List.set_cons_succ, i64_w, i32_w]
                          rfl
                        refine done_ (done_of HT_.out (by kernel_rfl)) ?_
                        try go_wp2
                        go_roundg k1
                        case measure => have := HK1.out; omega
                        case rel => exact ⟨(y397), (wrap64 (x6_1 + 1)), (by first | rfl | (simp; done) | (simp [*]; done)), H', ⟨by have := HK1.out; omega⟩, ⟨by (with_reducible repeat (first | apply Kd.S_alloc | apply Kd.S_drewN | apply Kd.S_drew)); exact HO399.out⟩, ⟨by (with_reducible repeat (first | apply Kd.R_alloc | apply Kd.R_drewN | apply Kd.R_drew)); exact HO_4.out⟩, ⟨by (with_reducible repeat (first | apply Kd.R_alloc | apply Kd.R_drewN | apply Kd.R_drew)); exact HO_5.out⟩, ⟨by repeat (first | (with_reducible first | exact HB.out | apply below_alloc | apply pw_below_drewN | apply below_drew1) | exact HB.out)⟩⟩
                      · rw [if_neg c21] at H
                        exact absurd H (by simp)
                    · rw [if_neg c19] at H
                      exact absurd H (by simp)
                  · rw [if_neg c18] at H
                    exact absurd H (by simp)
                · rw [if_neg c17] at H
                  exact absurd H (by simp)
              · rw [if_neg c15] at H
                exact absurd H (by simp)
            · rw [if_neg c14] at H
              exact absurd H (by simp)
          · rw [if_neg c13] at H
            exact absurd H (by simp)
        · rw [if_neg c12] at H
          have c12b0 : decide (x6_1 < (t383.length : Int)) = false := decide_eq_false c12
          clear c12
          obtain rfl := Option.some.inj H
          obtain ⟨Ao28, co28, eo28⟩ := Kd.R_slice HO_5.out
          subst eo28
          go_wp2
          go_ret
          exact ⟨_, by first | rfl | (simp [errW_none, errW_some] <;> rfl) | (simp [*, errW_none, errW_some] <;> rfl), by (with_reducible repeat (first | apply Kd.S_alloc | apply Kd.S_drewN | apply Kd.S_drew)); exact HO_3.out, by repeat (first | (with_reducible first | exact HB.out | apply below_alloc | apply pw_below_drewN | apply below_drew1) | exact HB.out)⟩
  · replace c3 := Bool.eq_false_iff.mpr c3
    subst c3
    have H1 : (some y376) = some r := by rw [if_neg (show ¬ (false = true) by decide)] at H; exact H
    clear H
    have H := H1
    clear H1
    obtain rfl := Option.some.inj H
    go_enter Try.func34, Try.ntmps34
    go_wp2_with (first | ((with_reducible refine gate_dst (N := 7) rfl ?_); refine Kd.S_lit (Kd.slice 41 k41) _ 26 ?hg (N := 7) ?hd (xs := ([] : List (List (S41)))) (inner := []) (ok := fun _ => True) (okp := fun _ => True) ?hr ?hp (fun _ hk => hk) trivial (Below.refl _ _) (Nat.le_refl _) (by simp) ?_; (case hd => rfl); (case hg => rfl); (case hr => first | (go_simp; done) | (go_simp; rfl)); (case hp => exact (Reps.none _ _)); intro v377 w29 ho30 hb hg_ hnew_; clear hg_ hnew_; (first | rw [← Ny376.out] at ho30 | (simp only [Int.reduceToNat] at ho30; rw [← Ny376.out] at ho30)); have n0_ := Aside0.mk (Kd.S_lower ho30 (below_size (by repeat (first | (with_reducible first | exact HB.out | apply below_alloc | apply pw_below_drewN | apply below_drew1) | exact HB.out)))); have n1_ := Aside0.mk (below_step (by repeat (first | (with_reducible first | exact HB.out | apply below_alloc | apply pw_below_drewN | apply below_drew1) | exact HB.out)) hb); clear HB; have HO378 := n0_; have HB := n1_; clear n0_ n1_; clear hb ho30) | ((with_reducible refine gate_callee (f := 18) rfl ?_); refine goesL_ (some 9) rfl rfl Try.func18 (by kernel_rfl) rfl #[.slice A0 l0.length c0] rfl (by (try simp only [List.map_toArray, List.map_cons, List.map_nil]); first | done | rfl | (simp only [List.length_drop, List.length_take]; rfl)) ?_; (with_reducible refine (spec_Good.calls k _ _ l0 false _ ?side1 ?side2 A2.out).mono ?_); (case side1 => repeat (first | exact (Kd.C_below HR0.out HB.out) | (with_reducible refine Kd.C_alloc ?_ _) | (with_reducible refine Kd.C_drewN ?_ _) | (with_reducible refine Kd.C_drew ?_))); (case side2 => exact HC0.out); rintro e w31 ⟨rfl, hb⟩; refine ⟨_, rfl, ?_⟩; have n0_ := Aside0.mk (Kd.S_below (by (with_reducible repeat (first | apply Kd.S_alloc | apply Kd.S_drewN | apply Kd.S_drew)); exact HO378.out) hb); have n1_ := Aside0.mk (below_step (by repeat (first | (with_reducible first | exact HB.out | apply below_alloc | apply pw_below_drewN | apply below_drew1) | exact HB.out)) hb); clear HO378; clear HB; have HO378 := n0_; have HB := n1_; clear n0_ n1_; (try clear hb); (try clear hb2); (try clear hk); (try clear hi)))
    go_ret
    exact ⟨_, by first | rfl | (simp [errW_none, errW_some] <;> rfl) | (simp [*, errW_none, errW_some] <;> rfl), by (with_reducible repeat (first | apply Kd.S_alloc | apply Kd.S_drewN | apply Kd.S_drew)); exact HO378.out, by repeat (first | (with_reducible first | exact HB.out | apply below_alloc | apply pw_below_drewN | apply below_drew1) | exact HB.out)⟩

end Go.Proofs.Ytoioineibfldcaa.K
end

section
/-
  The plain law of Kids: where the kids of the root of a term end ('es'), and that the reference's Kids answers with the parts between. Condition: a list that is one term (at most 6000 nodes).
-/
set_option linter.unusedVariables false
namespace Go.Proofs.Ytoioineibfldcaa.K
open Go.RowKit Go.Proofs.YtoioineibfldcaaW.PrintWords Go.Proofs.YtoioineibfldcaaW.PrintLast Go.Proofs.YtoioineibfldcaaW.PrintMore

theorem run_snoc : ∀ (ks : List Int) (st : List (Int × Int)) (i k : Int) (Y fin : List (Int × Int)), run st i (ks ++ [k]) = some (Y, fin) →
    ∃ Y' st', run st i ks = some (Y', st') ∧ ¬ (k < 0 ∨ (st'.length : Int) < k) ∧ ∃ e, fin = st'.take (st'.length - k.toNat) ++ [e] ∧ Y = Y' ++ [e] := by
  intro ks
  induction ks with
  | nil =>
    intro st i k Y fin h
    rw [List.nil_append] at h
    by_cases hb : k < 0 ∨ (st.length : Int) < k
    · rw [run_bad _ _ _ _ hb] at h; cases h
    · rw [run_ok _ _ _ _ hb] at h
      obtain ⟨⟨Y1, fin1⟩, h1, h2⟩ := Option.map_eq_some_iff.1 h
      simp only [run, Option.some.injEq, Prod.mk.injEq] at h1
      obtain ⟨h3, h4⟩ := Prod.mk.inj h2
      simp only at h3 h4
      obtain ⟨rfl, rfl⟩ := h1
      exact ⟨[], st, rfl, hb, _, h4.symm, h3.symm⟩
  | cons k1 ks ih =>
    intro st i k Y fin h
    rw [List.cons_append] at h
    by_cases hb : k1 < 0 ∨ (st.length : Int) < k1
    · rw [run_bad _ _ _ _ hb] at h; cases h
    · rw [run_ok _ _ _ _ hb] at h
      obtain ⟨⟨Y1, fin1⟩, h1, h2⟩ := Option.map_eq_some_iff.1 h
      obtain ⟨h3, h4⟩ := Prod.mk.inj h2
      simp only at h3 h4
      obtain ⟨Y', st', g1, g2, e, g3, g4⟩ := ih _ _ _ _ _ h1
      refine ⟨_ :: Y', st', ?_, g2, e, by rw [← h4, g3], by rw [← h3, g4]; rfl⟩
      rw [run_ok _ _ _ _ hb, g1]
      rfl
theorem run_stack : ∀ (ks : List Int) (st : List (Int × Int)) (i : Int) (Y fin : List (Int × Int)), run st i ks = some (Y, fin) → fin.length ≤ st.length + ks.length := by
  intro ks
  induction ks with
  | nil => intro st i Y fin h; simp [run] at h; obtain ⟨rfl, rfl⟩ := h; simp
  | cons k ks ih =>
    intro st i Y fin h
    by_cases hb : k < 0 ∨ (st.length : Int) < k
    · rw [run_bad _ _ _ _ hb] at h; cases h
    · rw [run_ok _ _ _ _ hb] at h
      obtain ⟨⟨Y1, fin1⟩, h1, h2⟩ := Option.map_eq_some_iff.1 h
      obtain ⟨h3, h4⟩ := Prod.mk.inj h2
      simp only at h3 h4
      subst h4
      have := ih _ _ _ _ h1
      rw [List.length_append, List.length_take, List.length_singleton] at this
      rw [List.length_cons]
      omega
theorem PCh.ext {Y : List (Int × Int)} (Z : List (Int × Int)) : ∀ {rs : List (Int × Int)} {e : Int}, PCh Y rs e → PCh (Y ++ Z) rs e
  | [], _, _ => trivial
  | x :: s, e, h => ⟨h.1, by rw [List.getElem?_append_left (List.getElem?_eq_some_iff.1 h.2.1).1]; exact h.2.1, PCh.ext Z h.2.2⟩

/-- The ends of the open terms, the top first, and where the lowest begins. -/
def eds : List (Int × Int) → Int → List Nat
  | [], e => [(e + 1).toNat]
  | x :: s, e => (e + 1).toNat :: eds s (x.2 - 1)
theorem eds_len : ∀ (rs : List (Int × Int)) (e : Int), (eds rs e).length = rs.length + 1
  | [], _ => rfl
  | x :: s, e => by simp [eds, eds_len s (x.2 - 1)]
theorem eds_head (rs : List (Int × Int)) (e : Int) : (eds rs e)[0]? = some (e + 1).toNat := by cases rs <;> rfl
theorem eds_rts (Y : List (Int × Int)) (hY : ∀ (j : Nat) (y : Int × Int), Y[j]? = some y → 0 ≤ y.2 ∧ y.2 ≤ (j : Int)) (N : Int) : ∀ (rs : List (Int × Int)) (e : Int), PCh Y rs e → e < N → ∀ (i : Nat), i < rs.length →
    ∃ (r : Nat) (q : Nat) (y : Int × Int), (rts rs e)[i]? = some (r : Int) ∧ (eds rs e)[i]? = some (r + 1) ∧ (eds rs e)[i + 1]? = some q ∧ Y[r]? = some y ∧ y.2 = (q : Int) ∧ q ≤ r ∧ (r : Int) < N := by
  intro rs
  induction rs with
  | nil => intro e _ _ i hi; simp at hi
  | cons x s ih =>
    intro e h he i hi
    obtain ⟨h0, h1, h2⟩ := h
    obtain ⟨r, rfl⟩ : ∃ r : Nat, e = r := ⟨e.toNat, by omega⟩
    rw [Int.toNat_natCast] at h1
    have hx := hY r x h1
    cases i with
    | zero =>
      refine ⟨r, x.2.toNat, x, rfl, by simp [eds], ?_, h1, by omega, by omega, he⟩
      have := eds_head s (x.2 - 1)
      rw [show (x.2 - 1 + 1).toNat = x.2.toNat by omega] at this
      simpa [eds] using this
    | succ i =>
      obtain ⟨r', q, y, g1, g2, g3, g4⟩ := ih (x.2 - 1) h2 (by omega) i (by simpa using hi)
      exact ⟨r', q, y, by simpa [rts] using g1, by simpa [eds] using g2, by simpa [eds] using g3, g4⟩

/-- Where the kids of the root end: what the walk and the reference need of it. -/
structure KidEnds (l : List S41) (Y : List (Int × Int)) (K : Nat) (es : List Nat) (roots : List Int) : Prop where
  small : K ≤ l.length - 1
  kids : (rd_T41 l ((l.length - 1 : Nat) : Int)).f3 = K
  len : es.length = K + 1
  last : es[K]? = some (l.length - 1)
  step : ∀ (k p e : Nat), es[k]? = some e → es[k + 1]? = some p → 1 ≤ p ∧ p ≤ l.length - 1 ∧ e ≤ p ∧ (Y.map (·.2))[p - 1]? = some (e : Int)
  rlen : roots.length = K
  root : ∀ (k : Nat), k < K → ∃ p e : Nat, es[k]? = some e ∧ es[k + 1]? = some (p + 1) ∧ roots[k]? = some (p : Int) ∧ ∃ y, Y[p]? = some y ∧ y.2 = (e : Int) ∧ e ≤ p ∧ p < l.length - 1
  ev : Ev (fun k => spec_l1Roots.f k l (szOf 0 Y) ((l.length - 1 : Nat) : Int)) roots
theorem kidEnds (l : List S41) (Y : List (Int × Int)) (x : Int × Int) (o : OneTerm l Y x) : ∃ K es roots, KidEnds l Y K es roots := by
  have hpos := o.pos
  have hsm := o.small
  have hlen := o.len
  have hsplit : l.map (·.f3) = (l.take (l.length - 1)).map (·.f3) ++ [(rd_T41 l ((l.length - 1 : Nat) : Int)).f3] := by
    have h1 : l = l.take (l.length - 1) ++ [rd_T41 l ((l.length - 1 : Nat) : Int)] := by
      have h2 : rd_T41 l ((l.length - 1 : Nat) : Int) = l[l.length - 1] := by simp [rd_T41, List.getD_eq_getElem?_getD]; rw [List.getElem?_eq_getElem (by omega)]; rfl
      rw [h2, ← List.take_succ_eq_append_getElem (by omega), List.take_of_length_le (by omega)]
    conv => lhs; rw [h1]
    rw [List.map_append]
    rfl
  have hrun := o.run_
  rw [hsplit] at hrun
  obtain ⟨Y', st, g1, g2, e, g3, g4⟩ := run_snoc _ _ _ _ _ _ hrun
  obtain ⟨K, hK⟩ : ∃ K : Nat, (rd_T41 l ((l.length - 1 : Nat) : Int)).f3 = K := ⟨(rd_T41 l ((l.length - 1 : Nat) : Int)).f3.toNat, by omega⟩
  rw [hK] at g2 g3
  rw [Int.toNat_natCast] at g3
  have hKst : K = st.length := by
    have := congrArg List.length g3
    rw [List.length_append, List.length_take] at this
    simp at this
    omega
  have htl : (l.take (l.length - 1)).length = l.length - 1 := by rw [List.length_take]; omega
  obtain ⟨_, hA'⟩ := depths_ev (l.take (l.length - 1)) (by omega) Y' st g1
  rw [htl] at hA'
  have hA : At Y st (l.length - 1) := ⟨by rw [g4]; exact hA'.ch.ext _, hA'.fin, hA'.bd⟩
  have hbd := run_bd _ _ 0 _ _ o.run_ (by simp)
  have hbd' : ∀ (j : Nat) (y : Int × Int), Y[j]? = some y → 0 ≤ y.2 ∧ y.2 ≤ (j : Int) := fun j y hy => by have := hbd j y hy; omega
  have hstl : st.length ≤ l.length - 1 := by
    have := run_stack _ _ _ _ _ g1
    rw [List.length_map, htl] at this
    simpa using this
  have hroots := roots_ev l Y st (l.length - 1) K (by omega) hlen hA (by omega) hK (by omega) hstl
  rw [show st.reverse.take K = st.reverse from List.take_of_length_le (by rw [List.length_reverse]; omega)] at hroots
  have hmain := eds_rts Y hbd' ((l.length - 1 : Nat) : Int) st.reverse (((l.length - 1 : Nat) : Int) - 1) hA.ch (by omega)
  have hel := eds_len st.reverse (((l.length - 1 : Nat) : Int) - 1)
  have hrl := rts_len st.reverse (((l.length - 1 : Nat) : Int) - 1)
  rw [List.length_reverse] at hel hrl
  have hat : ∀ k, k < K → ∃ p q : Nat, (eds st.reverse (((l.length - 1 : Nat) : Int) - 1)).reverse[k]? = some q ∧ (eds st.reverse (((l.length - 1 : Nat) : Int) - 1)).reverse[k + 1]? = some (p + 1) ∧ (rts st.reverse (((l.length - 1 : Nat) : Int) - 1)).reverse[k]? = some (p : Int) ∧ ∃ y, Y[p]? = some y ∧ y.2 = (q : Int) ∧ q ≤ p ∧ p < l.length - 1 := by
    intro k hk
    obtain ⟨r, q, y, h1, h2, h3, h4, h5, h6, h7⟩ := hmain (K - 1 - k) (by rw [List.length_reverse]; omega)
    refine ⟨r, q, ?_, ?_, ?_, y, h4, h5, h6, by omega⟩
    · rw [List.getElem?_reverse (by omega), hel, ← hKst, show K + 1 - 1 - k = K - 1 - k + 1 by omega]; exact h3
    · rw [List.getElem?_reverse (by omega), hel, ← hKst, show K + 1 - 1 - (k + 1) = K - 1 - k by omega]; exact h2
    · rw [List.getElem?_reverse (by omega), hrl, ← hKst]; exact h1
  refine ⟨K, (eds st.reverse (((l.length - 1 : Nat) : Int) - 1)).reverse, (rts st.reverse (((l.length - 1 : Nat) : Int) - 1)).reverse, by omega, hK, by rw [List.length_reverse]; omega, ?_, ?_, by rw [List.length_reverse]; omega, hat, hroots⟩
  · rw [List.getElem?_reverse (by omega), hel, ← hKst, show K + 1 - 1 - K = 0 by omega, eds_head]
    congr 1
    omega
  · intro k p q hq hp
    have hkK : k < K := by
      have := (List.getElem?_eq_some_iff.1 hp).1
      rw [List.length_reverse] at this
      omega
    obtain ⟨p', q', h1, h2, _, y, h4, h5, h6, h7⟩ := hat k hkK
    rw [h1] at hq
    rw [h2] at hp
    cases hq
    cases hp
    refine ⟨by omega, by omega, by omega, ?_⟩
    rw [Nat.add_sub_cancel, List.getElem?_map, h4, ← h5]
    rfl

/-- The kids, by their ends. -/
def kidsL (l : List S41) (es : List Nat) (K : Nat) : List (List S41) := (List.range K).map fun k => (l.take (es.getD (k + 1) 0)).drop (es.getD k 0)
theorem kidsL_take (l : List S41) (es : List Nat) (K j : Nat) (h : j < K) : (kidsL l es K).take (j + 1) = (kidsL l es K).take j ++ [(l.take (es.getD (j + 1) 0)).drop (es.getD j 0)] := by
  rw [List.take_succ_eq_append_getElem (by simp [kidsL]; exact h)]
  simp [kidsL]
theorem specKids_loop (l : List S41) (Y : List (Int × Int)) (x : Int × Int) (o : OneTerm l Y x) (K : Nat) (es : List Nat) (roots : List Int) (h : KidEnds l Y K es roots) (hK : K ≤ 6000) (d : Nat) : ∀ (j : Nat), j ≤ K → K - j = d →
    Ev (fun k => spec_Kids.l0 k l ((kidsL l es K).take j) (szOf 0 Y) roots j) (kidsL l es K) := by
  have hsm := o.small
  have hlen := o.len
  induction d with
  | zero =>
    intro j hj hd
    obtain rfl : j = K := by omega
    have hn : ¬ ((j : Int) < (roots.length : Int)) := by rw [h.rlen]; omega
    refine Ev.step (f := fun _ => some (kidsL l es j)) (fun k => ?_) (Ev.now _)
    rw [spec_Kids.l0, if_neg hn, List.take_of_length_le (by simp [kidsL])]
  | succ d ih =>
    intro j hj hd
    have hlt : j < K := by omega
    obtain ⟨p, e, h1, h2, h3, y, h4, h5, h6, h7⟩ := h.root j hlt
    have hrt : rd roots (j : Int) = (p : Int) := by rw [rd_nat, List.getD_eq_getElem?_getD, h3]; rfl
    have hpY : p < Y.length := (List.getElem?_eq_some_iff.1 h4).1
    have hsz : rd (szOf 0 Y) (p : Int) = (p : Int) - (e : Int) + 1 := by
      rw [rd_nat, List.getD_eq_getElem?_getD, szOf_get Y 0 p y h4, Option.getD_some]
      omega
    have hc : (j : Int) < (roots.length : Int) := by rw [h.rlen]; omega
    have hc0 : (0 : Int) ≤ (j : Int) := by omega
    have hp0 : (0 : Int) ≤ (p : Int) := by omega
    have hps : (p : Int) < ((szOf 0 Y).length : Int) := by rw [szOf_len]; omega
    have he0 : (0 : Int) ≤ (e : Int) := by omega
    have hep : (e : Int) ≤ ((p + 1 : Nat) : Int) := by omega
    have hpl : ((p + 1 : Nat) : Int) ≤ (l.length : Int) := by omega
    have hg1 : es.getD j 0 = e := by rw [List.getD_eq_getElem?_getD, h1]; rfl
    have hg2 : es.getD (j + 1) 0 = p + 1 := by rw [List.getD_eq_getElem?_getD, h2]; rfl
    have hlk : ((kidsL l es K).take j).length < 5864062014805 := by rw [List.length_take]; omega
    have hcp := copy_ev ((l.take (p + 1)).drop e) (by rw [List.length_drop, List.length_take]; omega)
    have hnext := ih (j + 1) (by omega) (by omega)
    rw [kidsL_take l es K j hlt, hg1, hg2] at hnext
    obtain ⟨x3, hx3⟩ : ∃ x3, (kidsL l es K).take j = x3 := ⟨_, rfl⟩
    rw [hx3] at hnext hlk
    rw [hx3]
    have w1 : wrap64 ((p : Int) - ((p : Int) - (e : Int) + 1)) = (e : Int) - 1 := by rw [wrap_id (by omega) (by omega)]; omega
    have w2 : wrap64 ((e : Int) - 1 + 1) = (e : Int) := by rw [wrap_id (by omega) (by omega)]; omega
    have w3 : wrap64 ((p : Int) + 1) = ((p + 1 : Nat) : Int) := by rw [wrap_id (by omega) (by omega)]; omega
    have w4 : wrap64 ((j : Int) + 1) = ((j + 1 : Nat) : Int) := by rw [wrap_id (by omega) (by omega)]; omega
    have hstep : ∀ k, spec_Kids.l0 (k + 1) l x3 (szOf 0 Y) roots (j : Int) = (spec_l1Copy.f k ((l.take (p + 1)).drop e)).bind fun t => (if x3.length < 5864062014805 then spec_Kids.l0 k l (x3 ++ [t]) (szOf 0 Y) roots ((j + 1 : Nat) : Int) else none) := fun k => by
      rw [spec_Kids.l0, if_pos hc, if_pos hc0, hrt, if_pos hp0, if_pos hps, hsz, w1, w2, w3, w4, if_pos he0, if_pos hep, if_pos hpl, Int.toNat_natCast, Int.toNat_natCast]
    clear ih w1 w2 w3 w4
    obtain ⟨K1, g1⟩ := hcp
    obtain ⟨K2, g2⟩ := hnext
    refine ⟨K1 + K2 + 1, fun k hk => ?_⟩
    obtain ⟨k, rfl⟩ : ∃ k', k = k' + 1 := ⟨k - 1, by omega⟩
    have g3 := g1 k (by omega)
    have g4 := g2 k (by omega)
    simp only at g3 g4
    show spec_Kids.l0 (k + 1) l x3 (szOf 0 Y) roots (j : Int) = _
    rw [hstep k, g3, Option.bind_some, if_pos hlk]
    exact g4
theorem specKids_ev (l : List S41) (Y : List (Int × Int)) (x : Int × Int) (o : OneTerm l Y x) (K : Nat) (es : List Nat) (roots : List Int) (h : KidEnds l Y K es roots) (hK : K ≤ 6000) (hg : Ev (fun k => spec_Good.f k l) true) :
    Ev (fun k => spec_Kids.f k l) (kidsL l es K) := by
  have hw : wrap64 ((l.length : Int) - 1) = ((l.length - 1 : Nat) : Int) := by have := o.pos; have := o.small; rw [wrap_id (by omega) (by omega)]; omega
  have hloop := specKids_loop l Y x o K es roots h hK _ 0 (Nat.zero_le _) rfl
  rw [List.take_zero] at hloop
  obtain ⟨K1, g1⟩ := hg
  obtain ⟨K2, g2⟩ := h.ev
  obtain ⟨K3, g3⟩ := hloop
  refine ⟨K1 + K2 + K3, fun k hk => ?_⟩
  have g1 := g1 k (by omega)
  have g2 := g2 k (by omega)
  have g3 := g3 k (by omega)
  simp only at g1 g2 g3
  show spec_Kids.f k l = _
  rw [spec_Kids.f, Option.bind_some, g1, Option.bind_some, if_pos rfl, o.sizes, Option.bind_some, hw, g2, Option.bind_some]
  exact g3
end Go.Proofs.Ytoioineibfldcaa.K
end

section
/-
  impl.Kids (function 35) hands back, in new memory, the parts of a term that belong to the kids of its root, each row apart; of a list that is no term: nothing. Condition: at most 6000 nodes (Good asks that).
-/
set_option linter.unusedVariables false
namespace Go.Proofs.Ytoioineibfldcaa.K
open Go.RowKit Go.Proofs.YtoioineibfldcaaW.PrintWords Go.Proofs.YtoioineibfldcaaW.PrintLast Go.Proofs.YtoioineibfldcaaW.PrintMore
open Go.Proofs.Ytoioineibfldcaa.T
attribute [local go_sem] Oper.semAt_some
set_option maxRecDepth 100000
set_option maxHeartbeats 2000000


theorem impl_Kids.no (A0 : Option Addr) (c0 : Nat) (l0 : List S41) (w : World) (hr0 : Kd.C k41 w A0 l0.length l0) (hc0 : l0.length ≤ c0) (hg : impl_Good.f l0 = some false) :
    Calls Try.prog 35 #[.slice A0 l0.length c0] w fun e w' => e = .returned (.slice none 0 0) ∧ Below w.heap.size w w' := by
  have HR0 := Aside0.mk hr0
  have HG := Aside0.mk hg
  clear hr0 hg
  go_enter Try.func35, Try.ntmps35
  go_wp2_with (go_at_call 19; refine (impl_Good.calls _ _ l0 false _ HR0.out hc0 HG.out).mono ?_; rintro e w5 ⟨rfl, hb⟩; have HB := Aside0.mk hb; clear hb)
  go_ret
  exact ⟨rfl, HB.out⟩

theorem kids2 (nn : Nat) (ad : Addr) (c0 : Nat) (l0 : List S41) (Y : List (Int × Int)) (Af : Option Addr) (cf : Nat) (es : List Nat) (K : Nat) (roots : List Int) (w0 w : World) (Bt Bf : Nat)
    (hn : 0 < l0.length) (hbig : l0.length ≤ 6000) (h : KidEnds l0 Y K es roots) (hfl : Y.length = l0.length)
    (hr0 : Kd.C k41 w0 (some ad) l0.length l0) (hc0 : l0.length ≤ c0) (hb0 : Below w0.heap.size w0 w) (hrf : Kd.C (Kd.int .i64) w Af (Y.map (·.2)).length (Y.map (·.2)))
    (hBt : Blk w Bt 26 #[.slice (some ad) l0.length c0]) (hBf : Blk w Bf 56 #[.slice Af l0.length cf]) (hcf : l0.length ≤ cf) :
    SeqT Fence.wide nn Try.prog 56 #[.pointer (some ⟨Bt, 0, none⟩), .pointer (some ⟨Bf, 0, none⟩)] encsK MiK (MrK (.slice (some ad) l0.length c0)) w0.heap.size (kidY ad es K) w := by
  have hl : l0.length = (Y.map (·.2)).length := by rw [List.length_map, hfl]
  refine kids1 nn ad c0 l0 Af cf (Y.map (·.2)) es K w0 w Bt Bf hn hbig h.kids h.len h.last h.step (by have := h.small; omega) hl.symm hr0 hc0 hb0 hrf hBt ?_ (by rw [← hl]; exact hcf)
  rw [← hl]
  exact hBf

theorem copied_calls (A0 : Option Addr) (n c0 : Nat) (l0 : List S41) (w : World) (hn : l0.length = n) (hr0 : Kd.C k41 w A0 l0.length l0) (hc0 : n ≤ c0) (h : impl_copied.f l0 = some l0) :
    Calls Try.prog 47 #[.slice A0 n c0] w fun e w' => ∃ A c, e = .returned (.slice A n c) ∧ NR w' w.heap.size (.slice A n c) l0 ∧ Below w.heap.size w w' := by
  subst hn
  exact (impl_copied.calls A0 c0 l0 l0 w hr0 hc0 h).mono (fun e w' ⟨v, h1, h2, h3⟩ => by
    obtain ⟨A, c, rfl, hc, _⟩ := Kd.R_reads h2
    exact ⟨A, c, h1, h2, h3⟩)
theorem own_unique {w : World} {base : Nat} {e : TypeId} {size n : Nat} {v : Value} {xs ys : List Value} (h : w.ownsRow base e size v n xs) (h' : w.ownsRow base e size v n ys) : xs = ys := by
  rcases h.2 with ⟨hv, hn⟩ | ⟨g, cap, cur, hv, _, hh, _, _, _, ht⟩
  · have h1 := h.1
    have h2 := h'.1
    rw [hn, Nat.zero_mul] at h1 h2
    rw [List.eq_nil_of_length_eq_zero h1, List.eq_nil_of_length_eq_zero h2]
  · rcases h'.2 with ⟨hv', hn'⟩ | ⟨g', cap', cur', hv', _, hh', _, _, _, ht'⟩
    · rw [hv] at hv'; cases hv'
    · rw [hv] at hv'
      injection hv' with ha _ _
      injection ha with ha
      injection ha with ha
      subst ha
      rw [hh] at hh'
      cases hh'
      rw [← ht, ← ht']
/-- A row of rows gets one row more: as a step of a region in a round. -/
theorem step_append_row {F : Fence} {n : Nat} {o : Oper} {a : Act} {ops : Array Oper} {K : Act → World → Prop} {Q : Exit → Act → World → Prop} {W : World} {R : Prop} (hw : Region.wanted o (yielded ops a.tmps) = true)
    (s x : Operand) (hop : o.op = .call { callee := .builtin .append, args := #[s, x], argTypes := #[43, 43] }) (base b0 : Nat) (w0 : World) (v u : Value) (ls : List (List S41)) (l : List S41) (g : Nat)
    (hs : a.eval s = v) (hx : a.eval x = .slice (some ⟨g, 0, none⟩) 1 1) (hg : W.cell? ⟨g, 0, none⟩ = some u) (hr : RR W base v ls) (hn : NR W base u l) (hu : u.oneCell' = true) (hl : ls.length ≤ 6000) (hb : Below b0 w0 W) (hbb : b0 ≤ base) (hbW : base ≤ W.heap.size)
    (hf : ∀ k, u.ownBlock = some k → ∀ (i : Nat) u' vs, W.ownsRow base 26 1 v ls.length vs → vs[i]? = some u' → u'.ownBlock ≠ some k)
    (h : ∀ v' W', RR W' base v' (ls ++ [l]) → W.grownBy W' v.ownBlock → (∀ k, v'.ownBlock = some k → v.ownBlock = some k ∨ W.heap.size ≤ k) → Below b0 w0 W' → K (a.put o.dst v') W') :
    if Region.wanted o (yielded ops a.tmps) = true then o.wpIn F n Try.prog a W K Q else R := by
  rw [if_pos hw]
  obtain ⟨vs, h1, ho, _, _⟩ := id hr
  obtain ⟨i0, hi, hz0, hz1, hz2⟩ := info_parts info26
  obtain ⟨v', W', hrun, r1, r2, r3, r4⟩ := run_append_own_at (P := Try.prog) (w := W) base 43 o.type 26 i0 (.slice none 0 0) 1 24 Try.underlying43 hi hz0 hz1 hz2 rfl (by decide) v ls.length vs ho ⟨g, 0, none⟩ 1 1 [u] rfl
    (fun j u' hj => by
      cases j with
      | zero => simp at hj; subst hj; exact hg
      | succ j => simp at hj) (by simpa using hu) (by unfold maxLen; omega) (by omega) hbW
  have hrr := RR.snoc (vs0 := []) (v1 := v') (w1 := W') hr hn (fun i u' vs' hvs' hi' k hk => hf k hk i u' vs' hvs' hi') (fun vs' hvs' => by rw [own_unique hvs' ho]; exact r1) r2
  unfold Oper.wpIn
  refine ⟨?_, ?_⟩
  · simp [Oper.about, hop, resolve, Target.leads, Sem.run_pure]
  · rw [Oper.semAt_plain F _ _ (by rw [hop]; intro c hc'; cases hc')]
    simp [execOp, hop, resolve, invoke, builtin, hs, hx, hrun, Result.andThen]
    refine h v' W' hrr r2 (fun k hk => ?_) (hb.grown r2 (by omega) (fun k hk => by have := (hr.blocks k hk).1; omega))
    rcases r4 with r4 | r4
    · exact .inl (r4 ▸ hk)
    · rw [r4] at hk; cases hk; exact .inr (Nat.le_refl _)
theorem RR.old {W W1 : World} {base : Nat} {v u' : Value} {ls : List (List S41)} {vs : List Value} {i : Nat} (h : RR W base v ls) (hb : Below W.heap.size W W1) (hvs : W1.ownsRow base 26 1 v ls.length vs) (hi : vs[i]? = some u') :
    ∀ k, u'.ownBlock = some k → k < W.heap.size := by
  obtain ⟨vsW, h1, ho, hr, _⟩ := h
  have h2 := own_unique hvs (pw_own_below ho hb)
  subst h2
  have hil : i < ls.length := by have := (List.getElem?_eq_some_iff.1 hi).1; omega
  exact fun k hk => (NR_blk (hr i u' ls[i] hi (List.getElem?_eq_getElem hil)) k hk).2.1
theorem row_MrK {W : World} {b3 n c : Nat} {v : Value} {ls : List (List S41)} {ad : Addr} (h : RR W b3 v ls) (hp : 0 < ls.length) (hb : ad.block < b3) :
    ∀ k, v.ownBlock = some k → b3 ≤ k ∧ ∃ o, W.heap[k]? = some o ∧ MrK (.slice (some ad) n c) o := by
  obtain ⟨vs, h1, ho, hr, _⟩ := h
  intro k hk
  refine ⟨own_base ho k hk, ?_⟩
  rcases ho.2 with ⟨rfl, h0⟩ | ⟨g, cap, cur, rfl, _, hg, _, _, _, ht⟩
  · omega
  · simp [Value.ownBlock] at hk
    subst hk
    refine ⟨_, hg, .inr (.inr ⟨cur, _, rfl, fun he => ?_⟩)⟩
    subst he
    have h0 : vs[0]? = some (.slice (some ad) n c) := by
      rw [← ht, List.getElem?_take, if_pos (by omega)]
      rfl
    have := (NR_blk (hr 0 _ ls[0] h0 (List.getElem?_eq_getElem hp)) ad.block (by simp [Value.ownBlock])).1
    omega
theorem keeps_below {W W' : World} (h : Below W.heap.size W W') : KeepsOthers W W' := ⟨h.size, fun k o hk _ => (h.block k (Array.getElem?_eq_some_iff.1 hk).1).trans hk⟩
theorem cutV_reads {w : World} {ad : Addr} {l : List S41} {a b : Nat} (hr : Kd.C k41 w (some ad) l.length l) (h1 : a ≤ b) (h2 : b ≤ l.length) :
    ∃ A, cutV ad a b = .slice A ((l.take b).drop a).length (b - a) ∧ ((l.take b).drop a).length = b - a ∧ Kd.C k41 w A ((l.take b).drop a).length ((l.take b).drop a) := by
  have hl : ((l.take b).drop a).length = b - a := by rw [List.length_drop, List.length_take]; omega
  have hlt : (l.take b).length = b := by rw [List.length_take]; omega
  have h := Kd.C_drop (k := k41) (c := b) (m := a) (Kd.C_take hr h2) (by omega) (by omega)
  refine ⟨_, ?_, hl, h⟩
  rw [cutV, hl]
  rfl
theorem kidY_at {ad : Addr} {es : List Nat} {K : Nat} {pre : List (Int × Value)} {y : Int × Value} (h : pre ++ [y] <+: kidY ad es K) : pre.length < K ∧ y = ((pre.length : Int), cutV ad (es.getD pre.length 0) (es.getD (pre.length + 1) 0)) := by
  obtain ⟨t, ht⟩ := h
  have hlen := congrArg List.length ht
  simp [kidY] at hlen
  have h1 : (kidY ad es K)[pre.length]? = some y := by rw [← ht]; simp
  have hlt : pre.length < K := by omega
  refine ⟨hlt, ?_⟩
  rw [kidY, List.getElem?_map, List.getElem?_range hlt] at h1
  exact (Option.some.inj h1).symm

/-- Between two rounds of Kids's loop. -/
def IkS (w : World) (g5 b3 : Nat) (ks : List (List S41)) (pre : List (Int × Value)) (W : World) : Prop :=
  (∃ v, Blk W g5 43 #[v] ∧ RR W b3 v (ks.take pre.length) ∧ (pre = [] → v = .slice none 0 0)) ∧ Below w.heap.size w W ∧ b3 ≤ W.heap.size
theorem IkS_abides (w : World) (g5 b3 : Nat) (ks : List (List S41)) (B : Nat) (hB : w.heap.size ≤ B) : T.Abides (fun o => MiK o ∨ o.isCells = false) B (IkS w g5 b3 ks) := by
  rintro pre W W' ⟨⟨v, k0, hr, hnl⟩, hb, hs⟩ ht
  have notM : ∀ {cs : Array Value} {t : Nat} {fr : Nat × Nat}, ¬ (MiK (.cells cs t fr) ∨ (Obj.cells cs t fr).isCells = false) := by
    rintro cs t fr (h | h)
    · exact h
    · cases h
  exact ⟨⟨v, k0.turn ht notM, hr.keep (fun k cells e _ hc _ => (ht.keep hc notM).trans hc.symm), hnl⟩, hb.trans ⟨ht.os, ht.tape, ht.output, ht.size, fun k hk => ht.block k (by have := hb.size; omega) (.inl (by omega))⟩, Nat.le_trans hs ht.size⟩

theorem impl_Kids.yes (ad : Addr) (c0 : Nat) (l0 : List S41) (Y : List (Int × Int)) (x : Int × Int) (K : Nat) (es : List Nat) (roots : List Int) (w : World) (hr0 : Kd.C k41 w (some ad) l0.length l0) (hc0 : l0.length ≤ c0)
    (hg : impl_Good.f l0 = some true) (o : OneTerm l0 Y x) (h : KidEnds l0 Y K es roots) :
    Calls Try.prog 35 #[.slice (some ad) l0.length c0] w fun e w' => ∃ v, e = .returned v ∧ RR w' w.heap.size v (kidsL l0 es K) ∧ Below w.heap.size w w' := by
  have HR0 := Aside0.mk hr0
  have HG := Aside0.mk hg
  have HM := Aside0.mk o.meas
  have HH := Aside0.mk h
  have HOT := Aside0.mk o
  have hpos := o.pos
  have hsm := o.small
  have hylen := o.len
  have hksm := h.small
  clear hr0 hg o h
  refine (callsIn_wide (n := 3)).1 ?_
  refine callsIn_of_wp_marks Try.func35 rfl trivial ?_ rfl
  simp only [Try.ntmps35, List.size_toArray, List.length_cons, List.length_nil, Nat.reduceAdd, Nat.reduceSub, Array.replicate_succ, Array.replicate_zero, List.push_toArray, List.append_toArray, List.nil_append, List.cons_append]
  gi_wp2_with (first | (refine ⟨trivial, ?_⟩; gi_at_call 19; refine (callsIn_wide.2 (impl_Good.calls _ _ l0 true _ HR0.out hc0 HG.out)).mono ?_; rintro e w1 ⟨rfl, hb⟩; have HB1 := Aside0.mk hb; clear hb) | (refine ⟨trivial, ?_⟩; gi_at_call 43; refine (callsIn_wide.2 (impl_measure.calls _ _ l0 x.1 (Y.map (·.2)) _ (Kd.C_below HR0.out HB1.out) hc0 HM.out)).mono ?_; rintro e w2 ⟨v1, rfl, hv, hb⟩; obtain ⟨Af, cf, rfl, hcf, _⟩ := Kd.R_reads hv; have HV := Aside0.mk hv; have HB2 := Aside0.mk (HB1.out.trans (hb.mono HB1.out.size)); clear hb hv) | (refine ⟨trivial, ?_⟩; gi_at_call 50; refine (callsIn_wide.2 (kidsOf_any _ _ _ _ _ _ _)).mono ?_; rintro e w' ⟨rfl, rfl⟩))
  have hcf' : l0.length ≤ cf := by rw [List.length_map] at hcf; omega
  generalize hW0 : ((w2.alloc (Obj.cells #[Value.slice none 0 0] 43)).alloc (Obj.cells #[Value.slice (some ad) l0.length c0] 26)).alloc (Obj.cells #[Value.slice Af l0.length cf] 56) = W0
  have hz : W0.heap.size = w2.heap.size + 3 := by rw [← hW0]; simp
  have k0 : Blk W0 w2.heap.size 43 #[.slice none 0 0] := by rw [← hW0]; exact ((Blk.new w2 43 _).alloc _).alloc _
  have k1 : Blk W0 (w2.heap.size + 1) 26 #[.slice (some ad) l0.length c0] := by
    have h := (Blk.new (w2.alloc (Obj.cells #[Value.slice none 0 0] 43)) 26 #[.slice (some ad) l0.length c0]).alloc (Obj.cells #[Value.slice Af l0.length cf] 56)
    rw [← hW0]; simpa using h
  have k2 : Blk W0 (w2.heap.size + 2) 56 #[.slice Af l0.length cf] := by
    have h := Blk.new ((w2.alloc (Obj.cells #[Value.slice none 0 0] 43)).alloc (Obj.cells #[Value.slice (some ad) l0.length c0] 26)) 56 #[.slice Af l0.length cf]
    rw [← hW0]; simpa using h
  have hB20 : Below w2.heap.size w2 W0 := by rw [← hW0]; exact (((Below.refl _ w2).alloc (Nat.le_refl _) _).alloc (by simp) _).alloc (by simp; omega) _
  have hB0 : Below w.heap.size w W0 := HB2.out.trans (hB20.mono HB2.out.size)
  have hrf := Kd.C_below (Kd.R_reads' HV.out).2.2 hB20
  clear hW0
  have hw2 := HB2.out.size
  have hadl : ad.block < w.heap.size := by
    obtain ⟨ad', hA, hx0, _⟩ := at_T41 HR0.out 0 (by omega) (by omega)
    cases hA
    exact World.block_lt_of_cell? w _ hx0
  refine wpIn_rangeFunc_T rfl (by omega) (gf := 56) (lb := #[.pointer (some ⟨w2.heap.size + 1, 0, none⟩), .pointer (some ⟨w2.heap.size + 2, 0, none⟩)]) rfl trivial (enters_of Try.func56 (by kernel_rfl) rfl)
    (Mi := MiK) (Mr := MrK (.slice (some ad) l0.length c0)) (fun o h => h.elim) (fun o h => .inl h) (B := w.heap.size) (by omega)
    (kids2 2 ad c0 l0 Y Af cf es K roots w W0 (w2.heap.size + 1) (w2.heap.size + 2) hpos hsm HH.out hylen HR0.out hc0 hB0 hrf k1 k2 hcf') (fun _ => rfl)
    (IkS w w2.heap.size (w2.heap.size + 3) (kidsL l0 es K)) (fun _ _ _ => False) (IkS_abides w _ _ _ _ (by omega)) (fun c s W W' h _ => h.elim)
    ⟨⟨_, k0, RR.nil _ _, fun _ => rfl⟩, hB0, by omega⟩
    (fun y => { tmps := #[Value.slice (some ad) l0.length c0, undef, Value.slice none 0 0, Value.int IntKind.i64 x.fst,
          Value.slice Af l0.length cf, Value.pointer (some { block := w2.heap.size, off := 0 }), undef, y.2,
          Value.slice (some ad) l0.length c0, Value.bool true, Value.bool false,
          Value.tuple #[Value.int IntKind.i64 x.fst, Value.slice Af l0.length cf], Value.slice (some ad) l0.length c0,
          Value.tuple #[Value.int IntKind.i64 x.fst, Value.slice Af l0.length cf], Value.int IntKind.i64 x.fst,
          Value.slice Af l0.length cf, Value.slice (some ad) l0.length c0, Value.slice Af l0.length cf,
          Value.func (Fn.func 56) #[] #[Value.pointer (some { block := w2.heap.size + 1, off := 0 }), Value.pointer (some { block := w2.heap.size + 1 + 1, off := 0 })], .int .i64 y.1, y.2, undef, undef, undef, undef, undef, undef], defers := [] }) ?assign ?body ?done ?stop
  case assign =>
    intro l y W K hK
    gi_wp2
    exact hK
  case body =>
    rintro l pre y W ⟨⟨v, k0, hr, hnl⟩, hb, hs⟩ hpre
    obtain ⟨hjK, rfl⟩ := kidY_at hpre
    obtain ⟨j, hj⟩ : ∃ j, pre.length = j := ⟨_, rfl⟩
    rw [hj] at hr hjK ⊢
    obtain ⟨p, a, e1, e2, _, _, _, _, hap, hpl⟩ := HH.out.root j hjK
    rw [show es.getD j 0 = a by rw [List.getD_eq_getElem?_getD, e1]; rfl, show es.getD (j + 1) 0 = p + 1 by rw [List.getD_eq_getElem?_getD, e2]; rfl]
    obtain ⟨A', hcv, hkl, hC⟩ := cutV_reads (a := a) (b := p + 1) (Kd.C_below HR0.out hb) (by omega) (by omega)
    have hnx := kidsL_take l0 es K j hjK
    rw [show es.getD j 0 = a by rw [List.getD_eq_getElem?_getD, e1]; rfl, show es.getD (j + 1) 0 = p + 1 by rw [List.getD_eq_getElem?_getD, e2]; rfl] at hnx
    obtain ⟨kl, hkle⟩ : ∃ kl, (l0.take (p + 1)).drop a = kl := ⟨_, rfl⟩
    rw [hkle] at hcv hkl hC hnx
    rw [hcv]
    have hcp : impl_copied.f kl = some kl := by unfold impl_copied.f; rw [if_pos (by omega)]
    have hklc : kl.length ≤ p + 1 - a := by omega
    obtain ⟨m, hm⟩ : ∃ m, ((kidsL l0 es K).take j) = m := ⟨_, rfl⟩
    have hml : m.length = j := by rw [← hm, List.length_take]; simp [kidsL]; omega
    rw [hm] at hr hnx
    obtain ⟨Av, cv, rfl, hcv2⟩ := hr.slice
    rw [hml] at hr k0 hcv2 hnl
    have HRR := Aside0.mk hr
    have HC := Aside0.mk hC
    have HCP := Aside0.mk hcp
    have HNX := Aside0.mk hnx
    have HBw := Aside0.mk hb
    have KZ := Aside0.mk k0
    have HJ := Aside0.mk hj
    have HNL := Aside0.mk hnl
    have HML := Aside0.mk hml
    have z0 := k0.cell 0
    have f0 := k0.frozen 0
    simp only [List.getElem?_toArray, List.getElem?_cons_zero] at z0
    clear hr hC hcp hnx hb k0 hkle hm hcv e1 e2 hj hpre hnl
    gi_wp2
    refine wpIn_region_any (by kernel_rfl) ?_
    change wpAnyIn _ _ _ _ _ _ _ _ _ (World.drew W)
    refine wpAnyIn_ready (rs := [0, 1]) (by kernel_rfl) (by simp) ?_
    refine AllReadyIn.cons rfl (fun K0 hK0 => ?_) (AllReadyIn.cons rfl (fun K0 hK0 => ?_) AllReadyIn.nil)
    focus
      go_simp
      refine hK0 _ _ ?_
      clear hK0 K0
      refine wpAnyIn_ready (rs := [1]) (by kernel_rfl) (by simp) ?_
      refine AllReadyIn.cons rfl (fun K0 hK0 => ?_) AllReadyIn.nil
      go_simp
      refine hK0 _ _ ?_
      clear hK0 K0
      refine wpAnyIn_ready (rs := [2]) (by kernel_rfl) (by simp) ?_
      refine AllReadyIn.cons rfl (fun K0 hK0 => ?_) AllReadyIn.nil
      go_simp
      refine ⟨trivial, CallsIn.inRound l ((callsIn_wide.2 (copied_calls A' (p + 1 - a) (p + 1 - a) kl W.drew hkl HC.out (Nat.le_refl _) HCP.out)).mono ?_)⟩
      rintro e w5 ⟨Au, cu, rfl, hu, hb5⟩
      have HU := Aside0.mk hu
      have HB5 := Aside0.mk ((Below.refl W.heap.size W).drew.trans hb5)
      have BK5 : Aside0 (Blk w5 w2.heap.size 43 #[.slice Av j cv]) := ⟨(HB5.out.block _ KZ.out.lt).trans KZ.out⟩
      have z5 := BK5.out.cell 0
      have z5a : ∀ o, (w5.alloc o).cell? ⟨w2.heap.size, 0, none⟩ = some (.slice Av j cv) := fun o => (BK5.out.alloc o).cell 0
      simp only [List.getElem?_toArray, List.getElem?_cons_zero] at z5
      clear hu hb5
      refine hK0 _ _ ?_
      clear hK0 K0
      refine wpAnyIn_ready (rs := [3]) (by kernel_rfl) (by simp) ?_
      refine AllReadyIn.cons rfl (fun K0 hK0 => ?_) AllReadyIn.nil
      go_simp
      refine hK0 _ _ ?_
      clear hK0 K0
    rotate_left
    focus
      go_simp
      refine hK0 _ _ ?_
      clear hK0 K0
      refine wpAnyIn_ready (rs := [0, 2]) (by kernel_rfl) (by simp) ?_
      refine AllReadyIn.cons rfl (fun K0 hK0 => ?_) (AllReadyIn.cons rfl (fun K0 hK0 => ?_) AllReadyIn.nil)
    focus
      go_simp
      refine hK0 _ _ ?_
      clear hK0 K0
      refine wpAnyIn_ready (rs := [2]) (by kernel_rfl) (by simp) ?_
      refine AllReadyIn.cons rfl (fun K0 hK0 => ?_) AllReadyIn.nil
      go_simp
      refine ⟨trivial, CallsIn.inRound l ((callsIn_wide.2 (copied_calls A' (p + 1 - a) (p + 1 - a) kl W.drew hkl HC.out (Nat.le_refl _) HCP.out)).mono ?_)⟩
      rintro e w5 ⟨Au, cu, rfl, hu, hb5⟩
      have HU := Aside0.mk hu
      have HB5 := Aside0.mk ((Below.refl W.heap.size W).drew.trans hb5)
      have BK5 : Aside0 (Blk w5 w2.heap.size 43 #[.slice Av j cv]) := ⟨(HB5.out.block _ KZ.out.lt).trans KZ.out⟩
      have z5 := BK5.out.cell 0
      have z5a : ∀ o, (w5.alloc o).cell? ⟨w2.heap.size, 0, none⟩ = some (.slice Av j cv) := fun o => (BK5.out.alloc o).cell 0
      simp only [List.getElem?_toArray, List.getElem?_cons_zero] at z5
      clear hu hb5
      refine hK0 _ _ ?_
      clear hK0 K0
      refine wpAnyIn_ready (rs := [3]) (by kernel_rfl) (by simp) ?_
      refine AllReadyIn.cons rfl (fun K0 hK0 => ?_) AllReadyIn.nil
      go_simp
      refine hK0 _ _ ?_
      clear hK0 K0
    rotate_left
    focus
      go_simp
      refine ⟨trivial, CallsIn.inRound l ((callsIn_wide.2 (copied_calls A' (p + 1 - a) (p + 1 - a) kl W.drew hkl HC.out (Nat.le_refl _) HCP.out)).mono ?_)⟩
      rintro e w5 ⟨Au, cu, rfl, hu, hb5⟩
      have HU := Aside0.mk hu
      have HB5 := Aside0.mk ((Below.refl W.heap.size W).drew.trans hb5)
      have BK5 : Aside0 (Blk w5 w2.heap.size 43 #[.slice Av j cv]) := ⟨(HB5.out.block _ KZ.out.lt).trans KZ.out⟩
      have z5 := BK5.out.cell 0
      have z5a : ∀ o, (w5.alloc o).cell? ⟨w2.heap.size, 0, none⟩ = some (.slice Av j cv) := fun o => (BK5.out.alloc o).cell 0
      simp only [List.getElem?_toArray, List.getElem?_cons_zero] at z5
      clear hu hb5
      refine hK0 _ _ ?_
      clear hK0 K0
      refine wpAnyIn_ready (rs := [0, 3]) (by kernel_rfl) (by simp) ?_
      refine AllReadyIn.cons rfl (fun K0 hK0 => ?_) (AllReadyIn.cons rfl (fun K0 hK0 => ?_) AllReadyIn.nil)
    focus
      go_simp
      refine hK0 _ _ ?_
      clear hK0 K0
      refine wpAnyIn_ready (rs := [3]) (by kernel_rfl) (by simp) ?_
      refine AllReadyIn.cons rfl (fun K0 hK0 => ?_) AllReadyIn.nil
      go_simp
      refine hK0 _ _ ?_
      clear hK0 K0
    rotate_left
    focus
      go_simp
      refine hK0 _ _ ?_
      clear hK0 K0
      refine wpAnyIn_ready (rs := [0]) (by kernel_rfl) (by simp) ?_
      refine AllReadyIn.cons rfl (fun K0 hK0 => ?_) AllReadyIn.nil
      go_simp
      refine hK0 _ _ ?_
      clear hK0 K0
    all_goals
      refine wpAnyIn_ready (rs := [4]) (by kernel_rfl) (by simp) ?_
      refine AllReadyIn.cons rfl (fun K0 hK0 => ?_) AllReadyIn.nil
      have hrr5 := HRR.out.below (HB5.out.alloc HB5.out.size (Obj.cells #[Value.slice Au (p + 1 - a) cu] 26))
      refine step_append_row (by simp [Region.wanted]) (.tmp 21) (.tmp 24) rfl (w2.heap.size + 3) w.heap.size w (.slice Av j cv) (.slice Au (p + 1 - a) cu) m kl w5.heap.size rfl rfl ((Blk.new w5 26 _).cell 0) hrr5 ?aN rfl ?aL ?aB ?a1 ?a2 ?aF ?_
      case aN => exact Kd.R_lower (Kd.R_alloc HU.out _) hs
      case aL => have := HML.out; omega
      case aB => exact (HBw.out.trans (HB5.out.mono HBw.out.size)).alloc (Nat.le_trans HBw.out.size HB5.out.size) _
      case a1 => omega
      case a2 => exact Nat.le_trans hs (Nat.le_trans HB5.out.size (by simp))
      case aF =>
        intro k hk i u' vs hvs hi he
        have h1 := (NR_blk HU.out k hk).1
        have h2 := HRR.out.old (HB5.out.alloc HB5.out.size _) hvs hi k he
        exact absurd h2 (Nat.not_lt.2 h1)
      intro v' W' hr' hg' hat' hb'
      obtain ⟨Av', cv', rfl, _⟩ := hr'.slice
      have hne : some w2.heap.size ≠ (Value.slice Av j cv).ownBlock := fun he => by have := (hrr5.blocks _ he.symm).1; omega
      have BK6 := Aside0.mk ((BK5.out.alloc (Obj.cells #[Value.slice Au (p + 1 - a) cu] 26)).grown hg' hne)
      have z6 := BK6.out.cell 0
      have f6 := BK6.out.frozen 0
      simp only [List.getElem?_toArray, List.getElem?_cons_zero] at z6
      have HR6 := Aside0.mk hr'
      have HG6 := Aside0.mk hg'
      have HB6 := Aside0.mk hb'
      have HRR5 := Aside0.mk hrr5
      clear hr' hg' hb' hat' hrr5 hne
      refine hK0 _ _ ?_
      clear hK0 K0
      refine wpAnyIn_ready (rs := [5]) (by kernel_rfl) (by simp) ?_
      refine AllReadyIn.cons rfl (fun K0 hK0 => ?_) AllReadyIn.nil
      go_simp
      refine hK0 _ _ ?_
      clear hK0 K0
      refine wpAnyIn_done (by kernel_rfl) ?_ _
      have hrow : ∀ k, (Value.slice Av j cv).ownBlock = some k → w.heap.size ≤ k ∧ ∃ o, (w5.alloc (Obj.cells #[Value.slice Au (p + 1 - a) cu] 26)).heap[k]? = some o ∧ MrK (.slice (some ad) l0.length c0) o := fun k hk => by
        by_cases hj0 : j = 0
        · have := HNL.out (List.eq_nil_of_length_eq_zero (by have := HJ.out; omega))
          rw [this] at hk
          simp [Value.ownBlock] at hk
        · have hh := row_MrK (n := l0.length) (c := c0) (ad := ad) HRR5.out (by have := HML.out; omega) (by omega) k hk
          exact ⟨by omega, hh.2⟩
      have hT : Turn (MrK (.slice (some ad) l0.length c0)) w.heap.size W W' := ((Turn.of_below HB5.out).alloc _).grown HG6.out hrow
      have hrow2 : ∀ (k : Nat) (o : Obj), (Value.slice Av j cv).ownBlock = some k → (w5.alloc (Obj.cells #[Value.slice Au (p + 1 - a) cu] 26)).heap[k]? = some o → o.isCells = true := fun k o hk ho => by
        obtain ⟨_, _, c1, hc1⟩ := HRR5.out.blocks k hk
        rw [hc1] at ho
        cases ho
        rfl
      change KeepsOthers _ _ ∧ Turn _ _ _ _ ∧ IkS _ _ _ _ _ _
      refine ⟨((keeps_below (HB5.out.alloc HB5.out.size _)).trans (KeepsOthers.of_grownBy HG6.out hrow2)).trans (KeepsOthers.setCell _ _ _), hT.setCell (p := ⟨w2.heap.size, 0, none⟩) hw2 BK6.out (.inr (.inl ⟨_, _, _, rfl, by simp⟩)) _, ⟨_, BK6.out.set_ 0 _, ?_, fun h => by simp at h⟩, HB6.out.setCell (p := ⟨w2.heap.size, 0, none⟩) hw2 _, ?_⟩
      · have hlen : ∀ z : Int × Value, (pre ++ [z]).length = j + 1 := fun z => by rw [List.length_append, HJ.out]; rfl
        have e6 : (m ++ [kl]).length = j + 1 := by rw [List.length_append, HML.out]; rfl
        have hk6 := HR6.out.keep (w1 := W'.setCell ⟨w2.heap.size, 0, none⟩ (Value.slice Av' (j + 1) cv')) (fun k cells e hk hc _ => Below.heap_setCell _ _ _ _ (fun h => by simp only at h; omega))
        rw [e6] at hk6
        rw [hlen, HNX.out]
        exact hk6
      · have := HB5.out.size
        have := HG6.out.size
        simp at this ⊢
        omega
  case done =>
    rintro D W hD ⟨⟨v, k0, hr, _⟩, hb, hs⟩ hK
    have hkt : (kidsL l0 es K).take (kidY ad es K).length = kidsL l0 es K := by
      refine List.take_of_length_le ?_
      simp [kidsL, kidY]
    rw [hkt] at hr
    obtain ⟨Av, cv, rfl, _⟩ := hr.slice
    have hD' : w2.heap.size + 3 ≤ D := by omega
    have z0 := k0.cell 0
    simp only [List.getElem?_toArray, List.getElem?_cons_zero] at z0
    clear hD
    gi_wp2
    have g := grownBy_putObj' W D (.deferred none)
    refine ⟨by simp, .inl ⟨_, _, rfl, run_takeDeferred hK, ?_⟩⟩
    refine ⟨.slice Av (kidsL l0 es K).length cv, ?_, _, rfl, ?_, hb.trans ((Below.refl _ _).grown g hb.size (fun k e => by cases e; omega))⟩
    · simp [results, Try.f35, go_sem]
    · refine (hr.keep (fun k cells e hk hc _ => World.putObj_heap_other (fun he => ?_))).lower (by omega)
      subst he
      rw [hK] at hc
      cases hc
  case stop =>
    rintro D c pre W hD hpre hF hK
    exact hF.elim
end Go.Proofs.Ytoioineibfldcaa.K
end

section
-- Printed by wip/tools/stubprint.py, a driver of mine over the kit's print.py: some callees are proved by hand.
namespace Go.Proofs.Ytoioineibfldcaa.K
open Go.RowKit Go.Proofs.YtoioineibfldcaaW.PrintWords Go.Proofs.YtoioineibfldcaaW.PrintLast Go.Proofs.YtoioineibfldcaaW.PrintMore
attribute [local go_sem] max2_int min2_int max_two min_two max_three min_three max_four min_four   -- for this text's walks alone
set_option linter.unusedVariables false
set_option linter.unusedSimpArgs false

/-! ### laws_szNodeSS: function 23 -/
def laws_szNodeSS.l0 : Nat → List (List (S36)) → Int → Int → Option (Int)
  | 0, _, _, _ => none
  | k + 1, x0, x1, x5 => if x5 < (x0.length : Int) then (if 0 ≤ x5 then ((laws_szNodeS.f k (rd_L6 x0 x5) x1).bind fun t316 => (if t316 < 0 then (some (-1)) else (laws_szNodeSS.l0 k x0 t316 (wrap64 (x5 + 1))))) else (none)) else (some x1)
def laws_szNodeSS.f (k : Nat) (l0 : List (List (S36))) (a1 : Int) : Option (Int) := if (wrap64 (a1 - (l0.length : Int))) < 0 then (some (-1)) else (laws_szNodeSS.l0 k l0 (wrap64 (a1 - (l0.length : Int))) 0)
theorem laws_szNodeSS.mono_l : ∀ k, (∀ y0 y1 y2, LeO (laws_szNodeSS.l0 k y0 y1 y2) (laws_szNodeSS.l0 (k + 1) y0 y1 y2))
  | 0 => fun _ _ _ r h => by simp [laws_szNodeSS.l0] at h
  | k + 1 => by
    have ih0 := laws_szNodeSS.mono_l k
    · intro y0 y1 y2
      unfold laws_szNodeSS.l0
      repeat' first
      | (with_reducible exact ih0 _ _ _)
      | (with_reducible exact laws_szNodeS.mono _ _ _)
      | (with_reducible exact LeO.refl _)
      | (with_reducible exact LeO.none _)
      | (with_reducible refine LeO.ite ?_ ?_)
      | (with_reducible refine LeO.bind ?_ (fun _ => ?_))
      | exact ih0 _ _ _
      | exact laws_szNodeS.mono _ _ _
      | exact LeO.none _
      | refine LeO.ite ?_ ?_
      | refine LeO.bind ?_ (fun _ => ?_)
theorem laws_szNodeSS.mono : ∀ a0 a1 k, LeO (laws_szNodeSS.f k a0 a1) (laws_szNodeSS.f (k + 1) a0 a1) := by
  intro a0 a1 k
  have ih0 := laws_szNodeSS.mono_l k
  unfold laws_szNodeSS.f
  repeat' first
      | (with_reducible exact ih0 _ _ _)
      | (with_reducible exact laws_szNodeS.mono _ _ _)
      | (with_reducible exact LeO.refl _)
      | (with_reducible exact LeO.none _)
      | (with_reducible refine LeO.ite ?_ ?_)
      | (with_reducible refine LeO.bind ?_ (fun _ => ?_))
      | exact ih0 _ _ _
      | exact laws_szNodeS.mono _ _ _
      | exact LeO.none _
      | refine LeO.ite ?_ ?_
      | refine LeO.bind ?_ (fun _ => ?_)
set_option maxHeartbeats 8000000 in
set_option maxRecDepth 100000 in
theorem laws_szNodeSS.calls (k : Nat) (A0 : Option Addr) (c0 : Nat) (l0 : List (List (S36))) (a1 : Int) (r : Int) (w : World) (hr0 : Kd.C (Kd.slice 36 k36) w A0 l0.length l0) (hc0 : l0.length ≤ c0) (h : laws_szNodeSS.f k l0 a1 = some r) :
    Calls Try.prog 23 #[.slice A0 l0.length c0, .int .i64 a1] w fun e w' => e = .returned (.int .i64 r) ∧ Below w.heap.size w w' := by
  have HR0 := Aside0.mk hr0
  have HC0 := Aside0.mk hc0
  clear hr0 hc0
  have HB := Aside0.mk (Below.refl w.heap.size w)
  have H : (if (wrap64 (a1 - (l0.length : Int))) < 0 then (some (-1)) else (laws_szNodeSS.l0 k l0 (wrap64 (a1 - (l0.length : Int))) 0)) = some r := h
  clear h
  by_cases c3 : (wrap64 (a1 - (l0.length : Int))) < 0
  · rw [if_pos c3] at H
    have c3b0 : decide ((wrap64 (a1 - (l0.length : Int))) < 0) = true := decide_eq_true c3
    clear c3
    obtain rfl := Option.some.inj H
    go_enter Try.func23, Try.ntmps23
    go_wp2
    go_ret
    exact ⟨by first | rfl | (simp [errW_none, errW_some] <;> rfl) | (simp [*, errW_none, errW_some] <;> rfl), by repeat (first | (with_reducible first | exact HB.out | apply below_alloc | apply pw_below_drewN | apply below_drew1) | exact HB.out)⟩
  · rw [if_neg c3] at H
    have c3b0 : decide ((wrap64 (a1 - (l0.length : Int))) < 0) = false := decide_eq_false c3
    clear c3
    have H' := Aside0.mk H
    clear H
    go_enter Try.func23, Try.ntmps23
    go_wp2
    go_loopg [1, 5] k (fun kq v1 v5 w' => ∃ (x1_1 : Int) (x5_1 : Int), v1 = .int .i64 x1_1 ∧ v5 = .int .i64 x5_1 ∧ Aside0 (laws_szNodeSS.l0 kq l0 x1_1 x5_1 = some r) ∧ Aside0 (kq ≤ k) ∧ Aside0 (Below w.heap.size w w'))
    case atStart => exact ⟨(wrap64 (a1 - (l0.length : Int))), (0), (by first | rfl | (simp; done) | (simp [*]; done)), (by first | rfl | (simp; done) | (simp [*]; done)), H', ⟨Nat.le_refl _⟩, ⟨by repeat (first | (with_reducible first | exact HB.out | apply below_alloc | apply pw_below_drewN | apply below_drew1) | exact HB.out)⟩⟩
    case round =>
      clear H'
      try clear c2
      try clear p2
      try clear c3
      try clear c3b0
      obtain ⟨x1_1, x5_1, rfl, rfl, HA, HK1, HB⟩ := hrel
      cases gk with
      | zero => exact absurd HA.out (by simp [laws_szNodeSS.l0])
      | succ k1 =>
        have H := HA.out
        clear HA
        simp only [laws_szNodeSS.l0] at H
        by_cases c4 : x5_1 < (l0.length : Int)
        · rw [if_pos c4] at H
          have c4b0 : decide (x5_1 < (l0.length : Int)) = true := decide_eq_true c4
          clear c4
          by_cases c5 : 0 ≤ x5_1
          · rw [if_pos c5] at H
            have c5b0 : decide (0 ≤ x5_1) = true := decide_eq_true c5
            clear c5
            replace H := Option.bind_eq_some_iff.mp H
            obtain ⟨t316, A60, H⟩ := H
            replace H : (if t316 < 0 then (some (-1)) else (laws_szNodeSS.l0 k1 l0 t316 (wrap64 (x5_1 + 1)))) = some r := H
            have A6 := Aside0.mk A60
            clear A60
            by_cases c7 : t316 < 0
            · rw [if_pos c7] at H
              have c7b0 : decide (t316 < 0) = true := decide_eq_true c7
              clear c7
              obtain rfl := Option.some.inj H
              have p315 : 0 ≤ (x5_1 : Int) := of_decide_eq_true (by first | (with_reducible assumption) | assumption)
              have q315 : x5_1 < (l0.length : Int) := of_decide_eq_true (by first | (with_reducible assumption) | assumption)
              obtain ⟨ad315, A315_0, c315_0, e315, hx315_0, hl315_0, hi315_0⟩ := at_L6 HR0.out x5_1 p315 q315
              cases e315
              replace hx315_0 := (HB.out.cell (World.block_lt_of_cell? w _ hx315_0)).trans hx315_0
              have HR315_0 := Aside0.mk hi315_0
              have HC315_0 := Aside0.mk hl315_0
              clear hi315_0 hl315_0
              replace p315 := eq_true p315
              replace q315 := eq_true q315
              go_wp2_with (first | ((with_reducible refine gate_callee (f := 11) rfl ?_); refine goesL_ (some 23) rfl rfl Try.func11 (by kernel_rfl) rfl #[.slice A315_0 (rd_L6 l0 x5_1).length c315_0, .int .i64 x1_1] rfl (by (try simp only [List.map_toArray, List.map_cons, List.map_nil]); first | done | rfl | (simp only [List.length_drop, List.length_take]; rfl)) ?_; (with_reducible refine (laws_szNodeS.calls k1 _ _ (rd_L6 l0 x5_1) x1_1 t316 _ ?side1 ?side2 A6.out).mono ?_); (case side1 => repeat (first | exact (Kd.C_below HR315_0.out HB.out) | (with_reducible refine Kd.C_alloc ?_ _) | (with_reducible refine Kd.C_drewN ?_ _) | (with_reducible refine Kd.C_drew ?_))); (case side2 => exact HC315_0.out); rintro e w8 ⟨rfl, hb⟩; refine ⟨_, rfl, ?_⟩; have n0_ := Aside0.mk (below_step (by repeat (first | (with_reducible first | exact HB.out | apply below_alloc | apply pw_below_drewN | apply below_drew1) | exact HB.out)) hb); clear HB; have HB := n0_; clear n0_; (try clear hb); (try clear hb2); (try clear hk); (try clear hi)))
              go_ret
              exact ⟨by first | rfl | (simp [errW_none, errW_some] <;> rfl) | (simp [*, errW_none, errW_some] <;> rfl), by repeat (first | (with_reducible first | exact HB.out | apply below_alloc | apply pw_below_drewN | apply below_drew1) | exact HB.out)⟩
            · rw [if_neg c7] at H
              have c7b0 : decide (t316 < 0) = false := decide_eq_false c7
              clear c7
              have H' := Aside0.mk H
              clear H
              have p315 : 0 ≤ (x5_1 : Int) := of_decide_eq_true (by first | (with_reducible assumption) | assumption)
              have q315 : x5_1 < (l0.length : Int) := of_decide_eq_true (by first | (with_reducible assumption) | assumption)
              obtain ⟨ad315, A315_0, c315_0, e315, hx315_0, hl315_0, hi315_0⟩ := at_L6 HR0.out x5_1 p315 q315
              cases e315
              replace hx315_0 := (HB.out.cell (World.block_lt_of_cell? w _ hx315_0)).trans hx315_0
              have HR315_0 := Aside0.mk hi315_0
              have HC315_0 := Aside0.mk hl315_0
              clear hi315_0 hl315_0
              replace p315 := eq_true p315
              replace q315 := eq_true q315
              go_wp2_with (first | ((with_reducible refine gate_callee (f := 11) rfl ?_); refine goesL_ (some 23) rfl rfl Try.func11 (by kernel_rfl) rfl #[.slice A315_0 (rd_L6 l0 x5_1).length c315_0, .int .i64 x1_1] rfl (by (try simp only [List.map_toArray, List.map_cons, List.map_nil]); first | done | rfl | (simp only [List.length_drop, List.length_take]; rfl)) ?_; (with_reducible refine (laws_szNodeS.calls k1 _ _ (rd_L6 l0 x5_1) x1_1 t316 _ ?side1 ?side2 A6.out).mono ?_); (case side1 => repeat (first | exact (Kd.C_below HR315_0.out HB.out) | (with_reducible refine Kd.C_alloc ?_ _) | (with_reducible refine Kd.C_drewN ?_ _) | (with_reducible refine Kd.C_drew ?_))); (case side2 => exact HC315_0.out); rintro e w9 ⟨rfl, hb⟩; refine ⟨_, rfl, ?_⟩; have n0_ := Aside0.mk (below_step (by repeat (first | (with_reducible first | exact HB.out | apply below_alloc | apply pw_below_drewN | apply below_drew1) | exact HB.out)) hb); clear HB; have HB := n0_; clear n0_; (try clear hb); (try clear hb2); (try clear hk); (try clear hi)))
              go_roundg k1
              case measure => have := HK1.out; omega
              case rel => exact ⟨(t316), (wrap64 (x5_1 + 1)), (by first | rfl | (simp; done) | (simp [*]; done)), (by first | rfl | (simp; done) | (simp [*]; done)), H', ⟨by have := HK1.out; omega⟩, ⟨by repeat (first | (with_reducible first | exact HB.out | apply below_alloc | apply pw_below_drewN | apply below_drew1) | exact HB.out)⟩⟩
          · rw [if_neg c5] at H
            exact absurd H (by simp)
        · rw [if_neg c4] at H
          have c4b0 : decide (x5_1 < (l0.length : Int)) = false := decide_eq_false c4
          clear c4
          obtain rfl := Option.some.inj H
          go_wp2
          go_ret
          exact ⟨by first | rfl | (simp [errW_none, errW_some] <;> rfl) | (simp [*, errW_none, errW_some] <;> rfl), by repeat (first | (with_reducible first | exact HB.out | apply below_alloc | apply pw_below_drewN | apply below_drew1) | exact HB.out)⟩

end Go.Proofs.Ytoioineibfldcaa.K
end

section
-- Printed by wip/tools/stubprint.py, a driver of mine over the kit's print.py: some callees are proved by hand.
namespace Go.Proofs.Ytoioineibfldcaa.K
open Go.RowKit Go.Proofs.YtoioineibfldcaaW.PrintWords Go.Proofs.YtoioineibfldcaaW.PrintLast Go.Proofs.YtoioineibfldcaaW.PrintMore
attribute [local go_sem] max2_int min2_int max_two min_two max_three min_three max_four min_four   -- for this text's walks alone
set_option linter.unusedVariables false
set_option linter.unusedSimpArgs false

/-! ### spec_Join: function 24 -/
mutual
def spec_Join.l0 : Nat → List (List (S41)) → List (S41) → Int → Int → Int → ByteArray → Int → Int → Option ((List (S41)))
  | 0, _, _, _, _, _, _, _, _ => none
  | k + 1, x1, x5, x6, x318000, x318001, x318002, x318003, x318004 => if x6 < (x1.length : Int) then (spec_Join.l1 k x1 x5 x6 0 x318000 x318001 x318002 x318003 x318004) else (if x5.length < 2932031007402 then (some (x5 ++ [(⟨x318000, x318001, x318002, (x1.length : Int), x318004⟩ : S41)])) else (none))
def spec_Join.l1 : Nat → List (List (S41)) → List (S41) → Int → Int → Int → Int → ByteArray → Int → Int → Option ((List (S41)))
  | 0, _, _, _, _, _, _, _, _, _ => none
  | k + 1, x1, x5, x6, x7, x318000, x318001, x318002, x318003, x318004 => if 0 ≤ x6 then (if x6 < (x1.length : Int) then (if x7 < ((rd_L7 x1 x6).length : Int) then (if 0 ≤ x7 then (if x5.length < 2932031007402 then (spec_Join.l1 k x1 (x5 ++ [(⟨(rd_T41 (rd_L7 x1 x6) x7).f0, (rd_T41 (rd_L7 x1 x6) x7).f1, (rd_T41 (rd_L7 x1 x6) x7).f2, (rd_T41 (rd_L7 x1 x6) x7).f3, (rd_T41 (rd_L7 x1 x6) x7).f4⟩ : S41)]) x6 (wrap64 (x7 + 1)) x318000 x318001 x318002 x318003 x318004) else (none)) else (none)) else (spec_Join.l0 k x1 x5 (wrap64 (x6 + 1)) x318000 x318001 x318002 x318003 x318004)) else (none)) else (none)
end
def spec_Join.f (k : Nat) (a0_0 : Int) (a0_1 : Int) (a0_2 : ByteArray) (a0_3 : Int) (a0_4 : Int) (l1 : List (List (S41))) : Option ((List (S41))) := spec_Join.l0 k l1 (([] : List (S41))) 0 a0_0 a0_1 a0_2 a0_3 a0_4
theorem spec_Join.mono_l : ∀ k, (∀ y0 y1 y2 y3 y4 y5 y6 y7, LeO (spec_Join.l0 k y0 y1 y2 y3 y4 y5 y6 y7) (spec_Join.l0 (k + 1) y0 y1 y2 y3 y4 y5 y6 y7)) ∧ (∀ y0 y1 y2 y3 y4 y5 y6 y7 y8, LeO (spec_Join.l1 k y0 y1 y2 y3 y4 y5 y6 y7 y8) (spec_Join.l1 (k + 1) y0 y1 y2 y3 y4 y5 y6 y7 y8))
  | 0 => ⟨fun _ _ _ _ _ _ _ _ r h => by simp [spec_Join.l0] at h, fun _ _ _ _ _ _ _ _ _ r h => by simp [spec_Join.l1] at h⟩
  | k + 1 => by
    obtain ⟨ih0, ih1⟩ := spec_Join.mono_l k
    refine ⟨?_, ?_⟩
    · intro y0 y1 y2 y3 y4 y5 y6 y7
      unfold spec_Join.l0
      repeat' first
      | (with_reducible exact ih0 _ _ _ _ _ _ _ _)
      | (with_reducible exact ih1 _ _ _ _ _ _ _ _ _)
      | (with_reducible exact LeO.refl _)
      | (with_reducible exact LeO.none _)
      | (with_reducible refine LeO.ite ?_ ?_)
      | (with_reducible refine LeO.bind ?_ (fun _ => ?_))
      | exact ih0 _ _ _ _ _ _ _ _
      | exact ih1 _ _ _ _ _ _ _ _ _
      | exact LeO.none _
      | refine LeO.ite ?_ ?_
      | refine LeO.bind ?_ (fun _ => ?_)
    · intro y0 y1 y2 y3 y4 y5 y6 y7 y8
      unfold spec_Join.l1
      repeat' first
      | (with_reducible exact ih0 _ _ _ _ _ _ _ _)
      | (with_reducible exact ih1 _ _ _ _ _ _ _ _ _)
      | (with_reducible exact LeO.refl _)
      | (with_reducible exact LeO.none _)
      | (with_reducible refine LeO.ite ?_ ?_)
      | (with_reducible refine LeO.bind ?_ (fun _ => ?_))
      | exact ih0 _ _ _ _ _ _ _ _
      | exact ih1 _ _ _ _ _ _ _ _ _
      | exact LeO.none _
      | refine LeO.ite ?_ ?_
      | refine LeO.bind ?_ (fun _ => ?_)
theorem spec_Join.mono : ∀ a0 a1 a2 a3 a4 a5 k, LeO (spec_Join.f k a0 a1 a2 a3 a4 a5) (spec_Join.f (k + 1) a0 a1 a2 a3 a4 a5) := by
  intro a0 a1 a2 a3 a4 a5 k
  obtain ⟨ih0, ih1⟩ := spec_Join.mono_l k
  unfold spec_Join.f
  repeat' first
      | (with_reducible exact ih0 _ _ _ _ _ _ _ _)
      | (with_reducible exact ih1 _ _ _ _ _ _ _ _ _)
      | (with_reducible exact LeO.refl _)
      | (with_reducible exact LeO.none _)
      | (with_reducible refine LeO.ite ?_ ?_)
      | (with_reducible refine LeO.bind ?_ (fun _ => ?_))
      | exact ih0 _ _ _ _ _ _ _ _
      | exact ih1 _ _ _ _ _ _ _ _ _
      | exact LeO.none _
      | refine LeO.ite ?_ ?_
      | refine LeO.bind ?_ (fun _ => ?_)
set_option maxHeartbeats 8000000 in
set_option maxRecDepth 100000 in
theorem spec_Join.calls (k : Nat) (a0_0 : Int) (a0_1 : Int) (a0_2 : ByteArray) (a0_3 : Int) (a0_4 : Int) (A1 : Option Addr) (c1 : Nat) (l1 : List (List (S41))) (r : List (S41)) (w : World) (hr1 : Kd.C (Kd.slice 41 k41) w A1 l1.length l1) (hc1 : l1.length ≤ c1) (h : spec_Join.f k a0_0 a0_1 a0_2 a0_3 a0_4 l1 = some r) :
    Calls Try.prog 24 #[.agg #[.int .i64 a0_0, .int .i64 a0_1, .string a0_2, .int .i64 a0_3, .int .i64 a0_4], .slice A1 l1.length c1] w fun e w' => ∃ v0_ : Value, e = .returned (v0_) ∧ Kd.R k41 41 w' w.heap.size (fun _ => True) v0_ r ∧ Below w.heap.size w w' := by
  have hu41 := Try.underlying41
  have HR1 := Aside0.mk hr1
  have HC1 := Aside0.mk hc1
  clear hr1 hc1
  have HB := Aside0.mk (Below.refl w.heap.size w)
  have H : (spec_Join.l0 k l1 (([] : List (S41))) 0 a0_0 a0_1 a0_2 a0_3 a0_4) = some r := h
  clear h
  obtain ⟨y318, hy318⟩ : ∃ y_ : List (S41), y_ = (([] : List (S41))) := ⟨_, rfl⟩
  replace H : (spec_Join.l0 k l1 y318 0 a0_0 a0_1 a0_2 a0_3 a0_4) = some r := by first | (rw [hy318]; with_reducible exact H) | (have H2_ := (Option.bind_some _ _).symm.trans H; rw [hy318]; with_reducible exact H2_) | (have H2_ := (Option.bind_some _ _).symm.trans H; with_reducible exact H2_) | with_reducible exact H | (rw [hy318]; exact H) | exact H
  have Ny318 := Aside0.mk hy318
  clear hy318
  have H' := Aside0.mk H
  clear H
  go_enter Try.func24, Try.ntmps24
  go_wp2_with (first | ((with_reducible refine gate_dst (N := 2) rfl ?_); refine box_event ?hg (N := 2) ?hd (cs := #[.int .i64 a0_0, .int .i64 a0_1, .string a0_2, .int .i64 a0_3, .int .i64 a0_4]) (t := 41) ?hr ?_; (case hd => rfl); (case hg => rfl); (case hr => first | (go_simp; done) | (go_simp; rfl)); intro gb317 hg w3 hbox hb; have n0_ := Aside0.mk (below_step (by repeat (first | (with_reducible first | exact HB.out | apply below_alloc | apply pw_below_drewN | apply below_drew1) | exact HB.out)) hb); have n1_ := Aside0.mk (hbox); have n2_ := Aside0.mk ((by rw [hg]; exact (below_size (by repeat (first | (with_reducible first | exact HB.out | apply below_alloc | apply pw_below_drewN | apply below_drew1) | exact HB.out))) : w.heap.size ≤ gb317)); have n3_ := Aside0.mk ((by rw [hg]; exact (below_size (by repeat (first | (with_reducible first | exact HB.out | apply below_alloc | apply pw_below_drewN | apply below_drew1) | exact HB.out))) : w.heap.size ≤ gb317)); clear HB; have HB := n0_; have BK317 := n1_; have GW317 := n2_; have GE317 := n3_; clear n0_ n1_ n2_ n3_; clear hb hbox hg) | ((with_reducible refine gate_dst (N := 8) rfl ?_); refine Kd.R_lit k41 _ 41 ?hg (N := 8) ?hd (xs := ([] : List (S41))) (inner := []) (ok := fun _ => True) (okp := fun _ => True) ?hr ?hp (fun _ hk => hk) trivial (Below.refl _ _) (Nat.le_refl _) (by simp) ?_; (case hd => rfl); (case hg => rfl); (case hr => first | (go_simp; done) | (go_simp; rfl)); (case hp => exact (Reps.none _ _)); intro v319 w4 ho5 hb hg_ hnew_; clear hg_ hnew_; (first | rw [← Ny318.out] at ho5 | (simp only [Int.reduceToNat] at ho5; rw [← Ny318.out] at ho5)); have n0_ := Aside0.mk (Kd.R_lower (Kd.R_newB ho5 (g := gb317) (o := .cells #[.int .i64 a0_0, .int .i64 a0_1, .string a0_2, .int .i64 a0_3, .int .i64 a0_4] 41 (0, 0)) (by (with_reducible repeat (first | refine blk_drewN ?_ _ | refine blk_drew ?_ | refine blk_alloc ?_ _)); exact BK317.out)) (below_size (by repeat (first | (with_reducible first | exact HB.out | apply below_alloc | apply pw_below_drewN | apply below_drew1 | refine below_set ?_ GE317.out) | exact HB.out)))); have n1_ := Aside0.mk (blk_below (g := gb317) (o := .cells #[.int .i64 a0_0, .int .i64 a0_1, .string a0_2, .int .i64 a0_3, .int .i64 a0_4] 41 (0, 0)) (by (with_reducible repeat (first | refine blk_drewN ?_ _ | refine blk_drew ?_ | refine blk_alloc ?_ _)); exact BK317.out) hb); have n2_ := Aside0.mk (below_step (by repeat (first | (with_reducible first | exact HB.out | apply below_alloc | apply pw_below_drewN | apply below_drew1 | refine below_set ?_ GE317.out) | exact HB.out)) hb); clear BK317; clear HB; have HO320 := n0_; have BK317 := n1_; have HB := n2_; clear n0_ n1_ n2_; clear hb ho5))
  go_loopg [5, 6] k (fun kq v5 v6 w' => ∃ (x5_1 : List (S41)) (x6_1 : Int), v6 = .int .i64 x6_1 ∧ Aside0 (spec_Join.l0 kq l1 x5_1 x6_1 a0_0 a0_1 a0_2 a0_3 a0_4 = some r) ∧ Aside0 (kq ≤ k) ∧ Aside0 (Kd.R k41 41 w' w.heap.size (fun k_ => k_ ≠ gb317) v5 x5_1) ∧ Aside0 (w'.heap[gb317]? = some (.cells #[.int .i64 a0_0, .int .i64 a0_1, .string a0_2, .int .i64 a0_3, .int .i64 a0_4] 41 (0, 0))) ∧ Aside0 (Below w.heap.size w w'))
  case atStart => exact ⟨(y318), (0), (by first | rfl | (simp; done) | (simp [*]; done)), H', ⟨Nat.le_refl _⟩, ⟨by (with_reducible repeat (first | apply Kd.R_alloc | apply Kd.R_drewN | apply Kd.R_drew)); exact Kd.R_mono HO320.out (fun _ hk => hk.2)⟩, ⟨by (with_reducible repeat (first | refine blk_drewN ?_ _ | refine blk_drew ?_ | refine blk_alloc ?_ _)); exact BK317.out⟩, ⟨by repeat (first | (with_reducible first | exact HB.out | apply below_alloc | apply pw_below_drewN | apply below_drew1 | refine below_set ?_ GE317.out) | exact HB.out)⟩⟩
  case round =>
    clear H'
    try clear c1
    try clear c2
    try clear p2
    obtain ⟨x5_1, x6_1, rfl, HA, HK1, HO_5, BK317, HB⟩ := hrel
    cases gk with
    | zero => exact absurd HA.out (by simp [spec_Join.l0])
    | succ k1 =>
      have H := HA.out
      clear HA
      simp only [spec_Join.l0] at H
      by_cases c6 : x6_1 < (l1.length : Int)
      · rw [if_pos c6] at H
        have c6b0 : decide (x6_1 < (l1.length : Int)) = true := decide_eq_true c6
        clear c6
        have H' := Aside0.mk H
        clear H
        go_wp2
        go_loopg [5, 7] k1 (fun kq v5 v7 w' => ∃ (x5_2 : List (S41)) (x7_2 : Int), v7 = .int .i64 x7_2 ∧ Aside0 (spec_Join.l1 kq l1 x5_2 x6_1 x7_2 a0_0 a0_1 a0_2 a0_3 a0_4 = some r) ∧ Aside0 (kq ≤ k1) ∧ Aside0 (Kd.R k41 41 w' w.heap.size (fun k_ => k_ ≠ gb317) v5 x5_2) ∧ Aside0 (w'.heap[gb317]? = some (.cells #[.int .i64 a0_0, .int .i64 a0_1, .string a0_2, .int .i64 a0_3, .int .i64 a0_4] 41 (0, 0))) ∧ Aside0 (Below w.heap.size w w'))
        case atStart => exact ⟨(x5_1), (0), (by first | rfl | (simp; done) | (simp [*]; done)), H', ⟨Nat.le_refl _⟩, ⟨by (with_reducible repeat (first | apply Kd.R_alloc | apply Kd.R_drewN | apply Kd.R_drew)); exact HO_5.out⟩, ⟨by (with_reducible repeat (first | refine blk_drewN ?_ _ | refine blk_drew ?_ | refine blk_alloc ?_ _)); exact BK317.out⟩, ⟨by repeat (first | (with_reducible first | exact HB.out | apply below_alloc | apply pw_below_drewN | apply below_drew1 | refine below_set ?_ GE317.out) | exact HB.out)⟩⟩
        case round =>
          clear H'
          try clear c1
          try clear c2
          try clear p2
          try clear c6
          try clear c6b0
          try clear p2
          obtain ⟨x5_2, x7_2, rfl, HA, HK2, HO_5, BK317, HB⟩ := hrel
          cases gk with
          | zero => exact absurd HA.out (by simp [spec_Join.l1])
          | succ k2 =>
            have H := HA.out
            clear HA
            simp only [spec_Join.l1] at H
            by_cases c7 : 0 ≤ x6_1
            · rw [if_pos c7] at H
              have c7b0 : decide (0 ≤ x6_1) = true := decide_eq_true c7
              clear c7
              by_cases c8 : x6_1 < (l1.length : Int)
              · rw [if_pos c8] at H
                have c8b0 : decide (x6_1 < (l1.length : Int)) = true := decide_eq_true c8
                clear c8
                by_cases c9 : x7_2 < ((rd_L7 l1 x6_1).length : Int)
                · rw [if_pos c9] at H
                  have c9b0 : decide (x7_2 < ((rd_L7 l1 x6_1).length : Int)) = true := decide_eq_true c9
                  clear c9
                  by_cases c10 : 0 ≤ x7_2
                  · rw [if_pos c10] at H
                    have c10b0 : decide (0 ≤ x7_2) = true := decide_eq_true c10
                    clear c10
                    by_cases c11 : x5_2.length < 2932031007402
                    · rw [if_pos c11] at H
                      have LMc11 := Aside0.mk c11
                      clear c11
                      obtain ⟨y327, hy327⟩ : ∃ y_ : List (S41), y_ = (x5_2 ++ [(⟨(rd_T41 (rd_L7 l1 x6_1) x7_2).f0, (rd_T41 (rd_L7 l1 x6_1) x7_2).f1, (rd_T41 (rd_L7 l1 x6_1) x7_2).f2, (rd_T41 (rd_L7 l1 x6_1) x7_2).f3, (rd_T41 (rd_L7 l1 x6_1) x7_2).f4⟩ : S41)]) := ⟨_, rfl⟩
                      replace H : (spec_Join.l1 k2 l1 y327 x6_1 (wrap64 (x7_2 + 1)) a0_0 a0_1 a0_2 a0_3 a0_4) = some r := by first | (rw [hy327]; with_reducible exact H) | (have H2_ := (Option.bind_some _ _).symm.trans H; rw [hy327]; with_reducible exact H2_) | (have H2_ := (Option.bind_some _ _).symm.trans H; with_reducible exact H2_) | with_reducible exact H | (rw [hy327]; exact H) | exact H
                      have Ny327 := Aside0.mk hy327
                      clear hy327
                      have H' := Aside0.mk H
                      clear H
                      have p324 : 0 ≤ (x6_1 : Int) := of_decide_eq_true (by first | (with_reducible assumption) | assumption)
                      have q324 : x6_1 < (l1.length : Int) := of_decide_eq_true (by first | (with_reducible assumption) | assumption)
                      obtain ⟨ad324, A324_0, c324_0, e324, hx324_0, hl324_0, hi324_0⟩ := at_L7 HR1.out x6_1 p324 q324
                      cases e324
                      replace hx324_0 := (HB.out.cell (World.block_lt_of_cell? w _ hx324_0)).trans hx324_0
                      have HR324_0 := Aside0.mk hi324_0
                      have HC324_0 := Aside0.mk hl324_0
                      clear hi324_0 hl324_0
                      replace p324 := eq_true p324
                      replace q324 := eq_true q324
                      have p325 : 0 ≤ (x6_1 : Int) := of_decide_eq_true (by first | (with_reducible assumption) | assumption)
                      have q325 : x6_1 < (l1.length : Int) := of_decide_eq_true (by first | (with_reducible assumption) | assumption)
                      obtain ⟨ad325, A325_0, c325_0, e325, hx325_0, hl325_0, hi325_0⟩ := at_L7 HR1.out x6_1 p325 q325
                      obtain rfl : ad324 = ad325 := (by injection e325)
                      replace hx325_0 := (HB.out.cell (World.block_lt_of_cell? w _ hx325_0)).trans hx325_0
                      have HR325_0 := Aside0.mk hi325_0
                      have HC325_0 := Aside0.mk hl325_0
                      clear hi325_0 hl325_0
                      replace p325 := eq_true p325
                      replace q325 := eq_true q325
                      have ea_ := Option.some.inj (hx324_0.symm.trans hx325_0)
                      injection ea_ with ea_ en_ ec_
                      subst ea_
                      subst ec_
                      clear en_
                      have p326 : 0 ≤ (x7_2 : Int) := of_decide_eq_true (by first | (with_reducible assumption) | assumption)
                      have q326 : x7_2 < ((rd_L7 l1 x6_1).length : Int) := of_decide_eq_true (by first | (with_reducible assumption) | assumption)
                      obtain ⟨ad326, e326, hx326_0, hx326_1, hx326_2, hx326_3, hx326_4⟩ := at_T41 HR325_0.out x7_2 p326 q326
                      cases e326
                      replace hx326_0 := (HB.out.cell (World.block_lt_of_cell? w _ hx326_0)).trans hx326_0
                      replace hx326_1 := (HB.out.cell (World.block_lt_of_cell? w _ hx326_1)).trans hx326_1
                      replace hx326_2 := (HB.out.cell (World.block_lt_of_cell? w _ hx326_2)).trans hx326_2
                      replace hx326_3 := (HB.out.cell (World.block_lt_of_cell? w _ hx326_3)).trans hx326_3
                      replace hx326_4 := (HB.out.cell (World.block_lt_of_cell? w _ hx326_4)).trans hx326_4
                      replace p326 := eq_true p326
                      replace q326 := eq_true q326
                      go_wp2_with (first | ((with_reducible refine gate_builtin (b := .append) (xs := #[.tmp 24, .tmp 32]) rfl ?_); at_builtin; refine Kd.R_append k41 (w0 := w) w.heap.size rfl (.tmp 24) (.tmp 32) 26 41 (.agg #[(.int .i64 0), (.int .i64 0), (.string ⟨#[]⟩), (.int .i64 0), (.int .i64 0)]) 48 rfl Try.underlying26 info41 rfl (by decide) (by omega) u5 x5_2 (⟨(rd_T41 (rd_L7 l1 x6_1) x7_2).f0, (rd_T41 (rd_L7 l1 x6_1) x7_2).f1, (rd_T41 (rd_L7 l1 x6_1) x7_2).f2, (rd_T41 (rd_L7 l1 x6_1) x7_2).f3, (rd_T41 (rd_L7 l1 x6_1) x7_2).f4⟩ : S41) [.int .i64 ((rd_T41 (rd_L7 l1 x6_1) x7_2).f0), .int .i64 ((rd_T41 (rd_L7 l1 x6_1) x7_2).f1), .string ((rd_T41 (rd_L7 l1 x6_1) x7_2).f2), .int .i64 ((rd_T41 (rd_L7 l1 x6_1) x7_2).f3), .int .i64 ((rd_T41 (rd_L7 l1 x6_1) x7_2).f4)] (fun k_ => k_ ≠ gb317) (fun _ => False) rfl rfl ?aP (fun _ hk => hk.elim) ?aF ?aO ?aB ?aS ?aL ?_; (case aP => exact k41_mkM _ _ _ (⟨(rd_T41 (rd_L7 l1 x6_1) x7_2).f0, (rd_T41 (rd_L7 l1 x6_1) x7_2).f1, (rd_T41 (rd_L7 l1 x6_1) x7_2).f2, (rd_T41 (rd_L7 l1 x6_1) x7_2).f3, (rd_T41 (rd_L7 l1 x6_1) x7_2).f4⟩ : S41)); (case aB => exact (by repeat (first | (with_reducible first | exact HB.out | apply below_alloc | apply pw_below_drewN | apply below_drew1 | refine below_set ?_ GE317.out) | exact HB.out))); (case aF => exact (fun k_ hk => Kd.freshB (g := gb317) (o := .cells #[.int .i64 a0_0, .int .i64 a0_1, .string a0_2, .int .i64 a0_3, .int .i64 a0_4] 41 (0, 0)) (by (with_reducible repeat (first | refine blk_drewN ?_ _ | refine blk_drew ?_ | refine blk_alloc ?_ _)); exact BK317.out) k_ hk)); (case aO => exact (by (with_reducible repeat (first | apply Kd.R_alloc | apply Kd.R_drewN | apply Kd.R_drew)); exact HO_5.out)); (case aS => exact (below_size (by repeat (first | (with_reducible first | exact HB.out | apply below_alloc | apply pw_below_drewN | apply below_drew1 | refine below_set ?_ GE317.out) | exact HB.out)))); (case aL => have := LMc11.out; omega); intro v328 w12 ho hb hg hat; rw [← Ny327.out] at ho; have n0_ := Aside0.mk (blk_grown (g := gb317) (o := .cells #[.int .i64 a0_0, .int .i64 a0_1, .string a0_2, .int .i64 a0_3, .int .i64 a0_4] 41 (0, 0)) (by (with_reducible repeat (first | refine blk_drewN ?_ _ | refine blk_drew ?_ | refine blk_alloc ?_ _)); exact BK317.out) hg (Kd.R_away HO_5.out (fun _ hk => hk))); have n1_ := Aside0.mk (hb); have n2_ := Aside0.mk (ho); clear BK317; clear HB; clear HO_5; have BK317 := n0_; have HB := n1_; have HO329 := n2_; clear n0_ n1_ n2_; clear ho hb hg hat))
                      go_roundg k2
                      case measure => have := HK1.out; have := HK2.out; omega
                      case rel => exact ⟨(y327), (wrap64 (x7_2 + 1)), (by first | rfl | (simp; done) | (simp [*]; done)), H', ⟨by have := HK1.out; have := HK2.out; omega⟩, ⟨by (with_reducible repeat (first | apply Kd.R_alloc | apply Kd.R_drewN | apply Kd.R_drew)); exact HO329.out⟩, ⟨by (with_reducible repeat (first | refine blk_drewN ?_ _ | refine blk_drew ?_ | refine blk_alloc ?_ _)); exact BK317.out⟩, ⟨by repeat (first | (with_reducible first | exact HB.out | apply below_alloc | apply pw_below_drewN | apply below_drew1 | refine below_set ?_ GE317.out) | exact HB.out)⟩⟩
                    · rw [if_neg c11] at H
                      exact absurd H (by simp)
                  · rw [if_neg c10] at H
                    exact absurd H (by simp)
                · rw [if_neg c9] at H
                  have c9b0 : decide (x7_2 < ((rd_L7 l1 x6_1).length : Int)) = false := decide_eq_false c9
                  clear c9
                  have H' := Aside0.mk H
                  clear H
                  have p324 : 0 ≤ (x6_1 : Int) := of_decide_eq_true (by first | (with_reducible assumption) | assumption)
                  have q324 : x6_1 < (l1.length : Int) := of_decide_eq_true (by first | (with_reducible assumption) | assumption)
                  obtain ⟨ad324, A324_0, c324_0, e324, hx324_0, hl324_0, hi324_0⟩ := at_L7 HR1.out x6_1 p324 q324
                  cases e324
                  replace hx324_0 := (HB.out.cell (World.block_lt_of_cell? w _ hx324_0)).trans hx324_0
                  have HR324_0 := Aside0.mk hi324_0
                  have HC324_0 := Aside0.mk hl324_0
                  clear hi324_0 hl324_0
                  replace p324 := eq_true p324
                  replace q324 := eq_true q324
                  go_wp2
                  go_roundg k2
                  case measure => have := HK1.out; have := HK2.out; omega
                  case rel => exact ⟨(x5_2), (wrap64 (x6_1 + 1)), (by first | rfl | (simp; done) | (simp [*]; done)), H', ⟨by have := HK1.out; have := HK2.out; omega⟩, ⟨by (with_reducible repeat (first | apply Kd.R_alloc | apply Kd.R_drewN | apply Kd.R_drew)); exact HO_5.out⟩, ⟨by (with_reducible repeat (first | refine blk_drewN ?_ _ | refine blk_drew ?_ | refine blk_alloc ?_ _)); exact BK317.out⟩, ⟨by repeat (first | (with_reducible first | exact HB.out | apply below_alloc | apply pw_below_drewN | apply below_drew1 | refine below_set ?_ GE317.out) | exact HB.out)⟩⟩
              · rw [if_neg c8] at H
                exact absurd H (by simp)
            · rw [if_neg c7] at H
              exact absurd H (by simp)
      · rw [if_neg c6] at H
        have c6b0 : decide (x6_1 < (l1.length : Int)) = false := decide_eq_false c6
        clear c6
        by_cases c13 : x5_1.length < 2932031007402
        · rw [if_pos c13] at H
          have LMc13 := Aside0.mk c13
          clear c13
          obtain ⟨y321, hy321⟩ : ∃ y_ : List (S41), y_ = (x5_1 ++ [(⟨a0_0, a0_1, a0_2, (l1.length : Int), a0_4⟩ : S41)]) := ⟨_, rfl⟩
          replace H : (some y321) = some r := by first | (rw [hy321]; with_reducible exact H) | (have H2_ := (Option.bind_some _ _).symm.trans H; rw [hy321]; with_reducible exact H2_) | (have H2_ := (Option.bind_some _ _).symm.trans H; with_reducible exact H2_) | with_reducible exact H | (rw [hy321]; exact H) | exact H
          have Ny321 := Aside0.mk hy321
          clear hy321
          obtain rfl := Option.some.inj H
          have hcz14_0 : wr.cell? ⟨gb317, 0, none⟩ = some (.int .i64 a0_0) := (blk_cell BK317.out 0).trans rfl
          have hcz14_1 : wr.cell? ⟨gb317, 1, none⟩ = some (.int .i64 a0_1) := (blk_cell BK317.out 1).trans rfl
          have hcz14_2 : wr.cell? ⟨gb317, 2, none⟩ = some (.string a0_2) := (blk_cell BK317.out 2).trans rfl
          have hcz14_3 : wr.cell? ⟨gb317, 3, none⟩ = some (.int .i64 a0_3) := (blk_cell BK317.out 3).trans rfl
          have hcz14_4 : wr.cell? ⟨gb317, 4, none⟩ = some (.int .i64 a0_4) := (blk_cell BK317.out 4).trans rfl
          have hfz14_0 := blk_frozen BK317.out 0
          have hfz14_1 := blk_frozen BK317.out 1
          have hfz14_2 := blk_frozen BK317.out 2
          have hfz14_3 := blk_frozen BK317.out 3
          have hfz14_4 := blk_frozen BK317.out 4
          go_wp2_with (first | ((with_reducible refine gate_builtin (b := .append) (xs := #[.tmp 37, .tmp 39]) rfl ?_); at_builtin; refine Kd.R_append k41 (w0 := w) w.heap.size rfl (.tmp 37) (.tmp 39) 26 41 (.agg #[(.int .i64 0), (.int .i64 0), (.string ⟨#[]⟩), (.int .i64 0), (.int .i64 0)]) 48 rfl Try.underlying26 info41 rfl (by decide) (by omega) u5 x5_1 (⟨a0_0, a0_1, a0_2, (l1.length : Int), a0_4⟩ : S41) [.int .i64 a0_0, .int .i64 a0_1, .string a0_2, .int .i64 (l1.length : Int), .int .i64 a0_4] (fun k_ => k_ ≠ gb317) (fun _ => False) rfl (by first | (go_simp; done) | (go_simp; rfl)) ?aP (fun _ hk => hk.elim) ?aF ?aO ?aB ?aS ?aL ?_; (case aP => exact k41_mkM _ _ _ (⟨a0_0, a0_1, a0_2, (l1.length : Int), a0_4⟩ : S41)); (case aB => exact (by repeat (first | (with_reducible first | exact HB.out | apply below_alloc | apply pw_below_drewN | apply below_drew1 | refine below_set ?_ GE317.out) | exact HB.out))); (case aF => exact (fun k_ hk => Kd.freshB (g := gb317) (o := .cells #[.int .i64 a0_0, .int .i64 a0_1, .string a0_2, .int .i64 (l1.length : Int), .int .i64 a0_4] 41 (0, 0)) (by (with_reducible repeat (first | refine blk_drewN ?_ _ | refine blk_drew ?_ | refine blk_alloc ?_ _)); refine blk_put (cs := #[.int .i64 a0_0, .int .i64 a0_1, .string a0_2, .int .i64 a0_3, .int .i64 a0_4]) ?_ 3 _ rfl; (with_reducible repeat (first | refine blk_drewN ?_ _ | refine blk_drew ?_ | refine blk_alloc ?_ _)); exact BK317.out) k_ hk)); (case aO => exact (by (with_reducible repeat (first | apply Kd.R_alloc | apply Kd.R_drewN | apply Kd.R_drew)); exact Kd.R_mono (Kd.R_far (p := ⟨gb317, 3, none⟩) (Kd.R_mono HO_5.out (fun k_ hk => (⟨hk, hk⟩ : _ ∧ k_ ≠ gb317))) (fun _ hk => hk.2) (.int .i64 (l1.length : Int))) (fun _ hk => hk.1))); (case aS => exact (below_size (by repeat (first | (with_reducible first | exact HB.out | apply below_alloc | apply pw_below_drewN | apply below_drew1 | refine below_set ?_ GE317.out) | exact HB.out)))); (case aL => have := LMc13.out; omega); intro v322 w15 ho hb hg hat; rw [← Ny321.out] at ho; have n0_ := Aside0.mk (blk_grown (g := gb317) (o := .cells #[.int .i64 a0_0, .int .i64 a0_1, .string a0_2, .int .i64 (l1.length : Int), .int .i64 a0_4] 41 (0, 0)) (by (with_reducible repeat (first | refine blk_drewN ?_ _ | refine blk_drew ?_ | refine blk_alloc ?_ _)); refine blk_put (cs := #[.int .i64 a0_0, .int .i64 a0_1, .string a0_2, .int .i64 a0_3, .int .i64 a0_4]) ?_ 3 _ rfl; (with_reducible repeat (first | refine blk_drewN ?_ _ | refine blk_drew ?_ | refine blk_alloc ?_ _)); exact BK317.out) hg (Kd.R_away HO_5.out (fun _ hk => hk))); have n1_ := Aside0.mk (hb); have n2_ := Aside0.mk (ho); clear BK317; clear HB; clear HO_5; have BK317 := n0_; have HB := n1_; have HO323 := n2_; clear n0_ n1_ n2_; clear ho hb hg hat))
          go_ret
          exact ⟨_, by first | rfl | (simp [errW_none, errW_some] <;> rfl) | (simp [*, errW_none, errW_some] <;> rfl), by (with_reducible repeat (first | apply Kd.R_alloc | apply Kd.R_drewN | apply Kd.R_drew)); exact Kd.R_mono HO323.out (fun _ hk => trivial), by repeat (first | (with_reducible first | exact HB.out | apply below_alloc | apply pw_below_drewN | apply below_drew1 | refine below_set ?_ GE317.out) | exact HB.out)⟩
        · rw [if_neg c13] at H
          exact absurd H (by simp)

end Go.Proofs.Ytoioineibfldcaa.K
end

section
-- Printed by wip/tools/stubprint.py, a driver of mine over the kit's print.py: some callees are proved by hand.
namespace Go.Proofs.Ytoioineibfldcaa.K
open Go.RowKit Go.Proofs.YtoioineibfldcaaW.PrintWords Go.Proofs.YtoioineibfldcaaW.PrintLast Go.Proofs.YtoioineibfldcaaW.PrintMore
attribute [local go_sem] max2_int min2_int max_two min_two max_three min_three max_four min_four   -- for this text's walks alone
set_option linter.unusedVariables false
set_option linter.unusedSimpArgs false

/-! ### impl_join: function 44 -/
def impl_join.l0 : Nat → List (List (S41)) → List (S41) → List (List (S41)) → Int → Int → Int → Int → ByteArray → Int → Int → Option ((List (S41)))
  | 0, _, _, _, _, _, _, _, _, _, _ => none
  | k + 1, x1, x5, x8, x9, x10, x331000, x331001, x331002, x331003, x331004 => if x10 < x9 then (if 0 ≤ x10 then (if x10 < (x8.length : Int) then (if x5.length + (rd_L7 x8 x10).length < 2932031007402 then (impl_join.l0 k x1 (x5 ++ (rd_L7 x8 x10)) x8 x9 (wrap64 (x10 + 1)) x331000 x331001 x331002 x331003 x331004) else (none)) else (none)) else (none)) else (if x5.length < 2932031007402 then (some (x5 ++ [(⟨x331000, x331001, x331002, (x1.length : Int), x331004⟩ : S41)])) else (none))
def impl_join.f (k : Nat) (a0_0 : Int) (a0_1 : Int) (a0_2 : ByteArray) (a0_3 : Int) (a0_4 : Int) (l1 : List (List (S41))) : Option ((List (S41))) := impl_join.l0 k l1 ([] : List (S41)) l1 (l1.length : Int) 0 a0_0 a0_1 a0_2 a0_3 a0_4
theorem impl_join.mono_l : ∀ k, (∀ y0 y1 y2 y3 y4 y5 y6 y7 y8 y9, LeO (impl_join.l0 k y0 y1 y2 y3 y4 y5 y6 y7 y8 y9) (impl_join.l0 (k + 1) y0 y1 y2 y3 y4 y5 y6 y7 y8 y9))
  | 0 => fun _ _ _ _ _ _ _ _ _ _ r h => by simp [impl_join.l0] at h
  | k + 1 => by
    have ih0 := impl_join.mono_l k
    · intro y0 y1 y2 y3 y4 y5 y6 y7 y8 y9
      unfold impl_join.l0
      repeat' first
      | (with_reducible exact ih0 _ _ _ _ _ _ _ _ _ _)
      | (with_reducible exact LeO.refl _)
      | (with_reducible exact LeO.none _)
      | (with_reducible refine LeO.ite ?_ ?_)
      | (with_reducible refine LeO.bind ?_ (fun _ => ?_))
      | exact ih0 _ _ _ _ _ _ _ _ _ _
      | exact LeO.none _
      | refine LeO.ite ?_ ?_
      | refine LeO.bind ?_ (fun _ => ?_)
theorem impl_join.mono : ∀ a0 a1 a2 a3 a4 a5 k, LeO (impl_join.f k a0 a1 a2 a3 a4 a5) (impl_join.f (k + 1) a0 a1 a2 a3 a4 a5) := by
  intro a0 a1 a2 a3 a4 a5 k
  have ih0 := impl_join.mono_l k
  unfold impl_join.f
  repeat' first
      | (with_reducible exact ih0 _ _ _ _ _ _ _ _ _ _)
      | (with_reducible exact LeO.refl _)
      | (with_reducible exact LeO.none _)
      | (with_reducible refine LeO.ite ?_ ?_)
      | (with_reducible refine LeO.bind ?_ (fun _ => ?_))
      | exact ih0 _ _ _ _ _ _ _ _ _ _
      | exact LeO.none _
      | refine LeO.ite ?_ ?_
      | refine LeO.bind ?_ (fun _ => ?_)
set_option maxHeartbeats 8000000 in
set_option maxRecDepth 100000 in
theorem impl_join.calls (k : Nat) (a0_0 : Int) (a0_1 : Int) (a0_2 : ByteArray) (a0_3 : Int) (a0_4 : Int) (A1 : Option Addr) (c1 : Nat) (l1 : List (List (S41))) (r : List (S41)) (w : World) (hr1 : Kd.C (Kd.slice 41 k41) w A1 l1.length l1) (hc1 : l1.length ≤ c1) (h : impl_join.f k a0_0 a0_1 a0_2 a0_3 a0_4 l1 = some r) :
    Calls Try.prog 44 #[.agg #[.int .i64 a0_0, .int .i64 a0_1, .string a0_2, .int .i64 a0_3, .int .i64 a0_4], .slice A1 l1.length c1] w fun e w' => ∃ v0_ : Value, e = .returned (v0_) ∧ Kd.R k41 41 w' w.heap.size (fun _ => True) v0_ r ∧ Below w.heap.size w w' := by
  have hu41 := Try.underlying41
  have HR1 := Aside0.mk hr1
  have HC1 := Aside0.mk hc1
  clear hr1 hc1
  have HB := Aside0.mk (Below.refl w.heap.size w)
  have H : (impl_join.l0 k l1 ([] : List (S41)) l1 (l1.length : Int) 0 a0_0 a0_1 a0_2 a0_3 a0_4) = some r := h
  clear h
  have H' := Aside0.mk H
  clear H
  go_enter Try.func44, Try.ntmps44
  go_wp2_with (first | ((with_reducible refine gate_dst (N := 2) rfl ?_); refine box_event ?hg (N := 2) ?hd (cs := #[.int .i64 a0_0, .int .i64 a0_1, .string a0_2, .int .i64 a0_3, .int .i64 a0_4]) (t := 41) ?hr ?_; (case hd => rfl); (case hg => rfl); (case hr => first | (go_simp; done) | (go_simp; rfl)); intro gb330 hg w3 hbox hb; have n0_ := Aside0.mk (below_step (by repeat (first | (with_reducible first | exact HB.out | apply below_alloc | apply pw_below_drewN | apply below_drew1) | exact HB.out)) hb); have n1_ := Aside0.mk (hbox); have n2_ := Aside0.mk ((by rw [hg]; exact (below_size (by repeat (first | (with_reducible first | exact HB.out | apply below_alloc | apply pw_below_drewN | apply below_drew1) | exact HB.out))) : w.heap.size ≤ gb330)); have n3_ := Aside0.mk ((by rw [hg]; exact (below_size (by repeat (first | (with_reducible first | exact HB.out | apply below_alloc | apply pw_below_drewN | apply below_drew1) | exact HB.out))) : w.heap.size ≤ gb330)); clear HB; have HB := n0_; have BK330 := n1_; have GW330 := n2_; have GE330 := n3_; clear n0_ n1_ n2_ n3_; clear hb hbox hg))
  go_loopg [5, 10] k (fun kq v5 v10 w' => ∃ (x5_1 : List (S41)) (x10_1 : Int), v10 = .int .i64 x10_1 ∧ Aside0 (impl_join.l0 kq l1 x5_1 l1 (l1.length : Int) x10_1 a0_0 a0_1 a0_2 a0_3 a0_4 = some r) ∧ Aside0 (kq ≤ k) ∧ Aside0 (Kd.R k41 41 w' w.heap.size (fun k_ => k_ ≠ gb330) v5 x5_1) ∧ Aside0 (w'.heap[gb330]? = some (.cells #[.int .i64 a0_0, .int .i64 a0_1, .string a0_2, .int .i64 a0_3, .int .i64 a0_4] 41 (0, 0))) ∧ Aside0 (Below w.heap.size w w'))
  case atStart => exact ⟨(([] : List (S41))), (0), (by first | rfl | (simp; done) | (simp [*]; done)), H', ⟨Nat.le_refl _⟩, ⟨by first | exact Kd.R_nil _ _ _ _ _ | exact Kd.N_nil _ _ _ _ _ | exact Kd.V_nil _ _ _ _ _ | exact Kd.Q_nil _ _ _ _ _ | exact Kd.S_nil _ _ _ _ _⟩, ⟨by (with_reducible repeat (first | refine blk_drewN ?_ _ | refine blk_drew ?_ | refine blk_alloc ?_ _)); exact BK330.out⟩, ⟨by repeat (first | (with_reducible first | exact HB.out | apply below_alloc | apply pw_below_drewN | apply below_drew1 | refine below_set ?_ GE330.out) | exact HB.out)⟩⟩
  case round =>
    clear H'
    try clear c1
    try clear p2
    obtain ⟨x5_1, x10_1, rfl, HA, HK1, HO_5, BK330, HB⟩ := hrel
    cases gk with
    | zero => exact absurd HA.out (by simp [impl_join.l0])
    | succ k1 =>
      have H := HA.out
      clear HA
      simp only [impl_join.l0] at H
      by_cases c4 : x10_1 < (l1.length : Int)
      · rw [if_pos c4] at H
        have c4b0 : decide (x10_1 < (l1.length : Int)) = true := decide_eq_true c4
        clear c4
        by_cases c5 : 0 ≤ x10_1
        · rw [if_pos c5] at H
          have c5b0 : decide (0 ≤ x10_1) = true := decide_eq_true c5
          clear c5
          by_cases c6 : x10_1 < (l1.length : Int)
          · rw [if_pos c6] at H
            have c6b0 : decide (x10_1 < (l1.length : Int)) = true := decide_eq_true c6
            clear c6
            by_cases c7 : x5_1.length + (rd_L7 l1 x10_1).length < 2932031007402
            · rw [if_pos c7] at H
              have LMc7 := Aside0.mk c7
              clear c7
              obtain ⟨y332, hy332⟩ : ∃ y_ : List (S41), y_ = (x5_1 ++ (rd_L7 l1 x10_1)) := ⟨_, rfl⟩
              replace H : (impl_join.l0 k1 l1 y332 l1 (l1.length : Int) (wrap64 (x10_1 + 1)) a0_0 a0_1 a0_2 a0_3 a0_4) = some r := by first | (rw [hy332]; with_reducible exact H) | (have H2_ := (Option.bind_some _ _).symm.trans H; rw [hy332]; with_reducible exact H2_) | (have H2_ := (Option.bind_some _ _).symm.trans H; with_reducible exact H2_) | with_reducible exact H | (rw [hy332]; exact H) | exact H
              have Ny332 := Aside0.mk hy332
              clear hy332
              have H' := Aside0.mk H
              clear H
              have p331 : 0 ≤ (x10_1 : Int) := of_decide_eq_true (by first | (with_reducible assumption) | assumption)
              have q331 : x10_1 < (l1.length : Int) := of_decide_eq_true (by first | (with_reducible assumption) | assumption)
              obtain ⟨ad331, A331_0, c331_0, e331, hx331_0, hl331_0, hi331_0⟩ := at_L7 HR1.out x10_1 p331 q331
              cases e331
              replace hx331_0 := (HB.out.cell (World.block_lt_of_cell? w _ hx331_0)).trans hx331_0
              have HR331_0 := Aside0.mk hi331_0
              have HC331_0 := Aside0.mk hl331_0
              clear hi331_0 hl331_0
              replace p331 := eq_true p331
              replace q331 := eq_true q331
              go_wp2_with (first | ((with_reducible refine gate_builtin (b := .append) (xs := #[.tmp 14, .tmp 15]) rfl ?_); at_builtin; refine Kd.R_append_rows k41 (w0 := w) w.heap.size rfl (.tmp 14) (.tmp 15) 26 41 (.agg #[(.int .i64 0), (.int .i64 0), (.string ⟨#[]⟩), (.int .i64 0), (.int .i64 0)]) 48 rfl Try.underlying26 info41 rfl (by decide) (by omega) u5 x5_1 (rd_L7 l1 x10_1) _ _ _ (fun k_ => k_ ≠ gb330) (fun _ => False) rfl rfl ?aO ?aR (fun _ _ h => h) (fun _ h => h.elim) ?aF ?aB ?aS ?aL ?_; (case aR => repeat (first | exact (Kd.C_below HR331_0.out HB.out) | (with_reducible refine Kd.C_alloc ?_ _) | (with_reducible refine Kd.C_drewN ?_ _) | (with_reducible refine Kd.C_drew ?_))); (case aB => exact (by repeat (first | (with_reducible first | exact HB.out | apply below_alloc | apply pw_below_drewN | apply below_drew1 | refine below_set ?_ GE330.out) | exact HB.out))); (case aF => exact (fun k_ hk => Kd.freshB (g := gb330) (o := .cells #[.int .i64 a0_0, .int .i64 a0_1, .string a0_2, .int .i64 a0_3, .int .i64 a0_4] 41 (0, 0)) (by (with_reducible repeat (first | refine blk_drewN ?_ _ | refine blk_drew ?_ | refine blk_alloc ?_ _)); exact BK330.out) k_ hk)); (case aO => exact (by (with_reducible repeat (first | apply Kd.R_alloc | apply Kd.R_drewN | apply Kd.R_drew)); exact HO_5.out)); (case aS => exact (below_size (by repeat (first | (with_reducible first | exact HB.out | apply below_alloc | apply pw_below_drewN | apply below_drew1 | refine below_set ?_ GE330.out) | exact HB.out)))); (case aL => have := LMc7.out; omega); intro v333 w8 ho hb hg hat; rw [← Ny332.out] at ho; have n0_ := Aside0.mk (blk_grown (g := gb330) (o := .cells #[.int .i64 a0_0, .int .i64 a0_1, .string a0_2, .int .i64 a0_3, .int .i64 a0_4] 41 (0, 0)) (by (with_reducible repeat (first | refine blk_drewN ?_ _ | refine blk_drew ?_ | refine blk_alloc ?_ _)); exact BK330.out) hg (Kd.R_away HO_5.out (fun _ hk => hk))); have n1_ := Aside0.mk (hb); have n2_ := Aside0.mk (ho); clear BK330; clear HB; clear HO_5; have BK330 := n0_; have HB := n1_; have HO334 := n2_; clear n0_ n1_ n2_; clear ho hb hg hat))
              go_roundg k1
              case measure => have := HK1.out; omega
              case rel => exact ⟨(y332), (wrap64 (x10_1 + 1)), (by first | rfl | (simp; done) | (simp [*]; done)), H', ⟨by have := HK1.out; omega⟩, ⟨by (with_reducible repeat (first | apply Kd.R_alloc | apply Kd.R_drewN | apply Kd.R_drew)); exact HO334.out⟩, ⟨by (with_reducible repeat (first | refine blk_drewN ?_ _ | refine blk_drew ?_ | refine blk_alloc ?_ _)); exact BK330.out⟩, ⟨by repeat (first | (with_reducible first | exact HB.out | apply below_alloc | apply pw_below_drewN | apply below_drew1 | refine below_set ?_ GE330.out) | exact HB.out)⟩⟩
            · rw [if_neg c7] at H
              exact absurd H (by simp)
          · rw [if_neg c6] at H
            exact absurd H (by simp)
        · rw [if_neg c5] at H
          exact absurd H (by simp)
      · rw [if_neg c4] at H
        have c4b0 : decide (x10_1 < (l1.length : Int)) = false := decide_eq_false c4
        clear c4
        by_cases c9 : x5_1.length < 2932031007402
        · rw [if_pos c9] at H
          have LMc9 := Aside0.mk c9
          clear c9
          obtain ⟨y335, hy335⟩ : ∃ y_ : List (S41), y_ = (x5_1 ++ [(⟨a0_0, a0_1, a0_2, (l1.length : Int), a0_4⟩ : S41)]) := ⟨_, rfl⟩
          replace H : (some y335) = some r := by first | (rw [hy335]; with_reducible exact H) | (have H2_ := (Option.bind_some _ _).symm.trans H; rw [hy335]; with_reducible exact H2_) | (have H2_ := (Option.bind_some _ _).symm.trans H; with_reducible exact H2_) | with_reducible exact H | (rw [hy335]; exact H) | exact H
          have Ny335 := Aside0.mk hy335
          clear hy335
          obtain rfl := Option.some.inj H
          have hcz10_0 : wr.cell? ⟨gb330, 0, none⟩ = some (.int .i64 a0_0) := (blk_cell BK330.out 0).trans rfl
          have hcz10_1 : wr.cell? ⟨gb330, 1, none⟩ = some (.int .i64 a0_1) := (blk_cell BK330.out 1).trans rfl
          have hcz10_2 : wr.cell? ⟨gb330, 2, none⟩ = some (.string a0_2) := (blk_cell BK330.out 2).trans rfl
          have hcz10_3 : wr.cell? ⟨gb330, 3, none⟩ = some (.int .i64 a0_3) := (blk_cell BK330.out 3).trans rfl
          have hcz10_4 : wr.cell? ⟨gb330, 4, none⟩ = some (.int .i64 a0_4) := (blk_cell BK330.out 4).trans rfl
          have hfz10_0 := blk_frozen BK330.out 0
          have hfz10_1 := blk_frozen BK330.out 1
          have hfz10_2 := blk_frozen BK330.out 2
          have hfz10_3 := blk_frozen BK330.out 3
          have hfz10_4 := blk_frozen BK330.out 4
          go_wp2_with (first | ((with_reducible refine gate_builtin (b := .append) (xs := #[.tmp 21, .tmp 23]) rfl ?_); at_builtin; refine Kd.R_append k41 (w0 := w) w.heap.size rfl (.tmp 21) (.tmp 23) 26 41 (.agg #[(.int .i64 0), (.int .i64 0), (.string ⟨#[]⟩), (.int .i64 0), (.int .i64 0)]) 48 rfl Try.underlying26 info41 rfl (by decide) (by omega) u5 x5_1 (⟨a0_0, a0_1, a0_2, (l1.length : Int), a0_4⟩ : S41) [.int .i64 a0_0, .int .i64 a0_1, .string a0_2, .int .i64 (l1.length : Int), .int .i64 a0_4] (fun k_ => k_ ≠ gb330) (fun _ => False) rfl (by first | (go_simp; done) | (go_simp; rfl)) ?aP (fun _ hk => hk.elim) ?aF ?aO ?aB ?aS ?aL ?_; (case aP => exact k41_mkM _ _ _ (⟨a0_0, a0_1, a0_2, (l1.length : Int), a0_4⟩ : S41)); (case aB => exact (by repeat (first | (with_reducible first | exact HB.out | apply below_alloc | apply pw_below_drewN | apply below_drew1 | refine below_set ?_ GE330.out) | exact HB.out))); (case aF => exact (fun k_ hk => Kd.freshB (g := gb330) (o := .cells #[.int .i64 a0_0, .int .i64 a0_1, .string a0_2, .int .i64 (l1.length : Int), .int .i64 a0_4] 41 (0, 0)) (by (with_reducible repeat (first | refine blk_drewN ?_ _ | refine blk_drew ?_ | refine blk_alloc ?_ _)); refine blk_put (cs := #[.int .i64 a0_0, .int .i64 a0_1, .string a0_2, .int .i64 a0_3, .int .i64 a0_4]) ?_ 3 _ rfl; (with_reducible repeat (first | refine blk_drewN ?_ _ | refine blk_drew ?_ | refine blk_alloc ?_ _)); exact BK330.out) k_ hk)); (case aO => exact (by (with_reducible repeat (first | apply Kd.R_alloc | apply Kd.R_drewN | apply Kd.R_drew)); exact Kd.R_mono (Kd.R_far (p := ⟨gb330, 3, none⟩) (Kd.R_mono HO_5.out (fun k_ hk => (⟨hk, hk⟩ : _ ∧ k_ ≠ gb330))) (fun _ hk => hk.2) (.int .i64 (l1.length : Int))) (fun _ hk => hk.1))); (case aS => exact (below_size (by repeat (first | (with_reducible first | exact HB.out | apply below_alloc | apply pw_below_drewN | apply below_drew1 | refine below_set ?_ GE330.out) | exact HB.out)))); (case aL => have := LMc9.out; omega); intro v336 w11 ho hb hg hat; rw [← Ny335.out] at ho; have n0_ := Aside0.mk (blk_grown (g := gb330) (o := .cells #[.int .i64 a0_0, .int .i64 a0_1, .string a0_2, .int .i64 (l1.length : Int), .int .i64 a0_4] 41 (0, 0)) (by (with_reducible repeat (first | refine blk_drewN ?_ _ | refine blk_drew ?_ | refine blk_alloc ?_ _)); refine blk_put (cs := #[.int .i64 a0_0, .int .i64 a0_1, .string a0_2, .int .i64 a0_3, .int .i64 a0_4]) ?_ 3 _ rfl; (with_reducible repeat (first | refine blk_drewN ?_ _ | refine blk_drew ?_ | refine blk_alloc ?_ _)); exact BK330.out) hg (Kd.R_away HO_5.out (fun _ hk => hk))); have n1_ := Aside0.mk (hb); have n2_ := Aside0.mk (ho); clear BK330; clear HB; clear HO_5; have BK330 := n0_; have HB := n1_; have HO337 := n2_; clear n0_ n1_ n2_; clear ho hb hg hat))
          go_ret
          exact ⟨_, by first | rfl | (simp [errW_none, errW_some] <;> rfl) | (simp [*, errW_none, errW_some] <;> rfl), by (with_reducible repeat (first | apply Kd.R_alloc | apply Kd.R_drewN | apply Kd.R_drew)); exact Kd.R_mono HO337.out (fun _ hk => trivial), by repeat (first | (with_reducible first | exact HB.out | apply below_alloc | apply pw_below_drewN | apply below_drew1 | refine below_set ?_ GE330.out) | exact HB.out)⟩
        · rw [if_neg c9] at H
          exact absurd H (by simp)

end Go.Proofs.Ytoioineibfldcaa.K
end

section
-- Printed by wip/tools/stubprint.py, a driver of mine over the kit's print.py: some callees are proved by hand.
namespace Go.Proofs.Ytoioineibfldcaa.K
open Go.RowKit Go.Proofs.YtoioineibfldcaaW.PrintWords Go.Proofs.YtoioineibfldcaaW.PrintLast Go.Proofs.YtoioineibfldcaaW.PrintMore
attribute [local go_sem] max2_int min2_int max_two min_two max_three min_three max_four min_four   -- for this text's walks alone
set_option linter.unusedVariables false
set_option linter.unusedSimpArgs false

/-! ### impl_Join: function 27 -/
def impl_Join.f (k : Nat) (a0_0 : Int) (a0_1 : Int) (a0_2 : ByteArray) (a0_3 : Int) (a0_4 : Int) (l1 : List (List (S41))) : Option ((List (S41))) := (impl_join.f k a0_0 a0_1 a0_2 a0_3 a0_4 l1).bind fun t339 => (some t339)
theorem impl_Join.mono : ∀ a0 a1 a2 a3 a4 a5 k, LeO (impl_Join.f k a0 a1 a2 a3 a4 a5) (impl_Join.f (k + 1) a0 a1 a2 a3 a4 a5) := by
  intro a0 a1 a2 a3 a4 a5 k
  unfold impl_Join.f
  repeat' first
      | (with_reducible exact impl_join.mono _ _ _ _ _ _ _)
      | (with_reducible exact LeO.refl _)
      | (with_reducible exact LeO.none _)
      | (with_reducible refine LeO.ite ?_ ?_)
      | (with_reducible refine LeO.bind ?_ (fun _ => ?_))
      | exact impl_join.mono _ _ _ _ _ _ _
      | exact LeO.none _
      | refine LeO.ite ?_ ?_
      | refine LeO.bind ?_ (fun _ => ?_)
set_option maxHeartbeats 8000000 in
set_option maxRecDepth 100000 in
theorem impl_Join.calls (k : Nat) (a0_0 : Int) (a0_1 : Int) (a0_2 : ByteArray) (a0_3 : Int) (a0_4 : Int) (A1 : Option Addr) (c1 : Nat) (l1 : List (List (S41))) (r : List (S41)) (w : World) (hr1 : Kd.C (Kd.slice 41 k41) w A1 l1.length l1) (hc1 : l1.length ≤ c1) (h : impl_Join.f k a0_0 a0_1 a0_2 a0_3 a0_4 l1 = some r) :
    Calls Try.prog 27 #[.agg #[.int .i64 a0_0, .int .i64 a0_1, .string a0_2, .int .i64 a0_3, .int .i64 a0_4], .slice A1 l1.length c1] w fun e w' => ∃ v0_ : Value, e = .returned (v0_) ∧ Kd.R k41 41 w' w.heap.size (fun _ => True) v0_ r ∧ Below w.heap.size w w' := by
  have hu41 := Try.underlying41
  have HR1 := Aside0.mk hr1
  have HC1 := Aside0.mk hc1
  clear hr1 hc1
  have HB := Aside0.mk (Below.refl w.heap.size w)
  have H : ((impl_join.f k a0_0 a0_1 a0_2 a0_3 a0_4 l1).bind fun t339 => (some t339)) = some r := h
  clear h
  replace H := Option.bind_eq_some_iff.mp H
  obtain ⟨t339, A30, H⟩ := H
  replace H : (some t339) = some r := H
  have A3 := Aside0.mk A30
  clear A30
  obtain rfl := Option.some.inj H
  go_enter Try.func27, Try.ntmps27
  go_wp2_with (first | ((with_reducible refine gate_dst (N := 2) rfl ?_); refine box_event ?hg (N := 2) ?hd (cs := #[.int .i64 a0_0, .int .i64 a0_1, .string a0_2, .int .i64 a0_3, .int .i64 a0_4]) (t := 41) ?hr ?_; (case hd => rfl); (case hg => rfl); (case hr => first | (go_simp; done) | (go_simp; rfl)); intro gb338 hg w4 hbox hb; have n0_ := Aside0.mk (below_step (by repeat (first | (with_reducible first | exact HB.out | apply below_alloc | apply pw_below_drewN | apply below_drew1) | exact HB.out)) hb); have n1_ := Aside0.mk (hbox); have n2_ := Aside0.mk ((by rw [hg]; exact (below_size (by repeat (first | (with_reducible first | exact HB.out | apply below_alloc | apply pw_below_drewN | apply below_drew1) | exact HB.out))) : w.heap.size ≤ gb338)); have n3_ := Aside0.mk ((by rw [hg]; exact (below_size (by repeat (first | (with_reducible first | exact HB.out | apply below_alloc | apply pw_below_drewN | apply below_drew1) | exact HB.out))) : w.heap.size ≤ gb338)); clear HB; have HB := n0_; have BK338 := n1_; have GW338 := n2_; have GE338 := n3_; clear n0_ n1_ n2_ n3_; clear hb hbox hg; have hcz5_0 : w4.cell? ⟨gb338, 0, none⟩ = some (.int .i64 a0_0) := (blk_cell BK338.out 0).trans rfl; have hcz5_1 : w4.cell? ⟨gb338, 1, none⟩ = some (.int .i64 a0_1) := (blk_cell BK338.out 1).trans rfl; have hcz5_2 : w4.cell? ⟨gb338, 2, none⟩ = some (.string a0_2) := (blk_cell BK338.out 2).trans rfl; have hcz5_3 : w4.cell? ⟨gb338, 3, none⟩ = some (.int .i64 a0_3) := (blk_cell BK338.out 3).trans rfl; have hcz5_4 : w4.cell? ⟨gb338, 4, none⟩ = some (.int .i64 a0_4) := (blk_cell BK338.out 4).trans rfl; have hfz5_0 := blk_frozen BK338.out 0; have hfz5_1 := blk_frozen BK338.out 1; have hfz5_2 := blk_frozen BK338.out 2; have hfz5_3 := blk_frozen BK338.out 3; have hfz5_4 := blk_frozen BK338.out 4) | ((with_reducible refine gate_callee (f := 44) rfl ?_); refine goesL_ (some 7) rfl rfl Try.func44 (by kernel_rfl) rfl #[.agg #[.int .i64 a0_0, .int .i64 a0_1, .string a0_2, .int .i64 a0_3, .int .i64 a0_4], .slice A1 l1.length c1] rfl (by (try simp only [List.map_toArray, List.map_cons, List.map_nil]); first | done | rfl | (simp only [List.length_drop, List.length_take]; rfl)) ?_; (with_reducible refine (impl_join.calls k a0_0 a0_1 a0_2 a0_3 a0_4 _ _ l1 t339 _ ?side1 ?side2 A3.out).mono ?_); (case side1 => repeat (first | exact (Kd.C_below HR1.out HB.out) | (with_reducible refine Kd.C_alloc ?_ _) | (with_reducible refine Kd.C_drewN ?_ _) | (with_reducible refine Kd.C_drew ?_))); (case side2 => exact HC1.out); rintro e w6 ⟨v340, rfl, ho0, hb⟩; refine ⟨_, rfl, ?_⟩; have n0_ := Aside0.mk (Kd.R_lower (Kd.R_newB ho0 (g := gb338) (o := .cells #[.int .i64 a0_0, .int .i64 a0_1, .string a0_2, .int .i64 a0_3, .int .i64 a0_4] 41 (0, 0)) (by (with_reducible repeat (first | refine blk_drewN ?_ _ | refine blk_drew ?_ | refine blk_alloc ?_ _)); exact BK338.out)) (below_size (by repeat (first | (with_reducible first | exact HB.out | apply below_alloc | apply pw_below_drewN | apply below_drew1 | refine below_set ?_ GE338.out) | exact HB.out)))); have n1_ := Aside0.mk (blk_below (g := gb338) (o := .cells #[.int .i64 a0_0, .int .i64 a0_1, .string a0_2, .int .i64 a0_3, .int .i64 a0_4] 41 (0, 0)) (by (with_reducible repeat (first | refine blk_drewN ?_ _ | refine blk_drew ?_ | refine blk_alloc ?_ _)); exact BK338.out) hb); have n2_ := Aside0.mk (below_step (by repeat (first | (with_reducible first | exact HB.out | apply below_alloc | apply pw_below_drewN | apply below_drew1 | refine below_set ?_ GE338.out) | exact HB.out)) hb); clear BK338; clear HB; have HO341 := n0_; have BK338 := n1_; have HB := n2_; clear n0_ n1_ n2_; (try clear hb); (try clear hb2); (try clear hk); (try clear hi); (try clear ho0)))
  go_ret
  exact ⟨_, by first | rfl | (simp [errW_none, errW_some] <;> rfl) | (simp [*, errW_none, errW_some] <;> rfl), by (with_reducible repeat (first | apply Kd.R_alloc | apply Kd.R_drewN | apply Kd.R_drew)); exact Kd.R_mono HO341.out (fun _ hk => trivial), by repeat (first | (with_reducible first | exact HB.out | apply below_alloc | apply pw_below_drewN | apply below_drew1 | refine below_set ?_ GE338.out) | exact HB.out)⟩

end Go.Proofs.Ytoioineibfldcaa.K
end
