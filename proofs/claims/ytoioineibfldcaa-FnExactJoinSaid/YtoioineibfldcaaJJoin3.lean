/- Joined by wip/tools/merge.py from: Kx28, Kx30, LPart, Kx32, Kx33, Kx35, Kx36, Kx37, Kx43, LSS, HMarkSS, HJoin, HRow, HRow2, LawJoin. -/
import Derived.Test.YtoioineibfldcaaJJoin2
import Derived.Test.YtoioineibfldcaaRows
import Derived.WalkKit
import Derived.ProofKit
import Derived.OpenShut
import Derived.ShutString
import Derived.ChangeOld
import Derived.Below
import Derived.SizedLaws
import Derived.Deep.Slices
import Derived.Deep.Fields
import Derived.ChangeSame
import Derived.Lib.SmallJoins
section
-- Printed by wip/tools/stubprint.py, a driver of mine over the kit's print.py: some callees are proved by hand.
namespace Go.Proofs.Ytoioineibfldcaa.K
open Go.RowKit Go.Proofs.YtoioineibfldcaaW.PrintWords Go.Proofs.YtoioineibfldcaaW.PrintLast Go.Proofs.YtoioineibfldcaaW.PrintMore
attribute [local go_sem] max2_int min2_int max_two min_two max_three min_three max_four min_four   -- for this text's walks alone
set_option linter.unusedVariables false
set_option linter.unusedSimpArgs false

/-! ### spec_Part: function 32 -/
def spec_Part.j0 : Nat → List (S41) → Int → Bool → Option ((List (S41)))
  | 0, _, _, _ => none
  | k + 1, x0, x1, x17 => if x17 = true then (some (([] : List (S41)))) else ((spec_l1Sizes.f x0).bind fun t264 => ((spec_l1Sub.f k x0 t264 x1).bind fun t267 => (some t267)))
def spec_Part.f (k : Nat) (l0 : List (S41)) (a1 : Int) : Option ((List (S41))) := (spec_Good.f k l0).bind fun t260 => (if t260 = true then (if a1 < 0 then (spec_Part.j0 k l0 a1 true) else (spec_Part.j0 k l0 a1 (decide (a1 ≥ (l0.length : Int))))) else (spec_Part.j0 k l0 a1 true))
theorem spec_Part.mono_l : ∀ k, (∀ y0 y1 y2, LeO (spec_Part.j0 k y0 y1 y2) (spec_Part.j0 (k + 1) y0 y1 y2))
  | 0 => fun _ _ _ r h => by simp [spec_Part.j0] at h
  | k + 1 => by
    have ih0 := spec_Part.mono_l k
    · intro y0 y1 y2
      unfold spec_Part.j0
      repeat' first
      | (with_reducible exact ih0 _ _ _)
      | (with_reducible exact spec_Good.mono _ _)
      | (with_reducible exact spec_l1Sub.mono _ _ _ _)
      | (with_reducible exact LeO.refl _)
      | (with_reducible exact LeO.none _)
      | (with_reducible refine LeO.ite ?_ ?_)
      | (with_reducible refine LeO.bind ?_ (fun _ => ?_))
      | exact ih0 _ _ _
      | exact spec_Good.mono _ _
      | exact spec_l1Sub.mono _ _ _ _
      | exact LeO.none _
      | refine LeO.ite ?_ ?_
      | refine LeO.bind ?_ (fun _ => ?_)
theorem spec_Part.mono : ∀ a0 a1 k, LeO (spec_Part.f k a0 a1) (spec_Part.f (k + 1) a0 a1) := by
  intro a0 a1 k
  have ih0 := spec_Part.mono_l k
  unfold spec_Part.f
  repeat' first
      | (with_reducible exact ih0 _ _ _)
      | (with_reducible exact spec_Good.mono _ _)
      | (with_reducible exact spec_l1Sub.mono _ _ _ _)
      | (with_reducible exact LeO.refl _)
      | (with_reducible exact LeO.none _)
      | (with_reducible refine LeO.ite ?_ ?_)
      | (with_reducible refine LeO.bind ?_ (fun _ => ?_))
      | exact ih0 _ _ _
      | exact spec_Good.mono _ _
      | exact spec_l1Sub.mono _ _ _ _
      | exact LeO.none _
      | refine LeO.ite ?_ ?_
      | refine LeO.bind ?_ (fun _ => ?_)
set_option maxHeartbeats 8000000 in
set_option maxRecDepth 100000 in
theorem spec_Part.calls (k : Nat) (A0 : Option Addr) (c0 : Nat) (l0 : List (S41)) (a1 : Int) (r : List (S41)) (w : World) (hr0 : Kd.C k41 w A0 l0.length l0) (hc0 : l0.length ≤ c0) (h : spec_Part.f k l0 a1 = some r) :
    Calls Try.prog 32 #[.slice A0 l0.length c0, .int .i64 a1] w fun e w' => ∃ v0_ : Value, e = .returned (v0_) ∧ Kd.R k41 41 w' w.heap.size (fun _ => True) v0_ r ∧ Below w.heap.size w w' := by
  have HR0 := Aside0.mk hr0
  have HC0 := Aside0.mk hc0
  clear hr0 hc0
  have HB := Aside0.mk (Below.refl w.heap.size w)
  have H : ((spec_Good.f k l0).bind fun t260 => (if t260 = true then (if a1 < 0 then (spec_Part.j0 k l0 a1 true) else (spec_Part.j0 k l0 a1 (decide (a1 ≥ (l0.length : Int))))) else (spec_Part.j0 k l0 a1 true))) = some r := h
  clear h
  have HC3 := Aside0.mk H
  clear H
  go_enter Try.func32, Try.ntmps32
  go_upto_region 1 with (fail)
  go_cut [17] (fun v17 wc => ∃ (kq : Nat) (x17_2 : Bool), v17 = .bool x17_2 ∧ Aside0 (spec_Part.j0 kq l0 a1 x17_2 = some r) ∧ Aside0 (kq ≤ k) ∧ Aside0 (Below w.heap.size w wc))
  case first =>
    have H := HC3.out
    clear HC3
    replace H := Option.bind_eq_some_iff.mp H
    obtain ⟨t260, A40, H⟩ := H
    replace H : (if t260 = true then (if a1 < 0 then (spec_Part.j0 k l0 a1 true) else (spec_Part.j0 k l0 a1 (decide (a1 ≥ (l0.length : Int))))) else (spec_Part.j0 k l0 a1 true)) = some r := H
    have A4 := Aside0.mk A40
    clear A40
    by_cases c5 : t260 = true
    · subst c5
      have H1 : (if a1 < 0 then (spec_Part.j0 k l0 a1 true) else (spec_Part.j0 k l0 a1 (decide (a1 ≥ (l0.length : Int))))) = some r := by rw [if_pos rfl] at H; exact H
      clear H
      have H := H1
      clear H1
      by_cases c6 : a1 < 0
      · rw [if_pos c6] at H
        have c6b0 : decide (a1 < 0) = true := decide_eq_true c6
        clear c6
        (first | rw [c6b0] | (simp only [i64_w, i32_w]; rw [c6b0]) | skip)
        have H' := Aside0.mk H
        clear H
        go_wp2_with (first | ((with_reducible refine gate_callee (f := 18) rfl ?_); refine goesL_ (some 6) rfl rfl Try.func18 (by kernel_rfl) rfl #[.slice A0 l0.length c0] rfl (by (try simp only [List.map_toArray, List.map_cons, List.map_nil]); first | done | rfl | (simp only [List.length_drop, List.length_take]; rfl)) ?_; (with_reducible refine (spec_Good.calls k _ _ l0 true _ ?side1 ?side2 A4.out).mono ?_); (case side1 => repeat (first | exact (Kd.C_below HR0.out HB.out) | (with_reducible refine Kd.C_alloc ?_ _) | (with_reducible refine Kd.C_drewN ?_ _) | (with_reducible refine Kd.C_drew ?_))); (case side2 => exact HC0.out); rintro e w7 ⟨rfl, hb⟩; refine ⟨_, rfl, ?_⟩; have n0_ := Aside0.mk (below_step (by repeat (first | (with_reducible first | exact HB.out | apply below_alloc | apply pw_below_drewN | apply below_drew1) | exact HB.out)) hb); clear HB; have HB := n0_; clear n0_; (try clear hb); (try clear hb2); (try clear hk); (try clear hi)))
        go_meet
        case rel => exact ⟨_, (true), (by first | rfl | (simp; done) | (simp [*]; done)), H', ⟨by first | omega | exact Nat.le_refl _⟩, ⟨by repeat (first | (with_reducible first | exact HB.out | apply below_alloc | apply pw_below_drewN | apply below_drew1) | exact HB.out)⟩⟩
      · rw [if_neg c6] at H
        have c6b0 : decide (a1 < 0) = false := decide_eq_false c6
        clear c6
        (first | rw [c6b0] | (simp only [i64_w, i32_w]; rw [c6b0]) | skip)
        have H' := Aside0.mk H
        clear H
        go_wp2_with (first | ((with_reducible refine gate_callee (f := 18) rfl ?_); refine goesL_ (some 6) rfl rfl Try.func18 (by kernel_rfl) rfl #[.slice A0 l0.length c0] rfl (by (try simp only [List.map_toArray, List.map_cons, List.map_nil]); first | done | rfl | (simp only [List.length_drop, List.length_take]; rfl)) ?_; (with_reducible refine (spec_Good.calls k _ _ l0 true _ ?side1 ?side2 A4.out).mono ?_); (case side1 => repeat (first | exact (Kd.C_below HR0.out HB.out) | (with_reducible refine Kd.C_alloc ?_ _) | (with_reducible refine Kd.C_drewN ?_ _) | (with_reducible refine Kd.C_drew ?_))); (case side2 => exact HC0.out); rintro e w8 ⟨rfl, hb⟩; refine ⟨_, rfl, ?_⟩; have n0_ := Aside0.mk (below_step (by repeat (first | (with_reducible first | exact HB.out | apply below_alloc | apply pw_below_drewN | apply below_drew1) | exact HB.out)) hb); clear HB; have HB := n0_; clear n0_; (try clear hb); (try clear hb2); (try clear hk); (try clear hi)))
        go_meet
        case rel => exact ⟨_, (decide (a1 ≥ (l0.length : Int))), (by first | rfl | (simp; done) | (simp [*]; done)), H', ⟨by first | omega | exact Nat.le_refl _⟩, ⟨by repeat (first | (with_reducible first | exact HB.out | apply below_alloc | apply pw_below_drewN | apply below_drew1) | exact HB.out)⟩⟩
    · replace c5 := Bool.eq_false_iff.mpr c5
      subst c5
      have H1 : (spec_Part.j0 k l0 a1 true) = some r := by rw [if_neg (show ¬ (false = true) by decide)] at H; exact H
      clear H
      have H := H1
      clear H1
      have H' := Aside0.mk H
      clear H
      go_wp2_with (first | ((with_reducible refine gate_callee (f := 18) rfl ?_); refine goesL_ (some 6) rfl rfl Try.func18 (by kernel_rfl) rfl #[.slice A0 l0.length c0] rfl (by (try simp only [List.map_toArray, List.map_cons, List.map_nil]); first | done | rfl | (simp only [List.length_drop, List.length_take]; rfl)) ?_; (with_reducible refine (spec_Good.calls k _ _ l0 false _ ?side1 ?side2 A4.out).mono ?_); (case side1 => repeat (first | exact (Kd.C_below HR0.out HB.out) | (with_reducible refine Kd.C_alloc ?_ _) | (with_reducible refine Kd.C_drewN ?_ _) | (with_reducible refine Kd.C_drew ?_))); (case side2 => exact HC0.out); rintro e w9 ⟨rfl, hb⟩; refine ⟨_, rfl, ?_⟩; have n0_ := Aside0.mk (below_step (by repeat (first | (with_reducible first | exact HB.out | apply below_alloc | apply pw_below_drewN | apply below_drew1) | exact HB.out)) hb); clear HB; have HB := n0_; clear n0_; (try clear hb); (try clear hb2); (try clear hk); (try clear hi)))
      go_meet
      case rel => exact ⟨_, (true), (by first | rfl | (simp; done) | (simp [*]; done)), H', ⟨by first | omega | exact Nat.le_refl _⟩, ⟨by repeat (first | (with_reducible first | exact HB.out | apply below_alloc | apply pw_below_drewN | apply below_drew1) | exact HB.out)⟩⟩
  case rest =>
    clear HC3
    try clear c1
    try clear p2
    try clear c3
    try clear c5
    try clear c6
    try clear c6b0
    obtain ⟨kq, x17_2, rfl, HA, HJ2, HB⟩ := hcut
    cases kq with
    | zero => exact absurd HA.out (by simp [spec_Part.j0])
    | succ kj2 =>
      have H := HA.out
      clear HA
      simp only [spec_Part.j0] at H
      by_cases c10 : x17_2 = true
      · subst c10
        have H1 : (some (([] : List (S41)))) = some r := by rw [if_pos rfl] at H; exact H
        clear H
        have H := H1
        clear H1
        obtain ⟨y261, hy261⟩ : ∃ y_ : List (S41), y_ = (([] : List (S41))) := ⟨_, rfl⟩
        replace H : (some y261) = some r := by first | (rw [hy261]; with_reducible exact H) | (have H2_ := (Option.bind_some _ _).symm.trans H; rw [hy261]; with_reducible exact H2_) | (have H2_ := (Option.bind_some _ _).symm.trans H; with_reducible exact H2_) | with_reducible exact H | (rw [hy261]; exact H) | exact H
        have Ny261 := Aside0.mk hy261
        clear hy261
        obtain rfl := Option.some.inj H
        go_wp2_with (first | ((with_reducible refine gate_dst (N := 18) rfl ?_); (try (refine gate_guard (by rfl) ?_; dsimp only)); refine Kd.R_lit k41 _ 41 ?hg (N := 18) ?hd (xs := ([] : List (S41))) (inner := []) (ok := fun _ => True) (okp := fun _ => True) ?hr ?hp (fun _ hk => hk) trivial (Below.refl _ _) (Nat.le_refl _) (by simp) ?_; (case hd => rfl); (case hg => rfl); (case hr => first | (go_simp; done) | (go_simp; rfl)); (case hp => exact (Reps.none _ _)); intro v262 w11 ho12 hb hg_ hnew_; clear hg_ hnew_; (first | rw [← Ny261.out] at ho12 | (simp only [Int.reduceToNat] at ho12; rw [← Ny261.out] at ho12)); have n0_ := Aside0.mk (Kd.R_lower ho12 (below_size (by repeat (first | (with_reducible first | exact HB.out | apply below_alloc | apply pw_below_drewN | apply below_drew1) | exact HB.out)))); have n1_ := Aside0.mk (below_step (by repeat (first | (with_reducible first | exact HB.out | apply below_alloc | apply pw_below_drewN | apply below_drew1) | exact HB.out)) hb); clear HB; have HO263 := n0_; have HB := n1_; clear n0_ n1_; clear hb ho12))
        go_ret
        exact ⟨_, by first | rfl | (simp [errW_none, errW_some] <;> rfl) | (simp [*, errW_none, errW_some] <;> rfl), by (with_reducible repeat (first | apply Kd.R_alloc | apply Kd.R_drewN | apply Kd.R_drew)); exact HO263.out, by repeat (first | (with_reducible first | exact HB.out | apply below_alloc | apply pw_below_drewN | apply below_drew1) | exact HB.out)⟩
      · replace c10 := Bool.eq_false_iff.mpr c10
        subst c10
        have H1 : ((spec_l1Sizes.f l0).bind fun t264 => ((spec_l1Sub.f kj2 l0 t264 a1).bind fun t267 => (some t267))) = some r := by rw [if_neg (show ¬ (false = true) by decide)] at H; exact H
        clear H
        have H := H1
        clear H1
        replace H := Option.bind_eq_some_iff.mp H
        obtain ⟨t264, A130, H⟩ := H
        replace H : ((spec_l1Sub.f kj2 l0 t264 a1).bind fun t267 => (some t267)) = some r := H
        have A13 := Aside0.mk A130
        clear A130
        replace H := Option.bind_eq_some_iff.mp H
        obtain ⟨t267, A140, H⟩ := H
        replace H : (some t267) = some r := H
        have A14 := Aside0.mk A140
        clear A140
        obtain rfl := Option.some.inj H
        go_wp2_with (first | ((with_reducible refine gate_callee (f := 41) rfl ?_); refine goesL_ (some 21) rfl rfl Try.func41 (by kernel_rfl) rfl #[.slice A0 l0.length c0] rfl (by (try simp only [List.map_toArray, List.map_cons, List.map_nil]); first | done | rfl | (simp only [List.length_drop, List.length_take]; rfl)) ?_; (with_reducible refine (spec_l1Sizes.calls _ _ l0 t264 _ ?side1 ?side2 A13.out).mono ?_); (case side1 => repeat (first | exact (Kd.C_below HR0.out HB.out) | (with_reducible refine Kd.C_alloc ?_ _) | (with_reducible refine Kd.C_drewN ?_ _) | (with_reducible refine Kd.C_drew ?_))); (case side2 => exact HC0.out); rintro e w15 ⟨v265, rfl, ho0, hb⟩; refine ⟨_, rfl, ?_⟩; have n0_ := Aside0.mk (Kd.R_lower ho0 (below_size (by repeat (first | (with_reducible first | exact HB.out | apply below_alloc | apply pw_below_drewN | apply below_drew1) | exact HB.out)))); have n1_ := Aside0.mk (below_step (by repeat (first | (with_reducible first | exact HB.out | apply below_alloc | apply pw_below_drewN | apply below_drew1) | exact HB.out)) hb); clear HB; have HO266 := n0_; have HB := n1_; clear n0_ n1_; (try clear hb); (try clear hb2); (try clear hk); (try clear hi); (try clear ho0); obtain ⟨Ao16, co16, eo16⟩ := Kd.R_slice HO266.out; subst eo16) | ((with_reducible refine gate_callee (f := 46) rfl ?_); refine goesL_ (some 23) rfl rfl Try.func46 (by kernel_rfl) rfl #[.slice A0 l0.length c0, .slice Ao16 t264.length co16, .int .i64 a1] rfl (by (try simp only [List.map_toArray, List.map_cons, List.map_nil]); first | done | rfl | (simp only [List.length_drop, List.length_take]; rfl)) ?_; (with_reducible refine (spec_l1Sub.calls kj2 _ _ l0 _ _ t264 a1 t267 _ ?side1 ?side2 ?side3 ?side4 A14.out).mono ?_); (case side1 => repeat (first | exact (Kd.C_below HR0.out HB.out) | (with_reducible refine Kd.C_alloc ?_ _) | (with_reducible refine Kd.C_drewN ?_ _) | (with_reducible refine Kd.C_drew ?_))); (case side2 => exact HC0.out); (case side3 => repeat (first | exact (Kd.R_reads' HO266.out).2.2 | (with_reducible refine Kd.C_alloc ?_ _) | (with_reducible refine Kd.C_drewN ?_ _) | (with_reducible refine Kd.C_drew ?_))); (case side4 => exact (Kd.R_reads' HO266.out).2.1); rintro e w17 ⟨v268, rfl, ho0, hb⟩; refine ⟨_, rfl, ?_⟩; have n0_ := Aside0.mk (Kd.R_below (by (with_reducible repeat (first | apply Kd.R_alloc | apply Kd.R_drewN | apply Kd.R_drew)); exact HO266.out) hb); have n1_ := Aside0.mk (Kd.R_lower ho0 (below_size (by repeat (first | (with_reducible first | exact HB.out | apply below_alloc | apply pw_below_drewN | apply below_drew1) | exact HB.out)))); have n2_ := Aside0.mk (below_step (by repeat (first | (with_reducible first | exact HB.out | apply below_alloc | apply pw_below_drewN | apply below_drew1) | exact HB.out)) hb); clear HO266; clear HB; have HO266 := n0_; have HO269 := n1_; have HB := n2_; clear n0_ n1_ n2_; (try clear hb); (try clear hb2); (try clear hk); (try clear hi); (try clear ho0)))
        go_ret
        exact ⟨_, by first | rfl | (simp [errW_none, errW_some] <;> rfl) | (simp [*, errW_none, errW_some] <;> rfl), by (with_reducible repeat (first | apply Kd.R_alloc | apply Kd.R_drewN | apply Kd.R_drew)); exact HO269.out, by repeat (first | (with_reducible first | exact HB.out | apply below_alloc | apply pw_below_drewN | apply below_drew1) | exact HB.out)⟩

end Go.Proofs.Ytoioineibfldcaa.K
end

section
-- Printed by wip/tools/stubprint.py, a driver of mine over the kit's print.py: some callees are proved by hand.
namespace Go.Proofs.Ytoioineibfldcaa.K
open Go.RowKit Go.Proofs.YtoioineibfldcaaW.PrintWords Go.Proofs.YtoioineibfldcaaW.PrintLast Go.Proofs.YtoioineibfldcaaW.PrintMore
attribute [local go_sem] max2_int min2_int max_two min_two max_three min_three max_four min_four   -- for this text's walks alone
set_option linter.unusedVariables false
set_option linter.unusedSimpArgs false

/-! ### impl_Part: function 33 -/
def impl_Part.j0 : Nat → List (S41) → Int → Bool → Option ((List (S41)))
  | 0, _, _, _ => none
  | k + 1, x0, x1, x19 => if x19 = true then (some ([] : List (S41))) else ((impl_measure.f x0).bind fun bt271 => (if 0 ≤ x1 then (if x1 < (bt271.2.length : Int) then (if 0 ≤ (rd bt271.2 x1) then (if (rd bt271.2 x1) ≤ (wrap64 (x1 + 1)) then (if (wrap64 (x1 + 1)) ≤ (x0.length : Int) then ((impl_copied.f ((x0.take ((wrap64 (x1 + 1)) : Int).toNat).drop ((rd bt271.2 x1) : Int).toNat)).bind fun t280 => (some t280)) else (none)) else (none)) else (none)) else (none)) else (none)))
def impl_Part.f (k : Nat) (l0 : List (S41)) (a1 : Int) : Option ((List (S41))) := (impl_Good.f l0).bind fun t270 => (if t270 = true then (if a1 < 0 then (impl_Part.j0 k l0 a1 true) else (impl_Part.j0 k l0 a1 (decide (a1 ≥ (l0.length : Int))))) else (impl_Part.j0 k l0 a1 true))
theorem impl_Part.mono_l : ∀ k, (∀ y0 y1 y2, LeO (impl_Part.j0 k y0 y1 y2) (impl_Part.j0 (k + 1) y0 y1 y2))
  | 0 => fun _ _ _ r h => by simp [impl_Part.j0] at h
  | k + 1 => by
    have ih0 := impl_Part.mono_l k
    · intro y0 y1 y2
      unfold impl_Part.j0
      repeat' first
      | (with_reducible exact ih0 _ _ _)
      | (with_reducible exact LeO.refl _)
      | (with_reducible exact LeO.none _)
      | (with_reducible refine LeO.ite ?_ ?_)
      | (with_reducible refine LeO.bind ?_ (fun _ => ?_))
      | exact ih0 _ _ _
      | exact LeO.none _
      | refine LeO.ite ?_ ?_
      | refine LeO.bind ?_ (fun _ => ?_)
theorem impl_Part.mono : ∀ a0 a1 k, LeO (impl_Part.f k a0 a1) (impl_Part.f (k + 1) a0 a1) := by
  intro a0 a1 k
  have ih0 := impl_Part.mono_l k
  unfold impl_Part.f
  repeat' first
      | (with_reducible exact ih0 _ _ _)
      | (with_reducible exact LeO.refl _)
      | (with_reducible exact LeO.none _)
      | (with_reducible refine LeO.ite ?_ ?_)
      | (with_reducible refine LeO.bind ?_ (fun _ => ?_))
      | exact ih0 _ _ _
      | exact LeO.none _
      | refine LeO.ite ?_ ?_
      | refine LeO.bind ?_ (fun _ => ?_)
set_option maxHeartbeats 8000000 in
set_option maxRecDepth 100000 in
theorem impl_Part.calls (k : Nat) (A0 : Option Addr) (c0 : Nat) (l0 : List (S41)) (a1 : Int) (r : List (S41)) (w : World) (hr0 : Kd.C k41 w A0 l0.length l0) (hc0 : l0.length ≤ c0) (h : impl_Part.f k l0 a1 = some r) :
    Calls Try.prog 33 #[.slice A0 l0.length c0, .int .i64 a1] w fun e w' => ∃ v0_ : Value, e = .returned (v0_) ∧ Kd.R k41 41 w' w.heap.size (fun _ => True) v0_ r ∧ Below w.heap.size w w' := by
  have HR0 := Aside0.mk hr0
  have HC0 := Aside0.mk hc0
  clear hr0 hc0
  have HB := Aside0.mk (Below.refl w.heap.size w)
  have H : ((impl_Good.f l0).bind fun t270 => (if t270 = true then (if a1 < 0 then (impl_Part.j0 k l0 a1 true) else (impl_Part.j0 k l0 a1 (decide (a1 ≥ (l0.length : Int))))) else (impl_Part.j0 k l0 a1 true))) = some r := h
  clear h
  have HC3 := Aside0.mk H
  clear H
  go_enter Try.func33, Try.ntmps33
  go_upto_region 1 with (fail)
  go_cut [19] (fun v19 wc => ∃ (kq : Nat) (x19_2 : Bool), v19 = .bool x19_2 ∧ Aside0 (impl_Part.j0 kq l0 a1 x19_2 = some r) ∧ Aside0 (kq ≤ k) ∧ Aside0 (Below w.heap.size w wc))
  case first =>
    have H := HC3.out
    clear HC3
    replace H := Option.bind_eq_some_iff.mp H
    obtain ⟨t270, A40, H⟩ := H
    replace H : (if t270 = true then (if a1 < 0 then (impl_Part.j0 k l0 a1 true) else (impl_Part.j0 k l0 a1 (decide (a1 ≥ (l0.length : Int))))) else (impl_Part.j0 k l0 a1 true)) = some r := H
    have A4 := Aside0.mk A40
    clear A40
    by_cases c5 : t270 = true
    · subst c5
      have H1 : (if a1 < 0 then (impl_Part.j0 k l0 a1 true) else (impl_Part.j0 k l0 a1 (decide (a1 ≥ (l0.length : Int))))) = some r := by rw [if_pos rfl] at H; exact H
      clear H
      have H := H1
      clear H1
      by_cases c6 : a1 < 0
      · rw [if_pos c6] at H
        have c6b0 : decide (a1 < 0) = true := decide_eq_true c6
        clear c6
        (first | rw [c6b0] | (simp only [i64_w, i32_w]; rw [c6b0]) | skip)
        have H' := Aside0.mk H
        clear H
        go_wp2_with (first | ((with_reducible refine gate_callee (f := 19) rfl ?_); refine goesL_ (some 8) rfl rfl Try.func19 (by kernel_rfl) rfl #[.slice A0 l0.length c0] rfl (by (try simp only [List.map_toArray, List.map_cons, List.map_nil]); first | done | rfl | (simp only [List.length_drop, List.length_take]; rfl)) ?_; (with_reducible refine (impl_Good.calls _ _ l0 true _ ?side1 ?side2 A4.out).mono ?_); (case side1 => repeat (first | exact (Kd.C_below HR0.out HB.out) | (with_reducible refine Kd.C_alloc ?_ _) | (with_reducible refine Kd.C_drewN ?_ _) | (with_reducible refine Kd.C_drew ?_))); (case side2 => exact HC0.out); rintro e w7 ⟨rfl, hb⟩; refine ⟨_, rfl, ?_⟩; have n0_ := Aside0.mk (below_step (by repeat (first | (with_reducible first | exact HB.out | apply below_alloc | apply pw_below_drewN | apply below_drew1) | exact HB.out)) hb); clear HB; have HB := n0_; clear n0_; (try clear hb); (try clear hb2); (try clear hk); (try clear hi)))
        go_meet
        case rel => exact ⟨_, (true), (by first | rfl | (simp; done) | (simp [*]; done)), H', ⟨by first | omega | exact Nat.le_refl _⟩, ⟨by repeat (first | (with_reducible first | exact HB.out | apply below_alloc | apply pw_below_drewN | apply below_drew1) | exact HB.out)⟩⟩
      · rw [if_neg c6] at H
        have c6b0 : decide (a1 < 0) = false := decide_eq_false c6
        clear c6
        (first | rw [c6b0] | (simp only [i64_w, i32_w]; rw [c6b0]) | skip)
        have H' := Aside0.mk H
        clear H
        go_wp2_with (first | ((with_reducible refine gate_callee (f := 19) rfl ?_); refine goesL_ (some 8) rfl rfl Try.func19 (by kernel_rfl) rfl #[.slice A0 l0.length c0] rfl (by (try simp only [List.map_toArray, List.map_cons, List.map_nil]); first | done | rfl | (simp only [List.length_drop, List.length_take]; rfl)) ?_; (with_reducible refine (impl_Good.calls _ _ l0 true _ ?side1 ?side2 A4.out).mono ?_); (case side1 => repeat (first | exact (Kd.C_below HR0.out HB.out) | (with_reducible refine Kd.C_alloc ?_ _) | (with_reducible refine Kd.C_drewN ?_ _) | (with_reducible refine Kd.C_drew ?_))); (case side2 => exact HC0.out); rintro e w8 ⟨rfl, hb⟩; refine ⟨_, rfl, ?_⟩; have n0_ := Aside0.mk (below_step (by repeat (first | (with_reducible first | exact HB.out | apply below_alloc | apply pw_below_drewN | apply below_drew1) | exact HB.out)) hb); clear HB; have HB := n0_; clear n0_; (try clear hb); (try clear hb2); (try clear hk); (try clear hi)))
        go_meet
        case rel => exact ⟨_, (decide (a1 ≥ (l0.length : Int))), (by first | rfl | (simp; done) | (simp [*]; done)), H', ⟨by first | omega | exact Nat.le_refl _⟩, ⟨by repeat (first | (with_reducible first | exact HB.out | apply below_alloc | apply pw_below_drewN | apply below_drew1) | exact HB.out)⟩⟩
    · replace c5 := Bool.eq_false_iff.mpr c5
      subst c5
      have H1 : (impl_Part.j0 k l0 a1 true) = some r := by rw [if_neg (show ¬ (false = true) by decide)] at H; exact H
      clear H
      have H := H1
      clear H1
      have H' := Aside0.mk H
      clear H
      go_wp2_with (first | ((with_reducible refine gate_callee (f := 19) rfl ?_); refine goesL_ (some 8) rfl rfl Try.func19 (by kernel_rfl) rfl #[.slice A0 l0.length c0] rfl (by (try simp only [List.map_toArray, List.map_cons, List.map_nil]); first | done | rfl | (simp only [List.length_drop, List.length_take]; rfl)) ?_; (with_reducible refine (impl_Good.calls _ _ l0 false _ ?side1 ?side2 A4.out).mono ?_); (case side1 => repeat (first | exact (Kd.C_below HR0.out HB.out) | (with_reducible refine Kd.C_alloc ?_ _) | (with_reducible refine Kd.C_drewN ?_ _) | (with_reducible refine Kd.C_drew ?_))); (case side2 => exact HC0.out); rintro e w9 ⟨rfl, hb⟩; refine ⟨_, rfl, ?_⟩; have n0_ := Aside0.mk (below_step (by repeat (first | (with_reducible first | exact HB.out | apply below_alloc | apply pw_below_drewN | apply below_drew1) | exact HB.out)) hb); clear HB; have HB := n0_; clear n0_; (try clear hb); (try clear hb2); (try clear hk); (try clear hi)))
      go_meet
      case rel => exact ⟨_, (true), (by first | rfl | (simp; done) | (simp [*]; done)), H', ⟨by first | omega | exact Nat.le_refl _⟩, ⟨by repeat (first | (with_reducible first | exact HB.out | apply below_alloc | apply pw_below_drewN | apply below_drew1) | exact HB.out)⟩⟩
  case rest =>
    clear HC3
    try clear c1
    try clear p2
    try clear c3
    try clear c5
    try clear c6
    try clear c6b0
    obtain ⟨kq, x19_2, rfl, HA, HJ2, HB⟩ := hcut
    cases kq with
    | zero => exact absurd HA.out (by simp [impl_Part.j0])
    | succ kj2 =>
      have H := HA.out
      clear HA
      simp only [impl_Part.j0] at H
      by_cases c10 : x19_2 = true
      · subst c10
        have H1 : (some ([] : List (S41))) = some r := by rw [if_pos rfl] at H; exact H
        clear H
        have H := H1
        clear H1
        obtain rfl := Option.some.inj H
        go_wp2
        go_ret
        exact ⟨_, by first | rfl | (simp [errW_none, errW_some] <;> rfl) | (simp [*, errW_none, errW_some] <;> rfl), by first | exact Kd.R_nil _ _ _ _ _ | exact Kd.N_nil _ _ _ _ _ | exact Kd.V_nil _ _ _ _ _ | exact Kd.Q_nil _ _ _ _ _ | exact Kd.S_nil _ _ _ _ _, by repeat (first | (with_reducible first | exact HB.out | apply below_alloc | apply pw_below_drewN | apply below_drew1) | exact HB.out)⟩
      · replace c10 := Bool.eq_false_iff.mpr c10
        subst c10
        have H1 : ((impl_measure.f l0).bind fun bt271 => (if 0 ≤ a1 then (if a1 < (bt271.2.length : Int) then (if 0 ≤ (rd bt271.2 a1) then (if (rd bt271.2 a1) ≤ (wrap64 (a1 + 1)) then (if (wrap64 (a1 + 1)) ≤ (l0.length : Int) then ((impl_copied.f ((l0.take ((wrap64 (a1 + 1)) : Int).toNat).drop ((rd bt271.2 a1) : Int).toNat)).bind fun t280 => (some t280)) else (none)) else (none)) else (none)) else (none)) else (none))) = some r := by rw [if_neg (show ¬ (false = true) by decide)] at H; exact H
        clear H
        have H := H1
        clear H1
        replace H := Option.bind_eq_some_iff.mp H
        obtain ⟨⟨t271, t272⟩, A110, H⟩ := H
        replace H : (if 0 ≤ a1 then (if a1 < (t272.length : Int) then (if 0 ≤ (rd t272 a1) then (if (rd t272 a1) ≤ (wrap64 (a1 + 1)) then (if (wrap64 (a1 + 1)) ≤ (l0.length : Int) then ((impl_copied.f ((l0.take ((wrap64 (a1 + 1)) : Int).toNat).drop ((rd t272 a1) : Int).toNat)).bind fun t280 => (some t280)) else (none)) else (none)) else (none)) else (none)) else (none)) = some r := H
        have A11 := Aside0.mk A110
        clear A110
        by_cases c12 : 0 ≤ a1
        · rw [if_pos c12] at H
          have c12b0 : decide (0 ≤ a1) = true := decide_eq_true c12
          clear c12
          by_cases c13 : a1 < (t272.length : Int)
          · rw [if_pos c13] at H
            have c13b0 : decide (a1 < (t272.length : Int)) = true := decide_eq_true c13
            clear c13
            by_cases c14 : 0 ≤ (rd t272 a1)
            · rw [if_pos c14] at H
              have c14b0 := eq_true c14
              have c14b1 : decide (0 ≤ (rd t272 a1)) = true := decide_eq_true c14
              clear c14
              by_cases c15 : (rd t272 a1) ≤ (wrap64 (a1 + 1))
              · rw [if_pos c15] at H
                have c15b0 := eq_true c15
                have c15b1 : decide ((rd t272 a1) ≤ (wrap64 (a1 + 1))) = true := decide_eq_true c15
                by_cases c16 : (wrap64 (a1 + 1)) ≤ (l0.length : Int)
                · rw [if_pos c16] at H
                  have c16b0 := eq_true c16
                  have c16b1 : decide ((wrap64 (a1 + 1)) ≤ (l0.length : Int)) = true := decide_eq_true c16
                  obtain ⟨y276, hy276⟩ : ∃ y_ : List (S41), y_ = ((l0.take ((wrap64 (a1 + 1)) : Int).toNat).drop ((rd t272 a1) : Int).toNat) := ⟨_, rfl⟩
                  replace H : ((impl_copied.f y276).bind fun t280 => (some t280)) = some r := by first | (rw [hy276]; with_reducible exact H) | (have H2_ := (Option.bind_some _ _).symm.trans H; rw [hy276]; with_reducible exact H2_) | (have H2_ := (Option.bind_some _ _).symm.trans H; with_reducible exact H2_) | with_reducible exact H | (rw [hy276]; exact H) | exact H
                  have Ny276 := Aside0.mk hy276
                  clear hy276
                  replace H := Option.bind_eq_some_iff.mp H
                  obtain ⟨t280, A170, H⟩ := H
                  replace H : (some t280) = some r := H
                  have A17 := Aside0.mk A170
                  clear A170
                  obtain rfl := Option.some.inj H
                  go_wp2_with (first | ((with_reducible refine gate_callee (f := 43) rfl ?_); refine goesL_ (some 22) rfl rfl Try.func43 (by kernel_rfl) rfl #[.slice A0 l0.length c0] rfl (by (try simp only [List.map_toArray, List.map_cons, List.map_nil]); first | done | rfl | (simp only [List.length_drop, List.length_take]; rfl)) ?_; (with_reducible refine (impl_measure.calls _ _ l0 t271 t272 _ ?side1 ?side2 A11.out).mono ?_); (case side1 => repeat (first | exact (Kd.C_below HR0.out HB.out) | (with_reducible refine Kd.C_alloc ?_ _) | (with_reducible refine Kd.C_drewN ?_ _) | (with_reducible refine Kd.C_drew ?_))); (case side2 => exact HC0.out); rintro e w18 ⟨v273, rfl, ho0, hb⟩; refine ⟨_, rfl, ?_⟩; have n0_ := Aside0.mk (Kd.R_lower ho0 (below_size (by repeat (first | (with_reducible first | exact HB.out | apply below_alloc | apply pw_below_drewN | apply below_drew1) | exact HB.out)))); have n1_ := Aside0.mk (below_step (by repeat (first | (with_reducible first | exact HB.out | apply below_alloc | apply pw_below_drewN | apply below_drew1) | exact HB.out)) hb); clear HB; have HO274 := n0_; have HB := n1_; clear n0_ n1_; (try clear hb); (try clear hb2); (try clear hk); (try clear hi); (try clear ho0); obtain ⟨Ao19, co19, eo19⟩ := Kd.R_slice HO274.out; subst eo19; have p275 : 0 ≤ (a1 : Int) := of_decide_eq_true (by first | (with_reducible assumption) | assumption); have q275 : a1 < (t272.length : Int) := of_decide_eq_true (by first | (with_reducible assumption) | assumption); obtain ⟨ad275, e275, hx275_0⟩ := Kd.at_int (Kd.R_reads' HO274.out).2.2 a1 p275 q275; cases e275; replace p275 := eq_true p275; replace q275 := eq_true q275; have q20 : ((wrap64 (a1 + 1)) : Int) ≤ ((l0.length : Int) : Int) := of_decide_eq_true (by first | (with_reducible assumption) | assumption); obtain ⟨i020, hi020, _, hsz20, _⟩ := info_parts info41; have hroom20 : l0.length ≤ c0 := HC0.out; have hC20 : Kd.C k41 _ A0 l0.length l0 := HR0.out; have ql20 : ((rd t272 a1) : Int) ≤ ((wrap64 (a1 + 1)) : Int) := of_decide_eq_true (by first | (with_reducible assumption) | assumption); have q020 : (0 : Int) ≤ ((rd t272 a1) : Int) := of_decide_eq_true (by first | (with_reducible assumption) | assumption); have hcut20 := cut_mid (P := Try.prog) 26 41 .i64 .i64 Try.underlying26 hi020 5 hsz20 A0 l0.length c0 (rd t272 a1) (wrap64 (a1 + 1)) q020 ql20 q20 hroom20; have hr20 := Kd.C_mid (lo := ((rd t272 a1) : Int).toNat) (hi := ((wrap64 (a1 + 1)) : Int).toNat) (c := c0) hC20 (by omega) (by omega) hroom20; obtain ⟨A20, hA20⟩ : ∃ A1, A1 = (if c0 = ((rd t272 a1) : Int).toNat then A0 else (A0 : Option Addr).map (·.add (((rd t272 a1) : Int).toNat * 5))) := ⟨_, rfl⟩; obtain ⟨c20, hc20⟩ : ∃ c1, c1 = c0 - ((rd t272 a1) : Int).toNat := ⟨_, rfl⟩; have hy20 : y276.length = ((wrap64 (a1 + 1)) : Int).toNat - ((rd t272 a1) : Int).toNat := (by rw [Ny276.out, List.length_drop, List.length_take] <;> omega); rw [show ((l0).take ((wrap64 (a1 + 1)) : Int).toNat).drop ((rd t272 a1) : Int).toNat = y276 from Ny276.out.symm] at hr20; replace hr20 : Kd.C k41 _ A20 y276.length y276 := (by rw [hA20]; exact hr20); rw [← hy20, ← hA20, ← hc20] at hcut20; have HR279 := Aside0.mk hr20; have HC279 := Aside0.mk (show y276.length ≤ c20 from by rw [hy20, hc20]; exact Nat.sub_le_sub_right (Nat.le_trans (by omega) hroom20) _); clear hr20 hC20 hroom20 hi020 hsz20 hc20; have KY20 := Aside0.mk hy20; have KA20 := Aside0.mk hA20; clear hy20 hA20; replace q20 := eq_true q20) | ((with_reducible refine gate_callee (f := 47) rfl ?_); refine goesL_ (some 33) rfl rfl Try.func47 (by kernel_rfl) rfl #[.slice A20 y276.length c20] rfl (by (try simp only [List.map_toArray, List.map_cons, List.map_nil]); first | done | rfl | (simp only [List.length_drop, List.length_take]; rfl)) ?_; (with_reducible refine (impl_copied.calls _ _ y276 t280 _ ?side1 ?side2 A17.out).mono ?_); (case side1 => repeat (first | exact (Kd.C_below HR279.out HB.out) | (with_reducible refine Kd.C_alloc ?_ _) | (with_reducible refine Kd.C_drewN ?_ _) | (with_reducible refine Kd.C_drew ?_))); (case side2 => exact HC279.out); rintro e w21 ⟨v281, rfl, ho0, hb⟩; refine ⟨_, rfl, ?_⟩; have n0_ := Aside0.mk (Kd.R_below (by (with_reducible repeat (first | apply Kd.R_alloc | apply Kd.R_drewN | apply Kd.R_drew)); exact HO274.out) hb); have n1_ := Aside0.mk (Kd.R_lower ho0 (below_size (by repeat (first | (with_reducible first | exact HB.out | apply below_alloc | apply pw_below_drewN | apply below_drew1) | exact HB.out)))); have n2_ := Aside0.mk (below_step (by repeat (first | (with_reducible first | exact HB.out | apply below_alloc | apply pw_below_drewN | apply below_drew1) | exact HB.out)) hb); clear HO274; clear HB; have HO274 := n0_; have HO282 := n1_; have HB := n2_; clear n0_ n1_ n2_; (try clear hb); (try clear hb2); (try clear hk); (try clear hi); (try clear ho0)))
                  go_ret
                  exact ⟨_, by first | rfl | (simp [errW_none, errW_some] <;> rfl) | (simp [*, errW_none, errW_some] <;> rfl), by (with_reducible repeat (first | apply Kd.R_alloc | apply Kd.R_drewN | apply Kd.R_drew)); exact HO282.out, by repeat (first | (with_reducible first | exact HB.out | apply below_alloc | apply pw_below_drewN | apply below_drew1) | exact HB.out)⟩
                · rw [if_neg c16] at H
                  exact absurd H (by simp)
              · rw [if_neg c15] at H
                exact absurd H (by simp)
            · rw [if_neg c14] at H
              exact absurd H (by simp)
          · rw [if_neg c13] at H
            exact absurd H (by simp)
        · rw [if_neg c12] at H
          exact absurd H (by simp)

end Go.Proofs.Ytoioineibfldcaa.K
end

section
/-
  The plain laws behind Part: l1Copy, l1Sub, both Parts, and the marks that markNodeS sets and heldNodeS looks for. Conditions: at most 2932031007402 nodes; the marks start at 1 and at most 1000000 nodes are marked.
-/
set_option linter.unusedVariables false
namespace Go.Proofs.Ytoioineibfldcaa.K
open Go.RowKit Go.Proofs.YtoioineibfldcaaW.PrintWords Go.Proofs.YtoioineibfldcaaW.PrintLast Go.Proofs.YtoioineibfldcaaW.PrintMore

theorem run_bd : ∀ (ks : List Int) (st : List (Int × Int)) (i : Nat) (Y fin : List (Int × Int)), run st i ks = some (Y, fin) → (∀ e ∈ st, 0 ≤ e.2 ∧ e.2 < (i : Int)) → ∀ (j : Nat) (e : Int × Int), Y[j]? = some e → 0 ≤ e.2 ∧ e.2 ≤ (i : Int) + j := by
  intro ks
  induction ks with
  | nil => intro st i Y fin h _ j e he; simp [run] at h; obtain ⟨rfl, rfl⟩ := h; simp at he
  | cons k ks ih =>
    intro st i Y fin h hst j e he
    by_cases hb : k < 0 ∨ (st.length : Int) < k
    · rw [run_bad _ _ _ _ hb] at h; cases h
    · rw [run_ok _ _ _ _ hb] at h
      obtain ⟨⟨Y', fin'⟩, h1, h2⟩ := Option.map_eq_some_iff.1 h
      obtain ⟨h3, h4⟩ := Prod.mk.inj h2
      simp only at h3 h4
      subst h3 h4
      have hf := foldKids_snd (1, (i : Int)) i (st.drop (st.length - k.toNat)) (by simp) (fun e he => hst e (List.mem_of_mem_drop he))
      cases j with
      | zero => simp at he; subst he; omega
      | succ j =>
        simp at he
        rw [show ((i : Int) + 1) = ((i + 1 : Nat) : Int) by omega] at h1
        have := ih _ (i + 1) _ _ h1 (fun e he => by
          rcases List.mem_append.1 he with he | he
          · have := hst e (List.mem_of_mem_take he); omega
          · rw [List.mem_singleton.1 he]; omega) j e he
        omega

/-! ### l1Copy, l1Sub -/
theorem copy_loop (l : List S41) (hl : l.length ≤ 2932031007402) (d : Nat) : ∀ (i : Nat), i ≤ l.length → l.length - i = d → Ev (fun k => spec_l1Copy.l0 k l (l.take i) i) l := by
  induction d with
  | zero =>
    intro i hi hd
    refine Ev.step (f := fun _ => some l) (fun k => ?_) (Ev.now _)
    simp only [spec_l1Copy.l0]
    rw [if_neg (by omega), List.take_of_length_le (by omega)]
  | succ d ih =>
    intro i hi hd
    have hlt : i < l.length := by omega
    have hx : rd_T41 l (i : Int) = l[i] := by simp [rd_T41, List.getD_eq_getElem?_getD, hlt]
    refine Ev.step (fun k => ?_) (ih (i + 1) (by omega) (by omega))
    simp only [spec_l1Copy.l0]
    rw [if_pos (by omega), if_pos (by omega), if_pos (by rw [List.length_take]; omega), hx, wrap_succ hlt (by omega), List.take_succ_eq_append_getElem hlt]
theorem copy_ev (l : List S41) (hl : l.length ≤ 2932031007402) : Ev (fun k => spec_l1Copy.f k l) l := by
  have := copy_loop l hl _ 0 (Nat.zero_le _) rfl
  rw [List.take_zero] at this
  exact this
theorem sub_ev (l : List S41) (hl : l.length ≤ 2932031007402) (Y : List (Int × Int)) (i : Nat) (e : Int × Int) (hY : Y.length = l.length) (he : Y[i]? = some e) (h0 : 0 ≤ e.2) (h1 : e.2 ≤ i) :
    Ev (fun k => spec_l1Sub.f k l (szOf 0 Y) i) ((l.take (i + 1)).drop e.2.toNat) := by
  have hi : i < Y.length := (List.getElem?_eq_some_iff.1 he).1
  have hsz : rd (szOf 0 Y) (i : Int) = (i : Int) - e.2 + 1 := by
    rw [rd_nat, List.getD_eq_getElem?_getD, szOf_get Y 0 i e he, Option.getD_some]
    omega
  have hc := copy_ev ((l.take (i + 1)).drop e.2.toNat) (by rw [List.length_drop, List.length_take]; omega)
  refine Ev.congr (f := fun k => (spec_l1Copy.f k ((l.take (i + 1)).drop e.2.toNat)).bind fun t => some t) (fun k => ?_) (Ev.bind hc (Ev.now _))
  unfold spec_l1Sub.f
  rw [hsz, wrap_id (x := (i : Int) - ((i : Int) - e.2 + 1)) (by omega) (by omega), show (i : Int) - ((i : Int) - e.2 + 1) + 1 = e.2 by omega, wrap_id (x := e.2) (by omega) (by omega), wrap_succ (n := Y.length) hi (by omega)]
  rw [if_pos (by omega), if_pos (by rw [szOf_len]; omega), if_pos h0, if_pos (by omega), if_pos (by omega), Int.toNat_natCast]

theorem part_ev (l : List S41) (hl : l.length ≤ 2932031007402) (a : Int) : ∃ t, Ev (fun k => spec_Part.f k l a) t ∧ Ev (fun k => impl_Part.f k l a) t := by
  obtain ⟨b, hg1, hg2, hg3⟩ := good_cases l hl
  have out : ∀ (f : Nat → Option (List S41)), (∀ k, f k = spec_Part.j0 k l a true) → Ev f [] := fun f hf =>
    Ev.congr (f := fun k => spec_Part.j0 k l a true) hf (Ev.step (f := fun _ => some []) (fun k => by rw [spec_Part.j0, if_pos rfl]) (Ev.now _))
  have outi : ∀ (f : Nat → Option (List S41)), (∀ k, f k = impl_Part.j0 k l a true) → Ev f [] := fun f hf =>
    Ev.congr (f := fun k => impl_Part.j0 k l a true) hf (Ev.step (f := fun _ => some []) (fun k => by rw [impl_Part.j0, if_pos rfl]) (Ev.now _))
  cases b with
  | false =>
    refine ⟨[], Ev.bind hg1 (out _ (fun k => if_neg (by simp))), outi _ (fun k => ?_)⟩
    rw [impl_Part.f, hg2, Option.bind_some, if_neg (by simp)]
  | true =>
    obtain ⟨Y, x, o⟩ := hg3 rfl
    by_cases ha : a < 0
    · refine ⟨[], Ev.bind hg1 (out _ (fun k => ?_)), outi _ (fun k => ?_)⟩
      · rw [if_pos rfl, if_pos ha]
      · rw [impl_Part.f, hg2, Option.bind_some, if_pos rfl, if_pos ha]
    by_cases ha2 : a ≥ (l.length : Int)
    · refine ⟨[], Ev.bind hg1 (out _ (fun k => ?_)), outi _ (fun k => ?_)⟩
      · rw [if_pos rfl, if_neg ha, decide_eq_true ha2]
      · rw [impl_Part.f, hg2, Option.bind_some, if_pos rfl, if_neg ha, decide_eq_true ha2]
    obtain ⟨n, rfl⟩ : ∃ n : Nat, a = n := ⟨a.toNat, by omega⟩
    have hlen := o.len
    have hnY : n < Y.length := by omega
    have hy : Y[n]? = some Y[n] := List.getElem?_eq_getElem hnY
    have hbd := run_bd _ _ 0 _ _ o.run_ (by simp) n _ hy
    have hs := sub_ev l hl Y n _ hlen hy hbd.1 (by omega)
    refine ⟨_, Ev.bind hg1 (Ev.congr (f := fun k => spec_Part.j0 k l n false) (fun k => ?_) (Ev.step (fun k => ?_) (Ev.bind hs (Ev.now _)))), Ev.congr (f := fun k => impl_Part.j0 k l n false) (fun k => ?_) (Ev.step (f := fun k => some ((l.take (n + 1)).drop Y[n].2.toNat)) (fun k => ?_) (Ev.now _))⟩
    · rw [if_pos rfl, if_neg ha, decide_eq_false ha2]
    · rw [spec_Part.j0, if_neg (by simp), o.sizes, Option.bind_some]
    · rw [impl_Part.f, hg2, Option.bind_some, if_pos rfl, if_neg ha, decide_eq_false ha2]
    · have hrd : rd (Y.map (·.2)) (n : Int) = Y[n].2 := by rw [rd_nat, List.getD_eq_getElem?_getD, List.getElem?_map, hy]; rfl
      rw [impl_Part.j0, if_neg (by simp), o.meas, Option.bind_some]
      simp only [hrd]
      rw [wrap_succ (n := Y.length) hnY (by omega), if_pos (by omega), if_pos (by rw [List.length_map]; omega), if_pos hbd.1, if_pos (by omega), if_pos (by omega), Int.toNat_natCast]
      unfold impl_copied.f
      rw [if_pos (by rw [List.length_drop, List.length_take]; omega)]
      rfl

/-! ### the marks -/
theorem markText_loop : ∀ (d : Nat) (a : Int) (s : ByteArray), a.toNat ≤ d → a ≤ 1000000000 → s.size + d ≤ 9223372036854775800 → ∃ t, Ev (fun k => laws_markText.l0 k a s) t := by
  intro d
  induction d with
  | zero =>
    intro a s h1 _ h2
    refine ⟨(⟨#[109]⟩ : ByteArray) ++ s, Ev.step (f := fun _ => some ((⟨#[109]⟩ : ByteArray) ++ s)) (fun k => ?_) (Ev.now _)⟩
    rw [laws_markText.l0, if_neg (by omega), if_pos (by omega)]
  | succ d ih =>
    intro a s h1 h3 h2
    by_cases h : a > 0
    · have hd : Int.tdiv a 10 = a / 10 := Int.tdiv_eq_ediv_of_nonneg (by omega)
      have hw : wrap64 (Int.tdiv a 10) = a / 10 := by rw [hd]; exact wrap_id (by omega) (by omega)
      obtain ⟨t, ht⟩ := ih (a / 10) (strOfNums [(wrap64 (48 + (Int.tmod a 10))) % 256] ++ s) (by omega) (by omega) (by rw [ByteArray.size_append, strOfNums_size]; simp; omega)
      refine ⟨t, Ev.step (fun k => ?_) ht⟩
      rw [laws_markText.l0, if_pos h, Option.bind_some, if_pos (by rw [strOfNums_size]; simp; omega), hw]
    · refine ⟨(⟨#[109]⟩ : ByteArray) ++ s, Ev.step (f := fun _ => some ((⟨#[109]⟩ : ByteArray) ++ s)) (fun k => ?_) (Ev.now _)⟩
      rw [laws_markText.l0, if_neg h, if_pos (by omega)]
theorem markText_ex (a : Int) (ha : a ≤ 1000000000) : ∃ t, Ev (fun k => laws_markText.f k a) t := by
  by_cases h : a ≤ 0
  · exact ⟨_, Ev.congr (fun k => by rw [laws_markText.f, if_pos h]) (Ev.now _)⟩
  · obtain ⟨t, ht⟩ := markText_loop a.toNat a (⟨#[]⟩ : ByteArray) (Nat.le_refl _) ha (by have : (⟨#[]⟩ : ByteArray).size = 0 := rfl; omega)
    exact ⟨t, Ev.congr (fun k => by rw [laws_markText.f, if_neg h]) ht⟩
open Classical in
noncomputable def mt (a : Int) : ByteArray := if h : ∃ t, Ev (fun k => laws_markText.f k a) t then h.choose else ⟨#[]⟩
theorem mt_ev (a : Int) (ha : a ≤ 1000000000) : Ev (fun k => laws_markText.f k a) (mt a) := by
  have h := markText_ex a ha
  unfold mt
  rw [dif_pos h]
  exact h.choose_spec
/-- The node that the marks from a on make. -/
noncomputable def mk (a : Int) : S41 := ⟨a, a + 1, mt (a + 2), a + 3, a + 4⟩
noncomputable def mks (a : Int) (n : Nat) : List S41 := (List.range n).map (fun j : Nat => mk (a + 5 * (j : Int)))
theorem mks_len (a : Int) (n : Nat) : (mks a n).length = n := by simp [mks]
theorem mks_get (a : Int) (n i : Nat) (h : i < n) : (mks a n)[i]'(by rw [mks_len]; exact h) = mk (a + 5 * i) := by simp [mks]
theorem mks_rd (a : Int) (n i : Nat) (h : i < n) : rd_T41 (mks a n) (i : Int) = mk (a + 5 * i) := by
  rw [rd_T41, Int.toNat_natCast, List.getD_eq_getElem?_getD, List.getElem?_eq_getElem (by rw [mks_len]; exact h), Option.getD_some, mks_get _ _ _ h]
theorem rd_set (l : List S41) (i : Nat) (x : S41) (h : i < l.length) : rd_T41 (l.set i x) (i : Int) = x := by
  rw [rd_T41, Int.toNat_natCast, List.getD_eq_getElem?_getD, List.getElem?_set_self h]
  rfl
theorem mark_step (l : List S41) (b : Int) (i k : Nat) (hb0 : 0 ≤ b) (hb : b ≤ 900000000) (hlt : i < l.length) (hl : l.length ≤ 900000000) :
    laws_markNodeS.l0 (k + 1) l b i = (laws_markText.f k (b + 2)).bind fun t => laws_markNodeS.l0 k (l.set i ⟨b, b + 1, t, b + 3, b + 4⟩) (b + 5) ((i + 1 : Nat) : Int) := by
  have w1 : wrap64 (b + 1) = b + 1 := wrap_id (by omega) (by omega)
  have w2 : wrap64 (b + 1 + 1) = b + 2 := by rw [wrap_id (by omega) (by omega)]; omega
  have w3 : wrap64 (b + 2 + 1) = b + 3 := by rw [wrap_id (by omega) (by omega)]; omega
  have w4 : wrap64 (b + 3 + 1) = b + 4 := by rw [wrap_id (by omega) (by omega)]; omega
  have w5 : wrap64 (b + 4 + 1) = b + 5 := by rw [wrap_id (by omega) (by omega)]; omega
  have w6 : wrap64 ((i : Int) + 1) = ((i + 1 : Nat) : Int) := wrap_succ hlt (by omega)
  have hi : (i : Int) < (l.length : Int) := by omega
  have hi0 : (0 : Int) ≤ (i : Int) := by omega
  rw [laws_markNodeS.l0, if_pos hi, if_pos hi0]
  simp only [Option.bind_some, w1, w2, w3, w4, w5, w6, Int.toNat_natCast]
  congr 1
  funext t
  rw [rd_set l i _ hlt]
  simp only [List.set_set]
  rw [rd_set l i _ hlt]
  simp only []
  rw [rd_set l i _ hlt]
  simp only []
  rw [rd_set l i _ hlt]
theorem mark_loop (a : Int) (n : Nat) (ha : 0 ≤ a) (hn : a + 5 * n ≤ 900000000) (d : Nat) : ∀ (i : Nat) (l : List S41) (b : Int), b = a + 5 * i → l.length = n → i ≤ n → n - i = d → l.take i = (mks a n).take i →
    Ev (fun k => laws_markNodeS.l0 k l b i) (a + 5 * n, mks a n) := by
  induction d with
  | zero =>
    intro i l b hb hl hi hd ht
    obtain rfl : i = n := by omega
    rw [List.take_of_length_le (by omega), List.take_of_length_le (by rw [mks_len]; omega)] at ht
    subst hb
    have hi : ¬ ((i : Int) < (l.length : Int)) := by omega
    refine Ev.step (f := fun _ => some (a + 5 * (i : Int), mks a i)) (fun k => ?_) (Ev.now _)
    rw [laws_markNodeS.l0, if_neg hi, ht]
  | succ d ih =>
    intro i l b hb hl hi hd ht
    have hlt : i < l.length := by omega
    have hm := mt_ev (b + 2) (by omega)
    have hnext := ih (i + 1) (l.set i ⟨b, b + 1, mt (b + 2), b + 3, b + 4⟩) (b + 5) (by omega) (by rw [List.length_set]; exact hl) (by omega) (by omega) (by
      rw [List.take_succ_eq_append_getElem (by rw [List.length_set]; omega), List.take_succ_eq_append_getElem (by rw [mks_len]; omega), List.take_set_of_le (Nat.le_refl _), ht, mks_get _ _ _ (by omega)]
      rw [List.getElem_set_self, hb]
      rfl)
    obtain ⟨K1, h1⟩ := hm
    obtain ⟨K2, h2⟩ := hnext
    refine ⟨K1 + K2 + 1, fun k hk => ?_⟩
    obtain ⟨k, rfl⟩ : ∃ k', k = k' + 1 := ⟨k - 1, by omega⟩
    have h3 := h1 k (by omega)
    simp only at h3
    show laws_markNodeS.l0 (k + 1) l b i = _
    rw [mark_step l b i k (by omega) (by omega) hlt (by omega), h3, Option.bind_some]
    exact h2 k (by omega)
theorem mark_ev (l : List S41) (a : Int) (ha : 0 ≤ a) (hl : a + 5 * l.length ≤ 900000000) : Ev (fun k => laws_markNodeS.f k l a) (a + 5 * l.length, mks a l.length) :=
  mark_loop a l.length ha hl _ 0 l a (by omega) rfl (Nat.zero_le _) rfl (by simp)
theorem held_step (a : Int) (n i k : Nat) (b : Int) (hb : b = a + 5 * i) (hb0 : 0 ≤ b) (hb1 : b ≤ 900000000) (hlt : i < n) (hn : n ≤ 900000000) :
    laws_heldNodeS.l0 (k + 1) (mks a n) b i = (laws_markText.f k (b + 2)).bind fun t => if (mt (b + 2)).toList = t.toList then laws_heldNodeS.l0 k (mks a n) (b + 5) ((i + 1 : Nat) : Int) else some (-1) := by
  have w1 : wrap64 (b + 1) = b + 1 := wrap_id (by omega) (by omega)
  have w2 : wrap64 (b + 1 + 1) = b + 2 := by rw [wrap_id (by omega) (by omega)]; omega
  have w3 : wrap64 (b + 2 + 1) = b + 3 := by rw [wrap_id (by omega) (by omega)]; omega
  have w4 : wrap64 (b + 3 + 1) = b + 4 := by rw [wrap_id (by omega) (by omega)]; omega
  have w5 : wrap64 (b + 4 + 1) = b + 5 := by rw [wrap_id (by omega) (by omega)]; omega
  have w6 : wrap64 ((i : Int) + 1) = ((i + 1 : Nat) : Int) := wrap_succ hlt (by omega)
  have hi : (i : Int) < ((mks a n).length : Int) := by rw [mks_len]; omega
  have hi0 : (0 : Int) ≤ (i : Int) := by omega
  rw [laws_heldNodeS.l0, if_pos hi, if_pos hi0, mks_rd _ _ _ hlt, ← hb]
  simp only [mk, w1, w2, w3, w4, w5, w6, if_true]
theorem held_loop (a : Int) (n : Nat) (ha : 0 ≤ a) (hn : a + 5 * n ≤ 900000000) (d : Nat) : ∀ (i : Nat) (b : Int), b = a + 5 * i → i ≤ n → n - i = d →
    Ev (fun k => laws_heldNodeS.l0 k (mks a n) b i) (a + 5 * n) := by
  induction d with
  | zero =>
    intro i b hb hi hd
    obtain rfl : i = n := by omega
    subst hb
    have hi : ¬ ((i : Int) < ((mks a i).length : Int)) := by rw [mks_len]; omega
    refine Ev.step (f := fun _ => some (a + 5 * (i : Int))) (fun k => ?_) (Ev.now _)
    rw [laws_heldNodeS.l0, if_neg hi]
  | succ d ih =>
    intro i b hb hi hd
    obtain ⟨K1, h1⟩ := mt_ev (b + 2) (by omega)
    obtain ⟨K2, h2⟩ := ih (i + 1) (b + 5) (by omega) (by omega) (by omega)
    refine ⟨K1 + K2 + 1, fun k hk => ?_⟩
    obtain ⟨k, rfl⟩ : ∃ k', k = k' + 1 := ⟨k - 1, by omega⟩
    have h3 := h1 k (by omega)
    simp only at h3
    show laws_heldNodeS.l0 (k + 1) (mks a n) b i = _
    rw [held_step a n i k b hb (by omega) (by omega) (by omega) (by omega), h3, Option.bind_some, if_pos rfl]
    exact h2 k (by omega)
theorem held_ev (a : Int) (n : Nat) (ha : 0 ≤ a) (hn : a + 5 * n ≤ 900000000) : Ev (fun k => laws_heldNodeS.f k (mks a n) a) (a + 5 * n) :=
  held_loop a n ha hn _ 0 a (by omega) (Nat.zero_le _) rfl
end Go.Proofs.Ytoioineibfldcaa.K
end

section
-- Printed by wip/tools/stubprint.py, a driver of mine over the kit's print.py: some callees are proved by hand.
namespace Go.Proofs.Ytoioineibfldcaa.K
open Go.RowKit Go.Proofs.YtoioineibfldcaaW.PrintWords Go.Proofs.YtoioineibfldcaaW.PrintLast Go.Proofs.YtoioineibfldcaaW.PrintMore
attribute [local go_sem] max2_int min2_int max_two min_two max_three min_three max_four min_four   -- for this text's walks alone
set_option linter.unusedVariables false
set_option linter.unusedSimpArgs false

/-! ### laws_szNodeSS: function 23 -/
def laws_szNodeSS.l0 : Nat → List (List (S36)) → Int → Int → Option (Int)
  | 0, _, _, _ => none
  | k + 1, x0, x1, x5 => if x5 < (x0.length : Int) then (if 0 ≤ x5 then ((laws_szNodeS.f k (rd_L6 x0 x5) x1).bind fun t316 => (if t316 < 0 then (some (-1)) else (laws_szNodeSS.l0 k x0 t316 (wrap64 (x5 + 1))))) else (none)) else (some x1)
def laws_szNodeSS.f (k : Nat) (l0 : List (List (S36))) (a1 : Int) : Option (Int) := if (wrap64 (a1 - (l0.length : Int))) < 0 then (some (-1)) else (laws_szNodeSS.l0 k l0 (wrap64 (a1 - (l0.length : Int))) 0)
theorem laws_szNodeSS.mono_l : ∀ k, (∀ y0 y1 y2, LeO (laws_szNodeSS.l0 k y0 y1 y2) (laws_szNodeSS.l0 (k + 1) y0 y1 y2))
  | 0 => fun _ _ _ r h => by simp [laws_szNodeSS.l0] at h
  | k + 1 => by
    have ih0 := laws_szNodeSS.mono_l k
    · intro y0 y1 y2
      unfold laws_szNodeSS.l0
      repeat' first
      | (with_reducible exact ih0 _ _ _)
      | (with_reducible exact laws_szNodeS.mono _ _ _)
      | (with_reducible exact LeO.refl _)
      | (with_reducible exact LeO.none _)
      | (with_reducible refine LeO.ite ?_ ?_)
      | (with_reducible refine LeO.bind ?_ (fun _ => ?_))
      | exact ih0 _ _ _
      | exact laws_szNodeS.mono _ _ _
      | exact LeO.none _
      | refine LeO.ite ?_ ?_
      | refine LeO.bind ?_ (fun _ => ?_)
theorem laws_szNodeSS.mono : ∀ a0 a1 k, LeO (laws_szNodeSS.f k a0 a1) (laws_szNodeSS.f (k + 1) a0 a1) := by
  intro a0 a1 k
  have ih0 := laws_szNodeSS.mono_l k
  unfold laws_szNodeSS.f
  repeat' first
      | (with_reducible exact ih0 _ _ _)
      | (with_reducible exact laws_szNodeS.mono _ _ _)
      | (with_reducible exact LeO.refl _)
      | (with_reducible exact LeO.none _)
      | (with_reducible refine LeO.ite ?_ ?_)
      | (with_reducible refine LeO.bind ?_ (fun _ => ?_))
      | exact ih0 _ _ _
      | exact laws_szNodeS.mono _ _ _
      | exact LeO.none _
      | refine LeO.ite ?_ ?_
      | refine LeO.bind ?_ (fun _ => ?_)
set_option maxHeartbeats 8000000 in
set_option maxRecDepth 100000 in
theorem laws_szNodeSS.calls (k : Nat) (A0 : Option Addr) (c0 : Nat) (l0 : List (List (S36))) (a1 : Int) (r : Int) (w : World) (hr0 : Kd.C (Kd.slice 36 k36) w A0 l0.length l0) (hc0 : l0.length ≤ c0) (h : laws_szNodeSS.f k l0 a1 = some r) :
    Calls Try.prog 23 #[.slice A0 l0.length c0, .int .i64 a1] w fun e w' => e = .returned (.int .i64 r) ∧ Below w.heap.size w w' := by
  have HR0 := Aside0.mk hr0
  have HC0 := Aside0.mk hc0
  clear hr0 hc0
  have HB := Aside0.mk (Below.refl w.heap.size w)
  have H : (if (wrap64 (a1 - (l0.length : Int))) < 0 then (some (-1)) else (laws_szNodeSS.l0 k l0 (wrap64 (a1 - (l0.length : Int))) 0)) = some r := h
  clear h
  by_cases c3 : (wrap64 (a1 - (l0.length : Int))) < 0
  · rw [if_pos c3] at H
    have c3b0 : decide ((wrap64 (a1 - (l0.length : Int))) < 0) = true := decide_eq_true c3
    clear c3
    obtain rfl := Option.some.inj H
    go_enter Try.func23, Try.ntmps23
    go_wp2
    go_ret
    exact ⟨by first | rfl | (simp [errW_none, errW_some] <;> rfl) | (simp [*, errW_none, errW_some] <;> rfl), by repeat (first | (with_reducible first | exact HB.out | apply below_alloc | apply pw_below_drewN | apply below_drew1) | exact HB.out)⟩
  · rw [if_neg c3] at H
    have c3b0 : decide ((wrap64 (a1 - (l0.length : Int))) < 0) = false := decide_eq_false c3
    clear c3
    have H' := Aside0.mk H
    clear H
    go_enter Try.func23, Try.ntmps23
    go_wp2
    go_loopg [1, 5] k (fun kq v1 v5 w' => ∃ (x1_1 : Int) (x5_1 : Int), v1 = .int .i64 x1_1 ∧ v5 = .int .i64 x5_1 ∧ Aside0 (laws_szNodeSS.l0 kq l0 x1_1 x5_1 = some r) ∧ Aside0 (kq ≤ k) ∧ Aside0 (Below w.heap.size w w'))
    case atStart => exact ⟨(wrap64 (a1 - (l0.length : Int))), (0), (by first | rfl | (simp; done) | (simp [*]; done)), (by first | rfl | (simp; done) | (simp [*]; done)), H', ⟨Nat.le_refl _⟩, ⟨by repeat (first | (with_reducible first | exact HB.out | apply below_alloc | apply pw_below_drewN | apply below_drew1) | exact HB.out)⟩⟩
    case round =>
      clear H'
      try clear c2
      try clear p2
      try clear c3
      try clear c3b0
      obtain ⟨x1_1, x5_1, rfl, rfl, HA, HK1, HB⟩ := hrel
      cases gk with
      | zero => exact absurd HA.out (by simp [laws_szNodeSS.l0])
      | succ k1 =>
        have H := HA.out
        clear HA
        simp only [laws_szNodeSS.l0] at H
        by_cases c4 : x5_1 < (l0.length : Int)
        · rw [if_pos c4] at H
          have c4b0 : decide (x5_1 < (l0.length : Int)) = true := decide_eq_true c4
          clear c4
          by_cases c5 : 0 ≤ x5_1
          · rw [if_pos c5] at H
            have c5b0 : decide (0 ≤ x5_1) = true := decide_eq_true c5
            clear c5
            replace H := Option.bind_eq_some_iff.mp H
            obtain ⟨t316, A60, H⟩ := H
            replace H : (if t316 < 0 then (some (-1)) else (laws_szNodeSS.l0 k1 l0 t316 (wrap64 (x5_1 + 1)))) = some r := H
            have A6 := Aside0.mk A60
            clear A60
            by_cases c7 : t316 < 0
            · rw [if_pos c7] at H
              have c7b0 : decide (t316 < 0) = true := decide_eq_true c7
              clear c7
              obtain rfl := Option.some.inj H
              have p315 : 0 ≤ (x5_1 : Int) := of_decide_eq_true (by first | (with_reducible assumption) | assumption)
              have q315 : x5_1 < (l0.length : Int) := of_decide_eq_true (by first | (with_reducible assumption) | assumption)
              obtain ⟨ad315, A315_0, c315_0, e315, hx315_0, hl315_0, hi315_0⟩ := at_L6 HR0.out x5_1 p315 q315
              cases e315
              replace hx315_0 := (HB.out.cell (World.block_lt_of_cell? w _ hx315_0)).trans hx315_0
              have HR315_0 := Aside0.mk hi315_0
              have HC315_0 := Aside0.mk hl315_0
              clear hi315_0 hl315_0
              replace p315 := eq_true p315
              replace q315 := eq_true q315
              go_wp2_with (first | ((with_reducible refine gate_callee (f := 11) rfl ?_); refine goesL_ (some 23) rfl rfl Try.func11 (by kernel_rfl) rfl #[.slice A315_0 (rd_L6 l0 x5_1).length c315_0, .int .i64 x1_1] rfl (by (try simp only [List.map_toArray, List.map_cons, List.map_nil]); first | done | rfl | (simp only [List.length_drop, List.length_take]; rfl)) ?_; (with_reducible refine (laws_szNodeS.calls k1 _ _ (rd_L6 l0 x5_1) x1_1 t316 _ ?side1 ?side2 A6.out).mono ?_); (case side1 => repeat (first | exact (Kd.C_below HR315_0.out HB.out) | (with_reducible refine Kd.C_alloc ?_ _) | (with_reducible refine Kd.C_drewN ?_ _) | (with_reducible refine Kd.C_drew ?_))); (case side2 => exact HC315_0.out); rintro e w8 ⟨rfl, hb⟩; refine ⟨_, rfl, ?_⟩; have n0_ := Aside0.mk (below_step (by repeat (first | (with_reducible first | exact HB.out | apply below_alloc | apply pw_below_drewN | apply below_drew1) | exact HB.out)) hb); clear HB; have HB := n0_; clear n0_; (try clear hb); (try clear hb2); (try clear hk); (try clear hi)))
              go_ret
              exact ⟨by first | rfl | (simp [errW_none, errW_some] <;> rfl) | (simp [*, errW_none, errW_some] <;> rfl), by repeat (first | (with_reducible first | exact HB.out | apply below_alloc | apply pw_below_drewN | apply below_drew1) | exact HB.out)⟩
            · rw [if_neg c7] at H
              have c7b0 : decide (t316 < 0) = false := decide_eq_false c7
              clear c7
              have H' := Aside0.mk H
              clear H
              have p315 : 0 ≤ (x5_1 : Int) := of_decide_eq_true (by first | (with_reducible assumption) | assumption)
              have q315 : x5_1 < (l0.length : Int) := of_decide_eq_true (by first | (with_reducible assumption) | assumption)
              obtain ⟨ad315, A315_0, c315_0, e315, hx315_0, hl315_0, hi315_0⟩ := at_L6 HR0.out x5_1 p315 q315
              cases e315
              replace hx315_0 := (HB.out.cell (World.block_lt_of_cell? w _ hx315_0)).trans hx315_0
              have HR315_0 := Aside0.mk hi315_0
              have HC315_0 := Aside0.mk hl315_0
              clear hi315_0 hl315_0
              replace p315 := eq_true p315
              replace q315 := eq_true q315
              go_wp2_with (first | ((with_reducible refine gate_callee (f := 11) rfl ?_); refine goesL_ (some 23) rfl rfl Try.func11 (by kernel_rfl) rfl #[.slice A315_0 (rd_L6 l0 x5_1).length c315_0, .int .i64 x1_1] rfl (by (try simp only [List.map_toArray, List.map_cons, List.map_nil]); first | done | rfl | (simp only [List.length_drop, List.length_take]; rfl)) ?_; (with_reducible refine (laws_szNodeS.calls k1 _ _ (rd_L6 l0 x5_1) x1_1 t316 _ ?side1 ?side2 A6.out).mono ?_); (case side1 => repeat (first | exact (Kd.C_below HR315_0.out HB.out) | (with_reducible refine Kd.C_alloc ?_ _) | (with_reducible refine Kd.C_drewN ?_ _) | (with_reducible refine Kd.C_drew ?_))); (case side2 => exact HC315_0.out); rintro e w9 ⟨rfl, hb⟩; refine ⟨_, rfl, ?_⟩; have n0_ := Aside0.mk (below_step (by repeat (first | (with_reducible first | exact HB.out | apply below_alloc | apply pw_below_drewN | apply below_drew1) | exact HB.out)) hb); clear HB; have HB := n0_; clear n0_; (try clear hb); (try clear hb2); (try clear hk); (try clear hi)))
              go_roundg k1
              case measure => have := HK1.out; omega
              case rel => exact ⟨(t316), (wrap64 (x5_1 + 1)), (by first | rfl | (simp; done) | (simp [*]; done)), (by first | rfl | (simp; done) | (simp [*]; done)), H', ⟨by have := HK1.out; omega⟩, ⟨by repeat (first | (with_reducible first | exact HB.out | apply below_alloc | apply pw_below_drewN | apply below_drew1) | exact HB.out)⟩⟩
          · rw [if_neg c5] at H
            exact absurd H (by simp)
        · rw [if_neg c4] at H
          have c4b0 : decide (x5_1 < (l0.length : Int)) = false := decide_eq_false c4
          clear c4
          obtain rfl := Option.some.inj H
          go_wp2
          go_ret
          exact ⟨by first | rfl | (simp [errW_none, errW_some] <;> rfl) | (simp [*, errW_none, errW_some] <;> rfl), by repeat (first | (with_reducible first | exact HB.out | apply below_alloc | apply pw_below_drewN | apply below_drew1) | exact HB.out)⟩

end Go.Proofs.Ytoioineibfldcaa.K
end

section
-- Printed by wip/tools/stubprint.py, a driver of mine over the kit's print.py: some callees are proved by hand.
namespace Go.Proofs.Ytoioineibfldcaa.K
open Go.RowKit Go.Proofs.YtoioineibfldcaaW.PrintWords Go.Proofs.YtoioineibfldcaaW.PrintLast Go.Proofs.YtoioineibfldcaaW.PrintMore
attribute [local go_sem] max2_int min2_int max_two min_two max_three min_three max_four min_four   -- for this text's walks alone
set_option linter.unusedVariables false
set_option linter.unusedSimpArgs false

/-! ### spec_Join: function 24 -/
mutual
def spec_Join.l0 : Nat → List (List (S41)) → List (S41) → Int → Int → Int → ByteArray → Int → Int → Option ((List (S41)))
  | 0, _, _, _, _, _, _, _, _ => none
  | k + 1, x1, x5, x6, x318000, x318001, x318002, x318003, x318004 => if x6 < (x1.length : Int) then (spec_Join.l1 k x1 x5 x6 0 x318000 x318001 x318002 x318003 x318004) else (if x5.length < 2932031007402 then (some (x5 ++ [(⟨x318000, x318001, x318002, (x1.length : Int), x318004⟩ : S41)])) else (none))
def spec_Join.l1 : Nat → List (List (S41)) → List (S41) → Int → Int → Int → Int → ByteArray → Int → Int → Option ((List (S41)))
  | 0, _, _, _, _, _, _, _, _, _ => none
  | k + 1, x1, x5, x6, x7, x318000, x318001, x318002, x318003, x318004 => if 0 ≤ x6 then (if x6 < (x1.length : Int) then (if x7 < ((rd_L7 x1 x6).length : Int) then (if 0 ≤ x7 then (if x5.length < 2932031007402 then (spec_Join.l1 k x1 (x5 ++ [(⟨(rd_T41 (rd_L7 x1 x6) x7).f0, (rd_T41 (rd_L7 x1 x6) x7).f1, (rd_T41 (rd_L7 x1 x6) x7).f2, (rd_T41 (rd_L7 x1 x6) x7).f3, (rd_T41 (rd_L7 x1 x6) x7).f4⟩ : S41)]) x6 (wrap64 (x7 + 1)) x318000 x318001 x318002 x318003 x318004) else (none)) else (none)) else (spec_Join.l0 k x1 x5 (wrap64 (x6 + 1)) x318000 x318001 x318002 x318003 x318004)) else (none)) else (none)
end
def spec_Join.f (k : Nat) (a0_0 : Int) (a0_1 : Int) (a0_2 : ByteArray) (a0_3 : Int) (a0_4 : Int) (l1 : List (List (S41))) : Option ((List (S41))) := spec_Join.l0 k l1 (([] : List (S41))) 0 a0_0 a0_1 a0_2 a0_3 a0_4
theorem spec_Join.mono_l : ∀ k, (∀ y0 y1 y2 y3 y4 y5 y6 y7, LeO (spec_Join.l0 k y0 y1 y2 y3 y4 y5 y6 y7) (spec_Join.l0 (k + 1) y0 y1 y2 y3 y4 y5 y6 y7)) ∧ (∀ y0 y1 y2 y3 y4 y5 y6 y7 y8, LeO (spec_Join.l1 k y0 y1 y2 y3 y4 y5 y6 y7 y8) (spec_Join.l1 (k + 1) y0 y1 y2 y3 y4 y5 y6 y7 y8))
  | 0 => ⟨fun _ _ _ _ _ _ _ _ r h => by simp [spec_Join.l0] at h, fun _ _ _ _ _ _ _ _ _ r h => by simp [spec_Join.l1] at h⟩
  | k + 1 => by
    obtain ⟨ih0, ih1⟩ := spec_Join.mono_l k
    refine ⟨?_, ?_⟩
    · intro y0 y1 y2 y3 y4 y5 y6 y7
      unfold spec_Join.l0
      repeat' first
      | (with_reducible exact ih0 _ _ _ _ _ _ _ _)
      | (with_reducible exact ih1 _ _ _ _ _ _ _ _ _)
      | (with_reducible exact LeO.refl _)
      | (with_reducible exact LeO.none _)
      | (with_reducible refine LeO.ite ?_ ?_)
      | (with_reducible refine LeO.bind ?_ (fun _ => ?_))
      | exact ih0 _ _ _ _ _ _ _ _
      | exact ih1 _ _ _ _ _ _ _ _ _
      | exact LeO.none _
      | refine LeO.ite ?_ ?_
      | refine LeO.bind ?_ (fun _ => ?_)
    · intro y0 y1 y2 y3 y4 y5 y6 y7 y8
      unfold spec_Join.l1
      repeat' first
      | (with_reducible exact ih0 _ _ _ _ _ _ _ _)
      | (with_reducible exact ih1 _ _ _ _ _ _ _ _ _)
      | (with_reducible exact LeO.refl _)
      | (with_reducible exact LeO.none _)
      | (with_reducible refine LeO.ite ?_ ?_)
      | (with_reducible refine LeO.bind ?_ (fun _ => ?_))
      | exact ih0 _ _ _ _ _ _ _ _
      | exact ih1 _ _ _ _ _ _ _ _ _
      | exact LeO.none _
      | refine LeO.ite ?_ ?_
      | refine LeO.bind ?_ (fun _ => ?_)
theorem spec_Join.mono : ∀ a0 a1 a2 a3 a4 a5 k, LeO (spec_Join.f k a0 a1 a2 a3 a4 a5) (spec_Join.f (k + 1) a0 a1 a2 a3 a4 a5) := by
  intro a0 a1 a2 a3 a4 a5 k
  obtain ⟨ih0, ih1⟩ := spec_Join.mono_l k
  unfold spec_Join.f
  repeat' first
      | (with_reducible exact ih0 _ _ _ _ _ _ _ _)
      | (with_reducible exact ih1 _ _ _ _ _ _ _ _ _)
      | (with_reducible exact LeO.refl _)
      | (with_reducible exact LeO.none _)
      | (with_reducible refine LeO.ite ?_ ?_)
      | (with_reducible refine LeO.bind ?_ (fun _ => ?_))
      | exact ih0 _ _ _ _ _ _ _ _
      | exact ih1 _ _ _ _ _ _ _ _ _
      | exact LeO.none _
      | refine LeO.ite ?_ ?_
      | refine LeO.bind ?_ (fun _ => ?_)
set_option maxHeartbeats 8000000 in
set_option maxRecDepth 100000 in
theorem spec_Join.calls (k : Nat) (a0_0 : Int) (a0_1 : Int) (a0_2 : ByteArray) (a0_3 : Int) (a0_4 : Int) (A1 : Option Addr) (c1 : Nat) (l1 : List (List (S41))) (r : List (S41)) (w : World) (hr1 : Kd.C (Kd.slice 41 k41) w A1 l1.length l1) (hc1 : l1.length ≤ c1) (h : spec_Join.f k a0_0 a0_1 a0_2 a0_3 a0_4 l1 = some r) :
    Calls Try.prog 24 #[.agg #[.int .i64 a0_0, .int .i64 a0_1, .string a0_2, .int .i64 a0_3, .int .i64 a0_4], .slice A1 l1.length c1] w fun e w' => ∃ v0_ : Value, e = .returned (v0_) ∧ Kd.R k41 41 w' w.heap.size (fun _ => True) v0_ r ∧ Below w.heap.size w w' := by
  have hu41 := Try.underlying41
  have HR1 := Aside0.mk hr1
  have HC1 := Aside0.mk hc1
  clear hr1 hc1
  have HB := Aside0.mk (Below.refl w.heap.size w)
  have H : (spec_Join.l0 k l1 (([] : List (S41))) 0 a0_0 a0_1 a0_2 a0_3 a0_4) = some r := h
  clear h
  obtain ⟨y318, hy318⟩ : ∃ y_ : List (S41), y_ = (([] : List (S41))) := ⟨_, rfl⟩
  replace H : (spec_Join.l0 k l1 y318 0 a0_0 a0_1 a0_2 a0_3 a0_4) = some r := by first | (rw [hy318]; with_reducible exact H) | (have H2_ := (Option.bind_some _ _).symm.trans H; rw [hy318]; with_reducible exact H2_) | (have H2_ := (Option.bind_some _ _).symm.trans H; with_reducible exact H2_) | with_reducible exact H | (rw [hy318]; exact H) | exact H
  have Ny318 := Aside0.mk hy318
  clear hy318
  have H' := Aside0.mk H
  clear H
  go_enter Try.func24, Try.ntmps24
  go_wp2_with (first | ((with_reducible refine gate_dst (N := 2) rfl ?_); refine box_event ?hg (N := 2) ?hd (cs := #[.int .i64 a0_0, .int .i64 a0_1, .string a0_2, .int .i64 a0_3, .int .i64 a0_4]) (t := 41) ?hr ?_; (case hd => rfl); (case hg => rfl); (case hr => first | (go_simp; done) | (go_simp; rfl)); intro gb317 hg w3 hbox hb; have n0_ := Aside0.mk (below_step (by repeat (first | (with_reducible first | exact HB.out | apply below_alloc | apply pw_below_drewN | apply below_drew1) | exact HB.out)) hb); have n1_ := Aside0.mk (hbox); have n2_ := Aside0.mk ((by rw [hg]; exact (below_size (by repeat (first | (with_reducible first | exact HB.out | apply below_alloc | apply pw_below_drewN | apply below_drew1) | exact HB.out))) : w.heap.size ≤ gb317)); have n3_ := Aside0.mk ((by rw [hg]; exact (below_size (by repeat (first | (with_reducible first | exact HB.out | apply below_alloc | apply pw_below_drewN | apply below_drew1) | exact HB.out))) : w.heap.size ≤ gb317)); clear HB; have HB := n0_; have BK317 := n1_; have GW317 := n2_; have GE317 := n3_; clear n0_ n1_ n2_ n3_; clear hb hbox hg) | ((with_reducible refine gate_dst (N := 8) rfl ?_); refine Kd.R_lit k41 _ 41 ?hg (N := 8) ?hd (xs := ([] : List (S41))) (inner := []) (ok := fun _ => True) (okp := fun _ => True) ?hr ?hp (fun _ hk => hk) trivial (Below.refl _ _) (Nat.le_refl _) (by simp) ?_; (case hd => rfl); (case hg => rfl); (case hr => first | (go_simp; done) | (go_simp; rfl)); (case hp => exact (Reps.none _ _)); intro v319 w4 ho5 hb hg_ hnew_; clear hg_ hnew_; (first | rw [← Ny318.out] at ho5 | (simp only [Int.reduceToNat] at ho5; rw [← Ny318.out] at ho5)); have n0_ := Aside0.mk (Kd.R_lower (Kd.R_newB ho5 (g := gb317) (o := .cells #[.int .i64 a0_0, .int .i64 a0_1, .string a0_2, .int .i64 a0_3, .int .i64 a0_4] 41 (0, 0)) (by (with_reducible repeat (first | refine blk_drewN ?_ _ | refine blk_drew ?_ | refine blk_alloc ?_ _)); exact BK317.out)) (below_size (by repeat (first | (with_reducible first | exact HB.out | apply below_alloc | apply pw_below_drewN | apply below_drew1 | refine below_set ?_ GE317.out) | exact HB.out)))); have n1_ := Aside0.mk (blk_below (g := gb317) (o := .cells #[.int .i64 a0_0, .int .i64 a0_1, .string a0_2, .int .i64 a0_3, .int .i64 a0_4] 41 (0, 0)) (by (with_reducible repeat (first | refine blk_drewN ?_ _ | refine blk_drew ?_ | refine blk_alloc ?_ _)); exact BK317.out) hb); have n2_ := Aside0.mk (below_step (by repeat (first | (with_reducible first | exact HB.out | apply below_alloc | apply pw_below_drewN | apply below_drew1 | refine below_set ?_ GE317.out) | exact HB.out)) hb); clear BK317; clear HB; have HO320 := n0_; have BK317 := n1_; have HB := n2_; clear n0_ n1_ n2_; clear hb ho5))
  go_loopg [5, 6] k (fun kq v5 v6 w' => ∃ (x5_1 : List (S41)) (x6_1 : Int), v6 = .int .i64 x6_1 ∧ Aside0 (spec_Join.l0 kq l1 x5_1 x6_1 a0_0 a0_1 a0_2 a0_3 a0_4 = some r) ∧ Aside0 (kq ≤ k) ∧ Aside0 (Kd.R k41 41 w' w.heap.size (fun k_ => k_ ≠ gb317) v5 x5_1) ∧ Aside0 (w'.heap[gb317]? = some (.cells #[.int .i64 a0_0, .int .i64 a0_1, .string a0_2, .int .i64 a0_3, .int .i64 a0_4] 41 (0, 0))) ∧ Aside0 (Below w.heap.size w w'))
  case atStart => exact ⟨(y318), (0), (by first | rfl | (simp; done) | (simp [*]; done)), H', ⟨Nat.le_refl _⟩, ⟨by (with_reducible repeat (first | apply Kd.R_alloc | apply Kd.R_drewN | apply Kd.R_drew)); exact Kd.R_mono HO320.out (fun _ hk => hk.2)⟩, ⟨by (with_reducible repeat (first | refine blk_drewN ?_ _ | refine blk_drew ?_ | refine blk_alloc ?_ _)); exact BK317.out⟩, ⟨by repeat (first | (with_reducible first | exact HB.out | apply below_alloc | apply pw_below_drewN | apply below_drew1 | refine below_set ?_ GE317.out) | exact HB.out)⟩⟩
  case round =>
    clear H'
    try clear c1
    try clear c2
    try clear p2
    obtain ⟨x5_1, x6_1, rfl, HA, HK1, HO_5, BK317, HB⟩ := hrel
    cases gk with
    | zero => exact absurd HA.out (by simp [spec_Join.l0])
    | succ k1 =>
      have H := HA.out
      clear HA
      simp only [spec_Join.l0] at H
      by_cases c6 : x6_1 < (l1.length : Int)
      · rw [if_pos c6] at H
        have c6b0 : decide (x6_1 < (l1.length : Int)) = true := decide_eq_true c6
        clear c6
        have H' := Aside0.mk H
        clear H
        go_wp2
        go_loopg [5, 7] k1 (fun kq v5 v7 w' => ∃ (x5_2 : List (S41)) (x7_2 : Int), v7 = .int .i64 x7_2 ∧ Aside0 (spec_Join.l1 kq l1 x5_2 x6_1 x7_2 a0_0 a0_1 a0_2 a0_3 a0_4 = some r) ∧ Aside0 (kq ≤ k1) ∧ Aside0 (Kd.R k41 41 w' w.heap.size (fun k_ => k_ ≠ gb317) v5 x5_2) ∧ Aside0 (w'.heap[gb317]? = some (.cells #[.int .i64 a0_0, .int .i64 a0_1, .string a0_2, .int .i64 a0_3, .int .i64 a0_4] 41 (0, 0))) ∧ Aside0 (Below w.heap.size w w'))
        case atStart => exact ⟨(x5_1), (0), (by first | rfl | (simp; done) | (simp [*]; done)), H', ⟨Nat.le_refl _⟩, ⟨by (with_reducible repeat (first | apply Kd.R_alloc | apply Kd.R_drewN | apply Kd.R_drew)); exact HO_5.out⟩, ⟨by (with_reducible repeat (first | refine blk_drewN ?_ _ | refine blk_drew ?_ | refine blk_alloc ?_ _)); exact BK317.out⟩, ⟨by repeat (first | (with_reducible first | exact HB.out | apply below_alloc | apply pw_below_drewN | apply below_drew1 | refine below_set ?_ GE317.out) | exact HB.out)⟩⟩
        case round =>
          clear H'
          try clear c1
          try clear c2
          try clear p2
          try clear c6
          try clear c6b0
          try clear p2
          obtain ⟨x5_2, x7_2, rfl, HA, HK2, HO_5, BK317, HB⟩ := hrel
          cases gk with
          | zero => exact absurd HA.out (by simp [spec_Join.l1])
          | succ k2 =>
            have H := HA.out
            clear HA
            simp only [spec_Join.l1] at H
            by_cases c7 : 0 ≤ x6_1
            · rw [if_pos c7] at H
              have c7b0 : decide (0 ≤ x6_1) = true := decide_eq_true c7
              clear c7
              by_cases c8 : x6_1 < (l1.length : Int)
              · rw [if_pos c8] at H
                have c8b0 : decide (x6_1 < (l1.length : Int)) = true := decide_eq_true c8
                clear c8
                by_cases c9 : x7_2 < ((rd_L7 l1 x6_1).length : Int)
                · rw [if_pos c9] at H
                  have c9b0 : decide (x7_2 < ((rd_L7 l1 x6_1).length : Int)) = true := decide_eq_true c9
                  clear c9
                  by_cases c10 : 0 ≤ x7_2
                  · rw [if_pos c10] at H
                    have c10b0 : decide (0 ≤ x7_2) = true := decide_eq_true c10
                    clear c10
                    by_cases c11 : x5_2.length < 2932031007402
                    · rw [if_pos c11] at H
                      have LMc11 := Aside0.mk c11
                      clear c11
                      obtain ⟨y327, hy327⟩ : ∃ y_ : List (S41), y_ = (x5_2 ++ [(⟨(rd_T41 (rd_L7 l1 x6_1) x7_2).f0, (rd_T41 (rd_L7 l1 x6_1) x7_2).f1, (rd_T41 (rd_L7 l1 x6_1) x7_2).f2, (rd_T41 (rd_L7 l1 x6_1) x7_2).f3, (rd_T41 (rd_L7 l1 x6_1) x7_2).f4⟩ : S41)]) := ⟨_, rfl⟩
                      replace H : (spec_Join.l1 k2 l1 y327 x6_1 (wrap64 (x7_2 + 1)) a0_0 a0_1 a0_2 a0_3 a0_4) = some r := by first | (rw [hy327]; with_reducible exact H) | (have H2_ := (Option.bind_some _ _).symm.trans H; rw [hy327]; with_reducible exact H2_) | (have H2_ := (Option.bind_some _ _).symm.trans H; with_reducible exact H2_) | with_reducible exact H | (rw [hy327]; exact H) | exact H
                      have Ny327 := Aside0.mk hy327
                      clear hy327
                      have H' := Aside0.mk H
                      clear H
                      have p324 : 0 ≤ (x6_1 : Int) := of_decide_eq_true (by first | (with_reducible assumption) | assumption)
                      have q324 : x6_1 < (l1.length : Int) := of_decide_eq_true (by first | (with_reducible assumption) | assumption)
                      obtain ⟨ad324, A324_0, c324_0, e324, hx324_0, hl324_0, hi324_0⟩ := at_L7 HR1.out x6_1 p324 q324
                      cases e324
                      replace hx324_0 := (HB.out.cell (World.block_lt_of_cell? w _ hx324_0)).trans hx324_0
                      have HR324_0 := Aside0.mk hi324_0
                      have HC324_0 := Aside0.mk hl324_0
                      clear hi324_0 hl324_0
                      replace p324 := eq_true p324
                      replace q324 := eq_true q324
                      have p325 : 0 ≤ (x6_1 : Int) := of_decide_eq_true (by first | (with_reducible assumption) | assumption)
                      have q325 : x6_1 < (l1.length : Int) := of_decide_eq_true (by first | (with_reducible assumption) | assumption)
                      obtain ⟨ad325, A325_0, c325_0, e325, hx325_0, hl325_0, hi325_0⟩ := at_L7 HR1.out x6_1 p325 q325
                      obtain rfl : ad324 = ad325 := (by injection e325)
                      replace hx325_0 := (HB.out.cell (World.block_lt_of_cell? w _ hx325_0)).trans hx325_0
                      have HR325_0 := Aside0.mk hi325_0
                      have HC325_0 := Aside0.mk hl325_0
                      clear hi325_0 hl325_0
                      replace p325 := eq_true p325
                      replace q325 := eq_true q325
                      have ea_ := Option.some.inj (hx324_0.symm.trans hx325_0)
                      injection ea_ with ea_ en_ ec_
                      subst ea_
                      subst ec_
                      clear en_
                      have p326 : 0 ≤ (x7_2 : Int) := of_decide_eq_true (by first | (with_reducible assumption) | assumption)
                      have q326 : x7_2 < ((rd_L7 l1 x6_1).length : Int) := of_decide_eq_true (by first | (with_reducible assumption) | assumption)
                      obtain ⟨ad326, e326, hx326_0, hx326_1, hx326_2, hx326_3, hx326_4⟩ := at_T41 HR325_0.out x7_2 p326 q326
                      cases e326
                      replace hx326_0 := (HB.out.cell (World.block_lt_of_cell? w _ hx326_0)).trans hx326_0
                      replace hx326_1 := (HB.out.cell (World.block_lt_of_cell? w _ hx326_1)).trans hx326_1
                      replace hx326_2 := (HB.out.cell (World.block_lt_of_cell? w _ hx326_2)).trans hx326_2
                      replace hx326_3 := (HB.out.cell (World.block_lt_of_cell? w _ hx326_3)).trans hx326_3
                      replace hx326_4 := (HB.out.cell (World.block_lt_of_cell? w _ hx326_4)).trans hx326_4
                      replace p326 := eq_true p326
                      replace q326 := eq_true q326
                      go_wp2_with (first | ((with_reducible refine gate_builtin (b := .append) (xs := #[.tmp 24, .tmp 32]) rfl ?_); at_builtin; refine Kd.R_append k41 (w0 := w) w.heap.size rfl (.tmp 24) (.tmp 32) 26 41 (.agg #[(.int .i64 0), (.int .i64 0), (.string ⟨#[]⟩), (.int .i64 0), (.int .i64 0)]) 48 rfl Try.underlying26 info41 rfl (by decide) (by omega) u5 x5_2 (⟨(rd_T41 (rd_L7 l1 x6_1) x7_2).f0, (rd_T41 (rd_L7 l1 x6_1) x7_2).f1, (rd_T41 (rd_L7 l1 x6_1) x7_2).f2, (rd_T41 (rd_L7 l1 x6_1) x7_2).f3, (rd_T41 (rd_L7 l1 x6_1) x7_2).f4⟩ : S41) [.int .i64 ((rd_T41 (rd_L7 l1 x6_1) x7_2).f0), .int .i64 ((rd_T41 (rd_L7 l1 x6_1) x7_2).f1), .string ((rd_T41 (rd_L7 l1 x6_1) x7_2).f2), .int .i64 ((rd_T41 (rd_L7 l1 x6_1) x7_2).f3), .int .i64 ((rd_T41 (rd_L7 l1 x6_1) x7_2).f4)] (fun k_ => k_ ≠ gb317) (fun _ => False) rfl rfl ?aP (fun _ hk => hk.elim) ?aF ?aO ?aB ?aS ?aL ?_; (case aP => exact k41_mkM _ _ _ (⟨(rd_T41 (rd_L7 l1 x6_1) x7_2).f0, (rd_T41 (rd_L7 l1 x6_1) x7_2).f1, (rd_T41 (rd_L7 l1 x6_1) x7_2).f2, (rd_T41 (rd_L7 l1 x6_1) x7_2).f3, (rd_T41 (rd_L7 l1 x6_1) x7_2).f4⟩ : S41)); (case aB => exact (by repeat (first | (with_reducible first | exact HB.out | apply below_alloc | apply pw_below_drewN | apply below_drew1 | refine below_set ?_ GE317.out) | exact HB.out))); (case aF => exact (fun k_ hk => Kd.freshB (g := gb317) (o := .cells #[.int .i64 a0_0, .int .i64 a0_1, .string a0_2, .int .i64 a0_3, .int .i64 a0_4] 41 (0, 0)) (by (with_reducible repeat (first | refine blk_drewN ?_ _ | refine blk_drew ?_ | refine blk_alloc ?_ _)); exact BK317.out) k_ hk)); (case aO => exact (by (with_reducible repeat (first | apply Kd.R_alloc | apply Kd.R_drewN | apply Kd.R_drew)); exact HO_5.out)); (case aS => exact (below_size (by repeat (first | (with_reducible first | exact HB.out | apply below_alloc | apply pw_below_drewN | apply below_drew1 | refine below_set ?_ GE317.out) | exact HB.out)))); (case aL => have := LMc11.out; omega); intro v328 w12 ho hb hg hat; rw [← Ny327.out] at ho; have n0_ := Aside0.mk (blk_grown (g := gb317) (o := .cells #[.int .i64 a0_0, .int .i64 a0_1, .string a0_2, .int .i64 a0_3, .int .i64 a0_4] 41 (0, 0)) (by (with_reducible repeat (first | refine blk_drewN ?_ _ | refine blk_drew ?_ | refine blk_alloc ?_ _)); exact BK317.out) hg (Kd.R_away HO_5.out (fun _ hk => hk))); have n1_ := Aside0.mk (hb); have n2_ := Aside0.mk (ho); clear BK317; clear HB; clear HO_5; have BK317 := n0_; have HB := n1_; have HO329 := n2_; clear n0_ n1_ n2_; clear ho hb hg hat))
                      go_roundg k2
                      case measure => have := HK1.out; have := HK2.out; omega
                      case rel => exact ⟨(y327), (wrap64 (x7_2 + 1)), (by first | rfl | (simp; done) | (simp [*]; done)), H', ⟨by have := HK1.out; have := HK2.out; omega⟩, ⟨by (with_reducible repeat (first | apply Kd.R_alloc | apply Kd.R_drewN | apply Kd.R_drew)); exact HO329.out⟩, ⟨by (with_reducible repeat (first | refine blk_drewN ?_ _ | refine blk_drew ?_ | refine blk_alloc ?_ _)); exact BK317.out⟩, ⟨by repeat (first | (with_reducible first | exact HB.out | apply below_alloc | apply pw_below_drewN | apply below_drew1 | refine below_set ?_ GE317.out) | exact HB.out)⟩⟩
                    · rw [if_neg c11] at H
                      exact absurd H (by simp)
                  · rw [if_neg c10] at H
                    exact absurd H (by simp)
                · rw [if_neg c9] at H
                  have c9b0 : decide (x7_2 < ((rd_L7 l1 x6_1).length : Int)) = false := decide_eq_false c9
                  clear c9
                  have H' := Aside0.mk H
                  clear H
                  have p324 : 0 ≤ (x6_1 : Int) := of_decide_eq_true (by first | (with_reducible assumption) | assumption)
                  have q324 : x6_1 < (l1.length : Int) := of_decide_eq_true (by first | (with_reducible assumption) | assumption)
                  obtain ⟨ad324, A324_0, c324_0, e324, hx324_0, hl324_0, hi324_0⟩ := at_L7 HR1.out x6_1 p324 q324
                  cases e324
                  replace hx324_0 := (HB.out.cell (World.block_lt_of_cell? w _ hx324_0)).trans hx324_0
                  have HR324_0 := Aside0.mk hi324_0
                  have HC324_0 := Aside0.mk hl324_0
                  clear hi324_0 hl324_0
                  replace p324 := eq_true p324
                  replace q324 := eq_true q324
                  go_wp2
                  go_roundg k2
                  case measure => have := HK1.out; have := HK2.out; omega
                  case rel => exact ⟨(x5_2), (wrap64 (x6_1 + 1)), (by first | rfl | (simp; done) | (simp [*]; done)), H', ⟨by have := HK1.out; have := HK2.out; omega⟩, ⟨by (with_reducible repeat (first | apply Kd.R_alloc | apply Kd.R_drewN | apply Kd.R_drew)); exact HO_5.out⟩, ⟨by (with_reducible repeat (first | refine blk_drewN ?_ _ | refine blk_drew ?_ | refine blk_alloc ?_ _)); exact BK317.out⟩, ⟨by repeat (first | (with_reducible first | exact HB.out | apply below_alloc | apply pw_below_drewN | apply below_drew1 | refine below_set ?_ GE317.out) | exact HB.out)⟩⟩
              · rw [if_neg c8] at H
                exact absurd H (by simp)
            · rw [if_neg c7] at H
              exact absurd H (by simp)
      · rw [if_neg c6] at H
        have c6b0 : decide (x6_1 < (l1.length : Int)) = false := decide_eq_false c6
        clear c6
        by_cases c13 : x5_1.length < 2932031007402
        · rw [if_pos c13] at H
          have LMc13 := Aside0.mk c13
          clear c13
          obtain ⟨y321, hy321⟩ : ∃ y_ : List (S41), y_ = (x5_1 ++ [(⟨a0_0, a0_1, a0_2, (l1.length : Int), a0_4⟩ : S41)]) := ⟨_, rfl⟩
          replace H : (some y321) = some r := by first | (rw [hy321]; with_reducible exact H) | (have H2_ := (Option.bind_some _ _).symm.trans H; rw [hy321]; with_reducible exact H2_) | (have H2_ := (Option.bind_some _ _).symm.trans H; with_reducible exact H2_) | with_reducible exact H | (rw [hy321]; exact H) | exact H
          have Ny321 := Aside0.mk hy321
          clear hy321
          obtain rfl := Option.some.inj H
          have hcz14_0 : wr.cell? ⟨gb317, 0, none⟩ = some (.int .i64 a0_0) := (blk_cell BK317.out 0).trans rfl
          have hcz14_1 : wr.cell? ⟨gb317, 1, none⟩ = some (.int .i64 a0_1) := (blk_cell BK317.out 1).trans rfl
          have hcz14_2 : wr.cell? ⟨gb317, 2, none⟩ = some (.string a0_2) := (blk_cell BK317.out 2).trans rfl
          have hcz14_3 : wr.cell? ⟨gb317, 3, none⟩ = some (.int .i64 a0_3) := (blk_cell BK317.out 3).trans rfl
          have hcz14_4 : wr.cell? ⟨gb317, 4, none⟩ = some (.int .i64 a0_4) := (blk_cell BK317.out 4).trans rfl
          have hfz14_0 := blk_frozen BK317.out 0
          have hfz14_1 := blk_frozen BK317.out 1
          have hfz14_2 := blk_frozen BK317.out 2
          have hfz14_3 := blk_frozen BK317.out 3
          have hfz14_4 := blk_frozen BK317.out 4
          go_wp2_with (first | ((with_reducible refine gate_builtin (b := .append) (xs := #[.tmp 37, .tmp 39]) rfl ?_); at_builtin; refine Kd.R_append k41 (w0 := w) w.heap.size rfl (.tmp 37) (.tmp 39) 26 41 (.agg #[(.int .i64 0), (.int .i64 0), (.string ⟨#[]⟩), (.int .i64 0), (.int .i64 0)]) 48 rfl Try.underlying26 info41 rfl (by decide) (by omega) u5 x5_1 (⟨a0_0, a0_1, a0_2, (l1.length : Int), a0_4⟩ : S41) [.int .i64 a0_0, .int .i64 a0_1, .string a0_2, .int .i64 (l1.length : Int), .int .i64 a0_4] (fun k_ => k_ ≠ gb317) (fun _ => False) rfl (by first | (go_simp; done) | (go_simp; rfl)) ?aP (fun _ hk => hk.elim) ?aF ?aO ?aB ?aS ?aL ?_; (case aP => exact k41_mkM _ _ _ (⟨a0_0, a0_1, a0_2, (l1.length : Int), a0_4⟩ : S41)); (case aB => exact (by repeat (first | (with_reducible first | exact HB.out | apply below_alloc | apply pw_below_drewN | apply below_drew1 | refine below_set ?_ GE317.out) | exact HB.out))); (case aF => exact (fun k_ hk => Kd.freshB (g := gb317) (o := .cells #[.int .i64 a0_0, .int .i64 a0_1, .string a0_2, .int .i64 (l1.length : Int), .int .i64 a0_4] 41 (0, 0)) (by (with_reducible repeat (first | refine blk_drewN ?_ _ | refine blk_drew ?_ | refine blk_alloc ?_ _)); refine blk_put (cs := #[.int .i64 a0_0, .int .i64 a0_1, .string a0_2, .int .i64 a0_3, .int .i64 a0_4]) ?_ 3 _ rfl; (with_reducible repeat (first | refine blk_drewN ?_ _ | refine blk_drew ?_ | refine blk_alloc ?_ _)); exact BK317.out) k_ hk)); (case aO => exact (by (with_reducible repeat (first | apply Kd.R_alloc | apply Kd.R_drewN | apply Kd.R_drew)); exact Kd.R_mono (Kd.R_far (p := ⟨gb317, 3, none⟩) (Kd.R_mono HO_5.out (fun k_ hk => (⟨hk, hk⟩ : _ ∧ k_ ≠ gb317))) (fun _ hk => hk.2) (.int .i64 (l1.length : Int))) (fun _ hk => hk.1))); (case aS => exact (below_size (by repeat (first | (with_reducible first | exact HB.out | apply below_alloc | apply pw_below_drewN | apply below_drew1 | refine below_set ?_ GE317.out) | exact HB.out)))); (case aL => have := LMc13.out; omega); intro v322 w15 ho hb hg hat; rw [← Ny321.out] at ho; have n0_ := Aside0.mk (blk_grown (g := gb317) (o := .cells #[.int .i64 a0_0, .int .i64 a0_1, .string a0_2, .int .i64 (l1.length : Int), .int .i64 a0_4] 41 (0, 0)) (by (with_reducible repeat (first | refine blk_drewN ?_ _ | refine blk_drew ?_ | refine blk_alloc ?_ _)); refine blk_put (cs := #[.int .i64 a0_0, .int .i64 a0_1, .string a0_2, .int .i64 a0_3, .int .i64 a0_4]) ?_ 3 _ rfl; (with_reducible repeat (first | refine blk_drewN ?_ _ | refine blk_drew ?_ | refine blk_alloc ?_ _)); exact BK317.out) hg (Kd.R_away HO_5.out (fun _ hk => hk))); have n1_ := Aside0.mk (hb); have n2_ := Aside0.mk (ho); clear BK317; clear HB; clear HO_5; have BK317 := n0_; have HB := n1_; have HO323 := n2_; clear n0_ n1_ n2_; clear ho hb hg hat))
          go_ret
          exact ⟨_, by first | rfl | (simp [errW_none, errW_some] <;> rfl) | (simp [*, errW_none, errW_some] <;> rfl), by (with_reducible repeat (first | apply Kd.R_alloc | apply Kd.R_drewN | apply Kd.R_drew)); exact Kd.R_mono HO323.out (fun _ hk => trivial), by repeat (first | (with_reducible first | exact HB.out | apply below_alloc | apply pw_below_drewN | apply below_drew1 | refine below_set ?_ GE317.out) | exact HB.out)⟩
        · rw [if_neg c13] at H
          exact absurd H (by simp)

end Go.Proofs.Ytoioineibfldcaa.K
end

section
-- Printed by wip/tools/stubprint.py, a driver of mine over the kit's print.py: some callees are proved by hand.
namespace Go.Proofs.Ytoioineibfldcaa.K
open Go.RowKit Go.Proofs.YtoioineibfldcaaW.PrintWords Go.Proofs.YtoioineibfldcaaW.PrintLast Go.Proofs.YtoioineibfldcaaW.PrintMore
attribute [local go_sem] max2_int min2_int max_two min_two max_three min_three max_four min_four   -- for this text's walks alone
set_option linter.unusedVariables false
set_option linter.unusedSimpArgs false

/-! ### impl_join: function 44 -/
def impl_join.l0 : Nat → List (List (S41)) → List (S41) → List (List (S41)) → Int → Int → Int → Int → ByteArray → Int → Int → Option ((List (S41)))
  | 0, _, _, _, _, _, _, _, _, _, _ => none
  | k + 1, x1, x5, x8, x9, x10, x331000, x331001, x331002, x331003, x331004 => if x10 < x9 then (if 0 ≤ x10 then (if x10 < (x8.length : Int) then (if x5.length + (rd_L7 x8 x10).length < 2932031007402 then (impl_join.l0 k x1 (x5 ++ (rd_L7 x8 x10)) x8 x9 (wrap64 (x10 + 1)) x331000 x331001 x331002 x331003 x331004) else (none)) else (none)) else (none)) else (if x5.length < 2932031007402 then (some (x5 ++ [(⟨x331000, x331001, x331002, (x1.length : Int), x331004⟩ : S41)])) else (none))
def impl_join.f (k : Nat) (a0_0 : Int) (a0_1 : Int) (a0_2 : ByteArray) (a0_3 : Int) (a0_4 : Int) (l1 : List (List (S41))) : Option ((List (S41))) := impl_join.l0 k l1 ([] : List (S41)) l1 (l1.length : Int) 0 a0_0 a0_1 a0_2 a0_3 a0_4
theorem impl_join.mono_l : ∀ k, (∀ y0 y1 y2 y3 y4 y5 y6 y7 y8 y9, LeO (impl_join.l0 k y0 y1 y2 y3 y4 y5 y6 y7 y8 y9) (impl_join.l0 (k + 1) y0 y1 y2 y3 y4 y5 y6 y7 y8 y9))
  | 0 => fun _ _ _ _ _ _ _ _ _ _ r h => by simp [impl_join.l0] at h
  | k + 1 => by
    have ih0 := impl_join.mono_l k
    · intro y0 y1 y2 y3 y4 y5 y6 y7 y8 y9
      unfold impl_join.l0
      repeat' first
      | (with_reducible exact ih0 _ _ _ _ _ _ _ _ _ _)
      | (with_reducible exact LeO.refl _)
      | (with_reducible exact LeO.none _)
      | (with_reducible refine LeO.ite ?_ ?_)
      | (with_reducible refine LeO.bind ?_ (fun _ => ?_))
      | exact ih0 _ _ _ _ _ _ _ _ _ _
      | exact LeO.none _
      | refine LeO.ite ?_ ?_
      | refine LeO.bind ?_ (fun _ => ?_)
theorem impl_join.mono : ∀ a0 a1 a2 a3 a4 a5 k, LeO (impl_join.f k a0 a1 a2 a3 a4 a5) (impl_join.f (k + 1) a0 a1 a2 a3 a4 a5) := by
  intro a0 a1 a2 a3 a4 a5 k
  have ih0 := impl_join.mono_l k
  unfold impl_join.f
  repeat' first
      | (with_reducible exact ih0 _ _ _ _ _ _ _ _ _ _)
      | (with_reducible exact LeO.refl _)
      | (with_reducible exact LeO.none _)
      | (with_reducible refine LeO.ite ?_ ?_)
      | (with_reducible refine LeO.bind ?_ (fun _ => ?_))
      | exact ih0 _ _ _ _ _ _ _ _ _ _
      | exact LeO.none _
      | refine LeO.ite ?_ ?_
      | refine LeO.bind ?_ (fun _ => ?_)
set_option maxHeartbeats 8000000 in
set_option maxRecDepth 100000 in
theorem impl_join.calls (k : Nat) (a0_0 : Int) (a0_1 : Int) (a0_2 : ByteArray) (a0_3 : Int) (a0_4 : Int) (A1 : Option Addr) (c1 : Nat) (l1 : List (List (S41))) (r : List (S41)) (w : World) (hr1 : Kd.C (Kd.slice 41 k41) w A1 l1.length l1) (hc1 : l1.length ≤ c1) (h : impl_join.f k a0_0 a0_1 a0_2 a0_3 a0_4 l1 = some r) :
    Calls Try.prog 44 #[.agg #[.int .i64 a0_0, .int .i64 a0_1, .string a0_2, .int .i64 a0_3, .int .i64 a0_4], .slice A1 l1.length c1] w fun e w' => ∃ v0_ : Value, e = .returned (v0_) ∧ Kd.R k41 41 w' w.heap.size (fun _ => True) v0_ r ∧ Below w.heap.size w w' := by
  have hu41 := Try.underlying41
  have HR1 := Aside0.mk hr1
  have HC1 := Aside0.mk hc1
  clear hr1 hc1
  have HB := Aside0.mk (Below.refl w.heap.size w)
  have H : (impl_join.l0 k l1 ([] : List (S41)) l1 (l1.length : Int) 0 a0_0 a0_1 a0_2 a0_3 a0_4) = some r := h
  clear h
  have H' := Aside0.mk H
  clear H
  go_enter Try.func44, Try.ntmps44
  go_wp2_with (first | ((with_reducible refine gate_dst (N := 2) rfl ?_); refine box_event ?hg (N := 2) ?hd (cs := #[.int .i64 a0_0, .int .i64 a0_1, .string a0_2, .int .i64 a0_3, .int .i64 a0_4]) (t := 41) ?hr ?_; (case hd => rfl); (case hg => rfl); (case hr => first | (go_simp; done) | (go_simp; rfl)); intro gb330 hg w3 hbox hb; have n0_ := Aside0.mk (below_step (by repeat (first | (with_reducible first | exact HB.out | apply below_alloc | apply pw_below_drewN | apply below_drew1) | exact HB.out)) hb); have n1_ := Aside0.mk (hbox); have n2_ := Aside0.mk ((by rw [hg]; exact (below_size (by repeat (first | (with_reducible first | exact HB.out | apply below_alloc | apply pw_below_drewN | apply below_drew1) | exact HB.out))) : w.heap.size ≤ gb330)); have n3_ := Aside0.mk ((by rw [hg]; exact (below_size (by repeat (first | (with_reducible first | exact HB.out | apply below_alloc | apply pw_below_drewN | apply below_drew1) | exact HB.out))) : w.heap.size ≤ gb330)); clear HB; have HB := n0_; have BK330 := n1_; have GW330 := n2_; have GE330 := n3_; clear n0_ n1_ n2_ n3_; clear hb hbox hg))
  go_loopg [5, 10] k (fun kq v5 v10 w' => ∃ (x5_1 : List (S41)) (x10_1 : Int), v10 = .int .i64 x10_1 ∧ Aside0 (impl_join.l0 kq l1 x5_1 l1 (l1.length : Int) x10_1 a0_0 a0_1 a0_2 a0_3 a0_4 = some r) ∧ Aside0 (kq ≤ k) ∧ Aside0 (Kd.R k41 41 w' w.heap.size (fun k_ => k_ ≠ gb330) v5 x5_1) ∧ Aside0 (w'.heap[gb330]? = some (.cells #[.int .i64 a0_0, .int .i64 a0_1, .string a0_2, .int .i64 a0_3, .int .i64 a0_4] 41 (0, 0))) ∧ Aside0 (Below w.heap.size w w'))
  case atStart => exact ⟨(([] : List (S41))), (0), (by first | rfl | (simp; done) | (simp [*]; done)), H', ⟨Nat.le_refl _⟩, ⟨by first | exact Kd.R_nil _ _ _ _ _ | exact Kd.N_nil _ _ _ _ _ | exact Kd.V_nil _ _ _ _ _ | exact Kd.Q_nil _ _ _ _ _ | exact Kd.S_nil _ _ _ _ _⟩, ⟨by (with_reducible repeat (first | refine blk_drewN ?_ _ | refine blk_drew ?_ | refine blk_alloc ?_ _)); exact BK330.out⟩, ⟨by repeat (first | (with_reducible first | exact HB.out | apply below_alloc | apply pw_below_drewN | apply below_drew1 | refine below_set ?_ GE330.out) | exact HB.out)⟩⟩
  case round =>
    clear H'
    try clear c1
    try clear p2
    obtain ⟨x5_1, x10_1, rfl, HA, HK1, HO_5, BK330, HB⟩ := hrel
    cases gk with
    | zero => exact absurd HA.out (by simp [impl_join.l0])
    | succ k1 =>
      have H := HA.out
      clear HA
      simp only [impl_join.l0] at H
      by_cases c4 : x10_1 < (l1.length : Int)
      · rw [if_pos c4] at H
        have c4b0 : decide (x10_1 < (l1.length : Int)) = true := decide_eq_true c4
        clear c4
        by_cases c5 : 0 ≤ x10_1
        · rw [if_pos c5] at H
          have c5b0 : decide (0 ≤ x10_1) = true := decide_eq_true c5
          clear c5
          by_cases c6 : x10_1 < (l1.length : Int)
          · rw [if_pos c6] at H
            have c6b0 : decide (x10_1 < (l1.length : Int)) = true := decide_eq_true c6
            clear c6
            by_cases c7 : x5_1.length + (rd_L7 l1 x10_1).length < 2932031007402
            · rw [if_pos c7] at H
              have LMc7 := Aside0.mk c7
              clear c7
              obtain ⟨y332, hy332⟩ : ∃ y_ : List (S41), y_ = (x5_1 ++ (rd_L7 l1 x10_1)) := ⟨_, rfl⟩
              replace H : (impl_join.l0 k1 l1 y332 l1 (l1.length : Int) (wrap64 (x10_1 + 1)) a0_0 a0_1 a0_2 a0_3 a0_4) = some r := by first | (rw [hy332]; with_reducible exact H) | (have H2_ := (Option.bind_some _ _).symm.trans H; rw [hy332]; with_reducible exact H2_) | (have H2_ := (Option.bind_some _ _).symm.trans H; with_reducible exact H2_) | with_reducible exact H | (rw [hy332]; exact H) | exact H
              have Ny332 := Aside0.mk hy332
              clear hy332
              have H' := Aside0.mk H
              clear H
              have p331 : 0 ≤ (x10_1 : Int) := of_decide_eq_true (by first | (with_reducible assumption) | assumption)
              have q331 : x10_1 < (l1.length : Int) := of_decide_eq_true (by first | (with_reducible assumption) | assumption)
              obtain ⟨ad331, A331_0, c331_0, e331, hx331_0, hl331_0, hi331_0⟩ := at_L7 HR1.out x10_1 p331 q331
              cases e331
              replace hx331_0 := (HB.out.cell (World.block_lt_of_cell? w _ hx331_0)).trans hx331_0
              have HR331_0 := Aside0.mk hi331_0
              have HC331_0 := Aside0.mk hl331_0
              clear hi331_0 hl331_0
              replace p331 := eq_true p331
              replace q331 := eq_true q331
              go_wp2_with (first | ((with_reducible refine gate_builtin (b := .append) (xs := #[.tmp 14, .tmp 15]) rfl ?_); at_builtin; refine Kd.R_append_rows k41 (w0 := w) w.heap.size rfl (.tmp 14) (.tmp 15) 26 41 (.agg #[(.int .i64 0), (.int .i64 0), (.string ⟨#[]⟩), (.int .i64 0), (.int .i64 0)]) 48 rfl Try.underlying26 info41 rfl (by decide) (by omega) u5 x5_1 (rd_L7 l1 x10_1) _ _ _ (fun k_ => k_ ≠ gb330) (fun _ => False) rfl rfl ?aO ?aR (fun _ _ h => h) (fun _ h => h.elim) ?aF ?aB ?aS ?aL ?_; (case aR => repeat (first | exact (Kd.C_below HR331_0.out HB.out) | (with_reducible refine Kd.C_alloc ?_ _) | (with_reducible refine Kd.C_drewN ?_ _) | (with_reducible refine Kd.C_drew ?_))); (case aB => exact (by repeat (first | (with_reducible first | exact HB.out | apply below_alloc | apply pw_below_drewN | apply below_drew1 | refine below_set ?_ GE330.out) | exact HB.out))); (case aF => exact (fun k_ hk => Kd.freshB (g := gb330) (o := .cells #[.int .i64 a0_0, .int .i64 a0_1, .string a0_2, .int .i64 a0_3, .int .i64 a0_4] 41 (0, 0)) (by (with_reducible repeat (first | refine blk_drewN ?_ _ | refine blk_drew ?_ | refine blk_alloc ?_ _)); exact BK330.out) k_ hk)); (case aO => exact (by (with_reducible repeat (first | apply Kd.R_alloc | apply Kd.R_drewN | apply Kd.R_drew)); exact HO_5.out)); (case aS => exact (below_size (by repeat (first | (with_reducible first | exact HB.out | apply below_alloc | apply pw_below_drewN | apply below_drew1 | refine below_set ?_ GE330.out) | exact HB.out)))); (case aL => have := LMc7.out; omega); intro v333 w8 ho hb hg hat; rw [← Ny332.out] at ho; have n0_ := Aside0.mk (blk_grown (g := gb330) (o := .cells #[.int .i64 a0_0, .int .i64 a0_1, .string a0_2, .int .i64 a0_3, .int .i64 a0_4] 41 (0, 0)) (by (with_reducible repeat (first | refine blk_drewN ?_ _ | refine blk_drew ?_ | refine blk_alloc ?_ _)); exact BK330.out) hg (Kd.R_away HO_5.out (fun _ hk => hk))); have n1_ := Aside0.mk (hb); have n2_ := Aside0.mk (ho); clear BK330; clear HB; clear HO_5; have BK330 := n0_; have HB := n1_; have HO334 := n2_; clear n0_ n1_ n2_; clear ho hb hg hat))
              go_roundg k1
              case measure => have := HK1.out; omega
              case rel => exact ⟨(y332), (wrap64 (x10_1 + 1)), (by first | rfl | (simp; done) | (simp [*]; done)), H', ⟨by have := HK1.out; omega⟩, ⟨by (with_reducible repeat (first | apply Kd.R_alloc | apply Kd.R_drewN | apply Kd.R_drew)); exact HO334.out⟩, ⟨by (with_reducible repeat (first | refine blk_drewN ?_ _ | refine blk_drew ?_ | refine blk_alloc ?_ _)); exact BK330.out⟩, ⟨by repeat (first | (with_reducible first | exact HB.out | apply below_alloc | apply pw_below_drewN | apply below_drew1 | refine below_set ?_ GE330.out) | exact HB.out)⟩⟩
            · rw [if_neg c7] at H
              exact absurd H (by simp)
          · rw [if_neg c6] at H
            exact absurd H (by simp)
        · rw [if_neg c5] at H
          exact absurd H (by simp)
      · rw [if_neg c4] at H
        have c4b0 : decide (x10_1 < (l1.length : Int)) = false := decide_eq_false c4
        clear c4
        by_cases c9 : x5_1.length < 2932031007402
        · rw [if_pos c9] at H
          have LMc9 := Aside0.mk c9
          clear c9
          obtain ⟨y335, hy335⟩ : ∃ y_ : List (S41), y_ = (x5_1 ++ [(⟨a0_0, a0_1, a0_2, (l1.length : Int), a0_4⟩ : S41)]) := ⟨_, rfl⟩
          replace H : (some y335) = some r := by first | (rw [hy335]; with_reducible exact H) | (have H2_ := (Option.bind_some _ _).symm.trans H; rw [hy335]; with_reducible exact H2_) | (have H2_ := (Option.bind_some _ _).symm.trans H; with_reducible exact H2_) | with_reducible exact H | (rw [hy335]; exact H) | exact H
          have Ny335 := Aside0.mk hy335
          clear hy335
          obtain rfl := Option.some.inj H
          have hcz10_0 : wr.cell? ⟨gb330, 0, none⟩ = some (.int .i64 a0_0) := (blk_cell BK330.out 0).trans rfl
          have hcz10_1 : wr.cell? ⟨gb330, 1, none⟩ = some (.int .i64 a0_1) := (blk_cell BK330.out 1).trans rfl
          have hcz10_2 : wr.cell? ⟨gb330, 2, none⟩ = some (.string a0_2) := (blk_cell BK330.out 2).trans rfl
          have hcz10_3 : wr.cell? ⟨gb330, 3, none⟩ = some (.int .i64 a0_3) := (blk_cell BK330.out 3).trans rfl
          have hcz10_4 : wr.cell? ⟨gb330, 4, none⟩ = some (.int .i64 a0_4) := (blk_cell BK330.out 4).trans rfl
          have hfz10_0 := blk_frozen BK330.out 0
          have hfz10_1 := blk_frozen BK330.out 1
          have hfz10_2 := blk_frozen BK330.out 2
          have hfz10_3 := blk_frozen BK330.out 3
          have hfz10_4 := blk_frozen BK330.out 4
          go_wp2_with (first | ((with_reducible refine gate_builtin (b := .append) (xs := #[.tmp 21, .tmp 23]) rfl ?_); at_builtin; refine Kd.R_append k41 (w0 := w) w.heap.size rfl (.tmp 21) (.tmp 23) 26 41 (.agg #[(.int .i64 0), (.int .i64 0), (.string ⟨#[]⟩), (.int .i64 0), (.int .i64 0)]) 48 rfl Try.underlying26 info41 rfl (by decide) (by omega) u5 x5_1 (⟨a0_0, a0_1, a0_2, (l1.length : Int), a0_4⟩ : S41) [.int .i64 a0_0, .int .i64 a0_1, .string a0_2, .int .i64 (l1.length : Int), .int .i64 a0_4] (fun k_ => k_ ≠ gb330) (fun _ => False) rfl (by first | (go_simp; done) | (go_simp; rfl)) ?aP (fun _ hk => hk.elim) ?aF ?aO ?aB ?aS ?aL ?_; (case aP => exact k41_mkM _ _ _ (⟨a0_0, a0_1, a0_2, (l1.length : Int), a0_4⟩ : S41)); (case aB => exact (by repeat (first | (with_reducible first | exact HB.out | apply below_alloc | apply pw_below_drewN | apply below_drew1 | refine below_set ?_ GE330.out) | exact HB.out))); (case aF => exact (fun k_ hk => Kd.freshB (g := gb330) (o := .cells #[.int .i64 a0_0, .int .i64 a0_1, .string a0_2, .int .i64 (l1.length : Int), .int .i64 a0_4] 41 (0, 0)) (by (with_reducible repeat (first | refine blk_drewN ?_ _ | refine blk_drew ?_ | refine blk_alloc ?_ _)); refine blk_put (cs := #[.int .i64 a0_0, .int .i64 a0_1, .string a0_2, .int .i64 a0_3, .int .i64 a0_4]) ?_ 3 _ rfl; (with_reducible repeat (first | refine blk_drewN ?_ _ | refine blk_drew ?_ | refine blk_alloc ?_ _)); exact BK330.out) k_ hk)); (case aO => exact (by (with_reducible repeat (first | apply Kd.R_alloc | apply Kd.R_drewN | apply Kd.R_drew)); exact Kd.R_mono (Kd.R_far (p := ⟨gb330, 3, none⟩) (Kd.R_mono HO_5.out (fun k_ hk => (⟨hk, hk⟩ : _ ∧ k_ ≠ gb330))) (fun _ hk => hk.2) (.int .i64 (l1.length : Int))) (fun _ hk => hk.1))); (case aS => exact (below_size (by repeat (first | (with_reducible first | exact HB.out | apply below_alloc | apply pw_below_drewN | apply below_drew1 | refine below_set ?_ GE330.out) | exact HB.out)))); (case aL => have := LMc9.out; omega); intro v336 w11 ho hb hg hat; rw [← Ny335.out] at ho; have n0_ := Aside0.mk (blk_grown (g := gb330) (o := .cells #[.int .i64 a0_0, .int .i64 a0_1, .string a0_2, .int .i64 (l1.length : Int), .int .i64 a0_4] 41 (0, 0)) (by (with_reducible repeat (first | refine blk_drewN ?_ _ | refine blk_drew ?_ | refine blk_alloc ?_ _)); refine blk_put (cs := #[.int .i64 a0_0, .int .i64 a0_1, .string a0_2, .int .i64 a0_3, .int .i64 a0_4]) ?_ 3 _ rfl; (with_reducible repeat (first | refine blk_drewN ?_ _ | refine blk_drew ?_ | refine blk_alloc ?_ _)); exact BK330.out) hg (Kd.R_away HO_5.out (fun _ hk => hk))); have n1_ := Aside0.mk (hb); have n2_ := Aside0.mk (ho); clear BK330; clear HB; clear HO_5; have BK330 := n0_; have HB := n1_; have HO337 := n2_; clear n0_ n1_ n2_; clear ho hb hg hat))
          go_ret
          exact ⟨_, by first | rfl | (simp [errW_none, errW_some] <;> rfl) | (simp [*, errW_none, errW_some] <;> rfl), by (with_reducible repeat (first | apply Kd.R_alloc | apply Kd.R_drewN | apply Kd.R_drew)); exact Kd.R_mono HO337.out (fun _ hk => trivial), by repeat (first | (with_reducible first | exact HB.out | apply below_alloc | apply pw_below_drewN | apply below_drew1 | refine below_set ?_ GE330.out) | exact HB.out)⟩
        · rw [if_neg c9] at H
          exact absurd H (by simp)

end Go.Proofs.Ytoioineibfldcaa.K
end

section
-- Printed by wip/tools/stubprint.py, a driver of mine over the kit's print.py: some callees are proved by hand.
namespace Go.Proofs.Ytoioineibfldcaa.K
open Go.RowKit Go.Proofs.YtoioineibfldcaaW.PrintWords Go.Proofs.YtoioineibfldcaaW.PrintLast Go.Proofs.YtoioineibfldcaaW.PrintMore
attribute [local go_sem] max2_int min2_int max_two min_two max_three min_three max_four min_four   -- for this text's walks alone
set_option linter.unusedVariables false
set_option linter.unusedSimpArgs false

/-! ### impl_Join: function 27 -/
def impl_Join.f (k : Nat) (a0_0 : Int) (a0_1 : Int) (a0_2 : ByteArray) (a0_3 : Int) (a0_4 : Int) (l1 : List (List (S41))) : Option ((List (S41))) := (impl_join.f k a0_0 a0_1 a0_2 a0_3 a0_4 l1).bind fun t339 => (some t339)
theorem impl_Join.mono : ∀ a0 a1 a2 a3 a4 a5 k, LeO (impl_Join.f k a0 a1 a2 a3 a4 a5) (impl_Join.f (k + 1) a0 a1 a2 a3 a4 a5) := by
  intro a0 a1 a2 a3 a4 a5 k
  unfold impl_Join.f
  repeat' first
      | (with_reducible exact impl_join.mono _ _ _ _ _ _ _)
      | (with_reducible exact LeO.refl _)
      | (with_reducible exact LeO.none _)
      | (with_reducible refine LeO.ite ?_ ?_)
      | (with_reducible refine LeO.bind ?_ (fun _ => ?_))
      | exact impl_join.mono _ _ _ _ _ _ _
      | exact LeO.none _
      | refine LeO.ite ?_ ?_
      | refine LeO.bind ?_ (fun _ => ?_)
set_option maxHeartbeats 8000000 in
set_option maxRecDepth 100000 in
theorem impl_Join.calls (k : Nat) (a0_0 : Int) (a0_1 : Int) (a0_2 : ByteArray) (a0_3 : Int) (a0_4 : Int) (A1 : Option Addr) (c1 : Nat) (l1 : List (List (S41))) (r : List (S41)) (w : World) (hr1 : Kd.C (Kd.slice 41 k41) w A1 l1.length l1) (hc1 : l1.length ≤ c1) (h : impl_Join.f k a0_0 a0_1 a0_2 a0_3 a0_4 l1 = some r) :
    Calls Try.prog 27 #[.agg #[.int .i64 a0_0, .int .i64 a0_1, .string a0_2, .int .i64 a0_3, .int .i64 a0_4], .slice A1 l1.length c1] w fun e w' => ∃ v0_ : Value, e = .returned (v0_) ∧ Kd.R k41 41 w' w.heap.size (fun _ => True) v0_ r ∧ Below w.heap.size w w' := by
  have hu41 := Try.underlying41
  have HR1 := Aside0.mk hr1
  have HC1 := Aside0.mk hc1
  clear hr1 hc1
  have HB := Aside0.mk (Below.refl w.heap.size w)
  have H : ((impl_join.f k a0_0 a0_1 a0_2 a0_3 a0_4 l1).bind fun t339 => (some t339)) = some r := h
  clear h
  replace H := Option.bind_eq_some_iff.mp H
  obtain ⟨t339, A30, H⟩ := H
  replace H : (some t339) = some r := H
  have A3 := Aside0.mk A30
  clear A30
  obtain rfl := Option.some.inj H
  go_enter Try.func27, Try.ntmps27
  go_wp2_with (first | ((with_reducible refine gate_dst (N := 2) rfl ?_); refine box_event ?hg (N := 2) ?hd (cs := #[.int .i64 a0_0, .int .i64 a0_1, .string a0_2, .int .i64 a0_3, .int .i64 a0_4]) (t := 41) ?hr ?_; (case hd => rfl); (case hg => rfl); (case hr => first | (go_simp; done) | (go_simp; rfl)); intro gb338 hg w4 hbox hb; have n0_ := Aside0.mk (below_step (by repeat (first | (with_reducible first | exact HB.out | apply below_alloc | apply pw_below_drewN | apply below_drew1) | exact HB.out)) hb); have n1_ := Aside0.mk (hbox); have n2_ := Aside0.mk ((by rw [hg]; exact (below_size (by repeat (first | (with_reducible first | exact HB.out | apply below_alloc | apply pw_below_drewN | apply below_drew1) | exact HB.out))) : w.heap.size ≤ gb338)); have n3_ := Aside0.mk ((by rw [hg]; exact (below_size (by repeat (first | (with_reducible first | exact HB.out | apply below_alloc | apply pw_below_drewN | apply below_drew1) | exact HB.out))) : w.heap.size ≤ gb338)); clear HB; have HB := n0_; have BK338 := n1_; have GW338 := n2_; have GE338 := n3_; clear n0_ n1_ n2_ n3_; clear hb hbox hg; have hcz5_0 : w4.cell? ⟨gb338, 0, none⟩ = some (.int .i64 a0_0) := (blk_cell BK338.out 0).trans rfl; have hcz5_1 : w4.cell? ⟨gb338, 1, none⟩ = some (.int .i64 a0_1) := (blk_cell BK338.out 1).trans rfl; have hcz5_2 : w4.cell? ⟨gb338, 2, none⟩ = some (.string a0_2) := (blk_cell BK338.out 2).trans rfl; have hcz5_3 : w4.cell? ⟨gb338, 3, none⟩ = some (.int .i64 a0_3) := (blk_cell BK338.out 3).trans rfl; have hcz5_4 : w4.cell? ⟨gb338, 4, none⟩ = some (.int .i64 a0_4) := (blk_cell BK338.out 4).trans rfl; have hfz5_0 := blk_frozen BK338.out 0; have hfz5_1 := blk_frozen BK338.out 1; have hfz5_2 := blk_frozen BK338.out 2; have hfz5_3 := blk_frozen BK338.out 3; have hfz5_4 := blk_frozen BK338.out 4) | ((with_reducible refine gate_callee (f := 44) rfl ?_); refine goesL_ (some 7) rfl rfl Try.func44 (by kernel_rfl) rfl #[.agg #[.int .i64 a0_0, .int .i64 a0_1, .string a0_2, .int .i64 a0_3, .int .i64 a0_4], .slice A1 l1.length c1] rfl (by (try simp only [List.map_toArray, List.map_cons, List.map_nil]); first | done | rfl | (simp only [List.length_drop, List.length_take]; rfl)) ?_; (with_reducible refine (impl_join.calls k a0_0 a0_1 a0_2 a0_3 a0_4 _ _ l1 t339 _ ?side1 ?side2 A3.out).mono ?_); (case side1 => repeat (first | exact (Kd.C_below HR1.out HB.out) | (with_reducible refine Kd.C_alloc ?_ _) | (with_reducible refine Kd.C_drewN ?_ _) | (with_reducible refine Kd.C_drew ?_))); (case side2 => exact HC1.out); rintro e w6 ⟨v340, rfl, ho0, hb⟩; refine ⟨_, rfl, ?_⟩; have n0_ := Aside0.mk (Kd.R_lower (Kd.R_newB ho0 (g := gb338) (o := .cells #[.int .i64 a0_0, .int .i64 a0_1, .string a0_2, .int .i64 a0_3, .int .i64 a0_4] 41 (0, 0)) (by (with_reducible repeat (first | refine blk_drewN ?_ _ | refine blk_drew ?_ | refine blk_alloc ?_ _)); exact BK338.out)) (below_size (by repeat (first | (with_reducible first | exact HB.out | apply below_alloc | apply pw_below_drewN | apply below_drew1 | refine below_set ?_ GE338.out) | exact HB.out)))); have n1_ := Aside0.mk (blk_below (g := gb338) (o := .cells #[.int .i64 a0_0, .int .i64 a0_1, .string a0_2, .int .i64 a0_3, .int .i64 a0_4] 41 (0, 0)) (by (with_reducible repeat (first | refine blk_drewN ?_ _ | refine blk_drew ?_ | refine blk_alloc ?_ _)); exact BK338.out) hb); have n2_ := Aside0.mk (below_step (by repeat (first | (with_reducible first | exact HB.out | apply below_alloc | apply pw_below_drewN | apply below_drew1 | refine below_set ?_ GE338.out) | exact HB.out)) hb); clear BK338; clear HB; have HO341 := n0_; have BK338 := n1_; have HB := n2_; clear n0_ n1_ n2_; (try clear hb); (try clear hb2); (try clear hk); (try clear hi); (try clear ho0)))
  go_ret
  exact ⟨_, by first | rfl | (simp [errW_none, errW_some] <;> rfl) | (simp [*, errW_none, errW_some] <;> rfl), by (with_reducible repeat (first | apply Kd.R_alloc | apply Kd.R_drewN | apply Kd.R_drew)); exact Kd.R_mono HO341.out (fun _ hk => trivial), by repeat (first | (with_reducible first | exact HB.out | apply below_alloc | apply pw_below_drewN | apply below_drew1 | refine below_set ?_ GE338.out) | exact HB.out)⟩

end Go.Proofs.Ytoioineibfldcaa.K
end

section
-- Printed by wip/tools/stubprint.py, a driver of mine over the kit's print.py: some callees are proved by hand.
namespace Go.Proofs.Ytoioineibfldcaa.K
open Go.RowKit Go.Proofs.YtoioineibfldcaaW.PrintWords Go.Proofs.YtoioineibfldcaaW.PrintLast Go.Proofs.YtoioineibfldcaaW.PrintMore
attribute [local go_sem] max2_int min2_int max_two min_two max_three min_three max_four min_four   -- for this text's walks alone
set_option linter.unusedVariables false
set_option linter.unusedSimpArgs false

/-! ### laws_eqNodeSS: function 28 -/
def laws_eqNodeSS.l0 : Nat → List (List (S41)) → List (List (S41)) → Int → Option (Bool)
  | 0, _, _, _ => none
  | k + 1, x0, x1, x5 => if x5 < (x0.length : Int) then (if 0 ≤ x5 then (if x5 < (x1.length : Int) then ((laws_eqNodeS.f k (rd_L7 x0 x5) (rd_L7 x1 x5)).bind fun t344 => (if t344 = true then (laws_eqNodeSS.l0 k x0 x1 (wrap64 (x5 + 1))) else (some false))) else (none)) else (none)) else (some true)
def laws_eqNodeSS.f (k : Nat) (l0 : List (List (S41))) (l1 : List (List (S41))) : Option (Bool) := if (l0.length : Int) = (l1.length : Int) then (laws_eqNodeSS.l0 k l0 l1 0) else (some false)
theorem laws_eqNodeSS.mono_l : ∀ k, (∀ y0 y1 y2, LeO (laws_eqNodeSS.l0 k y0 y1 y2) (laws_eqNodeSS.l0 (k + 1) y0 y1 y2))
  | 0 => fun _ _ _ r h => by simp [laws_eqNodeSS.l0] at h
  | k + 1 => by
    have ih0 := laws_eqNodeSS.mono_l k
    · intro y0 y1 y2
      unfold laws_eqNodeSS.l0
      repeat' first
      | (with_reducible exact ih0 _ _ _)
      | (with_reducible exact laws_eqNodeS.mono _ _ _)
      | (with_reducible exact LeO.refl _)
      | (with_reducible exact LeO.none _)
      | (with_reducible refine LeO.ite ?_ ?_)
      | (with_reducible refine LeO.bind ?_ (fun _ => ?_))
      | exact ih0 _ _ _
      | exact laws_eqNodeS.mono _ _ _
      | exact LeO.none _
      | refine LeO.ite ?_ ?_
      | refine LeO.bind ?_ (fun _ => ?_)
theorem laws_eqNodeSS.mono : ∀ a0 a1 k, LeO (laws_eqNodeSS.f k a0 a1) (laws_eqNodeSS.f (k + 1) a0 a1) := by
  intro a0 a1 k
  have ih0 := laws_eqNodeSS.mono_l k
  unfold laws_eqNodeSS.f
  repeat' first
      | (with_reducible exact ih0 _ _ _)
      | (with_reducible exact laws_eqNodeS.mono _ _ _)
      | (with_reducible exact LeO.refl _)
      | (with_reducible exact LeO.none _)
      | (with_reducible refine LeO.ite ?_ ?_)
      | (with_reducible refine LeO.bind ?_ (fun _ => ?_))
      | exact ih0 _ _ _
      | exact laws_eqNodeS.mono _ _ _
      | exact LeO.none _
      | refine LeO.ite ?_ ?_
      | refine LeO.bind ?_ (fun _ => ?_)
def laws_eqNodeSS.T6 : Bool × List (List Nat × List Nat) := (true, [([], []), ([], []), ([0, 1], [0, 1]), ([2], [2]), ([], []), ([], []), ([4, 5], [4, 5]), ([6], [6]), ([3, 7], [3, 7]), ([8], [8])])
def laws_eqNodeSS.B6 : List Nat := [0, 0, 3, 7, 0, 0, 48, 112, 255, 511]
theorem laws_eqNodeSS.tab6 : rtab .any (opsOf Try.f28 6) = laws_eqNodeSS.T6 := by kernel_rfl
theorem laws_eqNodeSS.bits6 : waitsOk laws_eqNodeSS.T6.2 laws_eqNodeSS.B6 = true := by kernel_rfl
set_option maxHeartbeats 8000000 in
set_option maxRecDepth 100000 in
theorem laws_eqNodeSS.calls (k : Nat) (A0 : Option Addr) (c0 : Nat) (l0 : List (List (S41))) (A1 : Option Addr) (c1 : Nat) (l1 : List (List (S41))) (r : Bool) (w : World) (hr0 : Kd.C (Kd.slice 41 k41) w A0 l0.length l0) (hc0 : l0.length ≤ c0) (hr1 : Kd.C (Kd.slice 41 k41) w A1 l1.length l1) (hc1 : l1.length ≤ c1) (h : laws_eqNodeSS.f k l0 l1 = some r) :
    Calls Try.prog 28 #[.slice A0 l0.length c0, .slice A1 l1.length c1] w fun e w' => e = .returned (.bool r) ∧ Below w.heap.size w w' := by
  have HR0 := Aside0.mk hr0
  have HC0 := Aside0.mk hc0
  clear hr0 hc0
  have HR1 := Aside0.mk hr1
  have HC1 := Aside0.mk hc1
  clear hr1 hc1
  have HB := Aside0.mk (Below.refl w.heap.size w)
  have H : (if (l0.length : Int) = (l1.length : Int) then (laws_eqNodeSS.l0 k l0 l1 0) else (some false)) = some r := h
  clear h
  by_cases c3 : (l0.length : Int) = (l1.length : Int)
  · rw [if_pos c3] at H
    have c3b0 : ((l0.length : Int) == (l1.length : Int)) = true := beq_iff_eq.mpr c3
    have c3b1 : ((l0.length : Int) != (l1.length : Int)) = false := bne_eq_false_iff_eq.mpr c3
    have c3b2 : (l0.length == l1.length) = true := by first | simpa using c3 | (simp at c3 ⊢; omega)
    clear c3
    have H' := Aside0.mk H
    clear H
    go_enter Try.func28, Try.ntmps28
    go_wp2
    go_loopg [5] k (fun kq v5 w' => ∃ (x5_1 : Int), v5 = .int .i64 x5_1 ∧ Aside0 (laws_eqNodeSS.l0 kq l0 l1 x5_1 = some r) ∧ Aside0 (kq ≤ k) ∧ Aside0 (Below w.heap.size w w'))
    case atStart => exact ⟨(0), (by first | rfl | (simp; done) | (simp [*]; done)), H', ⟨Nat.le_refl _⟩, ⟨by repeat (first | (with_reducible first | exact HB.out | apply below_alloc | apply pw_below_drewN | apply below_drew1) | exact HB.out)⟩⟩
    case round =>
      clear H'
      try clear c1
      try clear c2
      try clear p2
      try clear c3
      try clear c3b0
      try clear c3b1
      try clear c3b2
      obtain ⟨x5_1, rfl, HA, HK1, HB⟩ := hrel
      cases gk with
      | zero => exact absurd HA.out (by simp [laws_eqNodeSS.l0])
      | succ k1 =>
        have H := HA.out
        clear HA
        simp only [laws_eqNodeSS.l0] at H
        by_cases c4 : x5_1 < (l0.length : Int)
        · rw [if_pos c4] at H
          have c4b0 : decide (x5_1 < (l0.length : Int)) = true := decide_eq_true c4
          clear c4
          by_cases c5 : 0 ≤ x5_1
          · rw [if_pos c5] at H
            have c5b0 : decide (0 ≤ x5_1) = true := decide_eq_true c5
            clear c5
            by_cases c6 : x5_1 < (l1.length : Int)
            · rw [if_pos c6] at H
              have c6b0 : decide (x5_1 < (l1.length : Int)) = true := decide_eq_true c6
              clear c6
              replace H := Option.bind_eq_some_iff.mp H
              obtain ⟨t344, A70, H⟩ := H
              replace H : (if t344 = true then (laws_eqNodeSS.l0 k1 l0 l1 (wrap64 (x5_1 + 1))) else (some false)) = some r := H
              have A7 := Aside0.mk A70
              clear A70
              by_cases c8 : t344 = true
              · subst c8
                have H1 : (laws_eqNodeSS.l0 k1 l0 l1 (wrap64 (x5_1 + 1))) = some r := by rw [if_pos rfl] at H; exact H
                clear H
                have H := H1
                clear H1
                have H' := Aside0.mk H
                clear H
                try go_wp2
                have n0_ := Aside0.mk (below_drew1 HB.out)
                clear HB
                have HB := n0_
                clear n0_
                have p342 : 0 ≤ (x5_1 : Int) := of_decide_eq_true (by first | (with_reducible assumption) | assumption)
                have q342 : x5_1 < (l0.length : Int) := of_decide_eq_true (by first | (with_reducible assumption) | assumption)
                obtain ⟨ad342, A342_0, c342_0, e342, hx342_0, hl342_0, hi342_0⟩ := at_L7 HR0.out x5_1 p342 q342
                have hw342_0 := hx342_0
                cases e342
                replace hx342_0 := (HB.out.cell (World.block_lt_of_cell? w _ hx342_0)).trans hx342_0
                have HR342_0 := Aside0.mk hi342_0
                have HC342_0 := Aside0.mk hl342_0
                clear hi342_0 hl342_0
                replace p342 := eq_true p342
                replace q342 := eq_true q342
                have p343 : 0 ≤ (x5_1 : Int) := of_decide_eq_true (by first | (with_reducible assumption) | assumption)
                have q343 : x5_1 < (l1.length : Int) := of_decide_eq_true (by first | (with_reducible assumption) | assumption)
                obtain ⟨ad343, A343_0, c343_0, e343, hx343_0, hl343_0, hi343_0⟩ := at_L7 HR1.out x5_1 p343 q343
                have hw343_0 := hx343_0
                cases e343
                replace hx343_0 := (HB.out.cell (World.block_lt_of_cell? w _ hx343_0)).trans hx343_0
                have HR343_0 := Aside0.mk hi343_0
                have HC343_0 := Aside0.mk hl343_0
                clear hi343_0 hl343_0
                replace p343 := eq_true p343
                replace q343 := eq_true q343
                refine start_ (n := 10) (S := fun w' => w'.cell? (ad342.add (x5_1).toNat) = some (.slice A342_0 (rd_L7 l0 x5_1).length c342_0) ∧ w'.cell? (ad343.add (x5_1).toNat) = some (.slice A343_0 (rd_L7 l1 x5_1).length c343_0)) (ds := []) #[false, false, false, false, false, false, false, false, false, false] (by kernel_rfl) rfl rfl ⟨((HB.out.cell (World.block_lt_of_cell? w _ hw342_0)).trans hw342_0), ((HB.out.cell (World.block_lt_of_cell? w _ hw343_0)).trans hw343_0)⟩ (fun hHeld => ?_); refine with_tabW laws_eqNodeSS.tab6 laws_eqNodeSS.bits6 (fun HT_ HW_ => ?_)
                generalize wr.drew = w9 at HB HR342_0 HR343_0 hx342_0 hx343_0 hHeld ⊢
                refine pure_ (i := 0) (N := some 17) (v := ?_) (a' := ?_) #[true, false, false, false, false, false, false, false, false, false] rfl rfl (any_of HT_.out (by kernel_rfl)) (fun _ _ _ h => h) (Or.inl ⟨by rfl, ?_⟩) ?_ ?_
                rotate_left
                · intro w'
                  go_simp
                  with_reducible rfl
                rotate_left
                · simp only [Act.put, List.setIfInBounds_toArray, List.set_cons_zero, List.set_cons_succ, i64_w, i32_w]
                  rfl
                refine pure_ (i := 1) (N := some 18) (v := ?_) (a' := ?_) #[true, true, false, false, false, false, false, false, false, false] rfl rfl (any_of HT_.out (by kernel_rfl)) (fun _ _ _ h => h) (Or.inl ⟨by rfl, ?_⟩) ?_ ?_
                rotate_left
                · intro w'
                  go_simp
                  with_reducible rfl
                rotate_left
                · simp only [Act.put, List.setIfInBounds_toArray, List.set_cons_zero, List.set_cons_succ, i64_w, i32_w]
                  rfl
                refine pure_ (i := 2) (N := some 19) (v := ?_) (a' := ?_) #[true, true, true, false, false, false, false, false, false, false] rfl rfl (any_of HT_.out (by kernel_rfl)) (fun _ _ _ h => h) (Or.inl ⟨by rfl, ?_⟩) ?_ ?_
                rotate_left
                · intro w'
                  go_simp
                  with_reducible rfl
                rotate_left
                · simp only [Act.put, List.setIfInBounds_toArray, List.set_cons_zero, List.set_cons_succ, i64_w, i32_w]
                  rfl
                refine pure_ (i := 4) (N := some 21) (v := ?_) (a' := ?_) #[true, true, true, false, true, false, false, false, false, false] rfl rfl (any_of HT_.out (by kernel_rfl)) (fun _ _ _ h => h) (Or.inl ⟨by rfl, ?_⟩) ?_ ?_
                rotate_left
                · intro w'
                  go_simp
                  with_reducible rfl
                rotate_left
                · simp only [Act.put, List.setIfInBounds_toArray, List.set_cons_zero, List.set_cons_succ, i64_w, i32_w]
                  rfl
                refine pure_ (i := 5) (N := some 22) (v := ?_) (a' := ?_) #[true, true, true, false, true, true, false, false, false, false] rfl rfl (any_of HT_.out (by kernel_rfl)) (fun _ _ _ h => h) (Or.inl ⟨by rfl, ?_⟩) ?_ ?_
                rotate_left
                · intro w'
                  go_simp
                  with_reducible rfl
                rotate_left
                · simp only [Act.put, List.setIfInBounds_toArray, List.set_cons_zero, List.set_cons_succ, i64_w, i32_w]
                  rfl
                refine pure_ (i := 6) (N := some 23) (v := ?_) (a' := ?_) #[true, true, true, false, true, true, true, false, false, false] rfl rfl (any_of HT_.out (by kernel_rfl)) (fun _ _ _ h => h) (Or.inl ⟨by rfl, ?_⟩) ?_ ?_
                rotate_left
                · intro w'
                  go_simp
                  with_reducible rfl
                rotate_left
                · simp only [Act.put, List.setIfInBounds_toArray, List.set_cons_zero, List.set_cons_succ, i64_w, i32_w]
                  rfl
                refine take_ (i := 3) (N := some 20) (v := ?_) (a' := ?_) #[true, true, true, true, true, true, true, false, false, false] rfl rfl (take_ofW HT_.out HW_.out (by kernel_rfl)) (fun _ _ _ h => h) (Or.inl ⟨by rfl, ?_⟩) hHeld ?_ ?_
                rotate_left
                · rintro w' ⟨s0, s1⟩
                  go_simp
                  with_reducible rfl
                rotate_left
                · simp only [Act.put, List.setIfInBounds_toArray, List.set_cons_zero, List.set_cons_succ, i64_w, i32_w]
                  rfl
                refine take_ (i := 7) (N := some 24) (v := ?_) (a' := ?_) #[true, true, true, true, true, true, true, true, false, false] rfl rfl (take_ofW HT_.out HW_.out (by kernel_rfl)) (fun _ _ _ h => h) (Or.inl ⟨by rfl, ?_⟩) hHeld ?_ ?_
                rotate_left
                · rintro w' ⟨s0, s1⟩
                  go_simp
                  with_reducible rfl
                rotate_left
                · simp only [Act.put, List.setIfInBounds_toArray, List.set_cons_zero, List.set_cons_succ, i64_w, i32_w]
                  rfl
                refine one_ (i := 8) (N := some 25) #[true, true, true, true, true, true, true, true, true, false] rfl rfl (one_of HT_.out (by kernel_rfl)) (by decide) (fun K hK => ?_)
                refine goes_ Try.func15 (by kernel_rfl) rfl #[.slice A342_0 (rd_L7 l0 x5_1).length c342_0, .slice A343_0 (rd_L7 l1 x5_1).length c343_0] (by rfl) rfl rfl (by (try simp only [List.map_toArray, List.map_cons, List.map_nil]); first | done | rfl | (simp only [List.length_drop, List.length_take]; rfl)) ?_
                with_reducible refine (laws_eqNodeS.calls k1 _ _ (rd_L7 l0 x5_1) _ _ (rd_L7 l1 x5_1) true _ ?side1 ?side2 ?side3 ?side4 A7.out).mono ?_
                (case side1 => repeat (first | exact (Kd.C_below HR342_0.out HB.out) | (with_reducible refine Kd.C_alloc ?_ _) | (with_reducible refine Kd.C_drewN ?_ _) | (with_reducible refine Kd.C_drew ?_)))
                (case side2 => exact HC342_0.out)
                (case side3 => repeat (first | exact (Kd.C_below HR343_0.out HB.out) | (with_reducible refine Kd.C_alloc ?_ _) | (with_reducible refine Kd.C_drewN ?_ _) | (with_reducible refine Kd.C_drew ?_)))
                (case side4 => exact HC343_0.out)
                rintro e w10 ⟨rfl, hb⟩
                refine ⟨_, rfl, ?_⟩
                have n0_ := Aside0.mk (below_step (by repeat (first | (with_reducible first | exact HB.out | apply below_alloc | apply pw_below_drewN | apply below_drew1) | exact HB.out)) hb)
                clear HB
                have HB := n0_
                clear n0_
                (try clear hb)
                (try clear hb2)
                (try clear hk)
                (try clear hi)
                refine hK.out _ _ ⟨((HB.out.cell (World.block_lt_of_cell? w _ hw342_0)).trans hw342_0), ((HB.out.cell (World.block_lt_of_cell? w _ hw343_0)).trans hw343_0)⟩ (fun hHeld => ?_)
                clear hK K
                refine norm_ (a' := ?_) ?_ ?_
                rotate_left
                · show Act.put _ (some 25) _ = _
                  simp only [Act.put, List.setIfInBounds_toArray, List.set_cons_zero, List.set_cons_succ, i64_w, i32_w]
                  rfl
                refine pure_ (i := 9) (N := some 26) (v := ?_) (a' := ?_) #[true, true, true, true, true, true, true, true, true, true] rfl rfl (any_of HT_.out (by kernel_rfl)) (fun _ _ _ h => h) (Or.inl ⟨by rfl, ?_⟩) ?_ ?_
                rotate_left
                · intro w'
                  go_simp
                  with_reducible rfl
                rotate_left
                · simp only [Act.put, List.setIfInBounds_toArray, List.set_cons_zero, List.set_cons_succ, i64_w, i32_w]
                  rfl
                refine done_ (done_of HT_.out (by kernel_rfl)) ?_
                try go_wp2
                go_roundg k1
                case measure => have := HK1.out; omega
                case rel => exact ⟨(wrap64 (x5_1 + 1)), (by first | rfl | (simp; done) | (simp [*]; done)), H', ⟨by have := HK1.out; omega⟩, ⟨by repeat (first | (with_reducible first | exact HB.out | apply below_alloc | apply pw_below_drewN | apply below_drew1) | exact HB.out)⟩⟩
              · replace c8 := Bool.eq_false_iff.mpr c8
                subst c8
                have H1 : (some false) = some r := by rw [if_neg (show ¬ (false = true) by decide)] at H; exact H
                clear H
                have H := H1
                clear H1
                obtain rfl := Option.some.inj H
                try go_wp2
                have n0_ := Aside0.mk (below_drew1 HB.out)
                clear HB
                have HB := n0_
                clear n0_
                have p342 : 0 ≤ (x5_1 : Int) := of_decide_eq_true (by first | (with_reducible assumption) | assumption)
                have q342 : x5_1 < (l0.length : Int) := of_decide_eq_true (by first | (with_reducible assumption) | assumption)
                obtain ⟨ad342, A342_0, c342_0, e342, hx342_0, hl342_0, hi342_0⟩ := at_L7 HR0.out x5_1 p342 q342
                have hw342_0 := hx342_0
                cases e342
                replace hx342_0 := (HB.out.cell (World.block_lt_of_cell? w _ hx342_0)).trans hx342_0
                have HR342_0 := Aside0.mk hi342_0
                have HC342_0 := Aside0.mk hl342_0
                clear hi342_0 hl342_0
                replace p342 := eq_true p342
                replace q342 := eq_true q342
                have p343 : 0 ≤ (x5_1 : Int) := of_decide_eq_true (by first | (with_reducible assumption) | assumption)
                have q343 : x5_1 < (l1.length : Int) := of_decide_eq_true (by first | (with_reducible assumption) | assumption)
                obtain ⟨ad343, A343_0, c343_0, e343, hx343_0, hl343_0, hi343_0⟩ := at_L7 HR1.out x5_1 p343 q343
                have hw343_0 := hx343_0
                cases e343
                replace hx343_0 := (HB.out.cell (World.block_lt_of_cell? w _ hx343_0)).trans hx343_0
                have HR343_0 := Aside0.mk hi343_0
                have HC343_0 := Aside0.mk hl343_0
                clear hi343_0 hl343_0
                replace p343 := eq_true p343
                replace q343 := eq_true q343
                refine start_ (n := 10) (S := fun w' => w'.cell? (ad342.add (x5_1).toNat) = some (.slice A342_0 (rd_L7 l0 x5_1).length c342_0) ∧ w'.cell? (ad343.add (x5_1).toNat) = some (.slice A343_0 (rd_L7 l1 x5_1).length c343_0)) (ds := []) #[false, false, false, false, false, false, false, false, false, false] (by kernel_rfl) rfl rfl ⟨((HB.out.cell (World.block_lt_of_cell? w _ hw342_0)).trans hw342_0), ((HB.out.cell (World.block_lt_of_cell? w _ hw343_0)).trans hw343_0)⟩ (fun hHeld => ?_); refine with_tabW laws_eqNodeSS.tab6 laws_eqNodeSS.bits6 (fun HT_ HW_ => ?_)
                generalize wr.drew = w11 at HB HR342_0 HR343_0 hx342_0 hx343_0 hHeld ⊢
                refine pure_ (i := 0) (N := some 17) (v := ?_) (a' := ?_) #[true, false, false, false, false, false, false, false, false, false] rfl rfl (any_of HT_.out (by kernel_rfl)) (fun _ _ _ h => h) (Or.inl ⟨by rfl, ?_⟩) ?_ ?_
                rotate_left
                · intro w'
                  go_simp
                  with_reducible rfl
                rotate_left
                · simp only [Act.put, List.setIfInBounds_toArray, List.set_cons_zero, List.set_cons_succ, i64_w, i32_w]
                  rfl
                refine pure_ (i := 1) (N := some 18) (v := ?_) (a' := ?_) #[true, true, false, false, false, false, false, false, false, false] rfl rfl (any_of HT_.out (by kernel_rfl)) (fun _ _ _ h => h) (Or.inl ⟨by rfl, ?_⟩) ?_ ?_
                rotate_left
                · intro w'
                  go_simp
                  with_reducible rfl
                rotate_left
                · simp only [Act.put, List.setIfInBounds_toArray, List.set_cons_zero, List.set_cons_succ, i64_w, i32_w]
                  rfl
                refine pure_ (i := 2) (N := some 19) (v := ?_) (a' := ?_) #[true, true, true, false, false, false, false, false, false, false] rfl rfl (any_of HT_.out (by kernel_rfl)) (fun _ _ _ h => h) (Or.inl ⟨by rfl, ?_⟩) ?_ ?_
                rotate_left
                · intro w'
                  go_simp
                  with_reducible rfl
                rotate_left
                · simp only [Act.put, List.setIfInBounds_toArray, List.set_cons_zero, List.set_cons_succ, i64_w, i32_w]
                  rfl
                refine pure_ (i := 4) (N := some 21) (v := ?_) (a' := ?_) #[true, true, true, false, true, false, false, false, false, false] rfl rfl (any_of HT_.out (by kernel_rfl)) (fun _ _ _ h => h) (Or.inl ⟨by rfl, ?_⟩) ?_ ?_
                rotate_left
                · intro w'
                  go_simp
                  with_reducible rfl
                rotate_left
                · simp only [Act.put, List.setIfInBounds_toArray, List.set_cons_zero, List.set_cons_succ, i64_w, i32_w]
                  rfl
                refine pure_ (i := 5) (N := some 22) (v := ?_) (a' := ?_) #[true, true, true, false, true, true, false, false, false, false] rfl rfl (any_of HT_.out (by kernel_rfl)) (fun _ _ _ h => h) (Or.inl ⟨by rfl, ?_⟩) ?_ ?_
                rotate_left
                · intro w'
                  go_simp
                  with_reducible rfl
                rotate_left
                · simp only [Act.put, List.setIfInBounds_toArray, List.set_cons_zero, List.set_cons_succ, i64_w, i32_w]
                  rfl
                refine pure_ (i := 6) (N := some 23) (v := ?_) (a' := ?_) #[true, true, true, false, true, true, true, false, false, false] rfl rfl (any_of HT_.out (by kernel_rfl)) (fun _ _ _ h => h) (Or.inl ⟨by rfl, ?_⟩) ?_ ?_
                rotate_left
                · intro w'
                  go_simp
                  with_reducible rfl
                rotate_left
                · simp only [Act.put, List.setIfInBounds_toArray, List.set_cons_zero, List.set_cons_succ, i64_w, i32_w]
                  rfl
                refine take_ (i := 3) (N := some 20) (v := ?_) (a' := ?_) #[true, true, true, true, true, true, true, false, false, false] rfl rfl (take_ofW HT_.out HW_.out (by kernel_rfl)) (fun _ _ _ h => h) (Or.inl ⟨by rfl, ?_⟩) hHeld ?_ ?_
                rotate_left
                · rintro w' ⟨s0, s1⟩
                  go_simp
                  with_reducible rfl
                rotate_left
                · simp only [Act.put, List.setIfInBounds_toArray, List.set_cons_zero, List.set_cons_succ, i64_w, i32_w]
                  rfl
                refine take_ (i := 7) (N := some 24) (v := ?_) (a' := ?_) #[true, true, true, true, true, true, true, true, false, false] rfl rfl (take_ofW HT_.out HW_.out (by kernel_rfl)) (fun _ _ _ h => h) (Or.inl ⟨by rfl, ?_⟩) hHeld ?_ ?_
                rotate_left
                · rintro w' ⟨s0, s1⟩
                  go_simp
                  with_reducible rfl
                rotate_left
                · simp only [Act.put, List.setIfInBounds_toArray, List.set_cons_zero, List.set_cons_succ, i64_w, i32_w]
                  rfl
                refine one_ (i := 8) (N := some 25) #[true, true, true, true, true, true, true, true, true, false] rfl rfl (one_of HT_.out (by kernel_rfl)) (by decide) (fun K hK => ?_)
                refine goes_ Try.func15 (by kernel_rfl) rfl #[.slice A342_0 (rd_L7 l0 x5_1).length c342_0, .slice A343_0 (rd_L7 l1 x5_1).length c343_0] (by rfl) rfl rfl (by (try simp only [List.map_toArray, List.map_cons, List.map_nil]); first | done | rfl | (simp only [List.length_drop, List.length_take]; rfl)) ?_
                with_reducible refine (laws_eqNodeS.calls k1 _ _ (rd_L7 l0 x5_1) _ _ (rd_L7 l1 x5_1) false _ ?side1 ?side2 ?side3 ?side4 A7.out).mono ?_
                (case side1 => repeat (first | exact (Kd.C_below HR342_0.out HB.out) | (with_reducible refine Kd.C_alloc ?_ _) | (with_reducible refine Kd.C_drewN ?_ _) | (with_reducible refine Kd.C_drew ?_)))
                (case side2 => exact HC342_0.out)
                (case side3 => repeat (first | exact (Kd.C_below HR343_0.out HB.out) | (with_reducible refine Kd.C_alloc ?_ _) | (with_reducible refine Kd.C_drewN ?_ _) | (with_reducible refine Kd.C_drew ?_)))
                (case side4 => exact HC343_0.out)
                rintro e w12 ⟨rfl, hb⟩
                refine ⟨_, rfl, ?_⟩
                have n0_ := Aside0.mk (below_step (by repeat (first | (with_reducible first | exact HB.out | apply below_alloc | apply pw_below_drewN | apply below_drew1) | exact HB.out)) hb)
                clear HB
                have HB := n0_
                clear n0_
                (try clear hb)
                (try clear hb2)
                (try clear hk)
                (try clear hi)
                refine hK.out _ _ ⟨((HB.out.cell (World.block_lt_of_cell? w _ hw342_0)).trans hw342_0), ((HB.out.cell (World.block_lt_of_cell? w _ hw343_0)).trans hw343_0)⟩ (fun hHeld => ?_)
                clear hK K
                refine norm_ (a' := ?_) ?_ ?_
                rotate_left
                · show Act.put _ (some 25) _ = _
                  simp only [Act.put, List.setIfInBounds_toArray, List.set_cons_zero, List.set_cons_succ, i64_w, i32_w]
                  rfl
                refine pure_ (i := 9) (N := some 26) (v := ?_) (a' := ?_) #[true, true, true, true, true, true, true, true, true, true] rfl rfl (any_of HT_.out (by kernel_rfl)) (fun _ _ _ h => h) (Or.inl ⟨by rfl, ?_⟩) ?_ ?_
                rotate_left
                · intro w'
                  go_simp
                  with_reducible rfl
                rotate_left
                · simp only [Act.put, List.setIfInBounds_toArray, List.set_cons_zero, List.set_cons_succ, i64_w, i32_w]
                  rfl
                refine done_ (done_of HT_.out (by kernel_rfl)) ?_
                try go_wp2
                go_ret
                exact ⟨by first | rfl | (simp [errW_none, errW_some] <;> rfl) | (simp [*, errW_none, errW_some] <;> rfl), by repeat (first | (with_reducible first | exact HB.out | apply below_alloc | apply pw_below_drewN | apply below_drew1) | exact HB.out)⟩
            · rw [if_neg c6] at H
              exact absurd H (by simp)
          · rw [if_neg c5] at H
            exact absurd H (by simp)
        · rw [if_neg c4] at H
          have c4b0 : decide (x5_1 < (l0.length : Int)) = false := decide_eq_false c4
          clear c4
          obtain rfl := Option.some.inj H
          go_wp2
          go_ret
          exact ⟨by first | rfl | (simp [errW_none, errW_some] <;> rfl) | (simp [*, errW_none, errW_some] <;> rfl), by repeat (first | (with_reducible first | exact HB.out | apply below_alloc | apply pw_below_drewN | apply below_drew1) | exact HB.out)⟩
  · rw [if_neg c3] at H
    have c3b0 : ((l0.length : Int) == (l1.length : Int)) = false := beq_eq_false_iff_ne.mpr c3
    have c3b1 : ((l0.length : Int) != (l1.length : Int)) = true := bne_iff_ne.mpr c3
    have c3b2 : (l0.length == l1.length) = false := by first | simpa using c3 | (simp at c3 ⊢; omega)
    obtain rfl := Option.some.inj H
    go_enter Try.func28, Try.ntmps28
    go_wp2
    go_ret
    exact ⟨by first | rfl | (simp [errW_none, errW_some] <;> rfl) | (simp [*, errW_none, errW_some] <;> rfl), by repeat (first | (with_reducible first | exact HB.out | apply below_alloc | apply pw_below_drewN | apply below_drew1) | exact HB.out)⟩

end Go.Proofs.Ytoioineibfldcaa.K
end

section
-- Printed by wip/tools/stubprint.py, a driver of mine over the kit's print.py: some callees are proved by hand.
namespace Go.Proofs.Ytoioineibfldcaa.K
open Go.RowKit Go.Proofs.YtoioineibfldcaaW.PrintWords Go.Proofs.YtoioineibfldcaaW.PrintLast Go.Proofs.YtoioineibfldcaaW.PrintMore
attribute [local go_sem] max2_int min2_int max_two min_two max_three min_three max_four min_four   -- for this text's walks alone
set_option linter.unusedVariables false
set_option linter.unusedSimpArgs false

/-! ### laws_heldNodeSS: function 36 -/
def laws_heldNodeSS.l0 : Nat → List (List (S41)) → Int → Int → Option (Int)
  | 0, _, _, _ => none
  | k + 1, x0, x1, x5 => if x5 < (x0.length : Int) then (if 0 ≤ x5 then ((laws_heldNodeS.f k (rd_L7 x0 x5) x1).bind fun t401 => (if t401 < 0 then (some (-1)) else (laws_heldNodeSS.l0 k x0 t401 (wrap64 (x5 + 1))))) else (none)) else (some x1)
def laws_heldNodeSS.f (k : Nat) (l0 : List (List (S41))) (a1 : Int) : Option (Int) := laws_heldNodeSS.l0 k l0 a1 0
theorem laws_heldNodeSS.mono_l : ∀ k, (∀ y0 y1 y2, LeO (laws_heldNodeSS.l0 k y0 y1 y2) (laws_heldNodeSS.l0 (k + 1) y0 y1 y2))
  | 0 => fun _ _ _ r h => by simp [laws_heldNodeSS.l0] at h
  | k + 1 => by
    have ih0 := laws_heldNodeSS.mono_l k
    · intro y0 y1 y2
      unfold laws_heldNodeSS.l0
      repeat' first
      | (with_reducible exact ih0 _ _ _)
      | (with_reducible exact laws_heldNodeS.mono _ _ _)
      | (with_reducible exact LeO.refl _)
      | (with_reducible exact LeO.none _)
      | (with_reducible refine LeO.ite ?_ ?_)
      | (with_reducible refine LeO.bind ?_ (fun _ => ?_))
      | exact ih0 _ _ _
      | exact laws_heldNodeS.mono _ _ _
      | exact LeO.none _
      | refine LeO.ite ?_ ?_
      | refine LeO.bind ?_ (fun _ => ?_)
theorem laws_heldNodeSS.mono : ∀ a0 a1 k, LeO (laws_heldNodeSS.f k a0 a1) (laws_heldNodeSS.f (k + 1) a0 a1) := by
  intro a0 a1 k
  have ih0 := laws_heldNodeSS.mono_l k
  unfold laws_heldNodeSS.f
  repeat' first
      | (with_reducible exact ih0 _ _ _)
      | (with_reducible exact laws_heldNodeS.mono _ _ _)
      | (with_reducible exact LeO.refl _)
      | (with_reducible exact LeO.none _)
      | (with_reducible refine LeO.ite ?_ ?_)
      | (with_reducible refine LeO.bind ?_ (fun _ => ?_))
      | exact ih0 _ _ _
      | exact laws_heldNodeS.mono _ _ _
      | exact LeO.none _
      | refine LeO.ite ?_ ?_
      | refine LeO.bind ?_ (fun _ => ?_)
set_option maxHeartbeats 8000000 in
set_option maxRecDepth 100000 in
theorem laws_heldNodeSS.calls (k : Nat) (A0 : Option Addr) (c0 : Nat) (l0 : List (List (S41))) (a1 : Int) (r : Int) (w : World) (hr0 : Kd.C (Kd.slice 41 k41) w A0 l0.length l0) (hc0 : l0.length ≤ c0) (h : laws_heldNodeSS.f k l0 a1 = some r) :
    Calls Try.prog 36 #[.slice A0 l0.length c0, .int .i64 a1] w fun e w' => e = .returned (.int .i64 r) ∧ Below w.heap.size w w' := by
  have HR0 := Aside0.mk hr0
  have HC0 := Aside0.mk hc0
  clear hr0 hc0
  have HB := Aside0.mk (Below.refl w.heap.size w)
  have H : (laws_heldNodeSS.l0 k l0 a1 0) = some r := h
  clear h
  have H' := Aside0.mk H
  clear H
  go_enter Try.func36, Try.ntmps36
  go_wp2
  go_loopg [1, 5] k (fun kq v1 v5 w' => ∃ (x1_1 : Int) (x5_1 : Int), v1 = .int .i64 x1_1 ∧ v5 = .int .i64 x5_1 ∧ Aside0 (laws_heldNodeSS.l0 kq l0 x1_1 x5_1 = some r) ∧ Aside0 (kq ≤ k) ∧ Aside0 (Below w.heap.size w w'))
  case atStart => exact ⟨(a1), (0), (by first | rfl | (simp; done) | (simp [*]; done)), (by first | rfl | (simp; done) | (simp [*]; done)), H', ⟨Nat.le_refl _⟩, ⟨by repeat (first | (with_reducible first | exact HB.out | apply below_alloc | apply pw_below_drewN | apply below_drew1) | exact HB.out)⟩⟩
  case round =>
    clear H'
    try clear p2
    obtain ⟨x1_1, x5_1, rfl, rfl, HA, HK1, HB⟩ := hrel
    cases gk with
    | zero => exact absurd HA.out (by simp [laws_heldNodeSS.l0])
    | succ k1 =>
      have H := HA.out
      clear HA
      simp only [laws_heldNodeSS.l0] at H
      by_cases c3 : x5_1 < (l0.length : Int)
      · rw [if_pos c3] at H
        have c3b0 : decide (x5_1 < (l0.length : Int)) = true := decide_eq_true c3
        clear c3
        by_cases c4 : 0 ≤ x5_1
        · rw [if_pos c4] at H
          have c4b0 : decide (0 ≤ x5_1) = true := decide_eq_true c4
          clear c4
          replace H := Option.bind_eq_some_iff.mp H
          obtain ⟨t401, A50, H⟩ := H
          replace H : (if t401 < 0 then (some (-1)) else (laws_heldNodeSS.l0 k1 l0 t401 (wrap64 (x5_1 + 1)))) = some r := H
          have A5 := Aside0.mk A50
          clear A50
          by_cases c6 : t401 < 0
          · rw [if_pos c6] at H
            have c6b0 : decide (t401 < 0) = true := decide_eq_true c6
            clear c6
            obtain rfl := Option.some.inj H
            have p400 : 0 ≤ (x5_1 : Int) := of_decide_eq_true (by first | (with_reducible assumption) | assumption)
            have q400 : x5_1 < (l0.length : Int) := of_decide_eq_true (by first | (with_reducible assumption) | assumption)
            obtain ⟨ad400, A400_0, c400_0, e400, hx400_0, hl400_0, hi400_0⟩ := at_L7 HR0.out x5_1 p400 q400
            cases e400
            replace hx400_0 := (HB.out.cell (World.block_lt_of_cell? w _ hx400_0)).trans hx400_0
            have HR400_0 := Aside0.mk hi400_0
            have HC400_0 := Aside0.mk hl400_0
            clear hi400_0 hl400_0
            replace p400 := eq_true p400
            replace q400 := eq_true q400
            go_wp2_with (first | ((with_reducible refine gate_callee (f := 31) rfl ?_); refine goesL_ (some 17) rfl rfl Try.func31 (by kernel_rfl) rfl #[.slice A400_0 (rd_L7 l0 x5_1).length c400_0, .int .i64 x1_1] rfl (by (try simp only [List.map_toArray, List.map_cons, List.map_nil]); first | done | rfl | (simp only [List.length_drop, List.length_take]; rfl)) ?_; (with_reducible refine (laws_heldNodeS.calls k1 _ _ (rd_L7 l0 x5_1) x1_1 t401 _ ?side1 ?side2 A5.out).mono ?_); (case side1 => repeat (first | exact (Kd.C_below HR400_0.out HB.out) | (with_reducible refine Kd.C_alloc ?_ _) | (with_reducible refine Kd.C_drewN ?_ _) | (with_reducible refine Kd.C_drew ?_))); (case side2 => exact HC400_0.out); rintro e w7 ⟨rfl, hb⟩; refine ⟨_, rfl, ?_⟩; have n0_ := Aside0.mk (below_step (by repeat (first | (with_reducible first | exact HB.out | apply below_alloc | apply pw_below_drewN | apply below_drew1) | exact HB.out)) hb); clear HB; have HB := n0_; clear n0_; (try clear hb); (try clear hb2); (try clear hk); (try clear hi)))
            go_ret
            exact ⟨by first | rfl | (simp [errW_none, errW_some] <;> rfl) | (simp [*, errW_none, errW_some] <;> rfl), by repeat (first | (with_reducible first | exact HB.out | apply below_alloc | apply pw_below_drewN | apply below_drew1) | exact HB.out)⟩
          · rw [if_neg c6] at H
            have c6b0 : decide (t401 < 0) = false := decide_eq_false c6
            clear c6
            have H' := Aside0.mk H
            clear H
            have p400 : 0 ≤ (x5_1 : Int) := of_decide_eq_true (by first | (with_reducible assumption) | assumption)
            have q400 : x5_1 < (l0.length : Int) := of_decide_eq_true (by first | (with_reducible assumption) | assumption)
            obtain ⟨ad400, A400_0, c400_0, e400, hx400_0, hl400_0, hi400_0⟩ := at_L7 HR0.out x5_1 p400 q400
            cases e400
            replace hx400_0 := (HB.out.cell (World.block_lt_of_cell? w _ hx400_0)).trans hx400_0
            have HR400_0 := Aside0.mk hi400_0
            have HC400_0 := Aside0.mk hl400_0
            clear hi400_0 hl400_0
            replace p400 := eq_true p400
            replace q400 := eq_true q400
            go_wp2_with (first | ((with_reducible refine gate_callee (f := 31) rfl ?_); refine goesL_ (some 17) rfl rfl Try.func31 (by kernel_rfl) rfl #[.slice A400_0 (rd_L7 l0 x5_1).length c400_0, .int .i64 x1_1] rfl (by (try simp only [List.map_toArray, List.map_cons, List.map_nil]); first | done | rfl | (simp only [List.length_drop, List.length_take]; rfl)) ?_; (with_reducible refine (laws_heldNodeS.calls k1 _ _ (rd_L7 l0 x5_1) x1_1 t401 _ ?side1 ?side2 A5.out).mono ?_); (case side1 => repeat (first | exact (Kd.C_below HR400_0.out HB.out) | (with_reducible refine Kd.C_alloc ?_ _) | (with_reducible refine Kd.C_drewN ?_ _) | (with_reducible refine Kd.C_drew ?_))); (case side2 => exact HC400_0.out); rintro e w8 ⟨rfl, hb⟩; refine ⟨_, rfl, ?_⟩; have n0_ := Aside0.mk (below_step (by repeat (first | (with_reducible first | exact HB.out | apply below_alloc | apply pw_below_drewN | apply below_drew1) | exact HB.out)) hb); clear HB; have HB := n0_; clear n0_; (try clear hb); (try clear hb2); (try clear hk); (try clear hi)))
            go_roundg k1
            case measure => have := HK1.out; omega
            case rel => exact ⟨(t401), (wrap64 (x5_1 + 1)), (by first | rfl | (simp; done) | (simp [*]; done)), (by first | rfl | (simp; done) | (simp [*]; done)), H', ⟨by have := HK1.out; omega⟩, ⟨by repeat (first | (with_reducible first | exact HB.out | apply below_alloc | apply pw_below_drewN | apply below_drew1) | exact HB.out)⟩⟩
        · rw [if_neg c4] at H
          exact absurd H (by simp)
      · rw [if_neg c3] at H
        have c3b0 : decide (x5_1 < (l0.length : Int)) = false := decide_eq_false c3
        clear c3
        obtain rfl := Option.some.inj H
        go_wp2
        go_ret
        exact ⟨by first | rfl | (simp [errW_none, errW_some] <;> rfl) | (simp [*, errW_none, errW_some] <;> rfl), by repeat (first | (with_reducible first | exact HB.out | apply below_alloc | apply pw_below_drewN | apply below_drew1) | exact HB.out)⟩

end Go.Proofs.Ytoioineibfldcaa.K
end

section
/-
  The plain laws for rows of rows: szNodeSS, eqNodeSS, heldNodeSS, both Joins. Conditions: at most 1048576 is asked of szNodeSS; the marks stay below 900000000; the joined row has at most 2097152 nodes.
-/
set_option linter.unusedVariables false
namespace Go.Proofs.Ytoioineibfldcaa.K
open Go.RowKit Go.Proofs.YtoioineibfldcaaW.PrintWords Go.Proofs.YtoioineibfldcaaW.PrintLast Go.Proofs.YtoioineibfldcaaW.PrintMore

def tot {α : Type} (ls : List (List α)) : Nat := (ls.map (·.length)).sum
theorem tot_cons {α : Type} (l : List α) (ls : List (List α)) : tot (l :: ls) = l.length + tot ls := by simp [tot]
theorem tot_flat {α : Type} : ∀ (ls : List (List α)), ls.flatten.length = tot ls
  | [] => rfl
  | l :: ls => by rw [List.flatten_cons, List.length_append, tot_flat ls, tot_cons]
theorem tot_drop {α : Type} (ls : List (List α)) (i : Nat) (h : i < ls.length) : tot (ls.drop i) = ls[i].length + tot (ls.drop (i + 1)) := by rw [List.drop_eq_getElem_cons h, tot_cons]
theorem tot_append {α : Type} (a b : List (List α)) : tot (a ++ b) = tot a + tot b := by simp [tot]
theorem tot_take {α : Type} (ls : List (List α)) (i : Nat) (h : i < ls.length) : tot (ls.take (i + 1)) = tot (ls.take i) + ls[i].length := by
  rw [List.take_succ_eq_append_getElem h, tot_append, tot_cons]
  rfl
theorem tot_take_le {α : Type} (ls : List (List α)) (i : Nat) : tot (ls.take i) ≤ tot ls := by
  have h := tot_append (ls.take i) (ls.drop i)
  rw [List.take_append_drop] at h
  omega
theorem tot_mem {α : Type} (ls : List (List α)) (l : List α) (h : l ∈ ls) : l.length ≤ tot ls := by
  obtain ⟨i, hi, rfl⟩ := List.getElem_of_mem h
  have h1 := tot_take ls i hi
  have h2 := tot_take_le ls (i + 1)
  omega

/-! ### szNodeSS -/
theorem szNodeS_ev2 (l : List S36) (hl : l.length ≤ 9223372036854775807) (hs : ∀ s ∈ l, s.f2.size ≤ 9223372036854775807) (a : Int) (h0 : 0 ≤ a) (h1 : a ≤ 1048576) :
    ∃ r, Ev (fun k => laws_szNodeS.f k l a) r ∧ -1 ≤ r ∧ r ≤ a ∧ (0 ≤ r → (l.length : Int) + r ≤ a) := by
  have hw : wrap64 (a - (l.length : Int)) = a - (l.length : Int) := wrap_id (by omega) (by omega)
  by_cases h : a - (l.length : Int) < 0
  · refine ⟨-1, Ev.congr (f := fun _ => some (-1)) (fun k => ?_) (Ev.now _), by omega, by omega, fun h => by omega⟩
    unfold laws_szNodeS.f
    rw [hw, if_pos h]
  · obtain ⟨r, hr, h2, h3⟩ := szNodeS_loop l hl hs _ 0 (a - (l.length : Int)) (by omega) (by omega) (Nat.zero_le _) rfl
    refine ⟨r, Ev.congr (fun k => ?_) hr, h2, by omega, fun h => by omega⟩
    unfold laws_szNodeS.f
    rw [hw, if_neg h]
    rfl
theorem szNodeSS_loop (l : List (List S36)) (hl : l.length ≤ 9223372036854775807) (hs : ∀ x ∈ l, x.length ≤ 9223372036854775807 ∧ ∀ s ∈ x, s.f2.size ≤ 9223372036854775807) (d : Nat) : ∀ (i : Nat) (a : Int), 0 ≤ a → a ≤ 1048576 → i ≤ l.length → l.length - i = d →
    ∃ r, Ev (fun k => laws_szNodeSS.l0 k l a i) r ∧ -1 ≤ r ∧ r ≤ a ∧ (0 ≤ r → (tot (l.drop i) : Int) + r ≤ a) := by
  induction d with
  | zero =>
    intro i a h0 h1 hi hd
    obtain rfl : i = l.length := by omega
    have hn : ¬ ((l.length : Int) < (l.length : Int)) := by omega
    refine ⟨a, Ev.step (f := fun _ => some a) (fun k => ?_) (Ev.now a), by omega, by omega, fun _ => by simp [tot]⟩
    rw [laws_szNodeSS.l0, if_neg hn]
  | succ d ih =>
    intro i a h0 h1 hi hd
    have hlt : i < l.length := by omega
    have hx : rd_L6 l (i : Int) = l[i] := by simp [rd_L6, List.getD_eq_getElem?_getD, hlt]
    have hmem := hs l[i] (List.getElem_mem hlt)
    obtain ⟨r1, hr1, hr2, hr3, hr4⟩ := szNodeS_ev2 l[i] hmem.1 hmem.2 a h0 h1
    have hc : (i : Int) < (l.length : Int) := by omega
    have hc0 : (0 : Int) ≤ (i : Int) := by omega
    have ht := tot_drop l i hlt
    have hstep : ∀ k, laws_szNodeSS.l0 (k + 1) l a i = (laws_szNodeS.f k l[i] a).bind fun t => if t < 0 then some (-1) else laws_szNodeSS.l0 k l t ((i + 1 : Nat) : Int) := fun k => by
      rw [laws_szNodeSS.l0, if_pos hc, if_pos hc0, hx, wrap_succ hlt hl]
    by_cases hn : r1 < 0
    · exact ⟨-1, Ev.step hstep (Ev.bind hr1 (Ev.congr (fun k => if_pos hn) (Ev.now _))), by omega, by omega, fun h => by omega⟩
    · obtain ⟨r, hr, h2, h3, h4⟩ := ih (i + 1) r1 (by omega) (by omega) (by omega) (by omega)
      exact ⟨r, Ev.step hstep (Ev.bind hr1 (Ev.congr (fun k => if_neg hn) hr)), h2, by omega, fun h => by have := h4 h; have := hr4 (by omega); omega⟩
theorem szNodeSS_ev (l : List (List S36)) (hl : l.length ≤ 9223372036854775807) (hs : ∀ x ∈ l, x.length ≤ 9223372036854775807 ∧ ∀ s ∈ x, s.f2.size ≤ 9223372036854775807) (a : Int) (h0 : 0 ≤ a) (h1 : a ≤ 1048576) :
    ∃ r, Ev (fun k => laws_szNodeSS.f k l a) r ∧ -1 ≤ r ∧ r ≤ a ∧ (0 ≤ r → (l.length : Int) + tot l + r ≤ a) := by
  have hw : wrap64 (a - (l.length : Int)) = a - (l.length : Int) := wrap_id (by omega) (by omega)
  by_cases h : a - (l.length : Int) < 0
  · refine ⟨-1, Ev.congr (f := fun _ => some (-1)) (fun k => ?_) (Ev.now _), by omega, by omega, fun h => by omega⟩
    rw [laws_szNodeSS.f, hw, if_pos h]
  · obtain ⟨r, hr, h2, h3, h4⟩ := szNodeSS_loop l hl hs _ 0 (a - (l.length : Int)) (by omega) (by omega) (Nat.zero_le _) rfl
    rw [List.drop_zero] at h4
    refine ⟨r, Ev.congr (fun k => ?_) hr, h2, by omega, fun h => by have := h4 h; omega⟩
    rw [laws_szNodeSS.f, hw, if_neg h]
    rfl

/-! ### eqNodeSS -/
theorem rdL7 (l : List (List S41)) (i : Nat) (h : i < l.length) : rd_L7 l (i : Int) = l[i] := by simp [rd_L7, List.getD_eq_getElem?_getD, h]
theorem eqNodeSS_loop (l : List (List S41)) (hl : l.length ≤ 9223372036854775807) (hs : ∀ x ∈ l, x.length ≤ 9223372036854775807) (d : Nat) : ∀ (i : Nat), i ≤ l.length → l.length - i = d → Ev (fun k => laws_eqNodeSS.l0 k l l i) true := by
  induction d with
  | zero =>
    intro i hi hd
    have hn : ¬ ((i : Int) < (l.length : Int)) := by omega
    refine Ev.step (f := fun _ => some true) (fun k => ?_) (Ev.now _)
    rw [laws_eqNodeSS.l0, if_neg hn]
  | succ d ih =>
    intro i hi hd
    have hlt : i < l.length := by omega
    have hc : (i : Int) < (l.length : Int) := by omega
    have hc0 : (0 : Int) ≤ (i : Int) := by omega
    refine Ev.step (f := fun k => (laws_eqNodeS.f k l[i] l[i]).bind fun t => if t = true then laws_eqNodeSS.l0 k l l ((i + 1 : Nat) : Int) else some false) (fun k => ?_) (Ev.bind (eqNodeS_ev l[i] (hs _ (List.getElem_mem hlt))) (Ev.congr (fun k => if_pos rfl) (ih (i + 1) (by omega) (by omega))))
    rw [laws_eqNodeSS.l0, if_pos hc, if_pos hc0, if_pos hc, rdL7 l i hlt, wrap_succ hlt hl]
theorem eqNodeSS_ev (l : List (List S41)) (hl : l.length ≤ 9223372036854775807) (hs : ∀ x ∈ l, x.length ≤ 9223372036854775807) : Ev (fun k => laws_eqNodeSS.f k l l) true := by
  refine Ev.congr (fun k => ?_) (eqNodeSS_loop l hl hs _ 0 (Nat.zero_le _) rfl)
  rw [laws_eqNodeSS.f, if_pos rfl]
  rfl

/-! ### the marks of rows of rows -/
noncomputable def mkss (a : Int) (ls : List (List S41)) : List (List S41) := (List.range ls.length).map fun i => mks (a + 5 * (tot (ls.take i) : Int)) (ls.getD i []).length
theorem mkss_len (a : Int) (ls : List (List S41)) : (mkss a ls).length = ls.length := by simp [mkss]
theorem mkss_get (a : Int) (ls : List (List S41)) (i : Nat) (h : i < ls.length) : (mkss a ls)[i]'(by rw [mkss_len]; exact h) = mks (a + 5 * (tot (ls.take i) : Int)) ls[i].length := by
  simp [mkss, List.getD_eq_getElem?_getD, h]
theorem heldSS_loop (a : Int) (ls : List (List S41)) (ha : 0 ≤ a) (hn : a + 5 * tot ls ≤ 900000000) (hl : ls.length ≤ 900000000) (d : Nat) : ∀ (i : Nat) (b : Int), b = a + 5 * tot (ls.take i) → i ≤ ls.length → ls.length - i = d →
    Ev (fun k => laws_heldNodeSS.l0 k (mkss a ls) b i) (a + 5 * tot ls) := by
  induction d with
  | zero =>
    intro i b hb hi hd
    obtain rfl : i = ls.length := by omega
    have hnn : ¬ ((ls.length : Int) < ((mkss a ls).length : Int)) := by rw [mkss_len]; omega
    rw [List.take_length] at hb
    subst hb
    refine Ev.step (f := fun _ => some (a + 5 * (tot ls : Int))) (fun k => ?_) (Ev.now _)
    rw [laws_heldNodeSS.l0, if_neg hnn]
  | succ d ih =>
    intro i b hb hi hd
    have hlt : i < ls.length := by omega
    have hc : (i : Int) < ((mkss a ls).length : Int) := by rw [mkss_len]; omega
    have hc0 : (0 : Int) ≤ (i : Int) := by omega
    have h1 := tot_take ls i hlt
    have h2 := tot_take_le ls (i + 1)
    have hrow : rd_L7 (mkss a ls) (i : Int) = mks b ls[i].length := by
      rw [rdL7 _ i (by rw [mkss_len]; exact hlt), mkss_get a ls i hlt, hb]
    have hh := held_ev b ls[i].length (by omega) (by omega)
    refine Ev.step (f := fun k => (laws_heldNodeS.f k (mks b ls[i].length) b).bind fun t => if t < 0 then some (-1) else laws_heldNodeSS.l0 k (mkss a ls) t ((i + 1 : Nat) : Int)) (fun k => ?_) (Ev.bind hh (Ev.congr (fun k => if_neg (by omega)) (ih (i + 1) _ (by omega) (by omega) (by omega))))
    rw [laws_heldNodeSS.l0, if_pos hc, if_pos hc0, hrow, wrap_succ hlt (by omega)]
theorem heldSS_ev (a : Int) (ls : List (List S41)) (ha : 0 ≤ a) (hn : a + 5 * tot ls ≤ 900000000) (hl : ls.length ≤ 900000000) : Ev (fun k => laws_heldNodeSS.f k (mkss a ls) a) (a + 5 * tot ls) :=
  heldSS_loop a ls ha hn hl _ 0 a (by simp [tot]) (Nat.zero_le _) rfl

/-! ### Join -/
def joinL (x : S41) (ls : List (List S41)) : List S41 := ls.flatten ++ [⟨x.f0, x.f1, x.f2, (ls.length : Int), x.f4⟩]
theorem flat_take (ls : List (List S41)) (i : Nat) (h : i < ls.length) : (ls.take (i + 1)).flatten = (ls.take i).flatten ++ ls[i] := by
  rw [List.take_succ_eq_append_getElem h, List.flatten_append]
  simp
theorem implJoin_loop (x : S41) (ls : List (List S41)) (hl : ls.length ≤ 1048576) (ht : tot ls ≤ 1048576) (d : Nat) : ∀ (i : Nat), i ≤ ls.length → ls.length - i = d →
    Ev (fun k => impl_join.l0 k ls (ls.take i).flatten ls (ls.length : Int) i x.f0 x.f1 x.f2 x.f3 x.f4) (joinL x ls) := by
  induction d with
  | zero =>
    intro i hi hd
    obtain rfl : i = ls.length := by omega
    have hn : ¬ ((ls.length : Int) < (ls.length : Int)) := by omega
    have hb : ls.flatten.length < 2932031007402 := by rw [tot_flat]; omega
    refine Ev.step (f := fun _ => some (joinL x ls)) (fun k => ?_) (Ev.now _)
    rw [impl_join.l0, if_neg hn, List.take_length, if_pos hb]
    rfl
  | succ d ih =>
    intro i hi hd
    have hlt : i < ls.length := by omega
    have hc : (i : Int) < (ls.length : Int) := by omega
    have hc0 : (0 : Int) ≤ (i : Int) := by omega
    have h1 := tot_take ls i hlt
    have h2 := tot_take_le ls (i + 1)
    have hb : (ls.take i).flatten.length + ls[i].length < 2932031007402 := by rw [tot_flat]; omega
    refine Ev.step (fun k => ?_) (ih (i + 1) (by omega) (by omega))
    rw [impl_join.l0, if_pos hc, if_pos hc0, if_pos hc, rdL7 ls i hlt, if_pos hb, wrap_succ hlt (by omega), flat_take ls i hlt]
theorem implJoin_ev (x : S41) (ls : List (List S41)) (hl : ls.length ≤ 1048576) (ht : tot ls ≤ 1048576) : Ev (fun k => impl_Join.f k x.f0 x.f1 x.f2 x.f3 x.f4 ls) (joinL x ls) :=
  Ev.bind (implJoin_loop x ls hl ht _ 0 (Nat.zero_le _) rfl) (Ev.now _)
theorem specJoin_in (x : S41) (ls : List (List S41)) (hl : ls.length ≤ 1048576) (ht : tot ls ≤ 1048576) (i : Nat) (hlt : i < ls.length)
    (hnext : Ev (fun k => spec_Join.l0 k ls (ls.take (i + 1)).flatten ((i + 1 : Nat) : Int) x.f0 x.f1 x.f2 x.f3 x.f4) (joinL x ls)) (d : Nat) : ∀ (j : Nat), j ≤ ls[i].length → ls[i].length - j = d →
    Ev (fun k => spec_Join.l1 k ls ((ls.take i).flatten ++ ls[i].take j) i j x.f0 x.f1 x.f2 x.f3 x.f4) (joinL x ls) := by
  have hc : (i : Int) < (ls.length : Int) := by omega
  have hc0 : (0 : Int) ≤ (i : Int) := by omega
  have h1 := tot_take ls i hlt
  have h2 := tot_take_le ls (i + 1)
  induction d with
  | zero =>
    intro j hj hd
    obtain rfl : j = ls[i].length := by omega
    have hn : ¬ ((ls[i].length : Int) < (ls[i].length : Int)) := by omega
    refine Ev.step (fun k => ?_) hnext
    rw [spec_Join.l1, if_pos hc0, if_pos hc, rdL7 ls i hlt, if_neg hn, List.take_length, wrap_succ hlt (by omega), flat_take ls i hlt]
  | succ d ih =>
    intro j hj hd
    have hjlt : j < ls[i].length := by omega
    have hjc : (j : Int) < (ls[i].length : Int) := by omega
    have hjc0 : (0 : Int) ≤ (j : Int) := by omega
    have hx : rd_T41 ls[i] (j : Int) = ls[i][j] := by simp [rd_T41, List.getD_eq_getElem?_getD, hjlt]
    have hb : ((ls.take i).flatten ++ ls[i].take j).length < 2932031007402 := by rw [List.length_append, tot_flat, List.length_take]; omega
    refine Ev.step (fun k => ?_) (ih (j + 1) (by omega) (by omega))
    rw [spec_Join.l1, if_pos hc0, if_pos hc, rdL7 ls i hlt, if_pos hjc, if_pos hjc0, if_pos hb, hx, wrap_succ hjlt (by omega), List.take_succ_eq_append_getElem hjlt, List.append_assoc]
theorem specJoin_loop (x : S41) (ls : List (List S41)) (hl : ls.length ≤ 1048576) (ht : tot ls ≤ 1048576) (d : Nat) : ∀ (i : Nat), i ≤ ls.length → ls.length - i = d →
    Ev (fun k => spec_Join.l0 k ls (ls.take i).flatten i x.f0 x.f1 x.f2 x.f3 x.f4) (joinL x ls) := by
  induction d with
  | zero =>
    intro i hi hd
    obtain rfl : i = ls.length := by omega
    have hn : ¬ ((ls.length : Int) < (ls.length : Int)) := by omega
    have hb : ls.flatten.length < 2932031007402 := by rw [tot_flat]; omega
    refine Ev.step (f := fun _ => some (joinL x ls)) (fun k => ?_) (Ev.now _)
    rw [spec_Join.l0, if_neg hn, List.take_length, if_pos hb]
    rfl
  | succ d ih =>
    intro i hi hd
    have hlt : i < ls.length := by omega
    have hc : (i : Int) < (ls.length : Int) := by omega
    have hin := specJoin_in x ls hl ht i hlt (ih (i + 1) (by omega) (by omega)) _ 0 (Nat.zero_le _) rfl
    rw [List.take_zero, List.append_nil] at hin
    refine Ev.step (fun k => ?_) hin
    rw [spec_Join.l0, if_pos hc]
    rfl
theorem specJoin_ev (x : S41) (ls : List (List S41)) (hl : ls.length ≤ 1048576) (ht : tot ls ≤ 1048576) : Ev (fun k => spec_Join.f k x.f0 x.f1 x.f2 x.f3 x.f4 ls) (joinL x ls) :=
  specJoin_loop x ls hl ht _ 0 (Nat.zero_le _) rfl
end Go.Proofs.Ytoioineibfldcaa.K
end

section
/-
  laws.markNodeSS (function 29) marks each row of a row of rows where it lies; what is neither of these rows nor new stays. Conditions: the marks stay below 900000000, at most 1048576 rows.
-/
set_option linter.unusedVariables false
namespace Go.Proofs.Ytoioineibfldcaa.K
open Go.RowKit Go.Proofs.YtoioineibfldcaaW.PrintWords Go.Proofs.YtoioineibfldcaaW.PrintLast Go.Proofs.YtoioineibfldcaaW.PrintMore
set_option maxRecDepth 100000
set_option maxHeartbeats 2000000

theorem mkss_step (a : Int) (ls : List (List S41)) (i : Nat) (h : i < ls.length) :
    ((mkss a ls).take i ++ ls.drop i).set i (mks (a + 5 * (tot (ls.take i) : Int)) ls[i].length) = (mkss a ls).take (i + 1) ++ ls.drop (i + 1) := by
  have h1 : ((mkss a ls).take i).length = i := by rw [List.length_take, mkss_len]; omega
  rw [List.set_append_right _ _ (by omega), h1, Nat.sub_self, List.drop_eq_getElem_cons h, List.set_cons_zero, List.take_succ_eq_append_getElem (by rw [mkss_len]; exact h), mkss_get a ls i h, List.append_assoc]
  rfl

theorem markNodeSS.calls (v : Value) (ls : List (List S41)) (a : Int) (w0 wm w : World) (ha : 0 ≤ a) (hn : a + 5 * tot ls ≤ 900000000) (hl : ls.length ≤ 1048576)
    (hB0 : Below w0.heap.size w0 wm) (hBm : Below wm.heap.size wm w) (hr : RR wm w0.heap.size v ls) :
    Calls Try.prog 29 #[v, .int .i64 a] w fun e w' => e = .returned (.int .i64 (a + 5 * tot ls)) ∧ RR w' w0.heap.size v (mkss a ls) ∧ Kept w w' (fun k => w0.heap.size ≤ k ∧ k < wm.heap.size) ∧ Below w0.heap.size w0 w' := by
  have HRM := Aside0.mk hr
  have HBM := Aside0.mk hBm
  have HRW := Aside0.mk (hr.below hBm)
  have HB0 := Aside0.mk (hB0.trans (hBm.mono hB0.size))
  obtain ⟨A, c, rfl, hc⟩ := hr.slice
  clear hr hB0 hBm
  go_enter Try.func29, Try.ntmps29
  go_wp2
  go_loopw [1, 5] (fun v1 v5 wr => ∃ (i : Nat), v5 = .int .i64 i ∧ v1 = .int .i64 (a + 5 * (tot (ls.take i) : Int)) ∧ i ≤ ls.length ∧ Aside0 (RR wr w0.heap.size (.slice A ls.length c) ((mkss a ls).take i ++ ls.drop i)) ∧ Aside0 (Kept w wr (fun k => w0.heap.size ≤ k ∧ k < wm.heap.size)) ∧ Aside0 (Below w0.heap.size w0 wr) ∧
    Aside0 (∀ k, (Value.slice A ls.length c).ownBlock = some k → wr.heap[k]? = wm.heap[k]?)) (fun _ i _ => ls.length - (intOf i).toNat)
  case atStart =>
    refine ⟨0, rfl, by simp [tot], Nat.zero_le _, ⟨by simpa using HRW.out⟩, ⟨Kept.refl _ _⟩, HB0, ⟨fun k hk => HBM.out.block k (HRM.out.blocks k hk).2.1⟩⟩
  case round =>
    obtain ⟨i, rfl, rfl, hi, HRR, HK, HB, HO⟩ := hrel
    by_cases hlt : i < ls.length
    · have hlen : ((mkss a ls).take i ++ ls.drop i).length = ls.length := by rw [List.length_append, List.length_take, List.length_drop, mkss_len]; omega
      obtain ⟨g, cg, hv, hcg, _⟩ := HRM.out.form (by omega)
      cases hv
      obtain ⟨u, hcu, hnu⟩ := RR.cell (c := c) (g := g) (j := i) (by rw [hlen]; exact HRR.out) (by rw [hlen]; exact hlt)
      have hrow : ((mkss a ls).take i ++ ls.drop i)[i]'(by rw [hlen]; exact hlt) = ls[i] := by
        rw [List.getElem_append_right (by rw [List.length_take, mkss_len]; omega)]
        have e : i + (i - min i ls.length) = i := by omega
        simp [mkss_len, e]
      rw [hrow] at hnu
      have h1 := tot_take ls i hlt
      have h2 := tot_take_le ls (i + 1)
      obtain ⟨b, hb⟩ : ∃ b : Int, b = a + 5 * (tot (ls.take i) : Int) := ⟨_, rfl⟩
      rw [← hb]
      have hnext : b + 5 * (ls[i].length : Int) = a + 5 * (tot (ls.take (i + 1)) : Int) := by omega
      obtain ⟨k1, hk1⟩ := (mark_ev ls[i] b (by omega) (by omega)).rounds
      have HKK := Aside0.mk hk1
      have HNU := Aside0.mk hnu
      obtain ⟨Au, cu, rfl⟩ := Kd.R_slice hnu
      have HCU := Aside0.mk hcu
      have hbd : ∀ k, (Value.slice Au ls[i].length cu).ownBlock = some k → w0.heap.size ≤ k ∧ k < wm.heap.size := fun k hk => by
        obtain ⟨u2, hc2, hn2⟩ := RR.cell (c := c) (g := g) (j := i) HRM.out hlt
        have : wr.cell? ⟨g, i, none⟩ = wm.cell? ⟨g, i, none⟩ := World.cell?_of_block (HO.out g (by simp [Value.ownBlock]))
        rw [this, hc2] at hcu
        cases hcu
        have := NR_blk hn2 k hk
        exact ⟨this.1, this.2.1⟩
      have HBD := Aside0.mk hbd
      have HBE := Aside0.mk hb
      have HNX := Aside0.mk hnext
      clear hbd hnu hk1 hb hnext
      go_wp2_with (go_at_call 30; refine (laws_markNodeS.calls k1 (fun k => some k = (Value.slice Au ls[i].length cu).ownBlock) _ ls[i] b _ _ w0 _ HB.out (NR_tight HNU.out) HKK.out).mono ?_; rintro e w5 ⟨rfl, hu, hb5, hk5⟩; have HU := Aside0.mk hu; have HB5 := Aside0.mk hb5; have HK5 := Aside0.mk hk5; clear hu hb5 hk5)
      go_roundw
      case rel =>
        refine ⟨i + 1, by go_num, by rw [← HNX.out], by omega, ⟨?_⟩, ⟨HK.out.then_ HK5.out (fun k hk => .inl (HBD.out k hk.symm))⟩, HB5, ⟨fun k hk => ?_⟩⟩
        · have ht := RR.turn (g := g) (c := c) (j := i) (l' := mks b ls[i].length) (w1 := w5) (by rw [hlen]; exact HRR.out) (by rw [hlen]; exact hlt) HCU.out HK5.out (Kd.R_mono HU.out (fun _ _ => trivial))
          rw [hlen, HBE.out, mkss_step a ls i hlt] at ht
          exact ht
        · have hg2 := (HRR.out.blocks k hk)
          refine (HK5.out.2 k hg2.2.1 (fun he => ?_)).trans (HO.out k hk)
          obtain ⟨_, _, c1, hc1⟩ := NR_blk HNU.out k he.symm
          obtain ⟨_, _, c2, hc2⟩ := hg2
          rw [hc1] at hc2
          injection hc2 with hc2
          injection hc2 with _ hc2
          cases hc2
      case measure => simp [intOf]; omega
    · obtain rfl : i = ls.length := by omega
      go_wp2
      go_ret
      refine ⟨by first | rfl | simp, ?_, HK.out, HB.out⟩
      have := HRR.out
      rw [List.drop_length, List.append_nil, List.take_of_length_le (by rw [mkss_len]; exact Nat.le_refl _)] at this
      exact this
end Go.Proofs.Ytoioineibfldcaa.K
end

section
/-
  laws.FnExactJoin (function 8) walked: it returns true, and writes only into what it made. Condition: none (szNode and szNodeSS let only small arguments through).
-/
set_option linter.unusedVariables false
namespace Go.Proofs.Ytoioineibfldcaa.K
open Go.RowKit Go.Proofs.YtoioineibfldcaaW.PrintWords Go.Proofs.YtoioineibfldcaaW.PrintLast Go.Proofs.YtoioineibfldcaaW.PrintMore
set_option maxRecDepth 100000
set_option maxHeartbeats 4000000

theorem toNode_is (s : S36) : laws_toNode.f s.f0 s.f1 s.f2 s.f3 s.f4 = some (s.f0, s.f1, s.f2, s.f3, s.f4) := rfl
section
variable {w w1 : World} {base : Nat} {A : Option Addr} {n c : Nat} {l : List S41} {ls : List (List S41)}
theorem RRC (h : RR w base (.slice A n c) ls) : Kd.C kL w A ls.length ls := by
  obtain ⟨A', c', e, _, h2⟩ := h.reads
  cases e
  exact h2
theorem NRC (h : NR w base (.slice A n c) l) : Kd.C k41 w A l.length l := (Kd.R_reads' h).2.2
theorem NR_below (h : NR w base (.slice A n c) l) (hb : Below w.heap.size w w1) : NR w1 base (.slice A n c) l := Kd.R_below h hb
/-- A row over a call that keeps all but S. -/
theorem NR_kept {S : Nat → Prop} {u : Value} (h : NR w base u l) (hk : Kept w w1 S) (hn : ∀ k, u.ownBlock = some k → ¬ S k) : NR w1 base u l :=
  NR_keep h (fun k hkk => hk.2 k (NR_blk h k hkk).2.1 (hn k hkk))
theorem NR_in {u : Value} (h : NR w base u l) : ∀ k, u.ownBlock = some k → base ≤ k ∧ k < w.heap.size := fun k hk => ⟨(NR_blk h k hk).1, (NR_blk h k hk).2.1⟩
end
theorem held_calls (k : Nat) (A0 : Option Addr) (n c0 : Nat) (l0 : List S41) (a1 r : Int) (w : World) (hn : n = l0.length) (hr0 : Kd.C k41 w A0 l0.length l0) (hc0 : n ≤ c0) (h : laws_heldNodeS.f k l0 a1 = some r) :
    Calls Try.prog 31 #[.slice A0 n c0, .int .i64 a1] w fun e w' => e = .returned (.int .i64 r) ∧ Below w.heap.size w w' := by
  subst hn
  exact laws_heldNodeS.calls k A0 c0 l0 a1 r w hr0 hc0 h
theorem markSS_calls (v : Value) (ls : List (List S41)) (a m : Int) (w0 wm w : World) (hm : m = a + 5 * tot ls) (ha : 0 ≤ a) (hn : a + 5 * tot ls ≤ 900000000) (hl : ls.length ≤ 1048576)
    (hB0 : Below w0.heap.size w0 wm) (hBm : Below wm.heap.size wm w) (hr : RR wm w0.heap.size v ls) :
    Calls Try.prog 29 #[v, .int .i64 a] w fun e w' => e = .returned (.int .i64 m) ∧ RR w' w0.heap.size v (mkss a ls) ∧ Kept w w' (fun k => w0.heap.size ≤ k ∧ k < wm.heap.size) ∧ Below w0.heap.size w0 w' := by
  subst hm
  exact markNodeSS.calls v ls a w0 wm w ha hn hl hB0 hBm hr
theorem mark_calls (k : Nat) (v : Value) (l : List S41) (r1 : Int) (r2 : List S41) (w0 w : World) (hB : Below w0.heap.size w0 w) (ho : NR w w0.heap.size v l) (h : laws_markNodeS.f k l 1 = some (r1, r2)) :
    Calls Try.prog 30 #[v, .int .i64 1] w fun e w' => e = .returned (.int .i64 r1) ∧ NR w' w0.heap.size v r2 ∧ Below w0.heap.size w0 w' ∧ Kept w w' (fun k => some k = v.ownBlock) :=
  (laws_markNodeS.calls k (fun k => some k = v.ownBlock) v l 1 r1 r2 w0 w hB (NR_tight ho) h).mono (fun e w' ⟨h1, h2, h3, h4⟩ => ⟨h1, Kd.R_mono h2 (fun _ _ => trivial), h3, h4⟩)
theorem toSS_calls (A0 : Option Addr) (c0 : Nat) (l0 : List (List S36)) (L : List (List S41)) (hL : L = l0.map (·.map cv)) (w : World) (hr0 : Kd.C (Kd.slice 36 k36) w A0 l0.length l0) (hc0 : l0.length ≤ c0) (hl : l0.length ≤ 1048576) (hls : ∀ l ∈ l0, l.length ≤ 1048576) :
    Calls Try.prog 26 #[.slice A0 l0.length c0] w fun e w' => ∃ A c, e = .returned (.slice A L.length c) ∧ L.length ≤ c ∧ RR w' w.heap.size (.slice A L.length c) L ∧ Below w.heap.size w w' := by
  subst hL
  exact (toNodeSS.calls A0 c0 l0 w hr0 hc0 hl hls).mono (fun e w' ⟨v, h1, h2, h3⟩ => by
    obtain ⟨A, c, rfl, hc⟩ := h2.slice
    exact ⟨A, c, h1, hc, h2, h3⟩)
theorem specJoin_calls (k : Nat) (s : S36) (A1 : Option Addr) (c1 : Nat) (l1 : List (List S41)) (r : List S41) (w : World) (hr1 : Kd.C kL w A1 l1.length l1) (hc1 : l1.length ≤ c1) (h : spec_Join.f k s.f0 s.f1 s.f2 s.f3 s.f4 l1 = some r) :
    Calls Try.prog 24 #[.agg #[.int .i64 s.f0, .int .i64 s.f1, .string s.f2, .int .i64 s.f3, .int .i64 s.f4], .slice A1 l1.length c1] w fun e w' => ∃ A c, e = .returned (.slice A r.length c) ∧ r.length ≤ c ∧ NR w' w.heap.size (.slice A r.length c) r ∧ Below w.heap.size w w' :=
  (spec_Join.calls k _ _ _ _ _ A1 c1 l1 r w hr1 hc1 h).mono (fun e w' ⟨v, h1, h2, h3⟩ => by
    obtain ⟨A, c, rfl, hc, _⟩ := Kd.R_reads h2
    exact ⟨A, c, h1, hc, h2, h3⟩)
theorem implJoin_calls (k : Nat) (s : S36) (A1 : Option Addr) (c1 : Nat) (l1 : List (List S41)) (r : List S41) (w : World) (hr1 : Kd.C kL w A1 l1.length l1) (hc1 : l1.length ≤ c1) (h : impl_Join.f k s.f0 s.f1 s.f2 s.f3 s.f4 l1 = some r) :
    Calls Try.prog 27 #[.agg #[.int .i64 s.f0, .int .i64 s.f1, .string s.f2, .int .i64 s.f3, .int .i64 s.f4], .slice A1 l1.length c1] w fun e w' => ∃ A c, e = .returned (.slice A r.length c) ∧ r.length ≤ c ∧ NR w' w.heap.size (.slice A r.length c) r ∧ Below w.heap.size w w' :=
  (impl_Join.calls k _ _ _ _ _ A1 c1 l1 r w hr1 hc1 h).mono (fun e w' ⟨v, h1, h2, h3⟩ => by
    obtain ⟨A, c, rfl, hc, _⟩ := Kd.R_reads h2
    exact ⟨A, c, h1, hc, h2, h3⟩)

theorem laws_FnExactJoin.calls (s : S36) (A1 : Option Addr) (c1 : Nat) (ls : List (List S36)) (w : World) (hr1 : Kd.C (Kd.slice 36 k36) w A1 ls.length ls) (hc1 : ls.length ≤ c1)
    (hs : s.f2.size ≤ 9223372036854775807) (hls : ∀ l ∈ ls, l.length ≤ 9223372036854775807 ∧ ∀ s ∈ l, s.f2.size ≤ 9223372036854775807) :
    Calls Try.prog 8 #[.agg #[.int .i64 s.f0, .int .i64 s.f1, .string s.f2, .int .i64 s.f3, .int .i64 s.f4], .slice A1 ls.length c1] w fun e w' => e = .returned (.bool true) ∧ Below w.heap.size w w' := by
  obtain ⟨r1, hz1, hz2, hz3⟩ := szNode_tells s 1048576 (by omega) (by omega) hs
  have HZ1 := Aside0.mk hz1
  clear hz1
  have HR0 := Aside0.mk hr1
  have hlen0 := hr1.2.1
  clear hr1
  have HBo := Aside0.mk ((Below.refl w.heap.size w).alloc (Nat.le_refl _) (.cells #[.int .i64 s.f0, .int .i64 s.f1, .string s.f2, .int .i64 s.f3, .int .i64 s.f4] 36))
  have BKo : Aside0 (Blk (w.alloc (.cells #[.int .i64 s.f0, .int .i64 s.f1, .string s.f2, .int .i64 s.f3, .int .i64 s.f4] 36)) w.heap.size 36 #[.int .i64 s.f0, .int .i64 s.f1, .string s.f2, .int .i64 s.f3, .int .i64 s.f4]) := ⟨Blk.new w 36 _⟩
  by_cases hn1 : r1 < 0
  · go_enter Try.func8, Try.ntmps8
    go_wp2_with (go_at_call 22; refine (laws_szNode.calls _ _ _ _ _ _ r1 _ HZ1.out).mono ?_; rintro e w5 ⟨rfl, hb5⟩; have HB5 := Aside0.mk hb5; clear hb5)
    go_ret
    exact ⟨rfl, HBo.out.trans (HB5.out.mono HBo.out.size)⟩
  · obtain ⟨r2, hz4, hz5, hz6, hz7⟩ := szNodeSS_ev ls hlen0 hls r1 (by omega) (by omega)
    obtain ⟨k2, hz4⟩ := hz4.rounds
    have HZ2 := Aside0.mk hz4
    clear hz4
    by_cases hn2 : r2 < 0
    · clear hz7
      go_enter Try.func8, Try.ntmps8
      go_wp2_with (first | (go_at_call 22; refine (laws_szNode.calls _ _ _ _ _ _ r1 _ HZ1.out).mono ?_; rintro e w1 ⟨rfl, hb⟩; have HB1 := Aside0.mk (HBo.out.trans (hb.mono HBo.out.size)); clear hb) | (go_at_call 23; refine (laws_szNodeSS.calls k2 _ _ ls r1 r2 _ (Kd.C_below HR0.out HB1.out) hc1 HZ2.out).mono ?_; rintro e w2 ⟨rfl, hb⟩; have HB2 := Aside0.mk (HB1.out.trans (hb.mono HB1.out.size)); clear hb))
      go_ret
      exact ⟨rfl, HB2.out⟩
    · have hz8 := hz7 (by omega)
      clear hz7
      have hbl : ls.length ≤ 1048576 := by omega
      have HLL : Aside0 (∀ l ∈ ls, l.length ≤ 1048576) := ⟨fun l hl => by have := tot_mem ls l hl; omega⟩
      obtain ⟨L, hL⟩ : ∃ L, L = ls.map (·.map cv) := ⟨_, rfl⟩
      have htl : tot L ≤ 1048576 := by
        have : tot L = tot ls := by rw [hL, tot, tot, List.map_map]; congr 1; apply List.map_congr_left; intro x _; simp
        omega
      have hll : L.length ≤ 1048576 := by rw [hL, List.length_map]; omega
      obtain ⟨J, hJ⟩ : ∃ J, J = joinL (cv s) L := ⟨_, rfl⟩
      have hjl : J.length ≤ 1048577 := by rw [hJ, joinL, List.length_append, tot_flat]; simp; omega
      obtain ⟨kG, hkG⟩ : ∃ k, spec_Join.f k s.f0 s.f1 s.f2 s.f3 s.f4 L = some J := by rw [hJ]; exact (specJoin_ev (cv s) L hll htl).rounds
      obtain ⟨kH, hkH⟩ : ∃ k, impl_Join.f k s.f0 s.f1 s.f2 s.f3 s.f4 L = some J := by rw [hJ]; exact (implJoin_ev (cv s) L hll htl).rounds
      obtain ⟨kE, hkE⟩ := (eqNodeS_ev J (by omega)).rounds
      obtain ⟨kF, hkF⟩ := (eqNodeSS_ev L (by omega) (fun x hx => by have := tot_mem L x hx; omega)).rounds
      obtain ⟨kM, hkM⟩ := (mark_ev J 1 (by omega) (by omega)).rounds
      obtain ⟨kD, hkD⟩ := (held_ev 1 J.length (by omega) (by omega)).rounds
      obtain ⟨M, hM⟩ : ∃ M, M = mks 1 J.length := ⟨_, rfl⟩
      obtain ⟨m2, hm2⟩ : ∃ m2 : Int, m2 = 1 + 5 * (J.length : Int) := ⟨_, rfl⟩
      obtain ⟨m1, hm1⟩ : ∃ m1 : Int, m1 = 1 + 5 * (tot L : Int) := ⟨_, rfl⟩
      have hml : J.length = M.length := by rw [hM, mks_len]
      rw [← hM, ← hm2] at hkM hkD
      have hm10 : ¬ m1 < 0 := by omega
      have hm20 : ¬ m2 < 0 := by omega
      have KG := Aside0.mk hkG
      have KH := Aside0.mk hkH
      have KE := Aside0.mk hkE
      have KF := Aside0.mk hkF
      have KM := Aside0.mk hkM
      have KD := Aside0.mk hkD
      have HLQ := Aside0.mk hL
      have HM1 := Aside0.mk hm1
      have HML := Aside0.mk hml
      have HLB := Aside0.mk hbl
      have HTL : Aside0 ((1 : Int) + 5 * tot L ≤ 900000000) := ⟨by omega⟩
      have HLE := Aside0.mk hll
      have HTM : Aside0 ((1 : Int) ≤ 1) := ⟨by omega⟩
      clear hkG hkH hkE hkF hkM hkD hL hm1 hm2 hml hM hJ htl hll hbl hjl hz8 hz5 hz6 hz2 hz3 hlen0
      go_enter Try.func8, Try.ntmps8
      go_upto_region 5 with (first | (go_at_call 22; refine (laws_szNode.calls _ _ _ _ _ _ r1 _ HZ1.out).mono ?_; rintro e w1 ⟨rfl, hb⟩; have HB1 := Aside0.mk (HBo.out.trans (hb.mono HBo.out.size)); have HL1 := Aside0.mk hb; have BK1 : Aside0 (Blk w1 w.heap.size 36 #[.int .i64 s.f0, .int .i64 s.f1, .string s.f2, .int .i64 s.f3, .int .i64 s.f4]) := ⟨(hb.block _ BKo.out.lt).trans BKo.out⟩; (try clear hb); (try clear hv); (try clear hk)))
      go_upto_region 8 with (first | (go_at_call 23; refine (laws_szNodeSS.calls k2 _ _ ls r1 r2 _ (Kd.C_below HR0.out HB1.out) hc1 HZ2.out).mono ?_; rintro e w2 ⟨rfl, hb⟩; have HB2 := Aside0.mk (HB1.out.trans (hb.mono HB1.out.size)); have HL2 := Aside0.mk hb; have BK2 : Aside0 (Blk w2 w.heap.size 36 #[.int .i64 s.f0, .int .i64 s.f1, .string s.f2, .int .i64 s.f3, .int .i64 s.f4]) := ⟨(hb.block _ BK1.out.lt).trans BK1.out⟩; have z0 := BK2.out.cell 0; have z1 := BK2.out.cell 1; have z2 := BK2.out.cell 2; have z3 := BK2.out.cell 3; have z4 := BK2.out.cell 4; (simp only [List.getElem?_toArray, List.getElem?_cons_zero, List.getElem?_cons_succ] at z0 z1 z2 z3 z4); (try clear hb); (try clear hv); (try clear hk)))
      go_upto_region 9 with (first | (go_at_call 25; refine (laws_toNode.calls s.f0 s.f1 s.f2 s.f3 s.f4 _ _ _ _ _ _ (toNode_is s)).mono ?_; rintro e w3 ⟨rfl, hb⟩; have HB3 := Aside0.mk (HB2.out.trans (hb.mono HB2.out.size)); have HL3 := Aside0.mk hb; have BK3 : Aside0 (Blk w3 w.heap.size 36 #[.int .i64 s.f0, .int .i64 s.f1, .string s.f2, .int .i64 s.f3, .int .i64 s.f4]) := ⟨(hb.block _ BK2.out.lt).trans BK2.out⟩; (try clear hb); (try clear hv); (try clear hk)) | (go_at_call 26; refine (toSS_calls _ _ ls L HLQ.out _ (Kd.C_below HR0.out HB3.out) hc1 HLB.out HLL.out).mono ?_; rintro e w4 ⟨AX, cX, rfl, hcX, hv, hb⟩; have X4 := Aside0.mk hv; have HB4 := Aside0.mk (HB3.out.trans (hb.mono HB3.out.size)); have HL4 := Aside0.mk hb; have BK4 : Aside0 (Blk w4 w.heap.size 36 #[.int .i64 s.f0, .int .i64 s.f1, .string s.f2, .int .i64 s.f3, .int .i64 s.f4]) := ⟨(hb.block _ BK3.out.lt).trans BK3.out⟩; (try clear hb); (try clear hv); (try clear hk)) | (go_at_call 24; refine (specJoin_calls kG s _ _ L J _ (RRC X4.out) hcX KG.out).mono ?_; rintro e w5 ⟨AW, cW, rfl, hcW, hv, hb⟩; have W5 := Aside0.mk hv; have UW := Aside0.mk (NR_in hv); have HB5 := Aside0.mk (HB4.out.trans (hb.mono HB4.out.size)); have HL5 := Aside0.mk hb; have BK5 : Aside0 (Blk w5 w.heap.size 36 #[.int .i64 s.f0, .int .i64 s.f1, .string s.f2, .int .i64 s.f3, .int .i64 s.f4]) := ⟨(hb.block _ BK4.out.lt).trans BK4.out⟩; (try clear hb); (try clear hv); (try clear hk)))
      clear z0 z1 z2 z3 z4
      go_upto_region 10 with (first | (go_at_call 26; refine (toSS_calls _ _ ls L HLQ.out _ (Kd.C_below HR0.out HB5.out) hc1 HLB.out HLL.out).mono ?_; rintro e w6 ⟨AY, cY, rfl, hcY, hv, hb⟩; have Y6 := Aside0.mk hv; have HB6 := Aside0.mk (HB5.out.trans (hb.mono HB5.out.size)); have HL6 := Aside0.mk hb; have BK6 : Aside0 (Blk w6 w.heap.size 36 #[.int .i64 s.f0, .int .i64 s.f1, .string s.f2, .int .i64 s.f3, .int .i64 s.f4]) := ⟨(hb.block _ BK5.out.lt).trans BK5.out⟩; have W6 := Aside0.mk (NR_below W5.out hb); have z0 := BK6.out.cell 0; have z1 := BK6.out.cell 1; have z2 := BK6.out.cell 2; have z3 := BK6.out.cell 3; have z4 := BK6.out.cell 4; (simp only [List.getElem?_toArray, List.getElem?_cons_zero, List.getElem?_cons_succ] at z0 z1 z2 z3 z4); (try clear hb); (try clear hv); (try clear hk)))
      go_upto_region 11 with (first | (go_at_call 25; refine (laws_toNode.calls s.f0 s.f1 s.f2 s.f3 s.f4 _ _ _ _ _ _ (toNode_is s)).mono ?_; rintro e w7 ⟨rfl, hb⟩; have HB7 := Aside0.mk (HB6.out.trans (hb.mono HB6.out.size)); have HL7 := Aside0.mk hb; have BK7 : Aside0 (Blk w7 w.heap.size 36 #[.int .i64 s.f0, .int .i64 s.f1, .string s.f2, .int .i64 s.f3, .int .i64 s.f4]) := ⟨(hb.block _ BK6.out.lt).trans BK6.out⟩; have W7 := Aside0.mk (NR_below W6.out hb); have Y7 := Aside0.mk (Y6.out.below hb); (try clear hb); (try clear hv); (try clear hk)) | (go_at_call 27; refine (implJoin_calls kH s _ _ L J _ (RRC Y7.out) hcY KH.out).mono ?_; rintro e w8 ⟨AZ, cZ, rfl, hcZ, hv, hb⟩; have Z8 := Aside0.mk hv; have UZ := Aside0.mk (NR_in hv); have HB8 := Aside0.mk (HB7.out.trans (hb.mono HB7.out.size)); have HL8 := Aside0.mk hb; have BK8 : Aside0 (Blk w8 w.heap.size 36 #[.int .i64 s.f0, .int .i64 s.f1, .string s.f2, .int .i64 s.f3, .int .i64 s.f4]) := ⟨(hb.block _ BK7.out.lt).trans BK7.out⟩; have W8 := Aside0.mk (NR_below W7.out hb); have Y8 := Aside0.mk (Y7.out.below hb); (try clear hb); (try clear hv); (try clear hk)))
      clear z0 z1 z2 z3 z4
      go_upto_region 13 with (first | (go_at_call 15; refine (laws_eqNodeS.calls kE _ _ J _ _ J true _ (NRC Z8.out) hcZ (NRC W8.out) hcW KE.out).mono ?_; rintro e w9 ⟨rfl, hb⟩; have HB9 := Aside0.mk (HB8.out.trans (hb.mono HB8.out.size)); have HL9 := Aside0.mk hb; have BK9 : Aside0 (Blk w9 w.heap.size 36 #[.int .i64 s.f0, .int .i64 s.f1, .string s.f2, .int .i64 s.f3, .int .i64 s.f4]) := ⟨(hb.block _ BK8.out.lt).trans BK8.out⟩; have W9 := Aside0.mk (NR_below W8.out hb); have Y9 := Aside0.mk (Y8.out.below hb); have Z9 := Aside0.mk (NR_below Z8.out hb); (try clear hb); (try clear hv); (try clear hk)))
      go_upto_region 15 with (first | (go_at_call 26; refine (toSS_calls _ _ ls L HLQ.out _ (Kd.C_below HR0.out HB9.out) hc1 HLB.out HLL.out).mono ?_; rintro e w10 ⟨AV, cV, rfl, hcV, hv, hb⟩; have V10 := Aside0.mk hv; have HB10 := Aside0.mk (HB9.out.trans (hb.mono HB9.out.size)); have HL10 := Aside0.mk hb; have BK10 : Aside0 (Blk w10 w.heap.size 36 #[.int .i64 s.f0, .int .i64 s.f1, .string s.f2, .int .i64 s.f3, .int .i64 s.f4]) := ⟨(hb.block _ BK9.out.lt).trans BK9.out⟩; have W10 := Aside0.mk (NR_below W9.out hb); have Y10 := Aside0.mk (Y9.out.below hb); have Z10 := Aside0.mk (NR_below Z9.out hb); (try clear hb); (try clear hv); (try clear hk)) | (go_at_call 28; refine (laws_eqNodeSS.calls kF _ _ L _ _ L true _ (RRC Y10.out) hcY (RRC V10.out) hcV KF.out).mono ?_; rintro e w11 ⟨rfl, hb⟩; have HB11 := Aside0.mk (HB10.out.trans (hb.mono HB10.out.size)); have HL11 := Aside0.mk hb; have BK11 : Aside0 (Blk w11 w.heap.size 36 #[.int .i64 s.f0, .int .i64 s.f1, .string s.f2, .int .i64 s.f3, .int .i64 s.f4]) := ⟨(hb.block _ BK10.out.lt).trans BK10.out⟩; have W11 := Aside0.mk (NR_below W10.out hb); have Y11 := Aside0.mk (Y10.out.below hb); have Z11 := Aside0.mk (NR_below Z10.out hb); (try clear hb); (try clear hv); (try clear hk)))
      have H611 : Aside0 (Below w6.heap.size w6 w11) := ⟨HL7.out.trans ((HL8.out.mono HL7.out.size).trans ((HL9.out.mono (Nat.le_trans HL7.out.size HL8.out.size)).trans ((HL10.out.mono (Nat.le_trans HL7.out.size (Nat.le_trans HL8.out.size HL9.out.size))).trans (HL11.out.mono (Nat.le_trans HL7.out.size (Nat.le_trans HL8.out.size (Nat.le_trans HL9.out.size HL10.out.size)))))))⟩
      have SZ : Aside0 (w.heap.size < w5.heap.size ∧ w5.heap.size ≤ w6.heap.size ∧ w6.heap.size ≤ w7.heap.size) := ⟨BK5.out.lt, HL6.out.size, HL7.out.size⟩
      go_upto_region 17 with (first | (go_at_call 29; refine (markSS_calls _ L 1 m1 w5 w6 _ HM1.out (by omega) HTL.out HLE.out HL6.out H611.out Y6.out).mono ?_; rintro e w12 ⟨rfl, hv, hk, hb⟩; have HB12 := Aside0.mk (HB5.out.trans (hb.mono HB5.out.size)); have BK12 : Aside0 (Blk w12 w.heap.size 36 #[.int .i64 s.f0, .int .i64 s.f1, .string s.f2, .int .i64 s.f3, .int .i64 s.f4]) := ⟨(hk.2 _ BK11.out.lt (fun h => by have := SZ.out; omega)).trans BK11.out⟩; have W12 := Aside0.mk (NR_kept W11.out hk (fun k hkk h => by have := UW.out k hkk; omega)); have Z12 := Aside0.mk (NR_kept Z11.out hk (fun k hkk h => by have := UZ.out k hkk; have := SZ.out; omega)); (try clear hb); (try clear hv); (try clear hk)))
      go_upto_region 19 with (first | (go_at_call 15; refine (laws_eqNodeS.calls kE _ _ J _ _ J true _ (NRC Z12.out) hcZ (NRC W12.out) hcW KE.out).mono ?_; rintro e w13 ⟨rfl, hb⟩; have HB13 := Aside0.mk (HB12.out.trans (hb.mono HB12.out.size)); have HL13 := Aside0.mk hb; have BK13 : Aside0 (Blk w13 w.heap.size 36 #[.int .i64 s.f0, .int .i64 s.f1, .string s.f2, .int .i64 s.f3, .int .i64 s.f4]) := ⟨(hb.block _ BK12.out.lt).trans BK12.out⟩; have W13 := Aside0.mk (NR_below W12.out hb); have Z13 := Aside0.mk (NR_below Z12.out hb); (try clear hb); (try clear hv); (try clear hk)))
      go_upto_region 22 with (first | (go_at_call 30; refine (mark_calls kM _ J m2 M w _ HB13.out (Kd.R_lower Z13.out (by have := SZ.out; omega)) KM.out).mono ?_; rintro e w14 ⟨rfl, hv, hb, hk⟩; have HB14 := Aside0.mk hb; have BK14 : Aside0 (Blk w14 w.heap.size 36 #[.int .i64 s.f0, .int .i64 s.f1, .string s.f2, .int .i64 s.f3, .int .i64 s.f4]) := ⟨(hk.2 _ BK13.out.lt (fun h => by have := UZ.out _ h.symm; have := SZ.out; omega)).trans BK13.out⟩; have Z14 := Aside0.mk hv; have W14 := Aside0.mk (NR_kept W13.out hk (fun k hkk h => by have := UW.out k hkk; have := UZ.out k h.symm; have := SZ.out; omega)); (try clear hb); (try clear hv); (try clear hk)))
      go_upto_region 27 with (first | (go_at_call 31; refine (held_calls kD _ _ _ M 1 m2 _ HML.out (NRC Z14.out) hcZ KD.out).mono ?_; rintro e w15 ⟨rfl, hb⟩; have HB15 := Aside0.mk (HB14.out.trans (hb.mono HB14.out.size)); have HL15 := Aside0.mk hb; have BK15 : Aside0 (Blk w15 w.heap.size 36 #[.int .i64 s.f0, .int .i64 s.f1, .string s.f2, .int .i64 s.f3, .int .i64 s.f4]) := ⟨(hb.block _ BK14.out.lt).trans BK14.out⟩; have W15 := Aside0.mk (NR_below W14.out hb); have Z15 := Aside0.mk (NR_below Z14.out hb); have z0 := BK15.out.cell 0; have z1 := BK15.out.cell 1; have z2 := BK15.out.cell 2; have z3 := BK15.out.cell 3; have z4 := BK15.out.cell 4; (simp only [List.getElem?_toArray, List.getElem?_cons_zero, List.getElem?_cons_succ] at z0 z1 z2 z3 z4); (try clear hb); (try clear hv); (try clear hk)))
      go_upto_region 28 with (first | (go_at_call 25; refine (laws_toNode.calls s.f0 s.f1 s.f2 s.f3 s.f4 _ _ _ _ _ _ (toNode_is s)).mono ?_; rintro e w16 ⟨rfl, hb⟩; have HB16 := Aside0.mk (HB15.out.trans (hb.mono HB15.out.size)); have HL16 := Aside0.mk hb; have W16 := Aside0.mk (NR_below W15.out hb); have Z16 := Aside0.mk (NR_below Z15.out hb); (try clear hb); (try clear hv); (try clear hk)) | (go_at_call 26; refine (toSS_calls _ _ ls L HLQ.out _ (Kd.C_below HR0.out HB16.out) hc1 HLB.out HLL.out).mono ?_; rintro e w17 ⟨AT, cT, rfl, hcT, hv, hb⟩; have T17 := Aside0.mk hv; have HB17 := Aside0.mk (HB16.out.trans (hb.mono HB16.out.size)); have HL17 := Aside0.mk hb; have W17 := Aside0.mk (NR_below W16.out hb); have Z17 := Aside0.mk (NR_below Z16.out hb); (try clear hb); (try clear hv); (try clear hk)) | (go_at_call 27; refine (implJoin_calls kH s _ _ L J _ (RRC T17.out) hcT KH.out).mono ?_; rintro e w18 ⟨AQ, cQ, rfl, hcQ, hv, hb⟩; have Q18 := Aside0.mk hv; have UQ := Aside0.mk (NR_in hv); have HB18 := Aside0.mk (HB17.out.trans (hb.mono HB17.out.size)); have HL18 := Aside0.mk hb; have W18 := Aside0.mk (NR_below W17.out hb); have Z18 := Aside0.mk (NR_below Z17.out hb); (try clear hb); (try clear hv); (try clear hk)))
      clear z0 z1 z2 z3 z4
      go_upto_region 31 with (first | (go_at_call 15; refine (laws_eqNodeS.calls kE _ _ J _ _ J true _ (NRC Q18.out) hcQ (NRC W18.out) hcW KE.out).mono ?_; rintro e w19 ⟨rfl, hb⟩; have HB19 := Aside0.mk (HB18.out.trans (hb.mono HB18.out.size)); have HL19 := Aside0.mk hb; have Z19 := Aside0.mk (NR_below Z18.out hb); (try clear hb); (try clear hv); (try clear hk)))
      go_wp2_with (first | (go_at_call 31; refine (held_calls kD _ _ _ M 1 m2 _ HML.out (NRC Z19.out) hcZ KD.out).mono ?_; rintro e w20 ⟨rfl, hb⟩; have HB20 := Aside0.mk (HB19.out.trans (hb.mono HB19.out.size)); have HL20 := Aside0.mk hb; (try clear hb); (try clear hv); (try clear hk)))
      go_ret
      exact ⟨rfl, HB20.out⟩
end Go.Proofs.Ytoioineibfldcaa.K
end

section
/-
  How an argument of the type []laws.Node (and [][]laws.Node, laws.Node) is opened to a list of Lean structures. No condition.
-/
set_option linter.unusedVariables false
namespace Go.Proofs.Ytoioineibfldcaa.K
open Go.RowKit Go.Proofs.YtoioineibfldcaaW.PrintWords Go.Proofs.YtoioineibfldcaaW.PrintLast Go.Proofs.YtoioineibfldcaaW.PrintMore
open Go.ChangeShapes Go.WideShapes Go.ChangeAt Go.Deep

theorem own : ownKnob Try.prog.godebug = none := by kernel_rfl
theorem laidOut : laidOutB Try.prog = true := by kernel_rfl

section
variable {H : Type} {enc : TypeId × Value → H} {w : World} {base : Nat} {spare : Nat → Bool} {held : Bool}
theorem open_node {n : Nat} {cs : List Value} {x : DataW H × List MemPlace} (h : DataW.trod enc Try.prog w base spare held n 36 cs = some x) :
    ∃ s : S36, cs = [.int .i64 s.f0, .int .i64 s.f1, .string s.f2, .int .i64 s.f3, .int .i64 s.f4] ∧ s.f2.size ≤ maxLen := by
  obtain ⟨ys, n', _, hy, hlen, hyl, hf⟩ := DataW.trod_struct Try.underlying36 h
  have hC : cs.length = 5 := by rw [hlen]; kernel_rfl
  match cs, hC with
  | [c0, c1, c2, c3, c4], _ =>
    have g0 : DataW.trod enc Try.prog w base spare held n' 3 (([c0, c1, c2, c3, c4].drop 0).take (Try.prog.cellsOf 3)) = ys[0]? := hf 0 _ rfl
    have g1 : DataW.trod enc Try.prog w base spare held n' 2 (([c0, c1, c2, c3, c4].drop 1).take (Try.prog.cellsOf 2)) = ys[1]? := hf 1 _ rfl
    have g2 : DataW.trod enc Try.prog w base spare held n' 9 (([c0, c1, c2, c3, c4].drop 2).take (Try.prog.cellsOf 9)) = ys[2]? := hf 2 _ rfl
    have g3 : DataW.trod enc Try.prog w base spare held n' 3 (([c0, c1, c2, c3, c4].drop 3).take (Try.prog.cellsOf 3)) = ys[3]? := hf 3 _ rfl
    have g4 : DataW.trod enc Try.prog w base spare held n' 3 (([c0, c1, c2, c3, c4].drop 4).take (Try.prog.cellsOf 3)) = ys[4]? := hf 4 _ rfl
    rw [show Try.prog.cellsOf 3 = 1 from by kernel_rfl] at g0 g3 g4
    rw [show Try.prog.cellsOf 2 = 1 from by kernel_rfl] at g1
    rw [show Try.prog.cellsOf 9 = 1 from by kernel_rfl] at g2
    simp only [List.drop_zero, List.drop_succ_cons, List.take_succ_cons, List.take_zero] at g0 g1 g2 g3 g4
    have e : ∀ j, j < 5 → ∃ y, ys[j]? = some y := fun j hj => ⟨_, List.getElem?_eq_getElem (by rw [hyl]; exact hj)⟩
    obtain ⟨y0, e0⟩ := e 0 (by omega)
    obtain ⟨y1, e1⟩ := e 1 (by omega)
    obtain ⟨y2, e2⟩ := e 2 (by omega)
    obtain ⟨y3, e3⟩ := e 3 (by omega)
    obtain ⟨y4, e4⟩ := e 4 (by omega)
    rw [e0] at g0
    rw [e1] at g1
    rw [e2] at g2
    rw [e3] at g3
    rw [e4] at g4
    obtain ⟨a0, h0, _, _⟩ := DataW.trod_int Try.underlying3 g0
    obtain ⟨a1, h1, _, _⟩ := DataW.trod_int Try.underlying2 g1
    obtain ⟨a2, h2, _, hs⟩ := DataW.trod_string Try.underlying9 g2
    obtain ⟨a3, h3, _, _⟩ := DataW.trod_int Try.underlying3 g3
    obtain ⟨a4, h4, _, _⟩ := DataW.trod_int Try.underlying3 g4
    simp only [List.cons.injEq, and_true] at h0 h1 h2 h3 h4
    subst h0 h1 h2 h3 h4
    exact ⟨⟨a0, a1, a2, a3, a4⟩, rfl, hs⟩

theorem open_nodes {n : Nat} {A : Option Addr} {len cap : Nat} {x : DataW H × List MemPlace} (h : DataW.trod enc Try.prog w base spare held n 23 [.slice A len cap] = some x) :
    ∃ xs : List S36, Kd.C k36 w A len xs ∧ len ≤ cap ∧ ∀ s ∈ xs, s.f2.size ≤ maxLen := by
  rcases open_slice Try.underlying23 h with ⟨hcs, _⟩ | ⟨a, len', cap', m, n', D, Pl, hcs, hb, hl, hm, hmm, hx, hi⟩
  · simp only [List.cons.injEq, and_true, Value.slice.injEq] at hcs
    obtain ⟨rfl, rfl, rfl⟩ := hcs
    exact ⟨[], ⟨rfl, by omega, fun hp => absurd hp (by omega)⟩, Nat.le_refl _, by simp⟩
  · simp only [List.cons.injEq, and_true, Value.slice.injEq] at hcs
    obtain ⟨rfl, rfl, rfl⟩ := hcs
    rw [show Try.prog.cellsOf 36 = 5 from by kernel_rfl] at hi
    have hlm : len ≤ m := by rw [hmm]; split <;> omega
    have key : ∀ i, ∃ s : S36, i < len → (s.f2.size ≤ maxLen ∧ ∀ j u, [Value.int .i64 s.f0, .int .i64 s.f1, .string s.f2, .int .i64 s.f3, .int .i64 s.f4][j]? = some u → w.cell? (a.add (i * 5 + j)) = some u) := by
      intro i
      by_cases hil : i < len
      · obtain ⟨cs', hc, ht⟩ := hi i (by omega)
        obtain ⟨s, rfl, hs⟩ := open_node ht
        refine ⟨s, fun _ => ⟨hs, fun j u hu => ?_⟩⟩
        obtain ⟨_, hcl, hat⟩ := World.cells?_some hc
        have hj : j < 5 := by have := (List.getElem?_eq_some_iff.1 hu).1; simpa using this
        rw [← Go.Deep.add_add, hat j hj, hu]
      · exact ⟨z36, fun hh => absurd hh hil⟩
    refine ⟨(List.range len).map fun i => Classical.choose (key i), ⟨by simp, by unfold maxLen at hm; omega, fun hp => ⟨a, rfl, fun j p hj => ?_⟩⟩, hl, fun s hs => ?_⟩
    · have hjl : j < len := by have := (List.getElem?_eq_some_iff.1 hj).1; simpa using this
      have hp' : Classical.choose (key j) = p := by
        rw [List.getElem?_map, List.getElem?_range hjl] at hj
        simpa using hj
      have hk := Classical.choose_spec (key j) hjl
      rw [hp'] at hk
      exact ⟨_, rfl, k36_mk w p, hk.2⟩
    · obtain ⟨i, hi', rfl⟩ := List.mem_map.1 hs
      exact (Classical.choose_spec (key i) (List.mem_range.1 hi')).1
end
end Go.Proofs.Ytoioineibfldcaa.K
end

section
/-
  How an argument of the type [][]laws.Node, and one of the type laws.Node by value, is opened. No condition.
-/
set_option linter.unusedVariables false
namespace Go.Proofs.Ytoioineibfldcaa.K
open Go.RowKit Go.Proofs.YtoioineibfldcaaW.PrintWords Go.Proofs.YtoioineibfldcaaW.PrintLast Go.Proofs.YtoioineibfldcaaW.PrintMore
open Go.ChangeShapes Go.WideShapes Go.ChangeAt Go.Deep Go.Joins
section
variable {H : Type} {enc : TypeId × Value → H} {w : World} {base : Nat} {spare : Nat → Bool} {held : Bool}
theorem open_nodeV {r : Reach} {b0 : Nat} {v : Value} {d : DataW H} {p : List MemPlace} (hv : Value.okWide Try.prog w r b0 36 v) (h : DataW.Trod enc Try.prog w base spare held 36 v d p) :
    ∃ s : S36, v = .agg #[.int .i64 s.f0, .int .i64 s.f1, .string s.f2, .int .i64 s.f3, .int .i64 s.f4] ∧ s.f2.size ≤ maxLen := by
  obtain ⟨cs, rfl, hsz⟩ := okWide_struct Try.underlying36 hv
  obtain ⟨fuel, hf⟩ := h
  obtain ⟨s, hcs, hs⟩ := open_node hf
  refine ⟨s, ?_, hs⟩
  have : cs.toList = [.int .i64 s.f0, .int .i64 s.f1, .string s.f2, .int .i64 s.f3, .int .i64 s.f4] := by simpa [Value.cells] using hcs
  obtain ⟨l⟩ := cs
  simp only at this
  rw [this]
theorem open_nodes' {n : Nat} {cs : List Value} {x : DataW H × List MemPlace} (h : DataW.trod enc Try.prog w base spare held n 23 cs = some x) :
    ∃ A len cap, cs = [.slice A len cap] ∧ ∃ xs : List S36, Kd.C k36 w A len xs ∧ len ≤ cap ∧ ∀ s ∈ xs, s.f2.size ≤ maxLen := by
  rcases open_slice Try.underlying23 h with ⟨hcs, _⟩ | ⟨a, len', cap', m, n', D, Pl, hcs, hb, hl, hm, hmm, hx, hi⟩
  · subst hcs; exact ⟨_, _, _, rfl, open_nodes h⟩
  · subst hcs; exact ⟨_, _, _, rfl, open_nodes h⟩
theorem open_nodess {n : Nat} {A : Option Addr} {len cap : Nat} {x : DataW H × List MemPlace} (h : DataW.trod enc Try.prog w base spare held n 37 [.slice A len cap] = some x) :
    ∃ xs : List (List S36), Kd.C (Kd.slice 36 k36) w A len xs ∧ len ≤ cap ∧ ∀ l ∈ xs, l.length ≤ 9223372036854775807 ∧ ∀ s ∈ l, s.f2.size ≤ maxLen := by
  rcases open_slice Try.underlying37 h with ⟨hcs, _⟩ | ⟨a, len', cap', m, n', D, Pl, hcs, hb, hl, hm, hmm, hx, hi⟩
  · simp only [List.cons.injEq, and_true, Value.slice.injEq] at hcs
    obtain ⟨rfl, rfl, rfl⟩ := hcs
    exact ⟨[], ⟨rfl, by omega, fun hp => absurd hp (by omega)⟩, Nat.le_refl _, by simp⟩
  · simp only [List.cons.injEq, and_true, Value.slice.injEq] at hcs
    obtain ⟨rfl, rfl, rfl⟩ := hcs
    rw [show Try.prog.cellsOf 23 = 1 from by kernel_rfl] at hi
    have hlm : len ≤ m := by rw [hmm]; split <;> omega
    have key : ∀ i, ∃ l : List S36, i < len → ((∀ s ∈ l, s.f2.size ≤ maxLen) ∧ ∃ A1 c1, w.cell? (a.add i) = some (.slice A1 l.length c1) ∧ l.length ≤ c1 ∧ Kd.C k36 w A1 l.length l) := by
      intro i
      by_cases hil : i < len
      · obtain ⟨cs', hc, ht⟩ := hi i (by omega)
        obtain ⟨A1, len1, c1, rfl, l, hC, hle, hs⟩ := open_nodes' ht
        obtain rfl := hC.1
        refine ⟨l, fun _ => ⟨hs, A1, c1, ?_, hle, hC⟩⟩
        obtain ⟨_, hcl, hat⟩ := World.cells?_some hc
        have := hat 0 (by omega)
        simpa [Addr.add] using this
      · exact ⟨[], fun hh => absurd hh hil⟩
    refine ⟨(List.range len).map fun i => Classical.choose (key i), ⟨by simp, by unfold maxLen at hm; omega, fun hp => ⟨a, rfl, fun j p hj => ?_⟩⟩, hl, fun l hl' => ?_⟩
    · have hjl : j < len := by have := (List.getElem?_eq_some_iff.1 hj).1; simpa using this
      have hp' : Classical.choose (key j) = p := by
        rw [List.getElem?_map, List.getElem?_range hjl] at hj
        simpa using hj
      have hk := Classical.choose_spec (key j) hjl
      rw [hp'] at hk
      obtain ⟨hs, A1, c1, hc, hle, hC⟩ := hk
      refine ⟨[.slice A1 p.length c1], rfl, ⟨A1, c1, rfl, hle, hC⟩, fun j' u hu => ?_⟩
      have : j' = 0 := by have := (List.getElem?_eq_some_iff.1 hu).1; simpa using this
      subst this
      simp at hu
      subst hu
      rw [show (Kd.slice 36 k36).sz = 1 from rfl, Nat.mul_one, Nat.add_zero]
      exact hc
    · obtain ⟨i, hi', rfl⟩ := List.mem_map.1 hl'
      have hk := Classical.choose_spec (key i) (List.mem_range.1 hi')
      obtain ⟨hs, A1, c1, hc, hle, hC⟩ := hk
      exact ⟨hC.2.1, hs⟩
end
end Go.Proofs.Ytoioineibfldcaa.K
end

section
/-
  FnExactJoin returns true and leaves its arguments as they were, for all arguments that read as data: the program's Join answers as the reference's. No condition.
-/
set_option linter.unusedVariables false

namespace Go.Proofs.Ytoioineibfldcaa.fnExactJoin
open Go.ChangeShapes Go.WideShapes Go.ChangeAt Go.RowKit
open Go.Proofs.Ytoioineibfldcaa.K (own laidOut open_nodes open_nodess open_nodeV)
set_option maxRecDepth 100000 in
theorem lifted (os : Os) (started : os.Started) (H : Type) (enc : TypeId × Value → H) :
    ReturnsInHanded {} Try.checked os 8 .any (Rows.fnExactJoinSpec.pre6 enc Try.prog Try.f8 Rows.fnExactJoinRow.domain false) (Rows.fnExactJoinSpec.post enc Try.prog Try.f8 false true false false) := by
  refine returnsInHanded_of_change (C := Try.checked) own started (by kernel_rfl) Try.func8
    (ChangeSpec.witness6 (enc := enc) (C := Try.checked) false ⟨#[], #[.agg #[.int .i64 0, .int .i64 0, .string ⟨#[]⟩, .int .i64 0, .int .i64 0], .slice none 0 0], []⟩ 8 (by kernel_rfl) (by kernel_rfl) (by kernel_rfl) (by kernel_rfl)) ?_
  intro W base args ds gs before hval0 hW hcnd _
  have hval : ∀ (j : Nat) t v, Try.f8.params[j]? = some t → args[j]? = some v → Value.okWide Try.prog W .any base t v := hval0
  have hW' := hW
  obtain ⟨p, q, hA0, hV, rfl, hfz, hnd⟩ := hW
  have hA : DataW.TrodAll enc Try.prog W 0 (fun _ => true) true Try.f8.params.toList args.toList ds p := hA0
  rw [Try.params8] at hA hval
  obtain ⟨v0, vs0, d0, ds0, p0, q0, hargs, rfl, rfl, h0, r0⟩ := trodAll_cons hA
  obtain ⟨v1, vs1, d1, ds1, p1, q1, rfl, rfl, rfl, h1, r1⟩ := trodAll_cons r0
  obtain ⟨rfl, rfl, rfl⟩ := trodAll_nil r1
  obtain rfl : args = #[v0, v1] := by cases args; simp_all
  obtain ⟨rfl, rfl⟩ := trodVars_none hV
  have k0 := h0
  have lt0 : ∀ x ∈ p0, x.block < W.heap.size := by obtain ⟨m, hm⟩ := k0; exact DataW.trod_lt m _ _ _ hm
  obtain ⟨s0, rfl, hs0⟩ := open_nodeV (hval 0 36 v0 rfl rfl) h0
  obtain ⟨a1, len1, cap1, rfl⟩ := okWide_slice Try.underlying37 (hval 1 37 v1 rfl rfl)
  have k1 := h1
  have lt1 : ∀ x ∈ p1, x.block < W.heap.size := by obtain ⟨m, hm⟩ := k1; exact DataW.trod_lt m _ _ _ hm
  obtain ⟨fuel1, hf1⟩ := h1
  obtain ⟨xs1, hr1, hc1, hs1⟩ := open_nodess hf1
  obtain rfl := hr1.1
  clear hA0 hval0
  refine (K.laws_FnExactJoin.calls s0 a1 cap1 xs1 W hr1 hc1 hs0 hs1).mono fun e W' ⟨he, bel⟩ => ?_
  subst he
  exact ⟨_, rfl, _, _, _, [], _, [], hW', trodAll_mk1 (shut_bool Try.underlying4 _), (trodAll_cons_mk (Below.trod laidOut (by kernel_rfl) (of_decide_eq_true (by kernel_rfl)) k0 bel lt0) (trodAll_cons_mk (Below.trod laidOut (by kernel_rfl) (of_decide_eq_true (by kernel_rfl)) k1 bel lt1) trodAll_mk0)), rfl, bel.frame _, fun h => by cases h⟩
theorem over : Rows.fnExactJoinRow.holds Try.pinned (OpenSpec.ofChange Rows.fnExactJoinSpec) :=
  OpenClaim.holds_of_wide 8 Try.f8 rfl rfl rfl rfl rfl rfl rfl ⟨rfl, rfl, rfl, rfl, rfl⟩ rfl rfl rfl rfl rfl (by kernel_rfl) Try.func8 (by kernel_rfl)
    (of_decide_eq_true (by kernel_rfl)) (by unfold Func.isWrapper; first | (rw [if_pos (by decide +kernel)]; kernel_rfl) | (rw [if_neg (by decide +kernel)]; exact ⟨rfl, rfl⟩))
    (fun os started H enc _ => lifted os started H enc)
end Go.Proofs.Ytoioineibfldcaa.fnExactJoin
namespace Go.Proofs.Ytoioineibfldcaa
theorem fnExactJoin_holds : Rows.FnExactJoinSaid := fnExactJoin.over
end Go.Proofs.Ytoioineibfldcaa
end
