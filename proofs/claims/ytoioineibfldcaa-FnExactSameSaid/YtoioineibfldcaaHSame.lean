/-
  impl.Same (function 14) tells whether two lists of nodes are alike but for At ('sameB'). No condition.
-/
import Derived.Test.YtoioineibfldcaaHBase
import Derived.Test.YtoioineibfldcaaKx1
import Derived.RegionTactic
import Derived.BigRegion
set_option linter.unusedVariables false
namespace Go.Proofs.Ytoioineibfldcaa.K
open Go.RowKit Go.Proofs.YtoioineibfldcaaW.PrintWords Go.Proofs.YtoioineibfldcaaW.PrintLast Go.Proofs.YtoioineibfldcaaW.PrintMore
attribute [local go_sem high] eqA41
set_option maxRecDepth 100000
set_option maxHeartbeats 4000000

theorem cell_al {w : World} {a : Addr} {v : Value} (h : w.cell? a = some v) (o : Obj) : (w.alloc o).cell? a = some v :=
  (World.cell?_of_block (w := w) (Below.heap_alloc w o a.block (World.block_lt_of_cell? w a h))).trans h

def eq4 (x y : S41) : Bool := x.f0 == y.f0 && (x.f1 == y.f1 && (x.f2.toList == y.f2.toList && (x.f3 == y.f3)))
def sameB (l0 l1 : List S41) : Bool := decide (l0.length = l1.length) && (List.range l0.length).all fun i => eq4 (rd_T41 l0 i) (rd_T41 l1 i)
def impl_Same.f (l0 l1 : List S41) : Option Bool := some (sameB l0 l1)

theorem eq4_no {x y : S41} (h : (!x.f0 == y.f0) = true ∨ (!x.f1 == y.f1) = true ∨ (!x.f2.toList == y.f2.toList) = true ∨ (!x.f3 == y.f3) = true) : eq4 x y = false := by
  unfold eq4
  rcases h with h | h | h | h <;> simp only [Bool.not_eq_true'] at h <;> simp only [h, Bool.false_and, Bool.and_false]
theorem eq4_yes {x y : S41} (h : (!x.f0 == y.f0) = false ∧ (!x.f1 == y.f1) = false ∧ (!x.f2.toList == y.f2.toList) = false ∧ (!x.f3 == y.f3) = false) : eq4 x y = true := by
  unfold eq4
  obtain ⟨h0, h1, h2, h3⟩ := h
  simp only [Bool.not_eq_false'] at h0 h1 h2 h3
  simp only [h0, h1, h2, h3, Bool.true_and]
theorem sameB_false {l0 l1 : List S41} (i : Nat) (hi : i < l0.length) (h : eq4 (rd_T41 l0 i) (rd_T41 l1 i) = false) : sameB l0 l1 = false := by
  unfold sameB
  rw [Bool.and_eq_false_iff]
  right
  rw [List.all_eq_false]
  exact ⟨i, List.mem_range.2 hi, by rw [h]; simp⟩
theorem sameB_true {l0 l1 : List S41} (hl : l0.length = l1.length) (h : ∀ j, j < l0.length → eq4 (rd_T41 l0 j) (rd_T41 l1 j) = true) : sameB l0 l1 = true := by
  unfold sameB
  rw [Bool.and_eq_true, decide_eq_true_eq, List.all_eq_true]
  exact ⟨hl, fun j hj => h j (List.mem_range.1 hj)⟩

theorem impl_Same.calls (A0 : Option Addr) (c0 : Nat) (l0 : List S41) (A1 : Option Addr) (c1 : Nat) (l1 : List S41) (r : Bool) (w : World) (hr0 : Kd.C k41 w A0 l0.length l0) (hc0 : l0.length ≤ c0) (hr1 : Kd.C k41 w A1 l1.length l1) (hc1 : l1.length ≤ c1) (h : impl_Same.f l0 l1 = some r) :
    Calls Try.prog 14 #[.slice A0 l0.length c0, .slice A1 l1.length c1] w fun e w' => e = .returned (.bool r) ∧ Below w.heap.size w w' := by
  obtain rfl := Option.some.inj h
  clear h
  have HR0 := Aside0.mk hr0
  have HR1 := Aside0.mk hr1
  have HM := Aside0.mk (Kd.C_max hr0)
  clear hr0 hr1
  by_cases hl : l0.length = l1.length
  · have hl0 : ((l0.length : Int) != (l1.length : Int)) = false := by simp [hl]
    have HL := Aside0.mk hl
    clear hl
    go_enter Try.func14, Try.ntmps14
    go_wp2
    go_loopw [15] (fun v15 wr => ∃ i : Nat, v15 = .int .i64 i ∧ i ≤ l0.length ∧ Aside0 (∀ j, j < i → eq4 (rd_T41 l0 j) (rd_T41 l1 j) = true) ∧ Aside0 (Below w.heap.size w wr)) (fun v _ => l0.length - (intOf v).toNat)
    case atStart => exact ⟨0, rfl, Nat.zero_le _, ⟨fun j hj => by omega⟩, ⟨Below.refl _ _⟩⟩
    case round =>
      obtain ⟨i, rfl, hi, HP, HB⟩ := hrel
      have hmax := HM.out
      by_cases hlt : i < l0.length
      · obtain ⟨ad, hA, hx0, hx1, hx2, hx3, hx4⟩ := at_T41 HR0.out (i : Int) (by omega) (by omega)
        subst hA
        obtain ⟨ad', hA, hy0, hy1, hy2, hy3, hy4⟩ := at_T41 HR1.out (i : Int) (by omega) (by have := HL.out; omega)
        subst hA
        have hlt' : i < l1.length := by have := HL.out; omega
        replace hx0 := (HB.out.cell (World.block_lt_of_cell? w _ hx0)).trans hx0
        replace hx1 := (HB.out.cell (World.block_lt_of_cell? w _ hx1)).trans hx1
        replace hx2 := (HB.out.cell (World.block_lt_of_cell? w _ hx2)).trans hx2
        replace hx3 := (HB.out.cell (World.block_lt_of_cell? w _ hx3)).trans hx3
        replace hx4 := (HB.out.cell (World.block_lt_of_cell? w _ hx4)).trans hx4
        replace hy0 := (HB.out.cell (World.block_lt_of_cell? w _ hy0)).trans hy0
        replace hy1 := (HB.out.cell (World.block_lt_of_cell? w _ hy1)).trans hy1
        replace hy2 := (HB.out.cell (World.block_lt_of_cell? w _ hy2)).trans hy2
        replace hy3 := (HB.out.cell (World.block_lt_of_cell? w _ hy3)).trans hy3
        replace hy4 := (HB.out.cell (World.block_lt_of_cell? w _ hy4)).trans hy4
        rw [Int.toNat_natCast] at hx0 hx1 hx2 hx3 hx4 hy0 hy1 hy2 hy3 hy4
        obtain ⟨x, hx⟩ : ∃ x, rd_T41 l0 (i : Int) = x := ⟨_, rfl⟩
        obtain ⟨y, hy⟩ : ∃ y, rd_T41 l1 (i : Int) = y := ⟨_, rfl⟩
        rw [hx] at hx0 hx1 hx2 hx3 hx4
        rw [hy] at hy0 hy1 hy2 hy3 hy4
        have HX := Aside0.mk hx
        have HY := Aside0.mk hy
        clear hx hy
        have hx0a := fun o => cell_al hx0 o
        have hx0b := fun o o' => cell_al (cell_al hx0 o) o'
        have hx1a := fun o => cell_al hx1 o
        have hx1b := fun o o' => cell_al (cell_al hx1 o) o'
        have hx2a := fun o => cell_al hx2 o
        have hx2b := fun o o' => cell_al (cell_al hx2 o) o'
        have hx3a := fun o => cell_al hx3 o
        have hx3b := fun o o' => cell_al (cell_al hx3 o) o'
        have hx4a := fun o => cell_al hx4 o
        have hx4b := fun o o' => cell_al (cell_al hx4 o) o'
        have hy0a := fun o => cell_al hy0 o
        have hy0b := fun o o' => cell_al (cell_al hy0 o) o'
        have hy1a := fun o => cell_al hy1 o
        have hy1b := fun o o' => cell_al (cell_al hy1 o) o'
        have hy2a := fun o => cell_al hy2 o
        have hy2b := fun o o' => cell_al (cell_al hy2 o) o'
        have hy3a := fun o => cell_al hy3 o
        have hy3b := fun o o' => cell_al (cell_al hy3 o) o'
        have hy4a := fun o => cell_al hy4 o
        have hy4b := fun o o' => cell_al (cell_al hy4 o) o'
        go_wp2
        go_region
        all_goals clear hx0a hx1a hx2a hx3a hx4a hy0a hy1a hy2a hy3a hy4a hx0b hx1b hx2b hx3b hx4b hy0b hy1b hy2b hy3b hy4b
        all_goals go_wp2
        all_goals
          have hbb : ∀ o o', Below w.heap.size w ((wr.alloc o).alloc o').drew := fun o o' => ((HB.out.alloc HB.out.size o).alloc (by have := HB.out.size; simp; omega) o').drew
          first
            | (have hne : (!x.f0 == y.f0) = true ∨ (!x.f1 == y.f1) = true ∨ (!x.f2.toList == y.f2.toList) = true ∨ (!x.f3 == y.f3) = true := by assumption
               have hs : sameB l0 l1 = false := sameB_false i hlt (by rw [HX.out, HY.out]; exact eq4_no hne)
               clear hne
               go_ret
               exact ⟨by rw [hs]; rfl, hbb _ _⟩)
            | (have hne : (!x.f0 == y.f0) = false ∧ (!x.f1 == y.f1) = false ∧ (!x.f2.toList == y.f2.toList) = false ∧ (!x.f3 == y.f3) = false := by assumption
               go_roundw
               case rel =>
                 refine ⟨i + 1, by go_num, by omega, ⟨fun j hj => ?_⟩, ⟨hbb _ _⟩⟩
                 by_cases hji : j = i
                 · subst hji; rw [HX.out, HY.out]; exact eq4_yes hne
                 · exact HP.out j (by omega)
               case measure => simp [intOf]; omega)
      · obtain rfl : i = l0.length := by omega
        have HS : Aside0 (sameB l0 l1 = true) := ⟨sameB_true HL.out HP.out⟩
        go_wp2
        go_ret
        exact ⟨by rw [HS.out]; rfl, HB.out⟩
  · have hl0 : ((l0.length : Int) != (l1.length : Int)) = true := by simp; omega
    have HS : Aside0 (sameB l0 l1 = false) := ⟨by simp [sameB, hl]⟩
    clear hl
    go_enter Try.func14, Try.ntmps14
    go_wp2
    go_ret
    exact ⟨by rw [HS.out]; rfl, Below.refl _ _⟩
end Go.Proofs.Ytoioineibfldcaa.K
