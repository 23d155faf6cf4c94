/-
  How an argument of the type []laws.Node (and [][]laws.Node, laws.Node) is opened to a list of Lean structures. No condition.
-/
import Derived.Test.YtoioineibfldcaaKx0
import Derived.Test.YtoioineibfldcaaRows
import Derived.WalkKit
import Derived.ProofKit
import Derived.OpenShut
import Derived.ShutString
import Derived.ChangeOld
import Derived.Below
import Derived.SizedLaws
import Derived.Deep.Slices
import Derived.Deep.Fields
import Derived.ChangeSame
set_option linter.unusedVariables false
namespace Go.Proofs.Ytoioineibfldcaa.K
open Go.RowKit Go.Proofs.YtoioineibfldcaaW.PrintWords Go.Proofs.YtoioineibfldcaaW.PrintLast Go.Proofs.YtoioineibfldcaaW.PrintMore
open Go.ChangeShapes Go.WideShapes Go.ChangeAt Go.Deep

theorem own : ownKnob Try.prog.godebug = none := by kernel_rfl
theorem laidOut : laidOutB Try.prog = true := by kernel_rfl

section
variable {H : Type} {enc : TypeId × Value → H} {w : World} {base : Nat} {spare : Nat → Bool} {held : Bool}
theorem open_node {n : Nat} {cs : List Value} {x : DataW H × List MemPlace} (h : DataW.trod enc Try.prog w base spare held n 36 cs = some x) :
    ∃ s : S36, cs = [.int .i64 s.f0, .int .i64 s.f1, .string s.f2, .int .i64 s.f3, .int .i64 s.f4] ∧ s.f2.size ≤ maxLen := by
  obtain ⟨ys, n', _, hy, hlen, hyl, hf⟩ := DataW.trod_struct Try.underlying36 h
  have hC : cs.length = 5 := by rw [hlen]; kernel_rfl
  match cs, hC with
  | [c0, c1, c2, c3, c4], _ =>
    have g0 : DataW.trod enc Try.prog w base spare held n' 3 (([c0, c1, c2, c3, c4].drop 0).take (Try.prog.cellsOf 3)) = ys[0]? := hf 0 _ rfl
    have g1 : DataW.trod enc Try.prog w base spare held n' 2 (([c0, c1, c2, c3, c4].drop 1).take (Try.prog.cellsOf 2)) = ys[1]? := hf 1 _ rfl
    have g2 : DataW.trod enc Try.prog w base spare held n' 9 (([c0, c1, c2, c3, c4].drop 2).take (Try.prog.cellsOf 9)) = ys[2]? := hf 2 _ rfl
    have g3 : DataW.trod enc Try.prog w base spare held n' 3 (([c0, c1, c2, c3, c4].drop 3).take (Try.prog.cellsOf 3)) = ys[3]? := hf 3 _ rfl
    have g4 : DataW.trod enc Try.prog w base spare held n' 3 (([c0, c1, c2, c3, c4].drop 4).take (Try.prog.cellsOf 3)) = ys[4]? := hf 4 _ rfl
    rw [show Try.prog.cellsOf 3 = 1 from by kernel_rfl] at g0 g3 g4
    rw [show Try.prog.cellsOf 2 = 1 from by kernel_rfl] at g1
    rw [show Try.prog.cellsOf 9 = 1 from by kernel_rfl] at g2
    simp only [List.drop_zero, List.drop_succ_cons, List.take_succ_cons, List.take_zero] at g0 g1 g2 g3 g4
    have e : ∀ j, j < 5 → ∃ y, ys[j]? = some y := fun j hj => ⟨_, List.getElem?_eq_getElem (by rw [hyl]; exact hj)⟩
    obtain ⟨y0, e0⟩ := e 0 (by omega)
    obtain ⟨y1, e1⟩ := e 1 (by omega)
    obtain ⟨y2, e2⟩ := e 2 (by omega)
    obtain ⟨y3, e3⟩ := e 3 (by omega)
    obtain ⟨y4, e4⟩ := e 4 (by omega)
    rw [e0] at g0
    rw [e1] at g1
    rw [e2] at g2
    rw [e3] at g3
    rw [e4] at g4
    obtain ⟨a0, h0, _, _⟩ := DataW.trod_int Try.underlying3 g0
    obtain ⟨a1, h1, _, _⟩ := DataW.trod_int Try.underlying2 g1
    obtain ⟨a2, h2, _, hs⟩ := DataW.trod_string Try.underlying9 g2
    obtain ⟨a3, h3, _, _⟩ := DataW.trod_int Try.underlying3 g3
    obtain ⟨a4, h4, _, _⟩ := DataW.trod_int Try.underlying3 g4
    simp only [List.cons.injEq, and_true] at h0 h1 h2 h3 h4
    subst h0 h1 h2 h3 h4
    exact ⟨⟨a0, a1, a2, a3, a4⟩, rfl, hs⟩

theorem open_nodes {n : Nat} {A : Option Addr} {len cap : Nat} {x : DataW H × List MemPlace} (h : DataW.trod enc Try.prog w base spare held n 23 [.slice A len cap] = some x) :
    ∃ xs : List S36, Kd.C k36 w A len xs ∧ len ≤ cap ∧ ∀ s ∈ xs, s.f2.size ≤ maxLen := by
  rcases open_slice Try.underlying23 h with ⟨hcs, _⟩ | ⟨a, len', cap', m, n', D, Pl, hcs, hb, hl, hm, hmm, hx, hi⟩
  · simp only [List.cons.injEq, and_true, Value.slice.injEq] at hcs
    obtain ⟨rfl, rfl, rfl⟩ := hcs
    exact ⟨[], ⟨rfl, by omega, fun hp => absurd hp (by omega)⟩, Nat.le_refl _, by simp⟩
  · simp only [List.cons.injEq, and_true, Value.slice.injEq] at hcs
    obtain ⟨rfl, rfl, rfl⟩ := hcs
    rw [show Try.prog.cellsOf 36 = 5 from by kernel_rfl] at hi
    have hlm : len ≤ m := by rw [hmm]; split <;> omega
    have key : ∀ i, ∃ s : S36, i < len → (s.f2.size ≤ maxLen ∧ ∀ j u, [Value.int .i64 s.f0, .int .i64 s.f1, .string s.f2, .int .i64 s.f3, .int .i64 s.f4][j]? = some u → w.cell? (a.add (i * 5 + j)) = some u) := by
      intro i
      by_cases hil : i < len
      · obtain ⟨cs', hc, ht⟩ := hi i (by omega)
        obtain ⟨s, rfl, hs⟩ := open_node ht
        refine ⟨s, fun _ => ⟨hs, fun j u hu => ?_⟩⟩
        obtain ⟨_, hcl, hat⟩ := World.cells?_some hc
        have hj : j < 5 := by have := (List.getElem?_eq_some_iff.1 hu).1; simpa using this
        rw [← Go.Deep.add_add, hat j hj, hu]
      · exact ⟨z36, fun hh => absurd hh hil⟩
    refine ⟨(List.range len).map fun i => Classical.choose (key i), ⟨by simp, by unfold maxLen at hm; omega, fun hp => ⟨a, rfl, fun j p hj => ?_⟩⟩, hl, fun s hs => ?_⟩
    · have hjl : j < len := by have := (List.getElem?_eq_some_iff.1 hj).1; simpa using this
      have hp' : Classical.choose (key j) = p := by
        rw [List.getElem?_map, List.getElem?_range hjl] at hj
        simpa using hj
      have hk := Classical.choose_spec (key j) hjl
      rw [hp'] at hk
      exact ⟨_, rfl, k36_mk w p, hk.2⟩
    · obtain ⟨i, hi', rfl⟩ := List.mem_map.1 hs
      exact (Classical.choose_spec (key i) (List.mem_range.1 hi')).1
end
end Go.Proofs.Ytoioineibfldcaa.K
