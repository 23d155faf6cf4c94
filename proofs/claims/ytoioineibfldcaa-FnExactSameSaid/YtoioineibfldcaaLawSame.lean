/-
  FnExactSame returns true and leaves its arguments as they were, for all arguments that read as data: the program's Same answers as the reference's. No condition.
-/
import Derived.Test.YtoioineibfldcaaKx11
import Derived.Test.YtoioineibfldcaaLBase
import Derived.Test.YtoioineibfldcaaHRow
set_option linter.unusedVariables false
namespace Go.Proofs.Ytoioineibfldcaa.K
open Go.RowKit Go.Proofs.YtoioineibfldcaaW.PrintWords Go.Proofs.YtoioineibfldcaaW.PrintLast Go.Proofs.YtoioineibfldcaaW.PrintMore

theorem specSame_loop (l m : List S41) (hl : l.length ≤ 9223372036854775807) (hm : l.length = m.length) (d : Nat) : ∀ (i : Nat), i ≤ l.length → l.length - i = d → (∀ j, j < i → eq4 (rd_T41 l j) (rd_T41 m j) = true) →
    Ev (fun k => spec_Same.l0 k l m i) (sameB l m) := by
  induction d with
  | zero =>
    intro i hi hd hp
    obtain rfl : i = l.length := by omega
    refine Ev.step (f := fun _ => some (sameB l m)) (fun k => ?_) (Ev.now _)
    simp only [spec_Same.l0]
    rw [if_neg (by omega), sameB_true hm hp]
  | succ d ih =>
    intro i hi hd hp
    have hlt : i < l.length := by omega
    have hcond : (!((rd_T41 l (i : Int)).f0 == (rd_T41 m (i : Int)).f0) || (!((rd_T41 l (i : Int)).f1 == (rd_T41 m (i : Int)).f1) || (!((rd_T41 l (i : Int)).f2.toList == (rd_T41 m (i : Int)).f2.toList) || (!((rd_T41 l (i : Int)).f3 == (rd_T41 m (i : Int)).f3) || (!((0 : Int) == 0)))))) = !eq4 (rd_T41 l i) (rd_T41 m i) := by
      simp [eq4, Bool.not_and]
    by_cases he : eq4 (rd_T41 l i) (rd_T41 m i) = true
    · refine Ev.step (fun k => ?_) (ih (i + 1) (by omega) (by omega) (fun j hj => ?_))
      · simp only [spec_Same.l0, spec_l1Bare.f]
        rw [if_pos (by omega), if_pos (by omega), Option.bind_some, if_pos (by omega), Option.bind_some, hcond, he, if_neg (by simp), wrap_succ hlt hl]
      · by_cases hji : j = i
        · subst hji; exact he
        · exact hp j (by omega)
    · refine Ev.step (f := fun _ => some (sameB l m)) (fun k => ?_) (Ev.now _)
      simp only [spec_Same.l0, spec_l1Bare.f]
      rw [Bool.not_eq_true] at he
      rw [if_pos (by omega), if_pos (by omega), Option.bind_some, if_pos (by omega), Option.bind_some, hcond, he, if_pos (by simp), sameB_false i hlt he]
theorem specSame_ev (l m : List S41) (hl : l.length ≤ 9223372036854775807) : Ev (fun k => spec_Same.f k l m) (sameB l m) := by
  by_cases hm : l.length = m.length
  · refine Ev.congr (fun k => ?_) (specSame_loop l m hl hm _ 0 (Nat.zero_le _) rfl (fun j hj => by omega))
    unfold spec_Same.f
    rw [if_pos (by omega)]
    rfl
  · refine Ev.congr (f := fun _ => some (sameB l m)) (fun k => ?_) (Ev.now _)
    unfold spec_Same.f
    rw [if_neg (by omega)]
    simp [sameB, hm]

theorem lawSame_ev (l m : List S36) (hl : l.length ≤ 9223372036854775807) (hm : m.length ≤ 9223372036854775807) (hls : ∀ s ∈ l, s.f2.size ≤ 9223372036854775807) (hms : ∀ s ∈ m, s.f2.size ≤ 9223372036854775807) :
    Ev (fun k => laws_FnExactSame.f k l m) true := by
  obtain ⟨r1, hr1, h1, h2, h3⟩ := szNodeS_ev l hl hls 1048576 (by omega) (by omega)
  refine Ev.bind hr1 ?_
  by_cases hn : r1 < 0
  · refine Ev.congr (fun k => ?_) (Ev.now true)
    rw [if_pos hn]
  · refine Ev.congr (fun k => if_neg hn) ?_
    obtain ⟨r2, hr2, h4, h5, h6⟩ := szNodeS_ev m hm hms r1 (by omega) (by omega)
    refine Ev.bind hr2 ?_
    by_cases hn2 : r2 < 0
    · refine Ev.congr (fun k => ?_) (Ev.now true)
      rw [if_pos hn2]
    · refine Ev.congr (fun k => if_neg hn2) ?_
      have tl := toNodeS_ev l (by omega)
      have tm := toNodeS_ev m (by omega)
      have hcl : (l.map cv).length ≤ 9223372036854775807 := by simpa using hl
      have hcm : (m.map cv).length ≤ 9223372036854775807 := by simpa using hm
      refine Ev.bind tl (Ev.bind tm (Ev.bind (specSame_ev _ _ hcl) (Ev.bind tl (Ev.bind tm (Ev.bind (Ev.now _) ?_)))))
      refine Ev.congr (fun k => if_neg (by simp)) ?_
      refine Ev.bind tl (Ev.bind (eqNodeS_ev _ hcl) ?_)
      refine Ev.congr (fun k => if_pos rfl) ?_
      refine Ev.bind tm (Ev.bind (eqNodeS_ev _ hcm) ?_)
      exact Ev.congr (fun k => if_pos rfl) (Ev.now true)
end Go.Proofs.Ytoioineibfldcaa.K

namespace Go.Proofs.Ytoioineibfldcaa.fnExactSame
open Go.ChangeShapes Go.WideShapes Go.ChangeAt Go.RowKit
open Go.Proofs.Ytoioineibfldcaa.K (own laidOut open_nodes lawSame_ev)
set_option maxRecDepth 100000 in
theorem lifted (os : Os) (started : os.Started) (H : Type) (enc : TypeId × Value → H) :
    ReturnsInHanded {} Try.checked os 4 .any (Rows.fnExactSameSpec.pre6 enc Try.prog Try.f4 Rows.fnExactSameRow.domain false) (Rows.fnExactSameSpec.post enc Try.prog Try.f4 false true false false) := by
  refine returnsInHanded_of_change (C := Try.checked) own started (by kernel_rfl) Try.func4
    (ChangeSpec.witness6 (enc := enc) (C := Try.checked) false ⟨#[], #[.slice none 0 0, .slice none 0 0], []⟩ 8 (by kernel_rfl) (by kernel_rfl) (by kernel_rfl) (by kernel_rfl)) ?_
  intro W base args ds gs before hval0 hW hcnd _
  have hval : ∀ (j : Nat) t v, Try.f4.params[j]? = some t → args[j]? = some v → Value.okWide Try.prog W .any base t v := hval0
  have hW' := hW
  obtain ⟨p, q, hA0, hV, rfl, hfz, hnd⟩ := hW
  have hA : DataW.TrodAll enc Try.prog W 0 (fun _ => true) true Try.f4.params.toList args.toList ds p := hA0
  rw [Try.params4] at hA hval
  obtain ⟨v0, v1, d0, d1, p0, p1, hargs, rfl, rfl, h0, h1⟩ := trodAll_two hA
  obtain rfl : args = #[v0, v1] := by cases args; simp_all
  obtain ⟨rfl, rfl⟩ := trodVars_none hV
  obtain ⟨a0, len0, cap0, rfl⟩ := okWide_slice Try.underlying23 (hval 0 23 v0 rfl rfl)
  obtain ⟨a1, len1, cap1, rfl⟩ := okWide_slice Try.underlying23 (hval 1 23 v1 rfl rfl)
  have k0 := h0
  have k1 := h1
  have lt0 : ∀ x ∈ p0, x.block < W.heap.size := by obtain ⟨m, hm⟩ := k0; exact DataW.trod_lt m _ _ _ hm
  have lt1 : ∀ x ∈ p1, x.block < W.heap.size := by obtain ⟨m, hm⟩ := k1; exact DataW.trod_lt m _ _ _ hm
  obtain ⟨fuel0, hf0⟩ := h0
  obtain ⟨fuel1, hf1⟩ := h1
  obtain ⟨xs0, hr0, hc0, hs0⟩ := open_nodes hf0
  obtain ⟨xs1, hr1, hc1, hs1⟩ := open_nodes hf1
  obtain rfl := hr0.1
  obtain rfl := hr1.1
  clear hA0 hval0
  obtain ⟨k, hk⟩ := (lawSame_ev xs0 xs1 hr0.2.1 hr1.2.1 hs0 hs1).rounds
  refine (K.laws_FnExactSame.calls k a0 cap0 xs0 a1 cap1 xs1 true W hr0 hc0 hr1 hc1 hk).mono fun e W' ⟨he, bel⟩ => ?_
  subst he
  exact ⟨_, rfl, _, _, _, [], _, [], hW', trodAll_mk1 (shut_bool Try.underlying4 _), trodAll_cons_mk (Below.trod laidOut (by kernel_rfl) (of_decide_eq_true (by kernel_rfl)) k0 bel lt0) (trodAll_cons_mk (Below.trod laidOut (by kernel_rfl) (of_decide_eq_true (by kernel_rfl)) k1 bel lt1) trodAll_mk0), rfl, bel.frame _, fun h => by cases h⟩
theorem over : Rows.fnExactSameRow.holds Try.pinned (OpenSpec.ofChange Rows.fnExactSameSpec) :=
  OpenClaim.holds_of_wide 4 Try.f4 rfl rfl rfl rfl rfl rfl rfl ⟨rfl, rfl, rfl, rfl, rfl⟩ rfl rfl rfl rfl rfl (by kernel_rfl) Try.func4 (by kernel_rfl)
    (of_decide_eq_true (by kernel_rfl)) (by unfold Func.isWrapper; first | (rw [if_pos (by decide +kernel)]; kernel_rfl) | (rw [if_neg (by decide +kernel)]; exact ⟨rfl, rfl⟩))
    (fun os started H enc _ => lifted os started H enc)
end Go.Proofs.Ytoioineibfldcaa.fnExactSame
namespace Go.Proofs.Ytoioineibfldcaa
theorem fnExactSame_holds : Rows.FnExactSameSaid := fnExactSame.over
end Go.Proofs.Ytoioineibfldcaa
