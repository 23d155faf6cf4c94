/-
  FnExactDeep returns true and leaves its argument as it was, for all arguments that read as data: the program's Deep answers as the reference's. No condition.
-/
import Derived.Test.YtoioineibfldcaaKx22
import Derived.Test.YtoioineibfldcaaKx20
import Derived.Test.YtoioineibfldcaaKx21
import Derived.Test.YtoioineibfldcaaLGood
import Derived.Test.YtoioineibfldcaaHRow
set_option linter.unusedVariables false
namespace Go.Proofs.Ytoioineibfldcaa.K
open Go.RowKit Go.Proofs.YtoioineibfldcaaW.PrintWords Go.Proofs.YtoioineibfldcaaW.PrintLast Go.Proofs.YtoioineibfldcaaW.PrintMore
theorem deep_ev (l : List S41) (hl : l.length ≤ 2932031007402) : ∃ d, Ev (fun k => spec_Deep.f k l) d ∧ impl_Deep.f l = some d := by
  obtain ⟨b, hg1, hg2, hg3⟩ := good_cases l hl
  cases b with
  | false =>
    refine ⟨0, Ev.bind hg1 ?_, ?_⟩
    · exact Ev.congr (fun k => if_neg (by simp)) (Ev.now 0)
    · unfold impl_Deep.f
      rw [hg2, Option.bind_some, if_neg (by simp)]
  | true =>
    obtain ⟨Y, x, o⟩ := hg3 rfl
    obtain ⟨hd, _⟩ := depths_ev l hl Y _ o.run_
    have hw : wrap64 ((l.length : Int) - 1) = ((l.length - 1 : Nat) : Int) := by have := o.pos; rw [wrap_id (by omega) (by omega)]; omega
    refine ⟨x.1, Ev.bind hg1 ?_, ?_⟩
    · refine Ev.congr (fun k => if_pos rfl) ?_
      refine Ev.congr (fun k => by rw [o.sizes, Option.bind_some]) ?_
      refine Ev.bind hd ?_
      refine Ev.congr (fun k => ?_) (Ev.now x.1)
      have h1 := o.pos
      have h2 := o.len
      rw [hw, if_pos (by omega), if_pos (by rw [List.length_map]; omega), rd_nat, List.getD_eq_getElem?_getD, List.getElem?_map, o.last]
      rfl
    · unfold impl_Deep.f
      rw [hg2, Option.bind_some, if_pos rfl, o.meas, Option.bind_some]
theorem lawDeep_ev (l : List S36) (hl : l.length ≤ 9223372036854775807) (hls : ∀ s ∈ l, s.f2.size ≤ 9223372036854775807) :
    Ev (fun k => laws_FnExactDeep.f k l) true := by
  obtain ⟨r1, hr1, h1, h2, h3⟩ := szNodeS_ev l hl hls 1048576 (by omega) (by omega)
  refine Ev.bind hr1 ?_
  by_cases hn : r1 < 0
  · refine Ev.congr (fun k => ?_) (Ev.now true)
    rw [if_pos hn]
  · refine Ev.congr (fun k => if_neg hn) ?_
    have tl := toNodeS_ev l (by omega)
    have hcl : (l.map cv).length ≤ 9223372036854775807 := by simpa using hl
    obtain ⟨b, hg1, hg2⟩ := deep_ev (l.map cv) (by rw [List.length_map]; omega)
    refine Ev.bind tl (Ev.bind hg1 (Ev.bind tl ?_))
    refine Ev.congr (fun k => by rw [hg2, Option.bind_some, if_pos rfl]) ?_
    refine Ev.bind tl (Ev.bind (eqNodeS_ev _ hcl) ?_)
    exact Ev.congr (fun k => if_pos rfl) (Ev.now true)
end Go.Proofs.Ytoioineibfldcaa.K

namespace Go.Proofs.Ytoioineibfldcaa.fnExactDeep
open Go.ChangeShapes Go.WideShapes Go.ChangeAt Go.RowKit
open Go.Proofs.Ytoioineibfldcaa.K (own laidOut open_nodes)
set_option maxRecDepth 100000 in
theorem lifted (os : Os) (started : os.Started) (H : Type) (enc : TypeId × Value → H) :
    ReturnsInHanded {} Try.checked os 7 .any (Rows.fnExactDeepSpec.pre6 enc Try.prog Try.f7 Rows.fnExactDeepRow.domain false) (Rows.fnExactDeepSpec.post enc Try.prog Try.f7 false true false false) := by
  refine returnsInHanded_of_change (C := Try.checked) own started (by kernel_rfl) Try.func7
    (ChangeSpec.witness6 (enc := enc) (C := Try.checked) false ⟨#[], #[.slice none 0 0], []⟩ 8 (by kernel_rfl) (by kernel_rfl) (by kernel_rfl) (by kernel_rfl)) ?_
  intro W base args ds gs before hval0 hW hcnd _
  have hval : ∀ (j : Nat) t v, Try.f7.params[j]? = some t → args[j]? = some v → Value.okWide Try.prog W .any base t v := hval0
  have hW' := hW
  obtain ⟨p, q, hA0, hV, rfl, hfz, hnd⟩ := hW
  have hA : DataW.TrodAll enc Try.prog W 0 (fun _ => true) true Try.f7.params.toList args.toList ds p := hA0
  rw [Try.params7] at hA hval
  obtain ⟨v0, vs0, d0, ds0, p0, q0, hargs, rfl, rfl, h0, r0⟩ := trodAll_cons hA
  obtain ⟨rfl, rfl, rfl⟩ := trodAll_nil r0
  obtain rfl : args = #[v0] := by cases args; simp_all
  obtain ⟨rfl, rfl⟩ := trodVars_none hV
  obtain ⟨a0, len0, cap0, rfl⟩ := okWide_slice Try.underlying23 (hval 0 23 v0 rfl rfl)
  have k0 := h0
  have lt0 : ∀ x ∈ p0, x.block < W.heap.size := by obtain ⟨m, hm⟩ := k0; exact DataW.trod_lt m _ _ _ hm
  obtain ⟨fuel0, hf0⟩ := h0
  obtain ⟨xs0, hr0, hc0, hs0⟩ := open_nodes hf0
  obtain rfl := hr0.1
  clear hA0 hval0
  obtain ⟨k, hk⟩ := (K.lawDeep_ev xs0 hr0.2.1 hs0).rounds
  refine (K.laws_FnExactDeep.calls k a0 cap0 xs0 true W hr0 hc0 hk).mono fun e W' ⟨he, bel⟩ => ?_
  subst he
  exact ⟨_, rfl, _, _, _, [], _, [], hW', trodAll_mk1 (shut_bool Try.underlying4 _), (trodAll_cons_mk (Below.trod laidOut (by kernel_rfl) (of_decide_eq_true (by kernel_rfl)) k0 bel lt0) trodAll_mk0), rfl, bel.frame _, fun h => by cases h⟩
theorem over : Rows.fnExactDeepRow.holds Try.pinned (OpenSpec.ofChange Rows.fnExactDeepSpec) :=
  OpenClaim.holds_of_wide 7 Try.f7 rfl rfl rfl rfl rfl rfl rfl ⟨rfl, rfl, rfl, rfl, rfl⟩ rfl rfl rfl rfl rfl (by kernel_rfl) Try.func7 (by kernel_rfl)
    (of_decide_eq_true (by kernel_rfl)) (by unfold Func.isWrapper; first | (rw [if_pos (by decide +kernel)]; kernel_rfl) | (rw [if_neg (by decide +kernel)]; exact ⟨rfl, rfl⟩))
    (fun os started H enc _ => lifted os started H enc)
end Go.Proofs.Ytoioineibfldcaa.fnExactDeep
namespace Go.Proofs.Ytoioineibfldcaa
theorem fnExactDeep_holds : Rows.FnExactDeepSaid := fnExactDeep.over
end Go.Proofs.Ytoioineibfldcaa
