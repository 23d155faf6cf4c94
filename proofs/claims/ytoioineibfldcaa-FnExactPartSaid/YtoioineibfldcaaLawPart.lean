/-
  FnExactPart returns true and leaves its argument as it was, for all arguments that read as data: the program's Part answers as the reference's. No condition.
-/
import Derived.Test.YtoioineibfldcaaKx31
import Derived.Test.YtoioineibfldcaaLPart
import Derived.Test.YtoioineibfldcaaHRow
set_option linter.unusedVariables false
namespace Go.Proofs.Ytoioineibfldcaa.K
open Go.RowKit Go.Proofs.YtoioineibfldcaaW.PrintWords Go.Proofs.YtoioineibfldcaaW.PrintLast Go.Proofs.YtoioineibfldcaaW.PrintMore
theorem part_len (l : List S41) (hl : l.length ≤ 1048576) (a : Int) (t : List S41) (h : Ev (fun k => impl_Part.f k l a) t) : t.length ≤ 1048576 := by
  obtain ⟨b, hg1, hg2, hg3⟩ := good_cases l (by omega)
  obtain ⟨k, hk⟩ := h.rounds
  have hj : ∀ y, impl_Part.j0 k l a y = some t → t.length ≤ l.length := by
    intro y hy
    cases k with
    | zero => simp [impl_Part.j0] at hy
    | succ k =>
      rw [impl_Part.j0] at hy
      by_cases hb : y = true
      · rw [if_pos hb] at hy; cases hy; exact Nat.zero_le _
      · rw [if_neg hb] at hy
        obtain ⟨bt, _, hy⟩ := Option.bind_eq_some_iff.1 hy
        repeat' first | (split at hy) | (cases hy; done)
        obtain ⟨t2, h2, hy⟩ := Option.bind_eq_some_iff.1 hy
        unfold impl_copied.f at h2
        split at h2
        · cases h2; cases hy
          rw [List.length_drop, List.length_take]; omega
        · cases h2
  rw [impl_Part.f, hg2, Option.bind_some] at hk
  repeat' first | (split at hk)
  all_goals (have := hj _ hk; omega)
theorem lawPart_ev (l : List S36) (a : Int) (hl : l.length ≤ 9223372036854775807) (hls : ∀ s ∈ l, s.f2.size ≤ 9223372036854775807) :
    Ev (fun k => laws_FnExactPart.f k l a) true := by
  obtain ⟨r1, hr1, h1, h2, h3⟩ := szNodeS_ev l hl hls 1048576 (by omega) (by omega)
  refine Ev.bind hr1 ?_
  by_cases hn : r1 < 0
  · refine Ev.congr (fun k => ?_) (Ev.now true)
    rw [if_pos hn]
  · refine Ev.congr (fun k => if_neg hn) ?_
    have tl := toNodeS_ev l (by omega)
    have hcl : (l.map cv).length ≤ 1048576 := by rw [List.length_map]; omega
    obtain ⟨t, hg1, hg2⟩ := part_ev (l.map cv) (by omega) a
    have ht := part_len _ hcl a t hg2
    refine Ev.bind tl (Ev.bind hg1 (Ev.bind tl (Ev.bind hg2 (Ev.bind (eqNodeS_ev t (by omega)) ?_))))
    refine Ev.congr (fun k => if_pos rfl) ?_
    refine Ev.bind tl (Ev.bind (eqNodeS_ev _ (by omega)) ?_)
    refine Ev.congr (fun k => if_pos rfl) ?_
    refine Ev.bind (mark_ev _ 1 (by omega) (by omega)) ?_
    refine Ev.congr (fun k => if_neg (by omega)) ?_
    refine Ev.bind (eqNodeS_ev t (by omega)) ?_
    refine Ev.step (fun k => by rw [Bool.not_true, laws_FnExactPart.j0, if_neg (by simp)]) ?_
    refine Ev.bind (mark_ev t 1 (by omega) (by omega)) ?_
    refine Ev.bind (held_ev 1 t.length (by omega) (by omega)) ?_
    refine Ev.congr (fun k => by rw [if_neg (by omega), if_pos rfl]) ?_
    refine Ev.bind tl (Ev.bind hg2 (Ev.bind (eqNodeS_ev t (by omega)) ?_))
    refine Ev.congr (fun k => if_pos rfl) ?_
    refine Ev.bind (held_ev 1 t.length (by omega) (by omega)) ?_
    refine Ev.congr (fun k => by rw [if_neg (by omega), if_pos rfl]) (Ev.now true)
end Go.Proofs.Ytoioineibfldcaa.K

namespace Go.Proofs.Ytoioineibfldcaa.fnExactPart
open Go.ChangeShapes Go.WideShapes Go.ChangeAt Go.RowKit
open Go.Proofs.Ytoioineibfldcaa.K (own laidOut open_nodes)
set_option maxRecDepth 100000 in
theorem lifted (os : Os) (started : os.Started) (H : Type) (enc : TypeId × Value → H) :
    ReturnsInHanded {} Try.checked os 9 .any (Rows.fnExactPartSpec.pre6 enc Try.prog Try.f9 Rows.fnExactPartRow.domain false) (Rows.fnExactPartSpec.post enc Try.prog Try.f9 false true false false) := by
  refine returnsInHanded_of_change (C := Try.checked) own started (by kernel_rfl) Try.func9
    (ChangeSpec.witness6 (enc := enc) (C := Try.checked) false ⟨#[], #[.slice none 0 0, .int .i64 0], []⟩ 8 (by kernel_rfl) (by kernel_rfl) (by kernel_rfl) (by kernel_rfl)) ?_
  intro W base args ds gs before hval0 hW hcnd _
  have hval : ∀ (j : Nat) t v, Try.f9.params[j]? = some t → args[j]? = some v → Value.okWide Try.prog W .any base t v := hval0
  have hW' := hW
  obtain ⟨p, q, hA0, hV, rfl, hfz, hnd⟩ := hW
  have hA : DataW.TrodAll enc Try.prog W 0 (fun _ => true) true Try.f9.params.toList args.toList ds p := hA0
  rw [Try.params9] at hA hval
  obtain ⟨v0, vs0, d0, ds0, p0, q0, hargs, rfl, rfl, h0, r0⟩ := trodAll_cons hA
  obtain ⟨v1, vs1, d1, ds1, p1, q1, rfl, rfl, rfl, h1, r1⟩ := trodAll_cons r0
  obtain ⟨rfl, rfl, rfl⟩ := trodAll_nil r1
  obtain rfl : args = #[v0, v1] := by cases args; simp_all
  obtain ⟨rfl, rfl⟩ := trodVars_none hV
  obtain ⟨a0, len0, cap0, rfl⟩ := okWide_slice Try.underlying23 (hval 0 23 v0 rfl rfl)
  have k0 := h0
  have lt0 : ∀ x ∈ p0, x.block < W.heap.size := by obtain ⟨m, hm⟩ := k0; exact DataW.trod_lt m _ _ _ hm
  obtain ⟨fuel0, hf0⟩ := h0
  obtain ⟨xs0, hr0, hc0, hs0⟩ := open_nodes hf0
  obtain rfl := hr0.1
  obtain ⟨z1, rfl, rfl, rfl, wz1⟩ := open_int Try.underlying3 (hval 1 3 v1 rfl rfl) h1
  clear hA0 hval0
  obtain ⟨k, hk⟩ := (K.lawPart_ev xs0 z1 hr0.2.1 hs0).rounds
  refine (K.laws_FnExactPart.calls k a0 cap0 xs0 z1 true W hr0 hc0 hk).mono fun e W' ⟨he, bel⟩ => ?_
  subst he
  exact ⟨_, rfl, _, _, _, [], _, [], hW', trodAll_mk1 (shut_bool Try.underlying4 _), (trodAll_cons_mk (Below.trod laidOut (by kernel_rfl) (of_decide_eq_true (by kernel_rfl)) k0 bel lt0) (trodAll_cons_mk (shut_int Try.underlying3 wz1) trodAll_mk0)), rfl, bel.frame _, fun h => by cases h⟩
theorem over : Rows.fnExactPartRow.holds Try.pinned (OpenSpec.ofChange Rows.fnExactPartSpec) :=
  OpenClaim.holds_of_wide 9 Try.f9 rfl rfl rfl rfl rfl rfl rfl ⟨rfl, rfl, rfl, rfl, rfl⟩ rfl rfl rfl rfl rfl (by kernel_rfl) Try.func9 (by kernel_rfl)
    (of_decide_eq_true (by kernel_rfl)) (by unfold Func.isWrapper; first | (rw [if_pos (by decide +kernel)]; kernel_rfl) | (rw [if_neg (by decide +kernel)]; exact ⟨rfl, rfl⟩))
    (fun os started H enc _ => lifted os started H enc)
end Go.Proofs.Ytoioineibfldcaa.fnExactPart
namespace Go.Proofs.Ytoioineibfldcaa
theorem fnExactPart_holds : Rows.FnExactPartSaid := fnExactPart.over
end Go.Proofs.Ytoioineibfldcaa
