/-
  FnExactConstants returns true, whatever the memory in which it is called: every test of the law compares two constants that are equal, so the translation holds a row of branches that are never taken. No condition.
-/
import Derived.Test.YtoioineibfldcaaRows
import Derived.WalkKit
import Derived.ProofKit
import Derived.OpenShut
namespace Go.Proofs.Ytoioineibfldcaa.fnExactConstants
open Go.ChangeShapes Go.WideShapes Go.ChangeAt Go.RowKit
set_option linter.unusedVariables false

theorem own : ownKnob Try.prog.godebug = none := by kernel_rfl

/-- What is left of a row of branches that are never taken. -/
def strip : Code → Code
  | .seq (.cond (.const (.bool false)) _ .skip) r => strip r
  | c => c

theorem wp_strip {P : Program} {Q : Exit → Act → World → Prop} (c : Code) : ∀ (a : Act) (w : World), (strip c).wp P Q a w → c.wp P Q a w := by
  fun_induction strip c with
  | case1 x r ih =>
    intro a w h
    exact wp_seq (wp_cond_false rfl (wp_skip (ih a w h)))
  | case2 c h => exact fun a w h => h

/-- The law's first statement, and what follows it. -/
def first : Code := .region 0 #[{ dst := some 0, op := .assign (.const (.bool false)), type := 4, pos := "exact.go:1116", after := #[], guard := none }] false
noncomputable def rest : Code := match Try.f3.body with
  | some (.seq _ y) => y
  | _ => .skip
theorem body_eq : Try.f3.body = some (.seq first rest) := by kernel_rfl
theorem rest_eq : strip rest = .seq (.region 155 #[{ dst := some 0, op := .assign (.const (.bool true)), type := 4, pos := "exact.go:1579", after := #[], guard := none }] false) .ret := by kernel_rfl

theorem walk (w : World) :
    Calls Try.prog 3 #[] w fun e w' => e = .returned (.bool true) ∧ Grown w w' := by
  refine calls_of_wp Try.func3 body_eq ?_
  rw [Try.ntmps3]
  refine wp_seq (wp_mono (Q := fun e a' w' => e = .normal ∧ a' = { tmps := #[.bool false], defers := [] } ∧ w' = w) ?_ ?_)
  · unfold first
    show Code.wp _ _ _ { tmps := #[undef], defers := [] } w
    go_wp2
  · rintro e a' w' ⟨rfl, rfl, rfl⟩
    refine wp_strip _ _ _ ?_
    rw [rest_eq]
    go_wp2
    go_ret
    exact ⟨rfl, by repeat (first | exact Grown.refl _ | apply Grown.drew | apply Grown.alloc)⟩

set_option maxRecDepth 100000 in
theorem lifted (os : Os) (started : os.Started) (H : Type) (enc : TypeId × Value → H) :
    ReturnsInHanded {} Try.checked os 3 .any (Rows.fnExactConstantsSpec.pre6 enc Try.prog Try.f3 Rows.fnExactConstantsRow.domain false) (Rows.fnExactConstantsSpec.post enc Try.prog Try.f3 false true false false) := by
  refine returnsInHanded_of_change (C := Try.checked) own started (by kernel_rfl) Try.func3
    (ChangeSpec.witness6 (enc := enc) (C := Try.checked) false ⟨#[], #[], []⟩ 8 (by kernel_rfl) (by kernel_rfl) (by kernel_rfl) (by kernel_rfl)) ?_
  intro W base args ds gs before hval0 hW hcnd _
  have hval : ∀ (j : Nat) t v, Try.f3.params[j]? = some t → args[j]? = some v → Value.okWide Try.prog W .any base t v := hval0
  have hW' := hW
  obtain ⟨p, q, hA0, hV, rfl, hfz, hnd⟩ := hW
  have hA : DataW.TrodAll enc Try.prog W 0 (fun _ => true) true Try.f3.params.toList args.toList ds p := hA0
  rw [Try.params3] at hA hval
  obtain ⟨rfl, rfl, rfl⟩ := trodAll_none hA
  obtain ⟨rfl, rfl⟩ := trodVars_none hV
  clear hA0 hval0
  simp only [List.append_nil] at hW'
  refine (walk W).mono fun e W' ⟨he, hg⟩ => ?_
  subst he
  exact ⟨_, rfl, post_of_same (pa := []) (pv := []) hW' (fun _ _ _ => (trodAll_cons_mk (shut_bool Try.underlying4 _) trodAll_mk0)) (fun sp _ => rfl) (fun _ _ => rfl) rfl
    (hg.frame _) hg.2.1 (ok_one (by kernel_rfl) rfl (okWide_bool_mk Try.underlying4 _))⟩

theorem over : Rows.fnExactConstantsRow.holds Try.pinned (OpenSpec.ofChange Rows.fnExactConstantsSpec) :=
  OpenClaim.holds_of_wide 3 Try.f3 rfl rfl rfl rfl rfl rfl rfl ⟨rfl, rfl, rfl, rfl, rfl⟩ rfl rfl rfl rfl rfl (by kernel_rfl) Try.func3 (by kernel_rfl)
    (of_decide_eq_true (by kernel_rfl)) (by unfold Func.isWrapper; first | (rw [if_pos (by decide +kernel)]; kernel_rfl) | (rw [if_neg (by decide +kernel)]; exact ⟨rfl, rfl⟩))
    (fun os started H enc _ => lifted os started H enc)
end Go.Proofs.Ytoioineibfldcaa.fnExactConstants
namespace Go.Proofs.Ytoioineibfldcaa
theorem fnExactConstants_holds : Rows.FnExactConstantsSaid := fnExactConstants.over
end Go.Proofs.Ytoioineibfldcaa
