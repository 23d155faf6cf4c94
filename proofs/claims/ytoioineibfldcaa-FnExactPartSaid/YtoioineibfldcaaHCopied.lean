/-
  impl.copied (function 47) hands back a new row with the elements of the one that came in. Condition: at most 2932031007402 elements (the model's bound on what an append makes).
-/
import Derived.Test.YtoioineibfldcaaKx0
set_option linter.unusedVariables false
namespace Go.Proofs.Ytoioineibfldcaa.K
open Go.RowKit Go.Proofs.YtoioineibfldcaaW.PrintWords Go.Proofs.YtoioineibfldcaaW.PrintLast Go.Proofs.YtoioineibfldcaaW.PrintMore

def impl_copied.f (l0 : List S41) : Option (List S41) := if l0.length ≤ 2932031007402 then some l0 else none

theorem k41_M {w w' : World} {base : Nat} {ok : Nat → Prop} {x : S41} {cs : List Value} (h : k41.K w x cs) : k41.M w' base ok x cs := by
  obtain rfl := k41_open h
  exact k41_mkM _ _ _ x

set_option maxHeartbeats 1000000 in
theorem impl_copied.calls (A0 : Option Addr) (c0 : Nat) (l0 : List S41) (r : List S41) (w : World) (hr0 : Kd.C k41 w A0 l0.length l0) (hc0 : l0.length ≤ c0) (h : impl_copied.f l0 = some r) :
    Calls Try.prog 47 #[.slice A0 l0.length c0] w fun e w' => ∃ v0_ : Value, e = .returned v0_ ∧ Kd.R k41 41 w' w.heap.size (fun _ => True) v0_ r ∧ Below w.heap.size w w' := by
  unfold impl_copied.f at h
  by_cases hl : l0.length ≤ 2932031007402
  · rw [if_pos hl] at h
    obtain rfl := Option.some.inj h
    clear h
    have HR := Aside0.mk hr0
    have HL := Aside0.mk hl
    clear hr0 hl hc0
    go_enter Try.func47, Try.ntmps47
    go_wp2_with (at_builtin; refine Kd.R_append_rows k41 (w0 := w) (Rr := k41.K w) w.heap.size rfl (.const (.slice none 0 0)) (.tmp 3) 26 41 _ 48 rfl Try.underlying26 info41 rfl (by decide) (by omega) (.slice none 0 0) [] l0 _ _ _ (fun _ => True) (fun _ => False) rfl rfl (Kd.R_nil _ _ _ _ _) HR.out (fun _ _ hk => k41_M hk) (fun _ hk => hk.elim) (fun _ _ => trivial) (Below.refl _ _) (Nat.le_refl _) (by have := HL.out; simp only [List.length_nil]; omega) ?_; intro v1 w1 ho hb hg hat; have HO := Aside0.mk ho; have HB := Aside0.mk hb; clear ho hb hg hat)
    go_ret
    exact ⟨_, rfl, by simpa using HO.out, HB.out⟩
  · rw [if_neg hl] at h
    cases h
end Go.Proofs.Ytoioineibfldcaa.K
