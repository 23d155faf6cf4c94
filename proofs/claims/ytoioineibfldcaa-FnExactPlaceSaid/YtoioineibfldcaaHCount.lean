/-
  strings.Count (function 39) at a substr of the one byte 10, by the model's row of bytealg.CountString. Condition: the substr is that byte.
-/
import Derived.Test.YtoioineibfldcaaQx0
import Derived.Lib.Bytealg
import Derived.BigCall
import Derived.BigGuard
import Derived.Laws.Strings3
import Derived.Lib.CountLaws
set_option linter.unusedVariables false
namespace Go.Proofs.Ytoioineibfldcaa.Q
open Go.RowKit Go.Proofs.YtoioineibfldcaaW.PrintWords Go.Proofs.YtoioineibfldcaaW.PrintLast Go.Proofs.YtoioineibfldcaaW.PrintMore
set_option maxRecDepth 100000
set_option maxHeartbeats 2000000

theorem count_one (s : ByteArray) (w : World) :
    Calls Try.prog 39 #[.string s, .string ⟨#[10]⟩] w fun e w' => e = .returned (.int .i64 (Lib.countByte s.data.toList 10)) ∧ w' = w := by
  go_enter Try.func39, Try.ntmps39
  go_wp2
  rw [run_callFunc_extern Try.func52 (by kernel_rfl) (by kernel_rfl) (by kernel_rfl) (e := Extern.BytealgCount.count) (by kernel_rfl), Lib.run_countString]
  simp only [Result.andThen]
  rw [Oper.upon_value]
  go_wp2
  go_ret
  exact ⟨rfl, rfl⟩
def strings_Count.f (a0 a1 : ByteArray) : Option Int := if a1 = (⟨#[10]⟩ : ByteArray) then some (Lib.countByte a0.data.toList 10 : Int) else none
theorem strings_Count.calls (a0 a1 : ByteArray) (r : Int) (w : World) (h : strings_Count.f a0 a1 = some r) :
    Calls Try.prog 39 #[.string a0, .string a1] w fun e w' => e = .returned (.int .i64 r) ∧ Drawn0 w w' := by
  unfold strings_Count.f at h
  by_cases h1 : a1 = (⟨#[10]⟩ : ByteArray)
  · rw [if_pos h1] at h
    subst h1
    obtain rfl := Option.some.inj h
    exact (count_one a0 w).mono (fun e w' ⟨h1, h2⟩ => ⟨h1, ⟨0, by rw [h2]; rfl⟩⟩)
  · rw [if_neg h1] at h
    cases h
end Go.Proofs.Ytoioineibfldcaa.Q
