/- FnExactErrText: the program's ErrText returns what the reference's returns, for every argument; no condition. -/
import Derived.Test.YtaeccmjcdpeceaaPFnExactErrTextx1
namespace Go.Proofs.Ytaeccmjcdpeceaa.Pure
open Go.RowKit Go.Proofs.Ytaeccmjcdpeceaa.PFnExactErrText Go.Proofs.YtaeccmjcdpeceaaW.PrintWords Go.Proofs.YtaeccmjcdpeceaaW.PrintLast

theorem same (a : Int) : impl_ErrText.f a = spec_ErrText.f a := rfl

theorem some_ (a : Int) : ∃ r, spec_ErrText.f a = some r := by
  unfold spec_ErrText.f spec_l1In.f
  by_cases h : a ≥ 0
  · rw [if_pos h]
    simp only [Option.bind_some]
    by_cases h6 : a ≤ 6
    · rw [if_pos (by simpa using h6), if_pos (by omega), if_pos (by simp; omega)]
      exact ⟨_, rfl⟩
    · rw [if_neg (by simpa using h6)]
      exact ⟨_, rfl⟩
  · rw [if_neg h]
    simp

theorem FnExactErrText : laws_FnExactErrText.Pure := by
  intro a0 _
  obtain ⟨r, hr⟩ := some_ a0
  unfold laws_FnExactErrText.f
  rw [same, hr]
  simp only [Option.bind_some, if_true]

end Go.Proofs.Ytaeccmjcdpeceaa.Pure
