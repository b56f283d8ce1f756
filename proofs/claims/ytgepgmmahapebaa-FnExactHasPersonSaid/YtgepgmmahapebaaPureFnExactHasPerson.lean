/- For every set of people and every number the program's HasPerson and the reference's HasPerson answer alike; no condition. -/
import Derived.Test.YtgepgmmahapebaaPFnExactHasPersonx1
import Derived.Laws.BitsLemmas
namespace Go.Proofs.Ytgepgmmahapebaa.Pure
open Go.RowKit Go.Proofs.Ytgepgmmahapebaa.PFnExactHasPerson Go.Proofs.YtgepgmmahapebaaW.PrintWords Go.Proofs.YtgepgmmahapebaaW.PrintLast

theorem wrap_u16 (n : Int) : IntKind.u16.wrap n = n % 65536 := by simp [IntKind.wrap, IntKind.bits, IntKind.signed]
theorem wrap_u64 (n : Int) : IntKind.u64.wrap n = n % 18446744073709551616 := by simp [IntKind.wrap, IntKind.bits, IntKind.signed]
theorem wraps_u16 (n : Int) (h₀ : 0 ≤ n) (h₁ : n < 2 ^ 16) : IntKind.u16.wrap n = n := by rw [wrap_u16]; omega
theorem and_one (x : Int) (h₀ : 0 ≤ x) (h₁ : x < 65536) : Go.bits .and .u16 x 1 = x % 2 := by
  have := Go.bits_mask .u16 16 (by decide) wraps_u16 1 (by decide) x h₀ (by omega)
  simpa using this
theorem shr_range (a n : Int) (h0 : 0 ≤ a) (h1 : a < 65536) : 0 ≤ Go.Proofs.YtgepgmmahapebaaW.PrintWords.shr .u16 a n ∧ Go.Proofs.YtgepgmmahapebaaW.PrintWords.shr .u16 a n < 65536 := by
  unfold Go.Proofs.YtgepgmmahapebaaW.PrintWords.shr
  have hp : (0 : Int) < 2 ^ min n.toNat IntKind.u16.bits := Int.pow_pos (by decide)
  constructor
  · exact Int.ediv_nonneg h0 (Int.le_of_lt hp)
  · exact Int.lt_of_le_of_lt (Int.ediv_le_self _ h0) h1

theorem FnExactHasPerson : laws_FnExactHasPerson.Pure := by
  intro a0 a1 h0 h1
  have hr : 0 ≤ a0 ∧ a0 < 65536 := by
    simp [Lit.wf, IntKind.min, IntKind.max, IntKind.bits, IntKind.signed] at h0
    omega
  unfold laws_FnExactHasPerson.f spec_HasPerson.f impl_HasPerson.f spec_l05Person.f impl_isPerson.f spec_l00In.f impl_within.f spec_l05Has.f
  by_cases p : 0 ≤ a1
  · by_cases q : a1 ≤ 13
    · have hw : IntKind.u64.wrap a1 = a1 := by rw [wrap_u64]; omega
      have hs := shr_range a0 a1 hr.1 hr.2
      simp only [hw, ge_iff_le, p, q, if_true, Option.bind_some, decide_true]
      rw [and_one _ hs.1 hs.2, Int.tmod_eq_emod_of_nonneg hs.1]
      simp
    · simp [p, q]
  · simp [p]

end Go.Proofs.Ytgepgmmahapebaa.Pure
