/- EditsApplies over numbers and lists. -/
import Derived.Test.YtlcojdppcjbfdaaDoorPd
set_option linter.unusedVariables false
namespace Go.Proofs.YtlcojdppcjbfdaaDoor.Pure
open Go.RowKit Go.Proofs.YtlcojdppcjbfdaaDoor.F Go.Proofs.YtlcojdppcjbfdaaDoorW.PrintWords Go.Proofs.YtlcojdppcjbfdaaDoor.Opn
theorem EditsApplies (a0 : ByteArray) (l1 : List S53) (w0 : a0.size ≤ 140737488351232) (w1 : l1.length ≤ maxLen ∧ ∀ x ∈ l1, ok53 x) : ∃ k, jobshelllaw02_EditsApplies.f k a0 l1 = some true := by
  obtain ⟨k, hk⟩ : ∃ k, 40000 ≤ k := ⟨_, Nat.le_refl _⟩
  refine ⟨k, ?_⟩
  unfold jobshelllaw02_EditsApplies.f
  obtain ⟨b, h1, h2⟩ := few_eq a0 l1 (k := k) (by omega)
  rw [h1]
  simp only [Option.bind_some]
  cases b with
  | false => simp only [Bool.false_eq_true, if_false]; rw [awake_ok (by omega)]; rfl
  | true =>
    obtain ⟨h3, h4, h5⟩ := h2 rfl
    rw [if_pos rfl, ed_apply_eq a0 h3 l1 h5 (by omega), ref_apply_eq a0 h3 l1 h5 (by omega), ed_vld_eq a0 h3 l1 h5 (by omega)]
    simp only [Option.bind_some, if_true]
    rw [awake_ok (by omega)]
    by_cases h : vldOf a0 l1 = 0
    · rw [if_pos h]; simp [h]
    · rw [if_neg h]; simp
end Go.Proofs.YtlcojdppcjbfdaaDoor.Pure
