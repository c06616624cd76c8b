/- EditsOffsets over numbers and lists. -/
import Derived.Test.YtlcojdppcjbfdaaDoorPc
import Derived.Test.YtlcojdppcjbfdaaDoorOks
set_option linter.unusedVariables false
namespace Go.Proofs.YtlcojdppcjbfdaaDoor.Pure
open Go.RowKit Go.Proofs.YtlcojdppcjbfdaaDoor.F Go.Proofs.YtlcojdppcjbfdaaDoorW.PrintWords
theorem EditsOffsets (a0 : ByteArray) (a1 : Int) (a2 : Int) (w0 : a0.size ≤ 140737488351232) (w1 : (Lit.int .i64 a1).wf = true) (w2 : (Lit.int .i64 a2).wf = true) : ∃ k, jobshelllaw02_EditsOffsets.f k a0 a1 a2 = some true := by
  obtain ⟨k, hk⟩ : ∃ k, 40000 ≤ k := ⟨_, Nat.le_refl _⟩
  refine ⟨k, ?_⟩
  unfold jobshelllaw02_EditsOffsets.f
  by_cases h : (a0.size : Int) > 17000
  · rw [if_pos h, awake_ok (by omega)]; rfl
  · rw [if_neg h, offset_eq a0 a1 a2 (by omega) (wf_i64 w1) hk, ref_offset_eq a0 a1 a2 (by omega) (wf_i64 w1) (wf_i64 w2) hk]
    simp only [Option.bind_some, if_true]
    rw [awake_ok (by omega)]; rfl
end Go.Proofs.YtlcojdppcjbfdaaDoor.Pure
