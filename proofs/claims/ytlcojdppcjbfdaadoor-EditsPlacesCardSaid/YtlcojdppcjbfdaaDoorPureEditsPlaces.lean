/- EditsPlaces over numbers and lists. -/
import Derived.Test.YtlcojdppcjbfdaaDoorPc
import Derived.Test.YtlcojdppcjbfdaaDoorOks
set_option linter.unusedVariables false
namespace Go.Proofs.YtlcojdppcjbfdaaDoor.Pure
open Go.RowKit Go.Proofs.YtlcojdppcjbfdaaDoor.F Go.Proofs.YtlcojdppcjbfdaaDoorW.PrintWords
theorem offs_pre (rest : List (List UInt8)) : ∀ (pre : List (List UInt8)) (line col at' : Int), line = pre.length + 1 → (∀ x r, rest = x :: r → 1 ≤ col ∧ col ≤ (x.length : Int) + 1) → rest ≠ [] → offs (pre ++ rest) line col at' = (at' + tot pre + col - 1, 0) := by
  intro pre
  induction pre with
  | nil =>
    intro line col at' hl hc hne
    cases rest with
    | nil => exact absurd rfl hne
    | cons x r =>
      obtain ⟨h1, h2⟩ := hc x r rfl
      simp only [List.nil_append, offs]
      rw [if_pos (by simpa using hl), if_neg (by omega), if_neg (by omega)]
      simp [tot]
  | cons y r ih =>
    intro line col at' hl hc hne
    simp only [List.cons_append, offs, List.length_cons] at *
    rw [if_neg (by omega), ih (line - 1) col _ (by omega) hc hne]
    simp only [tot]
    congr 1
    omega
theorem place_offs (s : ByteArray) (n : Nat) (hn : n ≤ s.size) : offs (lns s) (plc (s.data.toList.take n) 0 1 0).1 ((n : Int) - (plc (s.data.toList.take n) 0 1 0).2 + 1) 0 = ((n : Int), 0) := by
  obtain ⟨pre, cur', h1, h2, h3, h4⟩ := lns_place (s.data.toList.drop n) (s.data.toList.take n) [] 0 1 0 (by simp)
  rw [List.take_append_drop] at h1
  have hlen : (s.data.toList.take n).length = n := by rw [List.length_take, size_data]; omega
  rw [hlen] at h4
  have hb := plc_bounds (s.data.toList.take n) 0 1 0 (by omega) (by omega)
  rw [hlen] at hb
  unfold lns
  rw [h1, offs_pre _ pre _ _ 0 (by omega) ?_ (lnsAcc_ne _ _)]
  · congr 1; omega
  · intro x r hx
    obtain ⟨x', r', h5, h6⟩ := lns_head (s.data.toList.drop n) cur'
    rw [h5] at hx
    injection hx with hx _
    subst hx
    omega
theorem EditsPlaces (a0 : ByteArray) (a1 : Int) (w0 : a0.size ≤ 140737488351232) (w1 : (Lit.int .i64 a1).wf = true) : ∃ k, jobshelllaw02_EditsPlaces.f k a0 a1 = some true := by
  obtain ⟨k, hk⟩ : ∃ k, 40000 ≤ k := ⟨_, Nat.le_refl _⟩
  refine ⟨k, ?_⟩
  unfold jobshelllaw02_EditsPlaces.f
  by_cases h : (a0.size : Int) > 17000
  · rw [if_pos h, awake_ok (by omega)]; rfl
  · have hs : a0.size ≤ 17000 := by omega
    have hn : clampAt a0 a1 ≤ a0.size := by
      unfold clampAt; split
      · omega
      · split <;> omega
    rw [if_neg h, place_eq a0 a1 hs (by omega)]
    have hp : edits_Place.f a0 a1 = some ((plc (a0.data.toList.take (clampAt a0 a1)) 0 1 0).1, (clampAt a0 a1 : Int) - (plc (a0.data.toList.take (clampAt a0 a1)) 0 1 0).2 + 1) := by
      unfold edits_Place.f; rw [if_pos w0]
    rw [hp]
    simp only [Option.bind_some]
    have hb := plc_bounds (a0.data.toList.take (clampAt a0 a1)) 0 1 0 (by omega) (by omega)
    have hlen : (a0.data.toList.take (clampAt a0 a1)).length = clampAt a0 a1 := by rw [List.length_take, size_data]; omega
    rw [hlen] at hb
    rw [offset_eq a0 _ _ hs (by omega) hk, place_offs a0 _ hn]
    simp only [Option.bind_some, if_true]
    rw [awake_ok (by omega)]
    by_cases c1 : a1 < 0
    · rw [if_pos c1]; rfl
    · rw [if_neg c1]
      by_cases c2 : a1 > (a0.size : Int)
      · rw [if_pos c2]; rfl
      · rw [if_neg c2, if_pos]
        · rfl
        · unfold clampAt; rw [if_neg c1, if_pos (by omega)]; omega
end Go.Proofs.YtlcojdppcjbfdaaDoor.Pure
