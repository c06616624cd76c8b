-- Written by mp.sh (a program of this work) out of the translation; Lean checks it.
import Derived.Test.YtlcojdppcjbfdaaDoorF0
namespace Go.Proofs.YtlcojdppcjbfdaaDoor.F
open Go.RowKit Go.Proofs.YtlcojdppcjbfdaaDoorW.PrintWords Go.Proofs.YtlcojdppcjbfdaaDoorW.PrintLast Go.Proofs.YtlcojdppcjbfdaaDoorW.PrintMore
attribute [local go_sem] max2_int min2_int max_two min_two max_three min_three max_four min_four   -- for this text's walks alone
set_option linter.unusedVariables false
set_option linter.unusedSimpArgs false

/-! ### edits_Diff: function 22 -/
mutual
def edits_Diff.j1 : Nat → ByteArray → ByteArray → Int → Option ((List (S53)))
  | 0, _, _, _ => none
  | k + 1, x0, x1, x5 => edits_Diff.l1 k x0 x1 x5 0
def edits_Diff.l1 : Nat → ByteArray → ByteArray → Int → Int → Option ((List (S53)))
  | 0, _, _, _, _ => none
  | k + 1, x0, x1, x5, x6 => if x6 < (wrap64 ((x0.size : Int) - x5)) then (if x6 < (wrap64 ((x1.size : Int) - x5)) then (if 0 ≤ (wrap64 ((wrap64 ((x0.size : Int) - 1)) - x6)) then (if (wrap64 ((wrap64 ((x0.size : Int) - 1)) - x6)) < (x0.size : Int) then (if 0 ≤ (wrap64 ((wrap64 ((x1.size : Int) - 1)) - x6)) then (if (wrap64 ((wrap64 ((x1.size : Int) - 1)) - x6)) < (x1.size : Int) then (if (bt x0 (wrap64 ((wrap64 ((x0.size : Int) - 1)) - x6))) = (bt x1 (wrap64 ((wrap64 ((x1.size : Int) - 1)) - x6))) then (edits_Diff.l1 k x0 x1 x5 (wrap64 (x6 + 1))) else (if 0 ≤ x5 then (if x5 ≤ (wrap64 ((x1.size : Int) - x6)) then (if (wrap64 ((x1.size : Int) - x6)) ≤ (x1.size : Int) then (some (([(⟨x5, wrap64 ((x0.size : Int) - x6), x1.extract (x5 : Int).toNat ((wrap64 ((x1.size : Int) - x6)) : Int).toNat⟩ : S53)] : List (S53)))) else (none)) else (none)) else (none))) else (none)) else (none)) else (none)) else (none)) else (if 0 ≤ x5 then (if x5 ≤ (wrap64 ((x1.size : Int) - x6)) then (if (wrap64 ((x1.size : Int) - x6)) ≤ (x1.size : Int) then (some (([(⟨x5, wrap64 ((x0.size : Int) - x6), x1.extract (x5 : Int).toNat ((wrap64 ((x1.size : Int) - x6)) : Int).toNat⟩ : S53)] : List (S53)))) else (none)) else (none)) else (none))) else (if 0 ≤ x5 then (if x5 ≤ (wrap64 ((x1.size : Int) - x6)) then (if (wrap64 ((x1.size : Int) - x6)) ≤ (x1.size : Int) then (some (([(⟨x5, wrap64 ((x0.size : Int) - x6), x1.extract (x5 : Int).toNat ((wrap64 ((x1.size : Int) - x6)) : Int).toNat⟩ : S53)] : List (S53)))) else (none)) else (none)) else (none))
def edits_Diff.l0 : Nat → ByteArray → ByteArray → Int → Option ((List (S53)))
  | 0, _, _, _ => none
  | k + 1, x0, x1, x5 => if x5 < (x0.size : Int) then (if x5 < (x1.size : Int) then (if 0 ≤ x5 then (if (bt x0 x5) = (bt x1 x5) then (edits_Diff.l0 k x0 x1 (wrap64 (x5 + 1))) else (edits_Diff.j1 k x0 x1 x5)) else (none)) else (edits_Diff.j1 k x0 x1 x5)) else (edits_Diff.j1 k x0 x1 x5)
end
def edits_Diff.f (k : Nat) (a0 : ByteArray) (a1 : ByteArray) : Option ((List (S53))) := if a0.toList = a1.toList then (some ([] : List (S53))) else (edits_Diff.l0 k a0 a1 0)
theorem edits_Diff.mono_l : ∀ k, (∀ y0 y1 y2, LeO (edits_Diff.j1 k y0 y1 y2) (edits_Diff.j1 (k + 1) y0 y1 y2)) ∧ (∀ y0 y1 y2 y3, LeO (edits_Diff.l1 k y0 y1 y2 y3) (edits_Diff.l1 (k + 1) y0 y1 y2 y3)) ∧ (∀ y0 y1 y2, LeO (edits_Diff.l0 k y0 y1 y2) (edits_Diff.l0 (k + 1) y0 y1 y2))
  | 0 => ⟨fun _ _ _ r h => by simp [edits_Diff.j1] at h, fun _ _ _ _ r h => by simp [edits_Diff.l1] at h, fun _ _ _ r h => by simp [edits_Diff.l0] at h⟩
  | k + 1 => by
    obtain ⟨ih0, ih1, ih2⟩ := edits_Diff.mono_l k
    refine ⟨?_, ?_, ?_⟩
    · intro y0 y1 y2
      unfold edits_Diff.j1
      repeat' first
      | (with_reducible exact ih0 _ _ _)
      | (with_reducible exact ih1 _ _ _ _)
      | (with_reducible exact ih2 _ _ _)
      | (with_reducible exact LeO.refl _)
      | (with_reducible exact LeO.none _)
      | (with_reducible refine LeO.ite ?_ ?_)
      | (with_reducible refine LeO.bind ?_ (fun _ => ?_))
      | exact ih0 _ _ _
      | exact ih1 _ _ _ _
      | exact ih2 _ _ _
      | exact LeO.none _
      | refine LeO.ite ?_ ?_
      | refine LeO.bind ?_ (fun _ => ?_)
    · intro y0 y1 y2 y3
      unfold edits_Diff.l1
      repeat' first
      | (with_reducible exact ih0 _ _ _)
      | (with_reducible exact ih1 _ _ _ _)
      | (with_reducible exact ih2 _ _ _)
      | (with_reducible exact LeO.refl _)
      | (with_reducible exact LeO.none _)
      | (with_reducible refine LeO.ite ?_ ?_)
      | (with_reducible refine LeO.bind ?_ (fun _ => ?_))
      | exact ih0 _ _ _
      | exact ih1 _ _ _ _
      | exact ih2 _ _ _
      | exact LeO.none _
      | refine LeO.ite ?_ ?_
      | refine LeO.bind ?_ (fun _ => ?_)
    · intro y0 y1 y2
      unfold edits_Diff.l0
      repeat' first
      | (with_reducible exact ih0 _ _ _)
      | (with_reducible exact ih1 _ _ _ _)
      | (with_reducible exact ih2 _ _ _)
      | (with_reducible exact LeO.refl _)
      | (with_reducible exact LeO.none _)
      | (with_reducible refine LeO.ite ?_ ?_)
      | (with_reducible refine LeO.bind ?_ (fun _ => ?_))
      | exact ih0 _ _ _
      | exact ih1 _ _ _ _
      | exact ih2 _ _ _
      | exact LeO.none _
      | refine LeO.ite ?_ ?_
      | refine LeO.bind ?_ (fun _ => ?_)
theorem edits_Diff.mono : ∀ a0 a1 k, LeO (edits_Diff.f k a0 a1) (edits_Diff.f (k + 1) a0 a1) := by
  intro a0 a1 k
  obtain ⟨ih0, ih1, ih2⟩ := edits_Diff.mono_l k
  unfold edits_Diff.f
  repeat' first
      | (with_reducible exact ih0 _ _ _)
      | (with_reducible exact ih1 _ _ _ _)
      | (with_reducible exact ih2 _ _ _)
      | (with_reducible exact LeO.refl _)
      | (with_reducible exact LeO.none _)
      | (with_reducible refine LeO.ite ?_ ?_)
      | (with_reducible refine LeO.bind ?_ (fun _ => ?_))
      | exact ih0 _ _ _
      | exact ih1 _ _ _ _
      | exact ih2 _ _ _
      | exact LeO.none _
      | refine LeO.ite ?_ ?_
      | refine LeO.bind ?_ (fun _ => ?_)
set_option maxHeartbeats 8000000 in
set_option maxRecDepth 100000 in
theorem edits_Diff.calls (k : Nat) (a0 : ByteArray) (a1 : ByteArray) (r : List (S53)) (w : World) (h : edits_Diff.f k a0 a1 = some r) :
    Calls Tryd.prog 22 #[.string a0, .string a1] w fun e w' => ∃ v0_ : Value, e = .returned (v0_) ∧ Kd.R k53 53 w' w.heap.size (fun _ => True) v0_ r ∧ Below w.heap.size w w' := by
  have hu53 := Tryd.underlying53
  have HB := Aside0.mk (Below.refl w.heap.size w)
  have H : (if a0.toList = a1.toList then (some ([] : List (S53))) else (edits_Diff.l0 k a0 a1 0)) = some r := h
  clear h
  by_cases c3 : a0.toList = a1.toList
  · rw [if_pos c3] at H
    have c3b0 : (a0.toList == a1.toList) = true := beq_iff_eq.mpr c3
    have c3b1 : (a0.toList != a1.toList) = false := bne_eq_false_iff_eq.mpr c3
    clear c3
    obtain rfl := Option.some.inj H
    go_enter Tryd.func22, Tryd.ntmps22
    go_wp2
    repeat (go_quiet (fail); try go_wp2)
    go_ret
    exact ⟨_, by first | rfl | (simp [errW_none, errW_some] <;> rfl) | (simp [*, errW_none, errW_some] <;> rfl), by first | exact Kd.R_nil _ _ _ _ _ | exact Kd.N_nil _ _ _ _ _ | exact Kd.V_nil _ _ _ _ _ | exact Kd.Q_nil _ _ _ _ _ | exact Kd.S_nil _ _ _ _ _, by repeat (first | (with_reducible first | exact HB.out | apply below_alloc | apply pw_below_drewN | apply below_drew1) | exact HB.out)⟩
  · rw [if_neg c3] at H
    have c3b0 : (a0.toList == a1.toList) = false := beq_eq_false_iff_ne.mpr c3
    have c3b1 : (a0.toList != a1.toList) = true := bne_iff_ne.mpr c3
    have HC4 := Aside0.mk H
    clear H
    go_enter Tryd.func22, Tryd.ntmps22
    go_upto_block 0 with (fail)
    repeat (go_quiet (fail); go_upto_block 0 with (fail))
    go_cut [5] (fun v5 wc => ∃ (kq : Nat) (x5_3 : Int), v5 = .int .i64 x5_3 ∧ Aside0 (edits_Diff.j1 kq a0 a1 x5_3 = some r) ∧ Aside0 (kq ≤ k) ∧ Aside0 (Below w.heap.size w wc))
    case first =>
      have H := HC4.out
      clear HC4
      have H' := Aside0.mk H
      clear H
      go_wp2
      repeat (go_quiet (fail); try go_wp2)
      go_loopg [5] k (fun kq v5 w' => ∃ (x5_1 : Int), v5 = .int .i64 x5_1 ∧ Aside0 (edits_Diff.l0 kq a0 a1 x5_1 = some r) ∧ Aside0 (kq ≤ k) ∧ Aside0 (Below w.heap.size w w'))
      case atStart => exact ⟨(0), (by first | rfl | (simp; done) | (simp [*]; done)), H', ⟨Nat.le_refl _⟩, ⟨by repeat (first | (with_reducible first | exact HB.out | apply below_alloc | apply pw_below_drewN | apply below_drew1) | exact HB.out)⟩⟩
      case round =>
        clear H'
        try clear c2
        try clear p2
        try clear c3
        try clear c3b0
        try clear c3b1
        obtain ⟨x5_1, rfl, HA, HK1, HB⟩ := hrel
        cases gk with
        | zero => exact absurd HA.out (by simp [edits_Diff.l0])
        | succ k1 =>
          have H := HA.out
          clear HA
          simp only [edits_Diff.l0] at H
          by_cases c5 : x5_1 < (a0.size : Int)
          · rw [if_pos c5] at H
            have c5b0 : decide (x5_1 < (a0.size : Int)) = true := decide_eq_true c5
            clear c5
            (first | rw [c5b0] | (simp only [i64_w, i32_w]; rw [c5b0]) | skip)
            by_cases c6 : x5_1 < (a1.size : Int)
            · rw [if_pos c6] at H
              have c6b0 : decide (x5_1 < (a1.size : Int)) = true := decide_eq_true c6
              clear c6
              by_cases c7 : 0 ≤ x5_1
              · rw [if_pos c7] at H
                have c7b0 : decide (0 ≤ x5_1) = true := decide_eq_true c7
                clear c7
                by_cases c10 : (bt a0 x5_1) = (bt a1 x5_1)
                · rw [if_pos c10] at H
                  have c10b0 : ((bt a0 x5_1) == (bt a1 x5_1)) = true := beq_iff_eq.mpr c10
                  have c10b1 : ((bt a0 x5_1) != (bt a1 x5_1)) = false := bne_eq_false_iff_eq.mpr c10
                  clear c10
                  have H' := Aside0.mk H
                  clear H
                  have p8 : 0 ≤ (x5_1 : Int) := of_decide_eq_true (by first | (with_reducible assumption) | assumption)
                  have q8 : x5_1 < (a0.size : Int) := of_decide_eq_true (by first | (with_reducible assumption) | assumption)
                  have hx8 := bt_at a0 x5_1
                  replace p8 := eq_true p8
                  replace q8 := eq_true q8
                  have p9 : 0 ≤ (x5_1 : Int) := of_decide_eq_true (by first | (with_reducible assumption) | assumption)
                  have q9 : x5_1 < (a1.size : Int) := of_decide_eq_true (by first | (with_reducible assumption) | assumption)
                  have hx9 := bt_at a1 x5_1
                  replace p9 := eq_true p9
                  replace q9 := eq_true q9
                  go_wp2
                  repeat (go_quiet (fail); try go_wp2)
                  go_roundg k1
                  case measure => have := HK1.out; omega
                  case rel => exact ⟨(wrap64 (x5_1 + 1)), (by first | rfl | (simp; done) | (simp [*]; done)), H', ⟨by have := HK1.out; omega⟩, ⟨by repeat (first | (with_reducible first | exact HB.out | apply below_alloc | apply pw_below_drewN | apply below_drew1) | exact HB.out)⟩⟩
                · rw [if_neg c10] at H
                  have c10b0 : ((bt a0 x5_1) == (bt a1 x5_1)) = false := beq_eq_false_iff_ne.mpr c10
                  have c10b1 : ((bt a0 x5_1) != (bt a1 x5_1)) = true := bne_iff_ne.mpr c10
                  have H' := Aside0.mk H
                  clear H
                  have p8 : 0 ≤ (x5_1 : Int) := of_decide_eq_true (by first | (with_reducible assumption) | assumption)
                  have q8 : x5_1 < (a0.size : Int) := of_decide_eq_true (by first | (with_reducible assumption) | assumption)
                  have hx8 := bt_at a0 x5_1
                  replace p8 := eq_true p8
                  replace q8 := eq_true q8
                  have p9 : 0 ≤ (x5_1 : Int) := of_decide_eq_true (by first | (with_reducible assumption) | assumption)
                  have q9 : x5_1 < (a1.size : Int) := of_decide_eq_true (by first | (with_reducible assumption) | assumption)
                  have hx9 := bt_at a1 x5_1
                  replace p9 := eq_true p9
                  replace q9 := eq_true q9
                  go_wp2
                  repeat (go_quiet (fail); try go_wp2)
                  go_meet
                  case rel => exact ⟨_, (x5_1), (by first | rfl | (simp; done) | (simp [*]; done)), H', ⟨by have := HK1.out; first | omega | exact Nat.le_refl _⟩, ⟨by repeat (first | (with_reducible first | exact HB.out | apply below_alloc | apply pw_below_drewN | apply below_drew1) | exact HB.out)⟩⟩
              · rw [if_neg c7] at H
                exact absurd H (by simp)
            · rw [if_neg c6] at H
              have c6b0 : decide (x5_1 < (a1.size : Int)) = false := decide_eq_false c6
              clear c6
              have H' := Aside0.mk H
              clear H
              go_wp2
              repeat (go_quiet (fail); try go_wp2)
              go_meet
              case rel => exact ⟨_, (x5_1), (by first | rfl | (simp; done) | (simp [*]; done)), H', ⟨by have := HK1.out; first | omega | exact Nat.le_refl _⟩, ⟨by repeat (first | (with_reducible first | exact HB.out | apply below_alloc | apply pw_below_drewN | apply below_drew1) | exact HB.out)⟩⟩
          · rw [if_neg c5] at H
            have c5b0 : decide (x5_1 < (a0.size : Int)) = false := decide_eq_false c5
            clear c5
            (first | rw [c5b0] | (simp only [i64_w, i32_w]; rw [c5b0]) | skip)
            have H' := Aside0.mk H
            clear H
            go_wp2
            repeat (go_quiet (fail); try go_wp2)
            go_meet
            case rel => exact ⟨_, (x5_1), (by first | rfl | (simp; done) | (simp [*]; done)), H', ⟨by have := HK1.out; first | omega | exact Nat.le_refl _⟩, ⟨by repeat (first | (with_reducible first | exact HB.out | apply below_alloc | apply pw_below_drewN | apply below_drew1) | exact HB.out)⟩⟩
    case rest =>
      clear HC4
      try clear c1
      try clear c2
      try clear p2
      try clear c3
      try clear c3b0
      try clear c3b1
      try clear c5
      try clear c5b0
      try clear c6
      try clear c6b0
      try clear p6
      try clear c7
      try clear c7b0
      try clear p8
      try clear q8
      try clear hx8
      try clear p9
      try clear q9
      try clear hx9
      try clear c10
      try clear c10b0
      try clear c10b1
      try clear p2
      try clear p8
      try clear p9
      try clear q8
      try clear q9
      obtain ⟨kq, x5_3, rfl, HA, HJ3, HB⟩ := hcut
      cases kq with
      | zero => exact absurd HA.out (by simp [edits_Diff.j1])
      | succ kj3 =>
        have H := HA.out
        clear HA
        simp only [edits_Diff.j1] at H
        have H' := Aside0.mk H
        clear H
        go_wp2
        repeat (go_quiet (fail); try go_wp2)
        go_loopg [6] kj3 (fun kq v6 w' => ∃ (x6_2 : Int), v6 = .int .i64 x6_2 ∧ Aside0 (edits_Diff.l1 kq a0 a1 x5_3 x6_2 = some r) ∧ Aside0 (kq ≤ kj3) ∧ Aside0 (Below w.heap.size w w'))
        case atStart => exact ⟨(0), (by first | rfl | (simp; done) | (simp [*]; done)), H', ⟨Nat.le_refl _⟩, ⟨by repeat (first | (with_reducible first | exact HB.out | apply below_alloc | apply pw_below_drewN | apply below_drew1) | exact HB.out)⟩⟩
        case round =>
          clear H'
          try clear c1
          try clear c2
          try clear p2
          try clear c3
          try clear c3b0
          try clear c3b1
          try clear c5
          try clear c5b0
          try clear c6
          try clear c6b0
          try clear p6
          try clear c7
          try clear c7b0
          try clear p8
          try clear q8
          try clear hx8
          try clear p9
          try clear q9
          try clear hx9
          try clear c10
          try clear c10b0
          try clear c10b1
          try clear p2
          try clear p6
          try clear p8
          try clear p9
          try clear q8
          try clear q9
          obtain ⟨x6_2, rfl, HA, HK2, HB⟩ := hrel
          cases gk with
          | zero => exact absurd HA.out (by simp [edits_Diff.l1])
          | succ k2 =>
            have H := HA.out
            clear HA
            simp only [edits_Diff.l1] at H
            by_cases c11 : x6_2 < (wrap64 ((a0.size : Int) - x5_3))
            · rw [if_pos c11] at H
              have c11b0 : decide (x6_2 < (wrap64 ((a0.size : Int) - x5_3))) = true := decide_eq_true c11
              clear c11
              by_cases c12 : x6_2 < (wrap64 ((a1.size : Int) - x5_3))
              · rw [if_pos c12] at H
                have c12b0 : decide (x6_2 < (wrap64 ((a1.size : Int) - x5_3))) = true := decide_eq_true c12
                clear c12
                obtain ⟨ji13, hji13⟩ : ∃ j_ : Int, (wrap64 ((wrap64 ((a0.size : Int) - 1)) - x6_2)) = j_ := ⟨_, rfl⟩
                replace H : (if 0 ≤ (ji13) then (if (ji13) < (a0.size : Int) then (if 0 ≤ (wrap64 ((wrap64 ((a1.size : Int) - 1)) - x6_2)) then (if (wrap64 ((wrap64 ((a1.size : Int) - 1)) - x6_2)) < (a1.size : Int) then (if (bt a0 (ji13)) = (bt a1 (wrap64 ((wrap64 ((a1.size : Int) - 1)) - x6_2))) then (edits_Diff.l1 k2 a0 a1 x5_3 (wrap64 (x6_2 + 1))) else (if 0 ≤ x5_3 then (if x5_3 ≤ (wrap64 ((a1.size : Int) - x6_2)) then (if (wrap64 ((a1.size : Int) - x6_2)) ≤ (a1.size : Int) then (some (([(⟨x5_3, wrap64 ((a0.size : Int) - x6_2), a1.extract (x5_3 : Int).toNat ((wrap64 ((a1.size : Int) - x6_2)) : Int).toNat⟩ : S53)] : List (S53)))) else (none)) else (none)) else (none))) else (none)) else (none)) else (none)) else (none)) = some r := by first | (rw [hji13] at H; exact H) | (simp only [hji13] at H ⊢; exact H)
                have hji13w : (IntKind.i64.wrap ((wrap64 ((a0.size : Int) - 1)) - x6_2)) = ji13 := (i64_w _).trans hji13
                by_cases c14 : 0 ≤ (ji13)
                · rw [if_pos c14] at H
                  have c14b0 : decide (0 ≤ (ji13)) = true := decide_eq_true c14
                  clear c14
                  by_cases c15 : (ji13) < (a0.size : Int)
                  · rw [if_pos c15] at H
                    have c15b0 : decide ((ji13) < (a0.size : Int)) = true := decide_eq_true c15
                    clear c15
                    obtain ⟨ji17, hji17⟩ : ∃ j_ : Int, (wrap64 ((wrap64 ((a1.size : Int) - 1)) - x6_2)) = j_ := ⟨_, rfl⟩
                    replace H : (if 0 ≤ (ji17) then (if (ji17) < (a1.size : Int) then (if (bt a0 (ji13)) = (bt a1 (ji17)) then (edits_Diff.l1 k2 a0 a1 x5_3 (wrap64 (x6_2 + 1))) else (if 0 ≤ x5_3 then (if x5_3 ≤ (wrap64 ((a1.size : Int) - x6_2)) then (if (wrap64 ((a1.size : Int) - x6_2)) ≤ (a1.size : Int) then (some (([(⟨x5_3, wrap64 ((a0.size : Int) - x6_2), a1.extract (x5_3 : Int).toNat ((wrap64 ((a1.size : Int) - x6_2)) : Int).toNat⟩ : S53)] : List (S53)))) else (none)) else (none)) else (none))) else (none)) else (none)) = some r := by first | (rw [hji17] at H; exact H) | (simp only [hji17] at H ⊢; exact H)
                    have hji17w : (IntKind.i64.wrap ((wrap64 ((a1.size : Int) - 1)) - x6_2)) = ji17 := (i64_w _).trans hji17
                    by_cases c18 : 0 ≤ (ji17)
                    · rw [if_pos c18] at H
                      have c18b0 : decide (0 ≤ (ji17)) = true := decide_eq_true c18
                      clear c18
                      by_cases c19 : (ji17) < (a1.size : Int)
                      · rw [if_pos c19] at H
                        have c19b0 : decide ((ji17) < (a1.size : Int)) = true := decide_eq_true c19
                        clear c19
                        by_cases c21 : (bt a0 (ji13)) = (bt a1 (ji17))
                        · rw [if_pos c21] at H
                          have c21b0 : ((bt a0 (ji13)) == (bt a1 (ji17))) = true := beq_iff_eq.mpr c21
                          have c21b1 : ((bt a0 (ji13)) != (bt a1 (ji17))) = false := bne_eq_false_iff_eq.mpr c21
                          clear c21
                          have H' := Aside0.mk H
                          clear H
                          have p16 : 0 ≤ ((ji13) : Int) := of_decide_eq_true (by first | (with_reducible assumption) | assumption)
                          have q16 : (ji13) < (a0.size : Int) := of_decide_eq_true (by first | (with_reducible assumption) | assumption)
                          have hx16 := bt_at a0 (ji13)
                          replace p16 := eq_true p16
                          replace q16 := eq_true q16
                          have p20 : 0 ≤ ((ji17) : Int) := of_decide_eq_true (by first | (with_reducible assumption) | assumption)
                          have q20 : (ji17) < (a1.size : Int) := of_decide_eq_true (by first | (with_reducible assumption) | assumption)
                          have hx20 := bt_at a1 (ji17)
                          replace p20 := eq_true p20
                          replace q20 := eq_true q20
                          go_wp2
                          repeat (go_quiet (fail); try go_wp2)
                          go_roundg k2
                          case measure => have := HJ3.out; have := HK2.out; omega
                          case rel => exact ⟨(wrap64 (x6_2 + 1)), (by first | rfl | (simp; done) | (simp [*]; done)), H', ⟨by have := HJ3.out; have := HK2.out; omega⟩, ⟨by repeat (first | (with_reducible first | exact HB.out | apply below_alloc | apply pw_below_drewN | apply below_drew1) | exact HB.out)⟩⟩
                        · rw [if_neg c21] at H
                          have c21b0 : ((bt a0 (ji13)) == (bt a1 (ji17))) = false := beq_eq_false_iff_ne.mpr c21
                          have c21b1 : ((bt a0 (ji13)) != (bt a1 (ji17))) = true := bne_iff_ne.mpr c21
                          by_cases c22 : 0 ≤ x5_3
                          · rw [if_pos c22] at H
                            have c22b0 := eq_true c22
                            have c22b1 : decide (0 ≤ x5_3) = true := decide_eq_true c22
                            clear c22
                            by_cases c23 : x5_3 ≤ (wrap64 ((a1.size : Int) - x6_2))
                            · rw [if_pos c23] at H
                              have c23b0 := eq_true c23
                              have c23b1 : decide (x5_3 ≤ (wrap64 ((a1.size : Int) - x6_2))) = true := decide_eq_true c23
                              clear c23
                              by_cases c24 : (wrap64 ((a1.size : Int) - x6_2)) ≤ (a1.size : Int)
                              · rw [if_pos c24] at H
                                have c24b0 := eq_true c24
                                have c24b1 : decide ((wrap64 ((a1.size : Int) - x6_2)) ≤ (a1.size : Int)) = true := decide_eq_true c24
                                clear c24
                                obtain ⟨y111, hy111⟩ : ∃ y_ : List (S53), y_ = (([(⟨x5_3, wrap64 ((a0.size : Int) - x6_2), a1.extract (x5_3 : Int).toNat ((wrap64 ((a1.size : Int) - x6_2)) : Int).toNat⟩ : S53)] : List (S53))) := ⟨_, rfl⟩
                                replace H : (some y111) = some r := by first | (rw [hy111]; with_reducible exact H) | (have H2_ := (Option.bind_some _ _).symm.trans H; rw [hy111]; with_reducible exact H2_) | (have H2_ := (Option.bind_some _ _).symm.trans H; with_reducible exact H2_) | with_reducible exact H | (rw [hy111]; exact H) | exact H
                                have Ny111 := Aside0.mk hy111
                                clear hy111
                                obtain rfl := Option.some.inj H
                                have p16 : 0 ≤ ((ji13) : Int) := of_decide_eq_true (by first | (with_reducible assumption) | assumption)
                                have q16 : (ji13) < (a0.size : Int) := of_decide_eq_true (by first | (with_reducible assumption) | assumption)
                                have hx16 := bt_at a0 (ji13)
                                replace p16 := eq_true p16
                                replace q16 := eq_true q16
                                have p20 : 0 ≤ ((ji17) : Int) := of_decide_eq_true (by first | (with_reducible assumption) | assumption)
                                have q20 : (ji17) < (a1.size : Int) := of_decide_eq_true (by first | (with_reducible assumption) | assumption)
                                have hx20 := bt_at a1 (ji17)
                                replace p20 := eq_true p20
                                replace q20 := eq_true q20
                                go_wp2_with (first | ((with_reducible refine gate_dst (N := 77) rfl ?_); (try (refine gate_guard (by rfl) ?_; dsimp only)); refine Kd.R_lit k53 _ 53 ?hg (N := 77) ?hd (xs := ([(⟨x5_3, wrap64 ((a0.size : Int) - x6_2), a1.extract (x5_3 : Int).toNat ((wrap64 ((a1.size : Int) - x6_2)) : Int).toNat⟩ : S53)] : List (S53))) (inner := [.int .i64 x5_3, .int .i64 (wrap64 ((a0.size : Int) - x6_2)), .string (a1.extract (x5_3 : Int).toNat ((wrap64 ((a1.size : Int) - x6_2)) : Int).toNat)]) (ok := fun _ => True) (okp := fun _ => True) ?hr ?hp (fun _ hk => hk) trivial (Below.refl _ _) (Nat.le_refl _) (by simp) ?_; (case hd => rfl); (case hg => rfl); (case hr => first | (go_simp; done) | (go_simp; rfl)); (case hp => exact (Reps.c3 (show Kd.M k53 _ _ _ (⟨x5_3, wrap64 ((a0.size : Int) - x6_2), a1.extract (x5_3 : Int).toNat ((wrap64 ((a1.size : Int) - x6_2)) : Int).toNat⟩ : S53) [.int .i64 x5_3, .int .i64 (wrap64 ((a0.size : Int) - x6_2)), .string (a1.extract (x5_3 : Int).toNat ((wrap64 ((a1.size : Int) - x6_2)) : Int).toNat)] from (k53_mkM _ _ _ (⟨x5_3, wrap64 ((a0.size : Int) - x6_2), a1.extract (x5_3 : Int).toNat ((wrap64 ((a1.size : Int) - x6_2)) : Int).toNat⟩ : S53) )) (Reps.none _ _))); intro v112 w25 ho26 hb hg_ hnew_; clear hg_ hnew_; (first | rw [← Ny111.out] at ho26 | (simp only [Int.reduceToNat] at ho26; rw [← Ny111.out] at ho26)); have n0_ := Aside0.mk (Kd.R_lower ho26 (below_size (by repeat (first | (with_reducible first | exact HB.out | apply below_alloc | apply pw_below_drewN | apply below_drew1) | exact HB.out)))); have n1_ := Aside0.mk (below_step (by repeat (first | (with_reducible first | exact HB.out | apply below_alloc | apply pw_below_drewN | apply below_drew1) | exact HB.out)) hb); clear HB; have HO113 := n0_; have HB := n1_; clear n0_ n1_; clear hb ho26))
                                repeat (go_quiet (first | ((with_reducible refine gate_dst (N := 77) rfl ?_); (try (refine gate_guard (by rfl) ?_; dsimp only)); refine Kd.R_lit k53 _ 53 ?hg (N := 77) ?hd (xs := ([(⟨x5_3, wrap64 ((a0.size : Int) - x6_2), a1.extract (x5_3 : Int).toNat ((wrap64 ((a1.size : Int) - x6_2)) : Int).toNat⟩ : S53)] : List (S53))) (inner := [.int .i64 x5_3, .int .i64 (wrap64 ((a0.size : Int) - x6_2)), .string (a1.extract (x5_3 : Int).toNat ((wrap64 ((a1.size : Int) - x6_2)) : Int).toNat)]) (ok := fun _ => True) (okp := fun _ => True) ?hr ?hp (fun _ hk => hk) trivial (Below.refl _ _) (Nat.le_refl _) (by simp) ?_; (case hd => rfl); (case hg => rfl); (case hr => first | (go_simp; done) | (go_simp; rfl)); (case hp => exact (Reps.c3 (show Kd.M k53 _ _ _ (⟨x5_3, wrap64 ((a0.size : Int) - x6_2), a1.extract (x5_3 : Int).toNat ((wrap64 ((a1.size : Int) - x6_2)) : Int).toNat⟩ : S53) [.int .i64 x5_3, .int .i64 (wrap64 ((a0.size : Int) - x6_2)), .string (a1.extract (x5_3 : Int).toNat ((wrap64 ((a1.size : Int) - x6_2)) : Int).toNat)] from (k53_mkM _ _ _ (⟨x5_3, wrap64 ((a0.size : Int) - x6_2), a1.extract (x5_3 : Int).toNat ((wrap64 ((a1.size : Int) - x6_2)) : Int).toNat⟩ : S53) )) (Reps.none _ _))); intro v112 w25 ho26 hb hg_ hnew_; clear hg_ hnew_; (first | rw [← Ny111.out] at ho26 | (simp only [Int.reduceToNat] at ho26; rw [← Ny111.out] at ho26)); have n0_ := Aside0.mk (Kd.R_lower ho26 (below_size (by repeat (first | (with_reducible first | exact HB.out | apply below_alloc | apply pw_below_drewN | apply below_drew1) | exact HB.out)))); have n1_ := Aside0.mk (below_step (by repeat (first | (with_reducible first | exact HB.out | apply below_alloc | apply pw_below_drewN | apply below_drew1) | exact HB.out)) hb); clear HB; have HO113 := n0_; have HB := n1_; clear n0_ n1_; clear hb ho26)); try go_wp2_with (first | ((with_reducible refine gate_dst (N := 77) rfl ?_); (try (refine gate_guard (by rfl) ?_; dsimp only)); refine Kd.R_lit k53 _ 53 ?hg (N := 77) ?hd (xs := ([(⟨x5_3, wrap64 ((a0.size : Int) - x6_2), a1.extract (x5_3 : Int).toNat ((wrap64 ((a1.size : Int) - x6_2)) : Int).toNat⟩ : S53)] : List (S53))) (inner := [.int .i64 x5_3, .int .i64 (wrap64 ((a0.size : Int) - x6_2)), .string (a1.extract (x5_3 : Int).toNat ((wrap64 ((a1.size : Int) - x6_2)) : Int).toNat)]) (ok := fun _ => True) (okp := fun _ => True) ?hr ?hp (fun _ hk => hk) trivial (Below.refl _ _) (Nat.le_refl _) (by simp) ?_; (case hd => rfl); (case hg => rfl); (case hr => first | (go_simp; done) | (go_simp; rfl)); (case hp => exact (Reps.c3 (show Kd.M k53 _ _ _ (⟨x5_3, wrap64 ((a0.size : Int) - x6_2), a1.extract (x5_3 : Int).toNat ((wrap64 ((a1.size : Int) - x6_2)) : Int).toNat⟩ : S53) [.int .i64 x5_3, .int .i64 (wrap64 ((a0.size : Int) - x6_2)), .string (a1.extract (x5_3 : Int).toNat ((wrap64 ((a1.size : Int) - x6_2)) : Int).toNat)] from (k53_mkM _ _ _ (⟨x5_3, wrap64 ((a0.size : Int) - x6_2), a1.extract (x5_3 : Int).toNat ((wrap64 ((a1.size : Int) - x6_2)) : Int).toNat⟩ : S53) )) (Reps.none _ _))); intro v112 w25 ho26 hb hg_ hnew_; clear hg_ hnew_; (first | rw [← Ny111.out] at ho26 | (simp only [Int.reduceToNat] at ho26; rw [← Ny111.out] at ho26)); have n0_ := Aside0.mk (Kd.R_lower ho26 (below_size (by repeat (first | (with_reducible first | exact HB.out | apply below_alloc | apply pw_below_drewN | apply below_drew1) | exact HB.out)))); have n1_ := Aside0.mk (below_step (by repeat (first | (with_reducible first | exact HB.out | apply below_alloc | apply pw_below_drewN | apply below_drew1) | exact HB.out)) hb); clear HB; have HO113 := n0_; have HB := n1_; clear n0_ n1_; clear hb ho26)))
                                go_ret
                                exact ⟨_, by first | rfl | (simp [errW_none, errW_some] <;> rfl) | (simp only [← hji13, ← hji17]; first | rfl | (simp [errW_none, errW_some] <;> rfl)) | (simp [*, errW_none, errW_some] <;> rfl), by (with_reducible repeat (first | apply Kd.R_alloc | apply Kd.R_drewN | apply Kd.R_drew)); exact HO113.out, by repeat (first | (with_reducible first | exact HB.out | apply below_alloc | apply pw_below_drewN | apply below_drew1) | exact HB.out)⟩
                              · rw [if_neg c24] at H
                                exact absurd H (by simp)
                            · rw [if_neg c23] at H
                              exact absurd H (by simp)
                          · rw [if_neg c22] at H
                            exact absurd H (by simp)
                      · rw [if_neg c19] at H
                        exact absurd H (by simp)
                    · rw [if_neg c18] at H
                      exact absurd H (by simp)
                  · rw [if_neg c15] at H
                    exact absurd H (by simp)
                · rw [if_neg c14] at H
                  exact absurd H (by simp)
              · rw [if_neg c12] at H
                have c12b0 : decide (x6_2 < (wrap64 ((a1.size : Int) - x5_3))) = false := decide_eq_false c12
                clear c12
                by_cases c27 : 0 ≤ x5_3
                · rw [if_pos c27] at H
                  have c27b0 := eq_true c27
                  have c27b1 : decide (0 ≤ x5_3) = true := decide_eq_true c27
                  clear c27
                  by_cases c28 : x5_3 ≤ (wrap64 ((a1.size : Int) - x6_2))
                  · rw [if_pos c28] at H
                    have c28b0 := eq_true c28
                    have c28b1 : decide (x5_3 ≤ (wrap64 ((a1.size : Int) - x6_2))) = true := decide_eq_true c28
                    clear c28
                    by_cases c29 : (wrap64 ((a1.size : Int) - x6_2)) ≤ (a1.size : Int)
                    · rw [if_pos c29] at H
                      have c29b0 := eq_true c29
                      have c29b1 : decide ((wrap64 ((a1.size : Int) - x6_2)) ≤ (a1.size : Int)) = true := decide_eq_true c29
                      clear c29
                      obtain ⟨y114, hy114⟩ : ∃ y_ : List (S53), y_ = (([(⟨x5_3, wrap64 ((a0.size : Int) - x6_2), a1.extract (x5_3 : Int).toNat ((wrap64 ((a1.size : Int) - x6_2)) : Int).toNat⟩ : S53)] : List (S53))) := ⟨_, rfl⟩
                      replace H : (some y114) = some r := by first | (rw [hy114]; with_reducible exact H) | (have H2_ := (Option.bind_some _ _).symm.trans H; rw [hy114]; with_reducible exact H2_) | (have H2_ := (Option.bind_some _ _).symm.trans H; with_reducible exact H2_) | with_reducible exact H | (rw [hy114]; exact H) | exact H
                      have Ny114 := Aside0.mk hy114
                      clear hy114
                      obtain rfl := Option.some.inj H
                      go_wp2_with (first | ((with_reducible refine gate_dst (N := 77) rfl ?_); (try (refine gate_guard (by rfl) ?_; dsimp only)); refine Kd.R_lit k53 _ 53 ?hg (N := 77) ?hd (xs := ([(⟨x5_3, wrap64 ((a0.size : Int) - x6_2), a1.extract (x5_3 : Int).toNat ((wrap64 ((a1.size : Int) - x6_2)) : Int).toNat⟩ : S53)] : List (S53))) (inner := [.int .i64 x5_3, .int .i64 (wrap64 ((a0.size : Int) - x6_2)), .string (a1.extract (x5_3 : Int).toNat ((wrap64 ((a1.size : Int) - x6_2)) : Int).toNat)]) (ok := fun _ => True) (okp := fun _ => True) ?hr ?hp (fun _ hk => hk) trivial (Below.refl _ _) (Nat.le_refl _) (by simp) ?_; (case hd => rfl); (case hg => rfl); (case hr => first | (go_simp; done) | (go_simp; rfl)); (case hp => exact (Reps.c3 (show Kd.M k53 _ _ _ (⟨x5_3, wrap64 ((a0.size : Int) - x6_2), a1.extract (x5_3 : Int).toNat ((wrap64 ((a1.size : Int) - x6_2)) : Int).toNat⟩ : S53) [.int .i64 x5_3, .int .i64 (wrap64 ((a0.size : Int) - x6_2)), .string (a1.extract (x5_3 : Int).toNat ((wrap64 ((a1.size : Int) - x6_2)) : Int).toNat)] from (k53_mkM _ _ _ (⟨x5_3, wrap64 ((a0.size : Int) - x6_2), a1.extract (x5_3 : Int).toNat ((wrap64 ((a1.size : Int) - x6_2)) : Int).toNat⟩ : S53) )) (Reps.none _ _))); intro v115 w30 ho31 hb hg_ hnew_; clear hg_ hnew_; (first | rw [← Ny114.out] at ho31 | (simp only [Int.reduceToNat] at ho31; rw [← Ny114.out] at ho31)); have n0_ := Aside0.mk (Kd.R_lower ho31 (below_size (by repeat (first | (with_reducible first | exact HB.out | apply below_alloc | apply pw_below_drewN | apply below_drew1) | exact HB.out)))); have n1_ := Aside0.mk (below_step (by repeat (first | (with_reducible first | exact HB.out | apply below_alloc | apply pw_below_drewN | apply below_drew1) | exact HB.out)) hb); clear HB; have HO116 := n0_; have HB := n1_; clear n0_ n1_; clear hb ho31))
                      repeat (go_quiet (first | ((with_reducible refine gate_dst (N := 77) rfl ?_); (try (refine gate_guard (by rfl) ?_; dsimp only)); refine Kd.R_lit k53 _ 53 ?hg (N := 77) ?hd (xs := ([(⟨x5_3, wrap64 ((a0.size : Int) - x6_2), a1.extract (x5_3 : Int).toNat ((wrap64 ((a1.size : Int) - x6_2)) : Int).toNat⟩ : S53)] : List (S53))) (inner := [.int .i64 x5_3, .int .i64 (wrap64 ((a0.size : Int) - x6_2)), .string (a1.extract (x5_3 : Int).toNat ((wrap64 ((a1.size : Int) - x6_2)) : Int).toNat)]) (ok := fun _ => True) (okp := fun _ => True) ?hr ?hp (fun _ hk => hk) trivial (Below.refl _ _) (Nat.le_refl _) (by simp) ?_; (case hd => rfl); (case hg => rfl); (case hr => first | (go_simp; done) | (go_simp; rfl)); (case hp => exact (Reps.c3 (show Kd.M k53 _ _ _ (⟨x5_3, wrap64 ((a0.size : Int) - x6_2), a1.extract (x5_3 : Int).toNat ((wrap64 ((a1.size : Int) - x6_2)) : Int).toNat⟩ : S53) [.int .i64 x5_3, .int .i64 (wrap64 ((a0.size : Int) - x6_2)), .string (a1.extract (x5_3 : Int).toNat ((wrap64 ((a1.size : Int) - x6_2)) : Int).toNat)] from (k53_mkM _ _ _ (⟨x5_3, wrap64 ((a0.size : Int) - x6_2), a1.extract (x5_3 : Int).toNat ((wrap64 ((a1.size : Int) - x6_2)) : Int).toNat⟩ : S53) )) (Reps.none _ _))); intro v115 w30 ho31 hb hg_ hnew_; clear hg_ hnew_; (first | rw [← Ny114.out] at ho31 | (simp only [Int.reduceToNat] at ho31; rw [← Ny114.out] at ho31)); have n0_ := Aside0.mk (Kd.R_lower ho31 (below_size (by repeat (first | (with_reducible first | exact HB.out | apply below_alloc | apply pw_below_drewN | apply below_drew1) | exact HB.out)))); have n1_ := Aside0.mk (below_step (by repeat (first | (with_reducible first | exact HB.out | apply below_alloc | apply pw_below_drewN | apply below_drew1) | exact HB.out)) hb); clear HB; have HO116 := n0_; have HB := n1_; clear n0_ n1_; clear hb ho31)); try go_wp2_with (first | ((with_reducible refine gate_dst (N := 77) rfl ?_); (try (refine gate_guard (by rfl) ?_; dsimp only)); refine Kd.R_lit k53 _ 53 ?hg (N := 77) ?hd (xs := ([(⟨x5_3, wrap64 ((a0.size : Int) - x6_2), a1.extract (x5_3 : Int).toNat ((wrap64 ((a1.size : Int) - x6_2)) : Int).toNat⟩ : S53)] : List (S53))) (inner := [.int .i64 x5_3, .int .i64 (wrap64 ((a0.size : Int) - x6_2)), .string (a1.extract (x5_3 : Int).toNat ((wrap64 ((a1.size : Int) - x6_2)) : Int).toNat)]) (ok := fun _ => True) (okp := fun _ => True) ?hr ?hp (fun _ hk => hk) trivial (Below.refl _ _) (Nat.le_refl _) (by simp) ?_; (case hd => rfl); (case hg => rfl); (case hr => first | (go_simp; done) | (go_simp; rfl)); (case hp => exact (Reps.c3 (show Kd.M k53 _ _ _ (⟨x5_3, wrap64 ((a0.size : Int) - x6_2), a1.extract (x5_3 : Int).toNat ((wrap64 ((a1.size : Int) - x6_2)) : Int).toNat⟩ : S53) [.int .i64 x5_3, .int .i64 (wrap64 ((a0.size : Int) - x6_2)), .string (a1.extract (x5_3 : Int).toNat ((wrap64 ((a1.size : Int) - x6_2)) : Int).toNat)] from (k53_mkM _ _ _ (⟨x5_3, wrap64 ((a0.size : Int) - x6_2), a1.extract (x5_3 : Int).toNat ((wrap64 ((a1.size : Int) - x6_2)) : Int).toNat⟩ : S53) )) (Reps.none _ _))); intro v115 w30 ho31 hb hg_ hnew_; clear hg_ hnew_; (first | rw [← Ny114.out] at ho31 | (simp only [Int.reduceToNat] at ho31; rw [← Ny114.out] at ho31)); have n0_ := Aside0.mk (Kd.R_lower ho31 (below_size (by repeat (first | (with_reducible first | exact HB.out | apply below_alloc | apply pw_below_drewN | apply below_drew1) | exact HB.out)))); have n1_ := Aside0.mk (below_step (by repeat (first | (with_reducible first | exact HB.out | apply below_alloc | apply pw_below_drewN | apply below_drew1) | exact HB.out)) hb); clear HB; have HO116 := n0_; have HB := n1_; clear n0_ n1_; clear hb ho31)))
                      go_ret
                      exact ⟨_, by first | rfl | (simp [errW_none, errW_some] <;> rfl) | (simp [*, errW_none, errW_some] <;> rfl), by (with_reducible repeat (first | apply Kd.R_alloc | apply Kd.R_drewN | apply Kd.R_drew)); exact HO116.out, by repeat (first | (with_reducible first | exact HB.out | apply below_alloc | apply pw_below_drewN | apply below_drew1) | exact HB.out)⟩
                    · rw [if_neg c29] at H
                      exact absurd H (by simp)
                  · rw [if_neg c28] at H
                    exact absurd H (by simp)
                · rw [if_neg c27] at H
                  exact absurd H (by simp)
            · rw [if_neg c11] at H
              have c11b0 : decide (x6_2 < (wrap64 ((a0.size : Int) - x5_3))) = false := decide_eq_false c11
              clear c11
              by_cases c32 : 0 ≤ x5_3
              · rw [if_pos c32] at H
                have c32b0 := eq_true c32
                have c32b1 : decide (0 ≤ x5_3) = true := decide_eq_true c32
                clear c32
                by_cases c33 : x5_3 ≤ (wrap64 ((a1.size : Int) - x6_2))
                · rw [if_pos c33] at H
                  have c33b0 := eq_true c33
                  have c33b1 : decide (x5_3 ≤ (wrap64 ((a1.size : Int) - x6_2))) = true := decide_eq_true c33
                  clear c33
                  by_cases c34 : (wrap64 ((a1.size : Int) - x6_2)) ≤ (a1.size : Int)
                  · rw [if_pos c34] at H
                    have c34b0 := eq_true c34
                    have c34b1 : decide ((wrap64 ((a1.size : Int) - x6_2)) ≤ (a1.size : Int)) = true := decide_eq_true c34
                    clear c34
                    obtain ⟨y117, hy117⟩ : ∃ y_ : List (S53), y_ = (([(⟨x5_3, wrap64 ((a0.size : Int) - x6_2), a1.extract (x5_3 : Int).toNat ((wrap64 ((a1.size : Int) - x6_2)) : Int).toNat⟩ : S53)] : List (S53))) := ⟨_, rfl⟩
                    replace H : (some y117) = some r := by first | (rw [hy117]; with_reducible exact H) | (have H2_ := (Option.bind_some _ _).symm.trans H; rw [hy117]; with_reducible exact H2_) | (have H2_ := (Option.bind_some _ _).symm.trans H; with_reducible exact H2_) | with_reducible exact H | (rw [hy117]; exact H) | exact H
                    have Ny117 := Aside0.mk hy117
                    clear hy117
                    obtain rfl := Option.some.inj H
                    go_wp2_with (first | ((with_reducible refine gate_dst (N := 77) rfl ?_); (try (refine gate_guard (by rfl) ?_; dsimp only)); refine Kd.R_lit k53 _ 53 ?hg (N := 77) ?hd (xs := ([(⟨x5_3, wrap64 ((a0.size : Int) - x6_2), a1.extract (x5_3 : Int).toNat ((wrap64 ((a1.size : Int) - x6_2)) : Int).toNat⟩ : S53)] : List (S53))) (inner := [.int .i64 x5_3, .int .i64 (wrap64 ((a0.size : Int) - x6_2)), .string (a1.extract (x5_3 : Int).toNat ((wrap64 ((a1.size : Int) - x6_2)) : Int).toNat)]) (ok := fun _ => True) (okp := fun _ => True) ?hr ?hp (fun _ hk => hk) trivial (Below.refl _ _) (Nat.le_refl _) (by simp) ?_; (case hd => rfl); (case hg => rfl); (case hr => first | (go_simp; done) | (go_simp; rfl)); (case hp => exact (Reps.c3 (show Kd.M k53 _ _ _ (⟨x5_3, wrap64 ((a0.size : Int) - x6_2), a1.extract (x5_3 : Int).toNat ((wrap64 ((a1.size : Int) - x6_2)) : Int).toNat⟩ : S53) [.int .i64 x5_3, .int .i64 (wrap64 ((a0.size : Int) - x6_2)), .string (a1.extract (x5_3 : Int).toNat ((wrap64 ((a1.size : Int) - x6_2)) : Int).toNat)] from (k53_mkM _ _ _ (⟨x5_3, wrap64 ((a0.size : Int) - x6_2), a1.extract (x5_3 : Int).toNat ((wrap64 ((a1.size : Int) - x6_2)) : Int).toNat⟩ : S53) )) (Reps.none _ _))); intro v118 w35 ho36 hb hg_ hnew_; clear hg_ hnew_; (first | rw [← Ny117.out] at ho36 | (simp only [Int.reduceToNat] at ho36; rw [← Ny117.out] at ho36)); have n0_ := Aside0.mk (Kd.R_lower ho36 (below_size (by repeat (first | (with_reducible first | exact HB.out | apply below_alloc | apply pw_below_drewN | apply below_drew1) | exact HB.out)))); have n1_ := Aside0.mk (below_step (by repeat (first | (with_reducible first | exact HB.out | apply below_alloc | apply pw_below_drewN | apply below_drew1) | exact HB.out)) hb); clear HB; have HO119 := n0_; have HB := n1_; clear n0_ n1_; clear hb ho36))
                    repeat (go_quiet (first | ((with_reducible refine gate_dst (N := 77) rfl ?_); (try (refine gate_guard (by rfl) ?_; dsimp only)); refine Kd.R_lit k53 _ 53 ?hg (N := 77) ?hd (xs := ([(⟨x5_3, wrap64 ((a0.size : Int) - x6_2), a1.extract (x5_3 : Int).toNat ((wrap64 ((a1.size : Int) - x6_2)) : Int).toNat⟩ : S53)] : List (S53))) (inner := [.int .i64 x5_3, .int .i64 (wrap64 ((a0.size : Int) - x6_2)), .string (a1.extract (x5_3 : Int).toNat ((wrap64 ((a1.size : Int) - x6_2)) : Int).toNat)]) (ok := fun _ => True) (okp := fun _ => True) ?hr ?hp (fun _ hk => hk) trivial (Below.refl _ _) (Nat.le_refl _) (by simp) ?_; (case hd => rfl); (case hg => rfl); (case hr => first | (go_simp; done) | (go_simp; rfl)); (case hp => exact (Reps.c3 (show Kd.M k53 _ _ _ (⟨x5_3, wrap64 ((a0.size : Int) - x6_2), a1.extract (x5_3 : Int).toNat ((wrap64 ((a1.size : Int) - x6_2)) : Int).toNat⟩ : S53) [.int .i64 x5_3, .int .i64 (wrap64 ((a0.size : Int) - x6_2)), .string (a1.extract (x5_3 : Int).toNat ((wrap64 ((a1.size : Int) - x6_2)) : Int).toNat)] from (k53_mkM _ _ _ (⟨x5_3, wrap64 ((a0.size : Int) - x6_2), a1.extract (x5_3 : Int).toNat ((wrap64 ((a1.size : Int) - x6_2)) : Int).toNat⟩ : S53) )) (Reps.none _ _))); intro v118 w35 ho36 hb hg_ hnew_; clear hg_ hnew_; (first | rw [← Ny117.out] at ho36 | (simp only [Int.reduceToNat] at ho36; rw [← Ny117.out] at ho36)); have n0_ := Aside0.mk (Kd.R_lower ho36 (below_size (by repeat (first | (with_reducible first | exact HB.out | apply below_alloc | apply pw_below_drewN | apply below_drew1) | exact HB.out)))); have n1_ := Aside0.mk (below_step (by repeat (first | (with_reducible first | exact HB.out | apply below_alloc | apply pw_below_drewN | apply below_drew1) | exact HB.out)) hb); clear HB; have HO119 := n0_; have HB := n1_; clear n0_ n1_; clear hb ho36)); try go_wp2_with (first | ((with_reducible refine gate_dst (N := 77) rfl ?_); (try (refine gate_guard (by rfl) ?_; dsimp only)); refine Kd.R_lit k53 _ 53 ?hg (N := 77) ?hd (xs := ([(⟨x5_3, wrap64 ((a0.size : Int) - x6_2), a1.extract (x5_3 : Int).toNat ((wrap64 ((a1.size : Int) - x6_2)) : Int).toNat⟩ : S53)] : List (S53))) (inner := [.int .i64 x5_3, .int .i64 (wrap64 ((a0.size : Int) - x6_2)), .string (a1.extract (x5_3 : Int).toNat ((wrap64 ((a1.size : Int) - x6_2)) : Int).toNat)]) (ok := fun _ => True) (okp := fun _ => True) ?hr ?hp (fun _ hk => hk) trivial (Below.refl _ _) (Nat.le_refl _) (by simp) ?_; (case hd => rfl); (case hg => rfl); (case hr => first | (go_simp; done) | (go_simp; rfl)); (case hp => exact (Reps.c3 (show Kd.M k53 _ _ _ (⟨x5_3, wrap64 ((a0.size : Int) - x6_2), a1.extract (x5_3 : Int).toNat ((wrap64 ((a1.size : Int) - x6_2)) : Int).toNat⟩ : S53) [.int .i64 x5_3, .int .i64 (wrap64 ((a0.size : Int) - x6_2)), .string (a1.extract (x5_3 : Int).toNat ((wrap64 ((a1.size : Int) - x6_2)) : Int).toNat)] from (k53_mkM _ _ _ (⟨x5_3, wrap64 ((a0.size : Int) - x6_2), a1.extract (x5_3 : Int).toNat ((wrap64 ((a1.size : Int) - x6_2)) : Int).toNat⟩ : S53) )) (Reps.none _ _))); intro v118 w35 ho36 hb hg_ hnew_; clear hg_ hnew_; (first | rw [← Ny117.out] at ho36 | (simp only [Int.reduceToNat] at ho36; rw [← Ny117.out] at ho36)); have n0_ := Aside0.mk (Kd.R_lower ho36 (below_size (by repeat (first | (with_reducible first | exact HB.out | apply below_alloc | apply pw_below_drewN | apply below_drew1) | exact HB.out)))); have n1_ := Aside0.mk (below_step (by repeat (first | (with_reducible first | exact HB.out | apply below_alloc | apply pw_below_drewN | apply below_drew1) | exact HB.out)) hb); clear HB; have HO119 := n0_; have HB := n1_; clear n0_ n1_; clear hb ho36)))
                    go_ret
                    exact ⟨_, by first | rfl | (simp [errW_none, errW_some] <;> rfl) | (simp [*, errW_none, errW_some] <;> rfl), by (with_reducible repeat (first | apply Kd.R_alloc | apply Kd.R_drewN | apply Kd.R_drew)); exact HO119.out, by repeat (first | (with_reducible first | exact HB.out | apply below_alloc | apply pw_below_drewN | apply below_drew1) | exact HB.out)⟩
                  · rw [if_neg c34] at H
                    exact absurd H (by simp)
                · rw [if_neg c33] at H
                  exact absurd H (by simp)
              · rw [if_neg c32] at H
                exact absurd H (by simp)

end Go.Proofs.YtlcojdppcjbfdaaDoor.F
