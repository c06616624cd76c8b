-- Written by mp.sh (a program of this work) out of the translation; Lean checks it.
import Derived.Test.YtlcojdppcjbfdaaDoorF0
namespace Go.Proofs.YtlcojdppcjbfdaaDoor.F
open Go.RowKit Go.Proofs.YtlcojdppcjbfdaaDoorW.PrintWords Go.Proofs.YtlcojdppcjbfdaaDoorW.PrintLast Go.Proofs.YtlcojdppcjbfdaaDoorW.PrintMore
attribute [local go_sem] max2_int min2_int max_two min_two max_three min_three max_four min_four   -- for this text's walks alone
set_option linter.unusedVariables false
set_option linter.unusedSimpArgs false

/-! ### edits_Shift: function 20 -/
mutual
def edits_Shift.l0 : Nat → Int → Int → Int → List (S53) → Int → Int → Option (Int)
  | 0, _, _, _, _, _, _ => none
  | k + 1, x1, x5, x6, x9, x10, x11 => if x11 < x10 then (if 0 ≤ x11 then (if x11 < (x9.length : Int) then (if ((rd_T53 x9 x11).f0) < x1 then (edits_Shift.j1 k x1 x5 x6 x9 x10 x11 (decide (x1 < ((rd_T53 x9 x11).f1))) ((rd_T53 x9 x11).f0) ((rd_T53 x9 x11).f1) ((rd_T53 x9 x11).f2)) else (edits_Shift.j1 k x1 x5 x6 x9 x10 x11 false ((rd_T53 x9 x11).f0) ((rd_T53 x9 x11).f1) ((rd_T53 x9 x11).f2))) else (none)) else (none)) else (some (wrap64 (x1 + x6)))
def edits_Shift.j1 : Nat → Int → Int → Int → List (S53) → Int → Int → Bool → Int → Int → ByteArray → Option (Int)
  | 0, _, _, _, _, _, _, _, _, _, _ => none
  | k + 1, x1, x5, x6, x9, x10, x11, x24, x111000, x111001, x111002 => if x24 = true then (some (wrap64 (x111000 + x5))) else (if x111001 ≤ x1 then (if x111000 < x1 then (edits_Shift.l0 k x1 (wrap64 (x5 + (wrap64 ((x111002.size : Int) - (wrap64 (x111001 - x111000)))))) (wrap64 (x6 + (wrap64 ((x111002.size : Int) - (wrap64 (x111001 - x111000)))))) x9 x10 (wrap64 (x11 + 1))) else (edits_Shift.l0 k x1 (wrap64 (x5 + (wrap64 ((x111002.size : Int) - (wrap64 (x111001 - x111000)))))) x6 x9 x10 (wrap64 (x11 + 1)))) else (edits_Shift.l0 k x1 (wrap64 (x5 + (wrap64 ((x111002.size : Int) - (wrap64 (x111001 - x111000)))))) x6 x9 x10 (wrap64 (x11 + 1))))
end
def edits_Shift.f (k : Nat) (l0 : List (S53)) (a1 : Int) : Option (Int) := edits_Shift.l0 k a1 0 0 l0 (l0.length : Int) 0
theorem edits_Shift.mono_l : ∀ k, (∀ y0 y1 y2 y3 y4 y5, LeO (edits_Shift.l0 k y0 y1 y2 y3 y4 y5) (edits_Shift.l0 (k + 1) y0 y1 y2 y3 y4 y5)) ∧ (∀ y0 y1 y2 y3 y4 y5 y6 y7 y8 y9, LeO (edits_Shift.j1 k y0 y1 y2 y3 y4 y5 y6 y7 y8 y9) (edits_Shift.j1 (k + 1) y0 y1 y2 y3 y4 y5 y6 y7 y8 y9))
  | 0 => ⟨fun _ _ _ _ _ _ r h => by simp [edits_Shift.l0] at h, fun _ _ _ _ _ _ _ _ _ _ r h => by simp [edits_Shift.j1] at h⟩
  | k + 1 => by
    obtain ⟨ih0, ih1⟩ := edits_Shift.mono_l k
    refine ⟨?_, ?_⟩
    · intro y0 y1 y2 y3 y4 y5
      unfold edits_Shift.l0
      repeat' first
      | (with_reducible exact ih0 _ _ _ _ _ _)
      | (with_reducible exact ih1 _ _ _ _ _ _ _ _ _ _)
      | (with_reducible exact LeO.refl _)
      | (with_reducible exact LeO.none _)
      | (with_reducible refine LeO.ite ?_ ?_)
      | (with_reducible refine LeO.bind ?_ (fun _ => ?_))
      | exact ih0 _ _ _ _ _ _
      | exact ih1 _ _ _ _ _ _ _ _ _ _
      | exact LeO.none _
      | refine LeO.ite ?_ ?_
      | refine LeO.bind ?_ (fun _ => ?_)
    · intro y0 y1 y2 y3 y4 y5 y6 y7 y8 y9
      unfold edits_Shift.j1
      repeat' first
      | (with_reducible exact ih0 _ _ _ _ _ _)
      | (with_reducible exact ih1 _ _ _ _ _ _ _ _ _ _)
      | (with_reducible exact LeO.refl _)
      | (with_reducible exact LeO.none _)
      | (with_reducible refine LeO.ite ?_ ?_)
      | (with_reducible refine LeO.bind ?_ (fun _ => ?_))
      | exact ih0 _ _ _ _ _ _
      | exact ih1 _ _ _ _ _ _ _ _ _ _
      | exact LeO.none _
      | refine LeO.ite ?_ ?_
      | refine LeO.bind ?_ (fun _ => ?_)
theorem edits_Shift.mono : ∀ a0 a1 k, LeO (edits_Shift.f k a0 a1) (edits_Shift.f (k + 1) a0 a1) := by
  intro a0 a1 k
  obtain ⟨ih0, ih1⟩ := edits_Shift.mono_l k
  unfold edits_Shift.f
  repeat' first
      | (with_reducible exact ih0 _ _ _ _ _ _)
      | (with_reducible exact ih1 _ _ _ _ _ _ _ _ _ _)
      | (with_reducible exact LeO.refl _)
      | (with_reducible exact LeO.none _)
      | (with_reducible refine LeO.ite ?_ ?_)
      | (with_reducible refine LeO.bind ?_ (fun _ => ?_))
      | exact ih0 _ _ _ _ _ _
      | exact ih1 _ _ _ _ _ _ _ _ _ _
      | exact LeO.none _
      | refine LeO.ite ?_ ?_
      | refine LeO.bind ?_ (fun _ => ?_)
set_option maxHeartbeats 8000000 in
set_option maxRecDepth 100000 in
theorem edits_Shift.calls (k : Nat) (A0 : Option Addr) (c0 : Nat) (l0 : List (S53)) (a1 : Int) (r : Int) (w : World) (hr0 : Kd.C k53 w A0 l0.length l0) (hc0 : l0.length ≤ c0) (h : edits_Shift.f k l0 a1 = some r) :
    Calls Tryd.prog 20 #[.slice A0 l0.length c0, .int .i64 a1] w fun e w' => e = .returned (.int .i64 r) ∧ Below w.heap.size w w' := by
  have hu53 := Tryd.underlying53
  have HR0 := Aside0.mk hr0
  have HC0 := Aside0.mk hc0
  clear hr0 hc0
  have HB := Aside0.mk (Below.refl w.heap.size w)
  have H : (edits_Shift.l0 k a1 0 0 l0 (l0.length : Int) 0) = some r := h
  clear h
  have H' := Aside0.mk H
  clear H
  go_enter Tryd.func20, Tryd.ntmps20
  go_wp2
  go_loopg [5, 6, 11] k (fun kq v5 v6 v11 w' => ∃ (x5_1 : Int) (x6_1 : Int) (x11_1 : Int), v5 = .int .i64 x5_1 ∧ v6 = .int .i64 x6_1 ∧ v11 = .int .i64 x11_1 ∧ Aside0 (edits_Shift.l0 kq a1 x5_1 x6_1 l0 (l0.length : Int) x11_1 = some r) ∧ Aside0 (kq ≤ k) ∧ Aside0 (Below w.heap.size w w'))
  case atStart => exact ⟨(0), (0), (0), (by first | rfl | (simp; done) | (simp [*]; done)), (by first | rfl | (simp; done) | (simp [*]; done)), (by first | rfl | (simp; done) | (simp [*]; done)), H', ⟨Nat.le_refl _⟩, ⟨by repeat (first | (with_reducible first | exact HB.out | apply below_alloc | apply pw_below_drewN | apply below_drew1) | exact HB.out)⟩⟩
  case round =>
    clear H'
    try clear c2
    try clear p2
    obtain ⟨x5_1, x6_1, x11_1, rfl, rfl, rfl, HA, HK1, HB⟩ := hrel
    cases gk with
    | zero => exact absurd HA.out (by simp [edits_Shift.l0])
    | succ k1 =>
      have H := HA.out
      clear HA
      simp only [edits_Shift.l0] at H
      by_cases c3 : x11_1 < (l0.length : Int)
      · rw [if_pos c3] at H
        have c3b0 : decide (x11_1 < (l0.length : Int)) = true := decide_eq_true c3
        clear c3
        by_cases c4 : 0 ≤ x11_1
        · rw [if_pos c4] at H
          have c4b0 : decide (0 ≤ x11_1) = true := decide_eq_true c4
          clear c4
          by_cases c5 : x11_1 < (l0.length : Int)
          · rw [if_pos c5] at H
            have c5b0 : decide (x11_1 < (l0.length : Int)) = true := decide_eq_true c5
            clear c5
            have HC6 := Aside0.mk H
            clear H
            have p109 : 0 ≤ (x11_1 : Int) := of_decide_eq_true (by first | (with_reducible assumption) | assumption)
            have q109 : x11_1 < (l0.length : Int) := of_decide_eq_true (by first | (with_reducible assumption) | assumption)
            obtain ⟨ad109, e109, hx109_0, hx109_1, hx109_2⟩ := at_T53 HR0.out x11_1 p109 q109
            cases e109
            replace hx109_0 := (HB.out.cell (World.block_lt_of_cell? w _ hx109_0)).trans hx109_0
            replace hx109_1 := (HB.out.cell (World.block_lt_of_cell? w _ hx109_1)).trans hx109_1
            replace hx109_2 := (HB.out.cell (World.block_lt_of_cell? w _ hx109_2)).trans hx109_2
            replace p109 := eq_true p109
            replace q109 := eq_true q109
            go_upto_region 5 with (first | ((with_reducible refine gate_dst (N := 8) rfl ?_); refine box_event ?hg (N := 8) ?hd (cs := #[.int .i64 0, .int .i64 0, .string (⟨#[]⟩ : ByteArray)]) (t := 53) ?hr ?_; (case hd => rfl); (case hg => rfl); (case hr => first | (go_simp; done) | (go_simp; rfl)); intro gb110 hg w7 hbox hb; have n0_ := Aside0.mk (below_step (by repeat (first | (with_reducible first | exact HB.out | apply below_alloc | apply pw_below_drewN | apply below_drew1) | exact HB.out)) hb); have n1_ := Aside0.mk (hbox); have n2_ := Aside0.mk ((by rw [hg]; exact (below_size (by repeat (first | (with_reducible first | exact HB.out | apply below_alloc | apply pw_below_drewN | apply below_drew1) | exact HB.out))) : w.heap.size ≤ gb110)); have n3_ := Aside0.mk ((by rw [hg]; exact (below_size (by repeat (first | (with_reducible first | exact HB.out | apply below_alloc | apply pw_below_drewN | apply below_drew1) | exact HB.out))) : w.heap.size ≤ gb110)); clear HB; have HB := n0_; have BK110 := n1_; have GW110 := n2_; have GE110 := n3_; clear n0_ n1_ n2_ n3_; clear hb hbox hg; have hcz8_0 : w7.cell? ⟨gb110, 0, none⟩ = some (.int .i64 0) := (blk_cell BK110.out 0).trans rfl; have hcz8_1 : w7.cell? ⟨gb110, 1, none⟩ = some (.int .i64 0) := (blk_cell BK110.out 1).trans rfl; have hcz8_2 : w7.cell? ⟨gb110, 2, none⟩ = some (.string (⟨#[]⟩ : ByteArray)) := (blk_cell BK110.out 2).trans rfl; have hfz8_0 := blk_frozen BK110.out 0; have hfz8_1 := blk_frozen BK110.out 1; have hfz8_2 := blk_frozen BK110.out 2))
            (try simp only [Act.put, List.setIfInBounds_toArray, List.set_cons_zero, List.set_cons_succ])
            go_cut [24] (fun v24 wc => ∃ (kq : Nat) (x24_5 : Bool), v24 = .bool x24_5 ∧ Aside0 (edits_Shift.j1 kq a1 x5_1 x6_1 l0 (l0.length : Int) x11_1 x24_5 ((rd_T53 l0 x11_1).f0) ((rd_T53 l0 x11_1).f1) ((rd_T53 l0 x11_1).f2) = some r) ∧ Aside0 (kq ≤ k1) ∧ Aside0 (wc.heap[gb110]? = some (.cells #[.int .i64 ((rd_T53 l0 x11_1).f0), .int .i64 ((rd_T53 l0 x11_1).f1), .string ((rd_T53 l0 x11_1).f2)] 53 (0, 0))) ∧ Aside0 (Below w.heap.size w wc))
            case first =>
              have H := HC6.out
              clear HC6
              by_cases c9 : ((rd_T53 l0 x11_1).f0) < a1
              · rw [if_pos c9] at H
                have c9b0 : decide (((rd_T53 l0 x11_1).f0) < a1) = true := decide_eq_true c9
                clear c9
                (first | rw [c9b0] | (simp only [i64_w, i32_w]; rw [c9b0]) | skip)
                have H' := Aside0.mk H
                clear H
                have hcz10_0 : w7.cell? ⟨gb110, 0, none⟩ = some (.int .i64 0) := (blk_cell BK110.out 0).trans rfl
                have hcz10_1 : w7.cell? ⟨gb110, 1, none⟩ = some (.int .i64 0) := (blk_cell BK110.out 1).trans rfl
                have hcz10_2 : w7.cell? ⟨gb110, 2, none⟩ = some (.string (⟨#[]⟩ : ByteArray)) := (blk_cell BK110.out 2).trans rfl
                have hfz10_0 := blk_frozen BK110.out 0
                have hfz10_1 := blk_frozen BK110.out 1
                have hfz10_2 := blk_frozen BK110.out 2
                go_wp2
                go_meet
                case rel => exact ⟨_, (decide (a1 < ((rd_T53 l0 x11_1).f1))), (by first | rfl | (simp; done) | (simp [*]; done)), H', ⟨by have := HK1.out; first | omega | exact Nat.le_refl _⟩, ⟨by (with_reducible repeat (first | refine blk_drewN ?_ _ | refine blk_drew ?_ | refine blk_alloc ?_ _)); refine blk_put (cs := #[.int .i64 ((rd_T53 l0 x11_1).f0), .int .i64 ((rd_T53 l0 x11_1).f1), .string (⟨#[]⟩ : ByteArray)]) ?_ 2 _ rfl; (with_reducible repeat (first | refine blk_drewN ?_ _ | refine blk_drew ?_ | refine blk_alloc ?_ _)); refine blk_put (cs := #[.int .i64 ((rd_T53 l0 x11_1).f0), .int .i64 0, .string (⟨#[]⟩ : ByteArray)]) ?_ 1 _ rfl; (with_reducible repeat (first | refine blk_drewN ?_ _ | refine blk_drew ?_ | refine blk_alloc ?_ _)); refine blk_put (cs := #[.int .i64 0, .int .i64 0, .string (⟨#[]⟩ : ByteArray)]) ?_ 0 _ rfl; (with_reducible repeat (first | refine blk_drewN ?_ _ | refine blk_drew ?_ | refine blk_alloc ?_ _)); exact BK110.out⟩, ⟨by repeat (first | (with_reducible first | exact HB.out | apply below_alloc | apply pw_below_drewN | apply below_drew1 | refine below_set ?_ GE110.out) | exact HB.out)⟩⟩
              · rw [if_neg c9] at H
                have c9b0 : decide (((rd_T53 l0 x11_1).f0) < a1) = false := decide_eq_false c9
                clear c9
                (first | rw [c9b0] | (simp only [i64_w, i32_w]; rw [c9b0]) | skip)
                have H' := Aside0.mk H
                clear H
                have hcz11_0 : w7.cell? ⟨gb110, 0, none⟩ = some (.int .i64 0) := (blk_cell BK110.out 0).trans rfl
                have hcz11_1 : w7.cell? ⟨gb110, 1, none⟩ = some (.int .i64 0) := (blk_cell BK110.out 1).trans rfl
                have hcz11_2 : w7.cell? ⟨gb110, 2, none⟩ = some (.string (⟨#[]⟩ : ByteArray)) := (blk_cell BK110.out 2).trans rfl
                have hfz11_0 := blk_frozen BK110.out 0
                have hfz11_1 := blk_frozen BK110.out 1
                have hfz11_2 := blk_frozen BK110.out 2
                go_wp2
                go_meet
                case rel => exact ⟨_, (false), (by first | rfl | (simp; done) | (simp [*]; done)), H', ⟨by have := HK1.out; first | omega | exact Nat.le_refl _⟩, ⟨by (with_reducible repeat (first | refine blk_drewN ?_ _ | refine blk_drew ?_ | refine blk_alloc ?_ _)); refine blk_put (cs := #[.int .i64 ((rd_T53 l0 x11_1).f0), .int .i64 ((rd_T53 l0 x11_1).f1), .string (⟨#[]⟩ : ByteArray)]) ?_ 2 _ rfl; (with_reducible repeat (first | refine blk_drewN ?_ _ | refine blk_drew ?_ | refine blk_alloc ?_ _)); refine blk_put (cs := #[.int .i64 ((rd_T53 l0 x11_1).f0), .int .i64 0, .string (⟨#[]⟩ : ByteArray)]) ?_ 1 _ rfl; (with_reducible repeat (first | refine blk_drewN ?_ _ | refine blk_drew ?_ | refine blk_alloc ?_ _)); refine blk_put (cs := #[.int .i64 0, .int .i64 0, .string (⟨#[]⟩ : ByteArray)]) ?_ 0 _ rfl; (with_reducible repeat (first | refine blk_drewN ?_ _ | refine blk_drew ?_ | refine blk_alloc ?_ _)); exact BK110.out⟩, ⟨by repeat (first | (with_reducible first | exact HB.out | apply below_alloc | apply pw_below_drewN | apply below_drew1 | refine below_set ?_ GE110.out) | exact HB.out)⟩⟩
            case rest =>
              clear HC6
              try clear p1
              try clear q1
              try clear hx1
              try clear c2
              try clear p2
              try clear c3
              try clear c3b0
              try clear c4
              try clear c4b0
              try clear c5
              try clear c5b0
              try clear c9
              try clear c9b0
              try clear p10
              try clear q10
              try clear hx10
              try clear hcz10_0
              try clear hcz10_1
              try clear hcz10_2
              try clear hcz11_0
              try clear hcz11_1
              try clear hcz11_2
              try clear hcz8_0
              try clear hcz8_1
              try clear hcz8_2
              try clear hfz10_0
              try clear hfz10_1
              try clear hfz10_2
              try clear hfz11_0
              try clear hfz11_1
              try clear hfz11_2
              try clear hfz8_0
              try clear hfz8_1
              try clear hfz8_2
              try clear hx109_0
              try clear hx109_1
              try clear hx109_2
              try clear p109
              try clear p2
              try clear q109
              obtain ⟨kq, x24_5, rfl, HA, HJ5, BK110, HB⟩ := hcut
              cases kq with
              | zero => exact absurd HA.out (by simp [edits_Shift.j1])
              | succ kj5 =>
                have H := HA.out
                clear HA
                simp only [edits_Shift.j1] at H
                by_cases c12 : x24_5 = true
                · subst c12
                  have H1 : (some (wrap64 (((rd_T53 l0 x11_1).f0) + x5_1))) = some r := by rw [if_pos rfl] at H; exact H
                  clear H
                  have H := H1
                  clear H1
                  obtain rfl := Option.some.inj H
                  have hcz13_0 : wc.cell? ⟨gb110, 0, none⟩ = some (.int .i64 ((rd_T53 l0 x11_1).f0)) := (blk_cell BK110.out 0).trans rfl
                  have hcz13_1 : wc.cell? ⟨gb110, 1, none⟩ = some (.int .i64 ((rd_T53 l0 x11_1).f1)) := (blk_cell BK110.out 1).trans rfl
                  have hcz13_2 : wc.cell? ⟨gb110, 2, none⟩ = some (.string ((rd_T53 l0 x11_1).f2)) := (blk_cell BK110.out 2).trans rfl
                  have hfz13_0 := blk_frozen BK110.out 0
                  have hfz13_1 := blk_frozen BK110.out 1
                  have hfz13_2 := blk_frozen BK110.out 2
                  go_wp2
                  go_ret
                  exact ⟨by first | rfl | (simp [errW_none, errW_some] <;> rfl) | (simp [*, errW_none, errW_some] <;> rfl), by repeat (first | (with_reducible first | exact HB.out | apply below_alloc | apply pw_below_drewN | apply below_drew1 | refine below_set ?_ GE110.out) | exact HB.out)⟩
                · replace c12 := Bool.eq_false_iff.mpr c12
                  subst c12
                  have H1 : (if ((rd_T53 l0 x11_1).f1) ≤ a1 then (if ((rd_T53 l0 x11_1).f0) < a1 then (edits_Shift.l0 kj5 a1 (wrap64 (x5_1 + (wrap64 ((((rd_T53 l0 x11_1).f2).size : Int) - (wrap64 (((rd_T53 l0 x11_1).f1) - ((rd_T53 l0 x11_1).f0))))))) (wrap64 (x6_1 + (wrap64 ((((rd_T53 l0 x11_1).f2).size : Int) - (wrap64 (((rd_T53 l0 x11_1).f1) - ((rd_T53 l0 x11_1).f0))))))) l0 (l0.length : Int) (wrap64 (x11_1 + 1))) else (edits_Shift.l0 kj5 a1 (wrap64 (x5_1 + (wrap64 ((((rd_T53 l0 x11_1).f2).size : Int) - (wrap64 (((rd_T53 l0 x11_1).f1) - ((rd_T53 l0 x11_1).f0))))))) x6_1 l0 (l0.length : Int) (wrap64 (x11_1 + 1)))) else (edits_Shift.l0 kj5 a1 (wrap64 (x5_1 + (wrap64 ((((rd_T53 l0 x11_1).f2).size : Int) - (wrap64 (((rd_T53 l0 x11_1).f1) - ((rd_T53 l0 x11_1).f0))))))) x6_1 l0 (l0.length : Int) (wrap64 (x11_1 + 1)))) = some r := by rw [if_neg (show ¬ (false = true) by decide)] at H; exact H
                  clear H
                  have H := H1
                  clear H1
                  by_cases c14 : ((rd_T53 l0 x11_1).f1) ≤ a1
                  · rw [if_pos c14] at H
                    have c14b0 : decide (((rd_T53 l0 x11_1).f1) ≤ a1) = true := decide_eq_true c14
                    clear c14
                    by_cases c15 : ((rd_T53 l0 x11_1).f0) < a1
                    · rw [if_pos c15] at H
                      have c15b0 : decide (((rd_T53 l0 x11_1).f0) < a1) = true := decide_eq_true c15
                      clear c15
                      have H' := Aside0.mk H
                      clear H
                      have hcz16_0 : wc.cell? ⟨gb110, 0, none⟩ = some (.int .i64 ((rd_T53 l0 x11_1).f0)) := (blk_cell BK110.out 0).trans rfl
                      have hcz16_1 : wc.cell? ⟨gb110, 1, none⟩ = some (.int .i64 ((rd_T53 l0 x11_1).f1)) := (blk_cell BK110.out 1).trans rfl
                      have hcz16_2 : wc.cell? ⟨gb110, 2, none⟩ = some (.string ((rd_T53 l0 x11_1).f2)) := (blk_cell BK110.out 2).trans rfl
                      have hfz16_0 := blk_frozen BK110.out 0
                      have hfz16_1 := blk_frozen BK110.out 1
                      have hfz16_2 := blk_frozen BK110.out 2
                      go_wp2
                      go_roundg kj5
                      case measure => have := HK1.out; have := HJ5.out; omega
                      case rel => exact ⟨(wrap64 (x5_1 + (wrap64 ((((rd_T53 l0 x11_1).f2).size : Int) - (wrap64 (((rd_T53 l0 x11_1).f1) - ((rd_T53 l0 x11_1).f0))))))), (wrap64 (x6_1 + (wrap64 ((((rd_T53 l0 x11_1).f2).size : Int) - (wrap64 (((rd_T53 l0 x11_1).f1) - ((rd_T53 l0 x11_1).f0))))))), (wrap64 (x11_1 + 1)), (by first | rfl | (simp; done) | (simp [*]; done)), (by first | rfl | (simp; done) | (simp [*]; done)), (by first | rfl | (simp; done) | (simp [*]; done)), H', ⟨by have := HK1.out; have := HJ5.out; omega⟩, ⟨by repeat (first | (with_reducible first | exact HB.out | apply below_alloc | apply pw_below_drewN | apply below_drew1 | refine below_set ?_ GE110.out) | exact HB.out)⟩⟩
                    · rw [if_neg c15] at H
                      have c15b0 : decide (((rd_T53 l0 x11_1).f0) < a1) = false := decide_eq_false c15
                      clear c15
                      have H' := Aside0.mk H
                      clear H
                      have hcz17_0 : wc.cell? ⟨gb110, 0, none⟩ = some (.int .i64 ((rd_T53 l0 x11_1).f0)) := (blk_cell BK110.out 0).trans rfl
                      have hcz17_1 : wc.cell? ⟨gb110, 1, none⟩ = some (.int .i64 ((rd_T53 l0 x11_1).f1)) := (blk_cell BK110.out 1).trans rfl
                      have hcz17_2 : wc.cell? ⟨gb110, 2, none⟩ = some (.string ((rd_T53 l0 x11_1).f2)) := (blk_cell BK110.out 2).trans rfl
                      have hfz17_0 := blk_frozen BK110.out 0
                      have hfz17_1 := blk_frozen BK110.out 1
                      have hfz17_2 := blk_frozen BK110.out 2
                      go_wp2
                      go_roundg kj5
                      case measure => have := HK1.out; have := HJ5.out; omega
                      case rel => exact ⟨(wrap64 (x5_1 + (wrap64 ((((rd_T53 l0 x11_1).f2).size : Int) - (wrap64 (((rd_T53 l0 x11_1).f1) - ((rd_T53 l0 x11_1).f0))))))), (x6_1), (wrap64 (x11_1 + 1)), (by first | rfl | (simp; done) | (simp [*]; done)), (by first | rfl | (simp; done) | (simp [*]; done)), (by first | rfl | (simp; done) | (simp [*]; done)), H', ⟨by have := HK1.out; have := HJ5.out; omega⟩, ⟨by repeat (first | (with_reducible first | exact HB.out | apply below_alloc | apply pw_below_drewN | apply below_drew1 | refine below_set ?_ GE110.out) | exact HB.out)⟩⟩
                  · rw [if_neg c14] at H
                    have c14b0 : decide (((rd_T53 l0 x11_1).f1) ≤ a1) = false := decide_eq_false c14
                    clear c14
                    have H' := Aside0.mk H
                    clear H
                    have hcz18_0 : wc.cell? ⟨gb110, 0, none⟩ = some (.int .i64 ((rd_T53 l0 x11_1).f0)) := (blk_cell BK110.out 0).trans rfl
                    have hcz18_1 : wc.cell? ⟨gb110, 1, none⟩ = some (.int .i64 ((rd_T53 l0 x11_1).f1)) := (blk_cell BK110.out 1).trans rfl
                    have hcz18_2 : wc.cell? ⟨gb110, 2, none⟩ = some (.string ((rd_T53 l0 x11_1).f2)) := (blk_cell BK110.out 2).trans rfl
                    have hfz18_0 := blk_frozen BK110.out 0
                    have hfz18_1 := blk_frozen BK110.out 1
                    have hfz18_2 := blk_frozen BK110.out 2
                    go_wp2
                    go_roundg kj5
                    case measure => have := HK1.out; have := HJ5.out; omega
                    case rel => exact ⟨(wrap64 (x5_1 + (wrap64 ((((rd_T53 l0 x11_1).f2).size : Int) - (wrap64 (((rd_T53 l0 x11_1).f1) - ((rd_T53 l0 x11_1).f0))))))), (x6_1), (wrap64 (x11_1 + 1)), (by first | rfl | (simp; done) | (simp [*]; done)), (by first | rfl | (simp; done) | (simp [*]; done)), (by first | rfl | (simp; done) | (simp [*]; done)), H', ⟨by have := HK1.out; have := HJ5.out; omega⟩, ⟨by repeat (first | (with_reducible first | exact HB.out | apply below_alloc | apply pw_below_drewN | apply below_drew1 | refine below_set ?_ GE110.out) | exact HB.out)⟩⟩
          · rw [if_neg c5] at H
            exact absurd H (by simp)
        · rw [if_neg c4] at H
          exact absurd H (by simp)
      · rw [if_neg c3] at H
        have c3b0 : decide (x11_1 < (l0.length : Int)) = false := decide_eq_false c3
        clear c3
        obtain rfl := Option.some.inj H
        go_wp2
        go_ret
        exact ⟨by first | rfl | (simp [errW_none, errW_some] <;> rfl) | (simp [*, errW_none, errW_some] <;> rfl), by repeat (first | (with_reducible first | exact HB.out | apply below_alloc | apply pw_below_drewN | apply below_drew1) | exact HB.out)⟩

end Go.Proofs.YtlcojdppcjbfdaaDoor.F
