/- EditsShifts: what the call of the law comes to (its last argument is an array of two numbers). -/
import Derived.Test.YtlcojdppcjbfdaaDoorF10
import Derived.Test.YtlcojdppcjbfdaaDoorF16
import Derived.Test.YtlcojdppcjbfdaaDoorF19
import Derived.Test.YtlcojdppcjbfdaaDoorF20
import Derived.Test.YtlcojdppcjbfdaaDoorF21
import Derived.Test.YtlcojdppcjbfdaaDoorAid
import Derived.Outline
import Derived.Deep.QuietTactic
import Derived.BigQuiet
import Derived.WalkSpells
set_option linter.unusedVariables false
set_option linter.unusedSimpArgs false
namespace Go.Proofs.YtlcojdppcjbfdaaDoor.F
open Go.RowKit Go.Proofs.YtlcojdppcjbfdaaDoorW.PrintWords Go.Proofs.YtlcojdppcjbfdaaDoorW.PrintLast Go.Proofs.YtlcojdppcjbfdaaDoorW.PrintMore Go.Proofs.YtlcojdppcjbfdaaDoor.Aid

/-- An offset, held below the longest text's length. -/
abbrev cap16 (x : Int) : Int := min x 16384
def lawShifts.f (k : Nat) (a0 : ByteArray) (l1 : List S53) (x y : Int) : Option Bool :=
  if 0 ≤ x ∧ x ≤ 65535 ∧ 0 ≤ y ∧ y ≤ 65535 then
    (jobshelllaw02_few.f k a0 l1).bind fun b => if b = true then ((edits_Valid.f k a0 l1).bind fun v => if v = 0 then
      ((edits_Shift.f k l1 (cap16 x)).bind fun p => (edits_Shift.f k l1 (cap16 y)).bind fun q => (jobshellref02_Shift.f k l1 (cap16 x)).bind fun r =>
        if p = r ∧ (cap16 x ≤ cap16 y → p ≤ q) then (jobshelllaw02_awake.f k) else none) else jobshelllaw02_awake.f k) else jobshelllaw02_awake.f k
  else none

set_option maxHeartbeats 4000000 in
set_option maxRecDepth 100000 in
theorem lawShifts.calls (k : Nat) (a0 : ByteArray) (A1 : Option Addr) (c1 : Nat) (l1 : List S53) (x y : Int) (r : Bool) (w : World) (hr1 : Kd.C k53 w A1 l1.length l1) (hc1 : l1.length ≤ c1) (h : lawShifts.f k a0 l1 x y = some r) :
    Calls Tryd.prog 7 #[.string a0, .slice A1 l1.length c1, .agg #[.int .u16 x, .int .u16 y]] w fun e w' => e = .returned (.bool r) ∧ Below w.heap.size w w' := by
  have HR := Aside0.mk hr1
  have HC := Aside0.mk hc1
  clear hr1 hc1
  unfold lawShifts.f at h
  split at h
  case isFalse => cases h
  rename_i hb
  obtain ⟨hx0, hx1, hy0, hy1⟩ := hb
  cases hfew : jobshelllaw02_few.f k a0 l1 with
  | none => rw [hfew] at h; cases h
  | some b =>
    rw [hfew] at h
    simp only [Option.bind_some] at h
    have HF := Aside0.mk hfew
    clear hfew
    cases b with
    | false =>
      simp only [Bool.false_eq_true, if_false] at h
      have HA := Aside0.mk h
      clear h
      go_enter Tryd.func7, Tryd.ntmps7
      go_wp2_with fail
      refine (jobshelllaw02_few.calls k _ _ _ _ false _ (Kd.C_below HR.out (below_one _ _)) HC.out HF.out).mono ?_
      rintro e w1 ⟨rfl, hd⟩
      have HB := Aside0.mk (below_up (below_one w (.cells #[.int .u16 x, .int .u16 y] 42)) (by simp) hd.below)
      clear hd
      go_wp2_with fail
      refine (jobshelllaw02_awake.calls k r _ HA.out).mono ?_
      rintro e w2 ⟨rfl, hb2⟩
      have HB2 := Aside0.mk (below_up HB.out HB.out.size hb2)
      clear hb2
      go_wp2
      go_ret
      exact ⟨rfl, HB2.out⟩
    | true =>
      simp only [if_true] at h
      cases hv : edits_Valid.f k a0 l1 with
      | none => rw [hv] at h; cases h
      | some v =>
        rw [hv] at h
        simp only [Option.bind_some] at h
        have HV := Aside0.mk hv
        clear hv
        by_cases h0 : v = 0
        · subst h0
          rw [if_pos rfl] at h
          cases hp : edits_Shift.f k l1 (cap16 x) with
          | none => rw [hp] at h; cases h
          | some p =>
            cases hq : edits_Shift.f k l1 (cap16 y) with
            | none => rw [hp, hq] at h; cases h
            | some q =>
              cases hr : jobshellref02_Shift.f k l1 (cap16 x) with
              | none => rw [hp, hq, hr] at h; cases h
              | some s =>
                rw [hp, hq, hr] at h
                simp only [Option.bind_some] at h
                split at h
                case isFalse => cases h
                rename_i hc
                obtain ⟨rfl, hle⟩ := hc
                have HP := Aside0.mk hp
                have HQ := Aside0.mk hq
                have HS := Aside0.mk hr
                have HA := Aside0.mk h
                clear hp hq hr h
                have HC0 := Kd.C_below HR.out (below_one w (.cells #[.int .u16 x, .int .u16 y] 42))
                have HCC := Aside0.mk HC0
                clear HC0
                go_enter Tryd.func7, Tryd.ntmps7
                go_wp2_with fail
                refine (jobshelllaw02_few.calls k _ _ _ _ true _ HCC.out HC.out HF.out).mono ?_
                rintro e w1 ⟨rfl, hd⟩
                have HB := Aside0.mk (below_up (below_one w (.cells #[.int .u16 x, .int .u16 y] 42)) (by simp) hd.below)
                have hbk : w1.heap[w.heap.size]? = some (.cells #[.int .u16 x, .int .u16 y] 42 (0, 0)) := (hd.below.block _ (by simp)).trans (block_new _ _)
                have HK := Aside0.mk hbk
                clear hd hbk
                go_wp2_with fail
                refine (edits_Valid.calls k _ _ _ _ 0 _ (Kd.C_below HR.out HB.out) HC.out HV.out).mono ?_
                rintro e w2 ⟨rfl, hb2⟩
                have hbk : w2.heap[w.heap.size]? = some (.cells #[.int .u16 x, .int .u16 y] 42 (0, 0)) := (hb2.block _ (lt_of_some HK.out)).trans HK.out
                have c0 : w2.cell? ⟨w.heap.size, 0, none⟩ = some (.int .u16 x) := by rw [Lib.cell_of_heap hbk]; rfl
                have c1' : w2.cell? ⟨w.heap.size, 1, none⟩ = some (.int .u16 y) := by rw [Lib.cell_of_heap hbk]; rfl
                have HB2 := Aside0.mk (below_up HB.out HB.out.size hb2)
                clear hb2 hbk HK
                go_wp2_with fail
                go_quiet (fail)
                go_wp2_with fail
                have hb3 : Below w.heap.size w (w2.drewN nq) := pw_below_drewN HB2.out nq
                refine (edits_Shift.calls k _ _ _ _ p _ (Kd.C_below HR.out hb3) HC.out HP.out).mono ?_
                rintro e w3 ⟨rfl, hb4⟩
                have HB3 := Aside0.mk (below_up hb3 hb3.size hb4)
                clear hb4 hb3 c0 c1'
                go_wp2_with fail
                refine (edits_Shift.calls k _ _ _ _ q _ (Kd.C_below HR.out HB3.out) HC.out HQ.out).mono ?_
                rintro e w4 ⟨rfl, hb4⟩
                have HB4 := Aside0.mk (below_up HB3.out HB3.out.size hb4)
                clear hb4
                have hcase : (min x 16384 : Int) > min y 16384 ∨ ((min x 16384 : Int) ≤ min y 16384 ∧ p ≤ q) := by
                  rcases (by omega : (min x 16384 : Int) > min y 16384 ∨ (min x 16384 : Int) ≤ min y 16384) with h1 | h1
                  · exact .inl h1
                  · exact .inr ⟨h1, hle h1⟩
                clear hle
                rcases hcase with h1 | ⟨h1, h2⟩
                all_goals
                  go_wp2_with fail
                  refine (jobshellref02_Shift.calls k _ _ _ _ p _ (Kd.C_below HR.out HB4.out) HC.out HS.out).mono ?_
                  rintro e w5 ⟨rfl, hd5⟩
                  have HB5 := Aside0.mk (below_up HB4.out HB4.out.size hd5.below)
                  clear hd5
                  go_wp2_with fail
                  refine (jobshelllaw02_awake.calls k r _ HA.out).mono ?_
                  rintro e w6 ⟨rfl, hb6⟩
                  have HB6 := Aside0.mk (below_up HB5.out HB5.out.size hb6)
                  clear hb6
                  go_wp2
                  go_ret
                  exact ⟨rfl, HB6.out⟩
        · rw [if_neg h0] at h
          have hne : (v != 0) = true := bne_iff_ne.2 h0
          have HA := Aside0.mk h
          clear h h0
          have HC0 := Kd.C_below HR.out (below_one w (.cells #[.int .u16 x, .int .u16 y] 42))
          have HCC := Aside0.mk HC0
          clear HC0
          go_enter Tryd.func7, Tryd.ntmps7
          go_wp2_with fail
          refine (jobshelllaw02_few.calls k _ _ _ _ true _ HCC.out HC.out HF.out).mono ?_
          rintro e w1 ⟨rfl, hd⟩
          have HB := Aside0.mk (below_up (below_one w (.cells #[.int .u16 x, .int .u16 y] 42)) (by simp) hd.below)
          clear hd
          go_wp2_with fail
          refine (edits_Valid.calls k _ _ _ _ v _ (Kd.C_below HR.out HB.out) HC.out HV.out).mono ?_
          rintro e w2 ⟨rfl, hb2⟩
          have HB2 := Aside0.mk (below_up HB.out HB.out.size hb2)
          clear hb2
          go_wp2_with fail
          refine (jobshelllaw02_awake.calls k r _ HA.out).mono ?_
          rintro e w3 ⟨rfl, hb3⟩
          have HB3 := Aside0.mk (below_up HB2.out HB2.out.size hb3)
          clear hb3
          go_wp2
          go_ret
          exact ⟨rfl, HB3.out⟩
end Go.Proofs.YtlcojdppcjbfdaaDoor.F
