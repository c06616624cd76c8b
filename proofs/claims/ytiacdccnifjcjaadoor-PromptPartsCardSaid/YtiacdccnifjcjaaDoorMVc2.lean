/- The law PromptParts: for every input the call returns true and leaves its arguments as they were; the variables that the row lists are tied to the program's text (a tied card). No condition beyond the row's own. -/
import Derived.Lib.ItoaLen
import Derived.Test.YtiacdccnifjcjaaDoorCards
import Derived.Test.YtiacdccnifjcjaaDoorTie
import Derived.WalkKit
import Derived.ProofKit
import Derived.OpenShut
import Derived.ShutString
import Derived.ChangeOld
import Derived.Below
import Derived.SizedLaws
import Derived.LaidMore
import Derived.Lay
import Derived.SevenTiedAt
import Derived.Stop.Joined
import Derived.Carry
import Derived.Test.YtiacdccnifjcjaaDoorB0
import Derived.Test.YtiacdccnifjcjaaDoorMVc1
import Derived.Test.YtiacdccnifjcjaaDoorB1
import Derived.Test.YtiacdccnifjcjaaDoorMVc0
import Derived.Test.YtiacdccnifjcjaaDoorB2
namespace Go.Proofs.YtiacdccnifjcjaaDoor.F
open Go.RowKit Go.Proofs.YtiacdccnifjcjaaDoorW.PrintWords Go.Proofs.YtiacdccnifjcjaaDoorW.PrintLast Go.Proofs.YtiacdccnifjcjaaDoorW.PrintMore
attribute [local go_sem] max2_int min2_int max_two min_two max_three min_three max_four min_four
set_option linter.unusedVariables false
set_option linter.unusedSimpArgs false
mutual
def jobshellref48_parameter.j0 : Nat → ByteArray → Int → Int → Bool → Option (ByteArray × Int)
 | 0, _, _, _, _ => none
 | k + 1, x0, x1, x6, x24 => if x24 = true then (if 0 ≤ (wrap64 (x1 + 1)) then (if (wrap64 (x1 + 1)) ≤ (wrap64 (x1 + 2)) then (if (wrap64 (x1 + 2)) ≤ (x0.size : Int) then (some (x0.extract ((wrap64 (x1 + 1)) : Int).toNat ((wrap64 (x1 + 2)) : Int).toNat, wrap64 (x1 + 2))) else (none)) else (none)) else (none)) else ((jobshellref48_letter.f x6).bind fun t238 => (if t238 = true then ((jobshellref48_name.f k x0 (wrap64 (x1 + 1))).bind fun t239 => (if 0 ≤ (wrap64 (x1 + 1)) then (if (wrap64 (x1 + 1)) ≤ t239 then (if t239 ≤ (x0.size : Int) then (some (x0.extract ((wrap64 (x1 + 1)) : Int).toNat (t239 : Int).toNat, t239)) else (none)) else (none)) else (none))) else (if x6 = 123 then (jobshellref48_parameter.j1 k x0 x1 (decide ((wrap64 (x1 + 2)) ≥ (x0.size : Int)))) else (jobshellref48_parameter.j1 k x0 x1 true))))
def jobshellref48_parameter.j1 : Nat → ByteArray → Int → Bool → Option (ByteArray × Int)
 | 0, _, _, _ => none
 | k + 1, x0, x1, x53 => if x53 = true then (some ((⟨#[]⟩ : ByteArray), x1)) else ((jobshellref48_name.f k x0 (wrap64 (x1 + 2))).bind fun t240 => (if 0 ≤ (wrap64 (x1 + 2)) then (if (wrap64 (x1 + 2)) < (x0.size : Int) then ((jobshellref48_special.f (bt x0 (wrap64 (x1 + 2)))).bind fun t241 => (if t241 = true then (if (wrap64 (x1 + 3)) = (wrap64 (x1 + 2)) then (some ((⟨#[]⟩ : ByteArray), x1)) else (if (wrap64 (x1 + 3)) ≥ (x0.size : Int) then (some ((⟨#[]⟩ : ByteArray), x1)) else (if 0 ≤ (wrap64 (x1 + 3)) then (if (wrap64 (x1 + 3)) < (x0.size : Int) then (if (bt x0 (wrap64 (x1 + 3))) = 125 then (if (wrap64 (x1 + 2)) ≤ (wrap64 (x1 + 3)) then (if (wrap64 (x1 + 3)) ≤ (x0.size : Int) then (some (x0.extract ((wrap64 (x1 + 2)) : Int).toNat ((wrap64 (x1 + 3)) : Int).toNat, wrap64 ((wrap64 (x1 + 3)) + 1))) else (none)) else (none)) else (some ((⟨#[]⟩ : ByteArray), x1))) else (none)) else (none)))) else (if t240 = (wrap64 (x1 + 2)) then (some ((⟨#[]⟩ : ByteArray), x1)) else (if t240 ≥ (x0.size : Int) then (some ((⟨#[]⟩ : ByteArray), x1)) else (if 0 ≤ t240 then (if t240 < (x0.size : Int) then (if (bt x0 t240) = 125 then (if (wrap64 (x1 + 2)) ≤ t240 then (if t240 ≤ (x0.size : Int) then (some (x0.extract ((wrap64 (x1 + 2)) : Int).toNat (t240 : Int).toNat, wrap64 (t240 + 1))) else (none)) else (none)) else (some ((⟨#[]⟩ : ByteArray), x1))) else (none)) else (none)))))) else (none)) else (none)))
end
def jobshellref48_parameter.f (k : Nat) (a0 : ByteArray) (a1 : Int) : Option (ByteArray × Int) := if (wrap64 (a1 + 1)) ≥ (a0.size : Int) then (some ((⟨#[]⟩ : ByteArray), a1)) else (if 0 ≤ (wrap64 (a1 + 1)) then (if (wrap64 (a1 + 1)) < (a0.size : Int) then ((jobshellref48_digit.f (bt a0 (wrap64 (a1 + 1)))).bind fun t236 => (if t236 = true then (jobshellref48_parameter.j0 k a0 a1 (bt a0 (wrap64 (a1 + 1))) true) else ((jobshellref48_special.f (bt a0 (wrap64 (a1 + 1)))).bind fun t237 => (jobshellref48_parameter.j0 k a0 a1 (bt a0 (wrap64 (a1 + 1))) t237)))) else (none)) else (none))
theorem jobshellref48_parameter.mono_l : ∀ k, (∀ y0 y1 y2 y3, LeO (jobshellref48_parameter.j0 k y0 y1 y2 y3) (jobshellref48_parameter.j0 (k + 1) y0 y1 y2 y3)) ∧ (∀ y0 y1 y2, LeO (jobshellref48_parameter.j1 k y0 y1 y2) (jobshellref48_parameter.j1 (k + 1) y0 y1 y2))
 | 0 => ⟨fun _ _ _ _ r h => by simp [jobshellref48_parameter.j0] at h, fun _ _ _ r h => by simp [jobshellref48_parameter.j1] at h⟩
 | k + 1 => by
  obtain ⟨ih0, ih1⟩ := jobshellref48_parameter.mono_l k
  refine ⟨?_, ?_⟩
  ·intro y0 y1 y2 y3
   unfold jobshellref48_parameter.j0
   repeat' first
   | (with_reducible exact ih0 _ _ _ _)
   | (with_reducible exact ih1 _ _ _)
   | (with_reducible exact jobshellref48_name.mono _ _ _)
   | (with_reducible exact LeO.refl _)
   | (with_reducible exact LeO.none _)
   | (with_reducible refine LeO.ite ?_ ?_)
   | (with_reducible refine LeO.bind ?_ (fun _ => ?_))
   | exact ih0 _ _ _ _
   | exact ih1 _ _ _
   | exact jobshellref48_name.mono _ _ _
   | exact LeO.none _
   | refine LeO.ite ?_ ?_
   | refine LeO.bind ?_ (fun _ => ?_)
  ·intro y0 y1 y2
   unfold jobshellref48_parameter.j1
   repeat' first
   | (with_reducible exact ih0 _ _ _ _)
   | (with_reducible exact ih1 _ _ _)
   | (with_reducible exact jobshellref48_name.mono _ _ _)
   | (with_reducible exact LeO.refl _)
   | (with_reducible exact LeO.none _)
   | (with_reducible refine LeO.ite ?_ ?_)
   | (with_reducible refine LeO.bind ?_ (fun _ => ?_))
   | exact ih0 _ _ _ _
   | exact ih1 _ _ _
   | exact jobshellref48_name.mono _ _ _
   | exact LeO.none _
   | refine LeO.ite ?_ ?_
   | refine LeO.bind ?_ (fun _ => ?_)
theorem jobshellref48_parameter.mono : ∀ a0 a1 k, LeO (jobshellref48_parameter.f k a0 a1) (jobshellref48_parameter.f (k + 1) a0 a1) := by
 intro a0 a1 k
 obtain ⟨ih0, ih1⟩ := jobshellref48_parameter.mono_l k
 unfold jobshellref48_parameter.f
 repeat' first
   | (with_reducible exact ih0 _ _ _ _)
   | (with_reducible exact ih1 _ _ _)
   | (with_reducible exact jobshellref48_name.mono _ _ _)
   | (with_reducible exact LeO.refl _)
   | (with_reducible exact LeO.none _)
   | (with_reducible refine LeO.ite ?_ ?_)
   | (with_reducible refine LeO.bind ?_ (fun _ => ?_))
   | exact ih0 _ _ _ _
   | exact ih1 _ _ _
   | exact jobshellref48_name.mono _ _ _
   | exact LeO.none _
   | refine LeO.ite ?_ ?_
   | refine LeO.bind ?_ (fun _ => ?_)
set_option maxHeartbeats 8000000 in
set_option maxRecDepth 100000 in
theorem jobshellref48_parameter.calls (k : Nat) (a0 : ByteArray) (a1 : Int) (r1 : ByteArray) (r2 : Int) (w : World) (h : jobshellref48_parameter.f k a0 a1 = some (r1, r2)) :
  Calls Tryd.prog 24 #[.string a0, .int .i64 a1] w fun e w' => e = .returned (.tuple #[.string r1, .int .i64 r2]) ∧ Drawn0 w w' := by
 have H : (if (wrap64 (a1 + 1)) ≥ (a0.size : Int) then (some ((⟨#[]⟩ : ByteArray), a1)) else (if 0 ≤ (wrap64 (a1 + 1)) then (if (wrap64 (a1 + 1)) < (a0.size : Int) then ((jobshellref48_digit.f (bt a0 (wrap64 (a1 + 1)))).bind fun t236 => (if t236 = true then (jobshellref48_parameter.j0 k a0 a1 (bt a0 (wrap64 (a1 + 1))) true) else ((jobshellref48_special.f (bt a0 (wrap64 (a1 + 1)))).bind fun t237 => (jobshellref48_parameter.j0 k a0 a1 (bt a0 (wrap64 (a1 + 1))) t237)))) else (none)) else (none))) = some (r1, r2) := h
 clear h
 by_cases c3 : (wrap64 (a1 + 1)) ≥ (a0.size : Int)
 ·rw [if_pos c3] at H
  have c3b0 : decide ((a0.size : Int) ≤ (wrap64 (a1 + 1))) = true := decide_eq_true c3
  clear c3
  simp only [Option.some.injEq, Prod.mk.injEq] at H
  obtain ⟨rfl, rfl⟩ := H
  go_enter Tryd.func24, Tryd.ntmps24
  go_wp2
  go_ret2
  exact ⟨by first | rfl | (simp; done) | (simp [*]; done), by repeat (first | exact Drawn0.refl _ | apply Drawn0.step)⟩
 ·rw [if_neg c3] at H
  have c3b0 : decide ((a0.size : Int) ≤ (wrap64 (a1 + 1))) = false := decide_eq_false c3
  clear c3
  obtain ⟨ji4, hji4⟩ : ∃ j_ : Int, (wrap64 (a1 + 1)) = j_ := ⟨_, rfl⟩
  replace H : (if 0 ≤ (ji4) then (if (ji4) < (a0.size : Int) then ((jobshellref48_digit.f (bt a0 (ji4))).bind fun t236 => (if t236 = true then (jobshellref48_parameter.j0 k a0 a1 (bt a0 (ji4)) true) else ((jobshellref48_special.f (bt a0 (ji4))).bind fun t237 => (jobshellref48_parameter.j0 k a0 a1 (bt a0 (ji4)) t237)))) else (none)) else (none)) = some (r1, r2) := by first | (rw [hji4] at H; exact H) | (simp only [hji4] at H ⊢; exact H)
  (try rw [hji4] at c3b0)
  have hji4w : (IntKind.i64.wrap (a1 + 1)) = ji4 := (i64_w _).trans hji4
  by_cases c5 : 0 ≤ (ji4)
  ·rw [if_pos c5] at H
   have c5b0 : decide (0 ≤ (ji4)) = true := decide_eq_true c5
   clear c5
   by_cases c6 : (ji4) < (a0.size : Int)
   ·rw [if_pos c6] at H
    have c6b0 : decide ((ji4) < (a0.size : Int)) = true := decide_eq_true c6
    clear c6
    have HC8 := Aside0.mk H
    clear H
    have p7 : 0 ≤ ((ji4) : Int) := of_decide_eq_true (by first | (with_reducible assumption) | assumption)
    have q7 : (ji4) < (a0.size : Int) := of_decide_eq_true (by first | (with_reducible assumption) | assumption)
    have hx7 := bt_at a0 (ji4)
    replace p7 := eq_true p7
    replace q7 := eq_true q7
    go_enter Tryd.func24, Tryd.ntmps24
    go_upto_region 4 with (fail)
    go_cut [24] (fun v24 wc => ∃ (kq : Nat) (x24_7 : Bool), v24 = .bool x24_7 ∧ Aside0 (jobshellref48_parameter.j0 kq a0 a1 (bt a0 (ji4)) x24_7 = some (r1, r2)) ∧ Aside0 (kq ≤ k) ∧ Drawn0 w wc)
    case first =>
     have H := HC8.out
     clear HC8
     replace H := Option.bind_eq_some_iff.mp H
     obtain ⟨t236, A90, H⟩ := H
     replace H : (if t236 = true then (jobshellref48_parameter.j0 k a0 a1 (bt a0 (ji4)) true) else ((jobshellref48_special.f (bt a0 (ji4))).bind fun t237 => (jobshellref48_parameter.j0 k a0 a1 (bt a0 (ji4)) t237))) = some (r1, r2) := H
     have A9 := Aside0.mk A90
     clear A90
     by_cases c10 : t236 = true
     ·subst c10
      have H1 : (jobshellref48_parameter.j0 k a0 a1 (bt a0 (ji4)) true) = some (r1, r2) := by rw [if_pos rfl] at H; exact H
      clear H
      have H := H1
      clear H1
      have H' := Aside0.mk H
      clear H
      go_wp2_with (first | ((with_reducible refine gate_callee (f := 39) rfl ?_); refine goesL_ (some 20) rfl rfl Tryd.func39 (by kernel_rfl) rfl #[.int .u8 (bt a0 (ji4))] rfl (by (try simp only [List.map_toArray, List.map_cons, List.map_nil]); first | done | (simp only [hji4]; rfl) | rfl | (simp only [List.length_drop, List.length_take]; rfl)) ?_; (with_reducible refine (jobshellref48_digit.calls (bt a0 (ji4)) true _ A9.out).mono ?_); rintro e w' ⟨rfl, ⟨nd, rfl⟩⟩; refine ⟨_, rfl, ?_⟩))
      go_meet
      case rel => exact ⟨_, (true), (by first | rfl | (simp; done) | (simp [*]; done) | (simp [isE_ne]; done)), H', ⟨by first | omega | exact Nat.le_refl _⟩, by repeat (first | exact Drawn0.refl _ | apply Drawn0.step)⟩
     ·replace c10 := Bool.eq_false_iff.mpr c10
      subst c10
      have H1 : ((jobshellref48_special.f (bt a0 (ji4))).bind fun t237 => (jobshellref48_parameter.j0 k a0 a1 (bt a0 (ji4)) t237)) = some (r1, r2) := by rw [if_neg (show ¬ (false = true) by decide)] at H; exact H
      clear H
      have H := H1
      clear H1
      replace H := Option.bind_eq_some_iff.mp H
      obtain ⟨t237, A110, H⟩ := H
      replace H : (jobshellref48_parameter.j0 k a0 a1 (bt a0 (ji4)) t237) = some (r1, r2) := H
      have A11 := Aside0.mk A110
      clear A110
      have H' := Aside0.mk H
      clear H
      go_wp2_with (first | ((with_reducible refine gate_callee (f := 39) rfl ?_); refine goesL_ (some 20) rfl rfl Tryd.func39 (by kernel_rfl) rfl #[.int .u8 (bt a0 (ji4))] rfl (by (try simp only [List.map_toArray, List.map_cons, List.map_nil]); first | done | (simp only [hji4]; rfl) | rfl | (simp only [List.length_drop, List.length_take]; rfl)) ?_; (with_reducible refine (jobshellref48_digit.calls (bt a0 (ji4)) false _ A9.out).mono ?_); rintro e w' ⟨rfl, ⟨nd, rfl⟩⟩; refine ⟨_, rfl, ?_⟩) | (go_at_call 40; (with_reducible refine (jobshellref48_special.calls (bt a0 (ji4)) t237 _ A11.out).mono ?_); rintro e w' ⟨rfl, ⟨nd, rfl⟩⟩))
      go_meet
      case rel => exact ⟨_, (t237), (by first | rfl | (simp; done) | (simp [*]; done) | (simp [isE_ne]; done)), H', ⟨by first | omega | exact Nat.le_refl _⟩, by repeat (first | exact Drawn0.refl _ | apply Drawn0.step)⟩
    case rest =>
     clear HC8
     try clear c1
     try clear c2
     try clear p2
     try clear c3
     try clear c3b0
     try clear c5
     try clear c5b0
     try clear c6
     try clear c6b0
     try clear p6
     try clear p7
     try clear q7
     try clear hx7
     try clear c10
     try clear p7
     try clear q7
     obtain ⟨kq, x24_7, rfl, HA, HJ7, ⟨mc7, rfl⟩⟩ := hcut
     cases kq with
     | zero => exact absurd HA.out (by simp [jobshellref48_parameter.j0])
     | succ kj7 =>
      have H := HA.out
      clear HA
      simp only [jobshellref48_parameter.j0] at H
      by_cases c12 : x24_7 = true
      ·subst c12
       have H1 : (if 0 ≤ (wrap64 (a1 + 1)) then (if (wrap64 (a1 + 1)) ≤ (wrap64 (a1 + 2)) then (if (wrap64 (a1 + 2)) ≤ (a0.size : Int) then (some (a0.extract ((wrap64 (a1 + 1)) : Int).toNat ((wrap64 (a1 + 2)) : Int).toNat, wrap64 (a1 + 2))) else (none)) else (none)) else (none)) = some (r1, r2) := by rw [if_pos rfl] at H; exact H
       clear H
       have H := H1
       clear H1
       replace H : (if 0 ≤ (ji4) then (if (ji4) ≤ (wrap64 (a1 + 2)) then (if (wrap64 (a1 + 2)) ≤ (a0.size : Int) then (some (a0.extract ((ji4) : Int).toNat ((wrap64 (a1 + 2)) : Int).toNat, wrap64 (a1 + 2))) else (none)) else (none)) else (none)) = some (r1, r2) := by first | (rw [hji4] at H; exact H) | (simp only [hji4] at H ⊢; exact H)
       (try rw [hji4] at c3b0)
       by_cases c14 : 0 ≤ (ji4)
       ·rw [if_pos c14] at H
        have c14b0 := eq_true c14
        have c14b1 : decide (0 ≤ (ji4)) = true := decide_eq_true c14
        clear c14
        by_cases c15 : (ji4) ≤ (wrap64 (a1 + 2))
        ·rw [if_pos c15] at H
         have c15b0 := eq_true c15
         have c15b1 : decide ((ji4) ≤ (wrap64 (a1 + 2))) = true := decide_eq_true c15
         by_cases c16 : (wrap64 (a1 + 2)) ≤ (a0.size : Int)
         ·rw [if_pos c16] at H
          have c16b0 := eq_true c16
          have c16b1 : decide ((wrap64 (a1 + 2)) ≤ (a0.size : Int)) = true := decide_eq_true c16
          simp only [Option.some.injEq, Prod.mk.injEq] at H
          obtain ⟨rfl, rfl⟩ := H
          go_wp2
          go_ret2
          exact ⟨by first | rfl | (simp; done) | (simp only [← hji4, ← hji4] <;> (first | rfl | simp)) | (simp [*]; done), by repeat (first | exact Drawn0.refl _ | apply Drawn0.step)⟩
         ·rw [if_neg c16] at H
          exact absurd H (by simp)
        ·rw [if_neg c15] at H
         exact absurd H (by simp)
       ·rw [if_neg c14] at H
        exact absurd H (by simp)
      ·replace c12 := Bool.eq_false_iff.mpr c12
       subst c12
       have H1 : ((jobshellref48_letter.f (bt a0 (ji4))).bind fun t238 => (if t238 = true then ((jobshellref48_name.f kj7 a0 (wrap64 (a1 + 1))).bind fun t239 => (if 0 ≤ (wrap64 (a1 + 1)) then (if (wrap64 (a1 + 1)) ≤ t239 then (if t239 ≤ (a0.size : Int) then (some (a0.extract ((wrap64 (a1 + 1)) : Int).toNat (t239 : Int).toNat, t239)) else (none)) else (none)) else (none))) else (if (bt a0 (ji4)) = 123 then (jobshellref48_parameter.j1 kj7 a0 a1 (decide ((wrap64 (a1 + 2)) ≥ (a0.size : Int)))) else (jobshellref48_parameter.j1 kj7 a0 a1 true)))) = some (r1, r2) := by rw [if_neg (show ¬ (false = true) by decide)] at H; exact H
       clear H
       have H := H1
       clear H1
       replace H := Option.bind_eq_some_iff.mp H
       obtain ⟨t238, A170, H⟩ := H
       replace H : (if t238 = true then ((jobshellref48_name.f kj7 a0 (wrap64 (a1 + 1))).bind fun t239 => (if 0 ≤ (wrap64 (a1 + 1)) then (if (wrap64 (a1 + 1)) ≤ t239 then (if t239 ≤ (a0.size : Int) then (some (a0.extract ((wrap64 (a1 + 1)) : Int).toNat (t239 : Int).toNat, t239)) else (none)) else (none)) else (none))) else (if (bt a0 (ji4)) = 123 then (jobshellref48_parameter.j1 kj7 a0 a1 (decide ((wrap64 (a1 + 2)) ≥ (a0.size : Int)))) else (jobshellref48_parameter.j1 kj7 a0 a1 true))) = some (r1, r2) := H
       have A17 := Aside0.mk A170
       clear A170
       by_cases c18 : t238 = true
       ·subst c18
        have H1 : ((jobshellref48_name.f kj7 a0 (wrap64 (a1 + 1))).bind fun t239 => (if 0 ≤ (wrap64 (a1 + 1)) then (if (wrap64 (a1 + 1)) ≤ t239 then (if t239 ≤ (a0.size : Int) then (some (a0.extract ((wrap64 (a1 + 1)) : Int).toNat (t239 : Int).toNat, t239)) else (none)) else (none)) else (none))) = some (r1, r2) := by rw [if_pos rfl] at H; exact H
        clear H
        have H := H1
        clear H1
        replace H := Option.bind_eq_some_iff.mp H
        obtain ⟨t239, A190, H⟩ := H
        replace H : (if 0 ≤ (wrap64 (a1 + 1)) then (if (wrap64 (a1 + 1)) ≤ t239 then (if t239 ≤ (a0.size : Int) then (some (a0.extract ((wrap64 (a1 + 1)) : Int).toNat (t239 : Int).toNat, t239)) else (none)) else (none)) else (none)) = some (r1, r2) := H
        have A19 := Aside0.mk A190
        clear A190
        replace H : (if 0 ≤ (ji4) then (if (ji4) ≤ t239 then (if t239 ≤ (a0.size : Int) then (some (a0.extract ((ji4) : Int).toNat (t239 : Int).toNat, t239)) else (none)) else (none)) else (none)) = some (r1, r2) := by first | (rw [hji4] at H; exact H) | (simp only [hji4] at H ⊢; exact H)
        (try rw [hji4] at c3b0)
        (try rw [hji4] at A17)
        (try rw [hji4] at A19)
        by_cases c21 : 0 ≤ (ji4)
        ·rw [if_pos c21] at H
         have c21b0 := eq_true c21
         have c21b1 : decide (0 ≤ (ji4)) = true := decide_eq_true c21
         clear c21
         by_cases c22 : (ji4) ≤ t239
         ·rw [if_pos c22] at H
          have c22b0 := eq_true c22
          have c22b1 : decide ((ji4) ≤ t239) = true := decide_eq_true c22
          clear c22
          by_cases c23 : t239 ≤ (a0.size : Int)
          ·rw [if_pos c23] at H
           have c23b0 := eq_true c23
           have c23b1 : decide (t239 ≤ (a0.size : Int)) = true := decide_eq_true c23
           clear c23
           simp only [Option.some.injEq, Prod.mk.injEq] at H
           obtain ⟨rfl, rfl⟩ := H
           go_wp2_with (first | ((with_reducible refine gate_callee (f := 41) rfl ?_); refine goesL_ (some 34) rfl rfl Tryd.func41 (by kernel_rfl) rfl #[.int .u8 (bt a0 (ji4))] rfl (by (try simp only [List.map_toArray, List.map_cons, List.map_nil]); first | done | (simp only [hji4]; rfl) | rfl | (simp only [List.length_drop, List.length_take]; rfl)) ?_; (with_reducible refine (jobshellref48_letter.calls (bt a0 (ji4)) true _ A17.out).mono ?_); rintro e w' ⟨rfl, ⟨nd, rfl⟩⟩; refine ⟨_, rfl, ?_⟩) | ((with_reducible refine gate_callee (f := 42) rfl ?_); refine goesL_ (some 38) rfl rfl Tryd.func42 (by kernel_rfl) rfl #[.string a0, .int .i64 ji4] rfl (by (try simp only [List.map_toArray, List.map_cons, List.map_nil]); first | done | (simp only [hji4]; rfl) | rfl | (simp only [List.length_drop, List.length_take]; rfl)) ?_; (with_reducible refine (jobshellref48_name.calls kj7 a0 ji4 t239 _ A19.out).mono ?_); rintro e w' ⟨rfl, ⟨nd, rfl⟩⟩; refine ⟨_, rfl, ?_⟩))
           go_ret2
           exact ⟨by first | rfl | (simp; done) | (simp only [← hji4, ← hji4] <;> (first | rfl | simp)) | (simp [*]; done), by repeat (first | exact Drawn0.refl _ | apply Drawn0.step)⟩
          ·rw [if_neg c23] at H
           exact absurd H (by simp)
         ·rw [if_neg c22] at H
          exact absurd H (by simp)
        ·rw [if_neg c21] at H
         exact absurd H (by simp)
       ·replace c18 := Bool.eq_false_iff.mpr c18
        subst c18
        have H1 : (if (bt a0 (ji4)) = 123 then (jobshellref48_parameter.j1 kj7 a0 a1 (decide ((wrap64 (a1 + 2)) ≥ (a0.size : Int)))) else (jobshellref48_parameter.j1 kj7 a0 a1 true)) = some (r1, r2) := by rw [if_neg (show ¬ (false = true) by decide)] at H; exact H
        clear H
        have H := H1
        clear H1
        have HC24 := Aside0.mk H
        clear H
        go_upto_region 9 with (first | ((with_reducible refine gate_callee (f := 41) rfl ?_); refine goesL_ (some 34) rfl rfl Tryd.func41 (by kernel_rfl) rfl #[.int .u8 (bt a0 (ji4))] rfl (by (try simp only [List.map_toArray, List.map_cons, List.map_nil]); first | done | (simp only [hji4]; rfl) | rfl | (simp only [List.length_drop, List.length_take]; rfl)) ?_; (with_reducible refine (jobshellref48_letter.calls (bt a0 (ji4)) false _ A17.out).mono ?_); rintro e w' ⟨rfl, ⟨nd, rfl⟩⟩; refine ⟨_, rfl, ?_⟩))
        (try simp only [Act.put, List.setIfInBounds_toArray, List.set_cons_zero, List.set_cons_succ])
        go_cut [53] (fun v53 wc => ∃ (kq : Nat) (x53_23 : Bool), v53 = .bool x53_23 ∧ Aside0 (jobshellref48_parameter.j1 kq a0 a1 x53_23 = some (r1, r2)) ∧ Aside0 (kq ≤ kj7) ∧ Drawn0 w wc)
        case first =>
         have H := HC24.out
         clear HC24
         by_cases c25 : (bt a0 (ji4)) = 123
         ·rw [if_pos c25] at H
          have c25b0 : ((bt a0 (ji4)) == 123) = true := beq_iff_eq.mpr c25
          have c25b1 : ((bt a0 (ji4)) != 123) = false := bne_eq_false_iff_eq.mpr c25
          clear c25
          (first | rw [c25b0] | (simp only [i64_w, i32_w]; rw [c25b0]) | skip)
          have H' := Aside0.mk H
          clear H
          go_wp2
          go_meet
          case rel => exact ⟨_, (decide ((wrap64 (a1 + 2)) ≥ (a0.size : Int))), (by first | rfl | (simp; done) | (simp [*]; done) | (simp [isE_ne]; done)), H', ⟨by have := HJ7.out; first | omega | exact Nat.le_refl _⟩, by repeat (first | exact Drawn0.refl _ | apply Drawn0.step)⟩
         ·rw [if_neg c25] at H
          have c25b0 : ((bt a0 (ji4)) == 123) = false := beq_eq_false_iff_ne.mpr c25
          have c25b1 : ((bt a0 (ji4)) != 123) = true := bne_iff_ne.mpr c25
          (first | rw [c25b0] | (simp only [i64_w, i32_w]; rw [c25b0]) | skip)
          have H' := Aside0.mk H
          clear H
          go_wp2
          go_meet
          case rel => exact ⟨_, (true), (by first | rfl | (simp; done) | (simp [*]; done) | (simp [isE_ne]; done)), H', ⟨by have := HJ7.out; first | omega | exact Nat.le_refl _⟩, by repeat (first | exact Drawn0.refl _ | apply Drawn0.step)⟩
        case rest =>
         clear HC24
         try clear c1
         try clear c2
         try clear p2
         try clear c3
         try clear c3b0
         try clear c4
         try clear c5
         try clear c5b0
         try clear c6
         try clear c6b0
         try clear p6
         try clear c7
         try clear p7
         try clear q7
         try clear hx7
         try clear c10
         try clear c12
         try clear c14
         try clear c14b0
         try clear c14b1
         try clear c15
         try clear c15b0
         try clear c15b1
         try clear c16
         try clear c16b0
         try clear c16b1
         try clear c18
         try clear c21
         try clear c21b0
         try clear c21b1
         try clear c22
         try clear c22b0
         try clear c22b1
         try clear c23
         try clear c23b0
         try clear c23b1
         try clear c24
         try clear c25
         try clear c25b0
         try clear c25b1
         try clear p2
         try clear p6
         try clear p7
         try clear q7
         obtain ⟨kq, x53_23, rfl, HA, HJ23, ⟨mc23, rfl⟩⟩ := hcut
         cases kq with
         | zero => exact absurd HA.out (by simp [jobshellref48_parameter.j1])
         | succ kj23 =>
          have H := HA.out
          clear HA
          simp only [jobshellref48_parameter.j1] at H
          by_cases c26 : x53_23 = true
          ·subst c26
           have H1 : (some ((⟨#[]⟩ : ByteArray), a1)) = some (r1, r2) := by rw [if_pos rfl] at H; exact H
           clear H
           have H := H1
           clear H1
           simp only [Option.some.injEq, Prod.mk.injEq] at H
           obtain ⟨rfl, rfl⟩ := H
           go_wp2
           go_ret2
           exact ⟨by first | rfl | (simp; done) | (simp only [← hji4] <;> (first | rfl | simp)) | (simp [*]; done), by repeat (first | exact Drawn0.refl _ | apply Drawn0.step)⟩
          ·replace c26 := Bool.eq_false_iff.mpr c26
           subst c26
           have H1 : ((jobshellref48_name.f kj23 a0 (wrap64 (a1 + 2))).bind fun t240 => (if 0 ≤ (wrap64 (a1 + 2)) then (if (wrap64 (a1 + 2)) < (a0.size : Int) then ((jobshellref48_special.f (bt a0 (wrap64 (a1 + 2)))).bind fun t241 => (if t241 = true then (if (wrap64 (a1 + 3)) = (wrap64 (a1 + 2)) then (some ((⟨#[]⟩ : ByteArray), a1)) else (if (wrap64 (a1 + 3)) ≥ (a0.size : Int) then (some ((⟨#[]⟩ : ByteArray), a1)) else (if 0 ≤ (wrap64 (a1 + 3)) then (if (wrap64 (a1 + 3)) < (a0.size : Int) then (if (bt a0 (wrap64 (a1 + 3))) = 125 then (if (wrap64 (a1 + 2)) ≤ (wrap64 (a1 + 3)) then (if (wrap64 (a1 + 3)) ≤ (a0.size : Int) then (some (a0.extract ((wrap64 (a1 + 2)) : Int).toNat ((wrap64 (a1 + 3)) : Int).toNat, wrap64 ((wrap64 (a1 + 3)) + 1))) else (none)) else (none)) else (some ((⟨#[]⟩ : ByteArray), a1))) else (none)) else (none)))) else (if t240 = (wrap64 (a1 + 2)) then (some ((⟨#[]⟩ : ByteArray), a1)) else (if t240 ≥ (a0.size : Int) then (some ((⟨#[]⟩ : ByteArray), a1)) else (if 0 ≤ t240 then (if t240 < (a0.size : Int) then (if (bt a0 t240) = 125 then (if (wrap64 (a1 + 2)) ≤ t240 then (if t240 ≤ (a0.size : Int) then (some (a0.extract ((wrap64 (a1 + 2)) : Int).toNat (t240 : Int).toNat, wrap64 (t240 + 1))) else (none)) else (none)) else (some ((⟨#[]⟩ : ByteArray), a1))) else (none)) else (none)))))) else (none)) else (none))) = some (r1, r2) := by rw [if_neg (show ¬ (false = true) by decide)] at H; exact H
           clear H
           have H := H1
           clear H1
           replace H := Option.bind_eq_some_iff.mp H
           obtain ⟨t240, A270, H⟩ := H
           replace H : (if 0 ≤ (wrap64 (a1 + 2)) then (if (wrap64 (a1 + 2)) < (a0.size : Int) then ((jobshellref48_special.f (bt a0 (wrap64 (a1 + 2)))).bind fun t241 => (if t241 = true then (if (wrap64 (a1 + 3)) = (wrap64 (a1 + 2)) then (some ((⟨#[]⟩ : ByteArray), a1)) else (if (wrap64 (a1 + 3)) ≥ (a0.size : Int) then (some ((⟨#[]⟩ : ByteArray), a1)) else (if 0 ≤ (wrap64 (a1 + 3)) then (if (wrap64 (a1 + 3)) < (a0.size : Int) then (if (bt a0 (wrap64 (a1 + 3))) = 125 then (if (wrap64 (a1 + 2)) ≤ (wrap64 (a1 + 3)) then (if (wrap64 (a1 + 3)) ≤ (a0.size : Int) then (some (a0.extract ((wrap64 (a1 + 2)) : Int).toNat ((wrap64 (a1 + 3)) : Int).toNat, wrap64 ((wrap64 (a1 + 3)) + 1))) else (none)) else (none)) else (some ((⟨#[]⟩ : ByteArray), a1))) else (none)) else (none)))) else (if t240 = (wrap64 (a1 + 2)) then (some ((⟨#[]⟩ : ByteArray), a1)) else (if t240 ≥ (a0.size : Int) then (some ((⟨#[]⟩ : ByteArray), a1)) else (if 0 ≤ t240 then (if t240 < (a0.size : Int) then (if (bt a0 t240) = 125 then (if (wrap64 (a1 + 2)) ≤ t240 then (if t240 ≤ (a0.size : Int) then (some (a0.extract ((wrap64 (a1 + 2)) : Int).toNat (t240 : Int).toNat, wrap64 (t240 + 1))) else (none)) else (none)) else (some ((⟨#[]⟩ : ByteArray), a1))) else (none)) else (none)))))) else (none)) else (none)) = some (r1, r2) := H
           have A27 := Aside0.mk A270
           clear A270
           obtain ⟨ji28, hji28⟩ : ∃ j_ : Int, (wrap64 (a1 + 2)) = j_ := ⟨_, rfl⟩
           replace H : (if 0 ≤ (ji28) then (if (ji28) < (a0.size : Int) then ((jobshellref48_special.f (bt a0 (ji28))).bind fun t241 => (if t241 = true then (if (wrap64 (a1 + 3)) = (ji28) then (some ((⟨#[]⟩ : ByteArray), a1)) else (if (wrap64 (a1 + 3)) ≥ (a0.size : Int) then (some ((⟨#[]⟩ : ByteArray), a1)) else (if 0 ≤ (wrap64 (a1 + 3)) then (if (wrap64 (a1 + 3)) < (a0.size : Int) then (if (bt a0 (wrap64 (a1 + 3))) = 125 then (if (ji28) ≤ (wrap64 (a1 + 3)) then (if (wrap64 (a1 + 3)) ≤ (a0.size : Int) then (some (a0.extract ((ji28) : Int).toNat ((wrap64 (a1 + 3)) : Int).toNat, wrap64 ((wrap64 (a1 + 3)) + 1))) else (none)) else (none)) else (some ((⟨#[]⟩ : ByteArray), a1))) else (none)) else (none)))) else (if t240 = (ji28) then (some ((⟨#[]⟩ : ByteArray), a1)) else (if t240 ≥ (a0.size : Int) then (some ((⟨#[]⟩ : ByteArray), a1)) else (if 0 ≤ t240 then (if t240 < (a0.size : Int) then (if (bt a0 t240) = 125 then (if (ji28) ≤ t240 then (if t240 ≤ (a0.size : Int) then (some (a0.extract ((ji28) : Int).toNat (t240 : Int).toNat, wrap64 (t240 + 1))) else (none)) else (none)) else (some ((⟨#[]⟩ : ByteArray), a1))) else (none)) else (none)))))) else (none)) else (none)) = some (r1, r2) := by first | (rw [hji28] at H; exact H) | (simp only [hji28] at H ⊢; exact H)
           (try rw [hji28] at A27)
           have hji28w : (IntKind.i64.wrap (a1 + 2)) = ji28 := (i64_w _).trans hji28
           by_cases c29 : 0 ≤ (ji28)
           ·rw [if_pos c29] at H
            have c29b0 : decide (0 ≤ (ji28)) = true := decide_eq_true c29
            clear c29
            by_cases c30 : (ji28) < (a0.size : Int)
            ·rw [if_pos c30] at H
             have c30b0 : decide ((ji28) < (a0.size : Int)) = true := decide_eq_true c30
             clear c30
             replace H := Option.bind_eq_some_iff.mp H
             obtain ⟨t241, A320, H⟩ := H
             replace H : (if t241 = true then (if (wrap64 (a1 + 3)) = (ji28) then (some ((⟨#[]⟩ : ByteArray), a1)) else (if (wrap64 (a1 + 3)) ≥ (a0.size : Int) then (some ((⟨#[]⟩ : ByteArray), a1)) else (if 0 ≤ (wrap64 (a1 + 3)) then (if (wrap64 (a1 + 3)) < (a0.size : Int) then (if (bt a0 (wrap64 (a1 + 3))) = 125 then (if (ji28) ≤ (wrap64 (a1 + 3)) then (if (wrap64 (a1 + 3)) ≤ (a0.size : Int) then (some (a0.extract ((ji28) : Int).toNat ((wrap64 (a1 + 3)) : Int).toNat, wrap64 ((wrap64 (a1 + 3)) + 1))) else (none)) else (none)) else (some ((⟨#[]⟩ : ByteArray), a1))) else (none)) else (none)))) else (if t240 = (ji28) then (some ((⟨#[]⟩ : ByteArray), a1)) else (if t240 ≥ (a0.size : Int) then (some ((⟨#[]⟩ : ByteArray), a1)) else (if 0 ≤ t240 then (if t240 < (a0.size : Int) then (if (bt a0 t240) = 125 then (if (ji28) ≤ t240 then (if t240 ≤ (a0.size : Int) then (some (a0.extract ((ji28) : Int).toNat (t240 : Int).toNat, wrap64 (t240 + 1))) else (none)) else (none)) else (some ((⟨#[]⟩ : ByteArray), a1))) else (none)) else (none))))) = some (r1, r2) := H
             have A32 := Aside0.mk A320
             clear A320
             by_cases c33 : t241 = true
             ·subst c33
              have H1 : (if (wrap64 (a1 + 3)) = (ji28) then (some ((⟨#[]⟩ : ByteArray), a1)) else (if (wrap64 (a1 + 3)) ≥ (a0.size : Int) then (some ((⟨#[]⟩ : ByteArray), a1)) else (if 0 ≤ (wrap64 (a1 + 3)) then (if (wrap64 (a1 + 3)) < (a0.size : Int) then (if (bt a0 (wrap64 (a1 + 3))) = 125 then (if (ji28) ≤ (wrap64 (a1 + 3)) then (if (wrap64 (a1 + 3)) ≤ (a0.size : Int) then (some (a0.extract ((ji28) : Int).toNat ((wrap64 (a1 + 3)) : Int).toNat, wrap64 ((wrap64 (a1 + 3)) + 1))) else (none)) else (none)) else (some ((⟨#[]⟩ : ByteArray), a1))) else (none)) else (none)))) = some (r1, r2) := by rw [if_pos rfl] at H; exact H
              clear H
              have H := H1
              clear H1
              by_cases c34 : (wrap64 (a1 + 3)) = (ji28)
              ·rw [if_pos c34] at H
               have c34b0 : ((wrap64 (a1 + 3)) == (ji28)) = true := beq_iff_eq.mpr c34
               have c34b1 : ((wrap64 (a1 + 3)) != (ji28)) = false := bne_eq_false_iff_eq.mpr c34
               clear c34
               simp only [Option.some.injEq, Prod.mk.injEq] at H
               obtain ⟨rfl, rfl⟩ := H
               go_wp2_with (first | ((with_reducible refine gate_callee (f := 42) rfl ?_); refine goesL_ (some 58) rfl rfl Tryd.func42 (by kernel_rfl) rfl #[.string a0, .int .i64 ji28] rfl (by (try simp only [List.map_toArray, List.map_cons, List.map_nil]); first | done | (simp only [hji28]; rfl) | rfl | (simp only [List.length_drop, List.length_take]; rfl)) ?_; (with_reducible refine (jobshellref48_name.calls kj23 a0 ji28 t240 _ A27.out).mono ?_); rintro e w' ⟨rfl, ⟨nd, rfl⟩⟩; refine ⟨_, rfl, ?_⟩; have p31 : 0 ≤ ((ji28) : Int) := of_decide_eq_true (by first | (with_reducible assumption) | assumption); have q31 : (ji28) < (a0.size : Int) := of_decide_eq_true (by first | (with_reducible assumption) | assumption); have hx31 := bt_at a0 (ji28); replace p31 := eq_true p31; replace q31 := eq_true q31) | ((with_reducible refine gate_callee (f := 40) rfl ?_); refine goesL_ (some 63) rfl rfl Tryd.func40 (by kernel_rfl) rfl #[.int .u8 (bt a0 (ji28))] rfl (by (try simp only [List.map_toArray, List.map_cons, List.map_nil]); first | done | (simp only [hji28]; rfl) | rfl | (simp only [List.length_drop, List.length_take]; rfl)) ?_; (with_reducible refine (jobshellref48_special.calls (bt a0 (ji28)) true _ A32.out).mono ?_); rintro e w' ⟨rfl, ⟨nd, rfl⟩⟩; refine ⟨_, rfl, ?_⟩))
               go_ret2
               exact ⟨by first | rfl | (simp; done) | (simp only [← hji4, ← hji28] <;> (first | rfl | simp)) | (simp [*]; done), by repeat (first | exact Drawn0.refl _ | apply Drawn0.step)⟩
              ·rw [if_neg c34] at H
               have c34b0 : ((wrap64 (a1 + 3)) == (ji28)) = false := beq_eq_false_iff_ne.mpr c34
               have c34b1 : ((wrap64 (a1 + 3)) != (ji28)) = true := bne_iff_ne.mpr c34
               by_cases c35 : (wrap64 (a1 + 3)) ≥ (a0.size : Int)
               ·rw [if_pos c35] at H
                have c35b0 : decide ((a0.size : Int) ≤ (wrap64 (a1 + 3))) = true := decide_eq_true c35
                clear c35
                simp only [Option.some.injEq, Prod.mk.injEq] at H
                obtain ⟨rfl, rfl⟩ := H
                go_wp2_with (first | ((with_reducible refine gate_callee (f := 42) rfl ?_); refine goesL_ (some 58) rfl rfl Tryd.func42 (by kernel_rfl) rfl #[.string a0, .int .i64 ji28] rfl (by (try simp only [List.map_toArray, List.map_cons, List.map_nil]); first | done | (simp only [hji28]; rfl) | rfl | (simp only [List.length_drop, List.length_take]; rfl)) ?_; (with_reducible refine (jobshellref48_name.calls kj23 a0 ji28 t240 _ A27.out).mono ?_); rintro e w' ⟨rfl, ⟨nd, rfl⟩⟩; refine ⟨_, rfl, ?_⟩; have p31 : 0 ≤ ((ji28) : Int) := of_decide_eq_true (by first | (with_reducible assumption) | assumption); have q31 : (ji28) < (a0.size : Int) := of_decide_eq_true (by first | (with_reducible assumption) | assumption); have hx31 := bt_at a0 (ji28); replace p31 := eq_true p31; replace q31 := eq_true q31) | ((with_reducible refine gate_callee (f := 40) rfl ?_); refine goesL_ (some 63) rfl rfl Tryd.func40 (by kernel_rfl) rfl #[.int .u8 (bt a0 (ji28))] rfl (by (try simp only [List.map_toArray, List.map_cons, List.map_nil]); first | done | (simp only [hji28]; rfl) | rfl | (simp only [List.length_drop, List.length_take]; rfl)) ?_; (with_reducible refine (jobshellref48_special.calls (bt a0 (ji28)) true _ A32.out).mono ?_); rintro e w' ⟨rfl, ⟨nd, rfl⟩⟩; refine ⟨_, rfl, ?_⟩))
                go_ret2
                exact ⟨by first | rfl | (simp; done) | (simp only [← hji4, ← hji28] <;> (first | rfl | simp)) | (simp [*]; done), by repeat (first | exact Drawn0.refl _ | apply Drawn0.step)⟩
               ·rw [if_neg c35] at H
                have c35b0 : decide ((a0.size : Int) ≤ (wrap64 (a1 + 3))) = false := decide_eq_false c35
                clear c35
                obtain ⟨ji36, hji36⟩ : ∃ j_ : Int, (wrap64 (a1 + 3)) = j_ := ⟨_, rfl⟩
                replace H : (if 0 ≤ (ji36) then (if (ji36) < (a0.size : Int) then (if (bt a0 (ji36)) = 125 then (if (ji28) ≤ (ji36) then (if (ji36) ≤ (a0.size : Int) then (some (a0.extract ((ji28) : Int).toNat ((ji36) : Int).toNat, wrap64 ((ji36) + 1))) else (none)) else (none)) else (some ((⟨#[]⟩ : ByteArray), a1))) else (none)) else (none)) = some (r1, r2) := by first | (rw [hji36] at H; exact H) | (simp only [hji36] at H ⊢; exact H)
                (try rw [hji36] at c34b0)
                (try rw [hji36] at c34b1)
                (try rw [hji36] at c35b0)
                (try rw [hji36] at A27)
                (try rw [hji36] at A32)
                have hji36w : (IntKind.i64.wrap (a1 + 3)) = ji36 := (i64_w _).trans hji36
                by_cases c37 : 0 ≤ (ji36)
                ·rw [if_pos c37] at H
                 have c37b0 : decide (0 ≤ (ji36)) = true := decide_eq_true c37
                 clear c37
                 by_cases c38 : (ji36) < (a0.size : Int)
                 ·rw [if_pos c38] at H
                  have c38b0 : decide ((ji36) < (a0.size : Int)) = true := decide_eq_true c38
                  clear c38
                  by_cases c40 : (bt a0 (ji36)) = 125
                  ·rw [if_pos c40] at H
                   have c40b0 : ((bt a0 (ji36)) == 125) = true := beq_iff_eq.mpr c40
                   have c40b1 : ((bt a0 (ji36)) != 125) = false := bne_eq_false_iff_eq.mpr c40
                   clear c40
                   have c41b0 := eq_true (of_decide_eq_true (by first | (with_reducible assumption) | assumption) : 0 ≤ (ji28))
                   by_cases c42 : (ji28) ≤ (ji36)
                   ·rw [if_pos c42] at H
                    have c42b0 := eq_true c42
                    have c42b1 : decide ((ji28) ≤ (ji36)) = true := decide_eq_true c42
                    clear c42
                    by_cases c43 : (ji36) ≤ (a0.size : Int)
                    ·rw [if_pos c43] at H
                     have c43b0 := eq_true c43
                     have c43b1 : decide ((ji36) ≤ (a0.size : Int)) = true := decide_eq_true c43
                     clear c43
                     simp only [Option.some.injEq, Prod.mk.injEq] at H
                     obtain ⟨rfl, rfl⟩ := H
                     go_wp2_with (first | ((with_reducible refine gate_callee (f := 42) rfl ?_); refine goesL_ (some 58) rfl rfl Tryd.func42 (by kernel_rfl) rfl #[.string a0, .int .i64 ji28] rfl (by (try simp only [List.map_toArray, List.map_cons, List.map_nil]); first | done | (simp only [hji28]; rfl) | rfl | (simp only [List.length_drop, List.length_take]; rfl)) ?_; (with_reducible refine (jobshellref48_name.calls kj23 a0 ji28 t240 _ A27.out).mono ?_); rintro e w' ⟨rfl, ⟨nd, rfl⟩⟩; refine ⟨_, rfl, ?_⟩; have p31 : 0 ≤ ((ji28) : Int) := of_decide_eq_true (by first | (with_reducible assumption) | assumption); have q31 : (ji28) < (a0.size : Int) := of_decide_eq_true (by first | (with_reducible assumption) | assumption); have hx31 := bt_at a0 (ji28); replace p31 := eq_true p31; replace q31 := eq_true q31) | ((with_reducible refine gate_callee (f := 40) rfl ?_); refine goesL_ (some 63) rfl rfl Tryd.func40 (by kernel_rfl) rfl #[.int .u8 (bt a0 (ji28))] rfl (by (try simp only [List.map_toArray, List.map_cons, List.map_nil]); first | done | (simp only [hji28]; rfl) | rfl | (simp only [List.length_drop, List.length_take]; rfl)) ?_; (with_reducible refine (jobshellref48_special.calls (bt a0 (ji28)) true _ A32.out).mono ?_); rintro e w' ⟨rfl, ⟨nd, rfl⟩⟩; refine ⟨_, rfl, ?_⟩; have p39 : 0 ≤ ((ji36) : Int) := of_decide_eq_true (by first | (with_reducible assumption) | assumption); have q39 : (ji36) < (a0.size : Int) := of_decide_eq_true (by first | (with_reducible assumption) | assumption); have hx39 := bt_at a0 (ji36); replace p39 := eq_true p39; replace q39 := eq_true q39))
                     go_ret2
                     exact ⟨by first | rfl | (simp; done) | (simp only [← hji4, ← hji28, ← hji36] <;> (first | rfl | simp)) | (simp [*]; done), by repeat (first | exact Drawn0.refl _ | apply Drawn0.step)⟩
                    ·rw [if_neg c43] at H
                     exact absurd H (by simp)
                   ·rw [if_neg c42] at H
                    exact absurd H (by simp)
                  ·rw [if_neg c40] at H
                   have c40b0 : ((bt a0 (ji36)) == 125) = false := beq_eq_false_iff_ne.mpr c40
                   have c40b1 : ((bt a0 (ji36)) != 125) = true := bne_iff_ne.mpr c40
                   simp only [Option.some.injEq, Prod.mk.injEq] at H
                   obtain ⟨rfl, rfl⟩ := H
                   go_wp2_with (first | ((with_reducible refine gate_callee (f := 42) rfl ?_); refine goesL_ (some 58) rfl rfl Tryd.func42 (by kernel_rfl) rfl #[.string a0, .int .i64 ji28] rfl (by (try simp only [List.map_toArray, List.map_cons, List.map_nil]); first | done | (simp only [hji28]; rfl) | rfl | (simp only [List.length_drop, List.length_take]; rfl)) ?_; (with_reducible refine (jobshellref48_name.calls kj23 a0 ji28 t240 _ A27.out).mono ?_); rintro e w' ⟨rfl, ⟨nd, rfl⟩⟩; refine ⟨_, rfl, ?_⟩; have p31 : 0 ≤ ((ji28) : Int) := of_decide_eq_true (by first | (with_reducible assumption) | assumption); have q31 : (ji28) < (a0.size : Int) := of_decide_eq_true (by first | (with_reducible assumption) | assumption); have hx31 := bt_at a0 (ji28); replace p31 := eq_true p31; replace q31 := eq_true q31) | ((with_reducible refine gate_callee (f := 40) rfl ?_); refine goesL_ (some 63) rfl rfl Tryd.func40 (by kernel_rfl) rfl #[.int .u8 (bt a0 (ji28))] rfl (by (try simp only [List.map_toArray, List.map_cons, List.map_nil]); first | done | (simp only [hji28]; rfl) | rfl | (simp only [List.length_drop, List.length_take]; rfl)) ?_; (with_reducible refine (jobshellref48_special.calls (bt a0 (ji28)) true _ A32.out).mono ?_); rintro e w' ⟨rfl, ⟨nd, rfl⟩⟩; refine ⟨_, rfl, ?_⟩; have p39 : 0 ≤ ((ji36) : Int) := of_decide_eq_true (by first | (with_reducible assumption) | assumption); have q39 : (ji36) < (a0.size : Int) := of_decide_eq_true (by first | (with_reducible assumption) | assumption); have hx39 := bt_at a0 (ji36); replace p39 := eq_true p39; replace q39 := eq_true q39))
                   go_ret2
                   exact ⟨by first | rfl | (simp; done) | (simp only [← hji4, ← hji28, ← hji36] <;> (first | rfl | simp)) | (simp [*]; done), by repeat (first | exact Drawn0.refl _ | apply Drawn0.step)⟩
                 ·rw [if_neg c38] at H
                  exact absurd H (by simp)
                ·rw [if_neg c37] at H
                 exact absurd H (by simp)
             ·replace c33 := Bool.eq_false_iff.mpr c33
              subst c33
              have H1 : (if t240 = (ji28) then (some ((⟨#[]⟩ : ByteArray), a1)) else (if t240 ≥ (a0.size : Int) then (some ((⟨#[]⟩ : ByteArray), a1)) else (if 0 ≤ t240 then (if t240 < (a0.size : Int) then (if (bt a0 t240) = 125 then (if (ji28) ≤ t240 then (if t240 ≤ (a0.size : Int) then (some (a0.extract ((ji28) : Int).toNat (t240 : Int).toNat, wrap64 (t240 + 1))) else (none)) else (none)) else (some ((⟨#[]⟩ : ByteArray), a1))) else (none)) else (none)))) = some (r1, r2) := by rw [if_neg (show ¬ (false = true) by decide)] at H; exact H
              clear H
              have H := H1
              clear H1
              by_cases c44 : t240 = (ji28)
              ·rw [if_pos c44] at H
               have c44b0 : (t240 == (ji28)) = true := beq_iff_eq.mpr c44
               have c44b1 : (t240 != (ji28)) = false := bne_eq_false_iff_eq.mpr c44
               clear c44
               simp only [Option.some.injEq, Prod.mk.injEq] at H
               obtain ⟨rfl, rfl⟩ := H
               go_wp2_with (first | ((with_reducible refine gate_callee (f := 42) rfl ?_); refine goesL_ (some 58) rfl rfl Tryd.func42 (by kernel_rfl) rfl #[.string a0, .int .i64 ji28] rfl (by (try simp only [List.map_toArray, List.map_cons, List.map_nil]); first | done | (simp only [hji28]; rfl) | rfl | (simp only [List.length_drop, List.length_take]; rfl)) ?_; (with_reducible refine (jobshellref48_name.calls kj23 a0 ji28 t240 _ A27.out).mono ?_); rintro e w' ⟨rfl, ⟨nd, rfl⟩⟩; refine ⟨_, rfl, ?_⟩; have p31 : 0 ≤ ((ji28) : Int) := of_decide_eq_true (by first | (with_reducible assumption) | assumption); have q31 : (ji28) < (a0.size : Int) := of_decide_eq_true (by first | (with_reducible assumption) | assumption); have hx31 := bt_at a0 (ji28); replace p31 := eq_true p31; replace q31 := eq_true q31) | ((with_reducible refine gate_callee (f := 40) rfl ?_); refine goesL_ (some 63) rfl rfl Tryd.func40 (by kernel_rfl) rfl #[.int .u8 (bt a0 (ji28))] rfl (by (try simp only [List.map_toArray, List.map_cons, List.map_nil]); first | done | (simp only [hji28]; rfl) | rfl | (simp only [List.length_drop, List.length_take]; rfl)) ?_; (with_reducible refine (jobshellref48_special.calls (bt a0 (ji28)) false _ A32.out).mono ?_); rintro e w' ⟨rfl, ⟨nd, rfl⟩⟩; refine ⟨_, rfl, ?_⟩))
               go_ret2
               exact ⟨by first | rfl | (simp; done) | (simp only [← hji4, ← hji28] <;> (first | rfl | simp)) | (simp [*]; done), by repeat (first | exact Drawn0.refl _ | apply Drawn0.step)⟩
              ·rw [if_neg c44] at H
               have c44b0 : (t240 == (ji28)) = false := beq_eq_false_iff_ne.mpr c44
               have c44b1 : (t240 != (ji28)) = true := bne_iff_ne.mpr c44
               by_cases c45 : t240 ≥ (a0.size : Int)
               ·rw [if_pos c45] at H
                have c45b0 : decide ((a0.size : Int) ≤ t240) = true := decide_eq_true c45
                clear c45
                simp only [Option.some.injEq, Prod.mk.injEq] at H
                obtain ⟨rfl, rfl⟩ := H
                go_wp2_with (first | ((with_reducible refine gate_callee (f := 42) rfl ?_); refine goesL_ (some 58) rfl rfl Tryd.func42 (by kernel_rfl) rfl #[.string a0, .int .i64 ji28] rfl (by (try simp only [List.map_toArray, List.map_cons, List.map_nil]); first | done | (simp only [hji28]; rfl) | rfl | (simp only [List.length_drop, List.length_take]; rfl)) ?_; (with_reducible refine (jobshellref48_name.calls kj23 a0 ji28 t240 _ A27.out).mono ?_); rintro e w' ⟨rfl, ⟨nd, rfl⟩⟩; refine ⟨_, rfl, ?_⟩; have p31 : 0 ≤ ((ji28) : Int) := of_decide_eq_true (by first | (with_reducible assumption) | assumption); have q31 : (ji28) < (a0.size : Int) := of_decide_eq_true (by first | (with_reducible assumption) | assumption); have hx31 := bt_at a0 (ji28); replace p31 := eq_true p31; replace q31 := eq_true q31) | ((with_reducible refine gate_callee (f := 40) rfl ?_); refine goesL_ (some 63) rfl rfl Tryd.func40 (by kernel_rfl) rfl #[.int .u8 (bt a0 (ji28))] rfl (by (try simp only [List.map_toArray, List.map_cons, List.map_nil]); first | done | (simp only [hji28]; rfl) | rfl | (simp only [List.length_drop, List.length_take]; rfl)) ?_; (with_reducible refine (jobshellref48_special.calls (bt a0 (ji28)) false _ A32.out).mono ?_); rintro e w' ⟨rfl, ⟨nd, rfl⟩⟩; refine ⟨_, rfl, ?_⟩))
                go_ret2
                exact ⟨by first | rfl | (simp; done) | (simp only [← hji4, ← hji28] <;> (first | rfl | simp)) | (simp [*]; done), by repeat (first | exact Drawn0.refl _ | apply Drawn0.step)⟩
               ·rw [if_neg c45] at H
                have c45b0 : decide ((a0.size : Int) ≤ t240) = false := decide_eq_false c45
                clear c45
                by_cases c46 : 0 ≤ t240
                ·rw [if_pos c46] at H
                 have c46b0 : decide (0 ≤ t240) = true := decide_eq_true c46
                 clear c46
                 by_cases c47 : t240 < (a0.size : Int)
                 ·rw [if_pos c47] at H
                  have c47b0 : decide (t240 < (a0.size : Int)) = true := decide_eq_true c47
                  clear c47
                  by_cases c49 : (bt a0 t240) = 125
                  ·rw [if_pos c49] at H
                   have c49b0 : ((bt a0 t240) == 125) = true := beq_iff_eq.mpr c49
                   have c49b1 : ((bt a0 t240) != 125) = false := bne_eq_false_iff_eq.mpr c49
                   clear c49
                   have c50b0 := eq_true (of_decide_eq_true (by first | (with_reducible assumption) | assumption) : 0 ≤ (ji28))
                   by_cases c51 : (ji28) ≤ t240
                   ·rw [if_pos c51] at H
                    have c51b0 := eq_true c51
                    have c51b1 : decide ((ji28) ≤ t240) = true := decide_eq_true c51
                    clear c51
                    by_cases c52 : t240 ≤ (a0.size : Int)
                    ·rw [if_pos c52] at H
                     have c52b0 := eq_true c52
                     have c52b1 : decide (t240 ≤ (a0.size : Int)) = true := decide_eq_true c52
                     clear c52
                     simp only [Option.some.injEq, Prod.mk.injEq] at H
                     obtain ⟨rfl, rfl⟩ := H
                     go_wp2_with (first | ((with_reducible refine gate_callee (f := 42) rfl ?_); refine goesL_ (some 58) rfl rfl Tryd.func42 (by kernel_rfl) rfl #[.string a0, .int .i64 ji28] rfl (by (try simp only [List.map_toArray, List.map_cons, List.map_nil]); first | done | (simp only [hji28]; rfl) | rfl | (simp only [List.length_drop, List.length_take]; rfl)) ?_; (with_reducible refine (jobshellref48_name.calls kj23 a0 ji28 t240 _ A27.out).mono ?_); rintro e w' ⟨rfl, ⟨nd, rfl⟩⟩; refine ⟨_, rfl, ?_⟩; have p31 : 0 ≤ ((ji28) : Int) := of_decide_eq_true (by first | (with_reducible assumption) | assumption); have q31 : (ji28) < (a0.size : Int) := of_decide_eq_true (by first | (with_reducible assumption) | assumption); have hx31 := bt_at a0 (ji28); replace p31 := eq_true p31; replace q31 := eq_true q31) | ((with_reducible refine gate_callee (f := 40) rfl ?_); refine goesL_ (some 63) rfl rfl Tryd.func40 (by kernel_rfl) rfl #[.int .u8 (bt a0 (ji28))] rfl (by (try simp only [List.map_toArray, List.map_cons, List.map_nil]); first | done | (simp only [hji28]; rfl) | rfl | (simp only [List.length_drop, List.length_take]; rfl)) ?_; (with_reducible refine (jobshellref48_special.calls (bt a0 (ji28)) false _ A32.out).mono ?_); rintro e w' ⟨rfl, ⟨nd, rfl⟩⟩; refine ⟨_, rfl, ?_⟩; have p48 : 0 ≤ (t240 : Int) := of_decide_eq_true (by first | (with_reducible assumption) | assumption); have q48 : t240 < (a0.size : Int) := of_decide_eq_true (by first | (with_reducible assumption) | assumption); have hx48 := bt_at a0 t240; replace p48 := eq_true p48; replace q48 := eq_true q48))
                     go_ret2
                     exact ⟨by first | rfl | (simp; done) | (simp only [← hji4, ← hji28] <;> (first | rfl | simp)) | (simp [*]; done), by repeat (first | exact Drawn0.refl _ | apply Drawn0.step)⟩
                    ·rw [if_neg c52] at H
                     exact absurd H (by simp)
                   ·rw [if_neg c51] at H
                    exact absurd H (by simp)
                  ·rw [if_neg c49] at H
                   have c49b0 : ((bt a0 t240) == 125) = false := beq_eq_false_iff_ne.mpr c49
                   have c49b1 : ((bt a0 t240) != 125) = true := bne_iff_ne.mpr c49
                   simp only [Option.some.injEq, Prod.mk.injEq] at H
                   obtain ⟨rfl, rfl⟩ := H
                   go_wp2_with (first | ((with_reducible refine gate_callee (f := 42) rfl ?_); refine goesL_ (some 58) rfl rfl Tryd.func42 (by kernel_rfl) rfl #[.string a0, .int .i64 ji28] rfl (by (try simp only [List.map_toArray, List.map_cons, List.map_nil]); first | done | (simp only [hji28]; rfl) | rfl | (simp only [List.length_drop, List.length_take]; rfl)) ?_; (with_reducible refine (jobshellref48_name.calls kj23 a0 ji28 t240 _ A27.out).mono ?_); rintro e w' ⟨rfl, ⟨nd, rfl⟩⟩; refine ⟨_, rfl, ?_⟩; have p31 : 0 ≤ ((ji28) : Int) := of_decide_eq_true (by first | (with_reducible assumption) | assumption); have q31 : (ji28) < (a0.size : Int) := of_decide_eq_true (by first | (with_reducible assumption) | assumption); have hx31 := bt_at a0 (ji28); replace p31 := eq_true p31; replace q31 := eq_true q31) | ((with_reducible refine gate_callee (f := 40) rfl ?_); refine goesL_ (some 63) rfl rfl Tryd.func40 (by kernel_rfl) rfl #[.int .u8 (bt a0 (ji28))] rfl (by (try simp only [List.map_toArray, List.map_cons, List.map_nil]); first | done | (simp only [hji28]; rfl) | rfl | (simp only [List.length_drop, List.length_take]; rfl)) ?_; (with_reducible refine (jobshellref48_special.calls (bt a0 (ji28)) false _ A32.out).mono ?_); rintro e w' ⟨rfl, ⟨nd, rfl⟩⟩; refine ⟨_, rfl, ?_⟩; have p48 : 0 ≤ (t240 : Int) := of_decide_eq_true (by first | (with_reducible assumption) | assumption); have q48 : t240 < (a0.size : Int) := of_decide_eq_true (by first | (with_reducible assumption) | assumption); have hx48 := bt_at a0 t240; replace p48 := eq_true p48; replace q48 := eq_true q48))
                   go_ret2
                   exact ⟨by first | rfl | (simp; done) | (simp only [← hji4, ← hji28] <;> (first | rfl | simp)) | (simp [*]; done), by repeat (first | exact Drawn0.refl _ | apply Drawn0.step)⟩
                 ·rw [if_neg c47] at H
                  exact absurd H (by simp)
                ·rw [if_neg c46] at H
                 exact absurd H (by simp)
            ·rw [if_neg c30] at H
             exact absurd H (by simp)
           ·rw [if_neg c29] at H
            exact absurd H (by simp)
   ·rw [if_neg c6] at H
    exact absurd H (by simp)
  ·rw [if_neg c5] at H
   exact absurd H (by simp)
end Go.Proofs.YtiacdccnifjcjaaDoor.F
set_option linter.unusedVariables false
set_option linter.unusedSimpArgs false
namespace Go.Proofs.YtiacdccnifjcjaaDoor.Pure
open Go.RowKit Go.Proofs.YtiacdccnifjcjaaDoor.F Go.Proofs.YtiacdccnifjcjaaDoorW.PrintWords
theorem digit48 (x : Int) : jobshellref48_digit.f x = some (isDig x) := by
  unfold jobshellref48_digit.f isDig
  by_cases h : x ≥ 48
  · rw [if_pos h, decide_eq_true (show 48 ≤ x from h), Bool.true_and]
  · rw [if_neg h, decide_eq_false (show ¬ 48 ≤ x from h), Bool.false_and]
theorem letter48 (x : Int) : jobshellref48_letter.f x = some (nameCh false x) := by
  unfold jobshellref48_letter.f nameCh isLet
  rw [digit48]
  by_cases h1 : x ≥ 97 <;> by_cases h2 : x ≤ 122 <;> by_cases h3 : x ≥ 65 <;> by_cases h4 : x ≤ 90 <;> by_cases h5 : x = 95 <;> simp [h1, h2, h3, h4, h5] <;> omega
theorem word48 (x : Int) : prompt_word.f x = some (nameCh false x) := by
  unfold prompt_word.f nameCh isLet isDig
  by_cases h1 : x ≥ 97 <;> by_cases h2 : x ≤ 122 <;> by_cases h3 : x ≥ 65 <;> by_cases h4 : x ≤ 90 <;> by_cases h5 : x = 95 <;> by_cases h6 : x ≥ 48 <;> by_cases h7 : x ≤ 57 <;> simp [h1, h2, h3, h4, h5, h6, h7] <;> omega
def spc (x : Int) : Bool := x == 64 || x == 42 || x == 35 || x == 63 || x == 45 || x == 36 || x == 33
theorem rspec (x : Int) : jobshellref48_special.f x = some (spc x) := by
  unfold jobshellref48_special.f spc
  by_cases h1 : x = 64 <;> by_cases h2 : x = 42 <;> by_cases h3 : x = 35 <;> by_cases h4 : x = 63 <;> by_cases h5 : x = 45 <;> by_cases h6 : x = 36 <;> simp [h1, h2, h3, h4, h5, h6]
theorem spec_byte (c : UInt8) : decide (Lib.indexByte [64, 42, 35, 63, 45, 36, 33] c ≥ 0) = spc (c.toNat : Int) := by
  have : ∀ n : Fin 256, decide (Lib.indexByte [64, 42, 35, 63, 45, 36, 33] (UInt8.ofNat n.val) ≥ 0) = spc ((UInt8.ofNat n.val).toNat : Int) := by decide +kernel
  have h := this ⟨c.toNat, c.toNat_lt⟩
  simpa using h
theorem pspec (r : ByteArray) : prompt_special.f r = some (match r.data.toList with | [] => false | c :: _ => spc (c.toNat : Int)) := by
  unfold prompt_special.f
  by_cases h : r.size = 0
  · have : r.data.toList = [] := List.length_eq_zero_iff.1 (by rw [size_data]; exact h)
    rw [if_pos ((nil_iff r).2 h), this]
  · obtain ⟨c, hc, hb⟩ := bt_drop r 0 (by omega)
    have hb' : bt r 0 = (c.toNat : Int) := hb
    rw [List.drop_zero] at hc
    obtain ⟨t, ht⟩ : ∃ t, r.data.toList = c :: t := ⟨_, hc⟩
    rw [if_neg (fun e => h ((nil_iff r).1 e)), if_pos (by omega), hb', ht]
    unfold strings_IndexByte.f
    show some (decide (Lib.indexByte [64, 42, 35, 63, 45, 36, 33] ((c.toNat : Int)).toNat.toUInt8 ≥ 0)) = some (spc (c.toNat : Int))
    rw [← spec_byte c, Int.toNat_natCast]
    simp
def twl : List UInt8 → Nat
  | [] => 0
  | c :: r => if nameCh false (c.toNat : Int) = true then twl r + 1 else 0
theorem twl_le : ∀ l : List UInt8, twl l ≤ l.length
  | [] => Nat.le_refl _
  | c :: r => by have := twl_le r; simp only [twl, List.length_cons]; split <;> omega
theorem name48 (s : ByteArray) (hs : s.size < 100000) : ∀ (d i k : Nat), i + d = s.size → d < k → jobshellref48_name.l0 k s i = some ((i + twl (s.data.toList.drop i) : Nat) : Int) := by
  intro d
  induction d with
  | zero =>
    intro i k hi hk
    obtain ⟨m, rfl⟩ : ∃ m, k = m + 1 := ⟨k - 1, by omega⟩
    rw [jobshellref48_name.l0, if_neg (by omega), List.drop_eq_nil_of_le (by simp; omega)]; rfl
  | succ d ih =>
    intro i k hi hk
    obtain ⟨m, rfl⟩ : ∃ m, k = m + 1 := ⟨k - 1, by omega⟩
    obtain ⟨c, hc, hb⟩ := bt_drop s i (by omega)
    rw [jobshellref48_name.l0, if_pos (by omega), if_pos (by omega), hb, letter48, Option.bind_some, wrap_succ (by omega), ih (i + 1) m (by omega) (by omega), hc]
    simp only [twl]
    by_cases h : nameCh false (c.toNat : Int) = true
    · rw [if_pos h, if_pos h]; congr 2; omega
    · rw [if_neg h, if_neg h]; rfl
theorem run48_go (s : ByteArray) (hs : s.size < 100000) : ∀ (d i k : Nat), i + d = s.size → d < k → prompt_run.l0 k s i = some (s.extract 0 (i + twl (s.data.toList.drop i))) := by
  intro d
  induction d with
  | zero =>
    intro i k hi hk
    obtain ⟨m, rfl⟩ : ∃ m, k = m + 1 := ⟨k - 1, by omega⟩
    rw [prompt_run.l0, if_neg (by omega), if_pos (by omega), if_pos (by omega), List.drop_eq_nil_of_le (by simp; omega), Int.toNat_natCast]; rfl
  | succ d ih =>
    intro i k hi hk
    obtain ⟨m, rfl⟩ : ∃ m, k = m + 1 := ⟨k - 1, by omega⟩
    obtain ⟨c, hc, hb⟩ := bt_drop s i (by omega)
    rw [prompt_run.l0, if_pos (by omega), if_pos (by omega), hb, word48, Option.bind_some, wrap_succ (by omega), ih (i + 1) m (by omega) (by omega), hc]
    simp only [twl]
    by_cases h : nameCh false (c.toNat : Int) = true
    · rw [if_pos h, if_pos h]; congr 2; omega
    · rw [if_neg h, if_neg h, if_pos (by omega), Int.toNat_natCast]; rfl
theorem run48 (s : ByteArray) (hs : s.size < 100000) {k : Nat} (hk : 100000 ≤ k) : prompt_run.f k s = some (ba (s.data.toList.take (twl s.data.toList))) := by
  have := run48_go s hs s.size 0 k (by omega) (by omega)
  rw [List.drop_zero, Nat.zero_add, extract_ba, List.drop_zero] at this
  exact this
def brace (r : List UInt8) : List UInt8 := if twl r = 0 then (match r with | d :: _ => if spc (d.toNat : Int) = true then [d] else [] | [] => []) else r.take (twl r)
def parL : List UInt8 → List UInt8 × Nat
  | [] => ([], 0)
  | c :: r => if isDig (c.toNat : Int) = true ∨ spc (c.toNat : Int) = true then ([c], 1)
    else if c = 123 then (if brace r = [] then ([], 0) else if (r.drop (brace r).length).head? = some 125 then (brace r, (brace r).length + 2) else ([], 0))
    else ((c :: r).take (twl (c :: r)), twl (c :: r))
theorem take1 (l : List UInt8) (c : UInt8) (r : List UInt8) (h : l = c :: r) : l.take 1 = [c] := by rw [h]; rfl
theorem ba_nil_iff (l : List UInt8) : (ba l).toList = ([] : List UInt8) ↔ l = [] := by rw [Lib.toList_data, ba_data]
theorem prefix_brace (x : ByteArray) : strings_HasPrefix.f x (⟨#[125]⟩ : ByteArray) = some (decide (x.data.toList.head? = some 125)) := by
  unfold strings_HasPrefix.f stringslite_HasPrefix.f
  have h1 : ((⟨#[125]⟩ : ByteArray).size : Int) = 1 := rfl
  rw [h1]
  by_cases h : x.size = 0
  · have : x.data.toList = [] := List.length_eq_zero_iff.1 (by rw [size_data]; exact h)
    rw [if_neg (by omega), this]; rfl
  · obtain ⟨c, hc, hb⟩ := bt_drop x 0 (by omega)
    rw [List.drop_zero] at hc
    obtain ⟨t, ht⟩ : ∃ t, x.data.toList = c :: t := ⟨_, hc⟩
    rw [if_pos (by omega), if_pos (by omega), if_pos (by omega), extract_ba, List.drop_zero, ht]
    rw [Option.bind_some]
    congr 1
    rw [show (1 : Int).toNat = 1 from rfl, Lib.toList_data, ba_data, List.take_succ_cons, List.take_zero]
    have e : (⟨#[125]⟩ : ByteArray).toList = [125] := by decide +kernel
    rw [e]
    by_cases hc2 : c = 125
    · subst hc2; rfl
    · rw [beq_eq_false_iff_ne.2 (by simpa using hc2), decide_eq_false (show ¬ (c :: t).head? = some 125 by simpa using hc2)]
theorem par_prog (s : ByteArray) (hs : s.size ≤ 10000) {k : Nat} (hk : 200000 ≤ k) : prompt_parameter.f k s = some (ba (parL s.data.toList).1, ((parL s.data.toList).2 : Int)) := by
  obtain ⟨m, rfl⟩ : ∃ m, k = m + 4 := ⟨k - 4, by omega⟩
  unfold prompt_parameter.f
  by_cases h0 : s.size = 0
  · have : s.data.toList = [] := List.length_eq_zero_iff.1 (by rw [size_data]; exact h0)
    rw [if_pos ((nil_iff s).2 h0), this]; rfl
  obtain ⟨c, hc, hb⟩ := bt_drop s 0 (by omega)
  have hb' : bt s 0 = (c.toNat : Int) := hb
  rw [List.drop_zero] at hc
  obtain ⟨t, ht⟩ : ∃ t, s.data.toList = c :: t := ⟨_, hc⟩
  have hsz := size_data s
  rw [ht, List.length_cons] at hsz
  rw [if_neg (fun e => h0 ((nil_iff s).1 e)), if_pos (by omega), hb']
  have hj0 : (if (c.toNat : Int) ≥ 48 then (prompt_parameter.j0 (m + 4) s (decide ((c.toNat : Int) ≤ 57))) else (prompt_parameter.j0 (m + 4) s false)) = prompt_parameter.j0 (m + 4) s (isDig (c.toNat : Int)) := by
    unfold isDig
    by_cases h : (c.toNat : Int) ≥ 48
    · rw [if_pos h, decide_eq_true (show 48 ≤ (c.toNat : Int) from h), Bool.true_and]
    · rw [if_neg h, decide_eq_false (show ¬ 48 ≤ (c.toNat : Int) from h), Bool.false_and]
  have hsp : prompt_special.f s = some (spc (c.toNat : Int)) := by rw [pspec, ht]
  have hj1 : prompt_parameter.j0 (m + 4) s (isDig (c.toNat : Int)) = prompt_parameter.j1 (m + 3) s (isDig (c.toNat : Int) || spc (c.toNat : Int)) := by
    rw [prompt_parameter.j0, hsp]
    cases hd : isDig (c.toNat : Int) with
    | true => rw [if_pos rfl, Bool.true_or]
    | false => rw [if_neg (by decide), Bool.false_or]; rfl
  rw [hj0, hj1, ht, parL, prompt_parameter.j1]
  by_cases h1 : isDig (c.toNat : Int) = true ∨ spc (c.toNat : Int) = true
  · have : (isDig (c.toNat : Int) || spc (c.toNat : Int)) = true := by rcases h1 with h | h <;> rw [h] <;> simp
    rw [this, if_pos rfl, if_pos (by omega), if_pos (by omega), if_pos h1, extract_ba, List.drop_zero, ht]; rfl
  · have : (isDig (c.toNat : Int) || spc (c.toNat : Int)) = false := by
      cases hd : isDig (c.toNat : Int) <;> cases hs' : spc (c.toNat : Int) <;> simp [hd, hs'] at h1 ⊢
    rw [this, if_neg (by decide), if_pos (by omega), hb', if_neg h1]
    by_cases h2 : c = 123
    · subst h2
      have hx : (s.extract 1 s.size).data.toList = t := by
        rw [extract_data, List.take_of_length_le (by rw [size_data]; omega), ht]; rfl
      have hxs : (s.extract 1 s.size).size < 100000 := by rw [ByteArray.size_extract]; omega
      rw [if_pos (by decide), if_pos (by omega), run48 _ hxs (by omega), Option.bind_some, hx, if_pos rfl]
      have hbr : ∀ q : Nat, prompt_parameter.j3 (q + 1) s (ba (brace t)) = some (ba (if brace t = [] then ([], 0) else if (t.drop (brace t).length).head? = some 125 then (brace t, (brace t).length + 2) else ([], 0) : List UInt8 × Nat).1, ((if brace t = [] then ([], 0) else if (t.drop (brace t).length).head? = some 125 then (brace t, (brace t).length + 2) else ([], 0) : List UInt8 × Nat).2 : Int)) := by
        intro q
        rw [prompt_parameter.j3]
        have hbl : (brace t).length ≤ t.length := by
          unfold brace
          split
          · cases t with
            | nil => exact Nat.le_refl _
            | cons d r => simp only; split <;> simp
          · rw [List.length_take]; omega
        by_cases hb0 : brace t = []
        · rw [if_pos ((ba_nil_iff _).2 hb0), if_pos hb0]; rfl
        · rw [if_neg (fun e => hb0 ((ba_nil_iff _).1 e)), if_neg hb0, ba_size, wrap_id (i := 1 + ((brace t).length : Int)) (by omega) (by omega), if_pos (by omega), if_pos (by omega), prefix_brace, Option.bind_some]
          have hx2 : (s.extract (1 + ((brace t).length : Int)).toNat s.size).data.toList = t.drop (brace t).length := by
            rw [extract_data, List.take_of_length_le (by rw [size_data]; omega), ht, show (1 + ((brace t).length : Int)).toNat = (brace t).length + 1 by omega, List.drop_succ_cons]
          rw [hx2]
          by_cases h5 : (t.drop (brace t).length).head? = some 125
          · rw [decide_eq_true h5, if_pos rfl, if_pos h5, wrap_id (by omega) (by omega)]; rfl
          · rw [decide_eq_false h5, if_neg (by decide), if_neg h5]; rfl
      by_cases ht0 : twl t = 0
      · rw [ht0, List.take_zero, if_pos (by decide +kernel), pspec, hx, Option.bind_some, prompt_parameter.j2]
        cases t with
        | nil =>
          rw [if_neg (by decide)]
          exact hbr m
        | cons d r =>
          simp only
          by_cases hsd : spc (d.toNat : Int) = true
          · have he : s.extract 1 2 = ba (brace (d :: r)) := by
              unfold brace
              rw [if_pos ht0, extract_ba, ht]
              simp only [if_pos hsd]
              rfl
            rw [if_pos hsd, if_pos (by omega), if_pos (by simp at hsz; omega), he]
            exact hbr m
          · have he : ba [] = ba (brace (d :: r)) := by
              unfold brace
              rw [if_pos ht0]
              simp only [if_neg hsd]
            rw [if_neg hsd, he]
            exact hbr m
      · have hne : ¬ (ba (t.take (twl t))).toList = ([] : List UInt8) := by
          rw [ba_nil_iff]; intro e
          have := congrArg List.length e
          have h3 := twl_le t
          rw [List.length_take, List.length_nil] at this; omega
        have he : ba (t.take (twl t)) = ba (brace t) := by unfold brace; rw [if_neg ht0]
        rw [if_neg hne, prompt_parameter.j2, if_neg (by decide), he]
        exact hbr m
    · have h2' : ¬ (c.toNat : Int) = 123 := by
        intro e; apply h2
        have : c.toNat = (123 : UInt8).toNat := (by omega : c.toNat = 123)
        exact UInt8.toNat_inj.1 this
      rw [if_neg h2', if_neg h2, run48 s (by omega) (by omega), Option.bind_some, ht, ba_size]
      simp only [List.length_take]
      have := twl_le (c :: t)
      rw [show min (twl (c :: t)) (c :: t).length = twl (c :: t) by omega]
end Go.Proofs.YtiacdccnifjcjaaDoor.Pure
set_option linter.unusedVariables false
set_option linter.unusedSimpArgs false
namespace Go.Proofs.YtiacdccnifjcjaaDoor.Pure
open Go.RowKit Go.Proofs.YtiacdccnifjcjaaDoor.F Go.Proofs.YtiacdccnifjcjaaDoorW.PrintWords
theorem brace_le (t : List UInt8) : (brace t).length ≤ t.length := by
  unfold brace
  split
  · cases t with
    | nil => exact Nat.le_refl _
    | cons d r => simp only; split <;> simp
  · rw [List.length_take]; omega
theorem head_lt {l : List UInt8} {n : Nat} {c : UInt8} (h : (l.drop n).head? = some c) : n < l.length := by
  rcases Nat.lt_or_ge n l.length with h1 | h1
  · exact h1
  · rw [List.drop_eq_nil_of_le h1] at h; cases h
theorem parL_le : ∀ l : List UInt8, (parL l).2 ≤ l.length
  | [] => Nat.le_refl _
  | c :: r => by
    rw [parL]
    split
    · simp
    split
    · split
      · simp
      split
      · rename_i h; have := head_lt h; simp; omega
      · simp
    · exact twl_le _
section
variable (val : List UInt8 → List UInt8) (cwd js ns : List UInt8)
def stepL : List UInt8 → Option (List UInt8 × Nat)
  | [] => none
  | c :: r => if c = 36 then (if 0 < (parL r).2 then some (val (parL r).1, (parL r).2 + 1) else none)
    else if c = 92 then (match r with
      | [] => none
      | d :: _ => if d = 119 then some (cwd, 2) else if d = 36 then some ([36], 2) else if d = 92 then some ([92], 2) else if d = 117 then some (val [85, 83, 69, 82], 2)
        else if d = 106 then some (js, 2) else if d = 33 then some (ns, 2) else if d = 110 then some ([10], 2) else none)
    else none
theorem stepL_le (l : List UInt8) (t : List UInt8) (n : Nat) (h : stepL val cwd js ns l = some (t, n)) : 1 ≤ n ∧ n ≤ l.length := by
  cases l with
  | nil => cases h
  | cons c r =>
    simp only [stepL] at h
    have hp := parL_le r
    split at h
    · split at h
      · have := (Prod.mk.inj (Option.some.inj h)).2; simp; omega
      · cases h
    split at h
    · cases r with
      | nil => cases h
      | cons d q =>
        simp only at h
        have two : ∀ u, some (u, 2) = some (t, n) → 1 ≤ n ∧ n ≤ (c :: d :: q).length := by
          intro u e; have := (Prod.mk.inj (Option.some.inj e)).2; simp; omega
        repeat (first | (split at h; exact two _ h) | (split at h))
        all_goals first | exact two _ h | cases h
    · cases h
def expL : Nat → List UInt8 → List UInt8
  | 0, _ => []
  | g + 1, l => match l with
    | [] => []
    | c :: r => match stepL val cwd js ns (c :: r) with
      | some (t, n) => t ++ expL g ((c :: r).drop n)
      | none => c :: expL g r
theorem expL_fuel : ∀ (n g h : Nat) (l : List UInt8), l.length ≤ n → l.length ≤ g → l.length ≤ h → expL val cwd js ns g l = expL val cwd js ns h l := by
  intro n
  induction n with
  | zero =>
    intro g h l hn _ _
    obtain rfl : l = [] := List.length_eq_zero_iff.1 (by omega)
    cases g <;> cases h <;> rfl
  | succ n ih =>
    intro g h l hn hg hh
    cases l with
    | nil => cases g <;> cases h <;> rfl
    | cons c r =>
      simp only [List.length_cons] at hn hg hh
      obtain ⟨g', rfl⟩ : ∃ g', g = g' + 1 := ⟨g - 1, by omega⟩
      obtain ⟨h', rfl⟩ : ∃ h', h = h' + 1 := ⟨h - 1, by omega⟩
      simp only [expL]
      cases hs : stepL val cwd js ns (c :: r) with
      | none => simp only; rw [ih g' h' r (by omega) (by omega) (by omega)]
      | some x =>
        obtain ⟨t, m⟩ := x
        obtain ⟨h1, h2⟩ := stepL_le val cwd js ns _ _ _ hs
        simp only
        rw [ih g' h' ((c :: r).drop m) (by simp; omega) (by simp; omega) (by simp; omega)]
def ex (l : List UInt8) : List UInt8 := expL val cwd js ns l.length l
theorem ex_nil : ex val cwd js ns [] = [] := rfl
theorem ex_none (c : UInt8) (r : List UInt8) (h : stepL val cwd js ns (c :: r) = none) : ex val cwd js ns (c :: r) = c :: ex val cwd js ns r := by
  unfold ex
  simp only [List.length_cons, expL, h]
theorem ex_some (l t : List UInt8) (n : Nat) (h : stepL val cwd js ns l = some (t, n)) : ex val cwd js ns l = t ++ ex val cwd js ns (l.drop n) := by
  obtain ⟨h1, h2⟩ := stepL_le val cwd js ns _ _ _ h
  cases l with
  | nil => cases h
  | cons c r =>
    unfold ex
    simp only [List.length_cons, expL, h]
    congr 1
    exact expL_fuel val cwd js ns r.length _ _ _ (by simp; omega) (by simp; omega) (Nat.le_refl _)
theorem ex_length (B : Nat) (hB : 2 ≤ B) (hv : ∀ x, (val x).length ≤ B) (hc : cwd.length ≤ B) (hj : js.length ≤ B) (hn : ns.length ≤ B) : ∀ (n : Nat) (l : List UInt8), l.length ≤ n → (ex val cwd js ns l).length ≤ l.length * B := by
  intro n
  induction n with
  | zero => intro l hl; obtain rfl : l = [] := List.length_eq_zero_iff.1 (by omega); simp [ex_nil]
  | succ n ih =>
    intro l hl
    cases l with
    | nil => simp [ex_nil]
    | cons c r =>
      simp only [List.length_cons] at hl
      cases hs : stepL val cwd js ns (c :: r) with
      | none =>
        rw [ex_none _ _ _ _ _ _ hs]
        have := ih r (by omega)
        simp only [List.length_cons, Nat.succ_mul]; omega
      | some x =>
        obtain ⟨t, m⟩ := x
        obtain ⟨h1, h2⟩ := stepL_le val cwd js ns _ _ _ hs
        have ht : t.length ≤ B := by
          simp only [stepL] at hs
          have one : ∀ u q, u.length ≤ B → some (u, q) = some (t, m) → t.length ≤ B := by
            intro u q hu e; rw [← (Prod.mk.inj (Option.some.inj e)).1]; exact hu
          split at hs
          · split at hs
            · exact one _ _ (hv _) hs
            · cases hs
          split at hs
          · cases r with
            | nil => cases hs
            | cons d q =>
              simp only at hs
              split at hs
              · exact one _ _ hc hs
              split at hs
              · exact one _ _ (by simp; omega) hs
              split at hs
              · exact one _ _ (by simp; omega) hs
              split at hs
              · exact one _ _ (hv _) hs
              split at hs
              · exact one _ _ hj hs
              split at hs
              · exact one _ _ hn hs
              split at hs
              · exact one _ _ (by simp; omega) hs
              · cases hs
          · cases hs
        rw [ex_some _ _ _ _ _ _ _ hs, List.length_append]
        have h3 := ih ((c :: r).drop m) (by simp; omega)
        have h4 : ((c :: r).drop m).length * B ≤ r.length * B := Nat.mul_le_mul_right _ (by simp; omega)
        simp only [List.length_cons, Nat.succ_mul]
        omega
theorem ex_plain : ∀ l : List UInt8, (∀ c ∈ l, c ≠ 36 ∧ c ≠ 92) → ex val cwd js ns l = l
  | [], _ => rfl
  | c :: r, h => by
    obtain ⟨h1, h2⟩ := h c List.mem_cons_self
    rw [ex_none _ _ _ _ _ _ (by simp only [stepL, if_neg h1, if_neg h2]), ex_plain r (fun d hd => h d (List.mem_cons_of_mem _ hd))]
def quote : List UInt8 → List UInt8
  | [] => []
  | c :: r => if c = 92 ∨ c = 36 then 92 :: c :: quote r else c :: quote r
theorem quote_append (a b : List UInt8) : quote (a ++ b) = quote a ++ quote b := by
  induction a with
  | nil => rfl
  | cons c r ih => simp only [List.cons_append, quote, ih]; split <;> rfl
theorem quote_length : ∀ l : List UInt8, (quote l).length ≤ 2 * l.length
  | [] => Nat.le_refl _
  | c :: r => by have := quote_length r; simp only [quote]; split <;> simp <;> omega
theorem ex_quote : ∀ l : List UInt8, ex val cwd js ns (quote l) = l
  | [] => rfl
  | c :: r => by
    simp only [quote]
    split
    · rename_i h
      have hs : stepL val cwd js ns (92 :: c :: quote r) = some ([c], 2) := by
        rcases h with rfl | rfl
        · simp [stepL]
        · simp [stepL]
      rw [ex_some _ _ _ _ _ _ _ hs]
      show [c] ++ ex val cwd js ns (quote r) = c :: r
      rw [ex_quote r]; rfl
    · rename_i h
      rw [ex_none _ _ _ _ _ _ (by simp only [stepL]; rw [if_neg (fun e => h (.inr e)), if_neg (fun e => h (.inl e))]), ex_quote r]
theorem twl_blank (b : List UInt8) : ∀ a : List UInt8, twl (a ++ 32 :: b) = twl a
  | [] => by simp only [List.nil_append, twl]; rw [if_neg (by decide +kernel)]
  | c :: r => by simp only [List.cons_append, twl, twl_blank b r]
theorem brace_blank (a b : List UInt8) : brace (a ++ 32 :: b) = brace (a ++ [32]) ∧ (brace (a ++ [32])).length ≤ a.length := by
  have h1 := twl_blank b a
  have h2 := twl_blank [] a
  have h3 := twl_le a
  unfold brace
  rw [h1, h2]
  by_cases h0 : twl a = 0
  · rw [if_pos h0, if_pos h0]
    cases a with
    | nil =>
      have h32 : ¬ spc (((32 : UInt8).toNat : Nat) : Int) = true := by decide +kernel
      simp only [List.nil_append, if_neg h32]
      exact ⟨trivial, Nat.le_refl _⟩
    | cons c r => simp only [List.cons_append]; exact ⟨trivial, by split <;> simp⟩
  · rw [if_neg h0, if_neg h0, List.take_append_of_le_length h3, List.take_append_of_le_length h3]
    exact ⟨rfl, by rw [List.length_take]; omega⟩
theorem head_blank (a b : List UInt8) (n : Nat) (h : n ≤ a.length) : ((a ++ 32 :: b).drop n).head? = ((a ++ [32]).drop n).head? := by
  rw [List.head?_drop, List.head?_drop]
  rcases Nat.lt_or_ge n a.length with h1 | h1
  · rw [List.getElem?_append_left h1, List.getElem?_append_left h1]
  · obtain rfl : n = a.length := by omega
    simp
theorem parL_blank (a b : List UInt8) : parL (a ++ 32 :: b) = parL (a ++ [32]) ∧ (parL (a ++ [32])).2 ≤ a.length := by
  cases a with
  | nil =>
    have h : ∀ b, parL (32 :: b) = ([], 0) := by
      intro b
      rw [parL, if_neg (by decide +kernel), if_neg (by decide)]
      have : twl (32 :: b) = 0 := by simp only [twl]; rw [if_neg (by decide +kernel)]
      rw [this]; rfl
    simp only [List.nil_append, h]; exact ⟨trivial, Nat.le_refl _⟩
  | cons c r =>
    simp only [List.cons_append, parL]
    obtain ⟨h1, h2⟩ := brace_blank r b
    rw [h1, head_blank r b _ h2]
    by_cases hc : isDig (c.toNat : Int) = true ∨ spc (c.toNat : Int) = true
    · rw [if_pos hc, if_pos hc]; exact ⟨rfl, by simp⟩
    rw [if_neg hc, if_neg hc]
    by_cases hb : c = 123
    · rw [if_pos hb, if_pos hb]
      refine ⟨rfl, ?_⟩
      split
      · simp
      split
      · rename_i h4
        have h5 := head_lt h4
        rw [List.length_append] at h5
        rcases Nat.lt_or_ge (brace (r ++ [32])).length r.length with h6 | h6
        · simp; omega
        · have h7 : (brace (r ++ [32])).length = r.length := by omega
          rw [h7] at h4
          simp at h4
      · simp
    · rw [if_neg hb, if_neg hb]
      have t1 := twl_blank b (c :: r)
      have t2 := twl_blank [] (c :: r)
      have t3 := twl_le (c :: r)
      rw [List.cons_append] at t1 t2
      rw [t1, t2]
      rw [show c :: (r ++ 32 :: b) = (c :: r) ++ 32 :: b from rfl, show c :: (r ++ [32]) = (c :: r) ++ [32] from rfl, List.take_append_of_le_length t3, List.take_append_of_le_length t3]
      exact ⟨rfl, t3⟩
theorem step_blank (c : UInt8) (a b : List UInt8) : stepL val cwd js ns (c :: (a ++ 32 :: b)) = stepL val cwd js ns (c :: (a ++ [32])) ∧ (∀ t n, stepL val cwd js ns (c :: (a ++ [32])) = some (t, n) → n ≤ a.length + 1) := by
  obtain ⟨h1, h2⟩ := parL_blank a b
  simp only [stepL, h1]
  by_cases h36 : c = 36
  · rw [if_pos h36, if_pos h36]
    refine ⟨rfl, fun t n e => ?_⟩
    split at e
    · have := (Prod.mk.inj (Option.some.inj e)).2; omega
    · cases e
  rw [if_neg h36, if_neg h36]
  by_cases h92 : c = 92
  · rw [if_pos h92, if_pos h92]
    cases a with
    | nil =>
      simp only [List.nil_append]
      refine ⟨trivial, fun t n e => ?_⟩
      have : (if (32 : UInt8) = 119 then some (cwd, 2) else if (32 : UInt8) = 36 then some ([36], 2) else if (32 : UInt8) = 92 then some ([92], 2) else if (32 : UInt8) = 117 then some (val [85, 83, 69, 82], 2) else if (32 : UInt8) = 106 then some (js, 2) else if (32 : UInt8) = 33 then some (ns, 2) else if (32 : UInt8) = 110 then some ([10], 2) else none) = (none : Option (List UInt8 × Nat)) := by
        rw [if_neg (by decide), if_neg (by decide), if_neg (by decide), if_neg (by decide), if_neg (by decide), if_neg (by decide), if_neg (by decide)]
      rw [this] at e; cases e
    | cons d q =>
      simp only [List.cons_append]
      refine ⟨trivial, fun t n e => ?_⟩
      have two : ∀ u, some (u, 2) = some (t, n) → n ≤ (d :: q).length + 1 := by
        intro u e; have := (Prod.mk.inj (Option.some.inj e)).2; simp; omega
      repeat (first | (split at e; exact two _ e) | (split at e))
      all_goals first | exact two _ e | cases e
  · rw [if_neg h92, if_neg h92]; exact ⟨rfl, fun t n e => by cases e⟩
theorem ex_blank (b : List UInt8) : ∀ (n : Nat) (a : List UInt8), a.length ≤ n → ex val cwd js ns (a ++ 32 :: b) = ex val cwd js ns (a ++ [32]) ++ ex val cwd js ns b := by
  have base : ∀ b, ex val cwd js ns (32 :: b) = 32 :: ex val cwd js ns b := fun b => ex_none _ _ _ _ _ _ (by simp only [stepL]; rw [if_neg (by decide), if_neg (by decide)])
  intro n
  induction n with
  | zero =>
    intro a ha
    obtain rfl : a = [] := List.length_eq_zero_iff.1 (by omega)
    simp only [List.nil_append, base]; rfl
  | succ n ih =>
    intro a ha
    cases a with
    | nil => simp only [List.nil_append, base]; rfl
    | cons c r =>
      simp only [List.length_cons] at ha
      obtain ⟨h1, h2⟩ := step_blank val cwd js ns c r b
      simp only [List.cons_append]
      cases hs : stepL val cwd js ns (c :: (r ++ [32])) with
      | none =>
        rw [hs] at h1
        rw [ex_none _ _ _ _ _ _ h1, ex_none _ _ _ _ _ _ hs, ih r (by omega)]; rfl
      | some x =>
        obtain ⟨t, m⟩ := x
        have hm := h2 t m hs
        obtain ⟨g1, _⟩ := stepL_le val cwd js ns _ _ _ hs
        rw [hs] at h1
        rw [ex_some _ _ _ _ _ _ _ h1, ex_some _ _ _ _ _ _ _ hs]
        have d1 : (c :: (r ++ 32 :: b)).drop m = (c :: r).drop m ++ 32 :: b := by
          rw [show c :: (r ++ 32 :: b) = (c :: r) ++ 32 :: b from rfl, List.drop_append_of_le_length (by simp; omega)]
        have d2 : (c :: (r ++ [32])).drop m = (c :: r).drop m ++ [32] := by
          rw [show c :: (r ++ [32]) = (c :: r) ++ [32] from rfl, List.drop_append_of_le_length (by simp; omega)]
        rw [d1, d2, ih ((c :: r).drop m) (by simp; omega), List.append_assoc]
end
end Go.Proofs.YtiacdccnifjcjaaDoor.Pure
set_option linter.unusedVariables false
set_option linter.unusedSimpArgs false
namespace Go.Proofs.YtiacdccnifjcjaaDoor.Pure
open Go.RowKit Go.Proofs.YtiacdccnifjcjaaDoor.F Go.Proofs.YtiacdccnifjcjaaDoorW.PrintWords
theorem byte_eq (c u : UInt8) (n : Nat) (hn : u.toNat = n) : ((c.toNat : Int) = (n : Int)) ↔ c = u := by
  constructor
  · intro h
    have h2 : c.toNat = u.toNat := by omega
    exact UInt8.toNat_inj.1 h2
  · rintro rfl
    rw [hn]
def valOf (V : ByteArray → Option (ByteArray × Bool)) (nm : List UInt8) : List UInt8 := match V (ba nm) with | some v => v.1.data.toList | none => []
theorem valOf_eq {V : ByteArray → Option (ByteArray × Bool)} (hV : ∀ x, ∃ v, V x = some v) (nm : List UInt8) : ∃ v, V (ba nm) = some v ∧ valOf V nm = v.1.data.toList := by
  obtain ⟨v, hv⟩ := hV (ba nm)
  exact ⟨v, hv, by unfold valOf; rw [hv]⟩
section
variable {V : ByteArray → Option (ByteArray × Bool)} {Pm : ByteArray → Option (ByteArray × Int)} {cwd : ByteArray} {jobs number : Int} {s : ByteArray} {js ns : List UInt8}
theorem exStep_ex (hV : ∀ x, ∃ v, V x = some v) (hP : ∀ x : ByteArray, x.size ≤ 10000 → Pm x = some (ba (parL x.data.toList).1, ((parL x.data.toList).2 : Int))) (hj : strconv_Itoa.f jobs = some (ba js)) (hn : strconv_Itoa.f number = some (ba ns)) (hs : s.size ≤ 10000) (p : Nat) (hp : p < s.size) :
    exStep V Pm cwd jobs number s p = some ((stepL (valOf V) cwd.data.toList js ns (s.data.toList.drop p)).map fun x => (ba x.1, x.2)) := by
  obtain ⟨c, hc, hb⟩ := bt_drop s p hp
  have hsz := size_data s
  have hr : (s.extract (p + 1) s.size).data.toList = s.data.toList.drop (p + 1) := by rw [extract_data, List.take_of_length_le (by omega)]
  unfold exStep
  rw [hc, hb, stepL.eq_def]
  dsimp only
  by_cases h36 : (c.toNat : Int) = 36
  · have hc36 : c = 36 := (byte_eq c 36 36 rfl).1 h36
    rw [if_pos h36, if_pos hc36, hP _ (by rw [ByteArray.size_extract]; omega), Option.bind_some, hr]
    simp only
    by_cases h0 : 0 < (parL (s.data.toList.drop (p + 1))).2
    · obtain ⟨v, hv, he⟩ := valOf_eq hV (parL (s.data.toList.drop (p + 1))).1
      rw [if_pos (by omega), if_pos h0, hv, Option.bind_some, he, Int.toNat_natCast]
      simp only [Option.map_some, ba_of]
    · rw [if_neg (by omega), if_neg h0]; rfl
  have hc36 : ¬ c = 36 := fun e => h36 ((byte_eq c 36 36 rfl).2 e)
  rw [if_neg h36, if_neg hc36]
  by_cases h92 : (c.toNat : Int) = 92
  · have hc92 : c = 92 := (byte_eq c 92 92 rfl).1 h92
    rw [if_pos h92, if_pos hc92]
    by_cases hn1 : p + 1 < s.size
    · obtain ⟨d, hd, hbd⟩ := bt_drop s (p + 1) hn1
      have hx : (s.extract (p + 1) s.size).extract 0 1 = ba [d] := by
        rw [extract_ba, hr, hd]; rfl
      rw [if_pos hn1, hbd, hd, hx]
      simp only
      have D : ∀ (n : Nat) (u : UInt8), u.toNat = n → (((d.toNat : Int) = (n : Int)) ↔ d = u) := fun n u h => byte_eq d u n h
      by_cases k1 : (d.toNat : Int) = 119
      · rw [if_pos k1, if_pos ((D 119 119 rfl).1 k1)]; simp only [Option.map_some, ba_of]
      rw [if_neg k1, if_neg (fun e => k1 ((D 119 119 rfl).2 e))]
      by_cases k2 : (d.toNat : Int) = 36
      · have := (D 36 36 rfl).1 k2
        rw [if_pos k2, if_pos this, this]; rfl
      rw [if_neg k2, if_neg (fun e => k2 ((D 36 36 rfl).2 e))]
      by_cases k3 : (d.toNat : Int) = 92
      · have := (D 92 92 rfl).1 k3
        rw [if_pos k3, if_pos this, this]; rfl
      rw [if_neg k3, if_neg (fun e => k3 ((D 92 92 rfl).2 e))]
      by_cases k4 : (d.toNat : Int) = 117
      · obtain ⟨v, hv, he⟩ := valOf_eq hV [85, 83, 69, 82]
        rw [if_pos k4, if_pos ((D 117 117 rfl).1 k4), he]
        have hv' : V (⟨#[85, 83, 69, 82]⟩ : ByteArray) = some v := hv
        rw [hv', Option.bind_some]; simp only [Option.map_some, ba_of]
      rw [if_neg k4, if_neg (fun e => k4 ((D 117 117 rfl).2 e))]
      by_cases k5 : (d.toNat : Int) = 106
      · rw [if_pos k5, if_pos ((D 106 106 rfl).1 k5), hj]; rfl
      rw [if_neg k5, if_neg (fun e => k5 ((D 106 106 rfl).2 e))]
      by_cases k6 : (d.toNat : Int) = 33
      · rw [if_pos k6, if_pos ((D 33 33 rfl).1 k6), hn]; rfl
      rw [if_neg k6, if_neg (fun e => k6 ((D 33 33 rfl).2 e))]
      by_cases k7 : (d.toNat : Int) = 110
      · rw [if_pos k7, if_pos ((D 110 110 rfl).1 k7)]; rfl
      rw [if_neg k7, if_neg (fun e => k7 ((D 110 110 rfl).2 e))]; rfl
    · have hnil : s.data.toList.drop (p + 1) = [] := List.drop_eq_nil_of_le (by omega)
      rw [if_neg hn1, hnil]; rfl
  · rw [if_neg h92, if_neg (fun e => h92 ((byte_eq c 92 92 rfl).2 e))]; rfl
theorem exGo_ex (hV : ∀ x, ∃ v, V x = some v) (hP : ∀ x : ByteArray, x.size ≤ 10000 → Pm x = some (ba (parL x.data.toList).1, ((parL x.data.toList).2 : Int))) (hj : strconv_Itoa.f jobs = some (ba js)) (hn : strconv_Itoa.f number = some (ba ns)) (hs : s.size ≤ 10000) :
    ∀ (d p g : Nat), p ≤ s.size → s.size - p ≤ d → d < g → exGo V Pm cwd jobs number s g p = some (ex (valOf V) cwd.data.toList js ns (s.data.toList.drop p)) := by
  have hsz := size_data s
  intro d
  induction d with
  | zero =>
    intro p g hp hd hg
    obtain ⟨m, rfl⟩ : ∃ m, g = m + 1 := ⟨g - 1, by omega⟩
    rw [exGo, if_neg (by omega), List.drop_eq_nil_of_le (by omega)]; rfl
  | succ d ih =>
    intro p g hp hd hg
    obtain ⟨m, rfl⟩ : ∃ m, g = m + 1 := ⟨g - 1, by omega⟩
    by_cases hlt : p < s.size
    · obtain ⟨c, hc, _⟩ := bt_drop s p hlt
      rw [exGo, if_pos hlt, exStep_ex hV hP hj hn hs p hlt, Option.bind_some]
      cases hst : stepL (valOf V) cwd.data.toList js ns (s.data.toList.drop p) with
      | none =>
        simp only [Option.map_none]
        rw [ih (p + 1) m (by omega) (by omega) (by omega), Option.bind_some]
        rw [hc] at hst
        rw [hc, ex_none _ _ _ _ _ _ hst]; rfl
      | some x =>
        obtain ⟨t, n⟩ := x
        obtain ⟨h1, h2⟩ := stepL_le _ _ _ _ _ _ _ hst
        rw [List.length_drop] at h2
        simp only [Option.map_some]
        rw [if_pos ⟨h1, by omega⟩, ih (p + n) m (by omega) (by omega) (by omega), Option.bind_some, ex_some _ _ _ _ _ _ _ hst, ba_data, List.drop_drop]
    · rw [exGo, if_neg hlt, List.drop_eq_nil_of_le (by omega)]; rfl
end
structure Sm (n0 : ByteArray) (vs : List S_Var) (ps : List ByteArray) (cwd : ByteArray) : Prop where
  few : Few vs ps
  values : ∀ v ∈ vs, v.f1.size ≤ 500
  name : n0.size ≤ 500
  cwd : cwd.size ≤ 500
theorem var_drop (xs : List S_Var) (i : Nat) (h : i < xs.length) : xs.drop i = rd_Var xs (i : Int) :: xs.drop (i + 1) := getD_drop z_Var xs i h
theorem name_tot (s : ByteArray) : ∃ t, chars_Name.f s = some t := by
  unfold chars_Name.f; split
  · exact ⟨_, rfl⟩
  split <;> exact ⟨_, rfl⟩
theorem valid15 (xs : List S_Var) (hl : xs.length ≤ 20) : ∀ (d i k : Nat), i + d = xs.length → d + 2000 < k → ∃ r, jobshellref15_Valid.l0 k xs i = some r := by
  intro d
  induction d with
  | zero =>
    intro i k hi hk
    obtain ⟨m, rfl⟩ : ∃ m, k = m + 1 := ⟨k - 1, by omega⟩
    rw [jobshellref15_Valid.l0, if_neg (by omega)]; exact ⟨_, rfl⟩
  | succ d ih =>
    intro i k hi hk
    obtain ⟨m, rfl⟩ : ∃ m, k = m + 1 := ⟨k - 1, by omega⟩
    obtain ⟨r, hr⟩ := ih (i + 1) m (by omega) (by omega)
    obtain ⟨t, ht⟩ := name_tot (rd_Var xs (i : Int)).f0
    rw [jobshellref15_Valid.l0, if_pos (by omega), if_pos (by omega), name_eq _ (by omega), ht, Option.bind_some, wrap_succ (by omega), hr]
    have fin : ∃ r', (if (i : Int) > 0 then (if 0 ≤ (wrap64 ((i : Int) - 1)) then (if (wrap64 ((i : Int) - 1)) < (xs.length : Int) then (if ((Op.bytesLess (((rd_Var xs (wrap64 ((i : Int) - 1))).f0).toList) (((rd_Var xs (i : Int)).f0).toList)) = true) then (some r) else (some 1)) else (none)) else (none)) else (some r)) = some r' := by
      split
      · rw [wrap_id (by omega) (by omega), if_pos (by omega), if_pos (by omega)]
        split <;> exact ⟨_, rfl⟩
      · exact ⟨_, rfl⟩
    split
    · split
      · exact ⟨_, rfl⟩
      split
      · exact fin
      split
      · exact fin
      · exact ⟨_, rfl⟩
    · exact ⟨_, rfl⟩
section
variable (n0 : ByteArray) (vs : List S_Var) (ps : List ByteArray) (o3 : Opq) (al : List S_Alias) (tr : List S_Trap) (i6 i7 i8 i9 : Int) (s10 : ByteArray) (i11 i12 i13 : Int) (b14 : Bool)
theorem small_params (hv : vs.length ≤ 20) (hl : ps.length ≤ 20) : ∀ (d i k : Nat), i + d = ps.length → d + 3000 < k →
    ∃ b, jobshelllaw48_small.l1 k i n0 vs ps o3 al tr i6 i7 i8 i9 s10 i11 i12 i13 b14 = some b ∧ (b = true → ∀ x ∈ ps.drop i, x.size ≤ 500) := by
  intro d
  induction d with
  | zero =>
    intro i k hi hk
    obtain ⟨m, rfl⟩ : ∃ m, k = m + 1 := ⟨k - 1, by omega⟩
    rw [jobshelllaw48_small.l1, if_neg (by omega)]
    obtain ⟨r, hr⟩ := valid15 vs hv vs.length 0 m (by omega) (by omega)
    have hr' : jobshellref15_Valid.f m vs = some r := by unfold jobshellref15_Valid.f; rw [if_neg (by omega)]; exact hr
    rw [hr', Option.bind_some]
    exact ⟨_, rfl, fun _ x hx => by rw [List.drop_eq_nil_of_le (by omega)] at hx; cases hx⟩
  | succ d ih =>
    intro i k hi hk
    obtain ⟨m, rfl⟩ : ∃ m, k = m + 1 := ⟨k - 1, by omega⟩
    have hd : ps.drop i = rdOf ByteArray.empty ps (i : Int) :: ps.drop (i + 1) := getD_drop _ ps i (by omega)
    rw [jobshelllaw48_small.l1, if_pos (by omega), if_pos (by omega), wrap_succ (by omega)]
    by_cases h : ((rdOf ByteArray.empty ps (i : Int)).size : Int) > 500
    · rw [if_pos h]; exact ⟨_, rfl, fun h => by cases h⟩
    · rw [if_neg h]
      obtain ⟨b, h1, h2⟩ := ih (i + 1) m (by omega) (by omega)
      refine ⟨b, h1, fun e x hx => ?_⟩
      rw [hd] at hx
      rcases List.mem_cons.1 hx with rfl | hx
      · omega
      · exact h2 e x hx
theorem small_vars (hv : vs.length ≤ 20) (hl : ps.length ≤ 20) : ∀ (d i k : Nat), i + d = vs.length → d + 3100 < k →
    ∃ b, jobshelllaw48_small.l0 k i n0 vs ps o3 al tr i6 i7 i8 i9 s10 i11 i12 i13 b14 = some b ∧ (b = true → (∀ x ∈ ps, x.size ≤ 500) ∧ ∀ v ∈ vs.drop i, v.f1.size ≤ 500) := by
  intro d
  induction d with
  | zero =>
    intro i k hi hk
    obtain ⟨m, rfl⟩ : ∃ m, k = m + 1 := ⟨k - 1, by omega⟩
    rw [jobshelllaw48_small.l0, if_neg (by omega)]
    obtain ⟨b, h1, h2⟩ := small_params n0 vs ps o3 al tr i6 i7 i8 i9 s10 i11 i12 i13 b14 hv hl ps.length 0 m (by omega) (by omega)
    exact ⟨b, h1, fun e => ⟨h2 e, fun v hv => by rw [List.drop_eq_nil_of_le (by omega)] at hv; cases hv⟩⟩
  | succ d ih =>
    intro i k hi hk
    obtain ⟨m, rfl⟩ : ∃ m, k = m + 1 := ⟨k - 1, by omega⟩
    have hd := var_drop vs i (by omega)
    rw [jobshelllaw48_small.l0, if_pos (by omega), if_pos (by omega), wrap_succ (by omega)]
    by_cases h : ((rd_Var vs (i : Int)).f1.size : Int) > 500
    · rw [if_pos h]; exact ⟨_, rfl, fun h => by cases h⟩
    rw [if_neg h]
    split
    · exact ⟨_, rfl, fun h => by cases h⟩
    · obtain ⟨b, h1, h2⟩ := ih (i + 1) m (by omega) (by omega)
      refine ⟨b, h1, fun e => ⟨(h2 e).1, fun v hx => ?_⟩⟩
      rw [hd] at hx
      rcases List.mem_cons.1 hx with rfl | hx
      · omega
      · exact (h2 e).2 v hx
theorem small_eq {k : Nat} (hk : 4000 ≤ k) : ∃ b, jobshelllaw48_small.f k n0 vs ps o3 al tr i6 i7 i8 i9 s10 i11 i12 i13 b14 = some b ∧ (b = true → Sm n0 vs ps s10) := by
  obtain ⟨m, rfl⟩ : ∃ m, k = m + 1 := ⟨k - 1, by omega⟩
  unfold jobshelllaw48_small.f
  by_cases h1 : (vs.length : Int) > 20
  · rw [if_pos h1, jobshelllaw48_small.j0, if_pos rfl]; exact ⟨_, rfl, fun h => by cases h⟩
  rw [if_neg h1]
  by_cases h2 : (ps.length : Int) > 20
  · rw [if_pos h2, jobshelllaw48_small.j0, if_pos rfl]; exact ⟨_, rfl, fun h => by cases h⟩
  rw [if_neg h2]
  by_cases h3 : (s10.size : Int) > 500
  · rw [if_pos h3, jobshelllaw48_small.j0, if_pos rfl]; exact ⟨_, rfl, fun h => by cases h⟩
  rw [if_neg h3, jobshelllaw48_small.j0]
  by_cases h4 : (n0.size : Int) > 500
  · rw [decide_eq_true h4, if_pos rfl]; exact ⟨_, rfl, fun h => by cases h⟩
  · rw [decide_eq_false h4, if_neg (by decide)]
    obtain ⟨b, h5, h6⟩ := small_vars n0 vs ps o3 al tr i6 i7 i8 i9 s10 i11 i12 i13 b14 (by omega) (by omega) vs.length 0 m (by omega) (by omega)
    exact ⟨b, h5, fun e => ⟨⟨by omega, by omega, (h6 e).1⟩, (h6 e).2, by omega, by omega⟩⟩
end
end Go.Proofs.YtiacdccnifjcjaaDoor.Pure
set_option linter.unusedVariables false
set_option linter.unusedSimpArgs false
namespace Go.Proofs.YtiacdccnifjcjaaDoor.Pure
open Go.RowKit Go.Proofs.YtiacdccnifjcjaaDoor.F Go.Proofs.YtiacdccnifjcjaaDoorW.PrintWords
theorem wf_i64' {a : Int} (h : (Lit.int .i64 a).wf = true) : -9223372036854775808 ≤ a ∧ a ≤ 9223372036854775807 := by
  simp only [Lit.wf, Bool.and_eq_true, decide_eq_true_eq] at h
  exact ⟨h.1, h.2⟩
theorem nd_le : ∀ (f u : Nat), u < 10 ^ f → 1 ≤ f → Lib.nDigits u ≤ f := by
  intro f
  induction f with
  | zero => intro u _ h; omega
  | succ f ihf =>
    intro u hu _
    by_cases h10 : u < 10
    · rw [Lib.nDigits_small h10]; omega
    · rw [Lib.nDigits_big h10]
      have hf0 : 1 ≤ f := by
        cases f with
        | zero => simp at hu; omega
        | succ f => omega
      have := ihf (u / 10) (by rw [Nat.pow_succ] at hu; omega) hf0
      omega
theorem itoa_len (n : Int) (h0 : -9223372036854775808 ≤ n) (h1 : n ≤ 9223372036854775807) : (Lib.itoa n).length ≤ 21 := by
  unfold Lib.itoa
  split
  · rw [List.length_cons, Lib.decDigits_length]
    have := nd_le 20 n.natAbs (by omega) (by omega); omega
  · rw [Lib.decDigits_length]
    have := nd_le 20 n.toNat (by omega) (by omega); omega
theorem itoa_some {n : Int} {t : ByteArray} (h : strconv_Itoa.f n = some t) : t.size ≤ 21 := by
  unfold strconv_Itoa.f at h
  split at h
  · rename_i hc
    obtain rfl := Option.some.inj h
    exact itoa_len n hc.1 hc.2
  · cases h
theorem getGo_mem (nm : ByteArray) : ∀ vs : List S_Var, (∀ v ∈ vs, v.f1.size ≤ 500) → (getGo nm vs).2.1.size ≤ 500 := by
  intro vs
  induction vs with
  | nil => intro _; exact Nat.zero_le _
  | cons v r ih =>
    intro h
    by_cases hn : v.f0.toList = nm.toList
    · rw [getGo, if_pos hn]; exact h v List.mem_cons_self
    · rw [getGo, if_neg hn]; exact ih (fun x hx => h x (List.mem_cons_of_mem _ hx))
theorem value_len {n0 : ByteArray} {vs : List S_Var} {ps : List ByteArray} {o3 : Opq} {al : List S_Alias} {tr : List S_Trap} {i6 i7 i8 i9 : Int} {s10 : ByteArray} {i11 i12 i13 : Int} {b14 : Bool} {nm : ByteArray} {k : Nat} {r : ByteArray × Bool} {cwd : ByteArray}
    (hS : Sm n0 vs ps cwd) (hk : 1000 ≤ k) (h : param_Value.f k n0 vs ps o3 al tr i6 i7 i8 i9 s10 i11 i12 i13 b14 nm = some r) : r.1.size ≤ 20000 := by
  have hv := hS.few.vars
  have nil0 : (⟨#[]⟩ : ByteArray).size ≤ 20000 := by decide
  have itoa : ∀ n, ((strconv_Itoa.f n).bind fun t => some (t, true)) = some r → r.1.size ≤ 20000 := by
    intro n e
    obtain ⟨t, e1, e2⟩ := Option.bind_eq_some_iff.1 e
    obtain rfl := Option.some.inj e2
    have := itoa_some e1
    show t.size ≤ 20000; omega
  have join : ∀ sep : ByteArray, sep.size ≤ 1 → ((strings_Join.f ps sep).bind fun t => some (t, decide ((ps.length : Int) > 0))) = some r → r.1.size ≤ 20000 := by
    intro sep hs e
    obtain ⟨t, e1, e2⟩ := Option.bind_eq_some_iff.1 e
    obtain rfl := Option.some.inj e2
    have hl := join_len sep ps hS.few.params hS.few.sizes hs
    unfold strings_Join.f at e1
    rw [if_pos (by omega)] at e1
    obtain rfl := Option.some.inj e1
    exact hl
  unfold param_Value.f at h
  by_cases c0 : nm.toList = ([48] : List UInt8)
  · rw [if_pos c0] at h; obtain rfl := Option.some.inj h; have := hS.name; show n0.size ≤ 20000; omega
  rw [if_neg c0] at h
  by_cases c1 : nm.toList = ([35] : List UInt8)
  · rw [if_pos c1] at h; exact itoa _ h
  rw [if_neg c1] at h
  by_cases c2 : nm.toList = ([63] : List UInt8)
  · rw [if_pos c2] at h; exact itoa _ h
  rw [if_neg c2] at h
  by_cases c3 : nm.toList = ([45] : List UInt8)
  · rw [if_pos c3] at h
    obtain ⟨t, e1, e2⟩ := Option.bind_eq_some_iff.1 h
    obtain rfl := Option.some.inj e2
    unfold param_flags.f at e1
    obtain rfl := Option.some.inj e1
    have fl : ∀ l : List (Int × UInt8), (flagsOf i6 l).length ≤ l.length := by
      intro l
      induction l with
      | nil => exact Nat.le_refl _
      | cons x q ih => simp only [flagsOf]; split <;> simp <;> omega
    have := fl flagTab
    show (flagsOf i6 flagTab).length ≤ 20000
    have h8 : flagTab.length = 8 := rfl
    omega
  rw [if_neg c3] at h
  by_cases c4 : nm.toList = ([36] : List UInt8)
  · rw [if_pos c4] at h; exact itoa _ h
  rw [if_neg c4] at h
  by_cases c5 : nm.toList = ([33] : List UInt8)
  · rw [if_pos c5] at h
    by_cases h0 : i9 = 0
    · rw [if_pos h0] at h; obtain rfl := Option.some.inj h; exact nil0
    · rw [if_neg h0] at h; exact itoa _ h
  rw [if_neg c5] at h
  by_cases c6 : nm.toList = ([64] : List UInt8)
  · rw [if_pos c6] at h; exact join _ (by decide) h
  rw [if_neg c6] at h
  by_cases c7 : nm.toList = ([42] : List UInt8)
  · rw [if_pos c7] at h
    obtain ⟨t, e1, e2⟩ := Option.bind_eq_some_iff.1 h
    obtain ⟨s, s1, _, s3⟩ := sep_eq vs hv hk
    rw [s1] at e1
    obtain rfl := Option.some.inj e1
    exact join _ s3 e2
  rw [if_neg c7] at h
  obtain ⟨n, b, e, e1, e2⟩ := position_eq nm
  rw [e, Option.bind_some] at h
  cases b with
  | true =>
    obtain ⟨g0, g1, _⟩ := e1 rfl
    rw [if_pos rfl] at h
    split at h
    · obtain rfl := Option.some.inj h; exact nil0
    split at h
    · split at h
      · rename_i q1 q2 q3
        obtain rfl := Option.some.inj h
        have hd : ∃ x ∈ ps, rdOf ByteArray.empty ps (wrap64 (n - 1)) = x := by
          refine ⟨_, ?_, rfl⟩
          unfold rdOf
          have hlt : (wrap64 (n - 1)).toNat < ps.length := by
            simp only at q2 q3; omega
          rw [List.getD_eq_getElem?_getD, List.getElem?_eq_getElem hlt]
          exact List.getElem_mem hlt
        obtain ⟨x, hx, ex⟩ := hd
        show (rdOf ByteArray.empty ps (wrap64 (n - 1))).size ≤ 20000
        rw [ex]
        have := hS.few.sizes x hx; omega
      · cases h
    · cases h
  | false =>
    simp only [Bool.false_eq_true, if_false] at h
    rw [vars_get nm vs (by omega) (by omega), Option.bind_some] at h
    have hg := getGo_mem nm vs hS.values
    split at h
    · split at h
      · obtain ⟨t, ht⟩ := name_tot nm
        rw [ht, Option.bind_some] at h
        split at h
        · obtain rfl := Option.some.inj h; show (getGo nm vs).2.1.size ≤ 20000; omega
        · obtain rfl := Option.some.inj h; exact nil0
      · obtain rfl := Option.some.inj h; exact nil0
    · obtain rfl := Option.some.inj h; exact nil0
section
variable (n0 : ByteArray) (vs : List S_Var) (ps : List ByteArray) (o3 : Opq) (al : List S_Alias) (tr : List S_Trap) (i6 i7 i8 i9 : Int) (s10 : ByteArray) (i11 i12 i13 : Int) (b14 : Bool)
def nameVal (k : Nat) : List UInt8 → List UInt8 := valOf (fun nm => param_Value.f k n0 vs ps o3 al tr i6 i7 i8 i9 s10 i11 i12 i13 b14 nm)
theorem expand_eq (hS : Sm n0 vs ps s10) (h7 : (Lit.int .i64 i7).wf = true) (h8 : (Lit.int .i64 i8).wf = true) (h9 : (Lit.int .i64 i9).wf = true) (s : ByteArray) (hs : s.size ≤ 10000) (a b : Int) (ha : (Lit.int .i64 a).wf = true) (hb : (Lit.int .i64 b).wf = true) {k : Nat} (hk : 300000 ≤ k) :
    prompt_Expand.f k n0 vs ps o3 al tr i6 i7 i8 i9 s10 i11 i12 i13 b14 s a b = some (ba ((ex (nameVal n0 vs ps o3 al tr i6 i7 i8 i9 s10 i11 i12 i13 b14 k) s10.data.toList (Lib.itoa a) (Lib.itoa b) s.data.toList).take 4096)) := by
  obtain ⟨a1, a2⟩ := wf_i64' ha
  obtain ⟨b1, b2⟩ := wf_i64' hb
  have hV : ∀ x, ∃ v, (fun nm => param_Value.f k n0 vs ps o3 al tr i6 i7 i8 i9 s10 i11 i12 i13 b14 nm) x = some v := by
    intro x
    obtain ⟨r, h1, _⟩ := value_eq n0 vs ps o3 al tr i6 i7 i8 i9 s10 i11 i12 i13 b14 x hS.few h7 h8 h9 (k := k) (by omega)
    exact ⟨r, h1⟩
  have hP : ∀ x : ByteArray, x.size ≤ 10000 → (fun x => prompt_parameter.f k x) x = some (ba (parL x.data.toList).1, ((parL x.data.toList).2 : Int)) := fun x hx => par_prog x hx (by omega)
  have hgo := exGo_ex (V := fun nm => param_Value.f k n0 vs ps o3 al tr i6 i7 i8 i9 s10 i11 i12 i13 b14 nm) (Pm := fun x => prompt_parameter.f k x) (cwd := s10) (s := s) hV hP (itoa_eq a a1 a2) (itoa_eq b b1 b2) hs s.size 0 (s.size + 1) (by omega) (by omega) (by omega)
  rw [List.drop_zero] at hgo
  have hlen := ex_length (nameVal n0 vs ps o3 al tr i6 i7 i8 i9 s10 i11 i12 i13 b14 k) s10.data.toList (Lib.itoa a) (Lib.itoa b) 20000 (by omega) (fun x => by
      obtain ⟨v, hv, he⟩ := valOf_eq hV x
      unfold nameVal
      rw [he, size_data]
      exact value_len hS (by omega) hv) (by rw [size_data]; have := hS.cwd; omega) (by have := itoa_len a a1 a2; omega) (by have := itoa_len b b1 b2; omega) _ s.data.toList (Nat.le_refl _)
  rw [size_data] at hlen
  have hm : s.size * 20000 ≤ 10000 * 20000 := Nat.mul_le_mul_right _ hs
  unfold prompt_Expand.f
  rw [if_pos (by omega), hgo, Option.bind_some]
  exact if_pos (by have := hlen; unfold nameVal at this; omega)
end
end Go.Proofs.YtiacdccnifjcjaaDoor.Pure
set_option linter.unusedVariables false
namespace Go.Proofs.YtiacdccnifjcjaaDoor.Pure
open Go.RowKit Go.Proofs.YtiacdccnifjcjaaDoor.F Go.Proofs.YtiacdccnifjcjaaDoorW.PrintWords
theorem awake_ok {k : Nat} (h : 60 ≤ k) : jobshelllaw48_awake.f k = some true :=
  at_rounds (g := fun k => jobshelllaw48_awake.f k) (fun k => jobshelllaw48_awake.mono k) h (by decide +kernel)
end Go.Proofs.YtiacdccnifjcjaaDoor.Pure
set_option linter.unusedVariables false
set_option linter.unusedSimpArgs false
namespace Go.Proofs.YtiacdccnifjcjaaDoor.Pure
open Go.RowKit Go.Proofs.YtiacdccnifjcjaaDoor.F Go.Proofs.YtiacdccnifjcjaaDoorW.PrintWords Go.Proofs.YtiacdccnifjcjaaDoor.Opn
theorem PromptParts (x0 : S_Env) (a1 : ByteArray) (a2 : ByteArray) (a3 : Int) (w0 : ok30 x0) (w1 : a1.size ≤ 140737488351232) (w2 : a2.size ≤ 140737488351232) (w3 : (Lit.int .i64 a3).wf = true) : ∃ k, jobshelllaw48_PromptParts.f k x0.f0 x0.f1 x0.f2 x0.f3 x0.f4 x0.f5 x0.f6 x0.f7 x0.f8 x0.f9 x0.f10 x0.f11.f0 x0.f11.f1 x0.f12 x0.f13 a1 a2 a3 = some true := by
  refine ⟨400001, ?_⟩
  obtain ⟨_, _, _, _, _, _, _, h7, h8, h9, _⟩ := w0
  generalize x0.f11.f0 = i11
  generalize x0.f11.f1 = i12
  have aw : jobshelllaw48_PromptParts.j0 400001 a1 a2 a3 true x0.f0 x0.f1 x0.f2 x0.f3 x0.f4 x0.f5 x0.f6 x0.f7 x0.f8 x0.f9 x0.f10 i11 i12 x0.f12 x0.f13 = some true := by
    rw [jobshelllaw48_PromptParts.j0, if_pos rfl, awake_ok (by omega)]; rfl
  unfold jobshelllaw48_PromptParts.f
  obtain ⟨b, hb, hS⟩ := small_eq x0.f0 x0.f1 x0.f2 x0.f3 x0.f4 x0.f5 x0.f6 x0.f7 x0.f8 x0.f9 x0.f10 i11 i12 x0.f12 x0.f13 (k := 400001) (by omega)
  rw [hb, Option.bind_some]
  cases b with
  | false => rw [if_neg (by decide)]; exact aw
  | true =>
    rw [if_pos rfl]
    by_cases h : (a1.size : Int) > 500
    · rw [if_pos h]; exact aw
    rw [if_neg h]
    by_cases h2 : (a2.size : Int) > 500
    · rw [decide_eq_true h2]; exact aw
    have E := fun (s : ByteArray) (hs : s.size ≤ 10000) => expand_eq x0.f0 x0.f1 x0.f2 x0.f3 x0.f4 x0.f5 x0.f6 x0.f7 x0.f8 x0.f9 x0.f10 i11 i12 x0.f12 x0.f13 (hS rfl) h7 h8 h9 s hs a3 a3 w3 w3 (k := 400000) (by omega)
    have hsm : (a1 ++ (⟨#[32]⟩ : ByteArray)).size + a2.size ≤ 9223372036854775807 := by rw [ByteArray.size_append]; show a1.size + 1 + a2.size ≤ _; omega
    generalize nameVal x0.f0 x0.f1 x0.f2 x0.f3 x0.f4 x0.f5 x0.f6 x0.f7 x0.f8 x0.f9 x0.f10 i11 i12 x0.f12 x0.f13 400000 = val at E
    have d1 : (a1 ++ (⟨#[32]⟩ : ByteArray)).data.toList = a1.data.toList ++ [32] := by rw [ByteArray.data_append]; simp
    have d2 : (a1 ++ (⟨#[32]⟩ : ByteArray) ++ a2).data.toList = a1.data.toList ++ 32 :: a2.data.toList := by rw [ByteArray.data_append, ByteArray.data_append]; simp
    have s1 : (a1 ++ (⟨#[32]⟩ : ByteArray)).size = a1.size + 1 := by rw [ByteArray.size_append]; rfl
    have s2 : (a1 ++ (⟨#[32]⟩ : ByteArray) ++ a2).size = a1.size + 1 + a2.size := by rw [ByteArray.size_append, s1]
    rw [decide_eq_false h2, jobshelllaw48_PromptParts.j0, if_neg (by decide), if_pos (by omega), E _ (by omega), Option.bind_some, E a2 (by omega), Option.bind_some, E _ (by omega), Option.bind_some, d1, d2, ex_blank val _ _ _ a2.data.toList _ a1.data.toList (Nat.le_refl _)]
    generalize ex val x0.f10.data.toList (Lib.itoa a3) (Lib.itoa a3) (a1.data.toList ++ [32]) = X
    generalize ex val x0.f10.data.toList (Lib.itoa a3) (Lib.itoa a3) a2.data.toList = Y
    rw [ba_size, ba_size, ba_append, wrap_id (by simp only [List.length_take]; omega) (by simp only [List.length_take]; omega)]
    by_cases h3 : ((X.take 4096).length : Int) + ((Y.take 4096).length : Int) ≥ 4096
    · rw [if_pos h3, awake_ok (by omega)]; rfl
    · rw [if_neg h3, if_pos (by omega), if_pos (by omega)]
      simp only [List.length_take] at h3
      rw [List.take_of_length_le (l := X ++ Y) (by rw [List.length_append]; omega), List.take_of_length_le (l := X) (by omega), List.take_of_length_le (l := Y) (by omega), if_pos rfl, awake_ok (by omega)]; rfl
end Go.Proofs.YtiacdccnifjcjaaDoor.Pure
namespace Go.Proofs.YtiacdccnifjcjaaDoor.promptParts
open Go.ChangeShapes Go.WideShapes Go.ChangeAt Go.RowKit
open Go.ChangeMaps (open_string shut_string)
open Go.Proofs.YtiacdccnifjcjaaDoor.F Go.Proofs.YtiacdccnifjcjaaDoorW.PrintWords Go.Proofs.YtiacdccnifjcjaaDoor.Opn
set_option linter.unusedVariables false
set_option linter.unusedSimpArgs false
theorem own : ownKnob Tryd.prog.godebug = none := by kernel_rfl
theorem laidOut : laidOutB Tryd.prog = true := by kernel_rfl
theorem amb {W : World} (h : laidMetH Tryd.prog Rows.promptPartsRow.laid W) : AmbC W := by
  rw [MakeChecks.laidMetH_plain _ _ _ (by kernel_rfl)] at h
  have h0 : laidMet Tryd.prog [("math/bits.deBruijn32tab", Rows.laid_math_bits_deBruijn32tab), ("math/bits.deBruijn64tab", Rows.laid_math_bits_deBruijn64tab), ("internal/strconv.uint64pow10", Lib.tabData .u64 Lib.pow10Tab)] W := h
  obtain ⟨_, h1, _⟩ := h0
  obtain ⟨_, _, _, _, _, _, _, _, _, _, h1, _⟩ := h1
  obtain ⟨_, _, _, _, _, _, _, _, _, _, h1, _⟩ := h1
  obtain ⟨g', t', cs, fuel, p, q, hg', ht', hvar, hd, _, _⟩ := h1
  obtain rfl := Option.some.inj ((show Tryd.prog.globalNamed "internal/strconv.uint64pow10" = some 0 by kernel_rfl).symm.trans hg')
  obtain rfl := Option.some.inj ((show (Tryd.prog.globals[0]?).map (·.type) = some 94 by kernel_rfl).symm.trans ht')
  unfold AmbC Lib.TabIs
  rw [hvar, ← Lib.cells_of_tab Tryd.underlying94 Tryd.underlying84 (by kernel_rfl) (by kernel_rfl) hd]
set_option maxRecDepth 100000 in
set_option maxHeartbeats 1000000 in
theorem lifted (os : Os) (started : os.Started) (H : Type) (enc : TypeId × Value → H) :
    ReturnsInHanded {} Tryd.checked os 6 .any (fun w args => (Rows.promptPartsSpec.pre enc Tryd.prog Tryd.f6 [] false w args ∧ laidMetH Tryd.prog Rows.promptPartsRow.laid w) ∧ sizedMet enc Tryd.prog Tryd.f6 (OpenSpec.ofChange Rows.promptPartsSpec) false w args)
      (Rows.promptPartsSpec.post enc Tryd.prog Tryd.f6 false true false false) := by
  refine returnsInHanded_of_change_and (C := Tryd.checked) (X := fun w _ => laidMetH Tryd.prog Rows.promptPartsRow.laid w) (fun _ _ _ hh h => h.of_heap hh) own started (by kernel_rfl) Tryd.func6
    (ChangeSpec.witness_shaped (enc := enc) (C := Tryd.checked) (os := os) (X := fun w _ => laidMetH Tryd.prog Rows.promptPartsRow.laid w) false (World.laidAll Tryd.prog os Rows.promptPartsRow.laid) #[.agg #[.string ByteArray.empty, .slice none 0 0, .slice none 0 0, .slice none 0 0, .slice none 0 0, .slice none 0 0, .int .i64 0, .int .i64 0, .int .i64 0, .int .i64 0, .string ByteArray.empty, .int .i64 0, .int .i64 0, .int .i64 0, .bool false], .string ByteArray.empty, .string ByteArray.empty, .int .i64 0] 8 (World.laidAll_os _ _ _)
      (World.shaped_of_ZipB (by kernel_rfl) (by kernel_rfl)) (by kernel_rfl) (by kernel_rfl) (by kernel_rfl)
      (by rw [MakeChecks.laidMetH_plain _ _ _ (by kernel_rfl)]; exact laidMet_laidAll _ (by kernel_rfl) (by kernel_rfl))) ?_
  intro W base args ds gs before hval0 hW _ hsz0 hL _
  have hsz : (DataW.weightsEach Tryd.prog (Tryd.f6.params.toList ++ Rows.promptPartsSpec.plain.varTypes Tryd.prog) (ds ++ gs)).all (· ≤ reachBytes) = true := hsz0
  have hval : ∀ (j : Nat) t v, Tryd.f6.params[j]? = some t → args[j]? = some v → Value.okWide Tryd.prog W .any base t v := hval0
  have hW' := hW
  obtain ⟨p, q, hA0, hV, rfl, hfz, hnd⟩ := hW
  have hA : DataW.TrodAll enc Tryd.prog W 0 (fun _ => true) true Tryd.f6.params.toList args.toList ds p := hA0
  rw [Tryd.params6] at hA hval hsz
  obtain ⟨v0, vs0, d0, ds0, p0, q0, hargs, rfl, rfl, h0, r0⟩ := trodAll_cons hA
  obtain ⟨v1, vs1, d1, ds1, p1, q1, rfl, rfl, rfl, h1, r1⟩ := trodAll_cons r0
  obtain ⟨v2, vs2, d2, ds2, p2, q2, rfl, rfl, rfl, h2, r2⟩ := trodAll_cons r1
  obtain ⟨v3, vs3, d3, ds3, p3, q3, rfl, rfl, rfl, h3, r3⟩ := trodAll_cons r2
  obtain ⟨rfl, rfl, rfl⟩ := trodAll_nil r3
  obtain rfl : args = #[v0, v1, v2, v3] := by cases args; simp_all
  obtain ⟨rfl, rfl⟩ := trodVars_none hV
  have k0 := h0
  have lt0 : ∀ x ∈ p0, x.block < W.heap.size := by obtain ⟨m, hm⟩ := k0; exact DataW.trod_lt m _ _ _ hm
  obtain ⟨cs0, x0, rfl, hk0, w0⟩ := arg_struct opens30 (okWide_struct Tryd.underlying30 (hval 0 30 v0 rfl rfl) |>.imp fun _ h => h.1) h0
  obtain ⟨A0_1, c0_1, A0_2, c0_2, A0_4, c0_4, A0_5, c0_5, rfl, hc0_1, hr0_1, hc0_2, hr0_2, hc0_4, hr0_4, hc0_5, hr0_5⟩ := k_Env_open hk0
  obtain ⟨a1, rfl, rfl, rfl, y1⟩ := open_string Tryd.underlying9 (hval 1 9 v1 rfl rfl) h1
  have w1 : a1.size ≤ 140737488351232 := by
    have z := sized_string hsz (j := 1) (t := 9) rfl rfl
    rw [Array.length_toList] at z
    exact z
  obtain ⟨a2, rfl, rfl, rfl, y2⟩ := open_string Tryd.underlying9 (hval 2 9 v2 rfl rfl) h2
  have w2 : a2.size ≤ 140737488351232 := by
    have z := sized_string hsz (j := 2) (t := 9) rfl rfl
    rw [Array.length_toList] at z
    exact z
  obtain ⟨a3, rfl, rfl, rfl, w3⟩ := open_int Tryd.underlying3 (hval 3 3 v3 rfl rfl) h3
  clear hA0 hval0 hsz0 hsz
  obtain ⟨k, hk_⟩ := Go.Proofs.YtiacdccnifjcjaaDoor.Pure.PromptParts x0 a1 a2 a3 w0 w1 w2 w3
  refine (jobshelllaw48_PromptParts.calls k x0.f0 A0_1 c0_1 x0.f1 A0_2 c0_2 x0.f2 x0.f3 A0_4 c0_4 x0.f4 A0_5 c0_5 x0.f5 x0.f6 x0.f7 x0.f8 x0.f9 x0.f10 x0.f11.f0 x0.f11.f1 x0.f12 x0.f13 a1 a2 a3 true W hr0_1 hc0_1 hr0_2 hc0_2 hr0_4 hc0_4 hr0_5 hc0_5 (amb hL) hk_).mono fun e W' ⟨he, bel0⟩ => ?_
  have bel : Below W.heap.size W W' := bel0
  subst he
  exact ⟨_, rfl, _, _, _, [], _, [], hW', trodAll_mk1 (shut_bool Tryd.underlying4 _), (trodAll_cons_mk (Below.trod laidOut (by kernel_rfl) (of_decide_eq_true (by kernel_rfl)) k0 bel lt0) (trodAll_cons_mk (shut_string Tryd.underlying9 y1) (trodAll_cons_mk (shut_string Tryd.underlying9 y2) (trodAll_cons_mk (shut_int Tryd.underlying3 w3) trodAll_mk0)))), rfl, bel.frame _, fun h => by cases h⟩
theorem over : Rows.promptPartsRow.holds Tryd.pinned (OpenSpec.ofChange Rows.promptPartsSpec) :=
  OpenClaim.holds_of_wide 6 Tryd.f6 rfl rfl rfl rfl rfl rfl rfl ⟨rfl, rfl, rfl, rfl, rfl⟩ rfl rfl rfl rfl rfl (by kernel_rfl) Tryd.func6 (by kernel_rfl)
    (of_decide_eq_true (by kernel_rfl)) (by unfold Func.isWrapper; first | (rw [if_pos (by decide +kernel)]; kernel_rfl) | (rw [if_neg (by decide +kernel)]; exact ⟨rfl, rfl⟩))
    (fun os started H enc _ => lifted os started H enc)
theorem card : Rows.PromptPartsCardSaid :=
  Claim7.holds_tied_plain_at .later [] [.data, .data, .data] true (true, "6b48662e5dc6b3e4aa893dec777ea98e2cd43473e035dc243ad2d60cd5144f59") false over (fun _ h => by cases h) (by kernel_rfl) (fun _ h => by cases h) promptParts_row_tie rfl ⟨rfl, rfl⟩ (by kernel_rfl) rfl
    (fun f fn hf hfn => by
      obtain rfl : f = 6 := Option.some.inj ((show Tryd.prog.funcNamed "jobshell/jobshelllaw48.PromptParts" = some 6 by kernel_rfl).symm.trans hf) |>.symm
      obtain rfl : fn = Tryd.f6 := (Option.some.inj (Tryd.func6.symm.trans hfn)).symm
      exact ⟨by kernel_rfl, fun j t ht => by
        rw [Tryd.params6] at ht
        have hm : t ∈ [30, 9, 9, 3] := by simpa using Array.mem_of_getElem? ht
        have hall : ([30, 9, 9, 3].all fun u => !Tryd.prog.wantsStandIn u) = true := by kernel_rfl
        exact (show Tryd.prog.wantsStandIn t = false by simpa using List.all_eq_true.1 hall t hm)⟩)
    (by kernel_rfl)
#print axioms card
end Go.Proofs.YtiacdccnifjcjaaDoor.promptParts
namespace Go.Proofs.YtiacdccnifjcjaaDoor
theorem promptParts_holds : Rows.PromptPartsCardSaid := promptParts.card
end Go.Proofs.YtiacdccnifjcjaaDoor
