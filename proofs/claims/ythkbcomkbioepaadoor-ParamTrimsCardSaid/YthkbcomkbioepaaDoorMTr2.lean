/- The law ParamTrims: for every input the call returns true and leaves its arguments as they were; the variables that the row lists are tied to the program's text (a tied card). No condition beyond the row's own. -/
import Derived.Test.YthkbcomkbioepaaDoorCards
import Derived.Test.YthkbcomkbioepaaDoorTie
import Derived.WalkKit
import Derived.ProofKit
import Derived.OpenShut
import Derived.ShutString
import Derived.ChangeOld
import Derived.Below
import Derived.SizedLaws
import Derived.LaidMore
import Derived.Lay
import Derived.SevenTiedAt
import Derived.Stop.Joined
import Derived.Carry
import Derived.Test.YthkbcomkbioepaaDoorB0
import Derived.Test.YthkbcomkbioepaaDoorB4
import Derived.Test.YthkbcomkbioepaaDoorMTr0
import Derived.Test.YthkbcomkbioepaaDoorB3
import Derived.Test.YthkbcomkbioepaaDoorMTr1
namespace Go.Proofs.YthkbcomkbioepaaDoor.F
open Go.RowKit Go.Proofs.YthkbcomkbioepaaDoorW.PrintWords Go.Proofs.YthkbcomkbioepaaDoorW.PrintLast Go.Proofs.YthkbcomkbioepaaDoorW.PrintMore
attribute [local go_sem] max2_int min2_int max_two min_two max_three min_three max_four min_four
set_option linter.unusedVariables false
set_option linter.unusedSimpArgs false
def jobshelllaw17_ParamLeft.j0 : Nat → ByteArray → List (S_PatItem) → Bool → Option (Bool)
 | 0, _, _, _ => none
 | k + 1, x0, x1, x16 => if x16 = true then ((jobshelllaw17_awake.f k).bind fun t346 => (some t346)) else ((param_Trim.f k 6 x0 x1).bind fun t347 => ((param_Trim.f k 7 x0 x1).bind fun t348 => ((param_Trim.f k 8 x0 x1).bind fun t349 => ((param_Trim.f k 9 x0 x1).bind fun t350 => (if (t347.size : Int) > (x0.size : Int) then (some false) else (if (t348.size : Int) > (t347.size : Int) then (some false) else (if (t349.size : Int) > (x0.size : Int) then (some false) else (if (t350.size : Int) > (t349.size : Int) then (some false) else (if 0 ≤ (t347.size : Int) then (if (t347.size : Int) ≤ (x0.size : Int) then (if (x0.extract 0 ((t347.size : Int) : Int).toNat).toList = t347.toList then (if 0 ≤ (t348.size : Int) then (if (t348.size : Int) ≤ (x0.size : Int) then (if (x0.extract 0 ((t348.size : Int) : Int).toNat).toList = t348.toList then (if 0 ≤ (wrap64 ((x0.size : Int) - (t349.size : Int))) then (if (wrap64 ((x0.size : Int) - (t349.size : Int))) ≤ (x0.size : Int) then (if (x0.extract ((wrap64 ((x0.size : Int) - (t349.size : Int))) : Int).toNat x0.size).toList = t349.toList then (if 0 ≤ (wrap64 ((x0.size : Int) - (t350.size : Int))) then (if (wrap64 ((x0.size : Int) - (t350.size : Int))) ≤ (x0.size : Int) then (if (x0.extract ((wrap64 ((x0.size : Int) - (t350.size : Int))) : Int).toNat x0.size).toList = t350.toList then ((jobshelllaw17_awake.f k).bind fun t351 => (some t351)) else (some false)) else (none)) else (none)) else (some false)) else (none)) else (none)) else (some false)) else (none)) else (none)) else (some false)) else (none)) else (none))))))))))
def jobshelllaw17_ParamLeft.f (k : Nat) (a0 : ByteArray) (l1 : List (S_PatItem)) : Option (Bool) := if (a0.size : Int) > 40 then (jobshelllaw17_ParamLeft.j0 k a0 l1 true) else ((jobshellref04_Few.f k l1 12).bind fun t345 => (jobshelllaw17_ParamLeft.j0 k a0 l1 (!t345)))
theorem jobshelllaw17_ParamLeft.mono_l : ∀ k, (∀ y0 y1 y2, LeO (jobshelllaw17_ParamLeft.j0 k y0 y1 y2) (jobshelllaw17_ParamLeft.j0 (k + 1) y0 y1 y2))
 | 0 => fun _ _ _ r h => by simp [jobshelllaw17_ParamLeft.j0] at h
 | k + 1 => by
  have ih0 := jobshelllaw17_ParamLeft.mono_l k
  ·intro y0 y1 y2
   unfold jobshelllaw17_ParamLeft.j0
   repeat' first
   | (with_reducible exact ih0 _ _ _)
   | (with_reducible exact jobshelllaw17_awake.mono _)
   | (with_reducible exact jobshellref04_Few.mono _ _ _)
   | (with_reducible exact param_Trim.mono _ _ _ _)
   | (with_reducible exact LeO.refl _)
   | (with_reducible exact LeO.none _)
   | (with_reducible refine LeO.ite ?_ ?_)
   | (with_reducible refine LeO.bind ?_ (fun _ => ?_))
   | exact ih0 _ _ _
   | exact jobshelllaw17_awake.mono _
   | exact jobshellref04_Few.mono _ _ _
   | exact param_Trim.mono _ _ _ _
   | exact LeO.none _
   | refine LeO.ite ?_ ?_
   | refine LeO.bind ?_ (fun _ => ?_)
theorem jobshelllaw17_ParamLeft.mono : ∀ a0 a1 k, LeO (jobshelllaw17_ParamLeft.f k a0 a1) (jobshelllaw17_ParamLeft.f (k + 1) a0 a1) := by
 intro a0 a1 k
 have ih0 := jobshelllaw17_ParamLeft.mono_l k
 unfold jobshelllaw17_ParamLeft.f
 repeat' first
   | (with_reducible exact ih0 _ _ _)
   | (with_reducible exact jobshelllaw17_awake.mono _)
   | (with_reducible exact jobshellref04_Few.mono _ _ _)
   | (with_reducible exact param_Trim.mono _ _ _ _)
   | (with_reducible exact LeO.refl _)
   | (with_reducible exact LeO.none _)
   | (with_reducible refine LeO.ite ?_ ?_)
   | (with_reducible refine LeO.bind ?_ (fun _ => ?_))
   | exact ih0 _ _ _
   | exact jobshelllaw17_awake.mono _
   | exact jobshellref04_Few.mono _ _ _
   | exact param_Trim.mono _ _ _ _
   | exact LeO.none _
   | refine LeO.ite ?_ ?_
   | refine LeO.bind ?_ (fun _ => ?_)
set_option maxHeartbeats 8000000 in
set_option maxRecDepth 100000 in
theorem jobshelllaw17_ParamLeft.calls (k : Nat) (a0 : ByteArray) (A1 : Option Addr) (c1 : Nat) (l1 : List (S_PatItem)) (r : Bool) (w : World) (hr1 : Kd.C k_PatItem w A1 l1.length l1) (hc1 : l1.length ≤ c1) (hamb : AmbC w) (h : jobshelllaw17_ParamLeft.f k a0 l1 = some r) :
  Calls Tryd.prog 7 #[.string a0, .slice A1 l1.length c1] w fun e w' => e = .returned (.bool r) ∧ Below w.heap.size w w' := by
 have HAMB := Aside0.mk hamb
 clear hamb
 have HR1 := Aside0.mk hr1
 have HC1 := Aside0.mk hc1
 clear hr1 hc1
 have HB := Aside0.mk (Below.refl w.heap.size w)
 have H : (if (a0.size : Int) > 40 then (jobshelllaw17_ParamLeft.j0 k a0 l1 true) else ((jobshellref04_Few.f k l1 12).bind fun t345 => (jobshelllaw17_ParamLeft.j0 k a0 l1 (!t345)))) = some r := h
 clear h
 have HC3 := Aside0.mk H
 clear H
 go_enter Tryd.func7, Tryd.ntmps7
 go_upto_region 1 with (fail)
 go_cut [16] (fun v16 wc => ∃ (kq : Nat) (x16_2 : Bool), v16 = .bool x16_2 ∧ Aside0 (jobshelllaw17_ParamLeft.j0 kq a0 l1 x16_2 = some r) ∧ Aside0 (kq ≤ k) ∧ Aside0 (Below w.heap.size w wc))
 case first =>
  have H := HC3.out
  clear HC3
  by_cases c4 : (a0.size : Int) > 40
  ·rw [if_pos c4] at H
   have c4b0 : decide (40 < (a0.size : Int)) = true := decide_eq_true c4
   have c4b1 : decide (40 < a0.size) = true := decide_eq_true (by omega)
   clear c4
   (first | rw [c4b0] | (simp only [i64_w, i32_w]; rw [c4b0]) | skip)
   have H' := Aside0.mk H
   clear H
   go_wp2
   go_meet
   case rel => exact ⟨_, (true), (by first | rfl | (simp; done) | (simp [*]; done) | (simp [isE_ne]; done)), H', ⟨by first | omega | exact Nat.le_refl _⟩, ⟨by repeat (first | (with_reducible first | exact HB.out | apply below_alloc | apply pw_below_drewN | apply below_drew1) | exact HB.out)⟩⟩
  ·rw [if_neg c4] at H
   have c4b0 : decide (40 < (a0.size : Int)) = false := decide_eq_false c4
   have c4b1 : decide (40 < a0.size) = false := decide_eq_false (by omega)
   clear c4
   (first | rw [c4b0] | (simp only [i64_w, i32_w]; rw [c4b0]) | skip)
   replace H := Option.bind_eq_some_iff.mp H
   obtain ⟨t345, A50, H⟩ := H
   replace H : (jobshelllaw17_ParamLeft.j0 k a0 l1 (!t345)) = some r := H
   have A5 := Aside0.mk A50
   clear A50
   have H' := Aside0.mk H
   clear H
   go_wp2_with (first | (go_at_call 18; (with_reducible refine (jobshellref04_Few.calls k _ _ l1 12 t345 _ ?side1 ?side2 A5.out).mono ?_); (case side1 => repeat (first | exact (Kd.C_below HR1.out HB.out) | (with_reducible refine Kd.C_alloc ?_ _) | (with_reducible refine Kd.C_drewN ?_ _) | (with_reducible refine Kd.C_drew ?_))); (case side2 => exact HC1.out); rintro e w' ⟨rfl, ⟨nd, rfl⟩⟩))
   go_meet
   case rel => exact ⟨_, (!t345), (by first | rfl | (simp; done) | (simp [*]; done) | (simp [isE_ne]; done)), H', ⟨by first | omega | exact Nat.le_refl _⟩, ⟨by repeat (first | (with_reducible first | exact HB.out | apply below_alloc | apply pw_below_drewN | apply below_drew1) | exact HB.out)⟩⟩
 case rest =>
  clear HC3
  try clear c1
  try clear p2
  try clear c4
  try clear c4b0
  try clear c4b1
  obtain ⟨kq, x16_2, rfl, HA, HJ2, HB⟩ := hcut
  cases kq with
  | zero => exact absurd HA.out (by simp [jobshelllaw17_ParamLeft.j0])
  | succ kj2 =>
   have H := HA.out
   clear HA
   simp only [jobshelllaw17_ParamLeft.j0] at H
   by_cases c6 : x16_2 = true
   ·subst c6
    have H1 : ((jobshelllaw17_awake.f kj2).bind fun t346 => (some t346)) = some r := by rw [if_pos rfl] at H; exact H
    clear H
    have H := H1
    clear H1
    replace H := Option.bind_eq_some_iff.mp H
    obtain ⟨t346, A70, H⟩ := H
    replace H : (some t346) = some r := H
    have A7 := Aside0.mk A70
    clear A70
    obtain rfl := Option.some.inj H
    go_wp2_with (first | ((with_reducible refine gate_callee (f := 10) rfl ?_); refine goesL_ (some 17) rfl rfl Tryd.func10 (by kernel_rfl) rfl #[] rfl (by (try simp only [List.map_toArray, List.map_cons, List.map_nil]); first | done | rfl | (simp only [List.length_drop, List.length_take]; rfl)) ?_; (with_reducible refine (jobshelllaw17_awake.calls kj2  t346 _ ?side1 A7.out).mono ?_); (case side1 => repeat (first | exact (AmbC_below HAMB.out HB.out) | (with_reducible refine AmbC_alloc ?_ _) | (with_reducible refine AmbC_drewN ?_ _) | (with_reducible refine AmbC_drew ?_))); rintro e w8 ⟨rfl, hb⟩; refine ⟨_, rfl, ?_⟩; have n0_ := Aside0.mk (below_step (by repeat (first | (with_reducible first | exact HB.out | apply below_alloc | apply pw_below_drewN | apply below_drew1) | exact HB.out)) hb); clear HB; have HB := n0_; clear n0_; (try clear hb); (try clear hb2); (try clear hk); (try clear hi)))
    go_ret
    exact ⟨by first | rfl | (simp [errW_none, errW_some] <;> rfl) | (simp [*, errW_none, errW_some] <;> rfl), by repeat (first | (with_reducible first | exact HB.out | apply below_alloc | apply pw_below_drewN | apply below_drew1) | exact HB.out)⟩
   ·replace c6 := Bool.eq_false_iff.mpr c6
    subst c6
    have H1 : ((param_Trim.f kj2 6 a0 l1).bind fun t347 => ((param_Trim.f kj2 7 a0 l1).bind fun t348 => ((param_Trim.f kj2 8 a0 l1).bind fun t349 => ((param_Trim.f kj2 9 a0 l1).bind fun t350 => (if (t347.size : Int) > (a0.size : Int) then (some false) else (if (t348.size : Int) > (t347.size : Int) then (some false) else (if (t349.size : Int) > (a0.size : Int) then (some false) else (if (t350.size : Int) > (t349.size : Int) then (some false) else (if 0 ≤ (t347.size : Int) then (if (t347.size : Int) ≤ (a0.size : Int) then (if (a0.extract 0 ((t347.size : Int) : Int).toNat).toList = t347.toList then (if 0 ≤ (t348.size : Int) then (if (t348.size : Int) ≤ (a0.size : Int) then (if (a0.extract 0 ((t348.size : Int) : Int).toNat).toList = t348.toList then (if 0 ≤ (wrap64 ((a0.size : Int) - (t349.size : Int))) then (if (wrap64 ((a0.size : Int) - (t349.size : Int))) ≤ (a0.size : Int) then (if (a0.extract ((wrap64 ((a0.size : Int) - (t349.size : Int))) : Int).toNat a0.size).toList = t349.toList then (if 0 ≤ (wrap64 ((a0.size : Int) - (t350.size : Int))) then (if (wrap64 ((a0.size : Int) - (t350.size : Int))) ≤ (a0.size : Int) then (if (a0.extract ((wrap64 ((a0.size : Int) - (t350.size : Int))) : Int).toNat a0.size).toList = t350.toList then ((jobshelllaw17_awake.f kj2).bind fun t351 => (some t351)) else (some false)) else (none)) else (none)) else (some false)) else (none)) else (none)) else (some false)) else (none)) else (none)) else (some false)) else (none)) else (none)))))))))) = some r := by rw [if_neg (show ¬ (false = true) by decide)] at H; exact H
    clear H
    have H := H1
    clear H1
    replace H := Option.bind_eq_some_iff.mp H
    obtain ⟨t347, A90, H⟩ := H
    replace H : ((param_Trim.f kj2 7 a0 l1).bind fun t348 => ((param_Trim.f kj2 8 a0 l1).bind fun t349 => ((param_Trim.f kj2 9 a0 l1).bind fun t350 => (if (t347.size : Int) > (a0.size : Int) then (some false) else (if (t348.size : Int) > (t347.size : Int) then (some false) else (if (t349.size : Int) > (a0.size : Int) then (some false) else (if (t350.size : Int) > (t349.size : Int) then (some false) else (if 0 ≤ (t347.size : Int) then (if (t347.size : Int) ≤ (a0.size : Int) then (if (a0.extract 0 ((t347.size : Int) : Int).toNat).toList = t347.toList then (if 0 ≤ (t348.size : Int) then (if (t348.size : Int) ≤ (a0.size : Int) then (if (a0.extract 0 ((t348.size : Int) : Int).toNat).toList = t348.toList then (if 0 ≤ (wrap64 ((a0.size : Int) - (t349.size : Int))) then (if (wrap64 ((a0.size : Int) - (t349.size : Int))) ≤ (a0.size : Int) then (if (a0.extract ((wrap64 ((a0.size : Int) - (t349.size : Int))) : Int).toNat a0.size).toList = t349.toList then (if 0 ≤ (wrap64 ((a0.size : Int) - (t350.size : Int))) then (if (wrap64 ((a0.size : Int) - (t350.size : Int))) ≤ (a0.size : Int) then (if (a0.extract ((wrap64 ((a0.size : Int) - (t350.size : Int))) : Int).toNat a0.size).toList = t350.toList then ((jobshelllaw17_awake.f kj2).bind fun t351 => (some t351)) else (some false)) else (none)) else (none)) else (some false)) else (none)) else (none)) else (some false)) else (none)) else (none)) else (some false)) else (none)) else (none))))))))) = some r := H
    have A9 := Aside0.mk A90
    clear A90
    replace H := Option.bind_eq_some_iff.mp H
    obtain ⟨t348, A100, H⟩ := H
    replace H : ((param_Trim.f kj2 8 a0 l1).bind fun t349 => ((param_Trim.f kj2 9 a0 l1).bind fun t350 => (if (t347.size : Int) > (a0.size : Int) then (some false) else (if (t348.size : Int) > (t347.size : Int) then (some false) else (if (t349.size : Int) > (a0.size : Int) then (some false) else (if (t350.size : Int) > (t349.size : Int) then (some false) else (if 0 ≤ (t347.size : Int) then (if (t347.size : Int) ≤ (a0.size : Int) then (if (a0.extract 0 ((t347.size : Int) : Int).toNat).toList = t347.toList then (if 0 ≤ (t348.size : Int) then (if (t348.size : Int) ≤ (a0.size : Int) then (if (a0.extract 0 ((t348.size : Int) : Int).toNat).toList = t348.toList then (if 0 ≤ (wrap64 ((a0.size : Int) - (t349.size : Int))) then (if (wrap64 ((a0.size : Int) - (t349.size : Int))) ≤ (a0.size : Int) then (if (a0.extract ((wrap64 ((a0.size : Int) - (t349.size : Int))) : Int).toNat a0.size).toList = t349.toList then (if 0 ≤ (wrap64 ((a0.size : Int) - (t350.size : Int))) then (if (wrap64 ((a0.size : Int) - (t350.size : Int))) ≤ (a0.size : Int) then (if (a0.extract ((wrap64 ((a0.size : Int) - (t350.size : Int))) : Int).toNat a0.size).toList = t350.toList then ((jobshelllaw17_awake.f kj2).bind fun t351 => (some t351)) else (some false)) else (none)) else (none)) else (some false)) else (none)) else (none)) else (some false)) else (none)) else (none)) else (some false)) else (none)) else (none)))))))) = some r := H
    have A10 := Aside0.mk A100
    clear A100
    replace H := Option.bind_eq_some_iff.mp H
    obtain ⟨t349, A110, H⟩ := H
    replace H : ((param_Trim.f kj2 9 a0 l1).bind fun t350 => (if (t347.size : Int) > (a0.size : Int) then (some false) else (if (t348.size : Int) > (t347.size : Int) then (some false) else (if (t349.size : Int) > (a0.size : Int) then (some false) else (if (t350.size : Int) > (t349.size : Int) then (some false) else (if 0 ≤ (t347.size : Int) then (if (t347.size : Int) ≤ (a0.size : Int) then (if (a0.extract 0 ((t347.size : Int) : Int).toNat).toList = t347.toList then (if 0 ≤ (t348.size : Int) then (if (t348.size : Int) ≤ (a0.size : Int) then (if (a0.extract 0 ((t348.size : Int) : Int).toNat).toList = t348.toList then (if 0 ≤ (wrap64 ((a0.size : Int) - (t349.size : Int))) then (if (wrap64 ((a0.size : Int) - (t349.size : Int))) ≤ (a0.size : Int) then (if (a0.extract ((wrap64 ((a0.size : Int) - (t349.size : Int))) : Int).toNat a0.size).toList = t349.toList then (if 0 ≤ (wrap64 ((a0.size : Int) - (t350.size : Int))) then (if (wrap64 ((a0.size : Int) - (t350.size : Int))) ≤ (a0.size : Int) then (if (a0.extract ((wrap64 ((a0.size : Int) - (t350.size : Int))) : Int).toNat a0.size).toList = t350.toList then ((jobshelllaw17_awake.f kj2).bind fun t351 => (some t351)) else (some false)) else (none)) else (none)) else (some false)) else (none)) else (none)) else (some false)) else (none)) else (none)) else (some false)) else (none)) else (none))))))) = some r := H
    have A11 := Aside0.mk A110
    clear A110
    replace H := Option.bind_eq_some_iff.mp H
    obtain ⟨t350, A120, H⟩ := H
    replace H : (if (t347.size : Int) > (a0.size : Int) then (some false) else (if (t348.size : Int) > (t347.size : Int) then (some false) else (if (t349.size : Int) > (a0.size : Int) then (some false) else (if (t350.size : Int) > (t349.size : Int) then (some false) else (if 0 ≤ (t347.size : Int) then (if (t347.size : Int) ≤ (a0.size : Int) then (if (a0.extract 0 ((t347.size : Int) : Int).toNat).toList = t347.toList then (if 0 ≤ (t348.size : Int) then (if (t348.size : Int) ≤ (a0.size : Int) then (if (a0.extract 0 ((t348.size : Int) : Int).toNat).toList = t348.toList then (if 0 ≤ (wrap64 ((a0.size : Int) - (t349.size : Int))) then (if (wrap64 ((a0.size : Int) - (t349.size : Int))) ≤ (a0.size : Int) then (if (a0.extract ((wrap64 ((a0.size : Int) - (t349.size : Int))) : Int).toNat a0.size).toList = t349.toList then (if 0 ≤ (wrap64 ((a0.size : Int) - (t350.size : Int))) then (if (wrap64 ((a0.size : Int) - (t350.size : Int))) ≤ (a0.size : Int) then (if (a0.extract ((wrap64 ((a0.size : Int) - (t350.size : Int))) : Int).toNat a0.size).toList = t350.toList then ((jobshelllaw17_awake.f kj2).bind fun t351 => (some t351)) else (some false)) else (none)) else (none)) else (some false)) else (none)) else (none)) else (some false)) else (none)) else (none)) else (some false)) else (none)) else (none)))))) = some r := H
    have A12 := Aside0.mk A120
    clear A120
    by_cases c13 : (t347.size : Int) > (a0.size : Int)
    ·rw [if_pos c13] at H
     have c13b0 : decide ((a0.size : Int) < (t347.size : Int)) = true := decide_eq_true c13
     have c13b1 : decide (a0.size < t347.size) = true := decide_eq_true (Int.ofNat_lt.mp c13)
     clear c13
     obtain rfl := Option.some.inj H
     go_wp2_with (first | ((with_reducible refine gate_callee (f := 19) rfl ?_); refine goesL_ (some 20) rfl rfl Tryd.func19 (by kernel_rfl) rfl #[.int .i64 6, .string a0, .slice A1 l1.length c1] rfl (by (try simp only [List.map_toArray, List.map_cons, List.map_nil]); first | done | rfl | (simp only [List.length_drop, List.length_take]; rfl)) ?_; (with_reducible refine (param_Trim.calls kj2 6 a0 _ _ l1 t347 _ ?side1 ?side2 A9.out).mono ?_); (case side1 => repeat (first | exact (Kd.C_below HR1.out HB.out) | (with_reducible refine Kd.C_alloc ?_ _) | (with_reducible refine Kd.C_drewN ?_ _) | (with_reducible refine Kd.C_drew ?_))); (case side2 => exact HC1.out); rintro e w14 ⟨rfl, hb⟩; refine ⟨_, rfl, ?_⟩; have n0_ := Aside0.mk (below_step (by repeat (first | (with_reducible first | exact HB.out | apply below_alloc | apply pw_below_drewN | apply below_drew1) | exact HB.out)) hb); clear HB; have HB := n0_; clear n0_; (try clear hb); (try clear hb2); (try clear hk); (try clear hi)) | ((with_reducible refine gate_callee (f := 19) rfl ?_); refine goesL_ (some 23) rfl rfl Tryd.func19 (by kernel_rfl) rfl #[.int .i64 7, .string a0, .slice A1 l1.length c1] rfl (by (try simp only [List.map_toArray, List.map_cons, List.map_nil]); first | done | rfl | (simp only [List.length_drop, List.length_take]; rfl)) ?_; (with_reducible refine (param_Trim.calls kj2 7 a0 _ _ l1 t348 _ ?side1 ?side2 A10.out).mono ?_); (case side1 => repeat (first | exact (Kd.C_below HR1.out HB.out) | (with_reducible refine Kd.C_alloc ?_ _) | (with_reducible refine Kd.C_drewN ?_ _) | (with_reducible refine Kd.C_drew ?_))); (case side2 => exact HC1.out); rintro e w15 ⟨rfl, hb⟩; refine ⟨_, rfl, ?_⟩; have n0_ := Aside0.mk (below_step (by repeat (first | (with_reducible first | exact HB.out | apply below_alloc | apply pw_below_drewN | apply below_drew1) | exact HB.out)) hb); clear HB; have HB := n0_; clear n0_; (try clear hb); (try clear hb2); (try clear hk); (try clear hi)) | ((with_reducible refine gate_callee (f := 19) rfl ?_); refine goesL_ (some 26) rfl rfl Tryd.func19 (by kernel_rfl) rfl #[.int .i64 8, .string a0, .slice A1 l1.length c1] rfl (by (try simp only [List.map_toArray, List.map_cons, List.map_nil]); first | done | rfl | (simp only [List.length_drop, List.length_take]; rfl)) ?_; (with_reducible refine (param_Trim.calls kj2 8 a0 _ _ l1 t349 _ ?side1 ?side2 A11.out).mono ?_); (case side1 => repeat (first | exact (Kd.C_below HR1.out HB.out) | (with_reducible refine Kd.C_alloc ?_ _) | (with_reducible refine Kd.C_drewN ?_ _) | (with_reducible refine Kd.C_drew ?_))); (case side2 => exact HC1.out); rintro e w16 ⟨rfl, hb⟩; refine ⟨_, rfl, ?_⟩; have n0_ := Aside0.mk (below_step (by repeat (first | (with_reducible first | exact HB.out | apply below_alloc | apply pw_below_drewN | apply below_drew1) | exact HB.out)) hb); clear HB; have HB := n0_; clear n0_; (try clear hb); (try clear hb2); (try clear hk); (try clear hi)) | ((with_reducible refine gate_callee (f := 19) rfl ?_); refine goesL_ (some 29) rfl rfl Tryd.func19 (by kernel_rfl) rfl #[.int .i64 9, .string a0, .slice A1 l1.length c1] rfl (by (try simp only [List.map_toArray, List.map_cons, List.map_nil]); first | done | rfl | (simp only [List.length_drop, List.length_take]; rfl)) ?_; (with_reducible refine (param_Trim.calls kj2 9 a0 _ _ l1 t350 _ ?side1 ?side2 A12.out).mono ?_); (case side1 => repeat (first | exact (Kd.C_below HR1.out HB.out) | (with_reducible refine Kd.C_alloc ?_ _) | (with_reducible refine Kd.C_drewN ?_ _) | (with_reducible refine Kd.C_drew ?_))); (case side2 => exact HC1.out); rintro e w17 ⟨rfl, hb⟩; refine ⟨_, rfl, ?_⟩; have n0_ := Aside0.mk (below_step (by repeat (first | (with_reducible first | exact HB.out | apply below_alloc | apply pw_below_drewN | apply below_drew1) | exact HB.out)) hb); clear HB; have HB := n0_; clear n0_; (try clear hb); (try clear hb2); (try clear hk); (try clear hi)))
     go_ret
     exact ⟨by first | rfl | (simp [errW_none, errW_some] <;> rfl) | (simp [*, errW_none, errW_some] <;> rfl), by repeat (first | (with_reducible first | exact HB.out | apply below_alloc | apply pw_below_drewN | apply below_drew1) | exact HB.out)⟩
    ·rw [if_neg c13] at H
     have c13b0 : decide ((a0.size : Int) < (t347.size : Int)) = false := decide_eq_false c13
     have c13b1 : decide (a0.size < t347.size) = false := decide_eq_false (fun h => c13 (Int.ofNat_lt.mpr h))
     clear c13
     by_cases c18 : (t348.size : Int) > (t347.size : Int)
     ·rw [if_pos c18] at H
      have c18b0 : decide ((t347.size : Int) < (t348.size : Int)) = true := decide_eq_true c18
      have c18b1 : decide (t347.size < t348.size) = true := decide_eq_true (Int.ofNat_lt.mp c18)
      clear c18
      obtain rfl := Option.some.inj H
      go_wp2_with (first | ((with_reducible refine gate_callee (f := 19) rfl ?_); refine goesL_ (some 20) rfl rfl Tryd.func19 (by kernel_rfl) rfl #[.int .i64 6, .string a0, .slice A1 l1.length c1] rfl (by (try simp only [List.map_toArray, List.map_cons, List.map_nil]); first | done | rfl | (simp only [List.length_drop, List.length_take]; rfl)) ?_; (with_reducible refine (param_Trim.calls kj2 6 a0 _ _ l1 t347 _ ?side1 ?side2 A9.out).mono ?_); (case side1 => repeat (first | exact (Kd.C_below HR1.out HB.out) | (with_reducible refine Kd.C_alloc ?_ _) | (with_reducible refine Kd.C_drewN ?_ _) | (with_reducible refine Kd.C_drew ?_))); (case side2 => exact HC1.out); rintro e w19 ⟨rfl, hb⟩; refine ⟨_, rfl, ?_⟩; have n0_ := Aside0.mk (below_step (by repeat (first | (with_reducible first | exact HB.out | apply below_alloc | apply pw_below_drewN | apply below_drew1) | exact HB.out)) hb); clear HB; have HB := n0_; clear n0_; (try clear hb); (try clear hb2); (try clear hk); (try clear hi)) | ((with_reducible refine gate_callee (f := 19) rfl ?_); refine goesL_ (some 23) rfl rfl Tryd.func19 (by kernel_rfl) rfl #[.int .i64 7, .string a0, .slice A1 l1.length c1] rfl (by (try simp only [List.map_toArray, List.map_cons, List.map_nil]); first | done | rfl | (simp only [List.length_drop, List.length_take]; rfl)) ?_; (with_reducible refine (param_Trim.calls kj2 7 a0 _ _ l1 t348 _ ?side1 ?side2 A10.out).mono ?_); (case side1 => repeat (first | exact (Kd.C_below HR1.out HB.out) | (with_reducible refine Kd.C_alloc ?_ _) | (with_reducible refine Kd.C_drewN ?_ _) | (with_reducible refine Kd.C_drew ?_))); (case side2 => exact HC1.out); rintro e w20 ⟨rfl, hb⟩; refine ⟨_, rfl, ?_⟩; have n0_ := Aside0.mk (below_step (by repeat (first | (with_reducible first | exact HB.out | apply below_alloc | apply pw_below_drewN | apply below_drew1) | exact HB.out)) hb); clear HB; have HB := n0_; clear n0_; (try clear hb); (try clear hb2); (try clear hk); (try clear hi)) | ((with_reducible refine gate_callee (f := 19) rfl ?_); refine goesL_ (some 26) rfl rfl Tryd.func19 (by kernel_rfl) rfl #[.int .i64 8, .string a0, .slice A1 l1.length c1] rfl (by (try simp only [List.map_toArray, List.map_cons, List.map_nil]); first | done | rfl | (simp only [List.length_drop, List.length_take]; rfl)) ?_; (with_reducible refine (param_Trim.calls kj2 8 a0 _ _ l1 t349 _ ?side1 ?side2 A11.out).mono ?_); (case side1 => repeat (first | exact (Kd.C_below HR1.out HB.out) | (with_reducible refine Kd.C_alloc ?_ _) | (with_reducible refine Kd.C_drewN ?_ _) | (with_reducible refine Kd.C_drew ?_))); (case side2 => exact HC1.out); rintro e w21 ⟨rfl, hb⟩; refine ⟨_, rfl, ?_⟩; have n0_ := Aside0.mk (below_step (by repeat (first | (with_reducible first | exact HB.out | apply below_alloc | apply pw_below_drewN | apply below_drew1) | exact HB.out)) hb); clear HB; have HB := n0_; clear n0_; (try clear hb); (try clear hb2); (try clear hk); (try clear hi)) | ((with_reducible refine gate_callee (f := 19) rfl ?_); refine goesL_ (some 29) rfl rfl Tryd.func19 (by kernel_rfl) rfl #[.int .i64 9, .string a0, .slice A1 l1.length c1] rfl (by (try simp only [List.map_toArray, List.map_cons, List.map_nil]); first | done | rfl | (simp only [List.length_drop, List.length_take]; rfl)) ?_; (with_reducible refine (param_Trim.calls kj2 9 a0 _ _ l1 t350 _ ?side1 ?side2 A12.out).mono ?_); (case side1 => repeat (first | exact (Kd.C_below HR1.out HB.out) | (with_reducible refine Kd.C_alloc ?_ _) | (with_reducible refine Kd.C_drewN ?_ _) | (with_reducible refine Kd.C_drew ?_))); (case side2 => exact HC1.out); rintro e w22 ⟨rfl, hb⟩; refine ⟨_, rfl, ?_⟩; have n0_ := Aside0.mk (below_step (by repeat (first | (with_reducible first | exact HB.out | apply below_alloc | apply pw_below_drewN | apply below_drew1) | exact HB.out)) hb); clear HB; have HB := n0_; clear n0_; (try clear hb); (try clear hb2); (try clear hk); (try clear hi)))
      go_ret
      exact ⟨by first | rfl | (simp [errW_none, errW_some] <;> rfl) | (simp [*, errW_none, errW_some] <;> rfl), by repeat (first | (with_reducible first | exact HB.out | apply below_alloc | apply pw_below_drewN | apply below_drew1) | exact HB.out)⟩
     ·rw [if_neg c18] at H
      have c18b0 : decide ((t347.size : Int) < (t348.size : Int)) = false := decide_eq_false c18
      have c18b1 : decide (t347.size < t348.size) = false := decide_eq_false (fun h => c18 (Int.ofNat_lt.mpr h))
      clear c18
      by_cases c23 : (t349.size : Int) > (a0.size : Int)
      ·rw [if_pos c23] at H
       have c23b0 : decide ((a0.size : Int) < (t349.size : Int)) = true := decide_eq_true c23
       have c23b1 : decide (a0.size < t349.size) = true := decide_eq_true (Int.ofNat_lt.mp c23)
       clear c23
       obtain rfl := Option.some.inj H
       go_wp2_with (first | ((with_reducible refine gate_callee (f := 19) rfl ?_); refine goesL_ (some 20) rfl rfl Tryd.func19 (by kernel_rfl) rfl #[.int .i64 6, .string a0, .slice A1 l1.length c1] rfl (by (try simp only [List.map_toArray, List.map_cons, List.map_nil]); first | done | rfl | (simp only [List.length_drop, List.length_take]; rfl)) ?_; (with_reducible refine (param_Trim.calls kj2 6 a0 _ _ l1 t347 _ ?side1 ?side2 A9.out).mono ?_); (case side1 => repeat (first | exact (Kd.C_below HR1.out HB.out) | (with_reducible refine Kd.C_alloc ?_ _) | (with_reducible refine Kd.C_drewN ?_ _) | (with_reducible refine Kd.C_drew ?_))); (case side2 => exact HC1.out); rintro e w24 ⟨rfl, hb⟩; refine ⟨_, rfl, ?_⟩; have n0_ := Aside0.mk (below_step (by repeat (first | (with_reducible first | exact HB.out | apply below_alloc | apply pw_below_drewN | apply below_drew1) | exact HB.out)) hb); clear HB; have HB := n0_; clear n0_; (try clear hb); (try clear hb2); (try clear hk); (try clear hi)) | ((with_reducible refine gate_callee (f := 19) rfl ?_); refine goesL_ (some 23) rfl rfl Tryd.func19 (by kernel_rfl) rfl #[.int .i64 7, .string a0, .slice A1 l1.length c1] rfl (by (try simp only [List.map_toArray, List.map_cons, List.map_nil]); first | done | rfl | (simp only [List.length_drop, List.length_take]; rfl)) ?_; (with_reducible refine (param_Trim.calls kj2 7 a0 _ _ l1 t348 _ ?side1 ?side2 A10.out).mono ?_); (case side1 => repeat (first | exact (Kd.C_below HR1.out HB.out) | (with_reducible refine Kd.C_alloc ?_ _) | (with_reducible refine Kd.C_drewN ?_ _) | (with_reducible refine Kd.C_drew ?_))); (case side2 => exact HC1.out); rintro e w25 ⟨rfl, hb⟩; refine ⟨_, rfl, ?_⟩; have n0_ := Aside0.mk (below_step (by repeat (first | (with_reducible first | exact HB.out | apply below_alloc | apply pw_below_drewN | apply below_drew1) | exact HB.out)) hb); clear HB; have HB := n0_; clear n0_; (try clear hb); (try clear hb2); (try clear hk); (try clear hi)) | ((with_reducible refine gate_callee (f := 19) rfl ?_); refine goesL_ (some 26) rfl rfl Tryd.func19 (by kernel_rfl) rfl #[.int .i64 8, .string a0, .slice A1 l1.length c1] rfl (by (try simp only [List.map_toArray, List.map_cons, List.map_nil]); first | done | rfl | (simp only [List.length_drop, List.length_take]; rfl)) ?_; (with_reducible refine (param_Trim.calls kj2 8 a0 _ _ l1 t349 _ ?side1 ?side2 A11.out).mono ?_); (case side1 => repeat (first | exact (Kd.C_below HR1.out HB.out) | (with_reducible refine Kd.C_alloc ?_ _) | (with_reducible refine Kd.C_drewN ?_ _) | (with_reducible refine Kd.C_drew ?_))); (case side2 => exact HC1.out); rintro e w26 ⟨rfl, hb⟩; refine ⟨_, rfl, ?_⟩; have n0_ := Aside0.mk (below_step (by repeat (first | (with_reducible first | exact HB.out | apply below_alloc | apply pw_below_drewN | apply below_drew1) | exact HB.out)) hb); clear HB; have HB := n0_; clear n0_; (try clear hb); (try clear hb2); (try clear hk); (try clear hi)) | ((with_reducible refine gate_callee (f := 19) rfl ?_); refine goesL_ (some 29) rfl rfl Tryd.func19 (by kernel_rfl) rfl #[.int .i64 9, .string a0, .slice A1 l1.length c1] rfl (by (try simp only [List.map_toArray, List.map_cons, List.map_nil]); first | done | rfl | (simp only [List.length_drop, List.length_take]; rfl)) ?_; (with_reducible refine (param_Trim.calls kj2 9 a0 _ _ l1 t350 _ ?side1 ?side2 A12.out).mono ?_); (case side1 => repeat (first | exact (Kd.C_below HR1.out HB.out) | (with_reducible refine Kd.C_alloc ?_ _) | (with_reducible refine Kd.C_drewN ?_ _) | (with_reducible refine Kd.C_drew ?_))); (case side2 => exact HC1.out); rintro e w27 ⟨rfl, hb⟩; refine ⟨_, rfl, ?_⟩; have n0_ := Aside0.mk (below_step (by repeat (first | (with_reducible first | exact HB.out | apply below_alloc | apply pw_below_drewN | apply below_drew1) | exact HB.out)) hb); clear HB; have HB := n0_; clear n0_; (try clear hb); (try clear hb2); (try clear hk); (try clear hi)))
       go_ret
       exact ⟨by first | rfl | (simp [errW_none, errW_some] <;> rfl) | (simp [*, errW_none, errW_some] <;> rfl), by repeat (first | (with_reducible first | exact HB.out | apply below_alloc | apply pw_below_drewN | apply below_drew1) | exact HB.out)⟩
      ·rw [if_neg c23] at H
       have c23b0 : decide ((a0.size : Int) < (t349.size : Int)) = false := decide_eq_false c23
       have c23b1 : decide (a0.size < t349.size) = false := decide_eq_false (fun h => c23 (Int.ofNat_lt.mpr h))
       clear c23
       by_cases c28 : (t350.size : Int) > (t349.size : Int)
       ·rw [if_pos c28] at H
        have c28b0 : decide ((t349.size : Int) < (t350.size : Int)) = true := decide_eq_true c28
        have c28b1 : decide (t349.size < t350.size) = true := decide_eq_true (Int.ofNat_lt.mp c28)
        clear c28
        obtain rfl := Option.some.inj H
        go_wp2_with (first | ((with_reducible refine gate_callee (f := 19) rfl ?_); refine goesL_ (some 20) rfl rfl Tryd.func19 (by kernel_rfl) rfl #[.int .i64 6, .string a0, .slice A1 l1.length c1] rfl (by (try simp only [List.map_toArray, List.map_cons, List.map_nil]); first | done | rfl | (simp only [List.length_drop, List.length_take]; rfl)) ?_; (with_reducible refine (param_Trim.calls kj2 6 a0 _ _ l1 t347 _ ?side1 ?side2 A9.out).mono ?_); (case side1 => repeat (first | exact (Kd.C_below HR1.out HB.out) | (with_reducible refine Kd.C_alloc ?_ _) | (with_reducible refine Kd.C_drewN ?_ _) | (with_reducible refine Kd.C_drew ?_))); (case side2 => exact HC1.out); rintro e w29 ⟨rfl, hb⟩; refine ⟨_, rfl, ?_⟩; have n0_ := Aside0.mk (below_step (by repeat (first | (with_reducible first | exact HB.out | apply below_alloc | apply pw_below_drewN | apply below_drew1) | exact HB.out)) hb); clear HB; have HB := n0_; clear n0_; (try clear hb); (try clear hb2); (try clear hk); (try clear hi)) | ((with_reducible refine gate_callee (f := 19) rfl ?_); refine goesL_ (some 23) rfl rfl Tryd.func19 (by kernel_rfl) rfl #[.int .i64 7, .string a0, .slice A1 l1.length c1] rfl (by (try simp only [List.map_toArray, List.map_cons, List.map_nil]); first | done | rfl | (simp only [List.length_drop, List.length_take]; rfl)) ?_; (with_reducible refine (param_Trim.calls kj2 7 a0 _ _ l1 t348 _ ?side1 ?side2 A10.out).mono ?_); (case side1 => repeat (first | exact (Kd.C_below HR1.out HB.out) | (with_reducible refine Kd.C_alloc ?_ _) | (with_reducible refine Kd.C_drewN ?_ _) | (with_reducible refine Kd.C_drew ?_))); (case side2 => exact HC1.out); rintro e w30 ⟨rfl, hb⟩; refine ⟨_, rfl, ?_⟩; have n0_ := Aside0.mk (below_step (by repeat (first | (with_reducible first | exact HB.out | apply below_alloc | apply pw_below_drewN | apply below_drew1) | exact HB.out)) hb); clear HB; have HB := n0_; clear n0_; (try clear hb); (try clear hb2); (try clear hk); (try clear hi)) | ((with_reducible refine gate_callee (f := 19) rfl ?_); refine goesL_ (some 26) rfl rfl Tryd.func19 (by kernel_rfl) rfl #[.int .i64 8, .string a0, .slice A1 l1.length c1] rfl (by (try simp only [List.map_toArray, List.map_cons, List.map_nil]); first | done | rfl | (simp only [List.length_drop, List.length_take]; rfl)) ?_; (with_reducible refine (param_Trim.calls kj2 8 a0 _ _ l1 t349 _ ?side1 ?side2 A11.out).mono ?_); (case side1 => repeat (first | exact (Kd.C_below HR1.out HB.out) | (with_reducible refine Kd.C_alloc ?_ _) | (with_reducible refine Kd.C_drewN ?_ _) | (with_reducible refine Kd.C_drew ?_))); (case side2 => exact HC1.out); rintro e w31 ⟨rfl, hb⟩; refine ⟨_, rfl, ?_⟩; have n0_ := Aside0.mk (below_step (by repeat (first | (with_reducible first | exact HB.out | apply below_alloc | apply pw_below_drewN | apply below_drew1) | exact HB.out)) hb); clear HB; have HB := n0_; clear n0_; (try clear hb); (try clear hb2); (try clear hk); (try clear hi)) | ((with_reducible refine gate_callee (f := 19) rfl ?_); refine goesL_ (some 29) rfl rfl Tryd.func19 (by kernel_rfl) rfl #[.int .i64 9, .string a0, .slice A1 l1.length c1] rfl (by (try simp only [List.map_toArray, List.map_cons, List.map_nil]); first | done | rfl | (simp only [List.length_drop, List.length_take]; rfl)) ?_; (with_reducible refine (param_Trim.calls kj2 9 a0 _ _ l1 t350 _ ?side1 ?side2 A12.out).mono ?_); (case side1 => repeat (first | exact (Kd.C_below HR1.out HB.out) | (with_reducible refine Kd.C_alloc ?_ _) | (with_reducible refine Kd.C_drewN ?_ _) | (with_reducible refine Kd.C_drew ?_))); (case side2 => exact HC1.out); rintro e w32 ⟨rfl, hb⟩; refine ⟨_, rfl, ?_⟩; have n0_ := Aside0.mk (below_step (by repeat (first | (with_reducible first | exact HB.out | apply below_alloc | apply pw_below_drewN | apply below_drew1) | exact HB.out)) hb); clear HB; have HB := n0_; clear n0_; (try clear hb); (try clear hb2); (try clear hk); (try clear hi)))
        go_ret
        exact ⟨by first | rfl | (simp [errW_none, errW_some] <;> rfl) | (simp [*, errW_none, errW_some] <;> rfl), by repeat (first | (with_reducible first | exact HB.out | apply below_alloc | apply pw_below_drewN | apply below_drew1) | exact HB.out)⟩
       ·rw [if_neg c28] at H
        have c28b0 : decide ((t349.size : Int) < (t350.size : Int)) = false := decide_eq_false c28
        have c28b1 : decide (t349.size < t350.size) = false := decide_eq_false (fun h => c28 (Int.ofNat_lt.mpr h))
        clear c28
        by_cases c33 : 0 ≤ (t347.size : Int)
        ·rw [if_pos c33] at H
         have c33b0 := eq_true c33
         have c33b1 : decide (0 ≤ (t347.size : Int)) = true := decide_eq_true c33
         clear c33
         by_cases c34 : (t347.size : Int) ≤ (a0.size : Int)
         ·rw [if_pos c34] at H
          have c34b0 := eq_true c34
          have c34b1 : decide ((t347.size : Int) ≤ (a0.size : Int)) = true := decide_eq_true c34
          clear c34
          by_cases c35 : (a0.extract 0 ((t347.size : Int) : Int).toNat).toList = t347.toList
          ·rw [if_pos c35] at H
           have c35b0 : ((a0.extract 0 ((t347.size : Int) : Int).toNat).toList == t347.toList) = true := beq_iff_eq.mpr c35
           have c35b1 : ((a0.extract 0 ((t347.size : Int) : Int).toNat).toList != t347.toList) = false := bne_eq_false_iff_eq.mpr c35
           try simp only [Int.toNat_natCast] at c35b0 c35b1
           clear c35
           by_cases c36 : 0 ≤ (t348.size : Int)
           ·rw [if_pos c36] at H
            have c36b0 := eq_true c36
            have c36b1 : decide (0 ≤ (t348.size : Int)) = true := decide_eq_true c36
            clear c36
            by_cases c37 : (t348.size : Int) ≤ (a0.size : Int)
            ·rw [if_pos c37] at H
             have c37b0 := eq_true c37
             have c37b1 : decide ((t348.size : Int) ≤ (a0.size : Int)) = true := decide_eq_true c37
             clear c37
             by_cases c38 : (a0.extract 0 ((t348.size : Int) : Int).toNat).toList = t348.toList
             ·rw [if_pos c38] at H
              have c38b0 : ((a0.extract 0 ((t348.size : Int) : Int).toNat).toList == t348.toList) = true := beq_iff_eq.mpr c38
              have c38b1 : ((a0.extract 0 ((t348.size : Int) : Int).toNat).toList != t348.toList) = false := bne_eq_false_iff_eq.mpr c38
              try simp only [Int.toNat_natCast] at c38b0 c38b1
              clear c38
              obtain ⟨ji39, hji39⟩ : ∃ j_ : Int, (wrap64 ((a0.size : Int) - (t349.size : Int))) = j_ := ⟨_, rfl⟩
              replace H : (if 0 ≤ (ji39) then (if (ji39) ≤ (a0.size : Int) then (if (a0.extract ((ji39) : Int).toNat a0.size).toList = t349.toList then (if 0 ≤ (wrap64 ((a0.size : Int) - (t350.size : Int))) then (if (wrap64 ((a0.size : Int) - (t350.size : Int))) ≤ (a0.size : Int) then (if (a0.extract ((wrap64 ((a0.size : Int) - (t350.size : Int))) : Int).toNat a0.size).toList = t350.toList then ((jobshelllaw17_awake.f kj2).bind fun t351 => (some t351)) else (some false)) else (none)) else (none)) else (some false)) else (none)) else (none)) = some r := by first | (rw [hji39] at H; exact H) | (simp only [hji39] at H ⊢; exact H)
              (try rw [hji39] at A9)
              (try rw [hji39] at A10)
              (try rw [hji39] at A11)
              (try rw [hji39] at A12)
              have hji39w : (IntKind.i64.wrap ((a0.size : Int) - (t349.size : Int))) = ji39 := (i64_w _).trans hji39
              by_cases c40 : 0 ≤ (ji39)
              ·rw [if_pos c40] at H
               have c40b0 := eq_true c40
               have c40b1 : decide (0 ≤ (ji39)) = true := decide_eq_true c40
               clear c40
               by_cases c41 : (ji39) ≤ (a0.size : Int)
               ·rw [if_pos c41] at H
                have c41b0 := eq_true c41
                have c41b1 : decide ((ji39) ≤ (a0.size : Int)) = true := decide_eq_true c41
                clear c41
                by_cases c42 : (a0.extract ((ji39) : Int).toNat a0.size).toList = t349.toList
                ·rw [if_pos c42] at H
                 have c42b0 : ((a0.extract ((ji39) : Int).toNat a0.size).toList == t349.toList) = true := beq_iff_eq.mpr c42
                 have c42b1 : ((a0.extract ((ji39) : Int).toNat a0.size).toList != t349.toList) = false := bne_eq_false_iff_eq.mpr c42
                 clear c42
                 obtain ⟨ji43, hji43⟩ : ∃ j_ : Int, (wrap64 ((a0.size : Int) - (t350.size : Int))) = j_ := ⟨_, rfl⟩
                 replace H : (if 0 ≤ (ji43) then (if (ji43) ≤ (a0.size : Int) then (if (a0.extract ((ji43) : Int).toNat a0.size).toList = t350.toList then ((jobshelllaw17_awake.f kj2).bind fun t351 => (some t351)) else (some false)) else (none)) else (none)) = some r := by first | (rw [hji43] at H; exact H) | (simp only [hji43] at H ⊢; exact H)
                 (try rw [hji43] at A9)
                 (try rw [hji43] at A10)
                 (try rw [hji43] at A11)
                 (try rw [hji43] at A12)
                 have hji43w : (IntKind.i64.wrap ((a0.size : Int) - (t350.size : Int))) = ji43 := (i64_w _).trans hji43
                 by_cases c44 : 0 ≤ (ji43)
                 ·rw [if_pos c44] at H
                  have c44b0 := eq_true c44
                  have c44b1 : decide (0 ≤ (ji43)) = true := decide_eq_true c44
                  clear c44
                  by_cases c45 : (ji43) ≤ (a0.size : Int)
                  ·rw [if_pos c45] at H
                   have c45b0 := eq_true c45
                   have c45b1 : decide ((ji43) ≤ (a0.size : Int)) = true := decide_eq_true c45
                   clear c45
                   by_cases c46 : (a0.extract ((ji43) : Int).toNat a0.size).toList = t350.toList
                   ·rw [if_pos c46] at H
                    have c46b0 : ((a0.extract ((ji43) : Int).toNat a0.size).toList == t350.toList) = true := beq_iff_eq.mpr c46
                    have c46b1 : ((a0.extract ((ji43) : Int).toNat a0.size).toList != t350.toList) = false := bne_eq_false_iff_eq.mpr c46
                    clear c46
                    replace H := Option.bind_eq_some_iff.mp H
                    obtain ⟨t351, A470, H⟩ := H
                    replace H : (some t351) = some r := H
                    have A47 := Aside0.mk A470
                    clear A470
                    obtain rfl := Option.some.inj H
                    go_wp2_with (first | ((with_reducible refine gate_callee (f := 19) rfl ?_); refine goesL_ (some 20) rfl rfl Tryd.func19 (by kernel_rfl) rfl #[.int .i64 6, .string a0, .slice A1 l1.length c1] rfl (by (try simp only [List.map_toArray, List.map_cons, List.map_nil]); first | done | rfl | (simp only [List.length_drop, List.length_take]; rfl)) ?_; (with_reducible refine (param_Trim.calls kj2 6 a0 _ _ l1 t347 _ ?side1 ?side2 A9.out).mono ?_); (case side1 => repeat (first | exact (Kd.C_below HR1.out HB.out) | (with_reducible refine Kd.C_alloc ?_ _) | (with_reducible refine Kd.C_drewN ?_ _) | (with_reducible refine Kd.C_drew ?_))); (case side2 => exact HC1.out); rintro e w48 ⟨rfl, hb⟩; refine ⟨_, rfl, ?_⟩; have n0_ := Aside0.mk (below_step (by repeat (first | (with_reducible first | exact HB.out | apply below_alloc | apply pw_below_drewN | apply below_drew1) | exact HB.out)) hb); clear HB; have HB := n0_; clear n0_; (try clear hb); (try clear hb2); (try clear hk); (try clear hi)) | ((with_reducible refine gate_callee (f := 19) rfl ?_); refine goesL_ (some 23) rfl rfl Tryd.func19 (by kernel_rfl) rfl #[.int .i64 7, .string a0, .slice A1 l1.length c1] rfl (by (try simp only [List.map_toArray, List.map_cons, List.map_nil]); first | done | rfl | (simp only [List.length_drop, List.length_take]; rfl)) ?_; (with_reducible refine (param_Trim.calls kj2 7 a0 _ _ l1 t348 _ ?side1 ?side2 A10.out).mono ?_); (case side1 => repeat (first | exact (Kd.C_below HR1.out HB.out) | (with_reducible refine Kd.C_alloc ?_ _) | (with_reducible refine Kd.C_drewN ?_ _) | (with_reducible refine Kd.C_drew ?_))); (case side2 => exact HC1.out); rintro e w49 ⟨rfl, hb⟩; refine ⟨_, rfl, ?_⟩; have n0_ := Aside0.mk (below_step (by repeat (first | (with_reducible first | exact HB.out | apply below_alloc | apply pw_below_drewN | apply below_drew1) | exact HB.out)) hb); clear HB; have HB := n0_; clear n0_; (try clear hb); (try clear hb2); (try clear hk); (try clear hi)) | ((with_reducible refine gate_callee (f := 19) rfl ?_); refine goesL_ (some 26) rfl rfl Tryd.func19 (by kernel_rfl) rfl #[.int .i64 8, .string a0, .slice A1 l1.length c1] rfl (by (try simp only [List.map_toArray, List.map_cons, List.map_nil]); first | done | rfl | (simp only [List.length_drop, List.length_take]; rfl)) ?_; (with_reducible refine (param_Trim.calls kj2 8 a0 _ _ l1 t349 _ ?side1 ?side2 A11.out).mono ?_); (case side1 => repeat (first | exact (Kd.C_below HR1.out HB.out) | (with_reducible refine Kd.C_alloc ?_ _) | (with_reducible refine Kd.C_drewN ?_ _) | (with_reducible refine Kd.C_drew ?_))); (case side2 => exact HC1.out); rintro e w50 ⟨rfl, hb⟩; refine ⟨_, rfl, ?_⟩; have n0_ := Aside0.mk (below_step (by repeat (first | (with_reducible first | exact HB.out | apply below_alloc | apply pw_below_drewN | apply below_drew1) | exact HB.out)) hb); clear HB; have HB := n0_; clear n0_; (try clear hb); (try clear hb2); (try clear hk); (try clear hi)) | ((with_reducible refine gate_callee (f := 19) rfl ?_); refine goesL_ (some 29) rfl rfl Tryd.func19 (by kernel_rfl) rfl #[.int .i64 9, .string a0, .slice A1 l1.length c1] rfl (by (try simp only [List.map_toArray, List.map_cons, List.map_nil]); first | done | rfl | (simp only [List.length_drop, List.length_take]; rfl)) ?_; (with_reducible refine (param_Trim.calls kj2 9 a0 _ _ l1 t350 _ ?side1 ?side2 A12.out).mono ?_); (case side1 => repeat (first | exact (Kd.C_below HR1.out HB.out) | (with_reducible refine Kd.C_alloc ?_ _) | (with_reducible refine Kd.C_drewN ?_ _) | (with_reducible refine Kd.C_drew ?_))); (case side2 => exact HC1.out); rintro e w51 ⟨rfl, hb⟩; refine ⟨_, rfl, ?_⟩; have n0_ := Aside0.mk (below_step (by repeat (first | (with_reducible first | exact HB.out | apply below_alloc | apply pw_below_drewN | apply below_drew1) | exact HB.out)) hb); clear HB; have HB := n0_; clear n0_; (try clear hb); (try clear hb2); (try clear hk); (try clear hi)) | (go_at_call 10; (with_reducible refine (jobshelllaw17_awake.calls kj2  t351 _ ?side1 A47.out).mono ?_); (case side1 => repeat (first | exact (AmbC_below HAMB.out HB.out) | (with_reducible refine AmbC_alloc ?_ _) | (with_reducible refine AmbC_drewN ?_ _) | (with_reducible refine AmbC_drew ?_))); rintro e w52 ⟨rfl, hb⟩; have n0_ := Aside0.mk (below_step (by repeat (first | (with_reducible first | exact HB.out | apply below_alloc | apply pw_below_drewN | apply below_drew1) | exact HB.out)) hb); clear HB; have HB := n0_; clear n0_; (try clear hb); (try clear hb2); (try clear hk); (try clear hi)))
                    go_ret
                    exact ⟨by first | rfl | (simp [errW_none, errW_some] <;> rfl) | (simp only [← hji39, ← hji43]; first | rfl | (simp [errW_none, errW_some] <;> rfl)) | (simp [*, errW_none, errW_some] <;> rfl), by repeat (first | (with_reducible first | exact HB.out | apply below_alloc | apply pw_below_drewN | apply below_drew1) | exact HB.out)⟩
                   ·rw [if_neg c46] at H
                    have c46b0 : ((a0.extract ((ji43) : Int).toNat a0.size).toList == t350.toList) = false := beq_eq_false_iff_ne.mpr c46
                    have c46b1 : ((a0.extract ((ji43) : Int).toNat a0.size).toList != t350.toList) = true := bne_iff_ne.mpr c46
                    obtain rfl := Option.some.inj H
                    go_wp2_with (first | ((with_reducible refine gate_callee (f := 19) rfl ?_); refine goesL_ (some 20) rfl rfl Tryd.func19 (by kernel_rfl) rfl #[.int .i64 6, .string a0, .slice A1 l1.length c1] rfl (by (try simp only [List.map_toArray, List.map_cons, List.map_nil]); first | done | rfl | (simp only [List.length_drop, List.length_take]; rfl)) ?_; (with_reducible refine (param_Trim.calls kj2 6 a0 _ _ l1 t347 _ ?side1 ?side2 A9.out).mono ?_); (case side1 => repeat (first | exact (Kd.C_below HR1.out HB.out) | (with_reducible refine Kd.C_alloc ?_ _) | (with_reducible refine Kd.C_drewN ?_ _) | (with_reducible refine Kd.C_drew ?_))); (case side2 => exact HC1.out); rintro e w53 ⟨rfl, hb⟩; refine ⟨_, rfl, ?_⟩; have n0_ := Aside0.mk (below_step (by repeat (first | (with_reducible first | exact HB.out | apply below_alloc | apply pw_below_drewN | apply below_drew1) | exact HB.out)) hb); clear HB; have HB := n0_; clear n0_; (try clear hb); (try clear hb2); (try clear hk); (try clear hi)) | ((with_reducible refine gate_callee (f := 19) rfl ?_); refine goesL_ (some 23) rfl rfl Tryd.func19 (by kernel_rfl) rfl #[.int .i64 7, .string a0, .slice A1 l1.length c1] rfl (by (try simp only [List.map_toArray, List.map_cons, List.map_nil]); first | done | rfl | (simp only [List.length_drop, List.length_take]; rfl)) ?_; (with_reducible refine (param_Trim.calls kj2 7 a0 _ _ l1 t348 _ ?side1 ?side2 A10.out).mono ?_); (case side1 => repeat (first | exact (Kd.C_below HR1.out HB.out) | (with_reducible refine Kd.C_alloc ?_ _) | (with_reducible refine Kd.C_drewN ?_ _) | (with_reducible refine Kd.C_drew ?_))); (case side2 => exact HC1.out); rintro e w54 ⟨rfl, hb⟩; refine ⟨_, rfl, ?_⟩; have n0_ := Aside0.mk (below_step (by repeat (first | (with_reducible first | exact HB.out | apply below_alloc | apply pw_below_drewN | apply below_drew1) | exact HB.out)) hb); clear HB; have HB := n0_; clear n0_; (try clear hb); (try clear hb2); (try clear hk); (try clear hi)) | ((with_reducible refine gate_callee (f := 19) rfl ?_); refine goesL_ (some 26) rfl rfl Tryd.func19 (by kernel_rfl) rfl #[.int .i64 8, .string a0, .slice A1 l1.length c1] rfl (by (try simp only [List.map_toArray, List.map_cons, List.map_nil]); first | done | rfl | (simp only [List.length_drop, List.length_take]; rfl)) ?_; (with_reducible refine (param_Trim.calls kj2 8 a0 _ _ l1 t349 _ ?side1 ?side2 A11.out).mono ?_); (case side1 => repeat (first | exact (Kd.C_below HR1.out HB.out) | (with_reducible refine Kd.C_alloc ?_ _) | (with_reducible refine Kd.C_drewN ?_ _) | (with_reducible refine Kd.C_drew ?_))); (case side2 => exact HC1.out); rintro e w55 ⟨rfl, hb⟩; refine ⟨_, rfl, ?_⟩; have n0_ := Aside0.mk (below_step (by repeat (first | (with_reducible first | exact HB.out | apply below_alloc | apply pw_below_drewN | apply below_drew1) | exact HB.out)) hb); clear HB; have HB := n0_; clear n0_; (try clear hb); (try clear hb2); (try clear hk); (try clear hi)) | ((with_reducible refine gate_callee (f := 19) rfl ?_); refine goesL_ (some 29) rfl rfl Tryd.func19 (by kernel_rfl) rfl #[.int .i64 9, .string a0, .slice A1 l1.length c1] rfl (by (try simp only [List.map_toArray, List.map_cons, List.map_nil]); first | done | rfl | (simp only [List.length_drop, List.length_take]; rfl)) ?_; (with_reducible refine (param_Trim.calls kj2 9 a0 _ _ l1 t350 _ ?side1 ?side2 A12.out).mono ?_); (case side1 => repeat (first | exact (Kd.C_below HR1.out HB.out) | (with_reducible refine Kd.C_alloc ?_ _) | (with_reducible refine Kd.C_drewN ?_ _) | (with_reducible refine Kd.C_drew ?_))); (case side2 => exact HC1.out); rintro e w56 ⟨rfl, hb⟩; refine ⟨_, rfl, ?_⟩; have n0_ := Aside0.mk (below_step (by repeat (first | (with_reducible first | exact HB.out | apply below_alloc | apply pw_below_drewN | apply below_drew1) | exact HB.out)) hb); clear HB; have HB := n0_; clear n0_; (try clear hb); (try clear hb2); (try clear hk); (try clear hi)))
                    go_ret
                    exact ⟨by first | rfl | (simp [errW_none, errW_some] <;> rfl) | (simp only [← hji39, ← hji43]; first | rfl | (simp [errW_none, errW_some] <;> rfl)) | (simp [*, errW_none, errW_some] <;> rfl), by repeat (first | (with_reducible first | exact HB.out | apply below_alloc | apply pw_below_drewN | apply below_drew1) | exact HB.out)⟩
                  ·rw [if_neg c45] at H
                   exact absurd H (by simp)
                 ·rw [if_neg c44] at H
                  exact absurd H (by simp)
                ·rw [if_neg c42] at H
                 have c42b0 : ((a0.extract ((ji39) : Int).toNat a0.size).toList == t349.toList) = false := beq_eq_false_iff_ne.mpr c42
                 have c42b1 : ((a0.extract ((ji39) : Int).toNat a0.size).toList != t349.toList) = true := bne_iff_ne.mpr c42
                 obtain rfl := Option.some.inj H
                 go_wp2_with (first | ((with_reducible refine gate_callee (f := 19) rfl ?_); refine goesL_ (some 20) rfl rfl Tryd.func19 (by kernel_rfl) rfl #[.int .i64 6, .string a0, .slice A1 l1.length c1] rfl (by (try simp only [List.map_toArray, List.map_cons, List.map_nil]); first | done | rfl | (simp only [List.length_drop, List.length_take]; rfl)) ?_; (with_reducible refine (param_Trim.calls kj2 6 a0 _ _ l1 t347 _ ?side1 ?side2 A9.out).mono ?_); (case side1 => repeat (first | exact (Kd.C_below HR1.out HB.out) | (with_reducible refine Kd.C_alloc ?_ _) | (with_reducible refine Kd.C_drewN ?_ _) | (with_reducible refine Kd.C_drew ?_))); (case side2 => exact HC1.out); rintro e w57 ⟨rfl, hb⟩; refine ⟨_, rfl, ?_⟩; have n0_ := Aside0.mk (below_step (by repeat (first | (with_reducible first | exact HB.out | apply below_alloc | apply pw_below_drewN | apply below_drew1) | exact HB.out)) hb); clear HB; have HB := n0_; clear n0_; (try clear hb); (try clear hb2); (try clear hk); (try clear hi)) | ((with_reducible refine gate_callee (f := 19) rfl ?_); refine goesL_ (some 23) rfl rfl Tryd.func19 (by kernel_rfl) rfl #[.int .i64 7, .string a0, .slice A1 l1.length c1] rfl (by (try simp only [List.map_toArray, List.map_cons, List.map_nil]); first | done | rfl | (simp only [List.length_drop, List.length_take]; rfl)) ?_; (with_reducible refine (param_Trim.calls kj2 7 a0 _ _ l1 t348 _ ?side1 ?side2 A10.out).mono ?_); (case side1 => repeat (first | exact (Kd.C_below HR1.out HB.out) | (with_reducible refine Kd.C_alloc ?_ _) | (with_reducible refine Kd.C_drewN ?_ _) | (with_reducible refine Kd.C_drew ?_))); (case side2 => exact HC1.out); rintro e w58 ⟨rfl, hb⟩; refine ⟨_, rfl, ?_⟩; have n0_ := Aside0.mk (below_step (by repeat (first | (with_reducible first | exact HB.out | apply below_alloc | apply pw_below_drewN | apply below_drew1) | exact HB.out)) hb); clear HB; have HB := n0_; clear n0_; (try clear hb); (try clear hb2); (try clear hk); (try clear hi)) | ((with_reducible refine gate_callee (f := 19) rfl ?_); refine goesL_ (some 26) rfl rfl Tryd.func19 (by kernel_rfl) rfl #[.int .i64 8, .string a0, .slice A1 l1.length c1] rfl (by (try simp only [List.map_toArray, List.map_cons, List.map_nil]); first | done | rfl | (simp only [List.length_drop, List.length_take]; rfl)) ?_; (with_reducible refine (param_Trim.calls kj2 8 a0 _ _ l1 t349 _ ?side1 ?side2 A11.out).mono ?_); (case side1 => repeat (first | exact (Kd.C_below HR1.out HB.out) | (with_reducible refine Kd.C_alloc ?_ _) | (with_reducible refine Kd.C_drewN ?_ _) | (with_reducible refine Kd.C_drew ?_))); (case side2 => exact HC1.out); rintro e w59 ⟨rfl, hb⟩; refine ⟨_, rfl, ?_⟩; have n0_ := Aside0.mk (below_step (by repeat (first | (with_reducible first | exact HB.out | apply below_alloc | apply pw_below_drewN | apply below_drew1) | exact HB.out)) hb); clear HB; have HB := n0_; clear n0_; (try clear hb); (try clear hb2); (try clear hk); (try clear hi)) | ((with_reducible refine gate_callee (f := 19) rfl ?_); refine goesL_ (some 29) rfl rfl Tryd.func19 (by kernel_rfl) rfl #[.int .i64 9, .string a0, .slice A1 l1.length c1] rfl (by (try simp only [List.map_toArray, List.map_cons, List.map_nil]); first | done | rfl | (simp only [List.length_drop, List.length_take]; rfl)) ?_; (with_reducible refine (param_Trim.calls kj2 9 a0 _ _ l1 t350 _ ?side1 ?side2 A12.out).mono ?_); (case side1 => repeat (first | exact (Kd.C_below HR1.out HB.out) | (with_reducible refine Kd.C_alloc ?_ _) | (with_reducible refine Kd.C_drewN ?_ _) | (with_reducible refine Kd.C_drew ?_))); (case side2 => exact HC1.out); rintro e w60 ⟨rfl, hb⟩; refine ⟨_, rfl, ?_⟩; have n0_ := Aside0.mk (below_step (by repeat (first | (with_reducible first | exact HB.out | apply below_alloc | apply pw_below_drewN | apply below_drew1) | exact HB.out)) hb); clear HB; have HB := n0_; clear n0_; (try clear hb); (try clear hb2); (try clear hk); (try clear hi)))
                 go_ret
                 exact ⟨by first | rfl | (simp [errW_none, errW_some] <;> rfl) | (simp only [← hji39]; first | rfl | (simp [errW_none, errW_some] <;> rfl)) | (simp [*, errW_none, errW_some] <;> rfl), by repeat (first | (with_reducible first | exact HB.out | apply below_alloc | apply pw_below_drewN | apply below_drew1) | exact HB.out)⟩
               ·rw [if_neg c41] at H
                exact absurd H (by simp)
              ·rw [if_neg c40] at H
               exact absurd H (by simp)
             ·rw [if_neg c38] at H
              have c38b0 : ((a0.extract 0 ((t348.size : Int) : Int).toNat).toList == t348.toList) = false := beq_eq_false_iff_ne.mpr c38
              have c38b1 : ((a0.extract 0 ((t348.size : Int) : Int).toNat).toList != t348.toList) = true := bne_iff_ne.mpr c38
              try simp only [Int.toNat_natCast] at c38b0 c38b1
              obtain rfl := Option.some.inj H
              go_wp2_with (first | ((with_reducible refine gate_callee (f := 19) rfl ?_); refine goesL_ (some 20) rfl rfl Tryd.func19 (by kernel_rfl) rfl #[.int .i64 6, .string a0, .slice A1 l1.length c1] rfl (by (try simp only [List.map_toArray, List.map_cons, List.map_nil]); first | done | rfl | (simp only [List.length_drop, List.length_take]; rfl)) ?_; (with_reducible refine (param_Trim.calls kj2 6 a0 _ _ l1 t347 _ ?side1 ?side2 A9.out).mono ?_); (case side1 => repeat (first | exact (Kd.C_below HR1.out HB.out) | (with_reducible refine Kd.C_alloc ?_ _) | (with_reducible refine Kd.C_drewN ?_ _) | (with_reducible refine Kd.C_drew ?_))); (case side2 => exact HC1.out); rintro e w61 ⟨rfl, hb⟩; refine ⟨_, rfl, ?_⟩; have n0_ := Aside0.mk (below_step (by repeat (first | (with_reducible first | exact HB.out | apply below_alloc | apply pw_below_drewN | apply below_drew1) | exact HB.out)) hb); clear HB; have HB := n0_; clear n0_; (try clear hb); (try clear hb2); (try clear hk); (try clear hi)) | ((with_reducible refine gate_callee (f := 19) rfl ?_); refine goesL_ (some 23) rfl rfl Tryd.func19 (by kernel_rfl) rfl #[.int .i64 7, .string a0, .slice A1 l1.length c1] rfl (by (try simp only [List.map_toArray, List.map_cons, List.map_nil]); first | done | rfl | (simp only [List.length_drop, List.length_take]; rfl)) ?_; (with_reducible refine (param_Trim.calls kj2 7 a0 _ _ l1 t348 _ ?side1 ?side2 A10.out).mono ?_); (case side1 => repeat (first | exact (Kd.C_below HR1.out HB.out) | (with_reducible refine Kd.C_alloc ?_ _) | (with_reducible refine Kd.C_drewN ?_ _) | (with_reducible refine Kd.C_drew ?_))); (case side2 => exact HC1.out); rintro e w62 ⟨rfl, hb⟩; refine ⟨_, rfl, ?_⟩; have n0_ := Aside0.mk (below_step (by repeat (first | (with_reducible first | exact HB.out | apply below_alloc | apply pw_below_drewN | apply below_drew1) | exact HB.out)) hb); clear HB; have HB := n0_; clear n0_; (try clear hb); (try clear hb2); (try clear hk); (try clear hi)) | ((with_reducible refine gate_callee (f := 19) rfl ?_); refine goesL_ (some 26) rfl rfl Tryd.func19 (by kernel_rfl) rfl #[.int .i64 8, .string a0, .slice A1 l1.length c1] rfl (by (try simp only [List.map_toArray, List.map_cons, List.map_nil]); first | done | rfl | (simp only [List.length_drop, List.length_take]; rfl)) ?_; (with_reducible refine (param_Trim.calls kj2 8 a0 _ _ l1 t349 _ ?side1 ?side2 A11.out).mono ?_); (case side1 => repeat (first | exact (Kd.C_below HR1.out HB.out) | (with_reducible refine Kd.C_alloc ?_ _) | (with_reducible refine Kd.C_drewN ?_ _) | (with_reducible refine Kd.C_drew ?_))); (case side2 => exact HC1.out); rintro e w63 ⟨rfl, hb⟩; refine ⟨_, rfl, ?_⟩; have n0_ := Aside0.mk (below_step (by repeat (first | (with_reducible first | exact HB.out | apply below_alloc | apply pw_below_drewN | apply below_drew1) | exact HB.out)) hb); clear HB; have HB := n0_; clear n0_; (try clear hb); (try clear hb2); (try clear hk); (try clear hi)) | ((with_reducible refine gate_callee (f := 19) rfl ?_); refine goesL_ (some 29) rfl rfl Tryd.func19 (by kernel_rfl) rfl #[.int .i64 9, .string a0, .slice A1 l1.length c1] rfl (by (try simp only [List.map_toArray, List.map_cons, List.map_nil]); first | done | rfl | (simp only [List.length_drop, List.length_take]; rfl)) ?_; (with_reducible refine (param_Trim.calls kj2 9 a0 _ _ l1 t350 _ ?side1 ?side2 A12.out).mono ?_); (case side1 => repeat (first | exact (Kd.C_below HR1.out HB.out) | (with_reducible refine Kd.C_alloc ?_ _) | (with_reducible refine Kd.C_drewN ?_ _) | (with_reducible refine Kd.C_drew ?_))); (case side2 => exact HC1.out); rintro e w64 ⟨rfl, hb⟩; refine ⟨_, rfl, ?_⟩; have n0_ := Aside0.mk (below_step (by repeat (first | (with_reducible first | exact HB.out | apply below_alloc | apply pw_below_drewN | apply below_drew1) | exact HB.out)) hb); clear HB; have HB := n0_; clear n0_; (try clear hb); (try clear hb2); (try clear hk); (try clear hi)))
              go_ret
              exact ⟨by first | rfl | (simp [errW_none, errW_some] <;> rfl) | (simp [*, errW_none, errW_some] <;> rfl), by repeat (first | (with_reducible first | exact HB.out | apply below_alloc | apply pw_below_drewN | apply below_drew1) | exact HB.out)⟩
            ·rw [if_neg c37] at H
             exact absurd H (by simp)
           ·rw [if_neg c36] at H
            exact absurd H (by simp)
          ·rw [if_neg c35] at H
           have c35b0 : ((a0.extract 0 ((t347.size : Int) : Int).toNat).toList == t347.toList) = false := beq_eq_false_iff_ne.mpr c35
           have c35b1 : ((a0.extract 0 ((t347.size : Int) : Int).toNat).toList != t347.toList) = true := bne_iff_ne.mpr c35
           try simp only [Int.toNat_natCast] at c35b0 c35b1
           obtain rfl := Option.some.inj H
           go_wp2_with (first | ((with_reducible refine gate_callee (f := 19) rfl ?_); refine goesL_ (some 20) rfl rfl Tryd.func19 (by kernel_rfl) rfl #[.int .i64 6, .string a0, .slice A1 l1.length c1] rfl (by (try simp only [List.map_toArray, List.map_cons, List.map_nil]); first | done | rfl | (simp only [List.length_drop, List.length_take]; rfl)) ?_; (with_reducible refine (param_Trim.calls kj2 6 a0 _ _ l1 t347 _ ?side1 ?side2 A9.out).mono ?_); (case side1 => repeat (first | exact (Kd.C_below HR1.out HB.out) | (with_reducible refine Kd.C_alloc ?_ _) | (with_reducible refine Kd.C_drewN ?_ _) | (with_reducible refine Kd.C_drew ?_))); (case side2 => exact HC1.out); rintro e w65 ⟨rfl, hb⟩; refine ⟨_, rfl, ?_⟩; have n0_ := Aside0.mk (below_step (by repeat (first | (with_reducible first | exact HB.out | apply below_alloc | apply pw_below_drewN | apply below_drew1) | exact HB.out)) hb); clear HB; have HB := n0_; clear n0_; (try clear hb); (try clear hb2); (try clear hk); (try clear hi)) | ((with_reducible refine gate_callee (f := 19) rfl ?_); refine goesL_ (some 23) rfl rfl Tryd.func19 (by kernel_rfl) rfl #[.int .i64 7, .string a0, .slice A1 l1.length c1] rfl (by (try simp only [List.map_toArray, List.map_cons, List.map_nil]); first | done | rfl | (simp only [List.length_drop, List.length_take]; rfl)) ?_; (with_reducible refine (param_Trim.calls kj2 7 a0 _ _ l1 t348 _ ?side1 ?side2 A10.out).mono ?_); (case side1 => repeat (first | exact (Kd.C_below HR1.out HB.out) | (with_reducible refine Kd.C_alloc ?_ _) | (with_reducible refine Kd.C_drewN ?_ _) | (with_reducible refine Kd.C_drew ?_))); (case side2 => exact HC1.out); rintro e w66 ⟨rfl, hb⟩; refine ⟨_, rfl, ?_⟩; have n0_ := Aside0.mk (below_step (by repeat (first | (with_reducible first | exact HB.out | apply below_alloc | apply pw_below_drewN | apply below_drew1) | exact HB.out)) hb); clear HB; have HB := n0_; clear n0_; (try clear hb); (try clear hb2); (try clear hk); (try clear hi)) | ((with_reducible refine gate_callee (f := 19) rfl ?_); refine goesL_ (some 26) rfl rfl Tryd.func19 (by kernel_rfl) rfl #[.int .i64 8, .string a0, .slice A1 l1.length c1] rfl (by (try simp only [List.map_toArray, List.map_cons, List.map_nil]); first | done | rfl | (simp only [List.length_drop, List.length_take]; rfl)) ?_; (with_reducible refine (param_Trim.calls kj2 8 a0 _ _ l1 t349 _ ?side1 ?side2 A11.out).mono ?_); (case side1 => repeat (first | exact (Kd.C_below HR1.out HB.out) | (with_reducible refine Kd.C_alloc ?_ _) | (with_reducible refine Kd.C_drewN ?_ _) | (with_reducible refine Kd.C_drew ?_))); (case side2 => exact HC1.out); rintro e w67 ⟨rfl, hb⟩; refine ⟨_, rfl, ?_⟩; have n0_ := Aside0.mk (below_step (by repeat (first | (with_reducible first | exact HB.out | apply below_alloc | apply pw_below_drewN | apply below_drew1) | exact HB.out)) hb); clear HB; have HB := n0_; clear n0_; (try clear hb); (try clear hb2); (try clear hk); (try clear hi)) | ((with_reducible refine gate_callee (f := 19) rfl ?_); refine goesL_ (some 29) rfl rfl Tryd.func19 (by kernel_rfl) rfl #[.int .i64 9, .string a0, .slice A1 l1.length c1] rfl (by (try simp only [List.map_toArray, List.map_cons, List.map_nil]); first | done | rfl | (simp only [List.length_drop, List.length_take]; rfl)) ?_; (with_reducible refine (param_Trim.calls kj2 9 a0 _ _ l1 t350 _ ?side1 ?side2 A12.out).mono ?_); (case side1 => repeat (first | exact (Kd.C_below HR1.out HB.out) | (with_reducible refine Kd.C_alloc ?_ _) | (with_reducible refine Kd.C_drewN ?_ _) | (with_reducible refine Kd.C_drew ?_))); (case side2 => exact HC1.out); rintro e w68 ⟨rfl, hb⟩; refine ⟨_, rfl, ?_⟩; have n0_ := Aside0.mk (below_step (by repeat (first | (with_reducible first | exact HB.out | apply below_alloc | apply pw_below_drewN | apply below_drew1) | exact HB.out)) hb); clear HB; have HB := n0_; clear n0_; (try clear hb); (try clear hb2); (try clear hk); (try clear hi)))
           go_ret
           exact ⟨by first | rfl | (simp [errW_none, errW_some] <;> rfl) | (simp [*, errW_none, errW_some] <;> rfl), by repeat (first | (with_reducible first | exact HB.out | apply below_alloc | apply pw_below_drewN | apply below_drew1) | exact HB.out)⟩
         ·rw [if_neg c34] at H
          exact absurd H (by simp)
        ·rw [if_neg c33] at H
         exact absurd H (by simp)
end Go.Proofs.YthkbcomkbioepaaDoor.F
set_option linter.unusedVariables false
set_option linter.unusedSimpArgs false
namespace Go.Proofs.YthkbcomkbioepaaDoor.Pure
open Go.RowKit Go.Proofs.YthkbcomkbioepaaDoor.F Go.Proofs.YthkbcomkbioepaaDoorW.PrintWords
theorem item_drop (xs : List S_PatItem) (i : Nat) (h : i < xs.length) : xs.drop i = rd_PatItem xs (i : Int) :: xs.drop (i + 1) := getD_drop z_PatItem xs i h
theorem span_drop (xs : List S_Span) (i : Nat) (h : i < xs.length) : xs.drop i = rd_Span xs (i : Int) :: xs.drop (i + 1) := getD_drop z_Span xs i h
theorem asc_total (xs : List S_Span) (hl : xs.length < 1000) : ∀ (k i : Nat), i ≤ xs.length → xs.length - i < k → ∃ b, jobshellref04_ascending.l0 k xs i = some b := by
  intro k
  induction k with
  | zero => intro i _ h; omega
  | succ k ih =>
    intro i hi hk
    rw [jobshellref04_ascending.l0]
    by_cases h : i < xs.length
    · rw [if_pos (by omega), if_pos (by omega), wrap_succ (by omega)]
      obtain ⟨b, hb⟩ := ih (i + 1) (by omega) (by omega)
      rw [hb]
      split
      · exact ⟨_, rfl⟩
      split
      · rw [wrap_id (by omega) (by omega), if_pos (by omega), if_pos (by omega)]
        split
        · exact ⟨_, rfl⟩
        · exact ⟨_, rfl⟩
      · exact ⟨_, rfl⟩
    · rw [if_neg (by omega)]; exact ⟨_, rfl⟩
def asc (xs : List S_Span) : Bool := jobshellref04_ascending.l0 (xs.length + 1) xs 0 == some true
theorem asc_eq (xs : List S_Span) (hl : xs.length < 1000) {k : Nat} (hk : xs.length < k) : jobshellref04_ascending.l0 k xs 0 = some (asc xs) := by
  obtain ⟨b, hb⟩ := asc_total xs hl (xs.length + 1) 0 (by omega) (by omega)
  have hb' : jobshellref04_ascending.l0 (xs.length + 1) xs 0 = some b := hb
  have : asc xs = b := by unfold asc; rw [hb']; cases b <;> rfl
  rw [this]
  exact at_rounds (g := fun k => jobshellref04_ascending.l0 k xs 0) (fun k => (jobshellref04_ascending.mono_l k) _ _) hk hb'
theorem valid_asc (xs : List S_Span) (hl : xs.length < 1000) (a : Int) (b : ByteArray) (c : Bool) : ∀ (k i : Nat), i ≤ xs.length → pattern_valid.l0 k xs (xs.length : Int) i a b c xs = jobshellref04_ascending.l0 k xs i := by
  intro k
  induction k with
  | zero => intro i _; rfl
  | succ k ih =>
    intro i hi
    rw [jobshellref04_ascending.l0, pattern_valid.l0]
    by_cases h : i < xs.length
    · rw [if_pos (show (i : Int) < (xs.length : Int) by omega), if_pos (show (i : Int) < (xs.length : Int) by omega), if_pos (show (0 : Int) ≤ i by omega), if_pos (show (0 : Int) ≤ i by omega), if_pos (show (i : Int) < (xs.length : Int) by omega), wrap_succ (by omega), ih (i + 1) (by omega)]
    · rw [if_neg (by omega), if_neg (by omega)]
def vItem (x : S_PatItem) : Bool :=
  if x.f0 = 4 then x.f1.size == 0 && asc x.f3
  else if x.f2 = true then false else if 0 < x.f3.length then false
  else if x.f0 = 1 then x.f1.size == 1 else (x.f0 == 2 || x.f0 == 3) && x.f1.size == 0
theorem size_ne (s : ByteArray) : (s.toList != ([] : List UInt8)) = !(s.size == 0) := by
  by_cases h : s.size = 0
  · rw [(nil_iff s).2 h, h]; rfl
  · have : s.toList ≠ [] := fun e => h ((nil_iff s).1 e)
    rw [bne_iff_ne.2 this, beq_eq_false_iff_ne.2 h]; rfl
theorem valid_item (x : S_PatItem) (hl : x.f3.length < 1000) {k : Nat} (hk : 1100 ≤ k) : pattern_valid.f k x.f0 x.f1 x.f2 x.f3 = some (vItem x) := by
  obtain ⟨m, rfl⟩ : ∃ m, k = m + 2 := ⟨k - 2, by omega⟩
  obtain ⟨a, b, c, d⟩ := x
  unfold pattern_valid.f vItem
  simp only at hl ⊢
  have hs : ((b.size : Int) == 1) = (b.size == 1) := by
    by_cases h : b.size = 1
    · rw [h]; rfl
    · rw [beq_eq_false_iff_ne.2 h, beq_eq_false_iff_ne.2 (by omega)]
  have hva : pattern_valid.l0 m d (d.length : Int) 0 4 b c d = some (asc d) := by
    have := valid_asc d hl 4 b c m 0 (by omega)
    rw [show ((0 : Nat) : Int) = 0 from rfl] at this
    rw [this, asc_eq d hl (by omega)]
  by_cases h4 : a = 4
  · subst h4
    by_cases h0 : b.size = 0
    · simp [size_ne, h0, pattern_valid.j0, pattern_valid.j1, hva]
    · simp [size_ne, h0, pattern_valid.j0]
  · clear hva
    cases c with
    | true => simp [h4, pattern_valid.j0]
    | false =>
      by_cases h3 : 0 < d.length
      · simp [h4, h3, pattern_valid.j0]
      · by_cases h1 : a = 1
        · subst h1; simp [h3, pattern_valid.j0, hs]
        · by_cases h0 : b.size = 0
          · by_cases h2 : a = 2
            · subst h2; simp [h3, h0, size_ne, pattern_valid.j0, pattern_valid.j1]
            · by_cases h5 : a = 3
              · subst h5; simp [h3, h0, size_ne, pattern_valid.j0, pattern_valid.j1]
              · simp [h1, h2, h3, h4, h5, h0, size_ne, pattern_valid.j0, pattern_valid.j1]
          · simp [h1, h3, h4, h0, size_ne, pattern_valid.j0]
theorem ref_valid_step (x : S_PatItem) (hl : x.f3.length < 1000) {k : Nat} (hk : 1100 ≤ k) (A : Option Bool) :
    (if (x.f0) = 1 then (if (x.f0) < 1 then (some false) else (if (x.f0) > 4 then (some false) else (if ((x.f1).size : Int) = 1 then (if (x.f0) = 4 then ((jobshellref04_ascending.f k (x.f3)).bind fun t282 => (if t282 = true then A else (some false))) else (if x.f2 = true then (some false) else (if ((x.f3).length : Int) > 0 then (some false) else ((jobshellref04_ascending.f k (x.f3)).bind fun t283 => (if t283 = true then A else (some false)))))) else (some false)))) else (if (x.f0) < 1 then (some false) else (if (x.f0) > 4 then (some false) else (if ((x.f1).size : Int) = 0 then (if (x.f0) = 4 then ((jobshellref04_ascending.f k (x.f3)).bind fun t284 => (if t284 = true then A else (some false))) else (if x.f2 = true then (some false) else (if ((x.f3).length : Int) > 0 then (some false) else ((jobshellref04_ascending.f k (x.f3)).bind fun t285 => (if t285 = true then A else (some false)))))) else (some false)))))
    = if vItem x = true then A else some false := by
  obtain ⟨a, b, c, d⟩ := x
  simp only at hl ⊢
  have hasc : jobshellref04_ascending.f k d = some (asc d) := asc_eq d hl (by omega)
  have hnil : ¬ 0 < d.length → asc d = true := by
    intro h
    have : d = [] := List.length_eq_zero_iff.1 (by omega)
    subst this; rfl
  rw [hasc]
  unfold vItem
  simp only [Option.bind_some]
  have hn3 : ¬ 0 < d.length → d.length = 0 := by omega
  by_cases h1 : a = 1
  · subst h1
    by_cases hs : b.size = 1
    · cases c with
      | true => simp [hs]
      | false =>
        by_cases h3 : 0 < d.length
        · simp [hs, h3]
        · simp [hs, h3, hnil h3]
    · have hs' : ¬ (b.size : Int) = 1 := by omega
      simp [hs, hs']
  · by_cases hlt : a < 1
    · simp [hlt, show ¬ a = 4 by omega, h1, show ¬ a = 2 by omega, show ¬ a = 3 by omega]
    · by_cases hgt : a > 4
      · simp [hlt, hgt, show ¬ a = 4 by omega, h1, show ¬ a = 2 by omega, show ¬ a = 3 by omega, show 4 < a from hgt]
      · by_cases hs : b.size = 0
        · by_cases h4 : a = 4
          · subst h4; simp [hs]
          · have h23 : a = 2 ∨ a = 3 := by omega
            cases c with
            | true => simp [h1, hlt, show ¬ 4 < a from hgt, hs, h4]
            | false =>
              by_cases h3 : 0 < d.length
              · simp [h1, hlt, show ¬ 4 < a from hgt, hs, h4, h3]
              · simp [h1, hlt, show ¬ 4 < a from hgt, hs, h4, h3, hnil h3, h23]
        · have hs' : ¬ (b.size : Int) = 0 := by omega
          by_cases h4 : a = 4
          · subst h4; simp [hs, hs']
          · simp [h1, hlt, show ¬ 4 < a from hgt, hs, hs', h4]
theorem ref_valid_go (p : List S_PatItem) (hp : p.length < 1000) (hx : ∀ x ∈ p, x.f3.length < 1000) : ∀ (k i : Nat), i ≤ p.length → p.length - i + 1100 < k → jobshellref04_Valid.l0 k p i = some ((p.drop i).all vItem) := by
  intro k
  induction k with
  | zero => intro i _ h; omega
  | succ k ih =>
    intro i hi hk
    rw [jobshellref04_Valid.l0]
    by_cases h : i < p.length
    · have hd := item_drop p i h
      have hm : rd_PatItem p (i : Int) ∈ p := List.mem_of_mem_drop (hd ▸ List.mem_cons_self)
      rw [if_pos (by omega), if_pos (by omega), wrap_succ (by omega), ref_valid_step _ (hx _ hm) (by omega), ih (i + 1) (by omega) (by omega), hd]
      simp only [List.all_cons]
      cases vItem (rd_PatItem p (i : Int)) <;> rfl
    · rw [if_neg (by omega), List.drop_eq_nil_of_le (by omega)]; rfl
theorem all_valid_go (p : List S_PatItem) (hp : p.length < 1000) (hx : ∀ x ∈ p, x.f3.length < 1000) : ∀ (k i : Nat), i ≤ p.length → p.length - i + 1100 < k → pattern_allValid.l0 k p (p.length : Int) i = some ((p.drop i).all vItem) := by
  intro k
  induction k with
  | zero => intro i _ h; omega
  | succ k ih =>
    intro i hi hk
    rw [pattern_allValid.l0]
    by_cases h : i < p.length
    · have hd := item_drop p i h
      have hm : rd_PatItem p (i : Int) ∈ p := List.mem_of_mem_drop (hd ▸ List.mem_cons_self)
      rw [if_pos (by omega), if_pos (by omega), if_pos (by omega), wrap_succ (by omega), valid_item _ (hx _ hm) (by omega), Option.bind_some, ih (i + 1) (by omega) (by omega), hd]
      simp only [List.all_cons]
      cases vItem (rd_PatItem p (i : Int)) <;> rfl
    · rw [if_neg (by omega), List.drop_eq_nil_of_le (by omega)]; rfl
theorem few_go (p : List S_PatItem) : ∀ (k i : Nat), i ≤ 13 → i ≤ p.length → 2 * (13 - i) + 2 ≤ k → ∃ b, jobshellref04_Few.l0 k p 12 i = some b ∧ (b = true → p.length ≤ 12 ∧ ∀ x ∈ p.drop i, x.f3.length ≤ 40) := by
  intro k
  induction k using Nat.strongRecOn with
  | _ k ih =>
    intro i h13 hi hk
    obtain ⟨m, rfl⟩ : ∃ m, k = m + 2 := ⟨k - 2, by omega⟩
    rw [jobshellref04_Few.l0]
    have stop : ∃ b, (some (decide ((p.length : Int) ≤ 12)) : Option Bool) = some b ∧ (b = true → p.length ≤ 12) :=
      ⟨_, rfl, fun h => by have := of_decide_eq_true h; omega⟩
    by_cases h : i < p.length
    · rw [if_pos (by omega), jobshellref04_Few.j1]
      by_cases h12 : i ≤ 12
      · rw [if_pos (decide_eq_true (by omega)), if_pos (by omega), if_pos (by omega), wrap_succ (by omega)]
        have hd := item_drop p i h
        obtain ⟨b, hb, hh⟩ := ih m (by omega) (i + 1) (by omega) (by omega) (by omega)
        split
        · exact ⟨_, rfl, fun h => by cases h⟩
        split
        · exact ⟨_, rfl, fun h => by cases h⟩
        · refine ⟨b, hb, fun e => ⟨(hh e).1, fun x hx => ?_⟩⟩
          rw [hd] at hx
          rcases List.mem_cons.1 hx with rfl | hx
          · omega
          · exact (hh e).2 x hx
      · rw [if_neg (by simp; omega)]
        obtain ⟨b, hb, hh⟩ := stop
        refine ⟨b, hb, fun e => ?_⟩
        have := hh e; omega
    · rw [if_neg (by omega), jobshellref04_Few.j1, if_neg (by simp)]
      obtain ⟨b, hb, hh⟩ := stop
      refine ⟨b, hb, fun e => ⟨hh e, fun x hx => ?_⟩⟩
      rw [List.drop_eq_nil_of_le (by omega)] at hx; cases hx
theorem few_eq (p : List S_PatItem) {k : Nat} (hk : 100 ≤ k) : ∃ b, jobshellref04_Few.f k p 12 = some b ∧ (b = true → p.length ≤ 12 ∧ ∀ x ∈ p, x.f3.length ≤ 40) := by
  obtain ⟨b, h1, h2⟩ := few_go p k 0 (by omega) (by omega) (by omega)
  exact ⟨b, h1, h2⟩
def inB (l : List S_Span) (c : Int) : Bool := l.any fun s => decide (s.f0 ≤ c) && decide (c ≤ s.f1)
def oneB (x : S_PatItem) (c : Int) : Bool := if x.f0 = 1 then bt x.f1 0 == c else if x.f0 = 2 then true else (inB x.f3 c != x.f2)
theorem in_go (l : List S_Span) (hl : l.length < 1000) (c : Int) : ∀ (k i : Nat), i ≤ l.length → l.length - i < k → jobshellref04_in.l0 k l c i = some (inB (l.drop i) c) := by
  intro k
  induction k with
  | zero => intro i _ h; omega
  | succ k ih =>
    intro i hi hk
    rw [jobshellref04_in.l0]
    by_cases h : i < l.length
    · rw [if_pos (by omega), if_pos (by omega), wrap_succ (by omega), ih (i + 1) (by omega) (by omega), span_drop l i h]
      simp only [inB, List.any_cons]
      by_cases h1 : (rd_Span l (i : Int)).f0 ≤ c
      · rw [if_pos h1, decide_eq_true h1]
        by_cases h2 : c ≤ (rd_Span l (i : Int)).f1
        · rw [if_pos h2, decide_eq_true h2]; rfl
        · rw [if_neg h2, decide_eq_false h2]; rfl
      · rw [if_neg h1, decide_eq_false h1]; rfl
    · rw [if_neg (by omega), List.drop_eq_nil_of_le (by omega)]; rfl
theorem one_go (l : List S_Span) (hl : l.length < 1000) (c : Int) (a : Int) (b : ByteArray) (n : Bool) (l2 : List S_Span) : ∀ (k i : Nat), i ≤ l.length → l.length - i < k → pattern_one.l0 k c l (l.length : Int) i a b n l2 = some (inB (l.drop i) c != n) := by
  intro k
  induction k with
  | zero => intro i _ h; omega
  | succ k ih =>
    intro i hi hk
    rw [pattern_one.l0]
    by_cases h : i < l.length
    · rw [if_pos (by omega), if_pos (by omega), if_pos (by omega), wrap_succ (by omega), ih (i + 1) (by omega) (by omega), span_drop l i h]
      simp only [inB, List.any_cons]
      by_cases h1 : (rd_Span l (i : Int)).f0 ≤ c
      · rw [if_pos (show c ≥ _ from h1), decide_eq_true h1]
        by_cases h2 : c ≤ (rd_Span l (i : Int)).f1
        · rw [if_pos h2, decide_eq_true h2]; cases n <;> rfl
        · rw [if_neg h2, decide_eq_false h2]; rfl
      · rw [if_neg (show ¬ c ≥ _ from h1), decide_eq_false h1]; rfl
    · rw [if_neg (by omega), List.drop_eq_nil_of_le (by omega)]; cases n <;> rfl
theorem item_one {x : S_PatItem} (hv : vItem x = true) : x.f0 = 1 → 0 < x.f1.size := by
  intro h
  unfold vItem at hv
  rw [if_neg (by omega)] at hv
  split at hv
  · cases hv
  split at hv
  · cases hv
  have := eq_of_beq hv
  omega
theorem one_eq (x : S_PatItem) (hl : x.f3.length < 1000) (hv : vItem x = true) (c : Int) {k : Nat} (hk : 1000 ≤ k) : pattern_one.f k x.f0 x.f1 x.f2 x.f3 c = some (oneB x c) := by
  unfold pattern_one.f oneB
  by_cases h1 : x.f0 = 1
  · have := item_one hv h1
    rw [if_pos h1, if_pos h1, if_pos (by omega)]
  · rw [if_neg h1, if_neg h1]
    by_cases h2 : x.f0 = 2
    · rw [if_pos h2, if_pos h2]
    · rw [if_neg h2, if_neg h2]
      exact one_go x.f3 hl c _ _ _ _ k 0 (by omega) (by omega)
theorem takes_eq (x : S_PatItem) (hl : x.f3.length < 1000) (hv : vItem x = true) (h3 : x.f0 ≠ 3) (c : Int) {k : Nat} (hk : 1000 ≤ k) : jobshellref04_takes.f k x.f0 x.f1 x.f2 x.f3 c = some (oneB x c) := by
  unfold jobshellref04_takes.f oneB
  by_cases h1 : x.f0 = 1
  · have := item_one hv h1
    rw [if_pos h1, if_pos h1, if_pos (by omega)]
  · rw [if_neg h1, if_neg h1]
    by_cases h4 : x.f0 = 4
    · rw [if_pos h4, if_neg (by omega)]
      have := in_go x.f3 hl c k 0 (by omega) (by omega)
      rw [show ((0 : Nat) : Int) = 0 from rfl, List.drop_zero] at this
      unfold jobshellref04_in.f
      rw [this]; rfl
    · rw [if_neg h4]
      have h2 : x.f0 = 2 := by
        unfold vItem at hv
        rw [if_neg h4] at hv
        split at hv
        · cases hv
        split at hv
        · cases hv
        simp at hv
        omega
      rw [if_pos h2]
def piece (x : S_PatItem) (a : List UInt8) : Prop := x.f0 = 3 ∨ ∃ c : UInt8, a = [c] ∧ oneB x (c.toNat : Int) = true
def Mt : List S_PatItem → List UInt8 → Prop
  | [], s => s = []
  | x :: p, s => ∃ a b, s = a ++ b ∧ piece x a ∧ Mt p b
theorem Mt_star {x : S_PatItem} (h : x.f0 = 3) (p : List S_PatItem) (s : List UInt8) : Mt (x :: p) s ↔ ∃ n, n ≤ s.length ∧ Mt p (s.drop n) := by
  constructor
  · rintro ⟨a, b, rfl, _, hb⟩
    exact ⟨a.length, by simp, by simpa using hb⟩
  · rintro ⟨n, hn, hb⟩
    exact ⟨s.take n, s.drop n, (List.take_append_drop n s).symm, .inl h, hb⟩
theorem Mt_one {x : S_PatItem} (h : x.f0 ≠ 3) (p : List S_PatItem) (c : UInt8) (s : List UInt8) : Mt (x :: p) (c :: s) ↔ oneB x (c.toNat : Int) = true ∧ Mt p s := by
  constructor
  · rintro ⟨a, b, e, hp, hb⟩
    rcases hp with hp | ⟨d, rfl, hd⟩
    · exact absurd hp h
    · simp at e; obtain ⟨rfl, rfl⟩ := e; exact ⟨hd, hb⟩
  · rintro ⟨h1, h2⟩
    exact ⟨[c], s, rfl, .inr ⟨c, rfl, h1⟩, h2⟩
theorem Mt_nil {x : S_PatItem} (h : x.f0 ≠ 3) (p : List S_PatItem) : ¬ Mt (x :: p) [] := by
  rintro ⟨a, b, e, hp, hb⟩
  rcases hp with hp | ⟨d, rfl, hd⟩
  · exact absurd hp h
  · simp at e
theorem Mt_append (q : List S_PatItem) : ∀ (p : List S_PatItem) (s : List UInt8), Mt (p ++ q) s ↔ ∃ a b, s = a ++ b ∧ Mt p a ∧ Mt q b
  | [], s => by
    constructor
    · intro h; exact ⟨[], s, rfl, rfl, h⟩
    · rintro ⟨a, b, rfl, ha, hb⟩
      have ha' : a = [] := ha
      subst ha'; exact hb
  | x :: p, s => by
    constructor
    · rintro ⟨a, b, rfl, hp, hb⟩
      obtain ⟨c, d, rfl, hc, hd⟩ := (Mt_append q p b).1 hb
      exact ⟨a ++ c, d, by simp, ⟨a, c, rfl, hp, hc⟩, hd⟩
    · rintro ⟨a, b, rfl, ⟨c, d, rfl, hp, hd⟩, hb⟩
      exact ⟨c, d ++ b, by simp, hp, (Mt_append q p _).2 ⟨d, b, rfl, hd, hb⟩⟩
theorem Mt_length : ∀ (p : List S_PatItem) (s : List UInt8), (∀ x ∈ p, x.f0 ≠ 3) → Mt p s → s.length = p.length
  | [], s, _, h => by have : s = [] := h; subst this; rfl
  | x :: p, s, hx, h => by
    obtain ⟨a, b, rfl, hp, hb⟩ := h
    rcases hp with hp | ⟨d, rfl, hd⟩
    · exact absurd hp (hx x List.mem_cons_self)
    · have := Mt_length p b (fun y hy => hx y (List.mem_cons_of_mem _ hy)) hb
      simp; omega
def Later (p : List S_PatItem) (s : List UInt8) (i k : Nat) (st : Int) (f : Nat) : Prop :=
  Mt (p.drop i) (s.drop k) ∨ (0 ≤ st ∧ ∃ g, f < g ∧ g ≤ s.length ∧ Mt (p.drop (st.toNat + 1)) (s.drop g))
structure Search (p : List S_PatItem) (s : ByteArray) (i k : Nat) (st : Int) (f : Nat) : Prop where
  hi : i ≤ p.length
  hk : k ≤ s.size
  hf : f ≤ k
  hst : st = -1 ∨ (0 ≤ st ∧ st < i ∧ k = f + (i - (st.toNat + 1)) ∧ (∀ j, st.toNat < j → j < i → (rd_PatItem p (j : Int)).f0 ≠ 3))
theorem between (p : List S_PatItem) (a b : Nat) (hab : a ≤ b) (hb : b ≤ p.length) : ∃ q, p.drop a = q ++ p.drop b ∧ q.length = b - a ∧ ∀ x ∈ q, ∃ j, a ≤ j ∧ j < b ∧ x = rd_PatItem p (j : Int) := by
  refine ⟨(p.drop a).take (b - a), ?_, by simp; omega, fun x hx => ?_⟩
  · have := List.take_append_drop (b - a) (p.drop a)
    rw [List.drop_drop, show a + (b - a) = b by omega] at this
    exact this.symm
  · obtain ⟨n, hn, rfl⟩ := List.getElem_of_mem hx
    simp at hn
    refine ⟨a + n, by omega, by omega, ?_⟩
    have h1 := item_drop p (a + n) (by omega)
    simp only [List.getElem_take, List.getElem_drop]
    rw [List.drop_eq_getElem_cons (by omega)] at h1
    exact (List.cons.inj h1).1
set_option maxHeartbeats 1000000 in
theorem search_go (p : List S_PatItem) (s : ByteArray) (hp : p.length < 1000) (hs : s.size < 100000) (hx : ∀ x ∈ p, x.f3.length < 1000 ∧ vItem x = true) :
    ∀ (μ k i j f : Nat) (st : Int), Search p s i j st f → (s.size - f) * (p.length + 1) + (p.length - i) = μ → 4 * μ + 2000 ≤ k →
      ∃ b, pattern_matches.l0 k p s i j st f = some b ∧ (b = true ↔ Later p s.data.toList i j st f) := by
  intro μ
  induction μ using Nat.strongRecOn with
  | _ μ ih =>
  intro k i j f st S hμ hk
  obtain ⟨m, rfl⟩ : ∃ m, k = m + 4 := ⟨k - 4, by omega⟩
  obtain ⟨hi, hj, hf, hst⟩ := S
  have hsz : s.data.toList.length = s.size := size_data s
  have hs63 : (s.size : Int) < 9223372036854775807 := by omega
  have fail : ∀ q, m ≤ q → ¬ Mt (p.drop i) (s.data.toList.drop j) → ∃ b, pattern_matches.j3 (q + 1) p s st f false = some b ∧ (b = true ↔ Later p s.data.toList i j st f) := by
    intro q hq hno
    rw [pattern_matches.j3, if_neg (by decide)]
    rcases hst with h | ⟨h0, h1, h2, h3⟩
    · subst h
      rw [if_neg (by omega)]
      exact ⟨false, rfl, ⟨(fun h => by cases h), fun h => by rcases h with h | ⟨h, _⟩; exact absurd h hno; omega⟩⟩
    · rw [if_pos (by omega)]
      obtain ⟨n, rfl⟩ : ∃ n : Nat, st = n := ⟨st.toNat, by omega⟩
      rw [Int.toNat_natCast] at h2 h3
      by_cases hlt : f < s.size
      · rw [if_pos (by omega), wrap_succ (by omega), wrap_succ (by omega)]
        have hmul : (s.size - f) * (p.length + 1) = (s.size - (f + 1)) * (p.length + 1) + (p.length + 1) := by
          rw [show s.size - f = (s.size - (f + 1)) + 1 by omega, Nat.succ_mul]
        obtain ⟨b, hb, hh⟩ := ih ((s.size - (f + 1)) * (p.length + 1) + (p.length - (n + 1))) (by omega) q (n + 1) (f + 1) (f + 1) (n : Int)
          ⟨by omega, by omega, by omega, .inr ⟨by omega, by omega, by rw [Int.toNat_natCast]; omega, fun j' a b => by rw [Int.toNat_natCast] at a; omega⟩⟩ rfl (by omega)
        refine ⟨b, hb, hh.trans ?_⟩
        unfold Later
        rw [Int.toNat_natCast]
        constructor
        · rintro (h | ⟨_, g, h5, h6, h7⟩)
          · exact .inr ⟨by omega, f + 1, by omega, by omega, h⟩
          · exact .inr ⟨by omega, g, by omega, h6, h7⟩
        · rintro (h | ⟨_, g, h5, h6, h7⟩)
          · exact absurd h hno
          · rcases Nat.eq_or_lt_of_le h5 with h8 | h8
            · subst h8; exact .inl h7
            · exact .inr ⟨by omega, g, h8, h6, h7⟩
      · rw [if_neg (by omega)]
        refine ⟨false, rfl, ⟨(fun h => by cases h), fun h => ?_⟩⟩
        rcases h with h | ⟨_, g, h5, h6, _⟩
        · exact absurd h hno
        · omega
  have fail2 : ∀ q, m ≤ q → (i < p.length ∨ j < s.size) → ¬ Mt (p.drop i) (s.data.toList.drop j) → ∃ b, pattern_matches.j2 (q + 2) p s i j st f false = some b ∧ (b = true ↔ Later p s.data.toList i j st f) := by
    intro q hq hor hno
    rw [pattern_matches.j2, if_neg (by decide)]
    by_cases hje : j = s.size
    · rw [if_pos (by omega), beq_eq_false_iff_ne.2 (show (i : Int) ≠ (p.length : Int) by omega)]
      exact fail q hq hno
    · rw [if_neg (by omega)]
      exact fail q hq hno
  rw [pattern_matches.l0]
  by_cases hip : i < p.length
  · have hd := item_drop p i hip
    have hm : rd_PatItem p (i : Int) ∈ p := List.mem_of_mem_drop (hd ▸ List.mem_cons_self)
    obtain ⟨hx1, hx2⟩ := hx _ hm
    rw [if_pos (by omega), if_pos (by omega), pattern_matches.j1]
    by_cases h3 : (rd_PatItem p (i : Int)).f0 = 3
    · rw [h3, if_pos (by decide), wrap_succ (by omega)]
      have hmul : (s.size - j) * (p.length + 1) ≤ (s.size - f) * (p.length + 1) := Nat.mul_le_mul_right _ (by omega)
      obtain ⟨b, hb, hh⟩ := ih ((s.size - j) * (p.length + 1) + (p.length - (i + 1))) (by omega) (m + 2) (i + 1) j j (i : Int)
        ⟨by omega, by omega, by omega, .inr ⟨by omega, by omega, by rw [Int.toNat_natCast]; omega, fun j' a b => by rw [Int.toNat_natCast] at a; omega⟩⟩ rfl (by omega)
      refine ⟨b, hb, hh.trans ?_⟩
      unfold Later
      rw [Int.toNat_natCast]
      have key : (Mt (p.drop (i + 1)) (s.data.toList.drop j) ∨ ∃ g, j < g ∧ g ≤ s.data.toList.length ∧ Mt (p.drop (i + 1)) (s.data.toList.drop g)) ↔ Mt (p.drop i) (s.data.toList.drop j) := by
        rw [hd, Mt_star h3]
        constructor
        · rintro (h | ⟨g, h5, h6, h7⟩)
          · exact ⟨0, by omega, by rw [List.drop_drop]; exact h⟩
          · exact ⟨g - j, by rw [List.length_drop]; omega, by rw [List.drop_drop, show j + (g - j) = g by omega]; exact h7⟩
        · rintro ⟨n, h5, h6⟩
          rw [List.length_drop] at h5
          rw [List.drop_drop] at h6
          rcases Nat.eq_zero_or_pos n with h0 | h0
          · subst h0; exact .inl h6
          · exact .inr ⟨j + n, by omega, by omega, h6⟩
      constructor
      · rintro (h | ⟨_, g, h5, h6, h7⟩)
        · exact .inl (key.1 (.inl h))
        · exact .inl (key.1 (.inr ⟨g, h5, h6, h7⟩))
      · rintro (h | ⟨h0, g, h5, h6, h7⟩)
        · rcases key.2 h with h | ⟨g, h5, h6, h7⟩
          · exact .inl h
          · exact .inr ⟨by omega, g, h5, h6, h7⟩
        · rcases hst with h | ⟨_, h1, h2, h4⟩
          · omega
          · obtain ⟨q, e1, e2, e3⟩ := between p (st.toNat + 1) i (by omega) (by omega)
            rw [e1, Mt_append] at h7
            obtain ⟨a, b, f1, f2, f3⟩ := h7
            have hlen := Mt_length q a (fun x hx' => by obtain ⟨n, g1, g2, rfl⟩ := e3 x hx'; exact h4 n (by omega) g2) f2
            have hb2 : b = s.data.toList.drop (g + a.length) := by
              rw [← List.drop_drop, f1, List.drop_left]
            rw [hb2, hd, Mt_star h3] at f3
            obtain ⟨n, g1, g2⟩ := f3
            rw [List.length_drop] at g1
            rw [List.drop_drop] at g2
            have hla : a.length ≤ s.data.toList.length - g := by
              have := congrArg List.length f1
              rw [List.length_drop, List.length_append] at this
              omega
            exact (key.2 (by rw [hd, Mt_star h3]; exact ⟨g + a.length + n - j, by rw [List.length_drop]; omega, by rw [List.drop_drop, show j + (g + a.length + n - j) = g + a.length + n by omega]; exact g2⟩)).imp id (fun h => ⟨by omega, h⟩)
    · rw [beq_eq_false_iff_ne.2 h3, if_neg (by decide)]
      by_cases hjs : j < s.size
      · obtain ⟨c, hc, hbt⟩ := bt_drop s j hjs
        rw [if_pos (by omega), if_pos (by omega), if_pos (by omega), if_pos (by omega), hbt, one_eq _ hx1 hx2 _ (by omega), Option.bind_some]
        cases ho : oneB (rd_PatItem p (i : Int)) (c.toNat : Int) with
        | true =>
          rw [pattern_matches.j2, if_pos rfl, wrap_succ (by omega), wrap_succ (by omega)]
          obtain ⟨b, hb, hh⟩ := ih ((s.size - f) * (p.length + 1) + (p.length - (i + 1))) (by omega) (m + 1) (i + 1) (j + 1) f st
            ⟨by omega, by omega, by omega, hst.imp id (fun ⟨a, b, c', d⟩ => ⟨a, by omega, by omega, fun j' e1 e2 => by
              rcases Nat.lt_or_ge j' i with h | h
              · exact d j' e1 h
              · obtain rfl : j' = i := by omega
                exact h3⟩)⟩ rfl (by omega)
          refine ⟨b, hb, hh.trans ?_⟩
          unfold Later
          rw [hd, hc, Mt_one h3]
          simp [ho]
        | false =>
          refine fail2 m (by omega) (.inl hip) ?_
          rw [hd, hc, Mt_one h3, ho]
          rintro ⟨h, _⟩; cases h
      · rw [if_neg (by omega)]
        refine fail2 m (by omega) (.inl hip) ?_
        have hnil2 : s.data.toList.drop j = [] := List.drop_eq_nil_of_le (by omega)
        rw [hd, hnil2]
        exact Mt_nil h3 _
  · rw [if_neg (by omega), pattern_matches.j1, if_neg (by decide)]
    have hnil : p.drop i = [] := List.drop_eq_nil_of_le (by omega)
    by_cases hjs : j < s.size
    · rw [if_pos (by omega), if_neg (by omega)]
      refine fail2 m (by omega) (.inr hjs) ?_
      rw [hnil]
      intro h
      have h' : s.data.toList.drop j = [] := h
      have := congrArg List.length h'
      rw [List.length_drop] at this
      simp at this; omega
    · rw [if_neg (by omega), pattern_matches.j2, if_neg (by decide), if_pos (by omega), pattern_matches.j3, beq_iff_eq.2 (show (i : Int) = (p.length : Int) by omega), if_pos rfl]
      refine ⟨true, rfl, ⟨fun _ => .inl ?_, fun _ => rfl⟩⟩
      rw [hnil, List.drop_eq_nil_of_le (by omega)]; rfl
theorem matches_eq (p : List S_PatItem) (s : ByteArray) (hp : p.length ≤ 12) (hs : s.size ≤ 40) (hx : ∀ x ∈ p, x.f3.length < 1000 ∧ vItem x = true) {k : Nat} (hk : 10000 ≤ k) :
    ∃ b, pattern_matches.f k p s = some b ∧ (b = true ↔ Mt p s.data.toList) := by
  have hmul : (s.size - 0) * (p.length + 1) ≤ 40 * 13 := Nat.mul_le_mul (by omega) (by omega)
  obtain ⟨b, h1, h2⟩ := search_go p s (by omega) (by omega) hx _ k 0 0 0 (-1) ⟨by omega, by omega, by omega, .inl rfl⟩ rfl (by omega)
  refine ⟨b, h1, h2.trans ?_⟩
  unfold Later
  rw [List.drop_zero, List.drop_zero]
  constructor
  · rintro (h | ⟨h, _⟩)
    · exact h
    · omega
  · exact .inl
end Go.Proofs.YthkbcomkbioepaaDoor.Pure
set_option linter.unusedVariables false
set_option linter.unusedSimpArgs false
namespace Go.Proofs.YthkbcomkbioepaaDoor.Pure
open Go.RowKit Go.Proofs.YthkbcomkbioepaaDoor.F Go.Proofs.YthkbcomkbioepaaDoorW.PrintWords
theorem take_snoc {s : List UInt8} {k : Nat} {c : UInt8} (h : s.drop k = c :: s.drop (k + 1)) : s.take (k + 1) = s.take k ++ [c] := by
  have e : s[k]? = some c := by
    have := congrArg List.head? h
    rw [List.head?_drop] at this
    simpa using this
  rw [List.take_add_one, e]; rfl
theorem Mt_single {x : S_PatItem} (b : List UInt8) : Mt [x] b ↔ piece x b := by
  constructor
  · rintro ⟨a, c, rfl, hp, hc⟩
    have : c = [] := hc
    subst this; simpa using hp
  · intro h; exact ⟨b, [], by simp, h, rfl⟩
theorem Mt_snoc_star {x : S_PatItem} (h3 : x.f0 = 3) (p : List S_PatItem) (s : List UInt8) (k : Nat) (hk : k ≤ s.length) : Mt (p ++ [x]) (s.take k) ↔ ∃ j, j ≤ k ∧ Mt p (s.take j) := by
  rw [Mt_append]
  constructor
  · rintro ⟨a, b, e, ha, _⟩
    have hl := congrArg List.length e
    rw [List.length_take, List.length_append] at hl
    refine ⟨a.length, by omega, ?_⟩
    have : s.take a.length = a := by
      have := congrArg (List.take a.length) e
      rw [List.take_take, List.take_left] at this
      rw [show a.length = min a.length k by omega]; exact this
    rw [this]; exact ha
  · rintro ⟨j, hj, h⟩
    refine ⟨s.take j, (s.take k).drop j, ?_, h, (Mt_single _).2 (.inl h3)⟩
    have := List.take_append_drop j (s.take k)
    rw [List.take_take, show min j k = j by omega] at this
    exact this.symm
theorem Mt_snoc_one {x : S_PatItem} (h3 : x.f0 ≠ 3) (p : List S_PatItem) (s : List UInt8) (k : Nat) (c : UInt8) (hc : s.drop k = c :: s.drop (k + 1)) : Mt (p ++ [x]) (s.take (k + 1)) ↔ Mt p (s.take k) ∧ oneB x (c.toNat : Int) = true := by
  rw [Mt_append, take_snoc hc]
  constructor
  · rintro ⟨a, b, e, ha, hb⟩
    rcases (Mt_single b).1 hb with h | ⟨d, rfl, hd⟩
    · exact absurd h h3
    · obtain ⟨rfl, h⟩ := List.append_inj' e rfl
      simp at h; subst h
      exact ⟨ha, hd⟩
  · rintro ⟨h1, h2⟩
    exact ⟨_, _, rfl, h1, (Mt_single _).2 (.inr ⟨c, rfl, h2⟩)⟩
theorem Mt_snoc_nil {x : S_PatItem} (h3 : x.f0 ≠ 3) (p : List S_PatItem) : ¬ Mt (p ++ [x]) [] := by
  rw [Mt_append]
  rintro ⟨a, b, e, ha, hb⟩
  rcases (Mt_single b).1 hb with h | ⟨d, rfl, hd⟩
  · exact h3 h
  · simp at e
theorem getD_set (l : List Bool) (j n : Nat) (v : Bool) (hj : j < l.length) : (l.set j v).getD n false = if n = j then v else l.getD n false := by
  rw [List.getD_eq_getElem?_getD, List.getD_eq_getElem?_getD, List.getElem?_set]
  by_cases h : j = n
  · subst h; simp [hj]
  · simp [h, Ne.symm h]
structure Upto (q : List S_PatItem) (s : List UInt8) (row : List Bool) (k : Nat) : Prop where
  len : row.length = s.length + 1
  at_ : ∀ n, n < k → n ≤ s.length → (row.getD n false = true ↔ Mt q (s.take n))
theorem Upto.set {q : List S_PatItem} {s : List UInt8} {row : List Bool} {k : Nat} (h : Upto q s row k) (hk : k ≤ s.length) (v : Bool) (hv : v = true ↔ Mt q (s.take k)) : Upto q s (row.set k v) (k + 1) := by
  refine ⟨by simp [h.len], fun n hn hl => ?_⟩
  rw [getD_set _ _ _ _ (by rw [h.len]; omega)]
  by_cases e : n = k
  · subst e; rw [if_pos rfl]; exact hv
  · rw [if_neg e]; exact h.at_ n (by omega) hl
theorem rdOf_nat (row : List Bool) (n : Nat) : rdOf false row (n : Int) = row.getD n false := by unfold rdOf; rw [Int.toNat_natCast]
set_option maxHeartbeats 1000000 in
theorem ends_go (p : List S_PatItem) (s : ByteArray) (hp : p.length < 1000) (hs : s.size < 100000) (hx : ∀ x ∈ p, x.f3.length < 1000 ∧ vItem x = true) :
    ∀ (d i : Nat), i + d = p.length → ∀ (k : Nat) (row : List Bool), Upto (p.take i) s.data.toList row (s.size + 1) → d * (s.size + 3) + 2000 ≤ k →
      ∃ r, jobshellref04_ends.l0 k p s row i = some r ∧ Upto p s.data.toList r (s.size + 1) := by
  have hsz : s.data.toList.length = s.size := size_data s
  intro d
  induction d with
  | zero =>
    intro i hi k row hr hk
    obtain ⟨m, rfl⟩ : ∃ m, k = m + 1 := ⟨k - 1, by omega⟩
    rw [jobshellref04_ends.l0, if_neg (by omega)]
    rw [List.take_of_length_le (by omega)] at hr
    exact ⟨row, rfl, hr⟩
  | succ d ih =>
    intro i hi k row hr hk
    rw [Nat.succ_mul] at hk
    obtain ⟨m, rfl⟩ : ∃ m, k = m + 1 := ⟨k - 1, by omega⟩
    have hd := item_drop p i (by omega)
    have hm : rd_PatItem p (i : Int) ∈ p := List.mem_of_mem_drop (hd ▸ List.mem_cons_self)
    obtain ⟨hx1, hx2⟩ := hx _ hm
    have htake : p.take (i + 1) = p.take i ++ [rd_PatItem p (i : Int)] := by
      have e : p[i]? = some (rd_PatItem p (i : Int)) := by
        have := congrArg List.head? hd
        rw [List.head?_drop] at this
        simpa using this
      rw [List.take_add_one, e]; rfl
    have inner : ∀ (g j : Nat) (next : List Bool) (q : Nat), j + g = s.size + 1 → Upto (p.take (i + 1)) s.data.toList next j → d * (s.size + 3) + 2000 + g + 1 ≤ q →
        ∃ r, jobshellref04_ends.l1 q p s row i next j = some r ∧ Upto p s.data.toList r (s.size + 1) := by
      intro g
      induction g with
      | zero =>
        intro j next q hj hn hq
        obtain ⟨n, rfl⟩ : ∃ n, q = n + 1 := ⟨q - 1, by omega⟩
        rw [jobshellref04_ends.l1, if_neg (by omega), wrap_succ (by omega)]
        rw [show j = s.size + 1 by omega] at hn
        exact ih (i + 1) (by omega) n next hn (by omega)
      | succ g ihg =>
        intro j next q hj hn hq
        obtain ⟨n, rfl⟩ : ∃ n, q = n + 1 := ⟨q - 1, by omega⟩
        have hnl := hn.len
        have hrl := hr.len
        have put : ∀ v : Bool, (v = true ↔ Mt (p.take (i + 1)) (s.data.toList.take j)) → ∃ r, jobshellref04_ends.l1 n p s row i (next.set j v) ((j + 1 : Nat) : Int) = some r ∧ Upto p s.data.toList r (s.size + 1) :=
          fun v hv => ihg (j + 1) _ n (by omega) (hn.set (by omega) v hv) (by omega)
        rw [jobshellref04_ends.l1, if_pos (by omega), if_pos (by omega), if_pos (by omega), wrap_succ (by omega), Int.toNat_natCast, rdOf_nat]
        by_cases h3 : (rd_PatItem p (i : Int)).f0 = 3
        · rw [if_pos h3, if_pos (by omega), if_pos (by omega)]
          have hstar := Mt_snoc_star h3 (p.take i) s.data.toList
          rw [← htake] at hstar
          have hrow := hr.at_ j (by omega) (by omega)
          by_cases hb : row.getD j false = true
          · rw [if_pos hb, if_pos (by omega)]
            refine put true ⟨fun _ => (hstar j (by omega)).2 ⟨j, by omega, hrow.1 hb⟩, fun _ => rfl⟩
          · rw [if_neg hb]
            rcases Nat.eq_zero_or_pos j with h0 | h0
            · subst h0
              rw [if_neg (by omega), if_pos (by omega)]
              refine put false ⟨(fun h => by cases h), fun h => ?_⟩
              obtain ⟨j', h1, h2⟩ := (hstar 0 (by omega)).1 h
              obtain rfl : j' = 0 := by omega
              exact absurd (hrow.2 h2) hb
            · obtain ⟨u, rfl⟩ : ∃ u, j = u + 1 := ⟨j - 1, by omega⟩
              have hw : wrap64 (((u + 1 : Nat) : Int) - 1) = (u : Int) := by rw [wrap_id (by omega) (by omega)]; omega
              rw [hw, if_pos (by omega), if_pos (by omega), if_pos (by omega), if_pos (by omega), rdOf_nat]
              refine put _ ((hn.at_ u (by omega) (by omega)).trans ?_)
              rw [hstar u (by omega), hstar (u + 1) (by omega)]
              constructor
              · rintro ⟨j', h1, h2⟩; exact ⟨j', by omega, h2⟩
              · rintro ⟨j', h1, h2⟩
                rcases Nat.eq_or_lt_of_le h1 with h | h
                · subst h; exact absurd (hrow.2 h2) hb
                · exact ⟨j', by omega, h2⟩
        · rw [if_neg h3]
          rcases Nat.eq_zero_or_pos j with h0 | h0
          · subst h0
            rw [if_neg (by omega), if_pos (by omega), if_pos (by omega)]
            refine put false ⟨(fun h => by cases h), fun h => ?_⟩
            rw [htake, List.take_zero] at h
            exact absurd h (Mt_snoc_nil h3 _)
          · obtain ⟨u, rfl⟩ : ∃ u, j = u + 1 := ⟨j - 1, by omega⟩
            have hw : wrap64 (((u + 1 : Nat) : Int) - 1) = (u : Int) := by rw [wrap_id (by omega) (by omega)]; omega
            obtain ⟨c, hc, hbt⟩ := bt_drop s u (by omega)
            have hone := Mt_snoc_one h3 (p.take i) s.data.toList u c hc
            rw [← htake] at hone
            have hrow := hr.at_ u (by omega) (by omega)
            rw [hw, if_pos (by omega), if_pos (by omega), if_pos (by omega), rdOf_nat]
            by_cases hb : row.getD u false = true
            · rw [if_pos hb, if_pos (by omega), hbt, takes_eq _ hx1 hx2 h3 _ (by omega), Option.bind_some, if_pos (by omega), if_pos (by omega)]
              refine put _ ?_
              rw [hone]
              exact ⟨fun h => ⟨hrow.1 hb, h⟩, fun h => h.2⟩
            · rw [if_neg hb, if_pos (by omega), if_pos (by omega)]
              refine put false ⟨(fun h => by cases h), fun h => ?_⟩
              exact absurd (hrow.2 (hone.1 h).1) hb
    rw [jobshellref04_ends.l0, if_pos (by omega), wrap_succ (by omega), if_pos (by omega), Int.toNat_natCast, if_pos (by omega)]
    exact inner (s.size + 1) 0 _ m (by omega) ⟨by simp [hsz], fun n hn => absurd hn (by omega)⟩ (by omega)
theorem ends_eq (p : List S_PatItem) (s : ByteArray) (hp : p.length ≤ 12) (hs : s.size ≤ 40) (hx : ∀ x ∈ p, x.f3.length < 1000 ∧ vItem x = true) {k : Nat} (hk : 10000 ≤ k) :
    ∃ r, jobshellref04_ends.f k p s = some r ∧ Upto p s.data.toList r (s.size + 1) := by
  have hsz : s.data.toList.length = s.size := size_data s
  have hmul : p.length * (s.size + 3) ≤ 12 * 43 := Nat.mul_le_mul (by omega) (by omega)
  unfold jobshellref04_ends.f
  rw [wrap_succ (by omega), if_pos (by omega), Int.toNat_natCast, if_pos (by omega), Option.bind_some, if_pos (by simp)]
  refine ends_go p s (by omega) (by omega) hx p.length 0 (by omega) k _ ?_ (by omega)
  rw [List.take_zero]
  refine ⟨by simp [hsz], fun n hn hl => ?_⟩
  show (((List.replicate (s.size + 1) false).set 0 true).getD n false = true) ↔ s.data.toList.take n = []
  rw [getD_set _ _ _ _ (by simp)]
  by_cases h0 : n = 0
  · subst h0; simp
  · rw [if_neg h0]
    have h1 : (List.replicate (s.size + 1) false).getD n false = false := by
      rw [List.getD_eq_getElem?_getD, List.getElem?_replicate]; split <;> rfl
    rw [h1]
    constructor
    · intro h; cases h
    · intro h
      have := congrArg List.length h
      rw [List.length_take, List.length_nil] at this; omega
def Res (long : Bool) (len : Nat) (Q : Nat → Prop) (r : Int × Bool) : Prop :=
  (r.2 = true ∧ ∃ n : Nat, r.1 = (n : Int) ∧ n ≤ len ∧ Q n ∧ ∀ n', n' ≤ len → Q n' → if long = true then n' ≤ n else n ≤ n') ∨ (r = (0, false) ∧ ∀ n, n ≤ len → ¬ Q n)
theorem Res.unique {long : Bool} {len : Nat} {Q : Nat → Prop} {r r' : Int × Bool} (h : Res long len Q r) (h' : Res long len Q r') : r = r' := by
  obtain ⟨a, b⟩ := r
  obtain ⟨a', b'⟩ := r'
  rcases h with ⟨h1, n, h2, h3, h4, h5⟩ | ⟨h1, h2⟩ <;> rcases h' with ⟨g1, m, g2, g3, g4, g5⟩ | ⟨g1, g2⟩
  · simp only at h1 h2 g1 g2
    have e1 := h5 m g3 g4
    have e2 := g5 n h3 h4
    have : n = m := by cases long <;> simp at e1 e2 <;> omega
    rw [h1, g1, h2, g2, this]
  · exact absurd h4 (g2 n h3)
  · exact absurd g4 (h2 m g3)
  · rw [h1, g1]
theorem Res.congr {long : Bool} {len : Nat} {Q Q' : Nat → Prop} {r : Int × Bool} (h : Res long len Q r) (e : ∀ n, n ≤ len → (Q n ↔ Q' n)) : Res long len Q' r := by
  rcases h with ⟨h1, n, h2, h3, h4, h5⟩ | ⟨h1, h2⟩
  · exact .inl ⟨h1, n, h2, h3, (e n h3).1 h4, fun n' a b => h5 n' a ((e n' a).2 b)⟩
  · exact .inr ⟨h1, fun n a b => h2 n a ((e n a).2 b)⟩
def cutAt (suf : Bool) (s : List UInt8) (n : Nat) : List UInt8 := if suf = true then s.drop (s.length - n) else s.take n
theorem cut_suf (s : ByteArray) (n : Nat) (h : n ≤ s.size) : (s.extract (s.size - n) s.size).data.toList = cutAt true s.data.toList n := by
  rw [extract_data, List.take_of_length_le (by rw [size_data]; omega), cutAt, if_pos rfl, size_data]
theorem cut_pre (s : ByteArray) (n : Nat) : (s.extract 0 n).data.toList = cutAt false s.data.toList n := by
  rw [extract_data, List.drop_zero, cutAt, if_neg (by decide)]
theorem part_go (p : List S_PatItem) (s : ByteArray) (long suf : Bool) (hp : p.length ≤ 12) (hs : s.size ≤ 40) (hx : ∀ x ∈ p, x.f3.length < 1000 ∧ vItem x = true) :
    ∀ (d i k : Nat), i + d = s.size + 1 → (∀ n, n < i → ¬ Mt p (cutAt suf s.data.toList (if long = true then s.size - n else n))) → 2 * d + 20000 ≤ k →
      ∃ r, pattern_part.l0 k p s long suf i = some r ∧ Res long s.size (fun n => Mt p (cutAt suf s.data.toList n)) r := by
  intro d
  induction d with
  | zero =>
    intro i k hi hno hk
    obtain ⟨m, rfl⟩ : ∃ m, k = m + 1 := ⟨k - 1, by omega⟩
    rw [pattern_part.l0, if_neg (by omega)]
    refine ⟨_, rfl, .inr ⟨rfl, fun n hn h => ?_⟩⟩
    cases long with
    | false => exact hno n (by omega) (by simpa using h)
    | true => exact hno (s.size - n) (by omega) (by rw [if_pos rfl, show s.size - (s.size - n) = n by omega]; exact h)
  | succ d ih =>
    intro i k hi hno hk
    obtain ⟨m, rfl⟩ : ∃ m, k = m + 2 := ⟨k - 2, by omega⟩
    obtain ⟨n, hn, hnl⟩ : ∃ n : Nat, n = (if long = true then s.size - i else i) ∧ n ≤ s.size := ⟨_, rfl, by split <;> omega⟩
    have hj : pattern_part.l0 (m + 2) p s long suf i = pattern_part.j1 (m + 1) p s long suf i (n : Int) := by
      rw [pattern_part.l0, if_pos (by omega)]
      cases long with
      | false => rw [if_neg (by decide)]; rw [if_neg (by decide)] at hn; rw [hn]
      | true => rw [if_pos rfl, wrap_id (by omega) (by omega)]; rw [if_pos rfl] at hn; rw [hn, show ((s.size : Int) - (i : Int)) = ((s.size - i : Nat) : Int) by omega]
    have hrest : ¬ Mt p (cutAt suf s.data.toList n) → ∃ r, pattern_part.l0 m p s long suf ((i + 1 : Nat) : Int) = some r ∧ Res long s.size (fun n => Mt p (cutAt suf s.data.toList n)) r := by
      intro hq
      refine ih (i + 1) m (by omega) (fun n' hn' => ?_) (by omega)
      rcases Nat.lt_or_ge n' i with h | h
      · exact hno n' h
      · obtain rfl : n' = i := by omega
        rw [← hn]; exact hq
    have hfound : Mt p (cutAt suf s.data.toList n) → Res long s.size (fun n => Mt p (cutAt suf s.data.toList n)) ((n : Int), true) := by
      intro hq
      refine .inl ⟨rfl, n, rfl, hnl, hq, fun n' h1 h2 => ?_⟩
      cases long with
      | false =>
        rw [if_neg (by decide)] at hn ⊢
        rcases Nat.lt_or_ge n' i with h | h
        · exact absurd (by simpa using h2) (hno n' h)
        · omega
      | true =>
        rw [if_pos rfl] at hn ⊢
        rcases Nat.lt_or_ge (s.size - n') i with h | h
        · exact absurd (by rw [if_pos rfl, show s.size - (s.size - n') = n' by omega]; exact h2) (hno (s.size - n') h)
        · omega
    rw [hj, pattern_part.j1, if_pos (by omega), if_pos (by omega), wrap_succ (by omega)]
    cases suf with
    | true =>
      have hw : wrap64 ((s.size : Int) - (n : Int)) = ((s.size - n : Nat) : Int) := by rw [wrap_id (by omega) (by omega)]; omega
      rw [if_pos rfl, hw, if_pos (by omega), if_pos (by omega), Int.toNat_natCast]
      obtain ⟨b, hb, hh⟩ := matches_eq p (s.extract (s.size - n) s.size) hp (by rw [ByteArray.size_extract]; omega) hx (k := m) (by omega)
      rw [cut_suf s n hnl] at hh
      rw [hb, Option.bind_some]
      cases b with
      | true => exact ⟨_, rfl, hfound (hh.1 rfl)⟩
      | false =>
        rw [if_neg (by decide)]
        exact hrest (fun h => by cases hh.2 h)
    | false =>
      rw [if_neg (by decide), Int.toNat_natCast]
      obtain ⟨b, hb, hh⟩ := matches_eq p (s.extract 0 n) hp (by rw [ByteArray.size_extract]; omega) hx (k := m) (by omega)
      rw [cut_pre s n] at hh
      rw [hb, Option.bind_some]
      cases b with
      | true => exact ⟨_, rfl, hfound (hh.1 rfl)⟩
      | false =>
        rw [if_neg (by decide)]
        exact hrest (fun h => by cases hh.2 h)
def Ok (p : List S_PatItem) : Prop := p.length ≤ 12 ∧ ∀ x ∈ p, x.f3.length ≤ 40
def Fits (p : List S_PatItem) (suf : Bool) (s : List UInt8) (n : Nat) : Prop := p.all vItem = true ∧ Mt p (cutAt suf s n)
theorem all_items {p : List S_PatItem} (h : Ok p) (hv : p.all vItem = true) : ∀ x ∈ p, x.f3.length < 1000 ∧ vItem x = true :=
  fun x hx => ⟨by have := h.2 x hx; omega, List.all_eq_true.1 hv x hx⟩
theorem part_eq (p : List S_PatItem) (s : ByteArray) (long suf : Bool) (hp : Ok p) (hs : s.size ≤ 40) {k : Nat} (hk : 30000 ≤ k) :
    ∃ r, pattern_part.f k p s long suf = some r ∧ Res long s.size (Fits p suf s.data.toList) r := by
  have hp1 := hp.1
  unfold pattern_part.f
  have hv : pattern_allValid.f k p = some (p.all vItem) := all_valid_go p (by omega) (fun x hx => by have := hp.2 x hx; omega) k 0 (by omega) (by omega)
  rw [hv, Option.bind_some]
  cases ha : p.all vItem with
  | false => exact ⟨_, rfl, .inr ⟨rfl, fun n _ h => by rw [Fits, ha] at h; exact absurd h.1 (by decide)⟩⟩
  | true =>
    rw [if_pos rfl]
    obtain ⟨r, h1, h2⟩ := part_go p s long suf hp1 hs (all_items hp ha) (s.size + 1) 0 k (by omega) (fun n h => absurd h (by omega)) (by omega)
    exact ⟨r, h1, h2.congr fun n _ => ⟨fun h => ⟨ha, h⟩, fun h => h.2⟩⟩
def Sofar (long : Bool) (Q : Nat → Prop) (i : Nat) (r : Int × Bool) : Prop :=
  (r.2 = true ∧ ∃ n : Nat, r.1 = (n : Int) ∧ n < i ∧ Q n ∧ ∀ n', n' < i → Q n' → if long = true then n' ≤ n else n ≤ n') ∨ (r = (0, false) ∧ ∀ n, n < i → ¬ Q n)
theorem Sofar.done {long : Bool} {Q : Nat → Prop} {len : Nat} {r : Int × Bool} (h : Sofar long Q (len + 1) r) : Res long len Q r := by
  rcases h with ⟨h1, n, h2, h3, h4, h5⟩ | ⟨h1, h2⟩
  · exact .inl ⟨h1, n, h2, by omega, h4, fun n' a b => h5 n' (by omega) b⟩
  · exact .inr ⟨h1, fun n a => h2 n (by omega)⟩
theorem Sofar.skip {long : Bool} {Q : Nat → Prop} {i : Nat} {r : Int × Bool} (h : Sofar long Q i r) (hq : ¬ Q i) : Sofar long Q (i + 1) r := by
  rcases h with ⟨h1, n, h2, h3, h4, h5⟩ | ⟨h1, h2⟩
  · refine .inl ⟨h1, n, h2, by omega, h4, fun n' a b => ?_⟩
    rcases Nat.lt_or_ge n' i with h | h
    · exact h5 n' h b
    · obtain rfl : n' = i := by omega
      exact absurd b hq
  · refine .inr ⟨h1, fun n a b => ?_⟩
    rcases Nat.lt_or_ge n i with h | h
    · exact h2 n h b
    · obtain rfl : n = i := by omega
      exact absurd b hq
theorem Sofar.keep {Q : Nat → Prop} {i : Nat} {r : Int × Bool} (h : Sofar false Q i r) (hb : r.2 = true) : Sofar false Q (i + 1) r := by
  rcases h with ⟨h1, n, h2, h3, h4, h5⟩ | ⟨h1, h2⟩
  · refine .inl ⟨h1, n, h2, by omega, h4, fun n' a b => ?_⟩
    rw [if_neg (by decide)]
    rcases Nat.lt_or_ge n' i with h | h
    · have := h5 n' h b; simpa using this
    · omega
  · rw [h1] at hb; cases hb
theorem Sofar.take {long : Bool} {Q : Nat → Prop} {i : Nat} {r : Int × Bool} (h : Sofar long Q i r) (hl : long = true ∨ r.2 = false) (hq : Q i) : Sofar long Q (i + 1) ((i : Int), true) := by
  refine .inl ⟨rfl, i, rfl, by omega, hq, fun n' a b => ?_⟩
  cases long with
  | true => rw [if_pos rfl]; omega
  | false =>
    rw [if_neg (by decide)]
    rcases Nat.lt_or_ge n' i with hh | hh
    · rcases h with ⟨h1, _⟩ | ⟨h1, h2⟩
      · rcases hl with hl | hl
        · cases hl
        · rw [h1] at hl; cases hl
      · exact absurd b (h2 n' hh)
    · omega
theorem ref_prefix_go (p : List S_PatItem) (s : ByteArray) (hs : s.size ≤ 40) (long : Bool) (row : List Bool) (hr : Upto p s.data.toList row (s.size + 1)) :
    ∀ (d i k : Nat) (a : Int) (b : Bool), i + d = s.size + 1 → Sofar long (fun n => Mt p (s.data.toList.take n)) i (a, b) → d + 1 ≤ k →
      ∃ r, jobshellref04_Prefix.l0 k s long row a b i = some r ∧ Res long s.size (fun n => Mt p (s.data.toList.take n)) r := by
  intro d
  have hsz : s.data.toList.length = s.size := size_data s
  have hrl := hr.len
  induction d with
  | zero =>
    intro i k a b hi h hk
    obtain ⟨m, rfl⟩ : ∃ m, k = m + 1 := ⟨k - 1, by omega⟩
    rw [jobshellref04_Prefix.l0, if_neg (by omega)]
    rw [show i = s.size + 1 by omega] at h
    exact ⟨_, rfl, h.done⟩
  | succ d ih =>
    intro i k a b hi h hk
    obtain ⟨m, rfl⟩ : ∃ m, k = m + 1 := ⟨k - 1, by omega⟩
    have hrow := hr.at_ i (by omega) (by omega)
    rw [jobshellref04_Prefix.l0, if_pos (by omega), if_pos (by omega), if_pos (by omega), wrap_succ (by omega), rdOf_nat]
    by_cases hb : row.getD i false = true
    · have hq := hrow.1 hb
      rw [if_pos hb]
      cases long with
      | true => rw [if_pos rfl]; exact ih (i + 1) m _ _ (by omega) (h.take (.inl rfl) hq) (by omega)
      | false =>
        rw [if_neg (by decide)]
        cases b with
        | true => rw [if_pos rfl]; exact ih (i + 1) m _ _ (by omega) (h.keep rfl) (by omega)
        | false => rw [if_neg (by decide)]; exact ih (i + 1) m _ _ (by omega) (h.take (.inr rfl) hq) (by omega)
    · rw [if_neg hb]
      exact ih (i + 1) m _ _ (by omega) (h.skip (fun hq => hb (hrow.2 hq))) (by omega)
theorem ref_valid_eq (p : List S_PatItem) (hp : Ok p) {k : Nat} (hk : 10000 ≤ k) : jobshellref04_Valid.f k p = some (p.all vItem) := by
  have hp1 := hp.1
  exact ref_valid_go p (by omega) (fun x hx => by have := hp.2 x hx; omega) k 0 (by omega) (by omega)
theorem ref_prefix_eq (p : List S_PatItem) (s : ByteArray) (long : Bool) (hp : Ok p) (hs : s.size ≤ 40) {k : Nat} (hk : 30000 ≤ k) :
    ∃ r, jobshellref04_Prefix.f k p s long = some r ∧ Res long s.size (Fits p false s.data.toList) r := by
  have hp1 := hp.1
  unfold jobshellref04_Prefix.f
  rw [ref_valid_eq p hp (by omega), Option.bind_some]
  cases ha : p.all vItem with
  | false => exact ⟨_, rfl, .inr ⟨rfl, fun n _ h => by rw [Fits, ha] at h; exact absurd h.1 (by decide)⟩⟩
  | true =>
    rw [if_pos rfl]
    obtain ⟨row, h1, h2⟩ := ends_eq p s hp1 hs (all_items hp ha) (k := k) (by omega)
    rw [h1, Option.bind_some]
    obtain ⟨r, h3, h4⟩ := ref_prefix_go p s hs long row h2 (s.size + 1) 0 k 0 false (by omega) (.inr ⟨rfl, fun n h => absurd h (by omega)⟩) (by omega)
    exact ⟨r, h3, h4.congr fun n _ => ⟨fun h => ⟨ha, by rw [cutAt, if_neg (by decide)]; exact h⟩, fun h => by have := h.2; rw [cutAt, if_neg (by decide)] at this; exact this⟩⟩
theorem ref_match_eq (p : List S_PatItem) (s : ByteArray) (hp : Ok p) (hs : s.size ≤ 40) {k : Nat} (hk : 10000 ≤ k) :
    ∃ b, jobshellref04_Match.f k p s = some b ∧ (b = true ↔ p.all vItem = true ∧ Mt p s.data.toList) := by
  have hp1 := hp.1
  unfold jobshellref04_Match.f
  rw [ref_valid_eq p hp hk, Option.bind_some]
  cases ha : p.all vItem with
  | false => exact ⟨_, rfl, ⟨(fun h => by cases h), fun h => by cases h.1⟩⟩
  | true =>
    rw [if_pos rfl]
    obtain ⟨row, h1, h2⟩ := ends_eq p s hp1 hs (all_items hp ha) (k := k) (by omega)
    have hl := h2.len
    rw [size_data] at hl
    rw [h1, Option.bind_some, if_pos (by omega), if_pos (by omega), rdOf_nat]
    refine ⟨_, rfl, ?_⟩
    have := h2.at_ s.size (by omega) (by rw [size_data]; omega)
    rw [List.take_of_length_le (by rw [size_data]; omega)] at this
    rw [this]; simp
theorem ref_suffix_go (p : List S_PatItem) (s : ByteArray) (hp : Ok p) (hs : s.size ≤ 40) (long : Bool) :
    ∀ (d i k : Nat) (a : Int) (b : Bool), i + d = s.size + 1 → Sofar long (Fits p true s.data.toList) i (a, b) → d + 20000 ≤ k →
      ∃ r, jobshellref04_Suffix.l0 k p s long a b i = some r ∧ Res long s.size (Fits p true s.data.toList) r := by
  intro d
  induction d with
  | zero =>
    intro i k a b hi h hk
    obtain ⟨m, rfl⟩ : ∃ m, k = m + 1 := ⟨k - 1, by omega⟩
    rw [jobshellref04_Suffix.l0, if_neg (by omega)]
    rw [show i = s.size + 1 by omega] at h
    exact ⟨_, rfl, h.done⟩
  | succ d ih =>
    intro i k a b hi h hk
    obtain ⟨m, rfl⟩ : ∃ m, k = m + 1 := ⟨k - 1, by omega⟩
    have hw : wrap64 ((s.size : Int) - (i : Int)) = ((s.size - i : Nat) : Int) := by rw [wrap_id (by omega) (by omega)]; omega
    obtain ⟨c, hc, hh⟩ := ref_match_eq p (s.extract (s.size - i) s.size) hp (by rw [ByteArray.size_extract]; omega) (k := m) (by omega)
    rw [cut_suf s i (by omega)] at hh
    rw [jobshellref04_Suffix.l0, if_pos (by omega), hw, if_pos (show (0 : Int) ≤ ((s.size - i : Nat) : Int) by omega), if_pos (show ((s.size - i : Nat) : Int) ≤ (s.size : Int) by omega), wrap_succ (by omega), Int.toNat_natCast, hc, Option.bind_some]
    cases long with
    | true =>
      rw [if_pos rfl]
      cases c with
      | true => rw [if_pos rfl]; exact ih (i + 1) m _ _ (by omega) (h.take (.inl rfl) (hh.1 rfl)) (by omega)
      | false => rw [if_neg (by decide)]; exact ih (i + 1) m _ _ (by omega) (h.skip (fun hq => by cases hh.2 hq)) (by omega)
    | false =>
      rw [if_neg (by decide)]
      cases b with
      | true => rw [if_pos rfl]; exact ih (i + 1) m _ _ (by omega) (h.keep rfl) (by omega)
      | false =>
        rw [if_neg (by decide)]
        cases c with
        | true => rw [if_pos rfl]; exact ih (i + 1) m _ _ (by omega) (h.take (.inr rfl) (hh.1 rfl)) (by omega)
        | false => rw [if_neg (by decide)]; exact ih (i + 1) m _ _ (by omega) (h.skip (fun hq => by cases hh.2 hq)) (by omega)
theorem ref_suffix_eq (p : List S_PatItem) (s : ByteArray) (long : Bool) (hp : Ok p) (hs : s.size ≤ 40) {k : Nat} (hk : 30000 ≤ k) :
    ∃ r, jobshellref04_Suffix.f k p s long = some r ∧ Res long s.size (Fits p true s.data.toList) r :=
  ref_suffix_go p s hp hs long (s.size + 1) 0 k 0 false (by omega) (.inr ⟨rfl, fun n h => absurd h (by omega)⟩) (by omega)
end Go.Proofs.YthkbcomkbioepaaDoor.Pure
set_option linter.unusedVariables false
set_option linter.unusedSimpArgs false
namespace Go.Proofs.YthkbcomkbioepaaDoor.Pure
open Go.RowKit Go.Proofs.YthkbcomkbioepaaDoor.F Go.Proofs.YthkbcomkbioepaaDoorW.PrintWords Go.Proofs.YthkbcomkbioepaaDoor.Opn
theorem whole (s : ByteArray) : s.extract 0 s.size = s := by
  rw [extract_ba, List.drop_zero, List.take_of_length_le (by rw [size_data]; omega), ba_of]
theorem res_range {long : Bool} {len : Nat} {Q : Nat → Prop} {r : Int × Bool} (h : Res long len Q r) : 0 ≤ r.1 ∧ r.1 ≤ len ∧ (r.2 = false → r.1 = 0) := by
  rcases h with ⟨h1, n, h2, h3, _, _⟩ | ⟨h1, _⟩
  · exact ⟨by omega, by omega, fun h => by rw [h1] at h; cases h⟩
  · rw [h1]; exact ⟨by simp, by simp, fun _ => rfl⟩
theorem suffix_eq (p : List S_PatItem) (s : ByteArray) (long : Bool) (hp : Ok p) (hs : s.size ≤ 40) {k : Nat} (hk : 30000 ≤ k) :
    ∃ r, pattern_Suffix.f k p s long = some r ∧ Res long s.size (Fits p true s.data.toList) r := by
  obtain ⟨⟨a, b⟩, h1, h2⟩ := part_eq p s long true hp hs hk
  exact ⟨(a, b), by unfold pattern_Suffix.f; rw [h1]; rfl, h2⟩
theorem prefix_eq (p : List S_PatItem) (s : ByteArray) (long : Bool) (hp : Ok p) (hs : s.size ≤ 40) {k : Nat} (hk : 30000 ≤ k) :
    ∃ r, pattern_Prefix.f k p s long = some r ∧ Res long s.size (Fits p false s.data.toList) r := by
  obtain ⟨⟨a, b⟩, h1, h2⟩ := part_eq p s long false hp hs hk
  exact ⟨(a, b), by unfold pattern_Prefix.f; rw [h1]; rfl, h2⟩
theorem cut_front (s : ByteArray) (hs : s.size ≤ 40) (n : Int) (h0 : 0 ≤ n) (h1 : n ≤ s.size) :
    (if 0 ≤ (wrap64 ((s.size : Int) - n)) then (if (wrap64 ((s.size : Int) - n)) ≤ (s.size : Int) then (some (s.extract 0 ((wrap64 ((s.size : Int) - n)) : Int).toNat)) else (none)) else (none)) = some (s.extract 0 (s.size - n.toNat)) := by
  rw [wrap_id (by omega) (by omega), if_pos (by omega), if_pos (by omega), show ((s.size : Int) - n).toNat = s.size - n.toNat by omega]
theorem trim_suf (p : List S_PatItem) (s : ByteArray) (op : Int) (ho : op = 6 ∨ op = 7) (hp : Ok p) (hs : s.size ≤ 40) {k : Nat} (hk : 40000 ≤ k) :
    ∃ r, Res (op == 7) s.size (Fits p true s.data.toList) r ∧ param_Trim.f k op s p = some (s.extract 0 (s.size - r.1.toNat)) ∧ jobshellref17_Trim.f k op s p = some (s.extract 0 (s.size - r.1.toNat)) := by
  obtain ⟨m, rfl⟩ : ∃ m, k = m + 2 := ⟨k - 2, by omega⟩
  obtain ⟨r, h1, h2⟩ := suffix_eq p s (op == 7) hp hs (k := m) (by omega)
  obtain ⟨r', h1', h2'⟩ := ref_suffix_eq p s (op == 7) hp hs (k := m + 1) (by omega)
  obtain rfl := h2.unique h2'
  obtain ⟨g1, g2, g3⟩ := res_range h2
  refine ⟨r, h2, ?_, ?_⟩
  · have e : param_Trim.f (m + 2) op s p = ((pattern_Suffix.f m p s (op == 7)).bind fun bt179 => (if bt179.2 = true then (if 0 ≤ (wrap64 ((s.size : Int) - bt179.1)) then (if (wrap64 ((s.size : Int) - bt179.1)) ≤ (s.size : Int) then (some (s.extract 0 ((wrap64 ((s.size : Int) - bt179.1)) : Int).toNat)) else (none)) else (none)) else (some s))) := by
      rcases ho with rfl | rfl
      · unfold param_Trim.f; rw [if_neg (by decide), param_Trim.j0, if_pos rfl, param_Trim.j1, if_pos (by decide)]; rfl
      · unfold param_Trim.f; rw [if_pos rfl, param_Trim.j0, if_neg (by decide), param_Trim.j1, if_pos (by decide)]; rfl
    rw [e, h1, Option.bind_some, cut_front s hs r.1 g1 g2]
    cases hb : r.2 with
    | true => rfl
    | false => rw [g3 hb, if_neg (by decide), Int.toNat_zero, Nat.sub_zero, whole]
  · have e : jobshellref17_Trim.f (m + 2) op s p = ((jobshellref04_Suffix.f (m + 1) p s (op == 7)).bind fun bt321 => (if 0 ≤ (wrap64 ((s.size : Int) - bt321.1)) then (if (wrap64 ((s.size : Int) - bt321.1)) ≤ (s.size : Int) then (some (s.extract 0 ((wrap64 ((s.size : Int) - bt321.1)) : Int).toNat)) else (none)) else (none))) := by
      rcases ho with rfl | rfl
      · unfold jobshellref17_Trim.f; rw [if_pos rfl, jobshellref17_Trim.j0, if_pos (by decide)]
      · unfold jobshellref17_Trim.f; rw [if_neg (by decide), jobshellref17_Trim.j0, if_pos (by decide)]
    rw [e, h1', Option.bind_some, cut_front s hs r.1 g1 g2]
theorem trim_pre (p : List S_PatItem) (s : ByteArray) (op : Int) (ho : op = 8 ∨ op = 9) (hp : Ok p) (hs : s.size ≤ 40) {k : Nat} (hk : 40000 ≤ k) :
    ∃ r, Res (op == 9) s.size (Fits p false s.data.toList) r ∧ param_Trim.f k op s p = some (s.extract r.1.toNat s.size) ∧ jobshellref17_Trim.f k op s p = some (s.extract r.1.toNat s.size) := by
  obtain ⟨m, rfl⟩ : ∃ m, k = m + 3 := ⟨k - 3, by omega⟩
  obtain ⟨r, h1, h2⟩ := prefix_eq p s (op == 9) hp hs (k := m) (by omega)
  obtain ⟨r', h1', h2'⟩ := ref_prefix_eq p s (op == 9) hp hs (k := m + 2) (by omega)
  obtain rfl := h2.unique h2'
  obtain ⟨g1, g2, g3⟩ := res_range h2
  refine ⟨r, h2, ?_, ?_⟩
  · have e : param_Trim.f (m + 3) op s p = ((pattern_Prefix.f m p s (op == 9)).bind fun bt181 => (if bt181.2 = true then (if 0 ≤ bt181.1 then (if bt181.1 ≤ (s.size : Int) then (some (s.extract (bt181.1 : Int).toNat s.size)) else (none)) else (none)) else (some s))) := by
      rcases ho with rfl | rfl
      · unfold param_Trim.f; rw [if_neg (by decide), param_Trim.j0, if_neg (by decide), param_Trim.j1, if_neg (by decide), if_pos rfl, param_Trim.j2, if_pos (by decide)]
      · unfold param_Trim.f; rw [if_neg (by decide), param_Trim.j0, if_neg (by decide), param_Trim.j1, if_neg (by decide), if_neg (by decide), param_Trim.j2, if_pos (by decide)]
    rw [e, h1, Option.bind_some, if_pos g1, if_pos g2]
    cases hb : r.2 with
    | true => rfl
    | false => rw [g3 hb, if_neg (by decide), Int.toNat_zero, whole]
  · have e : jobshellref17_Trim.f (m + 3) op s p = ((jobshellref04_Prefix.f (m + 2) p s (op == 9)).bind fun bt323 => (if 0 ≤ bt323.1 then (if bt323.1 ≤ (s.size : Int) then (some (s.extract (bt323.1 : Int).toNat s.size)) else (none)) else (none))) := by
      rcases ho with rfl | rfl
      · unfold jobshellref17_Trim.f; rw [if_neg (by decide), jobshellref17_Trim.j0, if_neg (by decide), if_pos rfl]
      · unfold jobshellref17_Trim.f; rw [if_neg (by decide), jobshellref17_Trim.j0, if_neg (by decide), if_neg (by decide), if_pos rfl]
    rw [e, h1', Option.bind_some, if_pos g1, if_pos g2]
theorem trim_none (p : List S_PatItem) (s : ByteArray) (op : Int) (h6 : op ≠ 6) (h7 : op ≠ 7) (h8 : op ≠ 8) (h9 : op ≠ 9) {k : Nat} (hk : 40000 ≤ k) :
    param_Trim.f k op s p = some s ∧ jobshellref17_Trim.f k op s p = some s := by
  obtain ⟨m, rfl⟩ : ∃ m, k = m + 3 := ⟨k - 3, by omega⟩
  constructor
  · unfold param_Trim.f
    rw [if_neg h7, param_Trim.j0, if_neg h6, param_Trim.j1, beq_eq_false_iff_ne.2 h7, if_neg (by decide), if_neg h8, param_Trim.j2, beq_eq_false_iff_ne.2 h9, if_neg (by decide)]
  · unfold jobshellref17_Trim.f
    rw [if_neg h6, jobshellref17_Trim.j0, beq_eq_false_iff_ne.2 h7, if_neg (by decide), if_neg h8, if_neg h9]
theorem trim_eq (p : List S_PatItem) (s : ByteArray) (op : Int) (hp : Ok p) (hs : s.size ≤ 40) {k : Nat} (hk : 40000 ≤ k) :
    ∃ o, param_Trim.f k op s p = some o ∧ jobshellref17_Trim.f k op s p = some o := by
  by_cases h : op = 6 ∨ op = 7
  · obtain ⟨r, _, h1, h2⟩ := trim_suf p s op h hp hs hk; exact ⟨_, h1, h2⟩
  by_cases h' : op = 8 ∨ op = 9
  · obtain ⟨r, _, h1, h2⟩ := trim_pre p s op h' hp hs hk; exact ⟨_, h1, h2⟩
  · obtain ⟨h1, h2⟩ := trim_none p s op (fun e => h (.inl e)) (fun e => h (.inr e)) (fun e => h' (.inl e)) (fun e => h' (.inr e)) hk
    exact ⟨_, h1, h2⟩
theorem ParamTrims (a0 : Int) (a1 : ByteArray) (l2 : List S_PatItem) (w0 : (Lit.int .i64 a0).wf = true) (w1 : a1.size ≤ 140737488351232) (w2 : (fun xs => xs.length ≤ maxLen ∧ ∀ x ∈ xs, ok52 x) l2) : ∃ k, jobshelllaw17_ParamTrims.f k a0 a1 l2 = some true := by
  refine ⟨50001, ?_⟩
  unfold jobshelllaw17_ParamTrims.f
  have aw : jobshelllaw17_ParamTrims.j0 50001 a0 a1 l2 true = some true := by
    rw [jobshelllaw17_ParamTrims.j0, if_pos rfl, awake_ok (by omega)]; rfl
  by_cases h : (a1.size : Int) > 40
  · rw [if_pos h, aw]
  · rw [if_neg h]
    obtain ⟨b, h1, h2⟩ := few_eq l2 (k := 50001) (by omega)
    rw [h1, Option.bind_some]
    cases b with
    | false => exact aw
    | true =>
      obtain ⟨o, h3, h4⟩ := trim_eq l2 a1 a0 (h2 rfl) (by omega) (k := 50000) (by omega)
      rw [jobshelllaw17_ParamTrims.j0, if_neg (by decide), h3, h4]
      simp only [Option.bind_some, if_true]
      rw [awake_ok (by omega)]; rfl
end Go.Proofs.YthkbcomkbioepaaDoor.Pure
namespace Go.Proofs.YthkbcomkbioepaaDoor.paramTrims
open Go.ChangeShapes Go.WideShapes Go.ChangeAt Go.RowKit
open Go.ChangeMaps (open_string shut_string)
open Go.Proofs.YthkbcomkbioepaaDoor.F Go.Proofs.YthkbcomkbioepaaDoorW.PrintWords Go.Proofs.YthkbcomkbioepaaDoor.Opn
set_option linter.unusedVariables false
set_option linter.unusedSimpArgs false
theorem own : ownKnob Tryd.prog.godebug = none := by kernel_rfl
theorem laidOut : laidOutB Tryd.prog = true := by kernel_rfl
theorem amb {W : World} (h : laidMetH Tryd.prog Rows.paramTrimsRow.laid W) : AmbC W := by
  rw [MakeChecks.laidMetH_plain _ _ _ (by kernel_rfl)] at h
  have h0 : laidMet Tryd.prog [("math/bits.deBruijn32tab", Rows.laid_math_bits_deBruijn32tab), ("math/bits.deBruijn64tab", Rows.laid_math_bits_deBruijn64tab), ("internal/strconv.uint64pow10", Lib.tabData .u64 Lib.pow10Tab)] W := h
  obtain ⟨_, h1, _⟩ := h0
  obtain ⟨_, _, _, _, _, _, _, _, _, _, h1, _⟩ := h1
  obtain ⟨_, _, _, _, _, _, _, _, _, _, h1, _⟩ := h1
  obtain ⟨g', t', cs, fuel, p, q, hg', ht', hvar, hd, _, _⟩ := h1
  obtain rfl := Option.some.inj ((show Tryd.prog.globalNamed "internal/strconv.uint64pow10" = some 0 by kernel_rfl).symm.trans hg')
  obtain rfl := Option.some.inj ((show (Tryd.prog.globals[0]?).map (·.type) = some 100 by kernel_rfl).symm.trans ht')
  unfold AmbC Lib.TabIs
  rw [hvar, ← Lib.cells_of_tab Tryd.underlying100 Tryd.underlying75 (by kernel_rfl) (by kernel_rfl) hd]
set_option maxRecDepth 100000 in
set_option maxHeartbeats 1000000 in
theorem lifted (os : Os) (started : os.Started) (H : Type) (enc : TypeId × Value → H) :
    ReturnsInHanded {} Tryd.checked os 5 .any (fun w args => (Rows.paramTrimsSpec.pre enc Tryd.prog Tryd.f5 [] false w args ∧ laidMetH Tryd.prog Rows.paramTrimsRow.laid w) ∧ sizedMet enc Tryd.prog Tryd.f5 (OpenSpec.ofChange Rows.paramTrimsSpec) false w args)
      (Rows.paramTrimsSpec.post enc Tryd.prog Tryd.f5 false true false false) := by
  refine returnsInHanded_of_change_and (C := Tryd.checked) (X := fun w _ => laidMetH Tryd.prog Rows.paramTrimsRow.laid w) (fun _ _ _ hh h => h.of_heap hh) own started (by kernel_rfl) Tryd.func5
    (ChangeSpec.witness_shaped (enc := enc) (C := Tryd.checked) (os := os) (X := fun w _ => laidMetH Tryd.prog Rows.paramTrimsRow.laid w) false (World.laidAll Tryd.prog os Rows.paramTrimsRow.laid) #[.int .i64 0, .string ByteArray.empty, .slice none 0 0] 8 (World.laidAll_os _ _ _)
      (World.shaped_of_ZipB (by kernel_rfl) (by kernel_rfl)) (by kernel_rfl) (by kernel_rfl) (by kernel_rfl)
      (by rw [MakeChecks.laidMetH_plain _ _ _ (by kernel_rfl)]; exact laidMet_laidAll _ (by kernel_rfl) (by kernel_rfl))) ?_
  intro W base args ds gs before hval0 hW _ hsz0 hL _
  have hsz : (DataW.weightsEach Tryd.prog (Tryd.f5.params.toList ++ Rows.paramTrimsSpec.plain.varTypes Tryd.prog) (ds ++ gs)).all (· ≤ reachBytes) = true := hsz0
  have hval : ∀ (j : Nat) t v, Tryd.f5.params[j]? = some t → args[j]? = some v → Value.okWide Tryd.prog W .any base t v := hval0
  have hW' := hW
  obtain ⟨p, q, hA0, hV, rfl, hfz, hnd⟩ := hW
  have hA : DataW.TrodAll enc Tryd.prog W 0 (fun _ => true) true Tryd.f5.params.toList args.toList ds p := hA0
  rw [Tryd.params5] at hA hval hsz
  obtain ⟨v0, vs0, d0, ds0, p0, q0, hargs, rfl, rfl, h0, r0⟩ := trodAll_cons hA
  obtain ⟨v1, vs1, d1, ds1, p1, q1, rfl, rfl, rfl, h1, r1⟩ := trodAll_cons r0
  obtain ⟨v2, vs2, d2, ds2, p2, q2, rfl, rfl, rfl, h2, r2⟩ := trodAll_cons r1
  obtain ⟨rfl, rfl, rfl⟩ := trodAll_nil r2
  obtain rfl : args = #[v0, v1, v2] := by cases args; simp_all
  obtain ⟨rfl, rfl⟩ := trodVars_none hV
  obtain ⟨a0, rfl, rfl, rfl, w0⟩ := open_int Tryd.underlying3 (hval 0 3 v0 rfl rfl) h0
  obtain ⟨a1, rfl, rfl, rfl, y1⟩ := open_string Tryd.underlying9 (hval 1 9 v1 rfl rfl) h1
  have w1 : a1.size ≤ 140737488351232 := by
    have z := sized_string hsz (j := 1) (t := 9) rfl rfl
    rw [Array.length_toList] at z
    exact z
  have k2 := h2
  have lt2 : ∀ x ∈ p2, x.block < W.heap.size := by obtain ⟨m, hm⟩ := k2; exact DataW.trod_lt m _ _ _ hm
  obtain ⟨A2, c2, l2, rfl, hc2, hr2, w2⟩ := arg_slice (opens_slice Tryd.underlying41 opens52 (by kernel_rfl)) (okWide_slice Tryd.underlying41 (hval 2 41 v2 rfl rfl)) h2
  clear hA0 hval0 hsz0 hsz
  obtain ⟨k, hk_⟩ := Go.Proofs.YthkbcomkbioepaaDoor.Pure.ParamTrims a0 a1 l2 w0 w1 w2
  refine (jobshelllaw17_ParamTrims.calls k a0 a1 A2 c2 l2 true W hr2 hc2 (amb hL) hk_).mono fun e W' ⟨he, bel0⟩ => ?_
  have bel : Below W.heap.size W W' := bel0
  subst he
  exact ⟨_, rfl, _, _, _, [], _, [], hW', trodAll_mk1 (shut_bool Tryd.underlying4 _), (trodAll_cons_mk (shut_int Tryd.underlying3 w0) (trodAll_cons_mk (shut_string Tryd.underlying9 y1) (trodAll_cons_mk (Below.trod laidOut (by kernel_rfl) (of_decide_eq_true (by kernel_rfl)) k2 bel lt2) trodAll_mk0))), rfl, bel.frame _, fun h => by cases h⟩
theorem over : Rows.paramTrimsRow.holds Tryd.pinned (OpenSpec.ofChange Rows.paramTrimsSpec) :=
  OpenClaim.holds_of_wide 5 Tryd.f5 rfl rfl rfl rfl rfl rfl rfl ⟨rfl, rfl, rfl, rfl, rfl⟩ rfl rfl rfl rfl rfl (by kernel_rfl) Tryd.func5 (by kernel_rfl)
    (of_decide_eq_true (by kernel_rfl)) (by unfold Func.isWrapper; first | (rw [if_pos (by decide +kernel)]; kernel_rfl) | (rw [if_neg (by decide +kernel)]; exact ⟨rfl, rfl⟩))
    (fun os started H enc _ => lifted os started H enc)
theorem card : Rows.ParamTrimsCardSaid :=
  Claim7.holds_tied_plain_at .later [] [.data, .data, .data] true (true, "938b025c0917e96f3a95e97b566f2c3d43cbf96fe82d94234e0ecb6cd516634e") false over (fun _ h => by cases h) (by kernel_rfl) (fun _ h => by cases h) paramTrims_row_tie rfl ⟨rfl, rfl⟩ (by kernel_rfl) rfl
    (fun f fn hf hfn => by
      obtain rfl : f = 5 := Option.some.inj ((show Tryd.prog.funcNamed "jobshell/jobshelllaw17.ParamTrims" = some 5 by kernel_rfl).symm.trans hf) |>.symm
      obtain rfl : fn = Tryd.f5 := (Option.some.inj (Tryd.func5.symm.trans hfn)).symm
      exact ⟨by kernel_rfl, fun j t ht => by
        rw [Tryd.params5] at ht
        have hm : t ∈ [3, 9, 41] := by simpa using Array.mem_of_getElem? ht
        have hall : ([3, 9, 41].all fun u => !Tryd.prog.wantsStandIn u) = true := by kernel_rfl
        exact (show Tryd.prog.wantsStandIn t = false by simpa using List.all_eq_true.1 hall t hm)⟩)
    (by kernel_rfl)
#print axioms card
end Go.Proofs.YthkbcomkbioepaaDoor.paramTrims
namespace Go.Proofs.YthkbcomkbioepaaDoor
theorem paramTrims_holds : Rows.ParamTrimsCardSaid := paramTrims.card
end Go.Proofs.YthkbcomkbioepaaDoor
