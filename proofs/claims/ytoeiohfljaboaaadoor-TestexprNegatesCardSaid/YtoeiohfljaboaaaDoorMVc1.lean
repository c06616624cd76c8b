/- The law TestexprNegates: for every input the call returns true and leaves its arguments as they were; the variables that the row lists are tied to the program's text (a tied card). No condition beyond the row's own. -/
import Derived.Test.YtoeiohfljaboaaaDoorCards
import Derived.Test.YtoeiohfljaboaaaDoorTie
import Derived.WalkKit
import Derived.ProofKit
import Derived.OpenShut
import Derived.ShutString
import Derived.ChangeOld
import Derived.Below
import Derived.SizedLaws
import Derived.LaidMore
import Derived.Lay
import Derived.SevenTiedAt
import Derived.Stop.Joined
import Derived.Carry
import Derived.Test.YtoeiohfljaboaaaDoorB0
import Derived.Test.YtoeiohfljaboaaaDoorMVc0
import Derived.Test.YtoeiohfljaboaaaDoorB2
import Derived.Test.YtoeiohfljaboaaaDoorB1
import Derived.Test.YtoeiohfljaboaaaDoorB3
namespace Go.Proofs.YtoeiohfljaboaaaDoor.F
open Go.RowKit Go.Proofs.YtoeiohfljaboaaaDoorW.PrintWords Go.Proofs.YtoeiohfljaboaaaDoorW.PrintLast Go.Proofs.YtoeiohfljaboaaaDoorW.PrintMore
attribute [local go_sem] max2_int min2_int max_two min_two max_three min_three max_four min_four
set_option linter.unusedVariables false
set_option linter.unusedSimpArgs false
mutual
def jobshelllaw29_TestexprNegates.j0 : Nat → List ByteArray → List (S_File) → Bool → Option (Bool)
 | 0, _, _, _ => none
 | k + 1, x0, x1, x23 => if x23 = true then ((jobshelllaw29_awake.f).bind fun t293 => (some t293)) else (if 0 < (x0.length : Int) then (if (x0.length : Int) = 2 then (if (rdOf ByteArray.empty x0 0).toList = ([61] : List UInt8) then (jobshelllaw29_TestexprNegates.j1 k x0 x1 true) else (if (rdOf ByteArray.empty x0 0).toList = ([33, 61] : List UInt8) then (jobshelllaw29_TestexprNegates.j1 k x0 x1 true) else (if (rdOf ByteArray.empty x0 0).toList = ([45, 101, 113] : List UInt8) then (jobshelllaw29_TestexprNegates.j1 k x0 x1 true) else (if (rdOf ByteArray.empty x0 0).toList = ([45, 110, 101] : List UInt8) then (jobshelllaw29_TestexprNegates.j1 k x0 x1 true) else (if (rdOf ByteArray.empty x0 0).toList = ([45, 108, 116] : List UInt8) then (jobshelllaw29_TestexprNegates.j1 k x0 x1 true) else (if (rdOf ByteArray.empty x0 0).toList = ([45, 108, 101] : List UInt8) then (jobshelllaw29_TestexprNegates.j1 k x0 x1 true) else (if (rdOf ByteArray.empty x0 0).toList = ([45, 103, 116] : List UInt8) then (jobshelllaw29_TestexprNegates.j1 k x0 x1 true) else (if (rdOf ByteArray.empty x0 0).toList = ([45, 103, 101] : List UInt8) then (jobshelllaw29_TestexprNegates.j1 k x0 x1 true) else (if (rdOf ByteArray.empty x0 0).toList = ([45, 97] : List UInt8) then (jobshelllaw29_TestexprNegates.j1 k x0 x1 true) else (jobshelllaw29_TestexprNegates.j1 k x0 x1 ((rdOf ByteArray.empty x0 0).toList == ([45, 111] : List UInt8)))))))))))) else (jobshelllaw29_TestexprNegates.j1 k x0 x1 false)) else (none))
def jobshelllaw29_TestexprNegates.j1 : Nat → List ByteArray → List (S_File) → Bool → Option (Bool)
 | 0, _, _, _ => none
 | k + 1, x0, x1, x70 => if x70 = true then ((jobshelllaw29_awake.f).bind fun t295 => (some t295)) else ((testexpr_Eval.f x0 x1 (⟨#[47]⟩ : ByteArray)).bind fun bt296 => ((some (([(⟨#[33]⟩ : ByteArray)] : List ByteArray) : List ByteArray)).bind fun y298 => (if y298.length + x0.length < 8796093022208 then ((testexpr_Eval.f (y298 ++ x0) x1 (⟨#[47]⟩ : ByteArray)).bind fun bt304 => (if bt296.2 = bt304.2 then (if bt296.2 = 0 then (if (bt296.1 != bt304.1) = true then ((jobshelllaw29_awake.f).bind fun t306 => (some t306)) else (some false)) else (if bt296.1 = true then (some false) else (if bt304.1 = true then (some false) else ((jobshelllaw29_awake.f).bind fun t307 => (some t307))))) else (some false))) else (none))))
end
def jobshelllaw29_TestexprNegates.f (k : Nat) (l0 : List ByteArray) (l1 : List (S_File)) : Option (Bool) := (jobshelllaw29_small.f k l0 l1 (⟨#[47]⟩ : ByteArray)).bind fun t292 => (if t292 = true then (if (l0.length : Int) < 1 then (jobshelllaw29_TestexprNegates.j0 k l0 l1 true) else (jobshelllaw29_TestexprNegates.j0 k l0 l1 (decide ((l0.length : Int) > 3)))) else (jobshelllaw29_TestexprNegates.j0 k l0 l1 true))
theorem jobshelllaw29_TestexprNegates.mono_l : ∀ k, (∀ y0 y1 y2, LeO (jobshelllaw29_TestexprNegates.j0 k y0 y1 y2) (jobshelllaw29_TestexprNegates.j0 (k + 1) y0 y1 y2)) ∧ (∀ y0 y1 y2, LeO (jobshelllaw29_TestexprNegates.j1 k y0 y1 y2) (jobshelllaw29_TestexprNegates.j1 (k + 1) y0 y1 y2))
 | 0 => ⟨fun _ _ _ r h => by simp [jobshelllaw29_TestexprNegates.j0] at h, fun _ _ _ r h => by simp [jobshelllaw29_TestexprNegates.j1] at h⟩
 | k + 1 => by
  obtain ⟨ih0, ih1⟩ := jobshelllaw29_TestexprNegates.mono_l k
  refine ⟨?_, ?_⟩
  ·intro y0 y1 y2
   unfold jobshelllaw29_TestexprNegates.j0
   repeat' first
   | (with_reducible exact ih0 _ _ _)
   | (with_reducible exact ih1 _ _ _)
   | (with_reducible exact jobshelllaw29_small.mono _ _ _ _)
   | (with_reducible exact LeO.refl _)
   | (with_reducible exact LeO.none _)
   | (with_reducible refine LeO.ite ?_ ?_)
   | (with_reducible refine LeO.bind ?_ (fun _ => ?_))
   | exact ih0 _ _ _
   | exact ih1 _ _ _
   | exact jobshelllaw29_small.mono _ _ _ _
   | exact LeO.none _
   | refine LeO.ite ?_ ?_
   | refine LeO.bind ?_ (fun _ => ?_)
  ·intro y0 y1 y2
   unfold jobshelllaw29_TestexprNegates.j1
   repeat' first
   | (with_reducible exact ih0 _ _ _)
   | (with_reducible exact ih1 _ _ _)
   | (with_reducible exact jobshelllaw29_small.mono _ _ _ _)
   | (with_reducible exact LeO.refl _)
   | (with_reducible exact LeO.none _)
   | (with_reducible refine LeO.ite ?_ ?_)
   | (with_reducible refine LeO.bind ?_ (fun _ => ?_))
   | exact ih0 _ _ _
   | exact ih1 _ _ _
   | exact jobshelllaw29_small.mono _ _ _ _
   | exact LeO.none _
   | refine LeO.ite ?_ ?_
   | refine LeO.bind ?_ (fun _ => ?_)
theorem jobshelllaw29_TestexprNegates.mono : ∀ a0 a1 k, LeO (jobshelllaw29_TestexprNegates.f k a0 a1) (jobshelllaw29_TestexprNegates.f (k + 1) a0 a1) := by
 intro a0 a1 k
 obtain ⟨ih0, ih1⟩ := jobshelllaw29_TestexprNegates.mono_l k
 unfold jobshelllaw29_TestexprNegates.f
 repeat' first
   | (with_reducible exact ih0 _ _ _)
   | (with_reducible exact ih1 _ _ _)
   | (with_reducible exact jobshelllaw29_small.mono _ _ _ _)
   | (with_reducible exact LeO.refl _)
   | (with_reducible exact LeO.none _)
   | (with_reducible refine LeO.ite ?_ ?_)
   | (with_reducible refine LeO.bind ?_ (fun _ => ?_))
   | exact ih0 _ _ _
   | exact ih1 _ _ _
   | exact jobshelllaw29_small.mono _ _ _ _
   | exact LeO.none _
   | refine LeO.ite ?_ ?_
   | refine LeO.bind ?_ (fun _ => ?_)
set_option maxHeartbeats 8000000 in
set_option maxRecDepth 100000 in
theorem jobshelllaw29_TestexprNegates.calls (k : Nat) (A0 : Option Addr) (c0 : Nat) (l0 : List ByteArray) (A1 : Option Addr) (c1 : Nat) (l1 : List (S_File)) (r : Bool) (w : World) (hr0 : Kd.C Kd.string w A0 l0.length l0) (hc0 : l0.length ≤ c0) (hr1 : Kd.C k_File w A1 l1.length l1) (hc1 : l1.length ≤ c1) (hamb : AmbC w) (h : jobshelllaw29_TestexprNegates.f k l0 l1 = some r) :
  Calls Tryd.prog 4 #[.slice A0 l0.length c0, .slice A1 l1.length c1] w fun e w' => e = .returned (.bool r) ∧ Below w.heap.size w w' := by
 have HAMB := Aside0.mk hamb
 clear hamb
 have HR0 := Aside0.mk hr0
 have HC0 := Aside0.mk hc0
 clear hr0 hc0
 have HR1 := Aside0.mk hr1
 have HC1 := Aside0.mk hc1
 clear hr1 hc1
 have HB := Aside0.mk (Below.refl w.heap.size w)
 have H : ((jobshelllaw29_small.f k l0 l1 (⟨#[47]⟩ : ByteArray)).bind fun t292 => (if t292 = true then (if (l0.length : Int) < 1 then (jobshelllaw29_TestexprNegates.j0 k l0 l1 true) else (jobshelllaw29_TestexprNegates.j0 k l0 l1 (decide ((l0.length : Int) > 3)))) else (jobshelllaw29_TestexprNegates.j0 k l0 l1 true))) = some r := h
 clear h
 have HC3 := Aside0.mk H
 clear H
 go_enter Tryd.func4, Tryd.ntmps4
 go_upto_region 1 with (fail)
 go_cut [23] (fun v23 wc => ∃ (kq : Nat) (x23_2 : Bool), v23 = .bool x23_2 ∧ Aside0 (jobshelllaw29_TestexprNegates.j0 kq l0 l1 x23_2 = some r) ∧ Aside0 (kq ≤ k) ∧ Aside0 (Below w.heap.size w wc))
 case first =>
  have H := HC3.out
  clear HC3
  replace H := Option.bind_eq_some_iff.mp H
  obtain ⟨t292, A40, H⟩ := H
  replace H : (if t292 = true then (if (l0.length : Int) < 1 then (jobshelllaw29_TestexprNegates.j0 k l0 l1 true) else (jobshelllaw29_TestexprNegates.j0 k l0 l1 (decide ((l0.length : Int) > 3)))) else (jobshelllaw29_TestexprNegates.j0 k l0 l1 true)) = some r := H
  have A4 := Aside0.mk A40
  clear A40
  by_cases c5 : t292 = true
  ·subst c5
   have H1 : (if (l0.length : Int) < 1 then (jobshelllaw29_TestexprNegates.j0 k l0 l1 true) else (jobshelllaw29_TestexprNegates.j0 k l0 l1 (decide ((l0.length : Int) > 3)))) = some r := by rw [if_pos rfl] at H; exact H
   clear H
   have H := H1
   clear H1
   by_cases c6 : (l0.length : Int) < 1
   ·rw [if_pos c6] at H
    have c6b0 : decide ((l0.length : Int) < 1) = true := decide_eq_true c6
    have c6b1 : decide (l0.length < 1) = true := decide_eq_true (by omega)
    clear c6
    (first | rw [c6b0] | (simp only [i64_w, i32_w]; rw [c6b0]) | skip)
    have H' := Aside0.mk H
    clear H
    go_wp2_with (first | ((with_reducible refine gate_callee (f := 8) rfl ?_); refine goesL_ (some 12) rfl rfl Tryd.func8 (by kernel_rfl) rfl #[.slice A0 l0.length c0, .slice A1 l1.length c1, .string (⟨#[47]⟩ : ByteArray)] rfl (by (try simp only [List.map_toArray, List.map_cons, List.map_nil]); first | done | rfl | (simp only [List.length_drop, List.length_take]; rfl)) ?_; (with_reducible refine (jobshelllaw29_small.calls k _ _ l0 _ _ l1 (⟨#[47]⟩ : ByteArray) true _ ?side1 ?side2 ?side3 ?side4 A4.out).mono ?_); (case side1 => repeat (first | exact (Kd.C_below HR0.out HB.out) | (with_reducible refine Kd.C_alloc ?_ _) | (with_reducible refine Kd.C_drewN ?_ _) | (with_reducible refine Kd.C_drew ?_))); (case side2 => exact HC0.out); (case side3 => repeat (first | exact (Kd.C_below HR1.out HB.out) | (with_reducible refine Kd.C_alloc ?_ _) | (with_reducible refine Kd.C_drewN ?_ _) | (with_reducible refine Kd.C_drew ?_))); (case side4 => exact HC1.out); rintro e w7 ⟨rfl, hb⟩; refine ⟨_, rfl, ?_⟩; have n0_ := Aside0.mk (below_step (by repeat (first | (with_reducible first | exact HB.out | apply below_alloc | apply pw_below_drewN | apply below_drew1) | exact HB.out)) hb); clear HB; have HB := n0_; clear n0_; (try clear hb); (try clear hb2); (try clear hk); (try clear hi)))
    go_meet
    case rel => exact ⟨_, (true), (by first | rfl | (simp; done) | (simp [*]; done) | (simp [isE_ne]; done)), H', ⟨by first | omega | exact Nat.le_refl _⟩, ⟨by repeat (first | (with_reducible first | exact HB.out | apply below_alloc | apply pw_below_drewN | apply below_drew1) | exact HB.out)⟩⟩
   ·rw [if_neg c6] at H
    have c6b0 : decide ((l0.length : Int) < 1) = false := decide_eq_false c6
    have c6b1 : decide (l0.length < 1) = false := decide_eq_false (by omega)
    clear c6
    (first | rw [c6b0] | (simp only [i64_w, i32_w]; rw [c6b0]) | skip)
    have H' := Aside0.mk H
    clear H
    go_wp2_with (first | ((with_reducible refine gate_callee (f := 8) rfl ?_); refine goesL_ (some 12) rfl rfl Tryd.func8 (by kernel_rfl) rfl #[.slice A0 l0.length c0, .slice A1 l1.length c1, .string (⟨#[47]⟩ : ByteArray)] rfl (by (try simp only [List.map_toArray, List.map_cons, List.map_nil]); first | done | rfl | (simp only [List.length_drop, List.length_take]; rfl)) ?_; (with_reducible refine (jobshelllaw29_small.calls k _ _ l0 _ _ l1 (⟨#[47]⟩ : ByteArray) true _ ?side1 ?side2 ?side3 ?side4 A4.out).mono ?_); (case side1 => repeat (first | exact (Kd.C_below HR0.out HB.out) | (with_reducible refine Kd.C_alloc ?_ _) | (with_reducible refine Kd.C_drewN ?_ _) | (with_reducible refine Kd.C_drew ?_))); (case side2 => exact HC0.out); (case side3 => repeat (first | exact (Kd.C_below HR1.out HB.out) | (with_reducible refine Kd.C_alloc ?_ _) | (with_reducible refine Kd.C_drewN ?_ _) | (with_reducible refine Kd.C_drew ?_))); (case side4 => exact HC1.out); rintro e w8 ⟨rfl, hb⟩; refine ⟨_, rfl, ?_⟩; have n0_ := Aside0.mk (below_step (by repeat (first | (with_reducible first | exact HB.out | apply below_alloc | apply pw_below_drewN | apply below_drew1) | exact HB.out)) hb); clear HB; have HB := n0_; clear n0_; (try clear hb); (try clear hb2); (try clear hk); (try clear hi)))
    go_meet
    case rel => exact ⟨_, (decide ((l0.length : Int) > 3)), (by first | rfl | (simp; done) | (simp [*]; done) | (simp [isE_ne]; done)), H', ⟨by first | omega | exact Nat.le_refl _⟩, ⟨by repeat (first | (with_reducible first | exact HB.out | apply below_alloc | apply pw_below_drewN | apply below_drew1) | exact HB.out)⟩⟩
  ·replace c5 := Bool.eq_false_iff.mpr c5
   subst c5
   have H1 : (jobshelllaw29_TestexprNegates.j0 k l0 l1 true) = some r := by rw [if_neg (show ¬ (false = true) by decide)] at H; exact H
   clear H
   have H := H1
   clear H1
   have H' := Aside0.mk H
   clear H
   go_wp2_with (first | ((with_reducible refine gate_callee (f := 8) rfl ?_); refine goesL_ (some 12) rfl rfl Tryd.func8 (by kernel_rfl) rfl #[.slice A0 l0.length c0, .slice A1 l1.length c1, .string (⟨#[47]⟩ : ByteArray)] rfl (by (try simp only [List.map_toArray, List.map_cons, List.map_nil]); first | done | rfl | (simp only [List.length_drop, List.length_take]; rfl)) ?_; (with_reducible refine (jobshelllaw29_small.calls k _ _ l0 _ _ l1 (⟨#[47]⟩ : ByteArray) false _ ?side1 ?side2 ?side3 ?side4 A4.out).mono ?_); (case side1 => repeat (first | exact (Kd.C_below HR0.out HB.out) | (with_reducible refine Kd.C_alloc ?_ _) | (with_reducible refine Kd.C_drewN ?_ _) | (with_reducible refine Kd.C_drew ?_))); (case side2 => exact HC0.out); (case side3 => repeat (first | exact (Kd.C_below HR1.out HB.out) | (with_reducible refine Kd.C_alloc ?_ _) | (with_reducible refine Kd.C_drewN ?_ _) | (with_reducible refine Kd.C_drew ?_))); (case side4 => exact HC1.out); rintro e w9 ⟨rfl, hb⟩; refine ⟨_, rfl, ?_⟩; have n0_ := Aside0.mk (below_step (by repeat (first | (with_reducible first | exact HB.out | apply below_alloc | apply pw_below_drewN | apply below_drew1) | exact HB.out)) hb); clear HB; have HB := n0_; clear n0_; (try clear hb); (try clear hb2); (try clear hk); (try clear hi)))
   go_meet
   case rel => exact ⟨_, (true), (by first | rfl | (simp; done) | (simp [*]; done) | (simp [isE_ne]; done)), H', ⟨by first | omega | exact Nat.le_refl _⟩, ⟨by repeat (first | (with_reducible first | exact HB.out | apply below_alloc | apply pw_below_drewN | apply below_drew1) | exact HB.out)⟩⟩
 case rest =>
  clear HC3
  try clear c1
  try clear p2
  try clear c4
  try clear c5
  try clear c6
  try clear c6b0
  try clear c6b1
  try clear c8
  obtain ⟨kq, x23_2, rfl, HA, HJ2, HB⟩ := hcut
  cases kq with
  | zero => exact absurd HA.out (by simp [jobshelllaw29_TestexprNegates.j0])
  | succ kj2 =>
   have H := HA.out
   clear HA
   simp only [jobshelllaw29_TestexprNegates.j0] at H
   by_cases c10 : x23_2 = true
   ·subst c10
    have H1 : ((jobshelllaw29_awake.f).bind fun t293 => (some t293)) = some r := by rw [if_pos rfl] at H; exact H
    clear H
    have H := H1
    clear H1
    replace H := Option.bind_eq_some_iff.mp H
    obtain ⟨t293, A110, H⟩ := H
    replace H : (some t293) = some r := H
    have A11 := Aside0.mk A110
    clear A110
    obtain rfl := Option.some.inj H
    go_wp2_with (first | ((with_reducible refine gate_callee (f := 9) rfl ?_); refine goesL_ (some 24) rfl rfl Tryd.func9 (by kernel_rfl) rfl #[] rfl (by (try simp only [List.map_toArray, List.map_cons, List.map_nil]); first | done | rfl | (simp only [List.length_drop, List.length_take]; rfl)) ?_; (with_reducible refine (jobshelllaw29_awake.calls  t293 _ ?side1 A11.out).mono ?_); (case side1 => repeat (first | exact (AmbC_below HAMB.out HB.out) | (with_reducible refine AmbC_alloc ?_ _) | (with_reducible refine AmbC_drewN ?_ _) | (with_reducible refine AmbC_drew ?_))); rintro e w12 ⟨rfl, hb⟩; refine ⟨_, rfl, ?_⟩; have n0_ := Aside0.mk (below_step (by repeat (first | (with_reducible first | exact HB.out | apply below_alloc | apply pw_below_drewN | apply below_drew1) | exact HB.out)) hb); clear HB; have HB := n0_; clear n0_; (try clear hb); (try clear hb2); (try clear hk); (try clear hi)))
    go_ret
    exact ⟨by first | rfl | (simp [errW_none, errW_some] <;> rfl) | (simp [*, errW_none, errW_some] <;> rfl), by repeat (first | (with_reducible first | exact HB.out | apply below_alloc | apply pw_below_drewN | apply below_drew1) | exact HB.out)⟩
   ·replace c10 := Bool.eq_false_iff.mpr c10
    subst c10
    have H1 : (if 0 < (l0.length : Int) then (if (l0.length : Int) = 2 then (if (rdOf ByteArray.empty l0 0).toList = ([61] : List UInt8) then (jobshelllaw29_TestexprNegates.j1 kj2 l0 l1 true) else (if (rdOf ByteArray.empty l0 0).toList = ([33, 61] : List UInt8) then (jobshelllaw29_TestexprNegates.j1 kj2 l0 l1 true) else (if (rdOf ByteArray.empty l0 0).toList = ([45, 101, 113] : List UInt8) then (jobshelllaw29_TestexprNegates.j1 kj2 l0 l1 true) else (if (rdOf ByteArray.empty l0 0).toList = ([45, 110, 101] : List UInt8) then (jobshelllaw29_TestexprNegates.j1 kj2 l0 l1 true) else (if (rdOf ByteArray.empty l0 0).toList = ([45, 108, 116] : List UInt8) then (jobshelllaw29_TestexprNegates.j1 kj2 l0 l1 true) else (if (rdOf ByteArray.empty l0 0).toList = ([45, 108, 101] : List UInt8) then (jobshelllaw29_TestexprNegates.j1 kj2 l0 l1 true) else (if (rdOf ByteArray.empty l0 0).toList = ([45, 103, 116] : List UInt8) then (jobshelllaw29_TestexprNegates.j1 kj2 l0 l1 true) else (if (rdOf ByteArray.empty l0 0).toList = ([45, 103, 101] : List UInt8) then (jobshelllaw29_TestexprNegates.j1 kj2 l0 l1 true) else (if (rdOf ByteArray.empty l0 0).toList = ([45, 97] : List UInt8) then (jobshelllaw29_TestexprNegates.j1 kj2 l0 l1 true) else (jobshelllaw29_TestexprNegates.j1 kj2 l0 l1 ((rdOf ByteArray.empty l0 0).toList == ([45, 111] : List UInt8)))))))))))) else (jobshelllaw29_TestexprNegates.j1 kj2 l0 l1 false)) else (none)) = some r := by rw [if_neg (show ¬ (false = true) by decide)] at H; exact H
    clear H
    have H := H1
    clear H1
    by_cases c13 : 0 < (l0.length : Int)
    ·rw [if_pos c13] at H
     have c13b0 : decide (0 < (l0.length : Int)) = true := decide_eq_true c13
     have c13b1 : decide (0 < l0.length) = true := decide_eq_true (by omega)
     clear c13
     have HC14 := Aside0.mk H
     clear H
     have p294 : 0 ≤ (0 : Int) := (by omega)
     have q294 : 0 < (l0.length : Int) := of_decide_eq_true (by first | (with_reducible assumption) | assumption)
     obtain ⟨ad294, e294, hx294_0⟩ := Kd.at_string HR0.out 0 p294 q294
     cases e294
     have qi294 : (0 < l0.length) = True := eq_true (by omega)
     (try rw [show ((0 : Int)).toNat = 0 from rfl] at hx294_0)
     (try rw [Addr.add_zero'] at hx294_0)
     replace hx294_0 := (HB.out.cell (World.block_lt_of_cell? w _ hx294_0)).trans hx294_0
     replace p294 := eq_true p294
     replace q294 := eq_true q294
     go_upto_region 4 with (fail)
     go_cut [70] (fun v70 wc => ∃ (kq : Nat) (x70_13 : Bool), v70 = .bool x70_13 ∧ Aside0 (jobshelllaw29_TestexprNegates.j1 kq l0 l1 x70_13 = some r) ∧ Aside0 (kq ≤ kj2) ∧ Aside0 (Below w.heap.size w wc))
     case first =>
      have H := HC14.out
      clear HC14
      by_cases c15 : (l0.length : Int) = 2
      ·rw [if_pos c15] at H
       have c15b0 : ((l0.length : Int) == 2) = true := beq_iff_eq.mpr c15
       have c15b1 : ((l0.length : Int) != 2) = false := bne_eq_false_iff_eq.mpr c15
       clear c15
       (first | rw [c15b0] | (simp only [i64_w, i32_w]; rw [c15b0]) | skip)
       by_cases c16 : (rdOf ByteArray.empty l0 0).toList = ([61] : List UInt8)
       ·rw [if_pos c16] at H
        have c16b0 : ((rdOf ByteArray.empty l0 0).toList == ([61] : List UInt8)) = true := beq_iff_eq.mpr c16
        have c16b1 : ((rdOf ByteArray.empty l0 0).toList != ([61] : List UInt8)) = false := bne_eq_false_iff_eq.mpr c16
        clear c16
        have H' := Aside0.mk H
        clear H
        go_wp2
        go_meet
        case rel => exact ⟨_, (true), (by first | rfl | (simp; done) | (simp [*]; done) | (simp [isE_ne]; done)), H', ⟨by have := HJ2.out; first | omega | exact Nat.le_refl _⟩, ⟨by repeat (first | (with_reducible first | exact HB.out | apply below_alloc | apply pw_below_drewN | apply below_drew1) | exact HB.out)⟩⟩
       ·rw [if_neg c16] at H
        have c16b0 : ((rdOf ByteArray.empty l0 0).toList == ([61] : List UInt8)) = false := beq_eq_false_iff_ne.mpr c16
        have c16b1 : ((rdOf ByteArray.empty l0 0).toList != ([61] : List UInt8)) = true := bne_iff_ne.mpr c16
        by_cases c17 : (rdOf ByteArray.empty l0 0).toList = ([33, 61] : List UInt8)
        ·rw [if_pos c17] at H
         have c17b0 : ((rdOf ByteArray.empty l0 0).toList == ([33, 61] : List UInt8)) = true := beq_iff_eq.mpr c17
         have c17b1 : ((rdOf ByteArray.empty l0 0).toList != ([33, 61] : List UInt8)) = false := bne_eq_false_iff_eq.mpr c17
         clear c17
         have H' := Aside0.mk H
         clear H
         go_wp2
         go_meet
         case rel => exact ⟨_, (true), (by first | rfl | (simp; done) | (simp [*]; done) | (simp [isE_ne]; done)), H', ⟨by have := HJ2.out; first | omega | exact Nat.le_refl _⟩, ⟨by repeat (first | (with_reducible first | exact HB.out | apply below_alloc | apply pw_below_drewN | apply below_drew1) | exact HB.out)⟩⟩
        ·rw [if_neg c17] at H
         have c17b0 : ((rdOf ByteArray.empty l0 0).toList == ([33, 61] : List UInt8)) = false := beq_eq_false_iff_ne.mpr c17
         have c17b1 : ((rdOf ByteArray.empty l0 0).toList != ([33, 61] : List UInt8)) = true := bne_iff_ne.mpr c17
         by_cases c18 : (rdOf ByteArray.empty l0 0).toList = ([45, 101, 113] : List UInt8)
         ·rw [if_pos c18] at H
          have c18b0 : ((rdOf ByteArray.empty l0 0).toList == ([45, 101, 113] : List UInt8)) = true := beq_iff_eq.mpr c18
          have c18b1 : ((rdOf ByteArray.empty l0 0).toList != ([45, 101, 113] : List UInt8)) = false := bne_eq_false_iff_eq.mpr c18
          clear c18
          have H' := Aside0.mk H
          clear H
          go_wp2
          go_meet
          case rel => exact ⟨_, (true), (by first | rfl | (simp; done) | (simp [*]; done) | (simp [isE_ne]; done)), H', ⟨by have := HJ2.out; first | omega | exact Nat.le_refl _⟩, ⟨by repeat (first | (with_reducible first | exact HB.out | apply below_alloc | apply pw_below_drewN | apply below_drew1) | exact HB.out)⟩⟩
         ·rw [if_neg c18] at H
          have c18b0 : ((rdOf ByteArray.empty l0 0).toList == ([45, 101, 113] : List UInt8)) = false := beq_eq_false_iff_ne.mpr c18
          have c18b1 : ((rdOf ByteArray.empty l0 0).toList != ([45, 101, 113] : List UInt8)) = true := bne_iff_ne.mpr c18
          by_cases c19 : (rdOf ByteArray.empty l0 0).toList = ([45, 110, 101] : List UInt8)
          ·rw [if_pos c19] at H
           have c19b0 : ((rdOf ByteArray.empty l0 0).toList == ([45, 110, 101] : List UInt8)) = true := beq_iff_eq.mpr c19
           have c19b1 : ((rdOf ByteArray.empty l0 0).toList != ([45, 110, 101] : List UInt8)) = false := bne_eq_false_iff_eq.mpr c19
           clear c19
           have H' := Aside0.mk H
           clear H
           go_wp2
           go_meet
           case rel => exact ⟨_, (true), (by first | rfl | (simp; done) | (simp [*]; done) | (simp [isE_ne]; done)), H', ⟨by have := HJ2.out; first | omega | exact Nat.le_refl _⟩, ⟨by repeat (first | (with_reducible first | exact HB.out | apply below_alloc | apply pw_below_drewN | apply below_drew1) | exact HB.out)⟩⟩
          ·rw [if_neg c19] at H
           have c19b0 : ((rdOf ByteArray.empty l0 0).toList == ([45, 110, 101] : List UInt8)) = false := beq_eq_false_iff_ne.mpr c19
           have c19b1 : ((rdOf ByteArray.empty l0 0).toList != ([45, 110, 101] : List UInt8)) = true := bne_iff_ne.mpr c19
           by_cases c20 : (rdOf ByteArray.empty l0 0).toList = ([45, 108, 116] : List UInt8)
           ·rw [if_pos c20] at H
            have c20b0 : ((rdOf ByteArray.empty l0 0).toList == ([45, 108, 116] : List UInt8)) = true := beq_iff_eq.mpr c20
            have c20b1 : ((rdOf ByteArray.empty l0 0).toList != ([45, 108, 116] : List UInt8)) = false := bne_eq_false_iff_eq.mpr c20
            clear c20
            have H' := Aside0.mk H
            clear H
            go_wp2
            go_meet
            case rel => exact ⟨_, (true), (by first | rfl | (simp; done) | (simp [*]; done) | (simp [isE_ne]; done)), H', ⟨by have := HJ2.out; first | omega | exact Nat.le_refl _⟩, ⟨by repeat (first | (with_reducible first | exact HB.out | apply below_alloc | apply pw_below_drewN | apply below_drew1) | exact HB.out)⟩⟩
           ·rw [if_neg c20] at H
            have c20b0 : ((rdOf ByteArray.empty l0 0).toList == ([45, 108, 116] : List UInt8)) = false := beq_eq_false_iff_ne.mpr c20
            have c20b1 : ((rdOf ByteArray.empty l0 0).toList != ([45, 108, 116] : List UInt8)) = true := bne_iff_ne.mpr c20
            by_cases c21 : (rdOf ByteArray.empty l0 0).toList = ([45, 108, 101] : List UInt8)
            ·rw [if_pos c21] at H
             have c21b0 : ((rdOf ByteArray.empty l0 0).toList == ([45, 108, 101] : List UInt8)) = true := beq_iff_eq.mpr c21
             have c21b1 : ((rdOf ByteArray.empty l0 0).toList != ([45, 108, 101] : List UInt8)) = false := bne_eq_false_iff_eq.mpr c21
             clear c21
             have H' := Aside0.mk H
             clear H
             go_wp2
             go_meet
             case rel => exact ⟨_, (true), (by first | rfl | (simp; done) | (simp [*]; done) | (simp [isE_ne]; done)), H', ⟨by have := HJ2.out; first | omega | exact Nat.le_refl _⟩, ⟨by repeat (first | (with_reducible first | exact HB.out | apply below_alloc | apply pw_below_drewN | apply below_drew1) | exact HB.out)⟩⟩
            ·rw [if_neg c21] at H
             have c21b0 : ((rdOf ByteArray.empty l0 0).toList == ([45, 108, 101] : List UInt8)) = false := beq_eq_false_iff_ne.mpr c21
             have c21b1 : ((rdOf ByteArray.empty l0 0).toList != ([45, 108, 101] : List UInt8)) = true := bne_iff_ne.mpr c21
             by_cases c22 : (rdOf ByteArray.empty l0 0).toList = ([45, 103, 116] : List UInt8)
             ·rw [if_pos c22] at H
              have c22b0 : ((rdOf ByteArray.empty l0 0).toList == ([45, 103, 116] : List UInt8)) = true := beq_iff_eq.mpr c22
              have c22b1 : ((rdOf ByteArray.empty l0 0).toList != ([45, 103, 116] : List UInt8)) = false := bne_eq_false_iff_eq.mpr c22
              clear c22
              have H' := Aside0.mk H
              clear H
              go_wp2
              go_meet
              case rel => exact ⟨_, (true), (by first | rfl | (simp; done) | (simp [*]; done) | (simp [isE_ne]; done)), H', ⟨by have := HJ2.out; first | omega | exact Nat.le_refl _⟩, ⟨by repeat (first | (with_reducible first | exact HB.out | apply below_alloc | apply pw_below_drewN | apply below_drew1) | exact HB.out)⟩⟩
             ·rw [if_neg c22] at H
              have c22b0 : ((rdOf ByteArray.empty l0 0).toList == ([45, 103, 116] : List UInt8)) = false := beq_eq_false_iff_ne.mpr c22
              have c22b1 : ((rdOf ByteArray.empty l0 0).toList != ([45, 103, 116] : List UInt8)) = true := bne_iff_ne.mpr c22
              by_cases c23 : (rdOf ByteArray.empty l0 0).toList = ([45, 103, 101] : List UInt8)
              ·rw [if_pos c23] at H
               have c23b0 : ((rdOf ByteArray.empty l0 0).toList == ([45, 103, 101] : List UInt8)) = true := beq_iff_eq.mpr c23
               have c23b1 : ((rdOf ByteArray.empty l0 0).toList != ([45, 103, 101] : List UInt8)) = false := bne_eq_false_iff_eq.mpr c23
               clear c23
               have H' := Aside0.mk H
               clear H
               go_wp2
               go_meet
               case rel => exact ⟨_, (true), (by first | rfl | (simp; done) | (simp [*]; done) | (simp [isE_ne]; done)), H', ⟨by have := HJ2.out; first | omega | exact Nat.le_refl _⟩, ⟨by repeat (first | (with_reducible first | exact HB.out | apply below_alloc | apply pw_below_drewN | apply below_drew1) | exact HB.out)⟩⟩
              ·rw [if_neg c23] at H
               have c23b0 : ((rdOf ByteArray.empty l0 0).toList == ([45, 103, 101] : List UInt8)) = false := beq_eq_false_iff_ne.mpr c23
               have c23b1 : ((rdOf ByteArray.empty l0 0).toList != ([45, 103, 101] : List UInt8)) = true := bne_iff_ne.mpr c23
               by_cases c24 : (rdOf ByteArray.empty l0 0).toList = ([45, 97] : List UInt8)
               ·rw [if_pos c24] at H
                have c24b0 : ((rdOf ByteArray.empty l0 0).toList == ([45, 97] : List UInt8)) = true := beq_iff_eq.mpr c24
                have c24b1 : ((rdOf ByteArray.empty l0 0).toList != ([45, 97] : List UInt8)) = false := bne_eq_false_iff_eq.mpr c24
                clear c24
                have H' := Aside0.mk H
                clear H
                go_wp2
                go_meet
                case rel => exact ⟨_, (true), (by first | rfl | (simp; done) | (simp [*]; done) | (simp [isE_ne]; done)), H', ⟨by have := HJ2.out; first | omega | exact Nat.le_refl _⟩, ⟨by repeat (first | (with_reducible first | exact HB.out | apply below_alloc | apply pw_below_drewN | apply below_drew1) | exact HB.out)⟩⟩
               ·rw [if_neg c24] at H
                have c24b0 : ((rdOf ByteArray.empty l0 0).toList == ([45, 97] : List UInt8)) = false := beq_eq_false_iff_ne.mpr c24
                have c24b1 : ((rdOf ByteArray.empty l0 0).toList != ([45, 97] : List UInt8)) = true := bne_iff_ne.mpr c24
                have H' := Aside0.mk H
                clear H
                go_wp2
                go_meet
                case rel => exact ⟨_, (((rdOf ByteArray.empty l0 0).toList == ([45, 111] : List UInt8))), (by first | rfl | (simp; done) | (simp [*]; done) | (simp [isE_ne]; done)), H', ⟨by have := HJ2.out; first | omega | exact Nat.le_refl _⟩, ⟨by repeat (first | (with_reducible first | exact HB.out | apply below_alloc | apply pw_below_drewN | apply below_drew1) | exact HB.out)⟩⟩
      ·rw [if_neg c15] at H
       have c15b0 : ((l0.length : Int) == 2) = false := beq_eq_false_iff_ne.mpr c15
       have c15b1 : ((l0.length : Int) != 2) = true := bne_iff_ne.mpr c15
       (first | rw [c15b0] | (simp only [i64_w, i32_w]; rw [c15b0]) | skip)
       have H' := Aside0.mk H
       clear H
       go_wp2
       go_meet
       case rel => exact ⟨_, (false), (by first | rfl | (simp; done) | (simp [*]; done) | (simp [isE_ne]; done)), H', ⟨by have := HJ2.out; first | omega | exact Nat.le_refl _⟩, ⟨by repeat (first | (with_reducible first | exact HB.out | apply below_alloc | apply pw_below_drewN | apply below_drew1) | exact HB.out)⟩⟩
     case rest =>
      clear HC14
      try clear c1
      try clear c2
      try clear p2
      try clear q2
      try clear hx2
      try clear qi2
      try clear c4
      try clear c5
      try clear c6
      try clear c6b0
      try clear c6b1
      try clear c8
      try clear c9
      try clear c10
      try clear c13
      try clear c13b0
      try clear c13b1
      try clear c15
      try clear c15b0
      try clear c15b1
      try clear c16
      try clear c16b0
      try clear c16b1
      try clear c17
      try clear c17b0
      try clear c17b1
      try clear c18
      try clear c18b0
      try clear c18b1
      try clear c19
      try clear c19b0
      try clear c19b1
      try clear c20
      try clear c20b0
      try clear c20b1
      try clear c21
      try clear c21b0
      try clear c21b1
      try clear c22
      try clear c22b0
      try clear c22b1
      try clear c23
      try clear c23b0
      try clear c23b1
      try clear c24
      try clear c24b0
      try clear c24b1
      try clear hx294_0
      try clear p2
      try clear p294
      try clear q294
      obtain ⟨kq, x70_13, rfl, HA, HJ13, HB⟩ := hcut
      cases kq with
      | zero => exact absurd HA.out (by simp [jobshelllaw29_TestexprNegates.j1])
      | succ kj13 =>
       have H := HA.out
       clear HA
       simp only [jobshelllaw29_TestexprNegates.j1] at H
       by_cases c25 : x70_13 = true
       ·subst c25
        have H1 : ((jobshelllaw29_awake.f).bind fun t295 => (some t295)) = some r := by rw [if_pos rfl] at H; exact H
        clear H
        have H := H1
        clear H1
        replace H := Option.bind_eq_some_iff.mp H
        obtain ⟨t295, A260, H⟩ := H
        replace H : (some t295) = some r := H
        have A26 := Aside0.mk A260
        clear A260
        obtain rfl := Option.some.inj H
        go_wp2_with (first | ((with_reducible refine gate_callee (f := 9) rfl ?_); refine goesL_ (some 71) rfl rfl Tryd.func9 (by kernel_rfl) rfl #[] rfl (by (try simp only [List.map_toArray, List.map_cons, List.map_nil]); first | done | rfl | (simp only [List.length_drop, List.length_take]; rfl)) ?_; (with_reducible refine (jobshelllaw29_awake.calls  t295 _ ?side1 A26.out).mono ?_); (case side1 => repeat (first | exact (AmbC_below HAMB.out HB.out) | (with_reducible refine AmbC_alloc ?_ _) | (with_reducible refine AmbC_drewN ?_ _) | (with_reducible refine AmbC_drew ?_))); rintro e w27 ⟨rfl, hb⟩; refine ⟨_, rfl, ?_⟩; have n0_ := Aside0.mk (below_step (by repeat (first | (with_reducible first | exact HB.out | apply below_alloc | apply pw_below_drewN | apply below_drew1) | exact HB.out)) hb); clear HB; have HB := n0_; clear n0_; (try clear hb); (try clear hb2); (try clear hk); (try clear hi)))
        go_ret
        exact ⟨by first | rfl | (simp [errW_none, errW_some] <;> rfl) | (simp [*, errW_none, errW_some] <;> rfl), by repeat (first | (with_reducible first | exact HB.out | apply below_alloc | apply pw_below_drewN | apply below_drew1) | exact HB.out)⟩
       ·replace c25 := Bool.eq_false_iff.mpr c25
        subst c25
        have H1 : ((testexpr_Eval.f l0 l1 (⟨#[47]⟩ : ByteArray)).bind fun bt296 => ((some (([(⟨#[33]⟩ : ByteArray)] : List ByteArray) : List ByteArray)).bind fun y298 => (if y298.length + l0.length < 8796093022208 then ((testexpr_Eval.f (y298 ++ l0) l1 (⟨#[47]⟩ : ByteArray)).bind fun bt304 => (if bt296.2 = bt304.2 then (if bt296.2 = 0 then (if (bt296.1 != bt304.1) = true then ((jobshelllaw29_awake.f).bind fun t306 => (some t306)) else (some false)) else (if bt296.1 = true then (some false) else (if bt304.1 = true then (some false) else ((jobshelllaw29_awake.f).bind fun t307 => (some t307))))) else (some false))) else (none)))) = some r := by rw [if_neg (show ¬ (false = true) by decide)] at H; exact H
        clear H
        have H := H1
        clear H1
        replace H := Option.bind_eq_some_iff.mp H
        obtain ⟨⟨t296, t297⟩, A280, H⟩ := H
        replace H : ((some (([(⟨#[33]⟩ : ByteArray)] : List ByteArray) : List ByteArray)).bind fun y298 => (if y298.length + l0.length < 8796093022208 then ((testexpr_Eval.f (y298 ++ l0) l1 (⟨#[47]⟩ : ByteArray)).bind fun bt304 => (if t297 = bt304.2 then (if t297 = 0 then (if (t296 != bt304.1) = true then ((jobshelllaw29_awake.f).bind fun t306 => (some t306)) else (some false)) else (if t296 = true then (some false) else (if bt304.1 = true then (some false) else ((jobshelllaw29_awake.f).bind fun t307 => (some t307))))) else (some false))) else (none))) = some r := H
        have A28 := Aside0.mk A280
        clear A280
        obtain ⟨y298, hy298⟩ : ∃ y_ : List ByteArray, y_ = (([(⟨#[33]⟩ : ByteArray)] : List ByteArray)) := ⟨_, rfl⟩
        replace H : (if y298.length + l0.length < 8796093022208 then ((testexpr_Eval.f (y298 ++ l0) l1 (⟨#[47]⟩ : ByteArray)).bind fun bt304 => (if t297 = bt304.2 then (if t297 = 0 then (if (t296 != bt304.1) = true then ((jobshelllaw29_awake.f).bind fun t306 => (some t306)) else (some false)) else (if t296 = true then (some false) else (if bt304.1 = true then (some false) else ((jobshelllaw29_awake.f).bind fun t307 => (some t307))))) else (some false))) else (none)) = some r := by first | (rw [hy298]; with_reducible exact H) | (have H2_ := (Option.bind_some _ _).symm.trans H; rw [hy298]; with_reducible exact H2_) | (have H2_ := (Option.bind_some _ _).symm.trans H; with_reducible exact H2_) | with_reducible exact H | (rw [hy298]; exact H) | exact H
        have Ny298 := Aside0.mk hy298
        clear hy298
        by_cases c29 : y298.length + l0.length < 8796093022208
        ·rw [if_pos c29] at H
         have LMc29 := Aside0.mk c29
         clear c29
         obtain ⟨y301, hy301⟩ : ∃ y_ : List ByteArray, y_ = (y298 ++ l0) := ⟨_, rfl⟩
         replace H : ((testexpr_Eval.f y301 l1 (⟨#[47]⟩ : ByteArray)).bind fun bt304 => (if t297 = bt304.2 then (if t297 = 0 then (if (t296 != bt304.1) = true then ((jobshelllaw29_awake.f).bind fun t306 => (some t306)) else (some false)) else (if t296 = true then (some false) else (if bt304.1 = true then (some false) else ((jobshelllaw29_awake.f).bind fun t307 => (some t307))))) else (some false))) = some r := by first | (rw [hy301]; with_reducible exact H) | (have H2_ := (Option.bind_some _ _).symm.trans H; rw [hy301]; with_reducible exact H2_) | (have H2_ := (Option.bind_some _ _).symm.trans H; with_reducible exact H2_) | with_reducible exact H | (rw [hy301]; exact H) | exact H
         have Ny301 := Aside0.mk hy301
         clear hy301
         replace H := Option.bind_eq_some_iff.mp H
         obtain ⟨⟨t304, t305⟩, A300, H⟩ := H
         replace H : (if t297 = t305 then (if t297 = 0 then (if (t296 != t304) = true then ((jobshelllaw29_awake.f).bind fun t306 => (some t306)) else (some false)) else (if t296 = true then (some false) else (if t304 = true then (some false) else ((jobshelllaw29_awake.f).bind fun t307 => (some t307))))) else (some false)) = some r := H
         have A30 := Aside0.mk A300
         clear A300
         by_cases c31 : t297 = t305
         ·rw [if_pos c31] at H
          have c31b0 : (t297 == t305) = true := beq_iff_eq.mpr c31
          have c31b1 : (t297 != t305) = false := bne_eq_false_iff_eq.mpr c31
          clear c31
          by_cases c32 : t297 = 0
          ·rw [if_pos c32] at H
           have c32b0 : (t297 == 0) = true := beq_iff_eq.mpr c32
           have c32b1 : (t297 != 0) = false := bne_eq_false_iff_eq.mpr c32
           clear c32
           by_cases c33 : (t296 != t304) = true
           ·rw [if_pos c33] at H
            have c33b0 : (t296 != t304) = true := c33
            (try (have c33b1 : decide (t296 = t304) = false := by simpa using c33))
            (try (have c33b2 : (t296 == t304) = false := by simpa using c33))
            (try (have c33b3 : ¬ (t296 = t304) := by simpa using c33))
            clear c33
            replace H := Option.bind_eq_some_iff.mp H
            obtain ⟨t306, A340, H⟩ := H
            replace H : (some t306) = some r := H
            have A34 := Aside0.mk A340
            clear A340
            obtain rfl := Option.some.inj H
            go_wp2_with (first | ((with_reducible refine gate_callee (f := 10) rfl ?_); refine goesL_ (some 75) rfl rfl Tryd.func10 (by kernel_rfl) rfl #[.slice (some ad294) l0.length c0, .slice A1 l1.length c1, .string (⟨#[47]⟩ : ByteArray)] rfl (by (try simp only [List.map_toArray, List.map_cons, List.map_nil]); first | done | rfl | (simp only [List.length_drop, List.length_take]; rfl)) ?_; (with_reducible refine (testexpr_Eval.calls _ _ l0 _ _ l1 (⟨#[47]⟩ : ByteArray) t296 t297 _ ?side1 ?side2 ?side3 ?side4 ?side5 A28.out).mono ?_); (case side1 => repeat (first | exact (Kd.C_below HR0.out HB.out) | (with_reducible refine Kd.C_alloc ?_ _) | (with_reducible refine Kd.C_drewN ?_ _) | (with_reducible refine Kd.C_drew ?_))); (case side2 => exact HC0.out); (case side3 => repeat (first | exact (Kd.C_below HR1.out HB.out) | (with_reducible refine Kd.C_alloc ?_ _) | (with_reducible refine Kd.C_drewN ?_ _) | (with_reducible refine Kd.C_drew ?_))); (case side4 => exact HC1.out); (case side5 => repeat (first | exact (AmbC_below HAMB.out HB.out) | (with_reducible refine AmbC_alloc ?_ _) | (with_reducible refine AmbC_drewN ?_ _) | (with_reducible refine AmbC_drew ?_))); rintro e w35 ⟨rfl, hb⟩; refine ⟨_, rfl, ?_⟩; have n0_ := Aside0.mk (below_step (by repeat (first | (with_reducible first | exact HB.out | apply below_alloc | apply pw_below_drewN | apply below_drew1) | exact HB.out)) hb); clear HB; have HB := n0_; clear n0_; (try clear hb); (try clear hb2); (try clear hk); (try clear hi)) | ((with_reducible refine gate_dst (N := 79) rfl ?_); (try (refine gate_guard (by rfl) ?_; dsimp only)); refine Kd.R_lit Kd.string _ 9 ?hg (N := 79) ?hd (xs := ([(⟨#[33]⟩ : ByteArray)] : List ByteArray)) (inner := [.string (⟨#[33]⟩ : ByteArray)]) (ok := fun _ => True) (okp := fun _ => True) ?hr ?hp (fun _ hk => hk) trivial (Below.refl _ _) (Nat.le_refl _) (by simp) ?_; (case hd => rfl); (case hg => rfl); (case hr => first | (go_simp; done) | (go_simp; rfl)); (case hp => exact (Reps.one (show Kd.M Kd.string _ _ _ (⟨#[33]⟩ : ByteArray) [.string (⟨#[33]⟩ : ByteArray)] from rfl) (Reps.none _ _))); intro v299 w36 ho37 hb hg_ hnew_; clear hg_ hnew_; (first | rw [← Ny298.out] at ho37 | (simp only [Int.reduceToNat] at ho37; rw [← Ny298.out] at ho37)); have n0_ := Aside0.mk (Kd.R_lower ho37 (below_size (by repeat (first | (with_reducible first | exact HB.out | apply below_alloc | apply pw_below_drewN | apply below_drew1) | exact HB.out)))); have n1_ := Aside0.mk (below_step (by repeat (first | (with_reducible first | exact HB.out | apply below_alloc | apply pw_below_drewN | apply below_drew1) | exact HB.out)) hb); clear HB; have HO300 := n0_; have HB := n1_; clear n0_ n1_; clear hb ho37) | ((with_reducible refine gate_builtin (b := .append) (xs := #[.tmp 79, .tmp 80]) rfl ?_); (try (refine gate_guard (by rfl) ?_; dsimp only)); at_builtin; refine Kd.R_append_rows Kd.string (w0 := w) w.heap.size rfl (.tmp 79) (.tmp 80) 22 9 (.string ⟨#[]⟩) 16 rfl Tryd.underlying22 info9 rfl (by decide) (by omega) v299 y298 l0 _ _ _ (fun _ => True) (fun _ => False) rfl rfl ?aO ?aR (fun _ _ h => h) (fun _ h => h.elim) ?aF ?aB ?aS ?aL ?_; (case aR => repeat (first | exact (Kd.C_below HR0.out HB.out) | (with_reducible refine Kd.C_alloc ?_ _) | (with_reducible refine Kd.C_drewN ?_ _) | (with_reducible refine Kd.C_drew ?_))); (case aB => exact (by repeat (first | (with_reducible first | exact HB.out | apply below_alloc | apply pw_below_drewN | apply below_drew1) | exact HB.out))); (case aF => exact (fun _ _ => trivial)); (case aO => exact (by (with_reducible repeat (first | apply Kd.R_alloc | apply Kd.R_drewN | apply Kd.R_drew)); exact HO300.out)); (case aS => exact (below_size (by repeat (first | (with_reducible first | exact HB.out | apply below_alloc | apply pw_below_drewN | apply below_drew1) | exact HB.out)))); (case aL => have := LMc29.out; omega); intro v302 w38 ho hb hg hat; rw [← Ny301.out] at ho; have n0_ := Aside0.mk (hb); have n1_ := Aside0.mk (ho); clear HB; clear HO300; have HB := n0_; have HO303 := n1_; clear n0_ n1_; clear ho hb hg hat; obtain ⟨Ao39, co39, eo39⟩ := Kd.R_slice HO303.out; subst eo39) | ((with_reducible refine gate_callee (f := 10) rfl ?_); refine goesL_ (some 83) rfl rfl Tryd.func10 (by kernel_rfl) rfl #[.slice Ao39 y301.length co39, .slice A1 l1.length c1, .string (⟨#[47]⟩ : ByteArray)] rfl (by (try simp only [List.map_toArray, List.map_cons, List.map_nil]); first | done | rfl | (simp only [List.length_drop, List.length_take]; rfl)) ?_; (with_reducible refine (testexpr_Eval.calls _ _ y301 _ _ l1 (⟨#[47]⟩ : ByteArray) t304 t305 _ ?side1 ?side2 ?side3 ?side4 ?side5 A30.out).mono ?_); (case side1 => repeat (first | exact (Kd.R_reads' HO303.out).2.2 | (with_reducible refine Kd.C_alloc ?_ _) | (with_reducible refine Kd.C_drewN ?_ _) | (with_reducible refine Kd.C_drew ?_))); (case side2 => exact (Kd.R_reads' HO303.out).2.1); (case side3 => repeat (first | exact (Kd.C_below HR1.out HB.out) | (with_reducible refine Kd.C_alloc ?_ _) | (with_reducible refine Kd.C_drewN ?_ _) | (with_reducible refine Kd.C_drew ?_))); (case side4 => exact HC1.out); (case side5 => repeat (first | exact (AmbC_below HAMB.out HB.out) | (with_reducible refine AmbC_alloc ?_ _) | (with_reducible refine AmbC_drewN ?_ _) | (with_reducible refine AmbC_drew ?_))); rintro e w40 ⟨rfl, hb⟩; refine ⟨_, rfl, ?_⟩; have n0_ := Aside0.mk (Kd.R_below (by (with_reducible repeat (first | apply Kd.R_alloc | apply Kd.R_drewN | apply Kd.R_drew)); exact HO303.out) hb); have n1_ := Aside0.mk (below_step (by repeat (first | (with_reducible first | exact HB.out | apply below_alloc | apply pw_below_drewN | apply below_drew1) | exact HB.out)) hb); clear HO303; clear HB; have HO303 := n0_; have HB := n1_; clear n0_ n1_; (try clear hb); (try clear hb2); (try clear hk); (try clear hi)) | (go_at_call 9; (with_reducible refine (jobshelllaw29_awake.calls  t306 _ ?side1 A34.out).mono ?_); (case side1 => repeat (first | exact (AmbC_below HAMB.out HB.out) | (with_reducible refine AmbC_alloc ?_ _) | (with_reducible refine AmbC_drewN ?_ _) | (with_reducible refine AmbC_drew ?_))); rintro e w41 ⟨rfl, hb⟩; have n0_ := Aside0.mk (Kd.R_below (by (with_reducible repeat (first | apply Kd.R_alloc | apply Kd.R_drewN | apply Kd.R_drew)); exact HO303.out) hb); have n1_ := Aside0.mk (below_step (by repeat (first | (with_reducible first | exact HB.out | apply below_alloc | apply pw_below_drewN | apply below_drew1) | exact HB.out)) hb); clear HO303; clear HB; have HO303 := n0_; have HB := n1_; clear n0_ n1_; (try clear hb); (try clear hb2); (try clear hk); (try clear hi)))
            go_ret
            exact ⟨by first | rfl | (simp [errW_none, errW_some] <;> rfl) | (simp [*, errW_none, errW_some] <;> rfl), by repeat (first | (with_reducible first | exact HB.out | apply below_alloc | apply pw_below_drewN | apply below_drew1) | exact HB.out)⟩
           ·rw [if_neg c33] at H
            have c33b0 : (t296 != t304) = false := by simpa using c33
            (try (have c33b1 : decide (t296 = t304) = true := by simpa using c33))
            (try (have c33b2 : (t296 == t304) = true := by simpa using c33))
            clear c33
            obtain rfl := Option.some.inj H
            go_wp2_with (first | ((with_reducible refine gate_callee (f := 10) rfl ?_); refine goesL_ (some 75) rfl rfl Tryd.func10 (by kernel_rfl) rfl #[.slice (some ad294) l0.length c0, .slice A1 l1.length c1, .string (⟨#[47]⟩ : ByteArray)] rfl (by (try simp only [List.map_toArray, List.map_cons, List.map_nil]); first | done | rfl | (simp only [List.length_drop, List.length_take]; rfl)) ?_; (with_reducible refine (testexpr_Eval.calls _ _ l0 _ _ l1 (⟨#[47]⟩ : ByteArray) t296 t297 _ ?side1 ?side2 ?side3 ?side4 ?side5 A28.out).mono ?_); (case side1 => repeat (first | exact (Kd.C_below HR0.out HB.out) | (with_reducible refine Kd.C_alloc ?_ _) | (with_reducible refine Kd.C_drewN ?_ _) | (with_reducible refine Kd.C_drew ?_))); (case side2 => exact HC0.out); (case side3 => repeat (first | exact (Kd.C_below HR1.out HB.out) | (with_reducible refine Kd.C_alloc ?_ _) | (with_reducible refine Kd.C_drewN ?_ _) | (with_reducible refine Kd.C_drew ?_))); (case side4 => exact HC1.out); (case side5 => repeat (first | exact (AmbC_below HAMB.out HB.out) | (with_reducible refine AmbC_alloc ?_ _) | (with_reducible refine AmbC_drewN ?_ _) | (with_reducible refine AmbC_drew ?_))); rintro e w42 ⟨rfl, hb⟩; refine ⟨_, rfl, ?_⟩; have n0_ := Aside0.mk (below_step (by repeat (first | (with_reducible first | exact HB.out | apply below_alloc | apply pw_below_drewN | apply below_drew1) | exact HB.out)) hb); clear HB; have HB := n0_; clear n0_; (try clear hb); (try clear hb2); (try clear hk); (try clear hi)) | ((with_reducible refine gate_dst (N := 79) rfl ?_); (try (refine gate_guard (by rfl) ?_; dsimp only)); refine Kd.R_lit Kd.string _ 9 ?hg (N := 79) ?hd (xs := ([(⟨#[33]⟩ : ByteArray)] : List ByteArray)) (inner := [.string (⟨#[33]⟩ : ByteArray)]) (ok := fun _ => True) (okp := fun _ => True) ?hr ?hp (fun _ hk => hk) trivial (Below.refl _ _) (Nat.le_refl _) (by simp) ?_; (case hd => rfl); (case hg => rfl); (case hr => first | (go_simp; done) | (go_simp; rfl)); (case hp => exact (Reps.one (show Kd.M Kd.string _ _ _ (⟨#[33]⟩ : ByteArray) [.string (⟨#[33]⟩ : ByteArray)] from rfl) (Reps.none _ _))); intro v299 w43 ho44 hb hg_ hnew_; clear hg_ hnew_; (first | rw [← Ny298.out] at ho44 | (simp only [Int.reduceToNat] at ho44; rw [← Ny298.out] at ho44)); have n0_ := Aside0.mk (Kd.R_lower ho44 (below_size (by repeat (first | (with_reducible first | exact HB.out | apply below_alloc | apply pw_below_drewN | apply below_drew1) | exact HB.out)))); have n1_ := Aside0.mk (below_step (by repeat (first | (with_reducible first | exact HB.out | apply below_alloc | apply pw_below_drewN | apply below_drew1) | exact HB.out)) hb); clear HB; have HO300 := n0_; have HB := n1_; clear n0_ n1_; clear hb ho44) | ((with_reducible refine gate_builtin (b := .append) (xs := #[.tmp 79, .tmp 80]) rfl ?_); (try (refine gate_guard (by rfl) ?_; dsimp only)); at_builtin; refine Kd.R_append_rows Kd.string (w0 := w) w.heap.size rfl (.tmp 79) (.tmp 80) 22 9 (.string ⟨#[]⟩) 16 rfl Tryd.underlying22 info9 rfl (by decide) (by omega) v299 y298 l0 _ _ _ (fun _ => True) (fun _ => False) rfl rfl ?aO ?aR (fun _ _ h => h) (fun _ h => h.elim) ?aF ?aB ?aS ?aL ?_; (case aR => repeat (first | exact (Kd.C_below HR0.out HB.out) | (with_reducible refine Kd.C_alloc ?_ _) | (with_reducible refine Kd.C_drewN ?_ _) | (with_reducible refine Kd.C_drew ?_))); (case aB => exact (by repeat (first | (with_reducible first | exact HB.out | apply below_alloc | apply pw_below_drewN | apply below_drew1) | exact HB.out))); (case aF => exact (fun _ _ => trivial)); (case aO => exact (by (with_reducible repeat (first | apply Kd.R_alloc | apply Kd.R_drewN | apply Kd.R_drew)); exact HO300.out)); (case aS => exact (below_size (by repeat (first | (with_reducible first | exact HB.out | apply below_alloc | apply pw_below_drewN | apply below_drew1) | exact HB.out)))); (case aL => have := LMc29.out; omega); intro v302 w45 ho hb hg hat; rw [← Ny301.out] at ho; have n0_ := Aside0.mk (hb); have n1_ := Aside0.mk (ho); clear HB; clear HO300; have HB := n0_; have HO303 := n1_; clear n0_ n1_; clear ho hb hg hat; obtain ⟨Ao46, co46, eo46⟩ := Kd.R_slice HO303.out; subst eo46) | ((with_reducible refine gate_callee (f := 10) rfl ?_); refine goesL_ (some 83) rfl rfl Tryd.func10 (by kernel_rfl) rfl #[.slice Ao46 y301.length co46, .slice A1 l1.length c1, .string (⟨#[47]⟩ : ByteArray)] rfl (by (try simp only [List.map_toArray, List.map_cons, List.map_nil]); first | done | rfl | (simp only [List.length_drop, List.length_take]; rfl)) ?_; (with_reducible refine (testexpr_Eval.calls _ _ y301 _ _ l1 (⟨#[47]⟩ : ByteArray) t304 t305 _ ?side1 ?side2 ?side3 ?side4 ?side5 A30.out).mono ?_); (case side1 => repeat (first | exact (Kd.R_reads' HO303.out).2.2 | (with_reducible refine Kd.C_alloc ?_ _) | (with_reducible refine Kd.C_drewN ?_ _) | (with_reducible refine Kd.C_drew ?_))); (case side2 => exact (Kd.R_reads' HO303.out).2.1); (case side3 => repeat (first | exact (Kd.C_below HR1.out HB.out) | (with_reducible refine Kd.C_alloc ?_ _) | (with_reducible refine Kd.C_drewN ?_ _) | (with_reducible refine Kd.C_drew ?_))); (case side4 => exact HC1.out); (case side5 => repeat (first | exact (AmbC_below HAMB.out HB.out) | (with_reducible refine AmbC_alloc ?_ _) | (with_reducible refine AmbC_drewN ?_ _) | (with_reducible refine AmbC_drew ?_))); rintro e w47 ⟨rfl, hb⟩; refine ⟨_, rfl, ?_⟩; have n0_ := Aside0.mk (Kd.R_below (by (with_reducible repeat (first | apply Kd.R_alloc | apply Kd.R_drewN | apply Kd.R_drew)); exact HO303.out) hb); have n1_ := Aside0.mk (below_step (by repeat (first | (with_reducible first | exact HB.out | apply below_alloc | apply pw_below_drewN | apply below_drew1) | exact HB.out)) hb); clear HO303; clear HB; have HO303 := n0_; have HB := n1_; clear n0_ n1_; (try clear hb); (try clear hb2); (try clear hk); (try clear hi)))
            go_ret
            exact ⟨by first | rfl | (simp [errW_none, errW_some] <;> rfl) | (simp [*, errW_none, errW_some] <;> rfl), by repeat (first | (with_reducible first | exact HB.out | apply below_alloc | apply pw_below_drewN | apply below_drew1) | exact HB.out)⟩
          ·rw [if_neg c32] at H
           have c32b0 : (t297 == 0) = false := beq_eq_false_iff_ne.mpr c32
           have c32b1 : (t297 != 0) = true := bne_iff_ne.mpr c32
           by_cases c48 : t296 = true
           ·subst c48
            have H1 : (some false) = some r := by rw [if_pos rfl] at H; exact H
            clear H
            have H := H1
            clear H1
            obtain rfl := Option.some.inj H
            go_wp2_with (first | ((with_reducible refine gate_callee (f := 10) rfl ?_); refine goesL_ (some 75) rfl rfl Tryd.func10 (by kernel_rfl) rfl #[.slice (some ad294) l0.length c0, .slice A1 l1.length c1, .string (⟨#[47]⟩ : ByteArray)] rfl (by (try simp only [List.map_toArray, List.map_cons, List.map_nil]); first | done | rfl | (simp only [List.length_drop, List.length_take]; rfl)) ?_; (with_reducible refine (testexpr_Eval.calls _ _ l0 _ _ l1 (⟨#[47]⟩ : ByteArray) true t297 _ ?side1 ?side2 ?side3 ?side4 ?side5 A28.out).mono ?_); (case side1 => repeat (first | exact (Kd.C_below HR0.out HB.out) | (with_reducible refine Kd.C_alloc ?_ _) | (with_reducible refine Kd.C_drewN ?_ _) | (with_reducible refine Kd.C_drew ?_))); (case side2 => exact HC0.out); (case side3 => repeat (first | exact (Kd.C_below HR1.out HB.out) | (with_reducible refine Kd.C_alloc ?_ _) | (with_reducible refine Kd.C_drewN ?_ _) | (with_reducible refine Kd.C_drew ?_))); (case side4 => exact HC1.out); (case side5 => repeat (first | exact (AmbC_below HAMB.out HB.out) | (with_reducible refine AmbC_alloc ?_ _) | (with_reducible refine AmbC_drewN ?_ _) | (with_reducible refine AmbC_drew ?_))); rintro e w49 ⟨rfl, hb⟩; refine ⟨_, rfl, ?_⟩; have n0_ := Aside0.mk (below_step (by repeat (first | (with_reducible first | exact HB.out | apply below_alloc | apply pw_below_drewN | apply below_drew1) | exact HB.out)) hb); clear HB; have HB := n0_; clear n0_; (try clear hb); (try clear hb2); (try clear hk); (try clear hi)) | ((with_reducible refine gate_dst (N := 79) rfl ?_); (try (refine gate_guard (by rfl) ?_; dsimp only)); refine Kd.R_lit Kd.string _ 9 ?hg (N := 79) ?hd (xs := ([(⟨#[33]⟩ : ByteArray)] : List ByteArray)) (inner := [.string (⟨#[33]⟩ : ByteArray)]) (ok := fun _ => True) (okp := fun _ => True) ?hr ?hp (fun _ hk => hk) trivial (Below.refl _ _) (Nat.le_refl _) (by simp) ?_; (case hd => rfl); (case hg => rfl); (case hr => first | (go_simp; done) | (go_simp; rfl)); (case hp => exact (Reps.one (show Kd.M Kd.string _ _ _ (⟨#[33]⟩ : ByteArray) [.string (⟨#[33]⟩ : ByteArray)] from rfl) (Reps.none _ _))); intro v299 w50 ho51 hb hg_ hnew_; clear hg_ hnew_; (first | rw [← Ny298.out] at ho51 | (simp only [Int.reduceToNat] at ho51; rw [← Ny298.out] at ho51)); have n0_ := Aside0.mk (Kd.R_lower ho51 (below_size (by repeat (first | (with_reducible first | exact HB.out | apply below_alloc | apply pw_below_drewN | apply below_drew1) | exact HB.out)))); have n1_ := Aside0.mk (below_step (by repeat (first | (with_reducible first | exact HB.out | apply below_alloc | apply pw_below_drewN | apply below_drew1) | exact HB.out)) hb); clear HB; have HO300 := n0_; have HB := n1_; clear n0_ n1_; clear hb ho51) | ((with_reducible refine gate_builtin (b := .append) (xs := #[.tmp 79, .tmp 80]) rfl ?_); (try (refine gate_guard (by rfl) ?_; dsimp only)); at_builtin; refine Kd.R_append_rows Kd.string (w0 := w) w.heap.size rfl (.tmp 79) (.tmp 80) 22 9 (.string ⟨#[]⟩) 16 rfl Tryd.underlying22 info9 rfl (by decide) (by omega) v299 y298 l0 _ _ _ (fun _ => True) (fun _ => False) rfl rfl ?aO ?aR (fun _ _ h => h) (fun _ h => h.elim) ?aF ?aB ?aS ?aL ?_; (case aR => repeat (first | exact (Kd.C_below HR0.out HB.out) | (with_reducible refine Kd.C_alloc ?_ _) | (with_reducible refine Kd.C_drewN ?_ _) | (with_reducible refine Kd.C_drew ?_))); (case aB => exact (by repeat (first | (with_reducible first | exact HB.out | apply below_alloc | apply pw_below_drewN | apply below_drew1) | exact HB.out))); (case aF => exact (fun _ _ => trivial)); (case aO => exact (by (with_reducible repeat (first | apply Kd.R_alloc | apply Kd.R_drewN | apply Kd.R_drew)); exact HO300.out)); (case aS => exact (below_size (by repeat (first | (with_reducible first | exact HB.out | apply below_alloc | apply pw_below_drewN | apply below_drew1) | exact HB.out)))); (case aL => have := LMc29.out; omega); intro v302 w52 ho hb hg hat; rw [← Ny301.out] at ho; have n0_ := Aside0.mk (hb); have n1_ := Aside0.mk (ho); clear HB; clear HO300; have HB := n0_; have HO303 := n1_; clear n0_ n1_; clear ho hb hg hat; obtain ⟨Ao53, co53, eo53⟩ := Kd.R_slice HO303.out; subst eo53) | ((with_reducible refine gate_callee (f := 10) rfl ?_); refine goesL_ (some 83) rfl rfl Tryd.func10 (by kernel_rfl) rfl #[.slice Ao53 y301.length co53, .slice A1 l1.length c1, .string (⟨#[47]⟩ : ByteArray)] rfl (by (try simp only [List.map_toArray, List.map_cons, List.map_nil]); first | done | rfl | (simp only [List.length_drop, List.length_take]; rfl)) ?_; (with_reducible refine (testexpr_Eval.calls _ _ y301 _ _ l1 (⟨#[47]⟩ : ByteArray) t304 t305 _ ?side1 ?side2 ?side3 ?side4 ?side5 A30.out).mono ?_); (case side1 => repeat (first | exact (Kd.R_reads' HO303.out).2.2 | (with_reducible refine Kd.C_alloc ?_ _) | (with_reducible refine Kd.C_drewN ?_ _) | (with_reducible refine Kd.C_drew ?_))); (case side2 => exact (Kd.R_reads' HO303.out).2.1); (case side3 => repeat (first | exact (Kd.C_below HR1.out HB.out) | (with_reducible refine Kd.C_alloc ?_ _) | (with_reducible refine Kd.C_drewN ?_ _) | (with_reducible refine Kd.C_drew ?_))); (case side4 => exact HC1.out); (case side5 => repeat (first | exact (AmbC_below HAMB.out HB.out) | (with_reducible refine AmbC_alloc ?_ _) | (with_reducible refine AmbC_drewN ?_ _) | (with_reducible refine AmbC_drew ?_))); rintro e w54 ⟨rfl, hb⟩; refine ⟨_, rfl, ?_⟩; have n0_ := Aside0.mk (Kd.R_below (by (with_reducible repeat (first | apply Kd.R_alloc | apply Kd.R_drewN | apply Kd.R_drew)); exact HO303.out) hb); have n1_ := Aside0.mk (below_step (by repeat (first | (with_reducible first | exact HB.out | apply below_alloc | apply pw_below_drewN | apply below_drew1) | exact HB.out)) hb); clear HO303; clear HB; have HO303 := n0_; have HB := n1_; clear n0_ n1_; (try clear hb); (try clear hb2); (try clear hk); (try clear hi)))
            go_ret
            exact ⟨by first | rfl | (simp [errW_none, errW_some] <;> rfl) | (simp [*, errW_none, errW_some] <;> rfl), by repeat (first | (with_reducible first | exact HB.out | apply below_alloc | apply pw_below_drewN | apply below_drew1) | exact HB.out)⟩
           ·replace c48 := Bool.eq_false_iff.mpr c48
            subst c48
            have H1 : (if t304 = true then (some false) else ((jobshelllaw29_awake.f).bind fun t307 => (some t307))) = some r := by rw [if_neg (show ¬ (false = true) by decide)] at H; exact H
            clear H
            have H := H1
            clear H1
            by_cases c55 : t304 = true
            ·subst c55
             have H1 : (some false) = some r := by rw [if_pos rfl] at H; exact H
             clear H
             have H := H1
             clear H1
             obtain rfl := Option.some.inj H
             go_wp2_with (first | ((with_reducible refine gate_callee (f := 10) rfl ?_); refine goesL_ (some 75) rfl rfl Tryd.func10 (by kernel_rfl) rfl #[.slice (some ad294) l0.length c0, .slice A1 l1.length c1, .string (⟨#[47]⟩ : ByteArray)] rfl (by (try simp only [List.map_toArray, List.map_cons, List.map_nil]); first | done | rfl | (simp only [List.length_drop, List.length_take]; rfl)) ?_; (with_reducible refine (testexpr_Eval.calls _ _ l0 _ _ l1 (⟨#[47]⟩ : ByteArray) false t297 _ ?side1 ?side2 ?side3 ?side4 ?side5 A28.out).mono ?_); (case side1 => repeat (first | exact (Kd.C_below HR0.out HB.out) | (with_reducible refine Kd.C_alloc ?_ _) | (with_reducible refine Kd.C_drewN ?_ _) | (with_reducible refine Kd.C_drew ?_))); (case side2 => exact HC0.out); (case side3 => repeat (first | exact (Kd.C_below HR1.out HB.out) | (with_reducible refine Kd.C_alloc ?_ _) | (with_reducible refine Kd.C_drewN ?_ _) | (with_reducible refine Kd.C_drew ?_))); (case side4 => exact HC1.out); (case side5 => repeat (first | exact (AmbC_below HAMB.out HB.out) | (with_reducible refine AmbC_alloc ?_ _) | (with_reducible refine AmbC_drewN ?_ _) | (with_reducible refine AmbC_drew ?_))); rintro e w56 ⟨rfl, hb⟩; refine ⟨_, rfl, ?_⟩; have n0_ := Aside0.mk (below_step (by repeat (first | (with_reducible first | exact HB.out | apply below_alloc | apply pw_below_drewN | apply below_drew1) | exact HB.out)) hb); clear HB; have HB := n0_; clear n0_; (try clear hb); (try clear hb2); (try clear hk); (try clear hi)) | ((with_reducible refine gate_dst (N := 79) rfl ?_); (try (refine gate_guard (by rfl) ?_; dsimp only)); refine Kd.R_lit Kd.string _ 9 ?hg (N := 79) ?hd (xs := ([(⟨#[33]⟩ : ByteArray)] : List ByteArray)) (inner := [.string (⟨#[33]⟩ : ByteArray)]) (ok := fun _ => True) (okp := fun _ => True) ?hr ?hp (fun _ hk => hk) trivial (Below.refl _ _) (Nat.le_refl _) (by simp) ?_; (case hd => rfl); (case hg => rfl); (case hr => first | (go_simp; done) | (go_simp; rfl)); (case hp => exact (Reps.one (show Kd.M Kd.string _ _ _ (⟨#[33]⟩ : ByteArray) [.string (⟨#[33]⟩ : ByteArray)] from rfl) (Reps.none _ _))); intro v299 w57 ho58 hb hg_ hnew_; clear hg_ hnew_; (first | rw [← Ny298.out] at ho58 | (simp only [Int.reduceToNat] at ho58; rw [← Ny298.out] at ho58)); have n0_ := Aside0.mk (Kd.R_lower ho58 (below_size (by repeat (first | (with_reducible first | exact HB.out | apply below_alloc | apply pw_below_drewN | apply below_drew1) | exact HB.out)))); have n1_ := Aside0.mk (below_step (by repeat (first | (with_reducible first | exact HB.out | apply below_alloc | apply pw_below_drewN | apply below_drew1) | exact HB.out)) hb); clear HB; have HO300 := n0_; have HB := n1_; clear n0_ n1_; clear hb ho58) | ((with_reducible refine gate_builtin (b := .append) (xs := #[.tmp 79, .tmp 80]) rfl ?_); (try (refine gate_guard (by rfl) ?_; dsimp only)); at_builtin; refine Kd.R_append_rows Kd.string (w0 := w) w.heap.size rfl (.tmp 79) (.tmp 80) 22 9 (.string ⟨#[]⟩) 16 rfl Tryd.underlying22 info9 rfl (by decide) (by omega) v299 y298 l0 _ _ _ (fun _ => True) (fun _ => False) rfl rfl ?aO ?aR (fun _ _ h => h) (fun _ h => h.elim) ?aF ?aB ?aS ?aL ?_; (case aR => repeat (first | exact (Kd.C_below HR0.out HB.out) | (with_reducible refine Kd.C_alloc ?_ _) | (with_reducible refine Kd.C_drewN ?_ _) | (with_reducible refine Kd.C_drew ?_))); (case aB => exact (by repeat (first | (with_reducible first | exact HB.out | apply below_alloc | apply pw_below_drewN | apply below_drew1) | exact HB.out))); (case aF => exact (fun _ _ => trivial)); (case aO => exact (by (with_reducible repeat (first | apply Kd.R_alloc | apply Kd.R_drewN | apply Kd.R_drew)); exact HO300.out)); (case aS => exact (below_size (by repeat (first | (with_reducible first | exact HB.out | apply below_alloc | apply pw_below_drewN | apply below_drew1) | exact HB.out)))); (case aL => have := LMc29.out; omega); intro v302 w59 ho hb hg hat; rw [← Ny301.out] at ho; have n0_ := Aside0.mk (hb); have n1_ := Aside0.mk (ho); clear HB; clear HO300; have HB := n0_; have HO303 := n1_; clear n0_ n1_; clear ho hb hg hat; obtain ⟨Ao60, co60, eo60⟩ := Kd.R_slice HO303.out; subst eo60) | ((with_reducible refine gate_callee (f := 10) rfl ?_); refine goesL_ (some 83) rfl rfl Tryd.func10 (by kernel_rfl) rfl #[.slice Ao60 y301.length co60, .slice A1 l1.length c1, .string (⟨#[47]⟩ : ByteArray)] rfl (by (try simp only [List.map_toArray, List.map_cons, List.map_nil]); first | done | rfl | (simp only [List.length_drop, List.length_take]; rfl)) ?_; (with_reducible refine (testexpr_Eval.calls _ _ y301 _ _ l1 (⟨#[47]⟩ : ByteArray) true t305 _ ?side1 ?side2 ?side3 ?side4 ?side5 A30.out).mono ?_); (case side1 => repeat (first | exact (Kd.R_reads' HO303.out).2.2 | (with_reducible refine Kd.C_alloc ?_ _) | (with_reducible refine Kd.C_drewN ?_ _) | (with_reducible refine Kd.C_drew ?_))); (case side2 => exact (Kd.R_reads' HO303.out).2.1); (case side3 => repeat (first | exact (Kd.C_below HR1.out HB.out) | (with_reducible refine Kd.C_alloc ?_ _) | (with_reducible refine Kd.C_drewN ?_ _) | (with_reducible refine Kd.C_drew ?_))); (case side4 => exact HC1.out); (case side5 => repeat (first | exact (AmbC_below HAMB.out HB.out) | (with_reducible refine AmbC_alloc ?_ _) | (with_reducible refine AmbC_drewN ?_ _) | (with_reducible refine AmbC_drew ?_))); rintro e w61 ⟨rfl, hb⟩; refine ⟨_, rfl, ?_⟩; have n0_ := Aside0.mk (Kd.R_below (by (with_reducible repeat (first | apply Kd.R_alloc | apply Kd.R_drewN | apply Kd.R_drew)); exact HO303.out) hb); have n1_ := Aside0.mk (below_step (by repeat (first | (with_reducible first | exact HB.out | apply below_alloc | apply pw_below_drewN | apply below_drew1) | exact HB.out)) hb); clear HO303; clear HB; have HO303 := n0_; have HB := n1_; clear n0_ n1_; (try clear hb); (try clear hb2); (try clear hk); (try clear hi)))
             go_ret
             exact ⟨by first | rfl | (simp [errW_none, errW_some] <;> rfl) | (simp [*, errW_none, errW_some] <;> rfl), by repeat (first | (with_reducible first | exact HB.out | apply below_alloc | apply pw_below_drewN | apply below_drew1) | exact HB.out)⟩
            ·replace c55 := Bool.eq_false_iff.mpr c55
             subst c55
             have H1 : ((jobshelllaw29_awake.f).bind fun t307 => (some t307)) = some r := by rw [if_neg (show ¬ (false = true) by decide)] at H; exact H
             clear H
             have H := H1
             clear H1
             replace H := Option.bind_eq_some_iff.mp H
             obtain ⟨t307, A620, H⟩ := H
             replace H : (some t307) = some r := H
             have A62 := Aside0.mk A620
             clear A620
             obtain rfl := Option.some.inj H
             go_wp2_with (first | ((with_reducible refine gate_callee (f := 10) rfl ?_); refine goesL_ (some 75) rfl rfl Tryd.func10 (by kernel_rfl) rfl #[.slice (some ad294) l0.length c0, .slice A1 l1.length c1, .string (⟨#[47]⟩ : ByteArray)] rfl (by (try simp only [List.map_toArray, List.map_cons, List.map_nil]); first | done | rfl | (simp only [List.length_drop, List.length_take]; rfl)) ?_; (with_reducible refine (testexpr_Eval.calls _ _ l0 _ _ l1 (⟨#[47]⟩ : ByteArray) false t297 _ ?side1 ?side2 ?side3 ?side4 ?side5 A28.out).mono ?_); (case side1 => repeat (first | exact (Kd.C_below HR0.out HB.out) | (with_reducible refine Kd.C_alloc ?_ _) | (with_reducible refine Kd.C_drewN ?_ _) | (with_reducible refine Kd.C_drew ?_))); (case side2 => exact HC0.out); (case side3 => repeat (first | exact (Kd.C_below HR1.out HB.out) | (with_reducible refine Kd.C_alloc ?_ _) | (with_reducible refine Kd.C_drewN ?_ _) | (with_reducible refine Kd.C_drew ?_))); (case side4 => exact HC1.out); (case side5 => repeat (first | exact (AmbC_below HAMB.out HB.out) | (with_reducible refine AmbC_alloc ?_ _) | (with_reducible refine AmbC_drewN ?_ _) | (with_reducible refine AmbC_drew ?_))); rintro e w63 ⟨rfl, hb⟩; refine ⟨_, rfl, ?_⟩; have n0_ := Aside0.mk (below_step (by repeat (first | (with_reducible first | exact HB.out | apply below_alloc | apply pw_below_drewN | apply below_drew1) | exact HB.out)) hb); clear HB; have HB := n0_; clear n0_; (try clear hb); (try clear hb2); (try clear hk); (try clear hi)) | ((with_reducible refine gate_dst (N := 79) rfl ?_); (try (refine gate_guard (by rfl) ?_; dsimp only)); refine Kd.R_lit Kd.string _ 9 ?hg (N := 79) ?hd (xs := ([(⟨#[33]⟩ : ByteArray)] : List ByteArray)) (inner := [.string (⟨#[33]⟩ : ByteArray)]) (ok := fun _ => True) (okp := fun _ => True) ?hr ?hp (fun _ hk => hk) trivial (Below.refl _ _) (Nat.le_refl _) (by simp) ?_; (case hd => rfl); (case hg => rfl); (case hr => first | (go_simp; done) | (go_simp; rfl)); (case hp => exact (Reps.one (show Kd.M Kd.string _ _ _ (⟨#[33]⟩ : ByteArray) [.string (⟨#[33]⟩ : ByteArray)] from rfl) (Reps.none _ _))); intro v299 w64 ho65 hb hg_ hnew_; clear hg_ hnew_; (first | rw [← Ny298.out] at ho65 | (simp only [Int.reduceToNat] at ho65; rw [← Ny298.out] at ho65)); have n0_ := Aside0.mk (Kd.R_lower ho65 (below_size (by repeat (first | (with_reducible first | exact HB.out | apply below_alloc | apply pw_below_drewN | apply below_drew1) | exact HB.out)))); have n1_ := Aside0.mk (below_step (by repeat (first | (with_reducible first | exact HB.out | apply below_alloc | apply pw_below_drewN | apply below_drew1) | exact HB.out)) hb); clear HB; have HO300 := n0_; have HB := n1_; clear n0_ n1_; clear hb ho65) | ((with_reducible refine gate_builtin (b := .append) (xs := #[.tmp 79, .tmp 80]) rfl ?_); (try (refine gate_guard (by rfl) ?_; dsimp only)); at_builtin; refine Kd.R_append_rows Kd.string (w0 := w) w.heap.size rfl (.tmp 79) (.tmp 80) 22 9 (.string ⟨#[]⟩) 16 rfl Tryd.underlying22 info9 rfl (by decide) (by omega) v299 y298 l0 _ _ _ (fun _ => True) (fun _ => False) rfl rfl ?aO ?aR (fun _ _ h => h) (fun _ h => h.elim) ?aF ?aB ?aS ?aL ?_; (case aR => repeat (first | exact (Kd.C_below HR0.out HB.out) | (with_reducible refine Kd.C_alloc ?_ _) | (with_reducible refine Kd.C_drewN ?_ _) | (with_reducible refine Kd.C_drew ?_))); (case aB => exact (by repeat (first | (with_reducible first | exact HB.out | apply below_alloc | apply pw_below_drewN | apply below_drew1) | exact HB.out))); (case aF => exact (fun _ _ => trivial)); (case aO => exact (by (with_reducible repeat (first | apply Kd.R_alloc | apply Kd.R_drewN | apply Kd.R_drew)); exact HO300.out)); (case aS => exact (below_size (by repeat (first | (with_reducible first | exact HB.out | apply below_alloc | apply pw_below_drewN | apply below_drew1) | exact HB.out)))); (case aL => have := LMc29.out; omega); intro v302 w66 ho hb hg hat; rw [← Ny301.out] at ho; have n0_ := Aside0.mk (hb); have n1_ := Aside0.mk (ho); clear HB; clear HO300; have HB := n0_; have HO303 := n1_; clear n0_ n1_; clear ho hb hg hat; obtain ⟨Ao67, co67, eo67⟩ := Kd.R_slice HO303.out; subst eo67) | ((with_reducible refine gate_callee (f := 10) rfl ?_); refine goesL_ (some 83) rfl rfl Tryd.func10 (by kernel_rfl) rfl #[.slice Ao67 y301.length co67, .slice A1 l1.length c1, .string (⟨#[47]⟩ : ByteArray)] rfl (by (try simp only [List.map_toArray, List.map_cons, List.map_nil]); first | done | rfl | (simp only [List.length_drop, List.length_take]; rfl)) ?_; (with_reducible refine (testexpr_Eval.calls _ _ y301 _ _ l1 (⟨#[47]⟩ : ByteArray) false t305 _ ?side1 ?side2 ?side3 ?side4 ?side5 A30.out).mono ?_); (case side1 => repeat (first | exact (Kd.R_reads' HO303.out).2.2 | (with_reducible refine Kd.C_alloc ?_ _) | (with_reducible refine Kd.C_drewN ?_ _) | (with_reducible refine Kd.C_drew ?_))); (case side2 => exact (Kd.R_reads' HO303.out).2.1); (case side3 => repeat (first | exact (Kd.C_below HR1.out HB.out) | (with_reducible refine Kd.C_alloc ?_ _) | (with_reducible refine Kd.C_drewN ?_ _) | (with_reducible refine Kd.C_drew ?_))); (case side4 => exact HC1.out); (case side5 => repeat (first | exact (AmbC_below HAMB.out HB.out) | (with_reducible refine AmbC_alloc ?_ _) | (with_reducible refine AmbC_drewN ?_ _) | (with_reducible refine AmbC_drew ?_))); rintro e w68 ⟨rfl, hb⟩; refine ⟨_, rfl, ?_⟩; have n0_ := Aside0.mk (Kd.R_below (by (with_reducible repeat (first | apply Kd.R_alloc | apply Kd.R_drewN | apply Kd.R_drew)); exact HO303.out) hb); have n1_ := Aside0.mk (below_step (by repeat (first | (with_reducible first | exact HB.out | apply below_alloc | apply pw_below_drewN | apply below_drew1) | exact HB.out)) hb); clear HO303; clear HB; have HO303 := n0_; have HB := n1_; clear n0_ n1_; (try clear hb); (try clear hb2); (try clear hk); (try clear hi)) | (go_at_call 9; (with_reducible refine (jobshelllaw29_awake.calls  t307 _ ?side1 A62.out).mono ?_); (case side1 => repeat (first | exact (AmbC_below HAMB.out HB.out) | (with_reducible refine AmbC_alloc ?_ _) | (with_reducible refine AmbC_drewN ?_ _) | (with_reducible refine AmbC_drew ?_))); rintro e w69 ⟨rfl, hb⟩; have n0_ := Aside0.mk (Kd.R_below (by (with_reducible repeat (first | apply Kd.R_alloc | apply Kd.R_drewN | apply Kd.R_drew)); exact HO303.out) hb); have n1_ := Aside0.mk (below_step (by repeat (first | (with_reducible first | exact HB.out | apply below_alloc | apply pw_below_drewN | apply below_drew1) | exact HB.out)) hb); clear HO303; clear HB; have HO303 := n0_; have HB := n1_; clear n0_ n1_; (try clear hb); (try clear hb2); (try clear hk); (try clear hi)))
             go_ret
             exact ⟨by first | rfl | (simp [errW_none, errW_some] <;> rfl) | (simp [*, errW_none, errW_some] <;> rfl), by repeat (first | (with_reducible first | exact HB.out | apply below_alloc | apply pw_below_drewN | apply below_drew1) | exact HB.out)⟩
         ·rw [if_neg c31] at H
          have c31b0 : (t297 == t305) = false := beq_eq_false_iff_ne.mpr c31
          have c31b1 : (t297 != t305) = true := bne_iff_ne.mpr c31
          obtain rfl := Option.some.inj H
          go_wp2_with (first | ((with_reducible refine gate_callee (f := 10) rfl ?_); refine goesL_ (some 75) rfl rfl Tryd.func10 (by kernel_rfl) rfl #[.slice (some ad294) l0.length c0, .slice A1 l1.length c1, .string (⟨#[47]⟩ : ByteArray)] rfl (by (try simp only [List.map_toArray, List.map_cons, List.map_nil]); first | done | rfl | (simp only [List.length_drop, List.length_take]; rfl)) ?_; (with_reducible refine (testexpr_Eval.calls _ _ l0 _ _ l1 (⟨#[47]⟩ : ByteArray) t296 t297 _ ?side1 ?side2 ?side3 ?side4 ?side5 A28.out).mono ?_); (case side1 => repeat (first | exact (Kd.C_below HR0.out HB.out) | (with_reducible refine Kd.C_alloc ?_ _) | (with_reducible refine Kd.C_drewN ?_ _) | (with_reducible refine Kd.C_drew ?_))); (case side2 => exact HC0.out); (case side3 => repeat (first | exact (Kd.C_below HR1.out HB.out) | (with_reducible refine Kd.C_alloc ?_ _) | (with_reducible refine Kd.C_drewN ?_ _) | (with_reducible refine Kd.C_drew ?_))); (case side4 => exact HC1.out); (case side5 => repeat (first | exact (AmbC_below HAMB.out HB.out) | (with_reducible refine AmbC_alloc ?_ _) | (with_reducible refine AmbC_drewN ?_ _) | (with_reducible refine AmbC_drew ?_))); rintro e w70 ⟨rfl, hb⟩; refine ⟨_, rfl, ?_⟩; have n0_ := Aside0.mk (below_step (by repeat (first | (with_reducible first | exact HB.out | apply below_alloc | apply pw_below_drewN | apply below_drew1) | exact HB.out)) hb); clear HB; have HB := n0_; clear n0_; (try clear hb); (try clear hb2); (try clear hk); (try clear hi)) | ((with_reducible refine gate_dst (N := 79) rfl ?_); (try (refine gate_guard (by rfl) ?_; dsimp only)); refine Kd.R_lit Kd.string _ 9 ?hg (N := 79) ?hd (xs := ([(⟨#[33]⟩ : ByteArray)] : List ByteArray)) (inner := [.string (⟨#[33]⟩ : ByteArray)]) (ok := fun _ => True) (okp := fun _ => True) ?hr ?hp (fun _ hk => hk) trivial (Below.refl _ _) (Nat.le_refl _) (by simp) ?_; (case hd => rfl); (case hg => rfl); (case hr => first | (go_simp; done) | (go_simp; rfl)); (case hp => exact (Reps.one (show Kd.M Kd.string _ _ _ (⟨#[33]⟩ : ByteArray) [.string (⟨#[33]⟩ : ByteArray)] from rfl) (Reps.none _ _))); intro v299 w71 ho72 hb hg_ hnew_; clear hg_ hnew_; (first | rw [← Ny298.out] at ho72 | (simp only [Int.reduceToNat] at ho72; rw [← Ny298.out] at ho72)); have n0_ := Aside0.mk (Kd.R_lower ho72 (below_size (by repeat (first | (with_reducible first | exact HB.out | apply below_alloc | apply pw_below_drewN | apply below_drew1) | exact HB.out)))); have n1_ := Aside0.mk (below_step (by repeat (first | (with_reducible first | exact HB.out | apply below_alloc | apply pw_below_drewN | apply below_drew1) | exact HB.out)) hb); clear HB; have HO300 := n0_; have HB := n1_; clear n0_ n1_; clear hb ho72) | ((with_reducible refine gate_builtin (b := .append) (xs := #[.tmp 79, .tmp 80]) rfl ?_); (try (refine gate_guard (by rfl) ?_; dsimp only)); at_builtin; refine Kd.R_append_rows Kd.string (w0 := w) w.heap.size rfl (.tmp 79) (.tmp 80) 22 9 (.string ⟨#[]⟩) 16 rfl Tryd.underlying22 info9 rfl (by decide) (by omega) v299 y298 l0 _ _ _ (fun _ => True) (fun _ => False) rfl rfl ?aO ?aR (fun _ _ h => h) (fun _ h => h.elim) ?aF ?aB ?aS ?aL ?_; (case aR => repeat (first | exact (Kd.C_below HR0.out HB.out) | (with_reducible refine Kd.C_alloc ?_ _) | (with_reducible refine Kd.C_drewN ?_ _) | (with_reducible refine Kd.C_drew ?_))); (case aB => exact (by repeat (first | (with_reducible first | exact HB.out | apply below_alloc | apply pw_below_drewN | apply below_drew1) | exact HB.out))); (case aF => exact (fun _ _ => trivial)); (case aO => exact (by (with_reducible repeat (first | apply Kd.R_alloc | apply Kd.R_drewN | apply Kd.R_drew)); exact HO300.out)); (case aS => exact (below_size (by repeat (first | (with_reducible first | exact HB.out | apply below_alloc | apply pw_below_drewN | apply below_drew1) | exact HB.out)))); (case aL => have := LMc29.out; omega); intro v302 w73 ho hb hg hat; rw [← Ny301.out] at ho; have n0_ := Aside0.mk (hb); have n1_ := Aside0.mk (ho); clear HB; clear HO300; have HB := n0_; have HO303 := n1_; clear n0_ n1_; clear ho hb hg hat; obtain ⟨Ao74, co74, eo74⟩ := Kd.R_slice HO303.out; subst eo74) | ((with_reducible refine gate_callee (f := 10) rfl ?_); refine goesL_ (some 83) rfl rfl Tryd.func10 (by kernel_rfl) rfl #[.slice Ao74 y301.length co74, .slice A1 l1.length c1, .string (⟨#[47]⟩ : ByteArray)] rfl (by (try simp only [List.map_toArray, List.map_cons, List.map_nil]); first | done | rfl | (simp only [List.length_drop, List.length_take]; rfl)) ?_; (with_reducible refine (testexpr_Eval.calls _ _ y301 _ _ l1 (⟨#[47]⟩ : ByteArray) t304 t305 _ ?side1 ?side2 ?side3 ?side4 ?side5 A30.out).mono ?_); (case side1 => repeat (first | exact (Kd.R_reads' HO303.out).2.2 | (with_reducible refine Kd.C_alloc ?_ _) | (with_reducible refine Kd.C_drewN ?_ _) | (with_reducible refine Kd.C_drew ?_))); (case side2 => exact (Kd.R_reads' HO303.out).2.1); (case side3 => repeat (first | exact (Kd.C_below HR1.out HB.out) | (with_reducible refine Kd.C_alloc ?_ _) | (with_reducible refine Kd.C_drewN ?_ _) | (with_reducible refine Kd.C_drew ?_))); (case side4 => exact HC1.out); (case side5 => repeat (first | exact (AmbC_below HAMB.out HB.out) | (with_reducible refine AmbC_alloc ?_ _) | (with_reducible refine AmbC_drewN ?_ _) | (with_reducible refine AmbC_drew ?_))); rintro e w75 ⟨rfl, hb⟩; refine ⟨_, rfl, ?_⟩; have n0_ := Aside0.mk (Kd.R_below (by (with_reducible repeat (first | apply Kd.R_alloc | apply Kd.R_drewN | apply Kd.R_drew)); exact HO303.out) hb); have n1_ := Aside0.mk (below_step (by repeat (first | (with_reducible first | exact HB.out | apply below_alloc | apply pw_below_drewN | apply below_drew1) | exact HB.out)) hb); clear HO303; clear HB; have HO303 := n0_; have HB := n1_; clear n0_ n1_; (try clear hb); (try clear hb2); (try clear hk); (try clear hi)))
          go_ret
          exact ⟨by first | rfl | (simp [errW_none, errW_some] <;> rfl) | (simp [*, errW_none, errW_some] <;> rfl), by repeat (first | (with_reducible first | exact HB.out | apply below_alloc | apply pw_below_drewN | apply below_drew1) | exact HB.out)⟩
        ·rw [if_neg c29] at H
         exact absurd H (by simp)
    ·rw [if_neg c13] at H
     exact absurd H (by simp)
end Go.Proofs.YtoeiohfljaboaaaDoor.F
set_option linter.unusedVariables false
set_option linter.unusedSimpArgs false
namespace Go.Proofs.YtoeiohfljaboaaaDoor.Pure
open Go.RowKit Go.Proofs.YtoeiohfljaboaaaDoor.F Go.Proofs.YtoeiohfljaboaaaDoorW.PrintWords
theorem fuel {k n : Nat} (h : n + 1 ≤ k) : ∃ j, k = j + 1 ∧ n ≤ j := ⟨k - 1, by omega, by omega⟩
theorem short_l0 (l : List ByteArray) (a1 a2 : Nat) (h1 : a1 < 1000) : ∀ (d n k : Nat), n ≤ l.length → n ≤ a1 + 1 → a1 + 1 - n = d → 2 * d + 2 ≤ k → (∀ i, i < n → (rdOf ByteArray.empty l (i : Nat)).size ≤ a2) →
    ∃ b, jobshellref03_Short.l0 k l (a1 : Int) (a2 : Int) (n : Int) = some b ∧ (b = true → l.length ≤ a1 ∧ ∀ i, i < l.length → (rdOf ByteArray.empty l (i : Nat)).size ≤ a2) := by
  intro d
  induction d with
  | zero =>
    intro n k hn hn2 hd hk hs
    obtain ⟨k, rfl, hk⟩ := fuel (k := k) (n := 0) (by omega)
    obtain ⟨k, rfl, hk⟩ := fuel (k := k) (n := 0) (by omega)
    rw [jobshellref03_Short.l0]
    refine ⟨false, ?_, fun h => by cases h⟩
    by_cases hl : (n : Int) < (l.length : Int)
    · rw [if_pos hl, decide_eq_false (by omega), jobshellref03_Short.j1, if_neg (by decide), decide_eq_false (by omega)]
    · rw [if_neg hl, jobshellref03_Short.j1, if_neg (by decide), decide_eq_false (by omega)]
  | succ d ih =>
    intro n k hn hn2 hd hk hs
    obtain ⟨k, rfl, hk⟩ := fuel (k := k) (n := 2 * d + 3) (by omega)
    obtain ⟨k, rfl, hk⟩ := fuel (k := k) (n := 0) (by omega)
    rw [jobshellref03_Short.l0]
    by_cases hl : (n : Int) < (l.length : Int)
    · rw [if_pos hl, decide_eq_true (by omega), jobshellref03_Short.j1, if_pos rfl, if_pos (by omega), if_pos hl]
      by_cases hz : ((rdOf ByteArray.empty l (n : Int)).size : Int) > (a2 : Int)
      · rw [if_pos hz]; exact ⟨false, rfl, fun h => by cases h⟩
      · rw [if_neg hz, wrap_succ (by omega)]
        refine ih (n + 1) k (by omega) (by omega) (by omega) (by omega) ?_
        intro i hi
        by_cases he : i = n
        · subst he; omega
        · exact hs i (by omega)
    · rw [if_neg hl, jobshellref03_Short.j1, if_neg (by decide)]
      refine ⟨_, rfl, fun h => ⟨by simpa using h, fun i hi => hs i (by omega)⟩⟩
theorem short_f (l : List ByteArray) (k : Nat) (hk : 100 ≤ k) : ∃ b, jobshellref03_Short.f k l 12 40 = some b ∧ (b = true → l.length ≤ 12 ∧ ∀ i, i < l.length → (rdOf ByteArray.empty l (i : Nat)).size ≤ 40) := by
  unfold jobshellref03_Short.f
  exact short_l0 l 12 40 (by decide) 13 0 k (by omega) (by omega) (by omega) (by omega) (fun i hi => absurd hi (by omega))
theorem small_l0 (l : List S_File) (hl : l.length ≤ 140) : ∀ (d n k : Nat) (c : Int), n ≤ l.length → l.length - n = d → 2 * d + 2 ≤ k → ∃ b, jobshellref19_Small.l0 k l c (n : Int) = some b := by
  intro d
  induction d with
  | zero =>
    intro n k c hn hd hk
    obtain ⟨k, rfl, hk⟩ := fuel (k := k) (n := 0) (by omega)
    obtain ⟨k, rfl, hk⟩ := fuel (k := k) (n := 0) (by omega)
    rw [jobshellref19_Small.l0, if_neg (by omega), jobshellref19_Small.j1, if_neg (by decide)]
    split <;> exact ⟨_, rfl⟩
  | succ d ih =>
    intro n k c hn hd hk
    obtain ⟨k, rfl, hk⟩ := fuel (k := k) (n := 2 * d + 3) (by omega)
    obtain ⟨k, rfl, hk⟩ := fuel (k := k) (n := 0) (by omega)
    rw [jobshellref19_Small.l0, if_pos (by omega), if_pos (by omega), jobshellref19_Small.j1]
    split
    · rw [if_pos (by omega), if_pos (by omega)]
      split
      · exact ⟨_, rfl⟩
      · split
        · exact ⟨_, rfl⟩
        · rw [wrap_succ (by omega)]
          exact ih (n + 1) k _ (by omega) (by omega) (by omega)
    · split <;> exact ⟨_, rfl⟩
theorem cut_l0 (s : ByteArray) (hs : s.size ≤ 1000) : ∀ (d n k m : Nat), n ≤ s.size → m ≤ s.size → s.size - n = d → d + 1 ≤ k → ∃ r : Nat, jobshellref19_cut.l0 k s (m : Int) (n : Int) = some (r : Int) ∧ r ≤ s.size := by
  intro d
  induction d with
  | zero =>
    intro n k m hn hm hd hk
    obtain ⟨k, rfl, hk⟩ := fuel (k := k) (n := 0) (by omega)
    rw [jobshellref19_cut.l0, if_neg (by omega)]
    exact ⟨m, rfl, hm⟩
  | succ d ih =>
    intro n k m hn hm hd hk
    obtain ⟨k, rfl, hk⟩ := fuel (k := k) (n := 0) (by omega)
    rw [jobshellref19_cut.l0, if_pos (by omega), if_pos (by omega)]
    rw [wrap_succ (by omega)]
    split
    · exact ih (n + 1) k n (by omega) (by omega) (by omega) (by omega)
    · exact ih (n + 1) k m (by omega) (by omega) (by omega) (by omega)
theorem Parent_f (s : ByteArray) (hs : s.size ≤ 1000) (k : Nat) (hk : 1001 ≤ k) : ∃ r, jobshellref19_Parent.f k s = some r := by
  unfold jobshellref19_Parent.f jobshellref19_cut.f
  obtain ⟨r, h, hr⟩ := cut_l0 s hs s.size 0 k 0 (by omega) (by omega) (by omega) (by omega)
  rw [show ((0 : Nat) : Int) = 0 from rfl] at h
  rw [h, Option.bind_some]
  split
  · exact ⟨_, rfl⟩
  · rw [if_pos (by omega), if_pos (by omega)]; exact ⟨_, rfl⟩
theorem name_l0 (s : ByteArray) (hs : s.size ≤ 1000) : ∀ (d n k : Nat), n ≤ s.size → s.size - n = d → d + 1 ≤ k → ∃ r, jobshellref19_name.l0 k s (n : Int) = some r := by
  intro d
  induction d with
  | zero =>
    intro n k hn hd hk
    obtain ⟨k, rfl, hk⟩ := fuel (k := k) (n := 0) (by omega)
    rw [jobshellref19_name.l0, if_neg (by omega)]
    exact ⟨_, rfl⟩
  | succ d ih =>
    intro n k hn hd hk
    obtain ⟨k, rfl, hk⟩ := fuel (k := k) (n := 0) (by omega)
    rw [jobshellref19_name.l0, if_pos (by omega), if_pos (by omega)]
    split
    · exact ⟨_, rfl⟩
    · split
      · exact ⟨_, rfl⟩
      · rw [wrap_succ (by omega)]
        exact ih (n + 1) k (by omega) (by omega) (by omega)
theorem name_f (s : ByteArray) (k : Nat) (hk : 40 ≤ k) : ∃ r, jobshellref19_name.f k s = some r := by
  obtain ⟨k, rfl, hk⟩ := fuel (k := k) (n := 0) (by omega)
  have j0 : ∀ b : Bool, s.size ≤ 32 → ∃ r, jobshellref19_name.j0 (k + 1) s b = some r := by
    intro b h
    rw [jobshellref19_name.j0]
    split
    · exact ⟨_, rfl⟩
    · exact name_l0 s (by omega) s.size 0 k (by omega) (by omega) (by omega)
  have jt : ∃ r, jobshellref19_name.j0 (k + 1) s true = some r := by
    rw [jobshellref19_name.j0, if_pos rfl]; exact ⟨_, rfl⟩
  unfold jobshellref19_name.f
  split
  · exact jt
  · split
    · exact jt
    · split
      · exact jt
      · exact j0 _ (by omega)
theorem parts_l0 (s : ByteArray) (hs : s.size ≤ 1000) : ∀ (d n k m : Nat) (xs : List ByteArray), n ≤ s.size → m ≤ n → xs.length ≤ n → s.size - n = d → d + 1 ≤ k → ∃ r, jobshellref19_parts.l0 k s xs (m : Int) (n : Int) = some r ∧ r.length ≤ s.size + 1 := by
  intro d
  induction d with
  | zero =>
    intro n k m xs hn hm hx hd hk
    obtain ⟨k, rfl, hk⟩ := fuel (k := k) (n := 0) (by omega)
    rw [jobshellref19_parts.l0, if_neg (by omega), if_pos (by omega), if_pos (by omega), if_pos (by omega)]
    exact ⟨_, rfl, by simp; omega⟩
  | succ d ih =>
    intro n k m xs hn hm hx hd hk
    obtain ⟨k, rfl, hk⟩ := fuel (k := k) (n := 0) (by omega)
    rw [jobshellref19_parts.l0, if_pos (by omega), if_pos (by omega)]
    rw [wrap_succ (by omega)]
    split
    · rw [if_pos (by omega), if_pos (by omega), if_pos (by omega), if_pos (by omega)]
      exact ih (n + 1) k (n + 1) _ (by omega) (by omega) (by simp; omega) (by omega) (by omega)
    · exact ih (n + 1) k m _ (by omega) (by omega) (by omega) (by omega) (by omega)
theorem IsPath_l0 (l : List ByteArray) (hl : l.length ≤ 1000) : ∀ (d n k : Nat), n ≤ l.length → l.length - n = d → d + 41 ≤ k → ∃ r, jobshellref19_IsPath.l0 k l (n : Int) = some r := by
  intro d
  induction d with
  | zero =>
    intro n k hn hd hk
    obtain ⟨k, rfl, hk⟩ := fuel (k := k) (n := 0) (by omega)
    rw [jobshellref19_IsPath.l0, if_neg (by omega)]
    exact ⟨_, rfl⟩
  | succ d ih =>
    intro n k hn hd hk
    obtain ⟨k, rfl, hk⟩ := fuel (k := k) (n := d + 41) (by omega)
    rw [jobshellref19_IsPath.l0, if_pos (by omega), if_pos (by omega)]
    obtain ⟨r, h⟩ := name_f (rdOf ByteArray.empty l (n : Int)) k (by omega)
    rw [h, Option.bind_some]
    split
    · rw [wrap_succ (by omega)]
      exact ih (n + 1) k (by omega) (by omega) (by omega)
    · exact ⟨_, rfl⟩
theorem IsPath_f (s : ByteArray) (k : Nat) (hk : 500 ≤ k) : ∃ r, jobshellref19_IsPath.f k s = some r ∧ (r = true → s.size ≤ 128) := by
  obtain ⟨k, rfl, hk⟩ := fuel (k := k) (n := 0) (by omega)
  have jt : ∃ r, jobshellref19_IsPath.j0 (k + 1) s true = some r ∧ (r = true → s.size ≤ 128) := by
    rw [jobshellref19_IsPath.j0, if_pos rfl]; exact ⟨_, rfl, fun h => by cases h⟩
  unfold jobshellref19_IsPath.f
  split
  · rename_i h
    rw [toL] at h
    exact ⟨_, rfl, fun _ => by rw [← size_data, h]; decide⟩
  · split
    · exact jt
    · split
      · exact jt
      · rw [if_pos (by omega)]
        rw [jobshellref19_IsPath.j0]
        split
        · exact ⟨_, rfl, fun h => by cases h⟩
        · rw [if_pos (by omega)]
          have hz : (s.extract 1 s.size).size ≤ 127 := by rw [ByteArray.size_extract]; omega
          obtain ⟨r, h, hr⟩ := parts_l0 (s.extract 1 s.size) (by omega) (s.extract 1 s.size).size 0 k 0 [] (by omega) (by omega) (by simp) (by omega) (by omega)
          unfold jobshellref19_parts.f
          rw [show ((0 : Nat) : Int) = 0 from rfl] at h
          rw [h, Option.bind_some]
          obtain ⟨r2, h2⟩ := IsPath_l0 r (by omega) r.length 0 k (by omega) (by omega) (by omega)
          exact ⟨r2, h2, fun _ => by omega⟩
theorem find_l0 (l : List S_File) (s : ByteArray) (hl : l.length ≤ 1000) : ∀ (d n k : Nat), n ≤ l.length → l.length - n = d → d + 1 ≤ k → ∃ r, jobshellref19_find.l0 k l s (n : Int) = some r := by
  intro d
  induction d with
  | zero =>
    intro n k hn hd hk
    obtain ⟨k, rfl, hk⟩ := fuel (k := k) (n := 0) (by omega)
    rw [jobshellref19_find.l0, if_neg (by omega)]
    exact ⟨_, rfl⟩
  | succ d ih =>
    intro n k hn hd hk
    obtain ⟨k, rfl, hk⟩ := fuel (k := k) (n := 0) (by omega)
    rw [jobshellref19_find.l0, if_pos (by omega), if_pos (by omega)]
    split
    · exact ⟨_, rfl⟩
    · rw [wrap_succ (by omega)]
      exact ih (n + 1) k (by omega) (by omega) (by omega)
theorem Above_f (a b : ByteArray) : ∃ r, jobshellref19_Above.f a b = some r := by
  unfold jobshellref19_Above.f
  split
  · exact ⟨_, rfl⟩
  · split
    · rw [if_pos (by omega), if_pos (by omega)]
      split
      · exact ⟨_, rfl⟩
      · exact ⟨_, rfl⟩
    · exact ⟨_, rfl⟩
theorem parent_l0 (l : List S_File) (s : ByteArray) (hl : l.length ≤ 1000) (hs : s.size ≤ 1000) : ∀ (d n k : Nat), n ≤ l.length → l.length - n = d → d + 1002 ≤ k → ∃ r, jobshellref19_parent.l0 k l s (n : Int) = some r := by
  intro d
  induction d with
  | zero =>
    intro n k hn hd hk
    obtain ⟨k, rfl, hk⟩ := fuel (k := k) (n := 1001) (by omega)
    rw [jobshellref19_parent.l0, if_neg (by omega)]
    obtain ⟨r, h⟩ := Parent_f s hs k (by omega)
    rw [h, Option.bind_some]
    unfold jobshellref19_find.f
    obtain ⟨r2, h2⟩ := find_l0 l r hl l.length 0 k (by omega) (by omega) (by omega)
    rw [show ((0 : Nat) : Int) = 0 from rfl] at h2
    rw [h2, Option.bind_some]
    split <;> exact ⟨_, rfl⟩
  | succ d ih =>
    intro n k hn hd hk
    obtain ⟨k, rfl, hk⟩ := fuel (k := k) (n := d + 1002) (by omega)
    rw [jobshellref19_parent.l0, if_pos (by omega), if_pos (by omega)]
    rw [wrap_succ (by omega)]
    have := ih (n + 1) k (by omega) (by omega) (by omega)
    split
    · exact this
    · obtain ⟨r, h⟩ := Above_f (rd_File l (n : Int)).f0 s
      rw [h, Option.bind_some]
      split
      · exact ⟨_, rfl⟩
      · exact this
theorem valid_l0 (l : List S_File) (hl : l.length ≤ 128) : ∀ (d n k : Nat), n ≤ l.length → l.length - n = d → 3 * d + 1500 ≤ k → ∃ r, jobshellref19_Valid.l0 k l (n : Int) = some r := by
  intro d
  induction d with
  | zero =>
    intro n k hn hd hk
    obtain ⟨k, rfl, hk⟩ := fuel (k := k) (n := 1001) (by omega)
    rw [jobshellref19_Valid.l0, if_neg (by omega)]
    exact ⟨_, rfl⟩
  | succ d ih =>
    intro n k hn hd hk
    obtain ⟨k, rfl, hk⟩ := fuel (k := k) (n := 3 * d + 1502) (by omega)
    rw [jobshellref19_Valid.l0, if_pos (by omega), if_pos (by omega)]
    obtain ⟨r, h, hr⟩ := IsPath_f (rd_File l (n : Int)).f0 k (by omega)
    rw [h, Option.bind_some]
    obtain ⟨k, rfl, hk⟩ := fuel (k := k) (n := 0) (by omega)
    obtain ⟨k, rfl, hk⟩ := fuel (k := k) (n := 0) (by omega)
    cases r with
    | false => rw [if_neg (by decide)]; exact ⟨_, rfl⟩
    | true =>
      rw [if_pos rfl]
      have hsz := hr rfl
      have ihn := ih (n + 1) k (by omega) (by omega) (by omega)
      have j3 : ∀ (b : Bool) c f, ∃ r, jobshellref19_Valid.j3 (k + 1) l (n : Int) b (rd_File l (n : Int)).f0 c f = some r := by
        intro b c f
        rw [jobshellref19_Valid.j3]
        split
        · exact ⟨_, rfl⟩
        · rw [wrap_succ (by omega)]
          split
          · rw [if_pos (by omega), if_pos (by omega)]
            have ht : (l.take ((n : Int)).toNat).length ≤ 1000 := by rw [List.length_take]; omega
            obtain ⟨r3, h3⟩ := parent_l0 (l.take ((n : Int)).toNat) (rd_File l (n : Int)).f0 ht (by omega) (l.take ((n : Int)).toNat).length 0 k (by omega) (by omega) (by rw [List.length_take]; omega)
            unfold jobshellref19_parent.f
            rw [show ((0 : Nat) : Int) = 0 from rfl] at h3
            rw [h3, Option.bind_some]
            split
            · exact ihn
            · exact ⟨_, rfl⟩
          · exact ihn
      have j2 : ∀ (b : Bool) c f, ∃ r, jobshellref19_Valid.j2 (k + 2) l (n : Int) b (rd_File l (n : Int)).f0 c f = some r := by
        intro b c f
        rw [jobshellref19_Valid.j2]
        split
        · exact ⟨_, rfl⟩
        · split
          · exact ⟨_, rfl⟩
          · split
            · rw [wrap_id (i := (n : Int) - 1) (by omega) (by omega), if_pos (by omega), if_pos (by omega)]
              exact j3 _ _ _
            · exact j3 _ _ _
      split
      · split
        · split
          · exact j2 _ _ _
          · exact j2 _ _ _
        · exact j2 _ _ _
      · split
        · exact j2 _ _ _
        · exact j2 _ _ _
theorem valid_f (l : List S_File) (k : Nat) (hk : 1900 ≤ k) : ∃ r, jobshellref19_Valid.f k l = some r := by
  obtain ⟨k, rfl, hk⟩ := fuel (k := k) (n := 0) (by omega)
  unfold jobshellref19_Valid.f
  split
  · exact ⟨_, rfl⟩
  · have j0 : ∀ b, ∃ r, jobshellref19_Valid.j0 (k + 1) l b = some r := by
      intro b
      rw [jobshellref19_Valid.j0]
      split
      · exact ⟨_, rfl⟩
      · exact valid_l0 l (by omega) l.length 0 k (by omega) (by omega) (by omega)
    split
    · exact j0 _
    · rw [if_pos (by omega)]; exact j0 _
theorem guard_f (args : List ByteArray) (l : List S_File) (cwd : ByteArray) (k : Nat) (hk : 1900 ≤ k) : ∃ b, jobshelllaw29_small.f k args l cwd = some b ∧
    (b = true → args.length ≤ 12 ∧ (∀ i, i < args.length → (rdOf ByteArray.empty args (i : Nat)).size ≤ 40) ∧ l.length ≤ 40 ∧ jobshellref19_Valid.f k l = some 0 ∧ cwd.size ≤ 200) := by
  unfold jobshelllaw29_small.f
  obtain ⟨b1, h1, hb1⟩ := short_f args k (by omega)
  rw [h1, Option.bind_some]
  cases b1 with
  | false => rw [if_neg (by decide)]; exact ⟨_, rfl, fun h => by cases h⟩
  | true =>
    rw [if_pos rfl]
    by_cases hl : (l.length : Int) ≤ 40
    · rw [if_pos hl]
      unfold jobshellref19_Small.f
      obtain ⟨b2, h2⟩ := small_l0 l (by omega) l.length 0 k 0 (by omega) (by omega) (by omega)
      rw [show ((0 : Nat) : Int) = 0 from rfl] at h2
      rw [h2, Option.bind_some]
      cases b2 with
      | false => rw [if_neg (by decide)]; exact ⟨_, rfl, fun h => by cases h⟩
      | true =>
        rw [if_pos rfl]
        obtain ⟨v, hv⟩ := valid_f l k hk
        rw [hv, Option.bind_some]
        by_cases h0 : v = 0
        · rw [if_pos h0]
          refine ⟨_, rfl, fun h => ⟨(hb1 rfl).1, (hb1 rfl).2, by omega, by rw [h0], ?_⟩⟩
          have := of_decide_eq_true h
          omega
        · rw [if_neg h0]; exact ⟨_, rfl, fun h => by cases h⟩
    · rw [if_neg hl]; exact ⟨_, rfl, fun h => by cases h⟩
end Go.Proofs.YtoeiohfljaboaaaDoor.Pure
set_option linter.unusedVariables false
set_option linter.unusedSimpArgs false
namespace Go.Proofs.YtoeiohfljaboaaaDoor.Pure
open Go.RowKit Go.Proofs.YtoeiohfljaboaaaDoor.F Go.Proofs.YtoeiohfljaboaaaDoorW.PrintWords
theorem split_f (s : ByteArray) (h : s.size ≤ 100000) : strings_Split.f s (⟨#[47]⟩ : ByteArray) = some (splitOf s ⟨#[47]⟩) ∧ (splitOf s ⟨#[47]⟩).length ≤ s.size + 1 := by
  have h1 : 1 ≤ (⟨#[47]⟩ : ByteArray).size := by decide
  have hc := Lib.countB_le (⟨#[47]⟩ : ByteArray) h1 s.size s (Nat.le_refl _)
  have hl : (splitOf s ⟨#[47]⟩).length = Lib.countB s ⟨#[47]⟩ + 1 := Lib.splitB_all _ h1 0 _ s rfl
  refine ⟨?_, by omega⟩
  unfold strings_Split.f
  rw [if_pos ⟨by omega, h1, hl, by omega⟩]
theorem isName_f (s : ByteArray) : ∃ r, files_isName.f s = some r ∧ (r = true → s.size ≤ 32) := by
  unfold files_isName.f
  split
  · exact ⟨_, rfl, fun h => by cases h⟩
  · split
    · unfold strings_ContainsAny.f
      rw [if_pos ⟨rfl, by omega⟩, Option.bind_some]
      split
      · exact ⟨_, rfl, fun h => by cases h⟩
      · split
        · exact ⟨_, rfl, fun h => by cases h⟩
        · exact ⟨_, rfl, fun _ => by omega⟩
    · exact ⟨_, rfl, fun h => by cases h⟩
theorem hasPrefix_f (s p : ByteArray) : ∃ r, strings_HasPrefix.f s p = some r := by
  unfold strings_HasPrefix.f stringslite_HasPrefix.f
  split
  · exact ⟨_, rfl⟩
  · exact ⟨_, rfl⟩
theorem isPath_l0 (l : List ByteArray) (hl : l.length ≤ 1000) : ∀ (d n k : Nat), n ≤ l.length → l.length - n = d → d + 1 ≤ k → ∃ r, files_isPath.l0 k l (l.length : Int) (n : Int) = some r := by
  intro d
  induction d with
  | zero =>
    intro n k hn hd hk
    obtain ⟨k, rfl, hk⟩ := fuel (k := k) (n := 0) (by omega)
    rw [files_isPath.l0, if_neg (by omega)]
    exact ⟨_, rfl⟩
  | succ d ih =>
    intro n k hn hd hk
    obtain ⟨k, rfl, hk⟩ := fuel (k := k) (n := 0) (by omega)
    rw [files_isPath.l0, if_pos (by omega), if_pos (by omega), if_pos (by omega)]
    obtain ⟨r, h, hr⟩ := isName_f (rdOf ByteArray.empty l (n : Int))
    rw [h, Option.bind_some]
    split
    · rw [wrap_succ (by omega)]
      exact ih (n + 1) k (by omega) (by omega) (by omega)
    · exact ⟨_, rfl⟩
theorem isPath_f (s : ByteArray) (k : Nat) (hk : 200 ≤ k) : ∃ r, files_isPath.f k s = some r ∧ (r = true → s.size ≤ 128) := by
  obtain ⟨k, rfl, hk⟩ := fuel (k := k) (n := 199) (by omega)
  unfold files_isPath.f
  split
  · rename_i h
    rw [toL] at h
    exact ⟨_, rfl, fun _ => by rw [← size_data, h]; decide⟩
  · split
    · rw [files_isPath.j0, if_pos rfl]; exact ⟨_, rfl, fun h => by cases h⟩
    · rw [prefix_one, Option.bind_some, files_isPath.j0]
      split
      · exact ⟨_, rfl, fun h => by cases h⟩
      · rename_i hp
        have hp2 : s.data.toList.head? = some 47 := by simpa using hp
        have : s.data.toList ≠ [] := by intro e; rw [e] at hp2; cases hp2
        have hz : s.size ≠ 0 := by intro e; exact this (List.length_eq_zero_iff.1 (by rw [size_data]; exact e))
        rw [if_pos (by omega)]
        have hz2 : (s.extract 1 s.size).size ≤ 127 := by rw [ByteArray.size_extract]; omega
        obtain ⟨h1, h2⟩ := split_f (s.extract 1 s.size) (by omega)
        rw [h1, Option.bind_some]
        obtain ⟨r, hr⟩ := isPath_l0 (splitOf (s.extract 1 s.size) ⟨#[47]⟩) (by omega) _ 0 k (by omega) rfl (by omega)
        rw [show ((0 : Nat) : Int) = 0 from rfl] at hr
        exact ⟨r, hr, fun _ => by omega⟩
theorem parent_f (s : ByteArray) (h : s.size ≤ 1000000) : ∃ r, files_parent.f s = some r ∧ r.size ≤ s.size + 1 := by
  unfold files_parent.f strings_LastIndexByte.f
  rw [if_pos (by omega), Option.bind_some]
  split
  · rename_i hp
    rcases Lib.lastIndexByte_spec s 47 with ⟨e, -⟩ | ⟨i, hi, e, -⟩
    · omega
    · rw [e] at hp ⊢
      rw [if_pos (by omega), if_pos (by omega)]
      refine ⟨_, rfl, ?_⟩
      rw [ByteArray.size_extract]; omega
  · exact ⟨_, rfl, Nat.le_add_left 1 _⟩
theorem trim_f (s : ByteArray) (h : s.size ≤ 1000000) : ∃ r, strings_TrimSuffix.f s (⟨#[47]⟩ : ByteArray) = some r ∧ r.size ≤ s.size := by
  unfold strings_TrimSuffix.f
  rw [if_pos (by omega)]
  refine ⟨_, rfl, ?_⟩
  have := Lib.trimSuffix_le s.data.toList (⟨#[47]⟩ : ByteArray).data.toList
  rw [size_data] at this
  exact this
theorem clean_l0 (l : List ByteArray) (hl : l.length ≤ 1000) : ∀ (d n k : Nat) (at_ : ByteArray), n ≤ l.length → l.length - n = d → 2 * d + 1 ≤ k → at_.size ≤ 1000 + 34 * n → ∃ r, files_Clean.l0 k at_ l (l.length : Int) (n : Int) = some r := by
  intro d
  induction d with
  | zero =>
    intro n k at_ hn hd hk ha
    obtain ⟨k, rfl, hk⟩ := fuel (k := k) (n := 0) (by omega)
    rw [files_Clean.l0, if_neg (by omega)]
    split <;> exact ⟨_, rfl⟩
  | succ d ih =>
    intro n k at_ hn hd hk ha
    obtain ⟨k, rfl, hk⟩ := fuel (k := k) (n := 0) (by omega)
    obtain ⟨k, rfl, hk⟩ := fuel (k := k) (n := 0) (by omega)
    rw [files_Clean.l0, if_pos (by omega), if_pos (by omega), if_pos (by omega)]
    have j2 : ∀ b, ∃ r, files_Clean.j2 (k + 1) at_ (rdOf ByteArray.empty l (n : Int)) l (l.length : Int) (n : Int) b = some r := by
      intro b
      rw [files_Clean.j2, wrap_succ (by omega)]
      split
      · exact ih (n + 1) k at_ (by omega) (by omega) (by omega) (by omega)
      · split
        · obtain ⟨p, hp, hps⟩ := parent_f at_ (by omega)
          rw [hp, Option.bind_some]
          exact ih (n + 1) k p (by omega) (by omega) (by omega) (by omega)
        · obtain ⟨r, h, hr⟩ := isName_f (rdOf ByteArray.empty l (n : Int))
          rw [h, Option.bind_some]
          split
          · rename_i hrt
            have hr2 := hr hrt
            obtain ⟨t, ht, hts⟩ := trim_f at_ (by omega)
            have s1 : (t ++ (⟨#[47]⟩ : ByteArray)).size = t.size + 1 := by rw [ByteArray.size_append]; rfl
            rw [ht, Option.bind_some, if_pos (by omega), if_pos (by omega)]
            exact ih (n + 1) k _ (by omega) (by omega) (by omega) (by rw [ByteArray.size_append]; omega)
          · exact ⟨_, rfl⟩
    split
    · exact j2 _
    · exact j2 _
theorem clean_f (cwd s : ByteArray) (k : Nat) (hk : 1000 ≤ k) (hs : s.size ≤ 400) : ∃ r, files_Clean.f k cwd s = some r := by
  obtain ⟨k, rfl, hk⟩ := fuel (k := k) (n := 999) (by omega)
  unfold files_Clean.f
  obtain ⟨r, h, hr⟩ := isPath_f cwd (k + 1) (by omega)
  rw [h, Option.bind_some]
  have j0 : ∀ at_ : ByteArray, at_.size ≤ 1000 → ∃ r, files_Clean.j0 (k + 1) s at_ = some r := by
    intro at_ ha
    rw [files_Clean.j0]
    obtain ⟨h1, h2⟩ := split_f s (by omega)
    rw [h1, Option.bind_some]
    exact clean_l0 _ (by omega) _ 0 k at_ (by omega) rfl (by omega) (by omega)
  split
  · rename_i hrt
    have hr2 := hr hrt
    split
    · exact ⟨_, rfl⟩
    · rename_i hne
      rw [toL] at hne
      have hz : s.size ≠ 0 := by intro e; exact hne (List.length_eq_zero_iff.1 (by rw [size_data]; exact e))
      rw [if_pos (by omega)]
      split
      · exact j0 _ (by decide)
      · exact j0 _ (by omega)
  · exact ⟨_, rfl⟩
theorem idxF_bound (p : ByteArray) : ∀ (l : List S_File) (i : Int), idxF p l i = -1 ∨ (i ≤ idxF p l i ∧ idxF p l i < i + l.length)
  | [], i => Or.inl rfl
  | v :: r, i => by
    unfold idxF
    split
    · right; simp; omega
    · rcases idxF_bound p r (i + 1) with h | h
      · exact Or.inl h
      · right; simp only [List.length_cons]; omega
theorem find_f (l : List S_File) (p : ByteArray) (hl : l.length ≤ 1000000) : ∃ r, files_Find.f l p = some r := by
  unfold files_Find.f files_index.f
  rw [if_pos (by omega), Option.bind_some]
  have := idxF_bound p l 0
  split
  · rw [if_pos (by omega)]; exact ⟨_, rfl⟩
  · exact ⟨_, rfl⟩
theorem tOne_f (fs : List S_File) (cwd op s : ByteArray) (k : Nat) (hk : 1000 ≤ k) (hs : s.size ≤ 400) (hl : fs.length ≤ 1000000) : ∃ r, tOne k fs cwd op s = some r := by
  unfold tOne
  split
  · exact ⟨_, rfl⟩
  · split
    · exact ⟨_, rfl⟩
    · obtain ⟨p, hp⟩ := clean_f cwd s k hk hs
      rw [hp, Option.bind_some]
      split
      · obtain ⟨q, hq⟩ := find_f fs p.1 hl
        rw [hq, Option.bind_some]
        repeat' split
        all_goals exact ⟨_, rfl⟩
      · exact ⟨_, rfl⟩
theorem tTwo_f (a op b : ByteArray) (bd : Bool) (k : Nat) (hk : 220 ≤ k) (ha : a.size ≤ 100) (hb : b.size ≤ 100) : ∃ r, tTwo k a op b bd = some r := by
  unfold tTwo
  split
  · exact ⟨_, rfl⟩
  · rw [int_eq a ha (k := k) hk, int_eq b hb (k := k) hk, Option.bind_some, Option.bind_some]
    split <;> exact ⟨_, rfl⟩
end Go.Proofs.YtoeiohfljaboaaaDoor.Pure
set_option linter.unusedVariables false
set_option linter.unusedSimpArgs false
namespace Go.Proofs.YtoeiohfljaboaaaDoor.Pure
open Go.RowKit Go.Proofs.YtoeiohfljaboaaaDoor.F Go.Proofs.YtoeiohfljaboaaaDoorW.PrintWords
theorem awake_neg : jobshelllaw29_awake.f = some true := by decide +kernel
theorem short2 (k : Nat) (fs : List S_File) (cwd a b : ByteArray) (n m : Nat) (wr bd : Bool) : tShort k fs cwd (n + 1) [a, b] wr bd = tShort k fs cwd (m + 1) [a, b] wr bd := by simp only [tShort]
theorem tS3 (k : Nat) (fs : List S_File) (cwd a b c : ByteArray) (n : Nat) (wr bd : Bool) : tShort k fs cwd (n + 1) [a, b, c] wr bd =
    if bB b = true then (tTwo k a b c bd).bind fun v => some (v.1, false, wr, v.2)
      else if b.toList = [45, 97] then some (a.toList != ([] : List UInt8) && c.toList != ([] : List UInt8), false, wr, bd)
      else if b.toList = [45, 111] then some (a.toList != ([] : List UInt8) || c.toList != ([] : List UInt8), false, wr, bd)
      else if a.toList = [33] then (tShort k fs cwd n [b, c] wr bd).bind fun v => some (!v.1, false, v.2.2.1, v.2.2.2)
      else if a.toList = [40] ∧ c.toList = [41] then some (b.toList != ([] : List UInt8), false, wr, bd)
      else some (false, false, true, bd) := rfl
theorem tS4 (k : Nat) (fs : List S_File) (cwd a b c d : ByteArray) (n : Nat) (wr bd : Bool) : tShort k fs cwd (n + 1) [a, b, c, d] wr bd =
    if a.toList = [33] then (tShort k fs cwd n [b, c, d] wr bd).bind fun v => some (!v.1, false, v.2.2.1, v.2.2.2)
      else if a.toList = [40] ∧ d.toList = [41] then tShort k fs cwd n [b, c] wr bd
      else some (false, true, wr, bd) := rfl
theorem short3 (k : Nat) (fs : List S_File) (cwd a b c : ByteArray) (n m : Nat) (wr bd : Bool) : tShort k fs cwd (n + 2) [a, b, c] wr bd = tShort k fs cwd (m + 2) [a, b, c] wr bd := by
  rw [tS3, tS3, short2 k fs cwd b c n m]
theorem total2 (k : Nat) (hk : 1000 ≤ k) (fs : List S_File) (hl : fs.length ≤ 1000000) (cwd a b : ByteArray) (hb : b.size ≤ 400) (n : Nat) (wr bd : Bool) : ∃ v, tShort k fs cwd (n + 1) [a, b] wr bd = some v ∧ v.2.1 = false := by
  simp only [tShort]
  split
  · exact ⟨_, rfl, rfl⟩
  · split
    · obtain ⟨r, h⟩ := tOne_f fs cwd a b k hk hb hl
      rw [h]; exact ⟨_, rfl, rfl⟩
    · exact ⟨_, rfl, rfl⟩
theorem total3 (k : Nat) (hk : 1000 ≤ k) (fs : List S_File) (hl : fs.length ≤ 1000000) (cwd a b c : ByteArray) (ha : a.size ≤ 100) (hc : c.size ≤ 100) (n : Nat) (wr bd : Bool) : ∃ v, tShort k fs cwd (n + 2) [a, b, c] wr bd = some v ∧ v.2.1 = false := by
  rw [tS3]
  split
  · obtain ⟨r, h⟩ := tTwo_f a b c bd k (by omega) ha hc
    rw [h]; exact ⟨_, rfl, rfl⟩
  · split
    · exact ⟨_, rfl, rfl⟩
    · split
      · exact ⟨_, rfl, rfl⟩
      · split
        · obtain ⟨v, hv, -⟩ := total2 k hk fs hl cwd b c (by omega) n wr bd
          rw [hv]; exact ⟨_, rfl, rfl⟩
        · split <;> exact ⟨_, rfl, rfl⟩
theorem eval_short (args : List ByteArray) (fs : List S_File) (cwd : ByteArray) (h : args.length ≤ 1000000) (v : Bool × Bool × Bool × Bool) (hv : tShort EK fs cwd 5 args false false = some v) (h0 : v.2.1 = false) :
    testexpr_Eval.f args fs cwd = some (resE v.1 v.2.2.1 v.2.2.2) := by
  unfold testexpr_Eval.f
  rw [if_pos h, hv, Option.bind_some, h0, if_neg (by decide)]
theorem bB_false (a : ByteArray) (h : ¬ (a.toList = [61] ∨ a.toList = [33, 61] ∨ a.toList = [45, 101, 113] ∨ a.toList = [45, 110, 101] ∨ a.toList = [45, 108, 116] ∨ a.toList = [45, 108, 101] ∨ a.toList = [45, 103, 116] ∨ a.toList = [45, 103, 101])) : ¬ bB a = true := by
  simp only [not_or] at h
  obtain ⟨h1, h2, h3, h4, h5, h6, h7, h8⟩ := h
  unfold bB testexpr_binary.f
  rw [if_neg h1, if_neg h2, if_neg h3, if_neg h4, if_neg h5, if_neg h6, if_neg h7, if_neg h8]
  decide
theorem neg_end (k : Nat) (x0 : List ByteArray) (x1 : List S_File) (hx : x0.length ≤ 12) (v : Bool × Bool × Bool × Bool) (u : Bool)
    (h1 : tShort EK x1 (⟨#[47]⟩ : ByteArray) 5 x0 false false = some v) (hv : v.2.1 = false)
    (h2 : tShort EK x1 (⟨#[47]⟩ : ByteArray) 5 ((⟨#[33]⟩ : ByteArray) :: x0) false false = some (!v.1, false, v.2.2.1, v.2.2.2)) :
    jobshelllaw29_TestexprNegates.j1 (k + 1) x0 x1 false = some true := by
  have e1 := eval_short x0 x1 (⟨#[47]⟩ : ByteArray) (by omega) v h1 hv
  have e2 := eval_short ((⟨#[33]⟩ : ByteArray) :: x0) x1 (⟨#[47]⟩ : ByteArray) (by simp; omega) _ h2 rfl
  rw [jobshelllaw29_TestexprNegates.j1, if_neg (by decide), e1, Option.bind_some, Option.bind_some, if_pos (by simp; omega)]
  rw [show ([(⟨#[33]⟩ : ByteArray)] ++ x0) = (⟨#[33]⟩ : ByteArray) :: x0 from rfl, e2, Option.bind_some]
  obtain ⟨v1, v2, v3, v4⟩ := v
  rw [awake_neg]
  dsimp only
  unfold resE
  cases v1 <;> cases v3 <;> cases v4 <;> rfl
theorem TestexprNegates (l0 : List ByteArray) (l1 : List S_File) {P Q : Prop} (w0 : P) (w1 : Q) : ∃ k, jobshelllaw29_TestexprNegates.f k l0 l1 = some true := by
  refine ⟨2000, ?_⟩
  have jt : jobshelllaw29_TestexprNegates.j0 2000 l0 l1 true = some true := by rw [jobshelllaw29_TestexprNegates.j0, if_pos rfl, awake_neg]; rfl
  unfold jobshelllaw29_TestexprNegates.f
  obtain ⟨b, h, hb⟩ := guard_f l0 l1 (⟨#[47]⟩ : ByteArray) 2000 (by decide)
  rw [h, Option.bind_some]
  cases b with
  | false => rw [if_neg (by decide)]; exact jt
  | true =>
    rw [if_pos rfl]
    obtain ⟨hn, hs, hl, -, -⟩ := hb rfl
    by_cases c1 : (l0.length : Int) < 1
    · rw [if_pos c1]; exact jt
    rw [if_neg c1]
    by_cases c2 : (l0.length : Int) > 3
    · rw [decide_eq_true c2]; exact jt
    rw [decide_eq_false c2, jobshelllaw29_TestexprNegates.j0, if_neg (by decide), if_pos (by omega)]
    have jt1 : jobshelllaw29_TestexprNegates.j1 1999 l0 l1 true = some true := by rw [jobshelllaw29_TestexprNegates.j1, if_pos rfl, awake_neg]; rfl
    have e33 : (⟨#[33]⟩ : ByteArray).toList = [33] := by decide +kernel
    match l0, hn, hs, c1, c2, jt1 with
    | [], _, _, c1, _, _ => exact absurd (by decide) c1
    | [a], _, hs, _, _, _ =>
      rw [if_neg (by simp)]
      refine neg_end 1998 _ _ (by simp) (a.toList != ([] : List UInt8), false, false, false) false (by simp only [tShort]) rfl ?_
      simp only [tShort]
      rw [if_pos e33]
      simp [bne]
    | [a, b], _, hs, _, _, jt1 =>
      rw [if_pos (by simp)]
      rw [show rdOf ByteArray.empty [a, b] 0 = a from rfl]
      have sb : b.size ≤ 40 := hs 1 (by simp)
      by_cases q1 : a.toList = [61]
      · rw [if_pos q1]; exact jt1
      rw [if_neg q1]
      by_cases q2 : a.toList = [33, 61]
      · rw [if_pos q2]; exact jt1
      rw [if_neg q2]
      by_cases q3 : a.toList = [45, 101, 113]
      · rw [if_pos q3]; exact jt1
      rw [if_neg q3]
      by_cases q4 : a.toList = [45, 110, 101]
      · rw [if_pos q4]; exact jt1
      rw [if_neg q4]
      by_cases q5 : a.toList = [45, 108, 116]
      · rw [if_pos q5]; exact jt1
      rw [if_neg q5]
      by_cases q6 : a.toList = [45, 108, 101]
      · rw [if_pos q6]; exact jt1
      rw [if_neg q6]
      by_cases q7 : a.toList = [45, 103, 116]
      · rw [if_pos q7]; exact jt1
      rw [if_neg q7]
      by_cases q8 : a.toList = [45, 103, 101]
      · rw [if_pos q8]; exact jt1
      rw [if_neg q8]
      by_cases q9 : a.toList = [45, 97]
      · rw [if_pos q9]; exact jt1
      rw [if_neg q9]
      by_cases q0 : a.toList = [45, 111]
      · rw [q0]; exact jt1
      rw [show (a.toList == ([45, 111] : List UInt8)) = false from beq_eq_false_iff_ne.2 q0]
      obtain ⟨v, hv, hv1⟩ := total2 EK (by decide) l1 (by omega) (⟨#[47]⟩ : ByteArray) a b (by omega) 4 false false
      refine neg_end 1998 _ _ (by simp) v false hv hv1 ?_
      rw [tS3, if_neg (bB_false a (by simp [q1, q2, q3, q4, q5, q6, q7, q8])), if_neg q9, if_neg q0, if_pos e33, short2 EK l1 _ a b 3 4, hv]
      rfl
    | [a, b, c], _, hs, _, _, _ =>
      rw [if_neg (by simp)]
      have sa : a.size ≤ 40 := hs 0 (by simp)
      have sc : c.size ≤ 40 := hs 2 (by simp)
      obtain ⟨v, hv, hv1⟩ := total3 EK (by decide) l1 (by omega) (⟨#[47]⟩ : ByteArray) a b c (by omega) (by omega) 3 false false
      refine neg_end 1998 _ _ (by simp) v false hv hv1 ?_
      rw [tS4, if_pos e33, short3 EK l1 _ a b c 2 3, hv]
      rfl
    | a :: b :: c :: d :: r, _, _, _, c2, _ => exact absurd (by simp; omega) c2
end Go.Proofs.YtoeiohfljaboaaaDoor.Pure
namespace Go.Proofs.YtoeiohfljaboaaaDoor.testexprNegates
open Go.ChangeShapes Go.WideShapes Go.ChangeAt Go.RowKit
open Go.ChangeMaps (open_string shut_string)
open Go.Proofs.YtoeiohfljaboaaaDoor.F Go.Proofs.YtoeiohfljaboaaaDoorW.PrintWords Go.Proofs.YtoeiohfljaboaaaDoor.Opn
set_option linter.unusedVariables false
set_option linter.unusedSimpArgs false
theorem own : ownKnob Tryd.prog.godebug = none := by kernel_rfl
theorem laidOut : laidOutB Tryd.prog = true := by kernel_rfl
set_option maxRecDepth 100000 in
set_option maxHeartbeats 1000000 in
theorem lifted (os : Os) (started : os.Started) (H : Type) (enc : TypeId × Value → H) :
    ReturnsInHanded {} Tryd.checked os 4 .any (fun w args => (Rows.testexprNegatesSpec.pre enc Tryd.prog Tryd.f4 [] false w args ∧ laidMetH Tryd.prog Rows.testexprNegatesRow.laid w) ∧ sizedMet enc Tryd.prog Tryd.f4 (OpenSpec.ofChange Rows.testexprNegatesSpec) false w args)
      (Rows.testexprNegatesSpec.post enc Tryd.prog Tryd.f4 false true false false) := by
  refine handed_and_shaped (C := Tryd.checked) (X := fun w _ => laidMetH Tryd.prog Rows.testexprNegatesRow.laid w) (fun _ _ _ hh h => h.of_heap hh) own started (by kernel_rfl) Tryd.func4
    (ChangeSpec.witness_shaped (enc := enc) (C := Tryd.checked) (os := os) (X := fun w _ => laidMetH Tryd.prog Rows.testexprNegatesRow.laid w) false (World.laidAll Tryd.prog os Rows.testexprNegatesRow.laid) #[.slice none 0 0, .slice none 0 0] 8 (World.laidAll_os _ _ _)
      (World.shaped_of_ZipB (by kernel_rfl) (by kernel_rfl)) (by kernel_rfl) (by kernel_rfl) (by kernel_rfl)
      (by rw [MakeChecks.laidMetH_plain _ _ _ (by kernel_rfl)]; exact laidMet_laidAll _ (by kernel_rfl) (by kernel_rfl))) ?_
  intro W base args ds gs before hval0 hW _ hsz0 hL hSh
  have hsz : (DataW.weightsEach Tryd.prog (Tryd.f4.params.toList ++ Rows.testexprNegatesSpec.plain.varTypes Tryd.prog) (ds ++ gs)).all (· ≤ reachBytes) = true := hsz0
  have hval : ∀ (j : Nat) t v, Tryd.f4.params[j]? = some t → args[j]? = some v → Value.okWide Tryd.prog W .any base t v := hval0
  have hW' := hW
  obtain ⟨p, q, hA0, hV, rfl, hfz, hnd⟩ := hW
  have hA : DataW.TrodAll enc Tryd.prog W 0 (fun _ => true) true Tryd.f4.params.toList args.toList ds p := hA0
  rw [Tryd.params4] at hA hval hsz
  obtain ⟨v0, vs0, d0, ds0, p0, q0, hargs, rfl, rfl, h0, r0⟩ := trodAll_cons hA
  obtain ⟨v1, vs1, d1, ds1, p1, q1, rfl, rfl, rfl, h1, r1⟩ := trodAll_cons r0
  obtain ⟨rfl, rfl, rfl⟩ := trodAll_nil r1
  obtain rfl : args = #[v0, v1] := by cases args; simp_all
  obtain ⟨rfl, rfl⟩ := trodVars_none hV
  have k0 := h0
  have lt0 : ∀ x ∈ p0, x.block < W.heap.size := by obtain ⟨m, hm⟩ := k0; exact DataW.trod_lt m _ _ _ hm
  obtain ⟨A0, c0, l0, rfl, hc0, hr0, w0⟩ := arg_slice (opens_slice Tryd.underlying22 (opens_string Tryd.underlying9) (by kernel_rfl)) (okWide_slice Tryd.underlying22 (hval 0 22 v0 rfl rfl)) h0
  have k1 := h1
  have lt1 : ∀ x ∈ p1, x.block < W.heap.size := by obtain ⟨m, hm⟩ := k1; exact DataW.trod_lt m _ _ _ hm
  obtain ⟨A1, c1, l1, rfl, hc1, hr1, w1⟩ := arg_slice (opens_slice Tryd.underlying23 opens37 (by kernel_rfl)) (okWide_slice Tryd.underlying23 (hval 1 23 v1 rfl rfl)) h1
  clear hA0 hval0 hsz0 hsz
  obtain ⟨k, hk_⟩ := Go.Proofs.YtoeiohfljaboaaaDoor.Pure.TestexprNegates l0 l1 w0 w1
  refine (jobshelllaw29_TestexprNegates.calls k A0 c0 l0 A1 c1 l1 true W hr0 hc0 hr1 hc1 (amb_shaped hSh) hk_).mono fun e W' ⟨he, bel0⟩ => ?_
  have bel : Below W.heap.size W W' := bel0
  subst he
  exact ⟨_, rfl, _, _, _, [], _, [], hW', trodAll_mk1 (shut_bool Tryd.underlying4 _), (trodAll_cons_mk (Below.trod laidOut (by kernel_rfl) (of_decide_eq_true (by kernel_rfl)) k0 bel lt0) (trodAll_cons_mk (Below.trod laidOut (by kernel_rfl) (of_decide_eq_true (by kernel_rfl)) k1 bel lt1) trodAll_mk0)), rfl, bel.frame _, fun h => by cases h⟩
theorem over : Rows.testexprNegatesRow.holds Tryd.pinned (OpenSpec.ofChange Rows.testexprNegatesSpec) :=
  OpenClaim.holds_of_wide 4 Tryd.f4 rfl rfl rfl rfl rfl rfl rfl ⟨rfl, rfl, rfl, rfl, rfl⟩ rfl rfl rfl rfl rfl (by kernel_rfl) Tryd.func4 (by kernel_rfl)
    (of_decide_eq_true (by kernel_rfl)) (by unfold Func.isWrapper; first | (rw [if_pos (by decide +kernel)]; kernel_rfl) | (rw [if_neg (by decide +kernel)]; exact ⟨rfl, rfl⟩))
    (fun os started H enc _ => lifted os started H enc)
theorem card : Rows.TestexprNegatesCardSaid :=
  Claim7.holds_tied_plain_at .later [] [.data, .pinned] true (true, "aacb5983c18f5337dcd45483c6c156b2b676d1e2300df527b101564bf02ef163") false over (fun _ h => by cases h) (by kernel_rfl) (fun _ h => by cases h) testexprNegates_row_tie rfl ⟨rfl, rfl⟩ (by kernel_rfl) rfl
    (fun f fn hf hfn => by
      obtain rfl : f = 4 := Option.some.inj ((show Tryd.prog.funcNamed "jobshell/jobshelllaw29.TestexprNegates" = some 4 by kernel_rfl).symm.trans hf) |>.symm
      obtain rfl : fn = Tryd.f4 := (Option.some.inj (Tryd.func4.symm.trans hfn)).symm
      exact ⟨by kernel_rfl, fun j t ht => by
        rw [Tryd.params4] at ht
        have hm : t ∈ [22, 23] := by simpa using Array.mem_of_getElem? ht
        have hall : ([22, 23].all fun u => !Tryd.prog.wantsStandIn u) = true := by kernel_rfl
        exact (show Tryd.prog.wantsStandIn t = false by simpa using List.all_eq_true.1 hall t hm)⟩)
    (by kernel_rfl)
#print axioms card
end Go.Proofs.YtoeiohfljaboaaaDoor.testexprNegates
namespace Go.Proofs.YtoeiohfljaboaaaDoor
theorem testexprNegates_holds : Rows.TestexprNegatesCardSaid := testexprNegates.card
end Go.Proofs.YtoeiohfljaboaaaDoor
