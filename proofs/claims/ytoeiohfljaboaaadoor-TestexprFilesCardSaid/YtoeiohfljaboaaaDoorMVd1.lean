/- Texts of this claim, joined. -/
import Derived.Test.YtoeiohfljaboaaaDoorB0
import Derived.Test.YtoeiohfljaboaaaDoorMVd0
import Derived.Test.YtoeiohfljaboaaaDoorB2
import Derived.Test.YtoeiohfljaboaaaDoorB1
import Derived.Test.YtoeiohfljaboaaaDoorB3
namespace Go.Proofs.YtoeiohfljaboaaaDoor.F
open Go.RowKit Go.Proofs.YtoeiohfljaboaaaDoorW.PrintWords Go.Proofs.YtoeiohfljaboaaaDoorW.PrintLast Go.Proofs.YtoeiohfljaboaaaDoorW.PrintMore
attribute [local go_sem] max2_int min2_int max_two min_two max_three min_three max_four min_four
set_option linter.unusedVariables false
set_option linter.unusedSimpArgs false
mutual
def jobshelllaw29_TestexprFiles.j0 : Nat → List (S_File) → Bool → Option (Bool)
 | 0, _, _ => none
 | k + 1, x0, x93 => if x93 = true then (some false) else (jobshelllaw29_TestexprFiles.l0 k x0 0)
def jobshelllaw29_TestexprFiles.l0 : Nat → List (S_File) → Int → Option (Bool)
 | 0, _, _ => none
 | k + 1, x0, x15 => if x15 < (x0.length : Int) then (if 0 ≤ x15 then ((testexpr_Eval.f (([(⟨#[45, 100]⟩ : ByteArray), (rd_File x0 x15).f0] : List ByteArray)) x0 (⟨#[47]⟩ : ByteArray)).bind fun bt380 => ((testexpr_Eval.f (([(⟨#[45, 115]⟩ : ByteArray), (rd_File x0 x15).f0] : List ByteArray)) x0 (⟨#[47]⟩ : ByteArray)).bind fun bt386 => (if bt380.2 = 0 then (if bt386.2 = 0 then (if (bt380.1 != ((rd_File x0 x15).f1)) = true then (some false) else (if (bt386.1 != (((rd_File x0 x15).f2).toList != ([] : List UInt8))) = true then (some false) else (jobshelllaw29_TestexprFiles.l0 k x0 (wrap64 (x15 + 1))))) else (some false)) else (some false)))) else (none)) else ((jobshelllaw29_awake.f).bind fun t375 => (some t375))
end
def jobshelllaw29_TestexprFiles.f (k : Nat) (l0 : List (S_File)) (a1 : ByteArray) (a2 : ByteArray) : Option (Bool) := (jobshelllaw29_small.f k (([a2] : List ByteArray)) l0 a1).bind fun t353 => (if t353 = true then ((testexpr_Eval.f (([(⟨#[45, 101]⟩ : ByteArray), a2] : List ByteArray)) l0 a1).bind fun bt358 => ((testexpr_Eval.f (([(⟨#[45, 102]⟩ : ByteArray), a2] : List ByteArray)) l0 a1).bind fun bt363 => ((testexpr_Eval.f (([(⟨#[45, 100]⟩ : ByteArray), a2] : List ByteArray)) l0 a1).bind fun bt368 => ((testexpr_Eval.f (([(⟨#[45, 115]⟩ : ByteArray), a2] : List ByteArray)) l0 a1).bind fun bt373 => (if bt358.2 = 0 then (if bt363.2 = 0 then (if bt368.2 = 0 then (if bt373.2 = 0 then (if bt363.1 = true then (if (bt358.1 != true) = true then (jobshelllaw29_TestexprFiles.j0 k l0 true) else (if bt368.1 = true then (jobshelllaw29_TestexprFiles.j0 k l0 true) else (if bt373.1 = true then (jobshelllaw29_TestexprFiles.j0 k l0 (!bt363.1)) else (jobshelllaw29_TestexprFiles.j0 k l0 false)))) else (if (bt358.1 != bt368.1) = true then (jobshelllaw29_TestexprFiles.j0 k l0 true) else (if bt373.1 = true then (jobshelllaw29_TestexprFiles.j0 k l0 (!bt363.1)) else (jobshelllaw29_TestexprFiles.j0 k l0 false)))) else (jobshelllaw29_TestexprFiles.j0 k l0 true)) else (jobshelllaw29_TestexprFiles.j0 k l0 true)) else (jobshelllaw29_TestexprFiles.j0 k l0 true)) else (jobshelllaw29_TestexprFiles.j0 k l0 true)))))) else ((jobshelllaw29_awake.f).bind fun t354 => (some t354)))
theorem jobshelllaw29_TestexprFiles.mono_l : ∀ k, (∀ y0 y1, LeO (jobshelllaw29_TestexprFiles.j0 k y0 y1) (jobshelllaw29_TestexprFiles.j0 (k + 1) y0 y1)) ∧ (∀ y0 y1, LeO (jobshelllaw29_TestexprFiles.l0 k y0 y1) (jobshelllaw29_TestexprFiles.l0 (k + 1) y0 y1))
 | 0 => ⟨fun _ _ r h => by simp [jobshelllaw29_TestexprFiles.j0] at h, fun _ _ r h => by simp [jobshelllaw29_TestexprFiles.l0] at h⟩
 | k + 1 => by
  obtain ⟨ih0, ih1⟩ := jobshelllaw29_TestexprFiles.mono_l k
  refine ⟨?_, ?_⟩
  ·intro y0 y1
   unfold jobshelllaw29_TestexprFiles.j0
   repeat' first
   | (with_reducible exact ih0 _ _)
   | (with_reducible exact ih1 _ _)
   | (with_reducible exact jobshelllaw29_small.mono _ _ _ _)
   | (with_reducible exact LeO.refl _)
   | (with_reducible exact LeO.none _)
   | (with_reducible refine LeO.ite ?_ ?_)
   | (with_reducible refine LeO.bind ?_ (fun _ => ?_))
   | exact ih0 _ _
   | exact ih1 _ _
   | exact jobshelllaw29_small.mono _ _ _ _
   | exact LeO.none _
   | refine LeO.ite ?_ ?_
   | refine LeO.bind ?_ (fun _ => ?_)
  ·intro y0 y1
   unfold jobshelllaw29_TestexprFiles.l0
   repeat' first
   | (with_reducible exact ih0 _ _)
   | (with_reducible exact ih1 _ _)
   | (with_reducible exact jobshelllaw29_small.mono _ _ _ _)
   | (with_reducible exact LeO.refl _)
   | (with_reducible exact LeO.none _)
   | (with_reducible refine LeO.ite ?_ ?_)
   | (with_reducible refine LeO.bind ?_ (fun _ => ?_))
   | exact ih0 _ _
   | exact ih1 _ _
   | exact jobshelllaw29_small.mono _ _ _ _
   | exact LeO.none _
   | refine LeO.ite ?_ ?_
   | refine LeO.bind ?_ (fun _ => ?_)
theorem jobshelllaw29_TestexprFiles.mono : ∀ a0 a1 a2 k, LeO (jobshelllaw29_TestexprFiles.f k a0 a1 a2) (jobshelllaw29_TestexprFiles.f (k + 1) a0 a1 a2) := by
 intro a0 a1 a2 k
 obtain ⟨ih0, ih1⟩ := jobshelllaw29_TestexprFiles.mono_l k
 unfold jobshelllaw29_TestexprFiles.f
 repeat' first
   | (with_reducible exact ih0 _ _)
   | (with_reducible exact ih1 _ _)
   | (with_reducible exact jobshelllaw29_small.mono _ _ _ _)
   | (with_reducible exact LeO.refl _)
   | (with_reducible exact LeO.none _)
   | (with_reducible refine LeO.ite ?_ ?_)
   | (with_reducible refine LeO.bind ?_ (fun _ => ?_))
   | exact ih0 _ _
   | exact ih1 _ _
   | exact jobshelllaw29_small.mono _ _ _ _
   | exact LeO.none _
   | refine LeO.ite ?_ ?_
   | refine LeO.bind ?_ (fun _ => ?_)
set_option maxHeartbeats 8000000 in
set_option maxRecDepth 100000 in
theorem jobshelllaw29_TestexprFiles.calls (k : Nat) (A0 : Option Addr) (c0 : Nat) (l0 : List (S_File)) (a1 : ByteArray) (a2 : ByteArray) (r : Bool) (w : World) (hr0 : Kd.C k_File w A0 l0.length l0) (hc0 : l0.length ≤ c0) (hamb : AmbC w) (h : jobshelllaw29_TestexprFiles.f k l0 a1 a2 = some r) :
  Calls Tryd.prog 7 #[.slice A0 l0.length c0, .string a1, .string a2] w fun e w' => e = .returned (.bool r) ∧ Below w.heap.size w w' := by
 have HAMB := Aside0.mk hamb
 clear hamb
 have HR0 := Aside0.mk hr0
 have HC0 := Aside0.mk hc0
 clear hr0 hc0
 have HB := Aside0.mk (Below.refl w.heap.size w)
 have H : ((jobshelllaw29_small.f k (([a2] : List ByteArray)) l0 a1).bind fun t353 => (if t353 = true then ((testexpr_Eval.f (([(⟨#[45, 101]⟩ : ByteArray), a2] : List ByteArray)) l0 a1).bind fun bt358 => ((testexpr_Eval.f (([(⟨#[45, 102]⟩ : ByteArray), a2] : List ByteArray)) l0 a1).bind fun bt363 => ((testexpr_Eval.f (([(⟨#[45, 100]⟩ : ByteArray), a2] : List ByteArray)) l0 a1).bind fun bt368 => ((testexpr_Eval.f (([(⟨#[45, 115]⟩ : ByteArray), a2] : List ByteArray)) l0 a1).bind fun bt373 => (if bt358.2 = 0 then (if bt363.2 = 0 then (if bt368.2 = 0 then (if bt373.2 = 0 then (if bt363.1 = true then (if (bt358.1 != true) = true then (jobshelllaw29_TestexprFiles.j0 k l0 true) else (if bt368.1 = true then (jobshelllaw29_TestexprFiles.j0 k l0 true) else (if bt373.1 = true then (jobshelllaw29_TestexprFiles.j0 k l0 (!bt363.1)) else (jobshelllaw29_TestexprFiles.j0 k l0 false)))) else (if (bt358.1 != bt368.1) = true then (jobshelllaw29_TestexprFiles.j0 k l0 true) else (if bt373.1 = true then (jobshelllaw29_TestexprFiles.j0 k l0 (!bt363.1)) else (jobshelllaw29_TestexprFiles.j0 k l0 false)))) else (jobshelllaw29_TestexprFiles.j0 k l0 true)) else (jobshelllaw29_TestexprFiles.j0 k l0 true)) else (jobshelllaw29_TestexprFiles.j0 k l0 true)) else (jobshelllaw29_TestexprFiles.j0 k l0 true)))))) else ((jobshelllaw29_awake.f).bind fun t354 => (some t354)))) = some r := h
 clear h
 obtain ⟨y350, hy350⟩ : ∃ y_ : List ByteArray, y_ = (([a2] : List ByteArray)) := ⟨_, rfl⟩
 replace H : ((jobshelllaw29_small.f k y350 l0 a1).bind fun t353 => (if t353 = true then ((testexpr_Eval.f (([(⟨#[45, 101]⟩ : ByteArray), a2] : List ByteArray)) l0 a1).bind fun bt358 => ((testexpr_Eval.f (([(⟨#[45, 102]⟩ : ByteArray), a2] : List ByteArray)) l0 a1).bind fun bt363 => ((testexpr_Eval.f (([(⟨#[45, 100]⟩ : ByteArray), a2] : List ByteArray)) l0 a1).bind fun bt368 => ((testexpr_Eval.f (([(⟨#[45, 115]⟩ : ByteArray), a2] : List ByteArray)) l0 a1).bind fun bt373 => (if bt358.2 = 0 then (if bt363.2 = 0 then (if bt368.2 = 0 then (if bt373.2 = 0 then (if bt363.1 = true then (if (bt358.1 != true) = true then (jobshelllaw29_TestexprFiles.j0 k l0 true) else (if bt368.1 = true then (jobshelllaw29_TestexprFiles.j0 k l0 true) else (if bt373.1 = true then (jobshelllaw29_TestexprFiles.j0 k l0 (!bt363.1)) else (jobshelllaw29_TestexprFiles.j0 k l0 false)))) else (if (bt358.1 != bt368.1) = true then (jobshelllaw29_TestexprFiles.j0 k l0 true) else (if bt373.1 = true then (jobshelllaw29_TestexprFiles.j0 k l0 (!bt363.1)) else (jobshelllaw29_TestexprFiles.j0 k l0 false)))) else (jobshelllaw29_TestexprFiles.j0 k l0 true)) else (jobshelllaw29_TestexprFiles.j0 k l0 true)) else (jobshelllaw29_TestexprFiles.j0 k l0 true)) else (jobshelllaw29_TestexprFiles.j0 k l0 true)))))) else ((jobshelllaw29_awake.f).bind fun t354 => (some t354)))) = some r := by first | (rw [hy350]; with_reducible exact H) | (have H2_ := (Option.bind_some _ _).symm.trans H; rw [hy350]; with_reducible exact H2_) | (have H2_ := (Option.bind_some _ _).symm.trans H; with_reducible exact H2_) | with_reducible exact H | (rw [hy350]; exact H) | exact H
 have Ny350 := Aside0.mk hy350
 clear hy350
 replace H := Option.bind_eq_some_iff.mp H
 obtain ⟨t353, A40, H⟩ := H
 replace H : (if t353 = true then ((testexpr_Eval.f (([(⟨#[45, 101]⟩ : ByteArray), a2] : List ByteArray)) l0 a1).bind fun bt358 => ((testexpr_Eval.f (([(⟨#[45, 102]⟩ : ByteArray), a2] : List ByteArray)) l0 a1).bind fun bt363 => ((testexpr_Eval.f (([(⟨#[45, 100]⟩ : ByteArray), a2] : List ByteArray)) l0 a1).bind fun bt368 => ((testexpr_Eval.f (([(⟨#[45, 115]⟩ : ByteArray), a2] : List ByteArray)) l0 a1).bind fun bt373 => (if bt358.2 = 0 then (if bt363.2 = 0 then (if bt368.2 = 0 then (if bt373.2 = 0 then (if bt363.1 = true then (if (bt358.1 != true) = true then (jobshelllaw29_TestexprFiles.j0 k l0 true) else (if bt368.1 = true then (jobshelllaw29_TestexprFiles.j0 k l0 true) else (if bt373.1 = true then (jobshelllaw29_TestexprFiles.j0 k l0 (!bt363.1)) else (jobshelllaw29_TestexprFiles.j0 k l0 false)))) else (if (bt358.1 != bt368.1) = true then (jobshelllaw29_TestexprFiles.j0 k l0 true) else (if bt373.1 = true then (jobshelllaw29_TestexprFiles.j0 k l0 (!bt363.1)) else (jobshelllaw29_TestexprFiles.j0 k l0 false)))) else (jobshelllaw29_TestexprFiles.j0 k l0 true)) else (jobshelllaw29_TestexprFiles.j0 k l0 true)) else (jobshelllaw29_TestexprFiles.j0 k l0 true)) else (jobshelllaw29_TestexprFiles.j0 k l0 true)))))) else ((jobshelllaw29_awake.f).bind fun t354 => (some t354))) = some r := H
 have A4 := Aside0.mk A40
 clear A40
 by_cases c5 : t353 = true
 ·subst c5
  have H1 : ((testexpr_Eval.f (([(⟨#[45, 101]⟩ : ByteArray), a2] : List ByteArray)) l0 a1).bind fun bt358 => ((testexpr_Eval.f (([(⟨#[45, 102]⟩ : ByteArray), a2] : List ByteArray)) l0 a1).bind fun bt363 => ((testexpr_Eval.f (([(⟨#[45, 100]⟩ : ByteArray), a2] : List ByteArray)) l0 a1).bind fun bt368 => ((testexpr_Eval.f (([(⟨#[45, 115]⟩ : ByteArray), a2] : List ByteArray)) l0 a1).bind fun bt373 => (if bt358.2 = 0 then (if bt363.2 = 0 then (if bt368.2 = 0 then (if bt373.2 = 0 then (if bt363.1 = true then (if (bt358.1 != true) = true then (jobshelllaw29_TestexprFiles.j0 k l0 true) else (if bt368.1 = true then (jobshelllaw29_TestexprFiles.j0 k l0 true) else (if bt373.1 = true then (jobshelllaw29_TestexprFiles.j0 k l0 (!bt363.1)) else (jobshelllaw29_TestexprFiles.j0 k l0 false)))) else (if (bt358.1 != bt368.1) = true then (jobshelllaw29_TestexprFiles.j0 k l0 true) else (if bt373.1 = true then (jobshelllaw29_TestexprFiles.j0 k l0 (!bt363.1)) else (jobshelllaw29_TestexprFiles.j0 k l0 false)))) else (jobshelllaw29_TestexprFiles.j0 k l0 true)) else (jobshelllaw29_TestexprFiles.j0 k l0 true)) else (jobshelllaw29_TestexprFiles.j0 k l0 true)) else (jobshelllaw29_TestexprFiles.j0 k l0 true)))))) = some r := by rw [if_pos rfl] at H; exact H
  clear H
  have H := H1
  clear H1
  obtain ⟨y355, hy355⟩ : ∃ y_ : List ByteArray, y_ = (([(⟨#[45, 101]⟩ : ByteArray), a2] : List ByteArray)) := ⟨_, rfl⟩
  replace H : ((testexpr_Eval.f y355 l0 a1).bind fun bt358 => ((testexpr_Eval.f (([(⟨#[45, 102]⟩ : ByteArray), a2] : List ByteArray)) l0 a1).bind fun bt363 => ((testexpr_Eval.f (([(⟨#[45, 100]⟩ : ByteArray), a2] : List ByteArray)) l0 a1).bind fun bt368 => ((testexpr_Eval.f (([(⟨#[45, 115]⟩ : ByteArray), a2] : List ByteArray)) l0 a1).bind fun bt373 => (if bt358.2 = 0 then (if bt363.2 = 0 then (if bt368.2 = 0 then (if bt373.2 = 0 then (if bt363.1 = true then (if (bt358.1 != true) = true then (jobshelllaw29_TestexprFiles.j0 k l0 true) else (if bt368.1 = true then (jobshelllaw29_TestexprFiles.j0 k l0 true) else (if bt373.1 = true then (jobshelllaw29_TestexprFiles.j0 k l0 (!bt363.1)) else (jobshelllaw29_TestexprFiles.j0 k l0 false)))) else (if (bt358.1 != bt368.1) = true then (jobshelllaw29_TestexprFiles.j0 k l0 true) else (if bt373.1 = true then (jobshelllaw29_TestexprFiles.j0 k l0 (!bt363.1)) else (jobshelllaw29_TestexprFiles.j0 k l0 false)))) else (jobshelllaw29_TestexprFiles.j0 k l0 true)) else (jobshelllaw29_TestexprFiles.j0 k l0 true)) else (jobshelllaw29_TestexprFiles.j0 k l0 true)) else (jobshelllaw29_TestexprFiles.j0 k l0 true)))))) = some r := by first | (rw [hy355]; with_reducible exact H) | (have H2_ := (Option.bind_some _ _).symm.trans H; rw [hy355]; with_reducible exact H2_) | (have H2_ := (Option.bind_some _ _).symm.trans H; with_reducible exact H2_) | with_reducible exact H | (rw [hy355]; exact H) | exact H
  have Ny355 := Aside0.mk hy355
  clear hy355
  replace H := Option.bind_eq_some_iff.mp H
  obtain ⟨⟨t358, t359⟩, A60, H⟩ := H
  replace H : ((testexpr_Eval.f (([(⟨#[45, 102]⟩ : ByteArray), a2] : List ByteArray)) l0 a1).bind fun bt363 => ((testexpr_Eval.f (([(⟨#[45, 100]⟩ : ByteArray), a2] : List ByteArray)) l0 a1).bind fun bt368 => ((testexpr_Eval.f (([(⟨#[45, 115]⟩ : ByteArray), a2] : List ByteArray)) l0 a1).bind fun bt373 => (if t359 = 0 then (if bt363.2 = 0 then (if bt368.2 = 0 then (if bt373.2 = 0 then (if bt363.1 = true then (if (t358 != true) = true then (jobshelllaw29_TestexprFiles.j0 k l0 true) else (if bt368.1 = true then (jobshelllaw29_TestexprFiles.j0 k l0 true) else (if bt373.1 = true then (jobshelllaw29_TestexprFiles.j0 k l0 (!bt363.1)) else (jobshelllaw29_TestexprFiles.j0 k l0 false)))) else (if (t358 != bt368.1) = true then (jobshelllaw29_TestexprFiles.j0 k l0 true) else (if bt373.1 = true then (jobshelllaw29_TestexprFiles.j0 k l0 (!bt363.1)) else (jobshelllaw29_TestexprFiles.j0 k l0 false)))) else (jobshelllaw29_TestexprFiles.j0 k l0 true)) else (jobshelllaw29_TestexprFiles.j0 k l0 true)) else (jobshelllaw29_TestexprFiles.j0 k l0 true)) else (jobshelllaw29_TestexprFiles.j0 k l0 true))))) = some r := H
  have A6 := Aside0.mk A60
  clear A60
  obtain ⟨y360, hy360⟩ : ∃ y_ : List ByteArray, y_ = (([(⟨#[45, 102]⟩ : ByteArray), a2] : List ByteArray)) := ⟨_, rfl⟩
  replace H : ((testexpr_Eval.f y360 l0 a1).bind fun bt363 => ((testexpr_Eval.f (([(⟨#[45, 100]⟩ : ByteArray), a2] : List ByteArray)) l0 a1).bind fun bt368 => ((testexpr_Eval.f (([(⟨#[45, 115]⟩ : ByteArray), a2] : List ByteArray)) l0 a1).bind fun bt373 => (if t359 = 0 then (if bt363.2 = 0 then (if bt368.2 = 0 then (if bt373.2 = 0 then (if bt363.1 = true then (if (t358 != true) = true then (jobshelllaw29_TestexprFiles.j0 k l0 true) else (if bt368.1 = true then (jobshelllaw29_TestexprFiles.j0 k l0 true) else (if bt373.1 = true then (jobshelllaw29_TestexprFiles.j0 k l0 (!bt363.1)) else (jobshelllaw29_TestexprFiles.j0 k l0 false)))) else (if (t358 != bt368.1) = true then (jobshelllaw29_TestexprFiles.j0 k l0 true) else (if bt373.1 = true then (jobshelllaw29_TestexprFiles.j0 k l0 (!bt363.1)) else (jobshelllaw29_TestexprFiles.j0 k l0 false)))) else (jobshelllaw29_TestexprFiles.j0 k l0 true)) else (jobshelllaw29_TestexprFiles.j0 k l0 true)) else (jobshelllaw29_TestexprFiles.j0 k l0 true)) else (jobshelllaw29_TestexprFiles.j0 k l0 true))))) = some r := by first | (rw [hy360]; with_reducible exact H) | (have H2_ := (Option.bind_some _ _).symm.trans H; rw [hy360]; with_reducible exact H2_) | (have H2_ := (Option.bind_some _ _).symm.trans H; with_reducible exact H2_) | with_reducible exact H | (rw [hy360]; exact H) | exact H
  have Ny360 := Aside0.mk hy360
  clear hy360
  replace H := Option.bind_eq_some_iff.mp H
  obtain ⟨⟨t363, t364⟩, A70, H⟩ := H
  replace H : ((testexpr_Eval.f (([(⟨#[45, 100]⟩ : ByteArray), a2] : List ByteArray)) l0 a1).bind fun bt368 => ((testexpr_Eval.f (([(⟨#[45, 115]⟩ : ByteArray), a2] : List ByteArray)) l0 a1).bind fun bt373 => (if t359 = 0 then (if t364 = 0 then (if bt368.2 = 0 then (if bt373.2 = 0 then (if t363 = true then (if (t358 != true) = true then (jobshelllaw29_TestexprFiles.j0 k l0 true) else (if bt368.1 = true then (jobshelllaw29_TestexprFiles.j0 k l0 true) else (if bt373.1 = true then (jobshelllaw29_TestexprFiles.j0 k l0 (!t363)) else (jobshelllaw29_TestexprFiles.j0 k l0 false)))) else (if (t358 != bt368.1) = true then (jobshelllaw29_TestexprFiles.j0 k l0 true) else (if bt373.1 = true then (jobshelllaw29_TestexprFiles.j0 k l0 (!t363)) else (jobshelllaw29_TestexprFiles.j0 k l0 false)))) else (jobshelllaw29_TestexprFiles.j0 k l0 true)) else (jobshelllaw29_TestexprFiles.j0 k l0 true)) else (jobshelllaw29_TestexprFiles.j0 k l0 true)) else (jobshelllaw29_TestexprFiles.j0 k l0 true)))) = some r := H
  have A7 := Aside0.mk A70
  clear A70
  obtain ⟨y365, hy365⟩ : ∃ y_ : List ByteArray, y_ = (([(⟨#[45, 100]⟩ : ByteArray), a2] : List ByteArray)) := ⟨_, rfl⟩
  replace H : ((testexpr_Eval.f y365 l0 a1).bind fun bt368 => ((testexpr_Eval.f (([(⟨#[45, 115]⟩ : ByteArray), a2] : List ByteArray)) l0 a1).bind fun bt373 => (if t359 = 0 then (if t364 = 0 then (if bt368.2 = 0 then (if bt373.2 = 0 then (if t363 = true then (if (t358 != true) = true then (jobshelllaw29_TestexprFiles.j0 k l0 true) else (if bt368.1 = true then (jobshelllaw29_TestexprFiles.j0 k l0 true) else (if bt373.1 = true then (jobshelllaw29_TestexprFiles.j0 k l0 (!t363)) else (jobshelllaw29_TestexprFiles.j0 k l0 false)))) else (if (t358 != bt368.1) = true then (jobshelllaw29_TestexprFiles.j0 k l0 true) else (if bt373.1 = true then (jobshelllaw29_TestexprFiles.j0 k l0 (!t363)) else (jobshelllaw29_TestexprFiles.j0 k l0 false)))) else (jobshelllaw29_TestexprFiles.j0 k l0 true)) else (jobshelllaw29_TestexprFiles.j0 k l0 true)) else (jobshelllaw29_TestexprFiles.j0 k l0 true)) else (jobshelllaw29_TestexprFiles.j0 k l0 true)))) = some r := by first | (rw [hy365]; with_reducible exact H) | (have H2_ := (Option.bind_some _ _).symm.trans H; rw [hy365]; with_reducible exact H2_) | (have H2_ := (Option.bind_some _ _).symm.trans H; with_reducible exact H2_) | with_reducible exact H | (rw [hy365]; exact H) | exact H
  have Ny365 := Aside0.mk hy365
  clear hy365
  replace H := Option.bind_eq_some_iff.mp H
  obtain ⟨⟨t368, t369⟩, A80, H⟩ := H
  replace H : ((testexpr_Eval.f (([(⟨#[45, 115]⟩ : ByteArray), a2] : List ByteArray)) l0 a1).bind fun bt373 => (if t359 = 0 then (if t364 = 0 then (if t369 = 0 then (if bt373.2 = 0 then (if t363 = true then (if (t358 != true) = true then (jobshelllaw29_TestexprFiles.j0 k l0 true) else (if t368 = true then (jobshelllaw29_TestexprFiles.j0 k l0 true) else (if bt373.1 = true then (jobshelllaw29_TestexprFiles.j0 k l0 (!t363)) else (jobshelllaw29_TestexprFiles.j0 k l0 false)))) else (if (t358 != t368) = true then (jobshelllaw29_TestexprFiles.j0 k l0 true) else (if bt373.1 = true then (jobshelllaw29_TestexprFiles.j0 k l0 (!t363)) else (jobshelllaw29_TestexprFiles.j0 k l0 false)))) else (jobshelllaw29_TestexprFiles.j0 k l0 true)) else (jobshelllaw29_TestexprFiles.j0 k l0 true)) else (jobshelllaw29_TestexprFiles.j0 k l0 true)) else (jobshelllaw29_TestexprFiles.j0 k l0 true))) = some r := H
  have A8 := Aside0.mk A80
  clear A80
  obtain ⟨y370, hy370⟩ : ∃ y_ : List ByteArray, y_ = (([(⟨#[45, 115]⟩ : ByteArray), a2] : List ByteArray)) := ⟨_, rfl⟩
  replace H : ((testexpr_Eval.f y370 l0 a1).bind fun bt373 => (if t359 = 0 then (if t364 = 0 then (if t369 = 0 then (if bt373.2 = 0 then (if t363 = true then (if (t358 != true) = true then (jobshelllaw29_TestexprFiles.j0 k l0 true) else (if t368 = true then (jobshelllaw29_TestexprFiles.j0 k l0 true) else (if bt373.1 = true then (jobshelllaw29_TestexprFiles.j0 k l0 (!t363)) else (jobshelllaw29_TestexprFiles.j0 k l0 false)))) else (if (t358 != t368) = true then (jobshelllaw29_TestexprFiles.j0 k l0 true) else (if bt373.1 = true then (jobshelllaw29_TestexprFiles.j0 k l0 (!t363)) else (jobshelllaw29_TestexprFiles.j0 k l0 false)))) else (jobshelllaw29_TestexprFiles.j0 k l0 true)) else (jobshelllaw29_TestexprFiles.j0 k l0 true)) else (jobshelllaw29_TestexprFiles.j0 k l0 true)) else (jobshelllaw29_TestexprFiles.j0 k l0 true))) = some r := by first | (rw [hy370]; with_reducible exact H) | (have H2_ := (Option.bind_some _ _).symm.trans H; rw [hy370]; with_reducible exact H2_) | (have H2_ := (Option.bind_some _ _).symm.trans H; with_reducible exact H2_) | with_reducible exact H | (rw [hy370]; exact H) | exact H
  have Ny370 := Aside0.mk hy370
  clear hy370
  replace H := Option.bind_eq_some_iff.mp H
  obtain ⟨⟨t373, t374⟩, A90, H⟩ := H
  replace H : (if t359 = 0 then (if t364 = 0 then (if t369 = 0 then (if t374 = 0 then (if t363 = true then (if (t358 != true) = true then (jobshelllaw29_TestexprFiles.j0 k l0 true) else (if t368 = true then (jobshelllaw29_TestexprFiles.j0 k l0 true) else (if t373 = true then (jobshelllaw29_TestexprFiles.j0 k l0 (!t363)) else (jobshelllaw29_TestexprFiles.j0 k l0 false)))) else (if (t358 != t368) = true then (jobshelllaw29_TestexprFiles.j0 k l0 true) else (if t373 = true then (jobshelllaw29_TestexprFiles.j0 k l0 (!t363)) else (jobshelllaw29_TestexprFiles.j0 k l0 false)))) else (jobshelllaw29_TestexprFiles.j0 k l0 true)) else (jobshelllaw29_TestexprFiles.j0 k l0 true)) else (jobshelllaw29_TestexprFiles.j0 k l0 true)) else (jobshelllaw29_TestexprFiles.j0 k l0 true)) = some r := H
  have A9 := Aside0.mk A90
  clear A90
  have HC10 := Aside0.mk H
  clear H
  go_enter Tryd.func7, Tryd.ntmps7
  go_upto_region 7 with (first | ((with_reducible refine gate_dst (N := 21) rfl ?_); refine Kd.R_lit Kd.string _ 9 ?hg (N := 21) ?hd (xs := ([a2] : List ByteArray)) (inner := [.string a2]) (ok := fun _ => True) (okp := fun _ => True) ?hr ?hp (fun _ hk => hk) trivial (Below.refl _ _) (Nat.le_refl _) (by simp) ?_; (case hd => rfl); (case hg => rfl); (case hr => first | (go_simp; done) | (go_simp; rfl)); (case hp => exact (Reps.one (show Kd.M Kd.string _ _ _ a2 [.string a2] from rfl) (Reps.none _ _))); intro v351 w11 ho12 hb hg_ hnew_; clear hg_ hnew_; (first | rw [← Ny350.out] at ho12 | (simp only [Int.reduceToNat] at ho12; rw [← Ny350.out] at ho12)); have n0_ := Aside0.mk (Kd.R_lower ho12 (below_size (by repeat (first | (with_reducible first | exact HB.out | apply below_alloc | apply pw_below_drewN | apply below_drew1) | exact HB.out)))); have n1_ := Aside0.mk (below_step (by repeat (first | (with_reducible first | exact HB.out | apply below_alloc | apply pw_below_drewN | apply below_drew1) | exact HB.out)) hb); clear HB; have HO352 := n0_; have HB := n1_; clear n0_ n1_; clear hb ho12; obtain ⟨Ao13, co13, eo13⟩ := Kd.R_slice HO352.out; subst eo13) | ((with_reducible refine gate_callee (f := 8) rfl ?_); refine goesL_ (some 24) rfl rfl Tryd.func8 (by kernel_rfl) rfl #[.slice Ao13 y350.length co13, .slice A0 l0.length c0, .string a1] rfl (by (try simp only [List.map_toArray, List.map_cons, List.map_nil]); first | done | rfl | (simp only [List.length_drop, List.length_take]; rfl)) ?_; (with_reducible refine (jobshelllaw29_small.calls k _ _ y350 _ _ l0 a1 true _ ?side1 ?side2 ?side3 ?side4 A4.out).mono ?_); (case side1 => repeat (first | exact (Kd.R_reads' HO352.out).2.2 | (with_reducible refine Kd.C_alloc ?_ _) | (with_reducible refine Kd.C_drewN ?_ _) | (with_reducible refine Kd.C_drew ?_))); (case side2 => exact (Kd.R_reads' HO352.out).2.1); (case side3 => repeat (first | exact (Kd.C_below HR0.out HB.out) | (with_reducible refine Kd.C_alloc ?_ _) | (with_reducible refine Kd.C_drewN ?_ _) | (with_reducible refine Kd.C_drew ?_))); (case side4 => exact HC0.out); rintro e w14 ⟨rfl, hb⟩; refine ⟨_, rfl, ?_⟩; have n0_ := Aside0.mk (Kd.R_below (by (with_reducible repeat (first | apply Kd.R_alloc | apply Kd.R_drewN | apply Kd.R_drew)); exact HO352.out) hb); have n1_ := Aside0.mk (below_step (by repeat (first | (with_reducible first | exact HB.out | apply below_alloc | apply pw_below_drewN | apply below_drew1) | exact HB.out)) hb); clear HO352; clear HB; have HO352 := n0_; have HB := n1_; clear n0_ n1_; (try clear hb); (try clear hb2); (try clear hk); (try clear hi)) | ((with_reducible refine gate_dst (N := 29) rfl ?_); refine Kd.R_lit Kd.string _ 9 ?hg (N := 29) ?hd (xs := ([(⟨#[45, 101]⟩ : ByteArray), a2] : List ByteArray)) (inner := [.string (⟨#[45, 101]⟩ : ByteArray), .string a2]) (ok := fun _ => True) (okp := fun _ => True) ?hr ?hp (fun _ hk => hk) trivial (Below.refl _ _) (Nat.le_refl _) (by simp) ?_; (case hd => rfl); (case hg => rfl); (case hr => first | (go_simp; done) | (go_simp; rfl)); (case hp => exact (Reps.one (show Kd.M Kd.string _ _ _ (⟨#[45, 101]⟩ : ByteArray) [.string (⟨#[45, 101]⟩ : ByteArray)] from rfl) (Reps.one (show Kd.M Kd.string _ _ _ a2 [.string a2] from rfl) (Reps.none _ _)))); intro v356 w15 ho16 hb hg_ hnew_; clear hg_ hnew_; (first | rw [← Ny355.out] at ho16 | (simp only [Int.reduceToNat] at ho16; rw [← Ny355.out] at ho16)); have n0_ := Aside0.mk (Kd.R_elder' (by (with_reducible repeat (first | apply Kd.R_alloc | apply Kd.R_drewN | apply Kd.R_drew)); exact HO352.out) (Kd.R_base ho16) hb); have n1_ := Aside0.mk (Kd.R_lower (Kd.R_new' ho16 (Kd.R_lt (by (with_reducible repeat (first | apply Kd.R_alloc | apply Kd.R_drewN | apply Kd.R_drew)); exact HO352.out))) (below_size (by repeat (first | (with_reducible first | exact HB.out | apply below_alloc | apply pw_below_drewN | apply below_drew1) | exact HB.out)))); have n2_ := Aside0.mk (below_step (by repeat (first | (with_reducible first | exact HB.out | apply below_alloc | apply pw_below_drewN | apply below_drew1) | exact HB.out)) hb); clear HO352; clear HB; have HO352 := n0_; have HO357 := n1_; have HB := n2_; clear n0_ n1_ n2_; clear hb ho16; obtain ⟨Ao17, co17, eo17⟩ := Kd.R_slice HO357.out; subst eo17) | ((with_reducible refine gate_callee (f := 10) rfl ?_); refine goesL_ (some 32) rfl rfl Tryd.func10 (by kernel_rfl) rfl #[.slice Ao17 y355.length co17, .slice A0 l0.length c0, .string a1] rfl (by (try simp only [List.map_toArray, List.map_cons, List.map_nil]); first | done | rfl | (simp only [List.length_drop, List.length_take]; rfl)) ?_; (with_reducible refine (testexpr_Eval.calls _ _ y355 _ _ l0 a1 t358 t359 _ ?side1 ?side2 ?side3 ?side4 ?side5 A6.out).mono ?_); (case side1 => repeat (first | exact (Kd.R_reads' HO357.out).2.2 | (with_reducible refine Kd.C_alloc ?_ _) | (with_reducible refine Kd.C_drewN ?_ _) | (with_reducible refine Kd.C_drew ?_))); (case side2 => exact (Kd.R_reads' HO357.out).2.1); (case side3 => repeat (first | exact (Kd.C_below HR0.out HB.out) | (with_reducible refine Kd.C_alloc ?_ _) | (with_reducible refine Kd.C_drewN ?_ _) | (with_reducible refine Kd.C_drew ?_))); (case side4 => exact HC0.out); (case side5 => repeat (first | exact (AmbC_below HAMB.out HB.out) | (with_reducible refine AmbC_alloc ?_ _) | (with_reducible refine AmbC_drewN ?_ _) | (with_reducible refine AmbC_drew ?_))); rintro e w18 ⟨rfl, hb⟩; refine ⟨_, rfl, ?_⟩; have n0_ := Aside0.mk (Kd.R_below (by (with_reducible repeat (first | apply Kd.R_alloc | apply Kd.R_drewN | apply Kd.R_drew)); exact HO352.out) hb); have n1_ := Aside0.mk (Kd.R_below (by (with_reducible repeat (first | apply Kd.R_alloc | apply Kd.R_drewN | apply Kd.R_drew)); exact HO357.out) hb); have n2_ := Aside0.mk (below_step (by repeat (first | (with_reducible first | exact HB.out | apply below_alloc | apply pw_below_drewN | apply below_drew1) | exact HB.out)) hb); clear HO352; clear HO357; clear HB; have HO352 := n0_; have HO357 := n1_; have HB := n2_; clear n0_ n1_ n2_; (try clear hb); (try clear hb2); (try clear hk); (try clear hi)) | ((with_reducible refine gate_dst (N := 37) rfl ?_); refine Kd.R_lit Kd.string _ 9 ?hg (N := 37) ?hd (xs := ([(⟨#[45, 102]⟩ : ByteArray), a2] : List ByteArray)) (inner := [.string (⟨#[45, 102]⟩ : ByteArray), .string a2]) (ok := fun _ => True) (okp := fun _ => True) ?hr ?hp (fun _ hk => hk) trivial (Below.refl _ _) (Nat.le_refl _) (by simp) ?_; (case hd => rfl); (case hg => rfl); (case hr => first | (go_simp; done) | (go_simp; rfl)); (case hp => exact (Reps.one (show Kd.M Kd.string _ _ _ (⟨#[45, 102]⟩ : ByteArray) [.string (⟨#[45, 102]⟩ : ByteArray)] from rfl) (Reps.one (show Kd.M Kd.string _ _ _ a2 [.string a2] from rfl) (Reps.none _ _)))); intro v361 w19 ho20 hb hg_ hnew_; clear hg_ hnew_; (first | rw [← Ny360.out] at ho20 | (simp only [Int.reduceToNat] at ho20; rw [← Ny360.out] at ho20)); have n0_ := Aside0.mk (Kd.R_elder' (by (with_reducible repeat (first | apply Kd.R_alloc | apply Kd.R_drewN | apply Kd.R_drew)); exact HO352.out) (Kd.R_base ho20) hb); have n1_ := Aside0.mk (Kd.R_elder' (by (with_reducible repeat (first | apply Kd.R_alloc | apply Kd.R_drewN | apply Kd.R_drew)); exact HO357.out) (Kd.R_base ho20) hb); have n2_ := Aside0.mk (Kd.R_lower (Kd.R_new' (Kd.R_new' ho20 (Kd.R_lt (by (with_reducible repeat (first | apply Kd.R_alloc | apply Kd.R_drewN | apply Kd.R_drew)); exact HO352.out))) (Kd.R_lt (by (with_reducible repeat (first | apply Kd.R_alloc | apply Kd.R_drewN | apply Kd.R_drew)); exact HO357.out))) (below_size (by repeat (first | (with_reducible first | exact HB.out | apply below_alloc | apply pw_below_drewN | apply below_drew1) | exact HB.out)))); have n3_ := Aside0.mk (below_step (by repeat (first | (with_reducible first | exact HB.out | apply below_alloc | apply pw_below_drewN | apply below_drew1) | exact HB.out)) hb); clear HO352; clear HO357; clear HB; have HO352 := n0_; have HO357 := n1_; have HO362 := n2_; have HB := n3_; clear n0_ n1_ n2_ n3_; clear hb ho20; obtain ⟨Ao21, co21, eo21⟩ := Kd.R_slice HO362.out; subst eo21) | ((with_reducible refine gate_callee (f := 10) rfl ?_); refine goesL_ (some 40) rfl rfl Tryd.func10 (by kernel_rfl) rfl #[.slice Ao21 y360.length co21, .slice A0 l0.length c0, .string a1] rfl (by (try simp only [List.map_toArray, List.map_cons, List.map_nil]); first | done | rfl | (simp only [List.length_drop, List.length_take]; rfl)) ?_; (with_reducible refine (testexpr_Eval.calls _ _ y360 _ _ l0 a1 t363 t364 _ ?side1 ?side2 ?side3 ?side4 ?side5 A7.out).mono ?_); (case side1 => repeat (first | exact (Kd.R_reads' HO362.out).2.2 | (with_reducible refine Kd.C_alloc ?_ _) | (with_reducible refine Kd.C_drewN ?_ _) | (with_reducible refine Kd.C_drew ?_))); (case side2 => exact (Kd.R_reads' HO362.out).2.1); (case side3 => repeat (first | exact (Kd.C_below HR0.out HB.out) | (with_reducible refine Kd.C_alloc ?_ _) | (with_reducible refine Kd.C_drewN ?_ _) | (with_reducible refine Kd.C_drew ?_))); (case side4 => exact HC0.out); (case side5 => repeat (first | exact (AmbC_below HAMB.out HB.out) | (with_reducible refine AmbC_alloc ?_ _) | (with_reducible refine AmbC_drewN ?_ _) | (with_reducible refine AmbC_drew ?_))); rintro e w22 ⟨rfl, hb⟩; refine ⟨_, rfl, ?_⟩; have n0_ := Aside0.mk (Kd.R_below (by (with_reducible repeat (first | apply Kd.R_alloc | apply Kd.R_drewN | apply Kd.R_drew)); exact HO352.out) hb); have n1_ := Aside0.mk (Kd.R_below (by (with_reducible repeat (first | apply Kd.R_alloc | apply Kd.R_drewN | apply Kd.R_drew)); exact HO357.out) hb); have n2_ := Aside0.mk (Kd.R_below (by (with_reducible repeat (first | apply Kd.R_alloc | apply Kd.R_drewN | apply Kd.R_drew)); exact HO362.out) hb); have n3_ := Aside0.mk (below_step (by repeat (first | (with_reducible first | exact HB.out | apply below_alloc | apply pw_below_drewN | apply below_drew1) | exact HB.out)) hb); clear HO352; clear HO357; clear HO362; clear HB; have HO352 := n0_; have HO357 := n1_; have HO362 := n2_; have HB := n3_; clear n0_ n1_ n2_ n3_; (try clear hb); (try clear hb2); (try clear hk); (try clear hi)) | ((with_reducible refine gate_dst (N := 45) rfl ?_); refine Kd.R_lit Kd.string _ 9 ?hg (N := 45) ?hd (xs := ([(⟨#[45, 100]⟩ : ByteArray), a2] : List ByteArray)) (inner := [.string (⟨#[45, 100]⟩ : ByteArray), .string a2]) (ok := fun _ => True) (okp := fun _ => True) ?hr ?hp (fun _ hk => hk) trivial (Below.refl _ _) (Nat.le_refl _) (by simp) ?_; (case hd => rfl); (case hg => rfl); (case hr => first | (go_simp; done) | (go_simp; rfl)); (case hp => exact (Reps.one (show Kd.M Kd.string _ _ _ (⟨#[45, 100]⟩ : ByteArray) [.string (⟨#[45, 100]⟩ : ByteArray)] from rfl) (Reps.one (show Kd.M Kd.string _ _ _ a2 [.string a2] from rfl) (Reps.none _ _)))); intro v366 w23 ho24 hb hg_ hnew_; clear hg_ hnew_; (first | rw [← Ny365.out] at ho24 | (simp only [Int.reduceToNat] at ho24; rw [← Ny365.out] at ho24)); have n0_ := Aside0.mk (Kd.R_elder' (by (with_reducible repeat (first | apply Kd.R_alloc | apply Kd.R_drewN | apply Kd.R_drew)); exact HO352.out) (Kd.R_base ho24) hb); have n1_ := Aside0.mk (Kd.R_elder' (by (with_reducible repeat (first | apply Kd.R_alloc | apply Kd.R_drewN | apply Kd.R_drew)); exact HO357.out) (Kd.R_base ho24) hb); have n2_ := Aside0.mk (Kd.R_elder' (by (with_reducible repeat (first | apply Kd.R_alloc | apply Kd.R_drewN | apply Kd.R_drew)); exact HO362.out) (Kd.R_base ho24) hb); have n3_ := Aside0.mk (Kd.R_lower (Kd.R_new' (Kd.R_new' (Kd.R_new' ho24 (Kd.R_lt (by (with_reducible repeat (first | apply Kd.R_alloc | apply Kd.R_drewN | apply Kd.R_drew)); exact HO352.out))) (Kd.R_lt (by (with_reducible repeat (first | apply Kd.R_alloc | apply Kd.R_drewN | apply Kd.R_drew)); exact HO357.out))) (Kd.R_lt (by (with_reducible repeat (first | apply Kd.R_alloc | apply Kd.R_drewN | apply Kd.R_drew)); exact HO362.out))) (below_size (by repeat (first | (with_reducible first | exact HB.out | apply below_alloc | apply pw_below_drewN | apply below_drew1) | exact HB.out)))); have n4_ := Aside0.mk (below_step (by repeat (first | (with_reducible first | exact HB.out | apply below_alloc | apply pw_below_drewN | apply below_drew1) | exact HB.out)) hb); clear HO352; clear HO357; clear HO362; clear HB; have HO352 := n0_; have HO357 := n1_; have HO362 := n2_; have HO367 := n3_; have HB := n4_; clear n0_ n1_ n2_ n3_ n4_; clear hb ho24; obtain ⟨Ao25, co25, eo25⟩ := Kd.R_slice HO367.out; subst eo25) | ((with_reducible refine gate_callee (f := 10) rfl ?_); refine goesL_ (some 48) rfl rfl Tryd.func10 (by kernel_rfl) rfl #[.slice Ao25 y365.length co25, .slice A0 l0.length c0, .string a1] rfl (by (try simp only [List.map_toArray, List.map_cons, List.map_nil]); first | done | rfl | (simp only [List.length_drop, List.length_take]; rfl)) ?_; (with_reducible refine (testexpr_Eval.calls _ _ y365 _ _ l0 a1 t368 t369 _ ?side1 ?side2 ?side3 ?side4 ?side5 A8.out).mono ?_); (case side1 => repeat (first | exact (Kd.R_reads' HO367.out).2.2 | (with_reducible refine Kd.C_alloc ?_ _) | (with_reducible refine Kd.C_drewN ?_ _) | (with_reducible refine Kd.C_drew ?_))); (case side2 => exact (Kd.R_reads' HO367.out).2.1); (case side3 => repeat (first | exact (Kd.C_below HR0.out HB.out) | (with_reducible refine Kd.C_alloc ?_ _) | (with_reducible refine Kd.C_drewN ?_ _) | (with_reducible refine Kd.C_drew ?_))); (case side4 => exact HC0.out); (case side5 => repeat (first | exact (AmbC_below HAMB.out HB.out) | (with_reducible refine AmbC_alloc ?_ _) | (with_reducible refine AmbC_drewN ?_ _) | (with_reducible refine AmbC_drew ?_))); rintro e w26 ⟨rfl, hb⟩; refine ⟨_, rfl, ?_⟩; have n0_ := Aside0.mk (Kd.R_below (by (with_reducible repeat (first | apply Kd.R_alloc | apply Kd.R_drewN | apply Kd.R_drew)); exact HO352.out) hb); have n1_ := Aside0.mk (Kd.R_below (by (with_reducible repeat (first | apply Kd.R_alloc | apply Kd.R_drewN | apply Kd.R_drew)); exact HO357.out) hb); have n2_ := Aside0.mk (Kd.R_below (by (with_reducible repeat (first | apply Kd.R_alloc | apply Kd.R_drewN | apply Kd.R_drew)); exact HO362.out) hb); have n3_ := Aside0.mk (Kd.R_below (by (with_reducible repeat (first | apply Kd.R_alloc | apply Kd.R_drewN | apply Kd.R_drew)); exact HO367.out) hb); have n4_ := Aside0.mk (below_step (by repeat (first | (with_reducible first | exact HB.out | apply below_alloc | apply pw_below_drewN | apply below_drew1) | exact HB.out)) hb); clear HO352; clear HO357; clear HO362; clear HO367; clear HB; have HO352 := n0_; have HO357 := n1_; have HO362 := n2_; have HO367 := n3_; have HB := n4_; clear n0_ n1_ n2_ n3_ n4_; (try clear hb); (try clear hb2); (try clear hk); (try clear hi)) | ((with_reducible refine gate_dst (N := 53) rfl ?_); refine Kd.R_lit Kd.string _ 9 ?hg (N := 53) ?hd (xs := ([(⟨#[45, 115]⟩ : ByteArray), a2] : List ByteArray)) (inner := [.string (⟨#[45, 115]⟩ : ByteArray), .string a2]) (ok := fun _ => True) (okp := fun _ => True) ?hr ?hp (fun _ hk => hk) trivial (Below.refl _ _) (Nat.le_refl _) (by simp) ?_; (case hd => rfl); (case hg => rfl); (case hr => first | (go_simp; done) | (go_simp; rfl)); (case hp => exact (Reps.one (show Kd.M Kd.string _ _ _ (⟨#[45, 115]⟩ : ByteArray) [.string (⟨#[45, 115]⟩ : ByteArray)] from rfl) (Reps.one (show Kd.M Kd.string _ _ _ a2 [.string a2] from rfl) (Reps.none _ _)))); intro v371 w27 ho28 hb hg_ hnew_; clear hg_ hnew_; (first | rw [← Ny370.out] at ho28 | (simp only [Int.reduceToNat] at ho28; rw [← Ny370.out] at ho28)); have n0_ := Aside0.mk (Kd.R_elder' (by (with_reducible repeat (first | apply Kd.R_alloc | apply Kd.R_drewN | apply Kd.R_drew)); exact HO352.out) (Kd.R_base ho28) hb); have n1_ := Aside0.mk (Kd.R_elder' (by (with_reducible repeat (first | apply Kd.R_alloc | apply Kd.R_drewN | apply Kd.R_drew)); exact HO357.out) (Kd.R_base ho28) hb); have n2_ := Aside0.mk (Kd.R_elder' (by (with_reducible repeat (first | apply Kd.R_alloc | apply Kd.R_drewN | apply Kd.R_drew)); exact HO362.out) (Kd.R_base ho28) hb); have n3_ := Aside0.mk (Kd.R_elder' (by (with_reducible repeat (first | apply Kd.R_alloc | apply Kd.R_drewN | apply Kd.R_drew)); exact HO367.out) (Kd.R_base ho28) hb); have n4_ := Aside0.mk (Kd.R_lower (Kd.R_new' (Kd.R_new' (Kd.R_new' (Kd.R_new' ho28 (Kd.R_lt (by (with_reducible repeat (first | apply Kd.R_alloc | apply Kd.R_drewN | apply Kd.R_drew)); exact HO352.out))) (Kd.R_lt (by (with_reducible repeat (first | apply Kd.R_alloc | apply Kd.R_drewN | apply Kd.R_drew)); exact HO357.out))) (Kd.R_lt (by (with_reducible repeat (first | apply Kd.R_alloc | apply Kd.R_drewN | apply Kd.R_drew)); exact HO362.out))) (Kd.R_lt (by (with_reducible repeat (first | apply Kd.R_alloc | apply Kd.R_drewN | apply Kd.R_drew)); exact HO367.out))) (below_size (by repeat (first | (with_reducible first | exact HB.out | apply below_alloc | apply pw_below_drewN | apply below_drew1) | exact HB.out)))); have n5_ := Aside0.mk (below_step (by repeat (first | (with_reducible first | exact HB.out | apply below_alloc | apply pw_below_drewN | apply below_drew1) | exact HB.out)) hb); clear HO352; clear HO357; clear HO362; clear HO367; clear HB; have HO352 := n0_; have HO357 := n1_; have HO362 := n2_; have HO367 := n3_; have HO372 := n4_; have HB := n5_; clear n0_ n1_ n2_ n3_ n4_ n5_; clear hb ho28; obtain ⟨Ao29, co29, eo29⟩ := Kd.R_slice HO372.out; subst eo29) | ((with_reducible refine gate_callee (f := 10) rfl ?_); refine goesL_ (some 56) rfl rfl Tryd.func10 (by kernel_rfl) rfl #[.slice Ao29 y370.length co29, .slice A0 l0.length c0, .string a1] rfl (by (try simp only [List.map_toArray, List.map_cons, List.map_nil]); first | done | rfl | (simp only [List.length_drop, List.length_take]; rfl)) ?_; (with_reducible refine (testexpr_Eval.calls _ _ y370 _ _ l0 a1 t373 t374 _ ?side1 ?side2 ?side3 ?side4 ?side5 A9.out).mono ?_); (case side1 => repeat (first | exact (Kd.R_reads' HO372.out).2.2 | (with_reducible refine Kd.C_alloc ?_ _) | (with_reducible refine Kd.C_drewN ?_ _) | (with_reducible refine Kd.C_drew ?_))); (case side2 => exact (Kd.R_reads' HO372.out).2.1); (case side3 => repeat (first | exact (Kd.C_below HR0.out HB.out) | (with_reducible refine Kd.C_alloc ?_ _) | (with_reducible refine Kd.C_drewN ?_ _) | (with_reducible refine Kd.C_drew ?_))); (case side4 => exact HC0.out); (case side5 => repeat (first | exact (AmbC_below HAMB.out HB.out) | (with_reducible refine AmbC_alloc ?_ _) | (with_reducible refine AmbC_drewN ?_ _) | (with_reducible refine AmbC_drew ?_))); rintro e w30 ⟨rfl, hb⟩; refine ⟨_, rfl, ?_⟩; have n0_ := Aside0.mk (Kd.R_below (by (with_reducible repeat (first | apply Kd.R_alloc | apply Kd.R_drewN | apply Kd.R_drew)); exact HO352.out) hb); have n1_ := Aside0.mk (Kd.R_below (by (with_reducible repeat (first | apply Kd.R_alloc | apply Kd.R_drewN | apply Kd.R_drew)); exact HO357.out) hb); have n2_ := Aside0.mk (Kd.R_below (by (with_reducible repeat (first | apply Kd.R_alloc | apply Kd.R_drewN | apply Kd.R_drew)); exact HO362.out) hb); have n3_ := Aside0.mk (Kd.R_below (by (with_reducible repeat (first | apply Kd.R_alloc | apply Kd.R_drewN | apply Kd.R_drew)); exact HO367.out) hb); have n4_ := Aside0.mk (Kd.R_below (by (with_reducible repeat (first | apply Kd.R_alloc | apply Kd.R_drewN | apply Kd.R_drew)); exact HO372.out) hb); have n5_ := Aside0.mk (below_step (by repeat (first | (with_reducible first | exact HB.out | apply below_alloc | apply pw_below_drewN | apply below_drew1) | exact HB.out)) hb); clear HO352; clear HO357; clear HO362; clear HO367; clear HO372; clear HB; have HO352 := n0_; have HO357 := n1_; have HO362 := n2_; have HO367 := n3_; have HO372 := n4_; have HB := n5_; clear n0_ n1_ n2_ n3_ n4_ n5_; (try clear hb); (try clear hb2); (try clear hk); (try clear hi)))
  (try simp only [Act.put, List.setIfInBounds_toArray, List.set_cons_zero, List.set_cons_succ])
  go_cut [93] (fun v93 wc => ∃ (kq : Nat) (x93_9 : Bool), v93 = .bool x93_9 ∧ Aside0 (jobshelllaw29_TestexprFiles.j0 kq l0 x93_9 = some r) ∧ Aside0 (kq ≤ k) ∧ Aside0 (Below w.heap.size w wc))
  case first =>
   have H := HC10.out
   clear HC10
   by_cases c31 : t359 = 0
   ·rw [if_pos c31] at H
    have c31b0 : (t359 == 0) = true := beq_iff_eq.mpr c31
    have c31b1 : (t359 != 0) = false := bne_eq_false_iff_eq.mpr c31
    clear c31
    (first | rw [c31b0] | (simp only [i64_w, i32_w]; rw [c31b0]) | skip)
    by_cases c32 : t364 = 0
    ·rw [if_pos c32] at H
     have c32b0 : (t364 == 0) = true := beq_iff_eq.mpr c32
     have c32b1 : (t364 != 0) = false := bne_eq_false_iff_eq.mpr c32
     clear c32
     by_cases c33 : t369 = 0
     ·rw [if_pos c33] at H
      have c33b0 : (t369 == 0) = true := beq_iff_eq.mpr c33
      have c33b1 : (t369 != 0) = false := bne_eq_false_iff_eq.mpr c33
      clear c33
      by_cases c34 : t374 = 0
      ·rw [if_pos c34] at H
       have c34b0 : (t374 == 0) = true := beq_iff_eq.mpr c34
       have c34b1 : (t374 != 0) = false := bne_eq_false_iff_eq.mpr c34
       clear c34
       by_cases c35 : t363 = true
       ·subst c35
        have H1 : (if (t358 != true) = true then (jobshelllaw29_TestexprFiles.j0 k l0 true) else (if t368 = true then (jobshelllaw29_TestexprFiles.j0 k l0 true) else (if t373 = true then (jobshelllaw29_TestexprFiles.j0 k l0 (!true)) else (jobshelllaw29_TestexprFiles.j0 k l0 false)))) = some r := by rw [if_pos rfl] at H; exact H
        clear H
        have H := H1
        clear H1
        by_cases c36 : (t358 != true) = true
        ·rw [if_pos c36] at H
         have c36b0 : (t358 != true) = true := c36
         (try (have c36b1 : decide (t358 = true) = false := by simpa using c36))
         (try (have c36b2 : (t358 == true) = false := by simpa using c36))
         (try (have c36b3 : ¬ (t358 = true) := by simpa using c36))
         clear c36
         have H' := Aside0.mk H
         clear H
         go_wp2
         go_meet
         case rel => exact ⟨_, (true), (by first | rfl | (simp; done) | (simp [*]; done) | (simp [isE_ne]; done)), H', ⟨by first | omega | exact Nat.le_refl _⟩, ⟨by repeat (first | (with_reducible first | exact HB.out | apply below_alloc | apply pw_below_drewN | apply below_drew1) | exact HB.out)⟩⟩
        ·rw [if_neg c36] at H
         have c36b0 : (t358 != true) = false := by simpa using c36
         (try (have c36b1 : decide (t358 = true) = true := by simpa using c36))
         (try (have c36b2 : (t358 == true) = true := by simpa using c36))
         clear c36
         by_cases c37 : t368 = true
         ·subst c37
          have H1 : (jobshelllaw29_TestexprFiles.j0 k l0 true) = some r := by rw [if_pos rfl] at H; exact H
          clear H
          have H := H1
          clear H1
          have H' := Aside0.mk H
          clear H
          go_wp2
          go_meet
          case rel => exact ⟨_, (true), (by first | rfl | (simp; done) | (simp [*]; done) | (simp [isE_ne]; done)), H', ⟨by first | omega | exact Nat.le_refl _⟩, ⟨by repeat (first | (with_reducible first | exact HB.out | apply below_alloc | apply pw_below_drewN | apply below_drew1) | exact HB.out)⟩⟩
         ·replace c37 := Bool.eq_false_iff.mpr c37
          subst c37
          have H1 : (if t373 = true then (jobshelllaw29_TestexprFiles.j0 k l0 (!true)) else (jobshelllaw29_TestexprFiles.j0 k l0 false)) = some r := by rw [if_neg (show ¬ (false = true) by decide)] at H; exact H
          clear H
          have H := H1
          clear H1
          by_cases c38 : t373 = true
          ·subst c38
           have H1 : (jobshelllaw29_TestexprFiles.j0 k l0 (!true)) = some r := by rw [if_pos rfl] at H; exact H
           clear H
           have H := H1
           clear H1
           have H' := Aside0.mk H
           clear H
           go_wp2
           go_meet
           case rel => exact ⟨_, (!true), (by first | rfl | (simp; done) | (simp [*]; done) | (simp [isE_ne]; done)), H', ⟨by first | omega | exact Nat.le_refl _⟩, ⟨by repeat (first | (with_reducible first | exact HB.out | apply below_alloc | apply pw_below_drewN | apply below_drew1) | exact HB.out)⟩⟩
          ·replace c38 := Bool.eq_false_iff.mpr c38
           subst c38
           have H1 : (jobshelllaw29_TestexprFiles.j0 k l0 false) = some r := by rw [if_neg (show ¬ (false = true) by decide)] at H; exact H
           clear H
           have H := H1
           clear H1
           have H' := Aside0.mk H
           clear H
           go_wp2
           go_meet
           case rel => exact ⟨_, (false), (by first | rfl | (simp; done) | (simp [*]; done) | (simp [isE_ne]; done)), H', ⟨by first | omega | exact Nat.le_refl _⟩, ⟨by repeat (first | (with_reducible first | exact HB.out | apply below_alloc | apply pw_below_drewN | apply below_drew1) | exact HB.out)⟩⟩
       ·replace c35 := Bool.eq_false_iff.mpr c35
        subst c35
        have H1 : (if (t358 != t368) = true then (jobshelllaw29_TestexprFiles.j0 k l0 true) else (if t373 = true then (jobshelllaw29_TestexprFiles.j0 k l0 (!false)) else (jobshelllaw29_TestexprFiles.j0 k l0 false))) = some r := by rw [if_neg (show ¬ (false = true) by decide)] at H; exact H
        clear H
        have H := H1
        clear H1
        by_cases c39 : (t358 != t368) = true
        ·rw [if_pos c39] at H
         have c39b0 : (t358 != t368) = true := c39
         (try (have c39b1 : decide (t358 = t368) = false := by simpa using c39))
         (try (have c39b2 : (t358 == t368) = false := by simpa using c39))
         (try (have c39b3 : ¬ (t358 = t368) := by simpa using c39))
         clear c39
         have H' := Aside0.mk H
         clear H
         go_wp2
         go_meet
         case rel => exact ⟨_, (true), (by first | rfl | (simp; done) | (simp [*]; done) | (simp [isE_ne]; done)), H', ⟨by first | omega | exact Nat.le_refl _⟩, ⟨by repeat (first | (with_reducible first | exact HB.out | apply below_alloc | apply pw_below_drewN | apply below_drew1) | exact HB.out)⟩⟩
        ·rw [if_neg c39] at H
         have c39b0 : (t358 != t368) = false := by simpa using c39
         (try (have c39b1 : decide (t358 = t368) = true := by simpa using c39))
         (try (have c39b2 : (t358 == t368) = true := by simpa using c39))
         clear c39
         by_cases c40 : t373 = true
         ·subst c40
          have H1 : (jobshelllaw29_TestexprFiles.j0 k l0 (!false)) = some r := by rw [if_pos rfl] at H; exact H
          clear H
          have H := H1
          clear H1
          have H' := Aside0.mk H
          clear H
          go_wp2
          go_meet
          case rel => exact ⟨_, (!false), (by first | rfl | (simp; done) | (simp [*]; done) | (simp [isE_ne]; done)), H', ⟨by first | omega | exact Nat.le_refl _⟩, ⟨by repeat (first | (with_reducible first | exact HB.out | apply below_alloc | apply pw_below_drewN | apply below_drew1) | exact HB.out)⟩⟩
         ·replace c40 := Bool.eq_false_iff.mpr c40
          subst c40
          have H1 : (jobshelllaw29_TestexprFiles.j0 k l0 false) = some r := by rw [if_neg (show ¬ (false = true) by decide)] at H; exact H
          clear H
          have H := H1
          clear H1
          have H' := Aside0.mk H
          clear H
          go_wp2
          go_meet
          case rel => exact ⟨_, (false), (by first | rfl | (simp; done) | (simp [*]; done) | (simp [isE_ne]; done)), H', ⟨by first | omega | exact Nat.le_refl _⟩, ⟨by repeat (first | (with_reducible first | exact HB.out | apply below_alloc | apply pw_below_drewN | apply below_drew1) | exact HB.out)⟩⟩
      ·rw [if_neg c34] at H
       have c34b0 : (t374 == 0) = false := beq_eq_false_iff_ne.mpr c34
       have c34b1 : (t374 != 0) = true := bne_iff_ne.mpr c34
       have H' := Aside0.mk H
       clear H
       go_wp2
       go_meet
       case rel => exact ⟨_, (true), (by first | rfl | (simp; done) | (simp [*]; done) | (simp [isE_ne]; done)), H', ⟨by first | omega | exact Nat.le_refl _⟩, ⟨by repeat (first | (with_reducible first | exact HB.out | apply below_alloc | apply pw_below_drewN | apply below_drew1) | exact HB.out)⟩⟩
     ·rw [if_neg c33] at H
      have c33b0 : (t369 == 0) = false := beq_eq_false_iff_ne.mpr c33
      have c33b1 : (t369 != 0) = true := bne_iff_ne.mpr c33
      have H' := Aside0.mk H
      clear H
      go_wp2
      go_meet
      case rel => exact ⟨_, (true), (by first | rfl | (simp; done) | (simp [*]; done) | (simp [isE_ne]; done)), H', ⟨by first | omega | exact Nat.le_refl _⟩, ⟨by repeat (first | (with_reducible first | exact HB.out | apply below_alloc | apply pw_below_drewN | apply below_drew1) | exact HB.out)⟩⟩
    ·rw [if_neg c32] at H
     have c32b0 : (t364 == 0) = false := beq_eq_false_iff_ne.mpr c32
     have c32b1 : (t364 != 0) = true := bne_iff_ne.mpr c32
     have H' := Aside0.mk H
     clear H
     go_wp2
     go_meet
     case rel => exact ⟨_, (true), (by first | rfl | (simp; done) | (simp [*]; done) | (simp [isE_ne]; done)), H', ⟨by first | omega | exact Nat.le_refl _⟩, ⟨by repeat (first | (with_reducible first | exact HB.out | apply below_alloc | apply pw_below_drewN | apply below_drew1) | exact HB.out)⟩⟩
   ·rw [if_neg c31] at H
    have c31b0 : (t359 == 0) = false := beq_eq_false_iff_ne.mpr c31
    have c31b1 : (t359 != 0) = true := bne_iff_ne.mpr c31
    (first | rw [c31b0] | (simp only [i64_w, i32_w]; rw [c31b0]) | skip)
    have H' := Aside0.mk H
    clear H
    go_wp2
    go_meet
    case rel => exact ⟨_, (true), (by first | rfl | (simp; done) | (simp [*]; done) | (simp [isE_ne]; done)), H', ⟨by first | omega | exact Nat.le_refl _⟩, ⟨by repeat (first | (with_reducible first | exact HB.out | apply below_alloc | apply pw_below_drewN | apply below_drew1) | exact HB.out)⟩⟩
  case rest =>
   clear HC10
   try clear c1
   try clear p2
   try clear c3
   try clear c4
   try clear c5
   try clear c7
   try clear c8
   try clear c10
   try clear c31
   try clear c31b0
   try clear c31b1
   try clear c32
   try clear c32b0
   try clear c32b1
   try clear c33
   try clear c33b0
   try clear c33b1
   try clear c34
   try clear c34b0
   try clear c34b1
   try clear c35
   try clear c36
   try clear c36b0
   try clear c36b1
   try clear c36b2
   try clear c37
   try clear c38
   try clear c39
   try clear c39b0
   try clear c39b1
   try clear c39b2
   try clear c40
   obtain ⟨kq, x93_9, rfl, HA, HJ9, HB⟩ := hcut
   cases kq with
   | zero => exact absurd HA.out (by simp [jobshelllaw29_TestexprFiles.j0])
   | succ kj9 =>
    have H := HA.out
    clear HA
    simp only [jobshelllaw29_TestexprFiles.j0] at H
    by_cases c41 : x93_9 = true
    ·subst c41
     have H1 : (some false) = some r := by rw [if_pos rfl] at H; exact H
     clear H
     have H := H1
     clear H1
     obtain rfl := Option.some.inj H
     go_wp2
     go_ret
     exact ⟨by first | rfl | (simp [errW_none, errW_some] <;> rfl) | (simp [*, errW_none, errW_some] <;> rfl), by repeat (first | (with_reducible first | exact HB.out | apply below_alloc | apply pw_below_drewN | apply below_drew1) | exact HB.out)⟩
    ·replace c41 := Bool.eq_false_iff.mpr c41
     subst c41
     have H1 : (jobshelllaw29_TestexprFiles.l0 kj9 l0 0) = some r := by rw [if_neg (show ¬ (false = true) by decide)] at H; exact H
     clear H
     have H := H1
     clear H1
     have H' := Aside0.mk H
     clear H
     go_wp2
     go_loopg [15] kj9 (fun kq v15 w' => ∃ (x15_2 : Int), v15 = .int .i64 x15_2 ∧ Aside0 (jobshelllaw29_TestexprFiles.l0 kq l0 x15_2 = some r) ∧ Aside0 (kq ≤ kj9) ∧ Aside0 (Below w.heap.size w w'))
     case atStart => exact ⟨(0), (by first | rfl | (simp; done) | (simp [*]; done) | (simp [isE_ne]; done)), H', ⟨Nat.le_refl _⟩, ⟨by repeat (first | (with_reducible first | exact HB.out | apply below_alloc | apply pw_below_drewN | apply below_drew1) | exact HB.out)⟩⟩
     case round =>
      clear H'
      try clear c1
      try clear p2
      try clear c3
      try clear c4
      try clear c5
      try clear c7
      try clear c8
      try clear c10
      try clear c31
      try clear c31b0
      try clear c31b1
      try clear c32
      try clear c32b0
      try clear c32b1
      try clear c33
      try clear c33b0
      try clear c33b1
      try clear c34
      try clear c34b0
      try clear c34b1
      try clear c35
      try clear c36
      try clear c36b0
      try clear c36b1
      try clear c36b2
      try clear c37
      try clear c38
      try clear c39
      try clear c39b0
      try clear c39b1
      try clear c39b2
      try clear c40
      try clear c41
      try clear p2
      obtain ⟨x15_2, rfl, HA, HK2, HB⟩ := hrel
      cases gk with
      | zero => exact absurd HA.out (by simp [jobshelllaw29_TestexprFiles.l0])
      | succ k2 =>
       have H := HA.out
       clear HA
       simp only [jobshelllaw29_TestexprFiles.l0] at H
       by_cases c42 : x15_2 < (l0.length : Int)
       ·rw [if_pos c42] at H
        have c42b0 : decide (x15_2 < (l0.length : Int)) = true := decide_eq_true c42
        clear c42
        by_cases c43 : 0 ≤ x15_2
        ·rw [if_pos c43] at H
         have c43b0 : decide (0 ≤ x15_2) = true := decide_eq_true c43
         clear c43
         obtain ⟨y377, hy377⟩ : ∃ y_ : List ByteArray, y_ = (([(⟨#[45, 100]⟩ : ByteArray), (rd_File l0 x15_2).f0] : List ByteArray)) := ⟨_, rfl⟩
         replace H : ((testexpr_Eval.f y377 l0 (⟨#[47]⟩ : ByteArray)).bind fun bt380 => ((testexpr_Eval.f (([(⟨#[45, 115]⟩ : ByteArray), (rd_File l0 x15_2).f0] : List ByteArray)) l0 (⟨#[47]⟩ : ByteArray)).bind fun bt386 => (if bt380.2 = 0 then (if bt386.2 = 0 then (if (bt380.1 != ((rd_File l0 x15_2).f1)) = true then (some false) else (if (bt386.1 != (((rd_File l0 x15_2).f2).toList != ([] : List UInt8))) = true then (some false) else (jobshelllaw29_TestexprFiles.l0 k2 l0 (wrap64 (x15_2 + 1))))) else (some false)) else (some false)))) = some r := by first | (rw [hy377]; with_reducible exact H) | (have H2_ := (Option.bind_some _ _).symm.trans H; rw [hy377]; with_reducible exact H2_) | (have H2_ := (Option.bind_some _ _).symm.trans H; with_reducible exact H2_) | with_reducible exact H | (rw [hy377]; exact H) | exact H
         have Ny377 := Aside0.mk hy377
         clear hy377
         replace H := Option.bind_eq_some_iff.mp H
         obtain ⟨⟨t380, t381⟩, A440, H⟩ := H
         replace H : ((testexpr_Eval.f (([(⟨#[45, 115]⟩ : ByteArray), (rd_File l0 x15_2).f0] : List ByteArray)) l0 (⟨#[47]⟩ : ByteArray)).bind fun bt386 => (if t381 = 0 then (if bt386.2 = 0 then (if (t380 != ((rd_File l0 x15_2).f1)) = true then (some false) else (if (bt386.1 != (((rd_File l0 x15_2).f2).toList != ([] : List UInt8))) = true then (some false) else (jobshelllaw29_TestexprFiles.l0 k2 l0 (wrap64 (x15_2 + 1))))) else (some false)) else (some false))) = some r := H
         have A44 := Aside0.mk A440
         clear A440
         obtain ⟨y383, hy383⟩ : ∃ y_ : List ByteArray, y_ = (([(⟨#[45, 115]⟩ : ByteArray), (rd_File l0 x15_2).f0] : List ByteArray)) := ⟨_, rfl⟩
         replace H : ((testexpr_Eval.f y383 l0 (⟨#[47]⟩ : ByteArray)).bind fun bt386 => (if t381 = 0 then (if bt386.2 = 0 then (if (t380 != ((rd_File l0 x15_2).f1)) = true then (some false) else (if (bt386.1 != (((rd_File l0 x15_2).f2).toList != ([] : List UInt8))) = true then (some false) else (jobshelllaw29_TestexprFiles.l0 k2 l0 (wrap64 (x15_2 + 1))))) else (some false)) else (some false))) = some r := by first | (rw [hy383]; with_reducible exact H) | (have H2_ := (Option.bind_some _ _).symm.trans H; rw [hy383]; with_reducible exact H2_) | (have H2_ := (Option.bind_some _ _).symm.trans H; with_reducible exact H2_) | with_reducible exact H | (rw [hy383]; exact H) | exact H
         have Ny383 := Aside0.mk hy383
         clear hy383
         replace H := Option.bind_eq_some_iff.mp H
         obtain ⟨⟨t386, t387⟩, A450, H⟩ := H
         replace H : (if t381 = 0 then (if t387 = 0 then (if (t380 != ((rd_File l0 x15_2).f1)) = true then (some false) else (if (t386 != (((rd_File l0 x15_2).f2).toList != ([] : List UInt8))) = true then (some false) else (jobshelllaw29_TestexprFiles.l0 k2 l0 (wrap64 (x15_2 + 1))))) else (some false)) else (some false)) = some r := H
         have A45 := Aside0.mk A450
         clear A450
         by_cases c46 : t381 = 0
         ·rw [if_pos c46] at H
          have c46b0 : (t381 == 0) = true := beq_iff_eq.mpr c46
          have c46b1 : (t381 != 0) = false := bne_eq_false_iff_eq.mpr c46
          clear c46
          by_cases c47 : t387 = 0
          ·rw [if_pos c47] at H
           have c47b0 : (t387 == 0) = true := beq_iff_eq.mpr c47
           have c47b1 : (t387 != 0) = false := bne_eq_false_iff_eq.mpr c47
           clear c47
           by_cases c48 : (t380 != ((rd_File l0 x15_2).f1)) = true
           ·rw [if_pos c48] at H
            have c48b0 : (t380 != ((rd_File l0 x15_2).f1)) = true := c48
            (try (have c48b1 : decide (t380 = ((rd_File l0 x15_2).f1)) = false := by simpa using c48))
            (try (have c48b2 : (t380 == ((rd_File l0 x15_2).f1)) = false := by simpa using c48))
            (try (have c48b3 : ¬ (t380 = ((rd_File l0 x15_2).f1)) := by simpa using c48))
            clear c48
            obtain rfl := Option.some.inj H
            have p376 : 0 ≤ (x15_2 : Int) := of_decide_eq_true (by first | (with_reducible assumption) | assumption)
            have q376 : x15_2 < (l0.length : Int) := of_decide_eq_true (by first | (with_reducible assumption) | assumption)
            obtain ⟨ad376, e376, hx376_0, hx376_1, hx376_2⟩ := at_File HR0.out x15_2 p376 q376
            cases e376
            replace hx376_0 := (HB.out.cell (World.block_lt_of_cell? w _ hx376_0)).trans hx376_0
            replace hx376_1 := (HB.out.cell (World.block_lt_of_cell? w _ hx376_1)).trans hx376_1
            replace hx376_2 := (HB.out.cell (World.block_lt_of_cell? w _ hx376_2)).trans hx376_2
            replace p376 := eq_true p376
            replace q376 := eq_true q376
            go_wp2_with (first | ((with_reducible refine gate_dst (N := 106) rfl ?_); refine Kd.R_lit Kd.string _ 9 ?hg (N := 106) ?hd (xs := ([(⟨#[45, 100]⟩ : ByteArray), (rd_File l0 x15_2).f0] : List ByteArray)) (inner := [.string (⟨#[45, 100]⟩ : ByteArray), .string ((rd_File l0 x15_2).f0)]) (ok := fun _ => True) (okp := fun _ => True) ?hr ?hp (fun _ hk => hk) trivial (Below.refl _ _) (Nat.le_refl _) (by simp) ?_; (case hd => rfl); (case hg => rfl); (case hr => first | (go_simp; done) | (go_simp; rfl)); (case hp => exact (Reps.one (show Kd.M Kd.string _ _ _ (⟨#[45, 100]⟩ : ByteArray) [.string (⟨#[45, 100]⟩ : ByteArray)] from rfl) (Reps.one (show Kd.M Kd.string _ _ _ ((rd_File l0 x15_2).f0) [.string ((rd_File l0 x15_2).f0)] from rfl) (Reps.none _ _)))); intro v378 w49 ho50 hb hg_ hnew_; clear hg_ hnew_; (first | rw [← Ny377.out] at ho50 | (simp only [Int.reduceToNat] at ho50; rw [← Ny377.out] at ho50)); have n0_ := Aside0.mk (Kd.R_lower ho50 (below_size (by repeat (first | (with_reducible first | exact HB.out | apply below_alloc | apply pw_below_drewN | apply below_drew1) | exact HB.out)))); have n1_ := Aside0.mk (below_step (by repeat (first | (with_reducible first | exact HB.out | apply below_alloc | apply pw_below_drewN | apply below_drew1) | exact HB.out)) hb); clear HB; have HO379 := n0_; have HB := n1_; clear n0_ n1_; clear hb ho50; obtain ⟨Ao51, co51, eo51⟩ := Kd.R_slice HO379.out; subst eo51) | ((with_reducible refine gate_callee (f := 10) rfl ?_); refine goesL_ (some 108) rfl rfl Tryd.func10 (by kernel_rfl) rfl #[.slice Ao51 y377.length co51, .slice (some ad376) l0.length c0, .string (⟨#[47]⟩ : ByteArray)] rfl (by (try simp only [List.map_toArray, List.map_cons, List.map_nil]); first | done | rfl | (simp only [List.length_drop, List.length_take]; rfl)) ?_; (with_reducible refine (testexpr_Eval.calls _ _ y377 _ _ l0 (⟨#[47]⟩ : ByteArray) t380 t381 _ ?side1 ?side2 ?side3 ?side4 ?side5 A44.out).mono ?_); (case side1 => repeat (first | exact (Kd.R_reads' HO379.out).2.2 | (with_reducible refine Kd.C_alloc ?_ _) | (with_reducible refine Kd.C_drewN ?_ _) | (with_reducible refine Kd.C_drew ?_))); (case side2 => exact (Kd.R_reads' HO379.out).2.1); (case side3 => repeat (first | exact (Kd.C_below HR0.out HB.out) | (with_reducible refine Kd.C_alloc ?_ _) | (with_reducible refine Kd.C_drewN ?_ _) | (with_reducible refine Kd.C_drew ?_))); (case side4 => exact HC0.out); (case side5 => repeat (first | exact (AmbC_below HAMB.out HB.out) | (with_reducible refine AmbC_alloc ?_ _) | (with_reducible refine AmbC_drewN ?_ _) | (with_reducible refine AmbC_drew ?_))); rintro e w52 ⟨rfl, hb⟩; refine ⟨_, rfl, ?_⟩; have n0_ := Aside0.mk (Kd.R_below (by (with_reducible repeat (first | apply Kd.R_alloc | apply Kd.R_drewN | apply Kd.R_drew)); exact HO379.out) hb); have n1_ := Aside0.mk (below_step (by repeat (first | (with_reducible first | exact HB.out | apply below_alloc | apply pw_below_drewN | apply below_drew1) | exact HB.out)) hb); clear HO379; clear HB; have HO379 := n0_; have HB := n1_; clear n0_ n1_; (try clear hb); (try clear hb2); (try clear hk); (try clear hi); have p382 : 0 ≤ (x15_2 : Int) := of_decide_eq_true (by first | (with_reducible assumption) | assumption); have q382 : x15_2 < (l0.length : Int) := of_decide_eq_true (by first | (with_reducible assumption) | assumption); obtain ⟨ad382, e382, hx382_0, hx382_1, hx382_2⟩ := at_File HR0.out x15_2 p382 q382; obtain rfl : ad376 = ad382 := (by injection e382); replace hx382_0 := (HB.out.cell (World.block_lt_of_cell? w _ hx382_0)).trans hx382_0; replace hx382_1 := (HB.out.cell (World.block_lt_of_cell? w _ hx382_1)).trans hx382_1; replace hx382_2 := (HB.out.cell (World.block_lt_of_cell? w _ hx382_2)).trans hx382_2; replace p382 := eq_true p382; replace q382 := eq_true q382) | ((with_reducible refine gate_dst (N := 117) rfl ?_); refine Kd.R_lit Kd.string _ 9 ?hg (N := 117) ?hd (xs := ([(⟨#[45, 115]⟩ : ByteArray), (rd_File l0 x15_2).f0] : List ByteArray)) (inner := [.string (⟨#[45, 115]⟩ : ByteArray), .string ((rd_File l0 x15_2).f0)]) (ok := fun _ => True) (okp := fun _ => True) ?hr ?hp (fun _ hk => hk) trivial (Below.refl _ _) (Nat.le_refl _) (by simp) ?_; (case hd => rfl); (case hg => rfl); (case hr => first | (go_simp; done) | (go_simp; rfl)); (case hp => exact (Reps.one (show Kd.M Kd.string _ _ _ (⟨#[45, 115]⟩ : ByteArray) [.string (⟨#[45, 115]⟩ : ByteArray)] from rfl) (Reps.one (show Kd.M Kd.string _ _ _ ((rd_File l0 x15_2).f0) [.string ((rd_File l0 x15_2).f0)] from rfl) (Reps.none _ _)))); intro v384 w53 ho54 hb hg_ hnew_; clear hg_ hnew_; (first | rw [← Ny383.out] at ho54 | (simp only [Int.reduceToNat] at ho54; rw [← Ny383.out] at ho54)); have n0_ := Aside0.mk (Kd.R_elder' (by (with_reducible repeat (first | apply Kd.R_alloc | apply Kd.R_drewN | apply Kd.R_drew)); exact HO379.out) (Kd.R_base ho54) hb); have n1_ := Aside0.mk (Kd.R_lower (Kd.R_new' ho54 (Kd.R_lt (by (with_reducible repeat (first | apply Kd.R_alloc | apply Kd.R_drewN | apply Kd.R_drew)); exact HO379.out))) (below_size (by repeat (first | (with_reducible first | exact HB.out | apply below_alloc | apply pw_below_drewN | apply below_drew1) | exact HB.out)))); have n2_ := Aside0.mk (below_step (by repeat (first | (with_reducible first | exact HB.out | apply below_alloc | apply pw_below_drewN | apply below_drew1) | exact HB.out)) hb); clear HO379; clear HB; have HO379 := n0_; have HO385 := n1_; have HB := n2_; clear n0_ n1_ n2_; clear hb ho54; obtain ⟨Ao55, co55, eo55⟩ := Kd.R_slice HO385.out; subst eo55) | ((with_reducible refine gate_callee (f := 10) rfl ?_); refine goesL_ (some 119) rfl rfl Tryd.func10 (by kernel_rfl) rfl #[.slice Ao55 y383.length co55, .slice (some ad376) l0.length c0, .string (⟨#[47]⟩ : ByteArray)] rfl (by (try simp only [List.map_toArray, List.map_cons, List.map_nil]); first | done | rfl | (simp only [List.length_drop, List.length_take]; rfl)) ?_; (with_reducible refine (testexpr_Eval.calls _ _ y383 _ _ l0 (⟨#[47]⟩ : ByteArray) t386 t387 _ ?side1 ?side2 ?side3 ?side4 ?side5 A45.out).mono ?_); (case side1 => repeat (first | exact (Kd.R_reads' HO385.out).2.2 | (with_reducible refine Kd.C_alloc ?_ _) | (with_reducible refine Kd.C_drewN ?_ _) | (with_reducible refine Kd.C_drew ?_))); (case side2 => exact (Kd.R_reads' HO385.out).2.1); (case side3 => repeat (first | exact (Kd.C_below HR0.out HB.out) | (with_reducible refine Kd.C_alloc ?_ _) | (with_reducible refine Kd.C_drewN ?_ _) | (with_reducible refine Kd.C_drew ?_))); (case side4 => exact HC0.out); (case side5 => repeat (first | exact (AmbC_below HAMB.out HB.out) | (with_reducible refine AmbC_alloc ?_ _) | (with_reducible refine AmbC_drewN ?_ _) | (with_reducible refine AmbC_drew ?_))); rintro e w56 ⟨rfl, hb⟩; refine ⟨_, rfl, ?_⟩; have n0_ := Aside0.mk (Kd.R_below (by (with_reducible repeat (first | apply Kd.R_alloc | apply Kd.R_drewN | apply Kd.R_drew)); exact HO379.out) hb); have n1_ := Aside0.mk (Kd.R_below (by (with_reducible repeat (first | apply Kd.R_alloc | apply Kd.R_drewN | apply Kd.R_drew)); exact HO385.out) hb); have n2_ := Aside0.mk (below_step (by repeat (first | (with_reducible first | exact HB.out | apply below_alloc | apply pw_below_drewN | apply below_drew1) | exact HB.out)) hb); clear HO379; clear HO385; clear HB; have HO379 := n0_; have HO385 := n1_; have HB := n2_; clear n0_ n1_ n2_; (try clear hb); (try clear hb2); (try clear hk); (try clear hi); have p388 : 0 ≤ (x15_2 : Int) := of_decide_eq_true (by first | (with_reducible assumption) | assumption); have q388 : x15_2 < (l0.length : Int) := of_decide_eq_true (by first | (with_reducible assumption) | assumption); obtain ⟨ad388, e388, hx388_0, hx388_1, hx388_2⟩ := at_File HR0.out x15_2 p388 q388; obtain rfl : ad376 = ad388 := (by injection e388); replace hx388_0 := (HB.out.cell (World.block_lt_of_cell? w _ hx388_0)).trans hx388_0; replace hx388_1 := (HB.out.cell (World.block_lt_of_cell? w _ hx388_1)).trans hx388_1; replace hx388_2 := (HB.out.cell (World.block_lt_of_cell? w _ hx388_2)).trans hx388_2; replace p388 := eq_true p388; replace q388 := eq_true q388))
            go_ret
            exact ⟨by first | rfl | (simp [errW_none, errW_some] <;> rfl) | (simp [*, errW_none, errW_some] <;> rfl), by repeat (first | (with_reducible first | exact HB.out | apply below_alloc | apply pw_below_drewN | apply below_drew1) | exact HB.out)⟩
           ·rw [if_neg c48] at H
            have c48b0 : (t380 != ((rd_File l0 x15_2).f1)) = false := by simpa using c48
            (try (have c48b1 : decide (t380 = ((rd_File l0 x15_2).f1)) = true := by simpa using c48))
            (try (have c48b2 : (t380 == ((rd_File l0 x15_2).f1)) = true := by simpa using c48))
            clear c48
            by_cases c57 : (t386 != (((rd_File l0 x15_2).f2).toList != ([] : List UInt8))) = true
            ·rw [if_pos c57] at H
             have c57b0 : (t386 != (((rd_File l0 x15_2).f2).toList != ([] : List UInt8))) = true := c57
             (try (have c57b9 : (!(t386 == !((rd_File l0 x15_2).f2).toList.isEmpty)) = true := by have e_ := c57; rw [isE_ne] at e_; generalize ((rd_File l0 x15_2).f2).toList.isEmpty = z_ at e_ ⊢; revert e_; cases t386 <;> cases z_ <;> decide))
             (try (have c57b8 : ((!t386) == !((rd_File l0 x15_2).f2).toList.isEmpty) = true := by have e_ := c57; rw [isE_ne] at e_; generalize ((rd_File l0 x15_2).f2).toList.isEmpty = z_ at e_ ⊢; revert e_; cases t386 <;> cases z_ <;> decide))
             (try (have c57b1 : decide (t386 = (((rd_File l0 x15_2).f2).toList != ([] : List UInt8))) = false := by simpa using c57))
             (try (have c57b2 : (t386 == (((rd_File l0 x15_2).f2).toList != ([] : List UInt8))) = false := by simpa using c57))
             (try (have c57b3 : ¬ (t386 = (((rd_File l0 x15_2).f2).toList != ([] : List UInt8))) := by simpa using c57))
             clear c57
             obtain rfl := Option.some.inj H
             have p376 : 0 ≤ (x15_2 : Int) := of_decide_eq_true (by first | (with_reducible assumption) | assumption)
             have q376 : x15_2 < (l0.length : Int) := of_decide_eq_true (by first | (with_reducible assumption) | assumption)
             obtain ⟨ad376, e376, hx376_0, hx376_1, hx376_2⟩ := at_File HR0.out x15_2 p376 q376
             cases e376
             replace hx376_0 := (HB.out.cell (World.block_lt_of_cell? w _ hx376_0)).trans hx376_0
             replace hx376_1 := (HB.out.cell (World.block_lt_of_cell? w _ hx376_1)).trans hx376_1
             replace hx376_2 := (HB.out.cell (World.block_lt_of_cell? w _ hx376_2)).trans hx376_2
             replace p376 := eq_true p376
             replace q376 := eq_true q376
             go_wp2_with (first | ((with_reducible refine gate_dst (N := 106) rfl ?_); refine Kd.R_lit Kd.string _ 9 ?hg (N := 106) ?hd (xs := ([(⟨#[45, 100]⟩ : ByteArray), (rd_File l0 x15_2).f0] : List ByteArray)) (inner := [.string (⟨#[45, 100]⟩ : ByteArray), .string ((rd_File l0 x15_2).f0)]) (ok := fun _ => True) (okp := fun _ => True) ?hr ?hp (fun _ hk => hk) trivial (Below.refl _ _) (Nat.le_refl _) (by simp) ?_; (case hd => rfl); (case hg => rfl); (case hr => first | (go_simp; done) | (go_simp; rfl)); (case hp => exact (Reps.one (show Kd.M Kd.string _ _ _ (⟨#[45, 100]⟩ : ByteArray) [.string (⟨#[45, 100]⟩ : ByteArray)] from rfl) (Reps.one (show Kd.M Kd.string _ _ _ ((rd_File l0 x15_2).f0) [.string ((rd_File l0 x15_2).f0)] from rfl) (Reps.none _ _)))); intro v378 w58 ho59 hb hg_ hnew_; clear hg_ hnew_; (first | rw [← Ny377.out] at ho59 | (simp only [Int.reduceToNat] at ho59; rw [← Ny377.out] at ho59)); have n0_ := Aside0.mk (Kd.R_lower ho59 (below_size (by repeat (first | (with_reducible first | exact HB.out | apply below_alloc | apply pw_below_drewN | apply below_drew1) | exact HB.out)))); have n1_ := Aside0.mk (below_step (by repeat (first | (with_reducible first | exact HB.out | apply below_alloc | apply pw_below_drewN | apply below_drew1) | exact HB.out)) hb); clear HB; have HO379 := n0_; have HB := n1_; clear n0_ n1_; clear hb ho59; obtain ⟨Ao60, co60, eo60⟩ := Kd.R_slice HO379.out; subst eo60) | ((with_reducible refine gate_callee (f := 10) rfl ?_); refine goesL_ (some 108) rfl rfl Tryd.func10 (by kernel_rfl) rfl #[.slice Ao60 y377.length co60, .slice (some ad376) l0.length c0, .string (⟨#[47]⟩ : ByteArray)] rfl (by (try simp only [List.map_toArray, List.map_cons, List.map_nil]); first | done | rfl | (simp only [List.length_drop, List.length_take]; rfl)) ?_; (with_reducible refine (testexpr_Eval.calls _ _ y377 _ _ l0 (⟨#[47]⟩ : ByteArray) t380 t381 _ ?side1 ?side2 ?side3 ?side4 ?side5 A44.out).mono ?_); (case side1 => repeat (first | exact (Kd.R_reads' HO379.out).2.2 | (with_reducible refine Kd.C_alloc ?_ _) | (with_reducible refine Kd.C_drewN ?_ _) | (with_reducible refine Kd.C_drew ?_))); (case side2 => exact (Kd.R_reads' HO379.out).2.1); (case side3 => repeat (first | exact (Kd.C_below HR0.out HB.out) | (with_reducible refine Kd.C_alloc ?_ _) | (with_reducible refine Kd.C_drewN ?_ _) | (with_reducible refine Kd.C_drew ?_))); (case side4 => exact HC0.out); (case side5 => repeat (first | exact (AmbC_below HAMB.out HB.out) | (with_reducible refine AmbC_alloc ?_ _) | (with_reducible refine AmbC_drewN ?_ _) | (with_reducible refine AmbC_drew ?_))); rintro e w61 ⟨rfl, hb⟩; refine ⟨_, rfl, ?_⟩; have n0_ := Aside0.mk (Kd.R_below (by (with_reducible repeat (first | apply Kd.R_alloc | apply Kd.R_drewN | apply Kd.R_drew)); exact HO379.out) hb); have n1_ := Aside0.mk (below_step (by repeat (first | (with_reducible first | exact HB.out | apply below_alloc | apply pw_below_drewN | apply below_drew1) | exact HB.out)) hb); clear HO379; clear HB; have HO379 := n0_; have HB := n1_; clear n0_ n1_; (try clear hb); (try clear hb2); (try clear hk); (try clear hi); have p382 : 0 ≤ (x15_2 : Int) := of_decide_eq_true (by first | (with_reducible assumption) | assumption); have q382 : x15_2 < (l0.length : Int) := of_decide_eq_true (by first | (with_reducible assumption) | assumption); obtain ⟨ad382, e382, hx382_0, hx382_1, hx382_2⟩ := at_File HR0.out x15_2 p382 q382; obtain rfl : ad376 = ad382 := (by injection e382); replace hx382_0 := (HB.out.cell (World.block_lt_of_cell? w _ hx382_0)).trans hx382_0; replace hx382_1 := (HB.out.cell (World.block_lt_of_cell? w _ hx382_1)).trans hx382_1; replace hx382_2 := (HB.out.cell (World.block_lt_of_cell? w _ hx382_2)).trans hx382_2; replace p382 := eq_true p382; replace q382 := eq_true q382) | ((with_reducible refine gate_dst (N := 117) rfl ?_); refine Kd.R_lit Kd.string _ 9 ?hg (N := 117) ?hd (xs := ([(⟨#[45, 115]⟩ : ByteArray), (rd_File l0 x15_2).f0] : List ByteArray)) (inner := [.string (⟨#[45, 115]⟩ : ByteArray), .string ((rd_File l0 x15_2).f0)]) (ok := fun _ => True) (okp := fun _ => True) ?hr ?hp (fun _ hk => hk) trivial (Below.refl _ _) (Nat.le_refl _) (by simp) ?_; (case hd => rfl); (case hg => rfl); (case hr => first | (go_simp; done) | (go_simp; rfl)); (case hp => exact (Reps.one (show Kd.M Kd.string _ _ _ (⟨#[45, 115]⟩ : ByteArray) [.string (⟨#[45, 115]⟩ : ByteArray)] from rfl) (Reps.one (show Kd.M Kd.string _ _ _ ((rd_File l0 x15_2).f0) [.string ((rd_File l0 x15_2).f0)] from rfl) (Reps.none _ _)))); intro v384 w62 ho63 hb hg_ hnew_; clear hg_ hnew_; (first | rw [← Ny383.out] at ho63 | (simp only [Int.reduceToNat] at ho63; rw [← Ny383.out] at ho63)); have n0_ := Aside0.mk (Kd.R_elder' (by (with_reducible repeat (first | apply Kd.R_alloc | apply Kd.R_drewN | apply Kd.R_drew)); exact HO379.out) (Kd.R_base ho63) hb); have n1_ := Aside0.mk (Kd.R_lower (Kd.R_new' ho63 (Kd.R_lt (by (with_reducible repeat (first | apply Kd.R_alloc | apply Kd.R_drewN | apply Kd.R_drew)); exact HO379.out))) (below_size (by repeat (first | (with_reducible first | exact HB.out | apply below_alloc | apply pw_below_drewN | apply below_drew1) | exact HB.out)))); have n2_ := Aside0.mk (below_step (by repeat (first | (with_reducible first | exact HB.out | apply below_alloc | apply pw_below_drewN | apply below_drew1) | exact HB.out)) hb); clear HO379; clear HB; have HO379 := n0_; have HO385 := n1_; have HB := n2_; clear n0_ n1_ n2_; clear hb ho63; obtain ⟨Ao64, co64, eo64⟩ := Kd.R_slice HO385.out; subst eo64) | ((with_reducible refine gate_callee (f := 10) rfl ?_); refine goesL_ (some 119) rfl rfl Tryd.func10 (by kernel_rfl) rfl #[.slice Ao64 y383.length co64, .slice (some ad376) l0.length c0, .string (⟨#[47]⟩ : ByteArray)] rfl (by (try simp only [List.map_toArray, List.map_cons, List.map_nil]); first | done | rfl | (simp only [List.length_drop, List.length_take]; rfl)) ?_; (with_reducible refine (testexpr_Eval.calls _ _ y383 _ _ l0 (⟨#[47]⟩ : ByteArray) t386 t387 _ ?side1 ?side2 ?side3 ?side4 ?side5 A45.out).mono ?_); (case side1 => repeat (first | exact (Kd.R_reads' HO385.out).2.2 | (with_reducible refine Kd.C_alloc ?_ _) | (with_reducible refine Kd.C_drewN ?_ _) | (with_reducible refine Kd.C_drew ?_))); (case side2 => exact (Kd.R_reads' HO385.out).2.1); (case side3 => repeat (first | exact (Kd.C_below HR0.out HB.out) | (with_reducible refine Kd.C_alloc ?_ _) | (with_reducible refine Kd.C_drewN ?_ _) | (with_reducible refine Kd.C_drew ?_))); (case side4 => exact HC0.out); (case side5 => repeat (first | exact (AmbC_below HAMB.out HB.out) | (with_reducible refine AmbC_alloc ?_ _) | (with_reducible refine AmbC_drewN ?_ _) | (with_reducible refine AmbC_drew ?_))); rintro e w65 ⟨rfl, hb⟩; refine ⟨_, rfl, ?_⟩; have n0_ := Aside0.mk (Kd.R_below (by (with_reducible repeat (first | apply Kd.R_alloc | apply Kd.R_drewN | apply Kd.R_drew)); exact HO379.out) hb); have n1_ := Aside0.mk (Kd.R_below (by (with_reducible repeat (first | apply Kd.R_alloc | apply Kd.R_drewN | apply Kd.R_drew)); exact HO385.out) hb); have n2_ := Aside0.mk (below_step (by repeat (first | (with_reducible first | exact HB.out | apply below_alloc | apply pw_below_drewN | apply below_drew1) | exact HB.out)) hb); clear HO379; clear HO385; clear HB; have HO379 := n0_; have HO385 := n1_; have HB := n2_; clear n0_ n1_ n2_; (try clear hb); (try clear hb2); (try clear hk); (try clear hi); have p388 : 0 ≤ (x15_2 : Int) := of_decide_eq_true (by first | (with_reducible assumption) | assumption); have q388 : x15_2 < (l0.length : Int) := of_decide_eq_true (by first | (with_reducible assumption) | assumption); obtain ⟨ad388, e388, hx388_0, hx388_1, hx388_2⟩ := at_File HR0.out x15_2 p388 q388; obtain rfl : ad376 = ad388 := (by injection e388); replace hx388_0 := (HB.out.cell (World.block_lt_of_cell? w _ hx388_0)).trans hx388_0; replace hx388_1 := (HB.out.cell (World.block_lt_of_cell? w _ hx388_1)).trans hx388_1; replace hx388_2 := (HB.out.cell (World.block_lt_of_cell? w _ hx388_2)).trans hx388_2; replace p388 := eq_true p388; replace q388 := eq_true q388; have p389 : 0 ≤ (x15_2 : Int) := of_decide_eq_true (by first | (with_reducible assumption) | assumption); have q389 : x15_2 < (l0.length : Int) := of_decide_eq_true (by first | (with_reducible assumption) | assumption); obtain ⟨ad389, e389, hx389_0, hx389_1, hx389_2⟩ := at_File HR0.out x15_2 p389 q389; obtain rfl : ad376 = ad389 := (by injection e389); replace hx389_0 := (HB.out.cell (World.block_lt_of_cell? w _ hx389_0)).trans hx389_0; replace hx389_1 := (HB.out.cell (World.block_lt_of_cell? w _ hx389_1)).trans hx389_1; replace hx389_2 := (HB.out.cell (World.block_lt_of_cell? w _ hx389_2)).trans hx389_2; replace p389 := eq_true p389; replace q389 := eq_true q389))
             go_ret
             exact ⟨by first | rfl | (simp [errW_none, errW_some] <;> rfl) | (simp [*, errW_none, errW_some] <;> rfl), by repeat (first | (with_reducible first | exact HB.out | apply below_alloc | apply pw_below_drewN | apply below_drew1) | exact HB.out)⟩
            ·rw [if_neg c57] at H
             have c57b0 : (t386 != (((rd_File l0 x15_2).f2).toList != ([] : List UInt8))) = false := by simpa using c57
             (try (have c57b9 : (!(t386 == !((rd_File l0 x15_2).f2).toList.isEmpty)) = false := by have e_ := c57; rw [isE_ne] at e_; generalize ((rd_File l0 x15_2).f2).toList.isEmpty = z_ at e_ ⊢; revert e_; cases t386 <;> cases z_ <;> decide))
             (try (have c57b8 : ((!t386) == !((rd_File l0 x15_2).f2).toList.isEmpty) = false := by have e_ := c57; rw [isE_ne] at e_; generalize ((rd_File l0 x15_2).f2).toList.isEmpty = z_ at e_ ⊢; revert e_; cases t386 <;> cases z_ <;> decide))
             (try (have c57b1 : decide (t386 = (((rd_File l0 x15_2).f2).toList != ([] : List UInt8))) = true := by simpa using c57))
             (try (have c57b2 : (t386 == (((rd_File l0 x15_2).f2).toList != ([] : List UInt8))) = true := by simpa using c57))
             clear c57
             have H' := Aside0.mk H
             clear H
             have p376 : 0 ≤ (x15_2 : Int) := of_decide_eq_true (by first | (with_reducible assumption) | assumption)
             have q376 : x15_2 < (l0.length : Int) := of_decide_eq_true (by first | (with_reducible assumption) | assumption)
             obtain ⟨ad376, e376, hx376_0, hx376_1, hx376_2⟩ := at_File HR0.out x15_2 p376 q376
             cases e376
             replace hx376_0 := (HB.out.cell (World.block_lt_of_cell? w _ hx376_0)).trans hx376_0
             replace hx376_1 := (HB.out.cell (World.block_lt_of_cell? w _ hx376_1)).trans hx376_1
             replace hx376_2 := (HB.out.cell (World.block_lt_of_cell? w _ hx376_2)).trans hx376_2
             replace p376 := eq_true p376
             replace q376 := eq_true q376
             go_wp2_with (first | ((with_reducible refine gate_dst (N := 106) rfl ?_); refine Kd.R_lit Kd.string _ 9 ?hg (N := 106) ?hd (xs := ([(⟨#[45, 100]⟩ : ByteArray), (rd_File l0 x15_2).f0] : List ByteArray)) (inner := [.string (⟨#[45, 100]⟩ : ByteArray), .string ((rd_File l0 x15_2).f0)]) (ok := fun _ => True) (okp := fun _ => True) ?hr ?hp (fun _ hk => hk) trivial (Below.refl _ _) (Nat.le_refl _) (by simp) ?_; (case hd => rfl); (case hg => rfl); (case hr => first | (go_simp; done) | (go_simp; rfl)); (case hp => exact (Reps.one (show Kd.M Kd.string _ _ _ (⟨#[45, 100]⟩ : ByteArray) [.string (⟨#[45, 100]⟩ : ByteArray)] from rfl) (Reps.one (show Kd.M Kd.string _ _ _ ((rd_File l0 x15_2).f0) [.string ((rd_File l0 x15_2).f0)] from rfl) (Reps.none _ _)))); intro v378 w66 ho67 hb hg_ hnew_; clear hg_ hnew_; (first | rw [← Ny377.out] at ho67 | (simp only [Int.reduceToNat] at ho67; rw [← Ny377.out] at ho67)); have n0_ := Aside0.mk (Kd.R_lower ho67 (below_size (by repeat (first | (with_reducible first | exact HB.out | apply below_alloc | apply pw_below_drewN | apply below_drew1) | exact HB.out)))); have n1_ := Aside0.mk (below_step (by repeat (first | (with_reducible first | exact HB.out | apply below_alloc | apply pw_below_drewN | apply below_drew1) | exact HB.out)) hb); clear HB; have HO379 := n0_; have HB := n1_; clear n0_ n1_; clear hb ho67; obtain ⟨Ao68, co68, eo68⟩ := Kd.R_slice HO379.out; subst eo68) | ((with_reducible refine gate_callee (f := 10) rfl ?_); refine goesL_ (some 108) rfl rfl Tryd.func10 (by kernel_rfl) rfl #[.slice Ao68 y377.length co68, .slice (some ad376) l0.length c0, .string (⟨#[47]⟩ : ByteArray)] rfl (by (try simp only [List.map_toArray, List.map_cons, List.map_nil]); first | done | rfl | (simp only [List.length_drop, List.length_take]; rfl)) ?_; (with_reducible refine (testexpr_Eval.calls _ _ y377 _ _ l0 (⟨#[47]⟩ : ByteArray) t380 t381 _ ?side1 ?side2 ?side3 ?side4 ?side5 A44.out).mono ?_); (case side1 => repeat (first | exact (Kd.R_reads' HO379.out).2.2 | (with_reducible refine Kd.C_alloc ?_ _) | (with_reducible refine Kd.C_drewN ?_ _) | (with_reducible refine Kd.C_drew ?_))); (case side2 => exact (Kd.R_reads' HO379.out).2.1); (case side3 => repeat (first | exact (Kd.C_below HR0.out HB.out) | (with_reducible refine Kd.C_alloc ?_ _) | (with_reducible refine Kd.C_drewN ?_ _) | (with_reducible refine Kd.C_drew ?_))); (case side4 => exact HC0.out); (case side5 => repeat (first | exact (AmbC_below HAMB.out HB.out) | (with_reducible refine AmbC_alloc ?_ _) | (with_reducible refine AmbC_drewN ?_ _) | (with_reducible refine AmbC_drew ?_))); rintro e w69 ⟨rfl, hb⟩; refine ⟨_, rfl, ?_⟩; have n0_ := Aside0.mk (Kd.R_below (by (with_reducible repeat (first | apply Kd.R_alloc | apply Kd.R_drewN | apply Kd.R_drew)); exact HO379.out) hb); have n1_ := Aside0.mk (below_step (by repeat (first | (with_reducible first | exact HB.out | apply below_alloc | apply pw_below_drewN | apply below_drew1) | exact HB.out)) hb); clear HO379; clear HB; have HO379 := n0_; have HB := n1_; clear n0_ n1_; (try clear hb); (try clear hb2); (try clear hk); (try clear hi); have p382 : 0 ≤ (x15_2 : Int) := of_decide_eq_true (by first | (with_reducible assumption) | assumption); have q382 : x15_2 < (l0.length : Int) := of_decide_eq_true (by first | (with_reducible assumption) | assumption); obtain ⟨ad382, e382, hx382_0, hx382_1, hx382_2⟩ := at_File HR0.out x15_2 p382 q382; obtain rfl : ad376 = ad382 := (by injection e382); replace hx382_0 := (HB.out.cell (World.block_lt_of_cell? w _ hx382_0)).trans hx382_0; replace hx382_1 := (HB.out.cell (World.block_lt_of_cell? w _ hx382_1)).trans hx382_1; replace hx382_2 := (HB.out.cell (World.block_lt_of_cell? w _ hx382_2)).trans hx382_2; replace p382 := eq_true p382; replace q382 := eq_true q382) | ((with_reducible refine gate_dst (N := 117) rfl ?_); refine Kd.R_lit Kd.string _ 9 ?hg (N := 117) ?hd (xs := ([(⟨#[45, 115]⟩ : ByteArray), (rd_File l0 x15_2).f0] : List ByteArray)) (inner := [.string (⟨#[45, 115]⟩ : ByteArray), .string ((rd_File l0 x15_2).f0)]) (ok := fun _ => True) (okp := fun _ => True) ?hr ?hp (fun _ hk => hk) trivial (Below.refl _ _) (Nat.le_refl _) (by simp) ?_; (case hd => rfl); (case hg => rfl); (case hr => first | (go_simp; done) | (go_simp; rfl)); (case hp => exact (Reps.one (show Kd.M Kd.string _ _ _ (⟨#[45, 115]⟩ : ByteArray) [.string (⟨#[45, 115]⟩ : ByteArray)] from rfl) (Reps.one (show Kd.M Kd.string _ _ _ ((rd_File l0 x15_2).f0) [.string ((rd_File l0 x15_2).f0)] from rfl) (Reps.none _ _)))); intro v384 w70 ho71 hb hg_ hnew_; clear hg_ hnew_; (first | rw [← Ny383.out] at ho71 | (simp only [Int.reduceToNat] at ho71; rw [← Ny383.out] at ho71)); have n0_ := Aside0.mk (Kd.R_elder' (by (with_reducible repeat (first | apply Kd.R_alloc | apply Kd.R_drewN | apply Kd.R_drew)); exact HO379.out) (Kd.R_base ho71) hb); have n1_ := Aside0.mk (Kd.R_lower (Kd.R_new' ho71 (Kd.R_lt (by (with_reducible repeat (first | apply Kd.R_alloc | apply Kd.R_drewN | apply Kd.R_drew)); exact HO379.out))) (below_size (by repeat (first | (with_reducible first | exact HB.out | apply below_alloc | apply pw_below_drewN | apply below_drew1) | exact HB.out)))); have n2_ := Aside0.mk (below_step (by repeat (first | (with_reducible first | exact HB.out | apply below_alloc | apply pw_below_drewN | apply below_drew1) | exact HB.out)) hb); clear HO379; clear HB; have HO379 := n0_; have HO385 := n1_; have HB := n2_; clear n0_ n1_ n2_; clear hb ho71; obtain ⟨Ao72, co72, eo72⟩ := Kd.R_slice HO385.out; subst eo72) | ((with_reducible refine gate_callee (f := 10) rfl ?_); refine goesL_ (some 119) rfl rfl Tryd.func10 (by kernel_rfl) rfl #[.slice Ao72 y383.length co72, .slice (some ad376) l0.length c0, .string (⟨#[47]⟩ : ByteArray)] rfl (by (try simp only [List.map_toArray, List.map_cons, List.map_nil]); first | done | rfl | (simp only [List.length_drop, List.length_take]; rfl)) ?_; (with_reducible refine (testexpr_Eval.calls _ _ y383 _ _ l0 (⟨#[47]⟩ : ByteArray) t386 t387 _ ?side1 ?side2 ?side3 ?side4 ?side5 A45.out).mono ?_); (case side1 => repeat (first | exact (Kd.R_reads' HO385.out).2.2 | (with_reducible refine Kd.C_alloc ?_ _) | (with_reducible refine Kd.C_drewN ?_ _) | (with_reducible refine Kd.C_drew ?_))); (case side2 => exact (Kd.R_reads' HO385.out).2.1); (case side3 => repeat (first | exact (Kd.C_below HR0.out HB.out) | (with_reducible refine Kd.C_alloc ?_ _) | (with_reducible refine Kd.C_drewN ?_ _) | (with_reducible refine Kd.C_drew ?_))); (case side4 => exact HC0.out); (case side5 => repeat (first | exact (AmbC_below HAMB.out HB.out) | (with_reducible refine AmbC_alloc ?_ _) | (with_reducible refine AmbC_drewN ?_ _) | (with_reducible refine AmbC_drew ?_))); rintro e w73 ⟨rfl, hb⟩; refine ⟨_, rfl, ?_⟩; have n0_ := Aside0.mk (Kd.R_below (by (with_reducible repeat (first | apply Kd.R_alloc | apply Kd.R_drewN | apply Kd.R_drew)); exact HO379.out) hb); have n1_ := Aside0.mk (Kd.R_below (by (with_reducible repeat (first | apply Kd.R_alloc | apply Kd.R_drewN | apply Kd.R_drew)); exact HO385.out) hb); have n2_ := Aside0.mk (below_step (by repeat (first | (with_reducible first | exact HB.out | apply below_alloc | apply pw_below_drewN | apply below_drew1) | exact HB.out)) hb); clear HO379; clear HO385; clear HB; have HO379 := n0_; have HO385 := n1_; have HB := n2_; clear n0_ n1_ n2_; (try clear hb); (try clear hb2); (try clear hk); (try clear hi); have p388 : 0 ≤ (x15_2 : Int) := of_decide_eq_true (by first | (with_reducible assumption) | assumption); have q388 : x15_2 < (l0.length : Int) := of_decide_eq_true (by first | (with_reducible assumption) | assumption); obtain ⟨ad388, e388, hx388_0, hx388_1, hx388_2⟩ := at_File HR0.out x15_2 p388 q388; obtain rfl : ad376 = ad388 := (by injection e388); replace hx388_0 := (HB.out.cell (World.block_lt_of_cell? w _ hx388_0)).trans hx388_0; replace hx388_1 := (HB.out.cell (World.block_lt_of_cell? w _ hx388_1)).trans hx388_1; replace hx388_2 := (HB.out.cell (World.block_lt_of_cell? w _ hx388_2)).trans hx388_2; replace p388 := eq_true p388; replace q388 := eq_true q388; have p389 : 0 ≤ (x15_2 : Int) := of_decide_eq_true (by first | (with_reducible assumption) | assumption); have q389 : x15_2 < (l0.length : Int) := of_decide_eq_true (by first | (with_reducible assumption) | assumption); obtain ⟨ad389, e389, hx389_0, hx389_1, hx389_2⟩ := at_File HR0.out x15_2 p389 q389; obtain rfl : ad376 = ad389 := (by injection e389); replace hx389_0 := (HB.out.cell (World.block_lt_of_cell? w _ hx389_0)).trans hx389_0; replace hx389_1 := (HB.out.cell (World.block_lt_of_cell? w _ hx389_1)).trans hx389_1; replace hx389_2 := (HB.out.cell (World.block_lt_of_cell? w _ hx389_2)).trans hx389_2; replace p389 := eq_true p389; replace q389 := eq_true q389))
             go_roundg k2
             case measure => have := HJ9.out; have := HK2.out; omega
             case rel => exact ⟨(wrap64 (x15_2 + 1)), (by first | rfl | (simp; done) | (simp [*]; done) | (simp [isE_ne]; done)), H', ⟨by have := HJ9.out; have := HK2.out; omega⟩, ⟨by repeat (first | (with_reducible first | exact HB.out | apply below_alloc | apply pw_below_drewN | apply below_drew1) | exact HB.out)⟩⟩
          ·rw [if_neg c47] at H
           have c47b0 : (t387 == 0) = false := beq_eq_false_iff_ne.mpr c47
           have c47b1 : (t387 != 0) = true := bne_iff_ne.mpr c47
           obtain rfl := Option.some.inj H
           have p376 : 0 ≤ (x15_2 : Int) := of_decide_eq_true (by first | (with_reducible assumption) | assumption)
           have q376 : x15_2 < (l0.length : Int) := of_decide_eq_true (by first | (with_reducible assumption) | assumption)
           obtain ⟨ad376, e376, hx376_0, hx376_1, hx376_2⟩ := at_File HR0.out x15_2 p376 q376
           cases e376
           replace hx376_0 := (HB.out.cell (World.block_lt_of_cell? w _ hx376_0)).trans hx376_0
           replace hx376_1 := (HB.out.cell (World.block_lt_of_cell? w _ hx376_1)).trans hx376_1
           replace hx376_2 := (HB.out.cell (World.block_lt_of_cell? w _ hx376_2)).trans hx376_2
           replace p376 := eq_true p376
           replace q376 := eq_true q376
           go_wp2_with (first | ((with_reducible refine gate_dst (N := 106) rfl ?_); refine Kd.R_lit Kd.string _ 9 ?hg (N := 106) ?hd (xs := ([(⟨#[45, 100]⟩ : ByteArray), (rd_File l0 x15_2).f0] : List ByteArray)) (inner := [.string (⟨#[45, 100]⟩ : ByteArray), .string ((rd_File l0 x15_2).f0)]) (ok := fun _ => True) (okp := fun _ => True) ?hr ?hp (fun _ hk => hk) trivial (Below.refl _ _) (Nat.le_refl _) (by simp) ?_; (case hd => rfl); (case hg => rfl); (case hr => first | (go_simp; done) | (go_simp; rfl)); (case hp => exact (Reps.one (show Kd.M Kd.string _ _ _ (⟨#[45, 100]⟩ : ByteArray) [.string (⟨#[45, 100]⟩ : ByteArray)] from rfl) (Reps.one (show Kd.M Kd.string _ _ _ ((rd_File l0 x15_2).f0) [.string ((rd_File l0 x15_2).f0)] from rfl) (Reps.none _ _)))); intro v378 w74 ho75 hb hg_ hnew_; clear hg_ hnew_; (first | rw [← Ny377.out] at ho75 | (simp only [Int.reduceToNat] at ho75; rw [← Ny377.out] at ho75)); have n0_ := Aside0.mk (Kd.R_lower ho75 (below_size (by repeat (first | (with_reducible first | exact HB.out | apply below_alloc | apply pw_below_drewN | apply below_drew1) | exact HB.out)))); have n1_ := Aside0.mk (below_step (by repeat (first | (with_reducible first | exact HB.out | apply below_alloc | apply pw_below_drewN | apply below_drew1) | exact HB.out)) hb); clear HB; have HO379 := n0_; have HB := n1_; clear n0_ n1_; clear hb ho75; obtain ⟨Ao76, co76, eo76⟩ := Kd.R_slice HO379.out; subst eo76) | ((with_reducible refine gate_callee (f := 10) rfl ?_); refine goesL_ (some 108) rfl rfl Tryd.func10 (by kernel_rfl) rfl #[.slice Ao76 y377.length co76, .slice (some ad376) l0.length c0, .string (⟨#[47]⟩ : ByteArray)] rfl (by (try simp only [List.map_toArray, List.map_cons, List.map_nil]); first | done | rfl | (simp only [List.length_drop, List.length_take]; rfl)) ?_; (with_reducible refine (testexpr_Eval.calls _ _ y377 _ _ l0 (⟨#[47]⟩ : ByteArray) t380 t381 _ ?side1 ?side2 ?side3 ?side4 ?side5 A44.out).mono ?_); (case side1 => repeat (first | exact (Kd.R_reads' HO379.out).2.2 | (with_reducible refine Kd.C_alloc ?_ _) | (with_reducible refine Kd.C_drewN ?_ _) | (with_reducible refine Kd.C_drew ?_))); (case side2 => exact (Kd.R_reads' HO379.out).2.1); (case side3 => repeat (first | exact (Kd.C_below HR0.out HB.out) | (with_reducible refine Kd.C_alloc ?_ _) | (with_reducible refine Kd.C_drewN ?_ _) | (with_reducible refine Kd.C_drew ?_))); (case side4 => exact HC0.out); (case side5 => repeat (first | exact (AmbC_below HAMB.out HB.out) | (with_reducible refine AmbC_alloc ?_ _) | (with_reducible refine AmbC_drewN ?_ _) | (with_reducible refine AmbC_drew ?_))); rintro e w77 ⟨rfl, hb⟩; refine ⟨_, rfl, ?_⟩; have n0_ := Aside0.mk (Kd.R_below (by (with_reducible repeat (first | apply Kd.R_alloc | apply Kd.R_drewN | apply Kd.R_drew)); exact HO379.out) hb); have n1_ := Aside0.mk (below_step (by repeat (first | (with_reducible first | exact HB.out | apply below_alloc | apply pw_below_drewN | apply below_drew1) | exact HB.out)) hb); clear HO379; clear HB; have HO379 := n0_; have HB := n1_; clear n0_ n1_; (try clear hb); (try clear hb2); (try clear hk); (try clear hi); have p382 : 0 ≤ (x15_2 : Int) := of_decide_eq_true (by first | (with_reducible assumption) | assumption); have q382 : x15_2 < (l0.length : Int) := of_decide_eq_true (by first | (with_reducible assumption) | assumption); obtain ⟨ad382, e382, hx382_0, hx382_1, hx382_2⟩ := at_File HR0.out x15_2 p382 q382; obtain rfl : ad376 = ad382 := (by injection e382); replace hx382_0 := (HB.out.cell (World.block_lt_of_cell? w _ hx382_0)).trans hx382_0; replace hx382_1 := (HB.out.cell (World.block_lt_of_cell? w _ hx382_1)).trans hx382_1; replace hx382_2 := (HB.out.cell (World.block_lt_of_cell? w _ hx382_2)).trans hx382_2; replace p382 := eq_true p382; replace q382 := eq_true q382) | ((with_reducible refine gate_dst (N := 117) rfl ?_); refine Kd.R_lit Kd.string _ 9 ?hg (N := 117) ?hd (xs := ([(⟨#[45, 115]⟩ : ByteArray), (rd_File l0 x15_2).f0] : List ByteArray)) (inner := [.string (⟨#[45, 115]⟩ : ByteArray), .string ((rd_File l0 x15_2).f0)]) (ok := fun _ => True) (okp := fun _ => True) ?hr ?hp (fun _ hk => hk) trivial (Below.refl _ _) (Nat.le_refl _) (by simp) ?_; (case hd => rfl); (case hg => rfl); (case hr => first | (go_simp; done) | (go_simp; rfl)); (case hp => exact (Reps.one (show Kd.M Kd.string _ _ _ (⟨#[45, 115]⟩ : ByteArray) [.string (⟨#[45, 115]⟩ : ByteArray)] from rfl) (Reps.one (show Kd.M Kd.string _ _ _ ((rd_File l0 x15_2).f0) [.string ((rd_File l0 x15_2).f0)] from rfl) (Reps.none _ _)))); intro v384 w78 ho79 hb hg_ hnew_; clear hg_ hnew_; (first | rw [← Ny383.out] at ho79 | (simp only [Int.reduceToNat] at ho79; rw [← Ny383.out] at ho79)); have n0_ := Aside0.mk (Kd.R_elder' (by (with_reducible repeat (first | apply Kd.R_alloc | apply Kd.R_drewN | apply Kd.R_drew)); exact HO379.out) (Kd.R_base ho79) hb); have n1_ := Aside0.mk (Kd.R_lower (Kd.R_new' ho79 (Kd.R_lt (by (with_reducible repeat (first | apply Kd.R_alloc | apply Kd.R_drewN | apply Kd.R_drew)); exact HO379.out))) (below_size (by repeat (first | (with_reducible first | exact HB.out | apply below_alloc | apply pw_below_drewN | apply below_drew1) | exact HB.out)))); have n2_ := Aside0.mk (below_step (by repeat (first | (with_reducible first | exact HB.out | apply below_alloc | apply pw_below_drewN | apply below_drew1) | exact HB.out)) hb); clear HO379; clear HB; have HO379 := n0_; have HO385 := n1_; have HB := n2_; clear n0_ n1_ n2_; clear hb ho79; obtain ⟨Ao80, co80, eo80⟩ := Kd.R_slice HO385.out; subst eo80) | ((with_reducible refine gate_callee (f := 10) rfl ?_); refine goesL_ (some 119) rfl rfl Tryd.func10 (by kernel_rfl) rfl #[.slice Ao80 y383.length co80, .slice (some ad376) l0.length c0, .string (⟨#[47]⟩ : ByteArray)] rfl (by (try simp only [List.map_toArray, List.map_cons, List.map_nil]); first | done | rfl | (simp only [List.length_drop, List.length_take]; rfl)) ?_; (with_reducible refine (testexpr_Eval.calls _ _ y383 _ _ l0 (⟨#[47]⟩ : ByteArray) t386 t387 _ ?side1 ?side2 ?side3 ?side4 ?side5 A45.out).mono ?_); (case side1 => repeat (first | exact (Kd.R_reads' HO385.out).2.2 | (with_reducible refine Kd.C_alloc ?_ _) | (with_reducible refine Kd.C_drewN ?_ _) | (with_reducible refine Kd.C_drew ?_))); (case side2 => exact (Kd.R_reads' HO385.out).2.1); (case side3 => repeat (first | exact (Kd.C_below HR0.out HB.out) | (with_reducible refine Kd.C_alloc ?_ _) | (with_reducible refine Kd.C_drewN ?_ _) | (with_reducible refine Kd.C_drew ?_))); (case side4 => exact HC0.out); (case side5 => repeat (first | exact (AmbC_below HAMB.out HB.out) | (with_reducible refine AmbC_alloc ?_ _) | (with_reducible refine AmbC_drewN ?_ _) | (with_reducible refine AmbC_drew ?_))); rintro e w81 ⟨rfl, hb⟩; refine ⟨_, rfl, ?_⟩; have n0_ := Aside0.mk (Kd.R_below (by (with_reducible repeat (first | apply Kd.R_alloc | apply Kd.R_drewN | apply Kd.R_drew)); exact HO379.out) hb); have n1_ := Aside0.mk (Kd.R_below (by (with_reducible repeat (first | apply Kd.R_alloc | apply Kd.R_drewN | apply Kd.R_drew)); exact HO385.out) hb); have n2_ := Aside0.mk (below_step (by repeat (first | (with_reducible first | exact HB.out | apply below_alloc | apply pw_below_drewN | apply below_drew1) | exact HB.out)) hb); clear HO379; clear HO385; clear HB; have HO379 := n0_; have HO385 := n1_; have HB := n2_; clear n0_ n1_ n2_; (try clear hb); (try clear hb2); (try clear hk); (try clear hi)))
           go_ret
           exact ⟨by first | rfl | (simp [errW_none, errW_some] <;> rfl) | (simp [*, errW_none, errW_some] <;> rfl), by repeat (first | (with_reducible first | exact HB.out | apply below_alloc | apply pw_below_drewN | apply below_drew1) | exact HB.out)⟩
         ·rw [if_neg c46] at H
          have c46b0 : (t381 == 0) = false := beq_eq_false_iff_ne.mpr c46
          have c46b1 : (t381 != 0) = true := bne_iff_ne.mpr c46
          obtain rfl := Option.some.inj H
          have p376 : 0 ≤ (x15_2 : Int) := of_decide_eq_true (by first | (with_reducible assumption) | assumption)
          have q376 : x15_2 < (l0.length : Int) := of_decide_eq_true (by first | (with_reducible assumption) | assumption)
          obtain ⟨ad376, e376, hx376_0, hx376_1, hx376_2⟩ := at_File HR0.out x15_2 p376 q376
          cases e376
          replace hx376_0 := (HB.out.cell (World.block_lt_of_cell? w _ hx376_0)).trans hx376_0
          replace hx376_1 := (HB.out.cell (World.block_lt_of_cell? w _ hx376_1)).trans hx376_1
          replace hx376_2 := (HB.out.cell (World.block_lt_of_cell? w _ hx376_2)).trans hx376_2
          replace p376 := eq_true p376
          replace q376 := eq_true q376
          go_wp2_with (first | ((with_reducible refine gate_dst (N := 106) rfl ?_); refine Kd.R_lit Kd.string _ 9 ?hg (N := 106) ?hd (xs := ([(⟨#[45, 100]⟩ : ByteArray), (rd_File l0 x15_2).f0] : List ByteArray)) (inner := [.string (⟨#[45, 100]⟩ : ByteArray), .string ((rd_File l0 x15_2).f0)]) (ok := fun _ => True) (okp := fun _ => True) ?hr ?hp (fun _ hk => hk) trivial (Below.refl _ _) (Nat.le_refl _) (by simp) ?_; (case hd => rfl); (case hg => rfl); (case hr => first | (go_simp; done) | (go_simp; rfl)); (case hp => exact (Reps.one (show Kd.M Kd.string _ _ _ (⟨#[45, 100]⟩ : ByteArray) [.string (⟨#[45, 100]⟩ : ByteArray)] from rfl) (Reps.one (show Kd.M Kd.string _ _ _ ((rd_File l0 x15_2).f0) [.string ((rd_File l0 x15_2).f0)] from rfl) (Reps.none _ _)))); intro v378 w82 ho83 hb hg_ hnew_; clear hg_ hnew_; (first | rw [← Ny377.out] at ho83 | (simp only [Int.reduceToNat] at ho83; rw [← Ny377.out] at ho83)); have n0_ := Aside0.mk (Kd.R_lower ho83 (below_size (by repeat (first | (with_reducible first | exact HB.out | apply below_alloc | apply pw_below_drewN | apply below_drew1) | exact HB.out)))); have n1_ := Aside0.mk (below_step (by repeat (first | (with_reducible first | exact HB.out | apply below_alloc | apply pw_below_drewN | apply below_drew1) | exact HB.out)) hb); clear HB; have HO379 := n0_; have HB := n1_; clear n0_ n1_; clear hb ho83; obtain ⟨Ao84, co84, eo84⟩ := Kd.R_slice HO379.out; subst eo84) | ((with_reducible refine gate_callee (f := 10) rfl ?_); refine goesL_ (some 108) rfl rfl Tryd.func10 (by kernel_rfl) rfl #[.slice Ao84 y377.length co84, .slice (some ad376) l0.length c0, .string (⟨#[47]⟩ : ByteArray)] rfl (by (try simp only [List.map_toArray, List.map_cons, List.map_nil]); first | done | rfl | (simp only [List.length_drop, List.length_take]; rfl)) ?_; (with_reducible refine (testexpr_Eval.calls _ _ y377 _ _ l0 (⟨#[47]⟩ : ByteArray) t380 t381 _ ?side1 ?side2 ?side3 ?side4 ?side5 A44.out).mono ?_); (case side1 => repeat (first | exact (Kd.R_reads' HO379.out).2.2 | (with_reducible refine Kd.C_alloc ?_ _) | (with_reducible refine Kd.C_drewN ?_ _) | (with_reducible refine Kd.C_drew ?_))); (case side2 => exact (Kd.R_reads' HO379.out).2.1); (case side3 => repeat (first | exact (Kd.C_below HR0.out HB.out) | (with_reducible refine Kd.C_alloc ?_ _) | (with_reducible refine Kd.C_drewN ?_ _) | (with_reducible refine Kd.C_drew ?_))); (case side4 => exact HC0.out); (case side5 => repeat (first | exact (AmbC_below HAMB.out HB.out) | (with_reducible refine AmbC_alloc ?_ _) | (with_reducible refine AmbC_drewN ?_ _) | (with_reducible refine AmbC_drew ?_))); rintro e w85 ⟨rfl, hb⟩; refine ⟨_, rfl, ?_⟩; have n0_ := Aside0.mk (Kd.R_below (by (with_reducible repeat (first | apply Kd.R_alloc | apply Kd.R_drewN | apply Kd.R_drew)); exact HO379.out) hb); have n1_ := Aside0.mk (below_step (by repeat (first | (with_reducible first | exact HB.out | apply below_alloc | apply pw_below_drewN | apply below_drew1) | exact HB.out)) hb); clear HO379; clear HB; have HO379 := n0_; have HB := n1_; clear n0_ n1_; (try clear hb); (try clear hb2); (try clear hk); (try clear hi); have p382 : 0 ≤ (x15_2 : Int) := of_decide_eq_true (by first | (with_reducible assumption) | assumption); have q382 : x15_2 < (l0.length : Int) := of_decide_eq_true (by first | (with_reducible assumption) | assumption); obtain ⟨ad382, e382, hx382_0, hx382_1, hx382_2⟩ := at_File HR0.out x15_2 p382 q382; obtain rfl : ad376 = ad382 := (by injection e382); replace hx382_0 := (HB.out.cell (World.block_lt_of_cell? w _ hx382_0)).trans hx382_0; replace hx382_1 := (HB.out.cell (World.block_lt_of_cell? w _ hx382_1)).trans hx382_1; replace hx382_2 := (HB.out.cell (World.block_lt_of_cell? w _ hx382_2)).trans hx382_2; replace p382 := eq_true p382; replace q382 := eq_true q382) | ((with_reducible refine gate_dst (N := 117) rfl ?_); refine Kd.R_lit Kd.string _ 9 ?hg (N := 117) ?hd (xs := ([(⟨#[45, 115]⟩ : ByteArray), (rd_File l0 x15_2).f0] : List ByteArray)) (inner := [.string (⟨#[45, 115]⟩ : ByteArray), .string ((rd_File l0 x15_2).f0)]) (ok := fun _ => True) (okp := fun _ => True) ?hr ?hp (fun _ hk => hk) trivial (Below.refl _ _) (Nat.le_refl _) (by simp) ?_; (case hd => rfl); (case hg => rfl); (case hr => first | (go_simp; done) | (go_simp; rfl)); (case hp => exact (Reps.one (show Kd.M Kd.string _ _ _ (⟨#[45, 115]⟩ : ByteArray) [.string (⟨#[45, 115]⟩ : ByteArray)] from rfl) (Reps.one (show Kd.M Kd.string _ _ _ ((rd_File l0 x15_2).f0) [.string ((rd_File l0 x15_2).f0)] from rfl) (Reps.none _ _)))); intro v384 w86 ho87 hb hg_ hnew_; clear hg_ hnew_; (first | rw [← Ny383.out] at ho87 | (simp only [Int.reduceToNat] at ho87; rw [← Ny383.out] at ho87)); have n0_ := Aside0.mk (Kd.R_elder' (by (with_reducible repeat (first | apply Kd.R_alloc | apply Kd.R_drewN | apply Kd.R_drew)); exact HO379.out) (Kd.R_base ho87) hb); have n1_ := Aside0.mk (Kd.R_lower (Kd.R_new' ho87 (Kd.R_lt (by (with_reducible repeat (first | apply Kd.R_alloc | apply Kd.R_drewN | apply Kd.R_drew)); exact HO379.out))) (below_size (by repeat (first | (with_reducible first | exact HB.out | apply below_alloc | apply pw_below_drewN | apply below_drew1) | exact HB.out)))); have n2_ := Aside0.mk (below_step (by repeat (first | (with_reducible first | exact HB.out | apply below_alloc | apply pw_below_drewN | apply below_drew1) | exact HB.out)) hb); clear HO379; clear HB; have HO379 := n0_; have HO385 := n1_; have HB := n2_; clear n0_ n1_ n2_; clear hb ho87; obtain ⟨Ao88, co88, eo88⟩ := Kd.R_slice HO385.out; subst eo88) | ((with_reducible refine gate_callee (f := 10) rfl ?_); refine goesL_ (some 119) rfl rfl Tryd.func10 (by kernel_rfl) rfl #[.slice Ao88 y383.length co88, .slice (some ad376) l0.length c0, .string (⟨#[47]⟩ : ByteArray)] rfl (by (try simp only [List.map_toArray, List.map_cons, List.map_nil]); first | done | rfl | (simp only [List.length_drop, List.length_take]; rfl)) ?_; (with_reducible refine (testexpr_Eval.calls _ _ y383 _ _ l0 (⟨#[47]⟩ : ByteArray) t386 t387 _ ?side1 ?side2 ?side3 ?side4 ?side5 A45.out).mono ?_); (case side1 => repeat (first | exact (Kd.R_reads' HO385.out).2.2 | (with_reducible refine Kd.C_alloc ?_ _) | (with_reducible refine Kd.C_drewN ?_ _) | (with_reducible refine Kd.C_drew ?_))); (case side2 => exact (Kd.R_reads' HO385.out).2.1); (case side3 => repeat (first | exact (Kd.C_below HR0.out HB.out) | (with_reducible refine Kd.C_alloc ?_ _) | (with_reducible refine Kd.C_drewN ?_ _) | (with_reducible refine Kd.C_drew ?_))); (case side4 => exact HC0.out); (case side5 => repeat (first | exact (AmbC_below HAMB.out HB.out) | (with_reducible refine AmbC_alloc ?_ _) | (with_reducible refine AmbC_drewN ?_ _) | (with_reducible refine AmbC_drew ?_))); rintro e w89 ⟨rfl, hb⟩; refine ⟨_, rfl, ?_⟩; have n0_ := Aside0.mk (Kd.R_below (by (with_reducible repeat (first | apply Kd.R_alloc | apply Kd.R_drewN | apply Kd.R_drew)); exact HO379.out) hb); have n1_ := Aside0.mk (Kd.R_below (by (with_reducible repeat (first | apply Kd.R_alloc | apply Kd.R_drewN | apply Kd.R_drew)); exact HO385.out) hb); have n2_ := Aside0.mk (below_step (by repeat (first | (with_reducible first | exact HB.out | apply below_alloc | apply pw_below_drewN | apply below_drew1) | exact HB.out)) hb); clear HO379; clear HO385; clear HB; have HO379 := n0_; have HO385 := n1_; have HB := n2_; clear n0_ n1_ n2_; (try clear hb); (try clear hb2); (try clear hk); (try clear hi)))
          go_ret
          exact ⟨by first | rfl | (simp [errW_none, errW_some] <;> rfl) | (simp [*, errW_none, errW_some] <;> rfl), by repeat (first | (with_reducible first | exact HB.out | apply below_alloc | apply pw_below_drewN | apply below_drew1) | exact HB.out)⟩
        ·rw [if_neg c43] at H
         exact absurd H (by simp)
       ·rw [if_neg c42] at H
        have c42b0 : decide (x15_2 < (l0.length : Int)) = false := decide_eq_false c42
        clear c42
        replace H := Option.bind_eq_some_iff.mp H
        obtain ⟨t375, A900, H⟩ := H
        replace H : (some t375) = some r := H
        have A90 := Aside0.mk A900
        clear A900
        obtain rfl := Option.some.inj H
        go_wp2_with (first | ((with_reducible refine gate_callee (f := 9) rfl ?_); refine goesL_ (some 147) rfl rfl Tryd.func9 (by kernel_rfl) rfl #[] rfl (by (try simp only [List.map_toArray, List.map_cons, List.map_nil]); first | done | rfl | (simp only [List.length_drop, List.length_take]; rfl)) ?_; (with_reducible refine (jobshelllaw29_awake.calls  t375 _ ?side1 A90.out).mono ?_); (case side1 => repeat (first | exact (AmbC_below HAMB.out HB.out) | (with_reducible refine AmbC_alloc ?_ _) | (with_reducible refine AmbC_drewN ?_ _) | (with_reducible refine AmbC_drew ?_))); rintro e w91 ⟨rfl, hb⟩; refine ⟨_, rfl, ?_⟩; have n0_ := Aside0.mk (below_step (by repeat (first | (with_reducible first | exact HB.out | apply below_alloc | apply pw_below_drewN | apply below_drew1) | exact HB.out)) hb); clear HB; have HB := n0_; clear n0_; (try clear hb); (try clear hb2); (try clear hk); (try clear hi)))
        go_ret
        exact ⟨by first | rfl | (simp [errW_none, errW_some] <;> rfl) | (simp [*, errW_none, errW_some] <;> rfl), by repeat (first | (with_reducible first | exact HB.out | apply below_alloc | apply pw_below_drewN | apply below_drew1) | exact HB.out)⟩
 ·replace c5 := Bool.eq_false_iff.mpr c5
  subst c5
  have H1 : ((jobshelllaw29_awake.f).bind fun t354 => (some t354)) = some r := by rw [if_neg (show ¬ (false = true) by decide)] at H; exact H
  clear H
  have H := H1
  clear H1
  replace H := Option.bind_eq_some_iff.mp H
  obtain ⟨t354, A920, H⟩ := H
  replace H : (some t354) = some r := H
  have A92 := Aside0.mk A920
  clear A920
  obtain rfl := Option.some.inj H
  go_enter Tryd.func7, Tryd.ntmps7
  go_wp2_with (first | ((with_reducible refine gate_dst (N := 21) rfl ?_); refine Kd.R_lit Kd.string _ 9 ?hg (N := 21) ?hd (xs := ([a2] : List ByteArray)) (inner := [.string a2]) (ok := fun _ => True) (okp := fun _ => True) ?hr ?hp (fun _ hk => hk) trivial (Below.refl _ _) (Nat.le_refl _) (by simp) ?_; (case hd => rfl); (case hg => rfl); (case hr => first | (go_simp; done) | (go_simp; rfl)); (case hp => exact (Reps.one (show Kd.M Kd.string _ _ _ a2 [.string a2] from rfl) (Reps.none _ _))); intro v351 w93 ho94 hb hg_ hnew_; clear hg_ hnew_; (first | rw [← Ny350.out] at ho94 | (simp only [Int.reduceToNat] at ho94; rw [← Ny350.out] at ho94)); have n0_ := Aside0.mk (Kd.R_lower ho94 (below_size (by repeat (first | (with_reducible first | exact HB.out | apply below_alloc | apply pw_below_drewN | apply below_drew1) | exact HB.out)))); have n1_ := Aside0.mk (below_step (by repeat (first | (with_reducible first | exact HB.out | apply below_alloc | apply pw_below_drewN | apply below_drew1) | exact HB.out)) hb); clear HB; have HO352 := n0_; have HB := n1_; clear n0_ n1_; clear hb ho94; obtain ⟨Ao95, co95, eo95⟩ := Kd.R_slice HO352.out; subst eo95) | ((with_reducible refine gate_callee (f := 8) rfl ?_); refine goesL_ (some 24) rfl rfl Tryd.func8 (by kernel_rfl) rfl #[.slice Ao95 y350.length co95, .slice A0 l0.length c0, .string a1] rfl (by (try simp only [List.map_toArray, List.map_cons, List.map_nil]); first | done | rfl | (simp only [List.length_drop, List.length_take]; rfl)) ?_; (with_reducible refine (jobshelllaw29_small.calls k _ _ y350 _ _ l0 a1 false _ ?side1 ?side2 ?side3 ?side4 A4.out).mono ?_); (case side1 => repeat (first | exact (Kd.R_reads' HO352.out).2.2 | (with_reducible refine Kd.C_alloc ?_ _) | (with_reducible refine Kd.C_drewN ?_ _) | (with_reducible refine Kd.C_drew ?_))); (case side2 => exact (Kd.R_reads' HO352.out).2.1); (case side3 => repeat (first | exact (Kd.C_below HR0.out HB.out) | (with_reducible refine Kd.C_alloc ?_ _) | (with_reducible refine Kd.C_drewN ?_ _) | (with_reducible refine Kd.C_drew ?_))); (case side4 => exact HC0.out); rintro e w96 ⟨rfl, hb⟩; refine ⟨_, rfl, ?_⟩; have n0_ := Aside0.mk (Kd.R_below (by (with_reducible repeat (first | apply Kd.R_alloc | apply Kd.R_drewN | apply Kd.R_drew)); exact HO352.out) hb); have n1_ := Aside0.mk (below_step (by repeat (first | (with_reducible first | exact HB.out | apply below_alloc | apply pw_below_drewN | apply below_drew1) | exact HB.out)) hb); clear HO352; clear HB; have HO352 := n0_; have HB := n1_; clear n0_ n1_; (try clear hb); (try clear hb2); (try clear hk); (try clear hi)) | ((with_reducible refine gate_callee (f := 9) rfl ?_); refine goesL_ (some 26) rfl rfl Tryd.func9 (by kernel_rfl) rfl #[] rfl (by (try simp only [List.map_toArray, List.map_cons, List.map_nil]); first | done | rfl | (simp only [List.length_drop, List.length_take]; rfl)) ?_; (with_reducible refine (jobshelllaw29_awake.calls  t354 _ ?side1 A92.out).mono ?_); (case side1 => repeat (first | exact (AmbC_below HAMB.out HB.out) | (with_reducible refine AmbC_alloc ?_ _) | (with_reducible refine AmbC_drewN ?_ _) | (with_reducible refine AmbC_drew ?_))); rintro e w97 ⟨rfl, hb⟩; refine ⟨_, rfl, ?_⟩; have n0_ := Aside0.mk (Kd.R_below (by (with_reducible repeat (first | apply Kd.R_alloc | apply Kd.R_drewN | apply Kd.R_drew)); exact HO352.out) hb); have n1_ := Aside0.mk (below_step (by repeat (first | (with_reducible first | exact HB.out | apply below_alloc | apply pw_below_drewN | apply below_drew1) | exact HB.out)) hb); clear HO352; clear HB; have HO352 := n0_; have HB := n1_; clear n0_ n1_; (try clear hb); (try clear hb2); (try clear hk); (try clear hi)))
  go_ret
  exact ⟨by first | rfl | (simp [errW_none, errW_some] <;> rfl) | (simp [*, errW_none, errW_some] <;> rfl), by repeat (first | (with_reducible first | exact HB.out | apply below_alloc | apply pw_below_drewN | apply below_drew1) | exact HB.out)⟩
end Go.Proofs.YtoeiohfljaboaaaDoor.F
set_option linter.unusedVariables false
set_option linter.unusedSimpArgs false
namespace Go.Proofs.YtoeiohfljaboaaaDoor.Pure
open Go.RowKit Go.Proofs.YtoeiohfljaboaaaDoor.F Go.Proofs.YtoeiohfljaboaaaDoorW.PrintWords
theorem fuel {k n : Nat} (h : n + 1 ≤ k) : ∃ j, k = j + 1 ∧ n ≤ j := ⟨k - 1, by omega, by omega⟩
theorem short_l0 (l : List ByteArray) (a1 a2 : Nat) (h1 : a1 < 1000) : ∀ (d n k : Nat), n ≤ l.length → n ≤ a1 + 1 → a1 + 1 - n = d → 2 * d + 2 ≤ k → (∀ i, i < n → (rdOf ByteArray.empty l (i : Nat)).size ≤ a2) →
    ∃ b, jobshellref03_Short.l0 k l (a1 : Int) (a2 : Int) (n : Int) = some b ∧ (b = true → l.length ≤ a1 ∧ ∀ i, i < l.length → (rdOf ByteArray.empty l (i : Nat)).size ≤ a2) := by
  intro d
  induction d with
  | zero =>
    intro n k hn hn2 hd hk hs
    obtain ⟨k, rfl, hk⟩ := fuel (k := k) (n := 0) (by omega)
    obtain ⟨k, rfl, hk⟩ := fuel (k := k) (n := 0) (by omega)
    rw [jobshellref03_Short.l0]
    refine ⟨false, ?_, fun h => by cases h⟩
    by_cases hl : (n : Int) < (l.length : Int)
    · rw [if_pos hl, decide_eq_false (by omega), jobshellref03_Short.j1, if_neg (by decide), decide_eq_false (by omega)]
    · rw [if_neg hl, jobshellref03_Short.j1, if_neg (by decide), decide_eq_false (by omega)]
  | succ d ih =>
    intro n k hn hn2 hd hk hs
    obtain ⟨k, rfl, hk⟩ := fuel (k := k) (n := 2 * d + 3) (by omega)
    obtain ⟨k, rfl, hk⟩ := fuel (k := k) (n := 0) (by omega)
    rw [jobshellref03_Short.l0]
    by_cases hl : (n : Int) < (l.length : Int)
    · rw [if_pos hl, decide_eq_true (by omega), jobshellref03_Short.j1, if_pos rfl, if_pos (by omega), if_pos hl]
      by_cases hz : ((rdOf ByteArray.empty l (n : Int)).size : Int) > (a2 : Int)
      · rw [if_pos hz]; exact ⟨false, rfl, fun h => by cases h⟩
      · rw [if_neg hz, wrap_succ (by omega)]
        refine ih (n + 1) k (by omega) (by omega) (by omega) (by omega) ?_
        intro i hi
        by_cases he : i = n
        · subst he; omega
        · exact hs i (by omega)
    · rw [if_neg hl, jobshellref03_Short.j1, if_neg (by decide)]
      refine ⟨_, rfl, fun h => ⟨by simpa using h, fun i hi => hs i (by omega)⟩⟩
theorem short_f (l : List ByteArray) (k : Nat) (hk : 100 ≤ k) : ∃ b, jobshellref03_Short.f k l 12 40 = some b ∧ (b = true → l.length ≤ 12 ∧ ∀ i, i < l.length → (rdOf ByteArray.empty l (i : Nat)).size ≤ 40) := by
  unfold jobshellref03_Short.f
  exact short_l0 l 12 40 (by decide) 13 0 k (by omega) (by omega) (by omega) (by omega) (fun i hi => absurd hi (by omega))
theorem small_l0 (l : List S_File) (hl : l.length ≤ 140) : ∀ (d n k : Nat) (c : Int), n ≤ l.length → l.length - n = d → 2 * d + 2 ≤ k → ∃ b, jobshellref19_Small.l0 k l c (n : Int) = some b := by
  intro d
  induction d with
  | zero =>
    intro n k c hn hd hk
    obtain ⟨k, rfl, hk⟩ := fuel (k := k) (n := 0) (by omega)
    obtain ⟨k, rfl, hk⟩ := fuel (k := k) (n := 0) (by omega)
    rw [jobshellref19_Small.l0, if_neg (by omega), jobshellref19_Small.j1, if_neg (by decide)]
    split <;> exact ⟨_, rfl⟩
  | succ d ih =>
    intro n k c hn hd hk
    obtain ⟨k, rfl, hk⟩ := fuel (k := k) (n := 2 * d + 3) (by omega)
    obtain ⟨k, rfl, hk⟩ := fuel (k := k) (n := 0) (by omega)
    rw [jobshellref19_Small.l0, if_pos (by omega), if_pos (by omega), jobshellref19_Small.j1]
    split
    · rw [if_pos (by omega), if_pos (by omega)]
      split
      · exact ⟨_, rfl⟩
      · split
        · exact ⟨_, rfl⟩
        · rw [wrap_succ (by omega)]
          exact ih (n + 1) k _ (by omega) (by omega) (by omega)
    · split <;> exact ⟨_, rfl⟩
theorem cut_l0 (s : ByteArray) (hs : s.size ≤ 1000) : ∀ (d n k m : Nat), n ≤ s.size → m ≤ s.size → s.size - n = d → d + 1 ≤ k → ∃ r : Nat, jobshellref19_cut.l0 k s (m : Int) (n : Int) = some (r : Int) ∧ r ≤ s.size := by
  intro d
  induction d with
  | zero =>
    intro n k m hn hm hd hk
    obtain ⟨k, rfl, hk⟩ := fuel (k := k) (n := 0) (by omega)
    rw [jobshellref19_cut.l0, if_neg (by omega)]
    exact ⟨m, rfl, hm⟩
  | succ d ih =>
    intro n k m hn hm hd hk
    obtain ⟨k, rfl, hk⟩ := fuel (k := k) (n := 0) (by omega)
    rw [jobshellref19_cut.l0, if_pos (by omega), if_pos (by omega)]
    rw [wrap_succ (by omega)]
    split
    · exact ih (n + 1) k n (by omega) (by omega) (by omega) (by omega)
    · exact ih (n + 1) k m (by omega) (by omega) (by omega) (by omega)
theorem Parent_f (s : ByteArray) (hs : s.size ≤ 1000) (k : Nat) (hk : 1001 ≤ k) : ∃ r, jobshellref19_Parent.f k s = some r := by
  unfold jobshellref19_Parent.f jobshellref19_cut.f
  obtain ⟨r, h, hr⟩ := cut_l0 s hs s.size 0 k 0 (by omega) (by omega) (by omega) (by omega)
  rw [show ((0 : Nat) : Int) = 0 from rfl] at h
  rw [h, Option.bind_some]
  split
  · exact ⟨_, rfl⟩
  · rw [if_pos (by omega), if_pos (by omega)]; exact ⟨_, rfl⟩
theorem name_l0 (s : ByteArray) (hs : s.size ≤ 1000) : ∀ (d n k : Nat), n ≤ s.size → s.size - n = d → d + 1 ≤ k → ∃ r, jobshellref19_name.l0 k s (n : Int) = some r := by
  intro d
  induction d with
  | zero =>
    intro n k hn hd hk
    obtain ⟨k, rfl, hk⟩ := fuel (k := k) (n := 0) (by omega)
    rw [jobshellref19_name.l0, if_neg (by omega)]
    exact ⟨_, rfl⟩
  | succ d ih =>
    intro n k hn hd hk
    obtain ⟨k, rfl, hk⟩ := fuel (k := k) (n := 0) (by omega)
    rw [jobshellref19_name.l0, if_pos (by omega), if_pos (by omega)]
    split
    · exact ⟨_, rfl⟩
    · split
      · exact ⟨_, rfl⟩
      · rw [wrap_succ (by omega)]
        exact ih (n + 1) k (by omega) (by omega) (by omega)
theorem name_f (s : ByteArray) (k : Nat) (hk : 40 ≤ k) : ∃ r, jobshellref19_name.f k s = some r := by
  obtain ⟨k, rfl, hk⟩ := fuel (k := k) (n := 0) (by omega)
  have j0 : ∀ b : Bool, s.size ≤ 32 → ∃ r, jobshellref19_name.j0 (k + 1) s b = some r := by
    intro b h
    rw [jobshellref19_name.j0]
    split
    · exact ⟨_, rfl⟩
    · exact name_l0 s (by omega) s.size 0 k (by omega) (by omega) (by omega)
  have jt : ∃ r, jobshellref19_name.j0 (k + 1) s true = some r := by
    rw [jobshellref19_name.j0, if_pos rfl]; exact ⟨_, rfl⟩
  unfold jobshellref19_name.f
  split
  · exact jt
  · split
    · exact jt
    · split
      · exact jt
      · exact j0 _ (by omega)
theorem parts_l0 (s : ByteArray) (hs : s.size ≤ 1000) : ∀ (d n k m : Nat) (xs : List ByteArray), n ≤ s.size → m ≤ n → xs.length ≤ n → s.size - n = d → d + 1 ≤ k → ∃ r, jobshellref19_parts.l0 k s xs (m : Int) (n : Int) = some r ∧ r.length ≤ s.size + 1 := by
  intro d
  induction d with
  | zero =>
    intro n k m xs hn hm hx hd hk
    obtain ⟨k, rfl, hk⟩ := fuel (k := k) (n := 0) (by omega)
    rw [jobshellref19_parts.l0, if_neg (by omega), if_pos (by omega), if_pos (by omega), if_pos (by omega)]
    exact ⟨_, rfl, by simp; omega⟩
  | succ d ih =>
    intro n k m xs hn hm hx hd hk
    obtain ⟨k, rfl, hk⟩ := fuel (k := k) (n := 0) (by omega)
    rw [jobshellref19_parts.l0, if_pos (by omega), if_pos (by omega)]
    rw [wrap_succ (by omega)]
    split
    · rw [if_pos (by omega), if_pos (by omega), if_pos (by omega), if_pos (by omega)]
      exact ih (n + 1) k (n + 1) _ (by omega) (by omega) (by simp; omega) (by omega) (by omega)
    · exact ih (n + 1) k m _ (by omega) (by omega) (by omega) (by omega) (by omega)
theorem IsPath_l0 (l : List ByteArray) (hl : l.length ≤ 1000) : ∀ (d n k : Nat), n ≤ l.length → l.length - n = d → d + 41 ≤ k → ∃ r, jobshellref19_IsPath.l0 k l (n : Int) = some r := by
  intro d
  induction d with
  | zero =>
    intro n k hn hd hk
    obtain ⟨k, rfl, hk⟩ := fuel (k := k) (n := 0) (by omega)
    rw [jobshellref19_IsPath.l0, if_neg (by omega)]
    exact ⟨_, rfl⟩
  | succ d ih =>
    intro n k hn hd hk
    obtain ⟨k, rfl, hk⟩ := fuel (k := k) (n := d + 41) (by omega)
    rw [jobshellref19_IsPath.l0, if_pos (by omega), if_pos (by omega)]
    obtain ⟨r, h⟩ := name_f (rdOf ByteArray.empty l (n : Int)) k (by omega)
    rw [h, Option.bind_some]
    split
    · rw [wrap_succ (by omega)]
      exact ih (n + 1) k (by omega) (by omega) (by omega)
    · exact ⟨_, rfl⟩
theorem IsPath_f (s : ByteArray) (k : Nat) (hk : 500 ≤ k) : ∃ r, jobshellref19_IsPath.f k s = some r ∧ (r = true → s.size ≤ 128) := by
  obtain ⟨k, rfl, hk⟩ := fuel (k := k) (n := 0) (by omega)
  have jt : ∃ r, jobshellref19_IsPath.j0 (k + 1) s true = some r ∧ (r = true → s.size ≤ 128) := by
    rw [jobshellref19_IsPath.j0, if_pos rfl]; exact ⟨_, rfl, fun h => by cases h⟩
  unfold jobshellref19_IsPath.f
  split
  · rename_i h
    rw [toL] at h
    exact ⟨_, rfl, fun _ => by rw [← size_data, h]; decide⟩
  · split
    · exact jt
    · split
      · exact jt
      · rw [if_pos (by omega)]
        rw [jobshellref19_IsPath.j0]
        split
        · exact ⟨_, rfl, fun h => by cases h⟩
        · rw [if_pos (by omega)]
          have hz : (s.extract 1 s.size).size ≤ 127 := by rw [ByteArray.size_extract]; omega
          obtain ⟨r, h, hr⟩ := parts_l0 (s.extract 1 s.size) (by omega) (s.extract 1 s.size).size 0 k 0 [] (by omega) (by omega) (by simp) (by omega) (by omega)
          unfold jobshellref19_parts.f
          rw [show ((0 : Nat) : Int) = 0 from rfl] at h
          rw [h, Option.bind_some]
          obtain ⟨r2, h2⟩ := IsPath_l0 r (by omega) r.length 0 k (by omega) (by omega) (by omega)
          exact ⟨r2, h2, fun _ => by omega⟩
theorem find_l0 (l : List S_File) (s : ByteArray) (hl : l.length ≤ 1000) : ∀ (d n k : Nat), n ≤ l.length → l.length - n = d → d + 1 ≤ k → ∃ r, jobshellref19_find.l0 k l s (n : Int) = some r := by
  intro d
  induction d with
  | zero =>
    intro n k hn hd hk
    obtain ⟨k, rfl, hk⟩ := fuel (k := k) (n := 0) (by omega)
    rw [jobshellref19_find.l0, if_neg (by omega)]
    exact ⟨_, rfl⟩
  | succ d ih =>
    intro n k hn hd hk
    obtain ⟨k, rfl, hk⟩ := fuel (k := k) (n := 0) (by omega)
    rw [jobshellref19_find.l0, if_pos (by omega), if_pos (by omega)]
    split
    · exact ⟨_, rfl⟩
    · rw [wrap_succ (by omega)]
      exact ih (n + 1) k (by omega) (by omega) (by omega)
theorem Above_f (a b : ByteArray) : ∃ r, jobshellref19_Above.f a b = some r := by
  unfold jobshellref19_Above.f
  split
  · exact ⟨_, rfl⟩
  · split
    · rw [if_pos (by omega), if_pos (by omega)]
      split
      · exact ⟨_, rfl⟩
      · exact ⟨_, rfl⟩
    · exact ⟨_, rfl⟩
theorem parent_l0 (l : List S_File) (s : ByteArray) (hl : l.length ≤ 1000) (hs : s.size ≤ 1000) : ∀ (d n k : Nat), n ≤ l.length → l.length - n = d → d + 1002 ≤ k → ∃ r, jobshellref19_parent.l0 k l s (n : Int) = some r := by
  intro d
  induction d with
  | zero =>
    intro n k hn hd hk
    obtain ⟨k, rfl, hk⟩ := fuel (k := k) (n := 1001) (by omega)
    rw [jobshellref19_parent.l0, if_neg (by omega)]
    obtain ⟨r, h⟩ := Parent_f s hs k (by omega)
    rw [h, Option.bind_some]
    unfold jobshellref19_find.f
    obtain ⟨r2, h2⟩ := find_l0 l r hl l.length 0 k (by omega) (by omega) (by omega)
    rw [show ((0 : Nat) : Int) = 0 from rfl] at h2
    rw [h2, Option.bind_some]
    split <;> exact ⟨_, rfl⟩
  | succ d ih =>
    intro n k hn hd hk
    obtain ⟨k, rfl, hk⟩ := fuel (k := k) (n := d + 1002) (by omega)
    rw [jobshellref19_parent.l0, if_pos (by omega), if_pos (by omega)]
    rw [wrap_succ (by omega)]
    have := ih (n + 1) k (by omega) (by omega) (by omega)
    split
    · exact this
    · obtain ⟨r, h⟩ := Above_f (rd_File l (n : Int)).f0 s
      rw [h, Option.bind_some]
      split
      · exact ⟨_, rfl⟩
      · exact this
theorem valid_l0 (l : List S_File) (hl : l.length ≤ 128) : ∀ (d n k : Nat), n ≤ l.length → l.length - n = d → 3 * d + 1500 ≤ k → ∃ r, jobshellref19_Valid.l0 k l (n : Int) = some r := by
  intro d
  induction d with
  | zero =>
    intro n k hn hd hk
    obtain ⟨k, rfl, hk⟩ := fuel (k := k) (n := 1001) (by omega)
    rw [jobshellref19_Valid.l0, if_neg (by omega)]
    exact ⟨_, rfl⟩
  | succ d ih =>
    intro n k hn hd hk
    obtain ⟨k, rfl, hk⟩ := fuel (k := k) (n := 3 * d + 1502) (by omega)
    rw [jobshellref19_Valid.l0, if_pos (by omega), if_pos (by omega)]
    obtain ⟨r, h, hr⟩ := IsPath_f (rd_File l (n : Int)).f0 k (by omega)
    rw [h, Option.bind_some]
    obtain ⟨k, rfl, hk⟩ := fuel (k := k) (n := 0) (by omega)
    obtain ⟨k, rfl, hk⟩ := fuel (k := k) (n := 0) (by omega)
    cases r with
    | false => rw [if_neg (by decide)]; exact ⟨_, rfl⟩
    | true =>
      rw [if_pos rfl]
      have hsz := hr rfl
      have ihn := ih (n + 1) k (by omega) (by omega) (by omega)
      have j3 : ∀ (b : Bool) c f, ∃ r, jobshellref19_Valid.j3 (k + 1) l (n : Int) b (rd_File l (n : Int)).f0 c f = some r := by
        intro b c f
        rw [jobshellref19_Valid.j3]
        split
        · exact ⟨_, rfl⟩
        · rw [wrap_succ (by omega)]
          split
          · rw [if_pos (by omega), if_pos (by omega)]
            have ht : (l.take ((n : Int)).toNat).length ≤ 1000 := by rw [List.length_take]; omega
            obtain ⟨r3, h3⟩ := parent_l0 (l.take ((n : Int)).toNat) (rd_File l (n : Int)).f0 ht (by omega) (l.take ((n : Int)).toNat).length 0 k (by omega) (by omega) (by rw [List.length_take]; omega)
            unfold jobshellref19_parent.f
            rw [show ((0 : Nat) : Int) = 0 from rfl] at h3
            rw [h3, Option.bind_some]
            split
            · exact ihn
            · exact ⟨_, rfl⟩
          · exact ihn
      have j2 : ∀ (b : Bool) c f, ∃ r, jobshellref19_Valid.j2 (k + 2) l (n : Int) b (rd_File l (n : Int)).f0 c f = some r := by
        intro b c f
        rw [jobshellref19_Valid.j2]
        split
        · exact ⟨_, rfl⟩
        · split
          · exact ⟨_, rfl⟩
          · split
            · rw [wrap_id (i := (n : Int) - 1) (by omega) (by omega), if_pos (by omega), if_pos (by omega)]
              exact j3 _ _ _
            · exact j3 _ _ _
      split
      · split
        · split
          · exact j2 _ _ _
          · exact j2 _ _ _
        · exact j2 _ _ _
      · split
        · exact j2 _ _ _
        · exact j2 _ _ _
theorem valid_f (l : List S_File) (k : Nat) (hk : 1900 ≤ k) : ∃ r, jobshellref19_Valid.f k l = some r := by
  obtain ⟨k, rfl, hk⟩ := fuel (k := k) (n := 0) (by omega)
  unfold jobshellref19_Valid.f
  split
  · exact ⟨_, rfl⟩
  · have j0 : ∀ b, ∃ r, jobshellref19_Valid.j0 (k + 1) l b = some r := by
      intro b
      rw [jobshellref19_Valid.j0]
      split
      · exact ⟨_, rfl⟩
      · exact valid_l0 l (by omega) l.length 0 k (by omega) (by omega) (by omega)
    split
    · exact j0 _
    · rw [if_pos (by omega)]; exact j0 _
theorem guard_f (args : List ByteArray) (l : List S_File) (cwd : ByteArray) (k : Nat) (hk : 1900 ≤ k) : ∃ b, jobshelllaw29_small.f k args l cwd = some b ∧
    (b = true → args.length ≤ 12 ∧ (∀ i, i < args.length → (rdOf ByteArray.empty args (i : Nat)).size ≤ 40) ∧ l.length ≤ 40 ∧ jobshellref19_Valid.f k l = some 0 ∧ cwd.size ≤ 200) := by
  unfold jobshelllaw29_small.f
  obtain ⟨b1, h1, hb1⟩ := short_f args k (by omega)
  rw [h1, Option.bind_some]
  cases b1 with
  | false => rw [if_neg (by decide)]; exact ⟨_, rfl, fun h => by cases h⟩
  | true =>
    rw [if_pos rfl]
    by_cases hl : (l.length : Int) ≤ 40
    · rw [if_pos hl]
      unfold jobshellref19_Small.f
      obtain ⟨b2, h2⟩ := small_l0 l (by omega) l.length 0 k 0 (by omega) (by omega) (by omega)
      rw [show ((0 : Nat) : Int) = 0 from rfl] at h2
      rw [h2, Option.bind_some]
      cases b2 with
      | false => rw [if_neg (by decide)]; exact ⟨_, rfl, fun h => by cases h⟩
      | true =>
        rw [if_pos rfl]
        obtain ⟨v, hv⟩ := valid_f l k hk
        rw [hv, Option.bind_some]
        by_cases h0 : v = 0
        · rw [if_pos h0]
          refine ⟨_, rfl, fun h => ⟨(hb1 rfl).1, (hb1 rfl).2, by omega, by rw [h0], ?_⟩⟩
          have := of_decide_eq_true h
          omega
        · rw [if_neg h0]; exact ⟨_, rfl, fun h => by cases h⟩
    · rw [if_neg hl]; exact ⟨_, rfl, fun h => by cases h⟩
end Go.Proofs.YtoeiohfljaboaaaDoor.Pure
set_option linter.unusedVariables false
set_option linter.unusedSimpArgs false
namespace Go.Proofs.YtoeiohfljaboaaaDoor.Pure
open Go.RowKit Go.Proofs.YtoeiohfljaboaaaDoor.F Go.Proofs.YtoeiohfljaboaaaDoorW.PrintWords
theorem split_f (s : ByteArray) (h : s.size ≤ 100000) : strings_Split.f s (⟨#[47]⟩ : ByteArray) = some (splitOf s ⟨#[47]⟩) ∧ (splitOf s ⟨#[47]⟩).length ≤ s.size + 1 := by
  have h1 : 1 ≤ (⟨#[47]⟩ : ByteArray).size := by decide
  have hc := Lib.countB_le (⟨#[47]⟩ : ByteArray) h1 s.size s (Nat.le_refl _)
  have hl : (splitOf s ⟨#[47]⟩).length = Lib.countB s ⟨#[47]⟩ + 1 := Lib.splitB_all _ h1 0 _ s rfl
  refine ⟨?_, by omega⟩
  unfold strings_Split.f
  rw [if_pos ⟨by omega, h1, hl, by omega⟩]
theorem isName_f (s : ByteArray) : ∃ r, files_isName.f s = some r ∧ (r = true → s.size ≤ 32) := by
  unfold files_isName.f
  split
  · exact ⟨_, rfl, fun h => by cases h⟩
  · split
    · unfold strings_ContainsAny.f
      rw [if_pos ⟨rfl, by omega⟩, Option.bind_some]
      split
      · exact ⟨_, rfl, fun h => by cases h⟩
      · split
        · exact ⟨_, rfl, fun h => by cases h⟩
        · exact ⟨_, rfl, fun _ => by omega⟩
    · exact ⟨_, rfl, fun h => by cases h⟩
theorem hasPrefix_f (s p : ByteArray) : ∃ r, strings_HasPrefix.f s p = some r := by
  unfold strings_HasPrefix.f stringslite_HasPrefix.f
  split
  · exact ⟨_, rfl⟩
  · exact ⟨_, rfl⟩
theorem isPath_l0 (l : List ByteArray) (hl : l.length ≤ 1000) : ∀ (d n k : Nat), n ≤ l.length → l.length - n = d → d + 1 ≤ k → ∃ r, files_isPath.l0 k l (l.length : Int) (n : Int) = some r := by
  intro d
  induction d with
  | zero =>
    intro n k hn hd hk
    obtain ⟨k, rfl, hk⟩ := fuel (k := k) (n := 0) (by omega)
    rw [files_isPath.l0, if_neg (by omega)]
    exact ⟨_, rfl⟩
  | succ d ih =>
    intro n k hn hd hk
    obtain ⟨k, rfl, hk⟩ := fuel (k := k) (n := 0) (by omega)
    rw [files_isPath.l0, if_pos (by omega), if_pos (by omega), if_pos (by omega)]
    obtain ⟨r, h, hr⟩ := isName_f (rdOf ByteArray.empty l (n : Int))
    rw [h, Option.bind_some]
    split
    · rw [wrap_succ (by omega)]
      exact ih (n + 1) k (by omega) (by omega) (by omega)
    · exact ⟨_, rfl⟩
theorem isPath_f (s : ByteArray) (k : Nat) (hk : 200 ≤ k) : ∃ r, files_isPath.f k s = some r ∧ (r = true → s.size ≤ 128) := by
  obtain ⟨k, rfl, hk⟩ := fuel (k := k) (n := 199) (by omega)
  unfold files_isPath.f
  split
  · rename_i h
    rw [toL] at h
    exact ⟨_, rfl, fun _ => by rw [← size_data, h]; decide⟩
  · split
    · rw [files_isPath.j0, if_pos rfl]; exact ⟨_, rfl, fun h => by cases h⟩
    · rw [prefix_one, Option.bind_some, files_isPath.j0]
      split
      · exact ⟨_, rfl, fun h => by cases h⟩
      · rename_i hp
        have hp2 : s.data.toList.head? = some 47 := by simpa using hp
        have : s.data.toList ≠ [] := by intro e; rw [e] at hp2; cases hp2
        have hz : s.size ≠ 0 := by intro e; exact this (List.length_eq_zero_iff.1 (by rw [size_data]; exact e))
        rw [if_pos (by omega)]
        have hz2 : (s.extract 1 s.size).size ≤ 127 := by rw [ByteArray.size_extract]; omega
        obtain ⟨h1, h2⟩ := split_f (s.extract 1 s.size) (by omega)
        rw [h1, Option.bind_some]
        obtain ⟨r, hr⟩ := isPath_l0 (splitOf (s.extract 1 s.size) ⟨#[47]⟩) (by omega) _ 0 k (by omega) rfl (by omega)
        rw [show ((0 : Nat) : Int) = 0 from rfl] at hr
        exact ⟨r, hr, fun _ => by omega⟩
theorem parent_f (s : ByteArray) (h : s.size ≤ 1000000) : ∃ r, files_parent.f s = some r ∧ r.size ≤ s.size + 1 := by
  unfold files_parent.f strings_LastIndexByte.f
  rw [if_pos (by omega), Option.bind_some]
  split
  · rename_i hp
    rcases Lib.lastIndexByte_spec s 47 with ⟨e, -⟩ | ⟨i, hi, e, -⟩
    · omega
    · rw [e] at hp ⊢
      rw [if_pos (by omega), if_pos (by omega)]
      refine ⟨_, rfl, ?_⟩
      rw [ByteArray.size_extract]; omega
  · exact ⟨_, rfl, Nat.le_add_left 1 _⟩
theorem trim_f (s : ByteArray) (h : s.size ≤ 1000000) : ∃ r, strings_TrimSuffix.f s (⟨#[47]⟩ : ByteArray) = some r ∧ r.size ≤ s.size := by
  unfold strings_TrimSuffix.f
  rw [if_pos (by omega)]
  refine ⟨_, rfl, ?_⟩
  have := Lib.trimSuffix_le s.data.toList (⟨#[47]⟩ : ByteArray).data.toList
  rw [size_data] at this
  exact this
theorem clean_l0 (l : List ByteArray) (hl : l.length ≤ 1000) : ∀ (d n k : Nat) (at_ : ByteArray), n ≤ l.length → l.length - n = d → 2 * d + 1 ≤ k → at_.size ≤ 1000 + 34 * n → ∃ r, files_Clean.l0 k at_ l (l.length : Int) (n : Int) = some r := by
  intro d
  induction d with
  | zero =>
    intro n k at_ hn hd hk ha
    obtain ⟨k, rfl, hk⟩ := fuel (k := k) (n := 0) (by omega)
    rw [files_Clean.l0, if_neg (by omega)]
    split <;> exact ⟨_, rfl⟩
  | succ d ih =>
    intro n k at_ hn hd hk ha
    obtain ⟨k, rfl, hk⟩ := fuel (k := k) (n := 0) (by omega)
    obtain ⟨k, rfl, hk⟩ := fuel (k := k) (n := 0) (by omega)
    rw [files_Clean.l0, if_pos (by omega), if_pos (by omega), if_pos (by omega)]
    have j2 : ∀ b, ∃ r, files_Clean.j2 (k + 1) at_ (rdOf ByteArray.empty l (n : Int)) l (l.length : Int) (n : Int) b = some r := by
      intro b
      rw [files_Clean.j2, wrap_succ (by omega)]
      split
      · exact ih (n + 1) k at_ (by omega) (by omega) (by omega) (by omega)
      · split
        · obtain ⟨p, hp, hps⟩ := parent_f at_ (by omega)
          rw [hp, Option.bind_some]
          exact ih (n + 1) k p (by omega) (by omega) (by omega) (by omega)
        · obtain ⟨r, h, hr⟩ := isName_f (rdOf ByteArray.empty l (n : Int))
          rw [h, Option.bind_some]
          split
          · rename_i hrt
            have hr2 := hr hrt
            obtain ⟨t, ht, hts⟩ := trim_f at_ (by omega)
            have s1 : (t ++ (⟨#[47]⟩ : ByteArray)).size = t.size + 1 := by rw [ByteArray.size_append]; rfl
            rw [ht, Option.bind_some, if_pos (by omega), if_pos (by omega)]
            exact ih (n + 1) k _ (by omega) (by omega) (by omega) (by rw [ByteArray.size_append]; omega)
          · exact ⟨_, rfl⟩
    split
    · exact j2 _
    · exact j2 _
theorem clean_f (cwd s : ByteArray) (k : Nat) (hk : 1000 ≤ k) (hs : s.size ≤ 400) : ∃ r, files_Clean.f k cwd s = some r := by
  obtain ⟨k, rfl, hk⟩ := fuel (k := k) (n := 999) (by omega)
  unfold files_Clean.f
  obtain ⟨r, h, hr⟩ := isPath_f cwd (k + 1) (by omega)
  rw [h, Option.bind_some]
  have j0 : ∀ at_ : ByteArray, at_.size ≤ 1000 → ∃ r, files_Clean.j0 (k + 1) s at_ = some r := by
    intro at_ ha
    rw [files_Clean.j0]
    obtain ⟨h1, h2⟩ := split_f s (by omega)
    rw [h1, Option.bind_some]
    exact clean_l0 _ (by omega) _ 0 k at_ (by omega) rfl (by omega) (by omega)
  split
  · rename_i hrt
    have hr2 := hr hrt
    split
    · exact ⟨_, rfl⟩
    · rename_i hne
      rw [toL] at hne
      have hz : s.size ≠ 0 := by intro e; exact hne (List.length_eq_zero_iff.1 (by rw [size_data]; exact e))
      rw [if_pos (by omega)]
      split
      · exact j0 _ (by decide)
      · exact j0 _ (by omega)
  · exact ⟨_, rfl⟩
theorem idxF_bound (p : ByteArray) : ∀ (l : List S_File) (i : Int), idxF p l i = -1 ∨ (i ≤ idxF p l i ∧ idxF p l i < i + l.length)
  | [], i => Or.inl rfl
  | v :: r, i => by
    unfold idxF
    split
    · right; simp; omega
    · rcases idxF_bound p r (i + 1) with h | h
      · exact Or.inl h
      · right; simp only [List.length_cons]; omega
theorem find_f (l : List S_File) (p : ByteArray) (hl : l.length ≤ 1000000) : ∃ r, files_Find.f l p = some r := by
  unfold files_Find.f files_index.f
  rw [if_pos (by omega), Option.bind_some]
  have := idxF_bound p l 0
  split
  · rw [if_pos (by omega)]; exact ⟨_, rfl⟩
  · exact ⟨_, rfl⟩
theorem tOne_f (fs : List S_File) (cwd op s : ByteArray) (k : Nat) (hk : 1000 ≤ k) (hs : s.size ≤ 400) (hl : fs.length ≤ 1000000) : ∃ r, tOne k fs cwd op s = some r := by
  unfold tOne
  split
  · exact ⟨_, rfl⟩
  · split
    · exact ⟨_, rfl⟩
    · obtain ⟨p, hp⟩ := clean_f cwd s k hk hs
      rw [hp, Option.bind_some]
      split
      · obtain ⟨q, hq⟩ := find_f fs p.1 hl
        rw [hq, Option.bind_some]
        repeat' split
        all_goals exact ⟨_, rfl⟩
      · exact ⟨_, rfl⟩
theorem tTwo_f (a op b : ByteArray) (bd : Bool) (k : Nat) (hk : 220 ≤ k) (ha : a.size ≤ 100) (hb : b.size ≤ 100) : ∃ r, tTwo k a op b bd = some r := by
  unfold tTwo
  split
  · exact ⟨_, rfl⟩
  · rw [int_eq a ha (k := k) hk, int_eq b hb (k := k) hk, Option.bind_some, Option.bind_some]
    split <;> exact ⟨_, rfl⟩
end Go.Proofs.YtoeiohfljaboaaaDoor.Pure
set_option linter.unusedVariables false
set_option linter.unusedSimpArgs false
namespace Go.Proofs.YtoeiohfljaboaaaDoor.Pure
open Go.RowKit Go.Proofs.YtoeiohfljaboaaaDoor.F Go.Proofs.YtoeiohfljaboaaaDoorW.PrintWords
def sp : List UInt8 → List (List UInt8)
  | [] => [[]]
  | c :: r => if c = 47 then [] :: sp r else match sp r with | h :: t => (c :: h) :: t | [] => [[c]]
theorem sp_ne : ∀ l, sp l ≠ []
  | [] => by simp [sp]
  | c :: r => by
    unfold sp
    split
    · simp
    · split <;> simp
theorem sp_cons (c : UInt8) (r : List UInt8) (h : c ≠ 47) : ∃ a t, sp r = a :: t ∧ sp (c :: r) = (c :: a) :: t := by
  cases e : sp r with
  | nil => exact absurd e (sp_ne r)
  | cons a t => exact ⟨a, t, rfl, by rw [sp, if_neg h, e]⟩
theorem sp_slash (r : List UInt8) : sp (47 :: r) = [] :: sp r := by rw [sp, if_pos rfl]
theorem splitK_sp : ∀ l : List UInt8, Lib.splitK [47] 0 (Lib.count l [47]) l = sp l
  | [] => by rw [Lib.count_miss (by simp [Lib.index])]; rfl
  | c :: r => by
    have ih := splitK_sp r
    by_cases h : c = 47
    · subst h
      rw [Lib.count_cons_eq, Nat.add_comm, Lib.splitK]
      have hix : Lib.index (47 :: r) [47] = 0 := by rw [Lib.index]; simp [List.isPrefixOf]
      rw [hix, if_neg (by decide), sp_slash, ← ih]
      rfl
    · obtain ⟨a, t, e1, e2⟩ := sp_cons c r h
      rw [Lib.count_cons_ne c 47 r h, e2]
      rw [e1] at ih
      have hix : Lib.index (c :: r) [47] = if Lib.index r [47] == -1 then -1 else Lib.index r [47] + 1 := by
        rw [Lib.index]
        have hp : ([47] : List UInt8).isPrefixOf (c :: r) = false := by simp [List.isPrefixOf, Ne.symm h]
        rw [hp]; simp
      cases hn : Lib.count r [47] with
      | zero =>
        rw [hn] at ih
        rw [Lib.splitK] at ih ⊢
        cases ih; rfl
      | succ n =>
        rw [hn] at ih
        have hne : Lib.index r [47] ≠ -1 := fun e => by rw [Lib.count_miss e] at hn; cases hn
        have hge := Lib.index_ge r [47]
        obtain ⟨j, hj⟩ : ∃ j : Nat, Lib.index r [47] = j := ⟨(Lib.index r [47]).toNat, by omega⟩
        rw [Lib.splitK] at ih ⊢
        rw [hj] at ih
        rw [hix, hj]
        have hb : (((j : Nat) : Int) == -1) = false := beq_eq_false_iff_ne.2 (by omega)
        rw [hb] at ih ⊢
        rw [if_neg (by decide)] at ih
        have hb2 : (((j : Nat) : Int) + 1 == -1) = false := beq_eq_false_iff_ne.2 (by omega)
        rw [if_neg (show ¬ false = true by decide), hb2, if_neg (by decide)]
        rw [show ((j : Int)).toNat = j from rfl] at ih
        rw [show ((j : Int) + 1).toNat = j + 1 by omega]
        have e3 := List.cons.inj ih
        rw [← e3.1, ← e3.2]
        simp only [Nat.add_zero, List.take_succ_cons, List.length_cons, List.length_nil]
        rw [show j + 1 + (0 + 1) = (j + (0 + 1)) + 1 by omega, List.drop_succ_cons]
theorem map_ba (L : List ByteArray) (M : List (List UInt8)) (h : L.map (·.data.toList) = M) : L = M.map ba := by
  subst h
  rw [List.map_map]
  conv => lhs; rw [← List.map_id L]
  refine List.map_congr_left fun x _ => ?_
  simp [ba_of]
theorem split_sp (s : ByteArray) (h : s.size ≤ 100000) : strings_Split.f s (⟨#[47]⟩ : ByteArray) = some ((sp s.data.toList).map ba) := by
  rw [(split_f s h).1]
  congr 1
  refine map_ba _ _ ?_
  unfold splitOf
  rw [Lib.splitB_data]
  exact splitK_sp _
def glue (a : List UInt8) : List (List UInt8) → List (List UInt8)
  | h :: t => (a ++ h) :: t
  | [] => [a]
theorem parts_sp (s : ByteArray) (hs : s.size ≤ 1000) : ∀ (d n k m : Nat) (xs : List ByteArray), n ≤ s.size → m ≤ n → xs.length ≤ n → s.size - n = d → d + 1 ≤ k →
    jobshellref19_parts.l0 k s xs (m : Int) (n : Int) = some (xs ++ (glue ((s.data.toList.take n).drop m) (sp (s.data.toList.drop n))).map ba) := by
  intro d
  induction d with
  | zero =>
    intro n k m xs hn hm hx hd hk
    obtain ⟨k, rfl, hk⟩ := fuel (k := k) (n := 0) (by omega)
    rw [jobshellref19_parts.l0, if_neg (by omega), if_pos (by omega), if_pos (by omega), if_pos (by omega)]
    have he : n = s.size := by omega
    subst he
    have hz : s.data.toList.drop s.size = [] := List.drop_eq_nil_of_le (by rw [size_data]; exact Nat.le_refl _)
    rw [hz, extract_ba]
    simp only [sp, glue, List.append_nil]
    rfl
  | succ d ih =>
    intro n k m xs hn hm hx hd hk
    obtain ⟨k, rfl, hk⟩ := fuel (k := k) (n := 0) (by omega)
    rw [jobshellref19_parts.l0, if_pos (by omega), if_pos (by omega)]
    rw [wrap_succ (by omega)]
    obtain ⟨c, hc, hb⟩ := bt_drop s n (by omega)
    have hlen : n < s.data.toList.length := by rw [size_data]; omega
    have hget : s.data.toList[n]'hlen = c := by
      have := List.drop_eq_getElem_cons hlen
      rw [hc] at this
      exact (List.cons.inj this).1.symm
    have htake : s.data.toList.take (n + 1) = s.data.toList.take n ++ [c] := by rw [← List.take_append_getElem hlen, hget]
    have hdrop : ∀ m, m ≤ n → (s.data.toList.take n ++ [c]).drop m = (s.data.toList.take n).drop m ++ [c] := fun m hm => by
      rw [List.drop_append_of_le_length (by rw [List.length_take]; omega)]
    rw [hb, hc]
    by_cases h47 : ((c.toNat : Int)) = 47
    · rw [if_pos h47, if_pos (by omega), if_pos (by omega), if_pos (by omega), if_pos (by omega)]
      have hc47 : c = 47 := (byte_eq c 47 47 rfl).1 h47
      subst hc47
      rw [ih (n + 1) k (n + 1) _ (by omega) (by omega) (by simp; omega) (by omega) (by omega)]
      rw [sp_slash, extract_ba]
      rw [List.drop_eq_nil_of_le (show (s.data.toList.take (n + 1)).length ≤ n + 1 by rw [List.length_take]; omega)]
      have hg : ∀ L, L ≠ [] → glue [] L = L := by intro L hL; cases L with | nil => exact absurd rfl hL | cons a t => rfl
      rw [hg _ (sp_ne _)]
      simp [glue]
    · rw [if_neg h47]
      have hne : c ≠ 47 := fun e => h47 ((byte_eq c 47 47 rfl).2 e)
      rw [ih (n + 1) k m _ (by omega) (by omega) (by omega) (by omega) (by omega)]
      obtain ⟨a, t, e1, e2⟩ := sp_cons c (s.data.toList.drop (n + 1)) hne
      rw [e1, e2, htake, hdrop m hm]
      simp [glue]
theorem parts_f (s : ByteArray) (hs : s.size ≤ 1000) (k : Nat) (hk : 1001 ≤ k) : jobshellref19_parts.f k s = some ((sp s.data.toList).map ba) := by
  unfold jobshellref19_parts.f
  have h := parts_sp s hs s.size 0 k 0 [] (by omega) (by omega) (by simp) (by omega) (by omega)
  rw [show ((0 : Nat) : Int) = 0 from rfl] at h
  rw [h]
  cases e : sp s.data.toList with
  | nil => exact absurd e (sp_ne _)
  | cons a t => simp [e, glue]
def nameP (l : List UInt8) : Bool := decide (1 ≤ l.length ∧ l.length ≤ 32 ∧ l ≠ [46] ∧ l ≠ [46, 46] ∧ 47 ∉ l ∧ 0 ∉ l)
theorem any_two : ∀ l : List UInt8, Lib.containsAny l [47, 0] = decide (47 ∈ l ∨ 0 ∈ l)
  | [] => by decide
  | c :: r => by
    have ih := any_two r
    have hge := Lib.indexAny_ge [47, 0] r
    unfold Lib.containsAny at ih ⊢
    rw [Lib.indexAny]
    by_cases hc : c = 47 ∨ c = 0
    · have : ([47, 0] : List UInt8).contains c = true := by rcases hc with rfl | rfl <;> rfl
      rw [if_pos this, decide_eq_true (by decide), decide_eq_true]
      rcases hc with rfl | rfl <;> simp
    · have : ([47, 0] : List UInt8).contains c = false := by
        simp only [not_or] at hc
        simp [hc.1, hc.2]
      rw [this, if_neg (by decide)]
      simp only [not_or] at hc
      have e : (47 ∈ c :: r ∨ 0 ∈ c :: r) ↔ (47 ∈ r ∨ 0 ∈ r) := by
        simp [Ne.symm hc.1, Ne.symm hc.2]
      rw [decide_eq_decide.2 e, ← ih]
      by_cases hm : Lib.indexAny r [47, 0] = -1
      · rw [if_pos (beq_iff_eq.2 hm), hm]
      · rw [if_neg (fun e => hm (beq_iff_eq.1 e)), decide_eq_decide]
        omega
theorem isName_p (s : ByteArray) : files_isName.f s = some (nameP s.data.toList) := by
  unfold files_isName.f nameP
  rw [toL]
  have hsz := size_data s
  by_cases h0 : s.data.toList = []
  · rw [if_pos h0, h0]; rfl
  · rw [if_neg h0]
    have h1 : 1 ≤ s.data.toList.length := by
      rcases Nat.eq_zero_or_pos s.data.toList.length with h | h
      · exact absurd (List.length_eq_zero_iff.1 h) h0
      · exact h
    by_cases h2 : (s.size : Int) ≤ 32
    · rw [if_pos h2]
      unfold strings_ContainsAny.f
      rw [if_pos ⟨rfl, by omega⟩, Option.bind_some, any_two]
      by_cases h3 : 47 ∈ s.data.toList ∨ 0 ∈ s.data.toList
      · rw [decide_eq_true h3, if_pos rfl, decide_eq_false]
        rintro ⟨-, -, -, -, a, b⟩
        rcases h3 with h | h
        · exact a h
        · exact b h
      · rw [decide_eq_false h3, if_neg (by decide)]
        simp only [not_or] at h3
        by_cases h4 : s.data.toList = [46]
        · rw [if_pos h4, decide_eq_false (fun h => h.2.2.1 h4)]
        · rw [if_neg h4]
          by_cases h5 : s.data.toList = [46, 46]
          · rw [decide_eq_false (fun h => h.2.2.2.1 h5), h5]; rfl
          · rw [decide_eq_true ⟨h1, by omega, h4, h5, h3.1, h3.2⟩]
            simp [bne, h5]
    · rw [if_neg h2, decide_eq_false (fun h => h2 (by omega))]
theorem name_p_l0 (s : ByteArray) (hs : s.size ≤ 1000) : ∀ (d n k : Nat), n ≤ s.size → s.size - n = d → d + 1 ≤ k → jobshellref19_name.l0 k s (n : Int) = some (decide (47 ∉ s.data.toList.drop n ∧ 0 ∉ s.data.toList.drop n)) := by
  intro d
  induction d with
  | zero =>
    intro n k hn hd hk
    obtain ⟨k, rfl, hk⟩ := fuel (k := k) (n := 0) (by omega)
    rw [jobshellref19_name.l0, if_neg (by omega), List.drop_eq_nil_of_le (by rw [size_data]; omega)]
    rfl
  | succ d ih =>
    intro n k hn hd hk
    obtain ⟨k, rfl, hk⟩ := fuel (k := k) (n := 0) (by omega)
    rw [jobshellref19_name.l0, if_pos (by omega), if_pos (by omega)]
    obtain ⟨c, hc, hb⟩ := bt_drop s n (by omega)
    rw [hb, hc]
    by_cases h47 : ((c.toNat : Int)) = 47
    · rw [if_pos h47]
      have hc47 : c = 47 := (byte_eq c 47 47 rfl).1 h47
      subst hc47
      rw [decide_eq_false (by simp)]
    · rw [if_neg h47]
      have hne : c ≠ 47 := fun e => h47 ((byte_eq c 47 47 rfl).2 e)
      by_cases h00 : ((c.toNat : Int)) = 0
      · rw [if_pos h00]
        have hc0 : c = 0 := (byte_eq c 0 0 rfl).1 h00
        subst hc0
        rw [decide_eq_false (by simp)]
      · rw [if_neg h00, wrap_succ (by omega), ih (n + 1) k (by omega) (by omega) (by omega)]
        have hne0 : c ≠ 0 := fun e => h00 ((byte_eq c 0 0 rfl).2 e)
        congr 1
        rw [decide_eq_decide]
        simp [Ne.symm hne, Ne.symm hne0]
theorem name_p (s : ByteArray) (k : Nat) (hk : 40 ≤ k) : jobshellref19_name.f k s = some (nameP s.data.toList) := by
  obtain ⟨k, rfl, hk⟩ := fuel (k := k) (n := 39) (by omega)
  have jt : jobshellref19_name.j0 (k + 1) s true = some false := by rw [jobshellref19_name.j0, if_pos rfl]
  unfold jobshellref19_name.f nameP
  have hsz := size_data s
  rw [toL]
  by_cases h1 : (s.size : Int) < 1
  · rw [if_pos h1, jt, decide_eq_false (fun h => by omega)]
  rw [if_neg h1]
  by_cases h2 : (s.size : Int) > 32
  · rw [if_pos h2, jt, decide_eq_false (fun h => by omega)]
  rw [if_neg h2]
  by_cases h4 : s.data.toList = [46]
  · rw [if_pos h4, jt, decide_eq_false (fun h => h.2.2.1 h4)]
  rw [if_neg h4]
  by_cases h5 : s.data.toList = [46, 46]
  · rw [h5, show (([46, 46] : List UInt8) == [46, 46]) = true from rfl, jt, decide_eq_false (fun h => h.2.2.2.1 rfl)]
  rw [show (s.data.toList == ([46, 46] : List UInt8)) = false from beq_eq_false_iff_ne.2 h5, jobshellref19_name.j0, if_neg (by decide)]
  have h := name_p_l0 s (by omega) s.size 0 k (by omega) (by omega) (by omega)
  rw [show ((0 : Nat) : Int) = 0 from rfl] at h
  rw [h, List.drop_zero]
  congr 1
  rw [decide_eq_decide]
  exact ⟨fun h => ⟨by omega, by omega, h4, h5, h.1, h.2⟩, fun h => h.2.2.2.2⟩
end Go.Proofs.YtoeiohfljaboaaaDoor.Pure
set_option linter.unusedVariables false
set_option linter.unusedSimpArgs false
namespace Go.Proofs.YtoeiohfljaboaaaDoor.Pure
open Go.RowKit Go.Proofs.YtoeiohfljaboaaaDoor.F Go.Proofs.YtoeiohfljaboaaaDoorW.PrintWords
theorem rdT_drop (l : List ByteArray) (k : Nat) (h : k < l.length) : l.drop k = rdOf ByteArray.empty l (k : Int) :: l.drop (k + 1) := by
  rw [List.drop_eq_getElem_cons h]
  congr 1
  unfold rdOf
  simp [List.getD, h]
theorem rdM_drop (M : List (List UInt8)) (k : Nat) (h : k < M.length) : ∃ c, M.drop k = c :: M.drop (k + 1) ∧ rdOf ByteArray.empty (M.map ba) (k : Int) = ba c := by
  refine ⟨M[k], List.drop_eq_getElem_cons h, ?_⟩
  unfold rdOf
  simp [List.getD, h]
def flat (ns : List (List UInt8)) : List UInt8 := ns.flatMap (47 :: ·)
theorem flat_cons (n : List UInt8) (ns : List (List UInt8)) : flat (n :: ns) = 47 :: (n ++ flat ns) := by simp [flat]
theorem flat_append (a b : List (List UInt8)) : flat (a ++ b) = flat a ++ flat b := by simp [flat]
theorem flat_one (n : List UInt8) : flat [n] = 47 :: n := by simp [flat]
theorem sp_flat : ∀ r, flat (sp r) = 47 :: r
  | [] => rfl
  | c :: r => by
    have ih := sp_flat r
    by_cases h : c = 47
    · subst h
      rw [sp_slash, flat_cons, ih]; rfl
    · obtain ⟨a, t, e1, e2⟩ := sp_cons c r h
      rw [e2, flat_cons]
      rw [e1, flat_cons] at ih
      have := (List.cons.inj ih).2
      simp [← this]
def pathOf (ns : List (List UInt8)) : List UInt8 := if ns = [] then [47] else flat ns
def okN (ns : List (List UInt8)) : Prop := ∀ n ∈ ns, n ≠ [] ∧ 47 ∉ n
theorem nameP_ok (c : List UInt8) (h : nameP c = true) : c ≠ [] ∧ 47 ∉ c ∧ c.length ≤ 32 ∧ c ≠ [46] ∧ c ≠ [46, 46] := by
  have := of_decide_eq_true h
  exact ⟨fun e => by rw [e] at this; exact absurd this.1 (by decide), this.2.2.2.2.1, this.2.1, this.2.2.1, this.2.2.2.1⟩
theorem pathOf_split (ns : List (List UInt8)) (h : okN ns) : ∃ F X, pathOf ns = F ++ 47 :: X ∧ 47 ∉ X ∧ (if F = [] then [47] else F) = pathOf ns.dropLast := by
  rcases List.eq_nil_or_concat ns with rfl | ⟨ms, n, rfl⟩
  · exact ⟨[], [], rfl, by simp, rfl⟩
  · refine ⟨flat ms, n, ?_, (h n (by simp)).2, ?_⟩
    · unfold pathOf
      rw [if_neg (by simp), List.concat_eq_append, flat_append, flat_one]
    · rw [List.concat_eq_append, List.dropLast_concat]
      unfold pathOf
      cases ms with
      | nil => rfl
      | cons a t => rw [if_neg (by simp [flat]), if_neg (by simp)]
theorem okN_dropLast (ns : List (List UInt8)) (h : okN ns) : okN ns.dropLast := fun n hn => h n (List.dropLast_subset ns hn)
theorem pathOf_pos (ns : List (List UInt8)) : 1 ≤ (pathOf ns).length := by
  unfold pathOf
  cases ns with
  | nil => decide
  | cons a t => rw [if_neg (by simp), flat_cons]; simp
theorem pathOf_drop (ns : List (List UInt8)) : (pathOf ns.dropLast).length ≤ (pathOf ns).length := by
  rcases List.eq_nil_or_concat ns with rfl | ⟨ms, n, rfl⟩
  · exact Nat.le_refl _
  · rw [List.concat_eq_append, List.dropLast_concat]
    unfold pathOf
    rw [if_neg (show ¬ ms ++ [n] = [] by simp), flat_append, flat_one]
    split
    · simp; omega
    · simp
theorem pathOf_push (ns : List (List UInt8)) (c : List UInt8) : pathOf (ns ++ [c]) = (if ns = [] then [] else pathOf ns) ++ 47 :: c := by
  unfold pathOf
  rw [if_neg (by simp), flat_append, flat_one]
  cases ns with
  | nil => rfl
  | cons a t => rw [if_neg (by simp), if_neg (by simp)]
theorem ba_get (L : List UInt8) (j : Nat) (h : j < L.length) : ((ba L).data[j]!) = L[j] := by simp [ba, h]
theorem last_ba (F X : List UInt8) (hX : 47 ∉ X) : Lib.lastIndexByte (ba (F ++ 47 :: X)) 47 = (F.length : Int) := by
  have hg : ∀ j (h : j < (F ++ 47 :: X).length), (((ba (F ++ 47 :: X)).data[j]!).toNat : Int) = (((F ++ 47 :: X)[j]'h).toNat : Int) := fun j h => by rw [ba_get _ j h]
  have hlen : F.length < (F ++ 47 :: X).length := by simp
  have h0 : (((ba (F ++ 47 :: X)).data[F.length]!).toNat : Int) = 47 := by rw [hg _ hlen]; simp
  have hs : (ba (F ++ 47 :: X)).size = (F ++ 47 :: X).length := rfl
  rcases Lib.lastIndexByte_spec (ba (F ++ 47 :: X)) 47 with ⟨-, e⟩ | ⟨i, hi, e, hc, hn⟩
  · exact absurd h0 (e F.length (by omega))
  · rw [e]
    rcases Nat.lt_trichotomy i F.length with h | h | h
    · exact absurd h0 (hn F.length h (by omega))
    · rw [h]
    · exfalso
      rw [hg i (by omega), List.getElem_append_right (by omega)] at hc
      obtain ⟨d, hd⟩ : ∃ d, i - F.length = d + 1 := ⟨i - F.length - 1, by omega⟩
      have hd2 : d < X.length := by
        have e2 : (F ++ 47 :: X).length = F.length + (X.length + 1) := by simp
        omega
      have hc2 : ((X[d]'hd2).toNat : Int) = 47 := by
        rw [← hc]; congr 2
        simp only [hd, List.getElem_cons_succ]
      have := (byte_eq (X[d]'hd2) 47 47 rfl).1 hc2
      exact hX (this ▸ List.getElem_mem hd2)
theorem parent_p (F X : List UInt8) (hX : 47 ∉ X) (hl : (F ++ 47 :: X).length ≤ 1000) : files_parent.f (ba (F ++ 47 :: X)) = some (ba (if F = [] then [47] else F)) := by
  unfold files_parent.f strings_LastIndexByte.f
  rw [ba_size, if_pos (by omega), Option.bind_some, last_ba F X hX]
  cases F with
  | nil => rfl
  | cons a t =>
    rw [if_pos (by simp <;> omega), if_pos (by omega), if_pos (by simp <;> omega), if_neg (by simp), extract_ba, ba_data]
    rw [show (((a :: t).length : Int)).toNat = (a :: t).length from rfl, List.drop_zero, List.take_left']
    rfl
theorem cut_none (s : ByteArray) (hs : s.size ≤ 1000) : ∀ (d n k : Nat) (m : Int), n ≤ s.size → s.size - n = d → d + 1 ≤ k → 47 ∉ s.data.toList.drop n → jobshellref19_cut.l0 k s m (n : Int) = some m := by
  intro d
  induction d with
  | zero =>
    intro n k m hn hd hk hx
    obtain ⟨k, rfl, hk⟩ := fuel (k := k) (n := 0) (by omega)
    rw [jobshellref19_cut.l0, if_neg (by omega)]
  | succ d ih =>
    intro n k m hn hd hk hx
    obtain ⟨k, rfl, hk⟩ := fuel (k := k) (n := 0) (by omega)
    obtain ⟨c, hc, hb⟩ := bt_drop s n (by omega)
    rw [hc] at hx
    have hne : ¬ ((c.toNat : Int)) = 47 := fun e => hx (by rw [(byte_eq c 47 47 rfl).1 e]; simp)
    rw [jobshellref19_cut.l0, if_pos (by omega), if_pos (by omega), hb, if_neg hne, wrap_succ (by omega)]
    exact ih (n + 1) k m (by omega) (by omega) (by omega) (fun e => hx (by simp [e]))
theorem cut_hit (s : ByteArray) (hs : s.size ≤ 1000) (X : List UInt8) (hX : 47 ∉ X) : ∀ (A : List UInt8) (n k : Nat) (m : Int), n ≤ s.size → s.size - n + 1 ≤ k → s.data.toList.drop n = A ++ 47 :: X → jobshellref19_cut.l0 k s m (n : Int) = some ((n + A.length : Nat) : Int) := by
  intro A
  induction A with
  | nil =>
    intro n k m hn hk hx
    have hlt : n < s.size := by
      rcases Nat.lt_or_ge n s.size with h | h
      · exact h
      · rw [List.drop_eq_nil_of_le (by rw [size_data]; exact h)] at hx; cases hx
    obtain ⟨k, rfl, hk⟩ := fuel (k := k) (n := 0) (by omega)
    obtain ⟨c, hc, hb⟩ := bt_drop s n hlt
    rw [hc] at hx
    have e := List.cons.inj hx
    have h47 : ((c.toNat : Int)) = 47 := by rw [e.1]; rfl
    rw [jobshellref19_cut.l0, if_pos (by omega), if_pos (by omega), hb, if_pos h47, wrap_succ (by omega)]
    rw [cut_none s hs (s.size - (n + 1)) (n + 1) k _ (by omega) rfl (by omega) (by rw [e.2]; exact hX)]
    rfl
  | cons a t ih =>
    intro n k m hn hk hx
    have hlt : n < s.size := by
      rcases Nat.lt_or_ge n s.size with h | h
      · exact h
      · rw [List.drop_eq_nil_of_le (by rw [size_data]; exact h)] at hx; cases hx
    obtain ⟨k, rfl, hk⟩ := fuel (k := k) (n := 0) (by omega)
    obtain ⟨c, hc, hb⟩ := bt_drop s n hlt
    rw [hc] at hx
    have e := List.cons.inj hx
    have := fun m => ih (n + 1) k m (by omega) (by omega) e.2
    rw [jobshellref19_cut.l0, if_pos (by omega), if_pos (by omega), wrap_succ (by omega), this, this]
    rw [show n + 1 + t.length = n + (a :: t).length by simp; omega]
    split <;> rfl
theorem Parent_p (F X : List UInt8) (hX : 47 ∉ X) (hl : (F ++ 47 :: X).length ≤ 1000) (k : Nat) (hk : 1001 ≤ k) : jobshellref19_Parent.f k (ba (F ++ 47 :: X)) = some (ba (if F = [] then [47] else F)) := by
  unfold jobshellref19_Parent.f jobshellref19_cut.f
  have h := cut_hit (ba (F ++ 47 :: X)) (by rw [ba_size]; exact hl) X hX F 0 k 0 (by omega) (by rw [ba_size]; omega) (by rw [ba_data]; rfl)
  rw [show ((0 : Nat) : Int) = 0 from rfl] at h
  rw [h, Option.bind_some, Nat.zero_add]
  cases F with
  | nil => rfl
  | cons a t =>
    rw [if_neg (by simp <;> omega), if_pos (by omega), if_pos (by rw [ba_size]; simp; omega), if_neg (by simp), extract_ba, ba_data]
    rw [show (((a :: t).length : Int)).toNat = (a :: t).length from rfl, List.drop_zero, List.take_left']
    rfl
theorem trim_p (ns : List (List UInt8)) (h : okN ns) (hl : (pathOf ns).length ≤ 1000) : strings_TrimSuffix.f (ba (pathOf ns)) (⟨#[47]⟩ : ByteArray) = some (ba (if ns = [] then [] else pathOf ns)) := by
  unfold strings_TrimSuffix.f
  rw [ba_size, if_pos (by omega), ba_data]
  congr 1
  show ba (Lib.trimSuffix (pathOf ns) [47]) = _
  congr 1
  rcases List.eq_nil_or_concat ns with rfl | ⟨ms, n, rfl⟩
  · decide
  · rw [List.concat_eq_append] at h ⊢
    rw [if_neg (by simp)]
    obtain ⟨h1, h2⟩ := h n (by simp)
    rcases List.eq_nil_or_concat n with rfl | ⟨b, c, rfl⟩
    · exact absurd rfl h1
    · have e : pathOf (ms ++ [b.concat c]) = (flat ms ++ 47 :: b) ++ [c] := by
        unfold pathOf
        rw [if_neg (by simp), flat_append, flat_one, List.concat_eq_append]; simp
      rw [e]
      have hc : c ≠ 47 := fun e => h2 (by rw [e]; simp)
      unfold Lib.trimSuffix
      rw [if_neg]
      intro hh
      have : ([47] : List UInt8) <:+ ((flat ms ++ 47 :: b) ++ [c]) := by simpa [Lib.hasSuffix] using hh
      have hx := List.suffix_iff_eq_drop.1 this
      simp at hx
      exact hc hx.symm
end Go.Proofs.YtoeiohfljaboaaaDoor.Pure
namespace Go.Proofs.YtoeiohfljaboaaaDoor.F
open Go.RowKit Go.Proofs.YtoeiohfljaboaaaDoorW.PrintWords Go.Proofs.YtoeiohfljaboaaaDoorW.PrintLast Go.Proofs.YtoeiohfljaboaaaDoorW.PrintMore
attribute [local go_sem] max2_int min2_int max_two min_two max_three min_three max_four min_four
set_option linter.unusedVariables false
set_option linter.unusedSimpArgs false
mutual
def jobshellref19_Clean.j0 : Nat → ByteArray → ByteArray → Option (ByteArray × Int)
 | 0, _, _ => none
 | k + 1, x1, x6 => (jobshellref19_parts.f k x1).bind fun t226 => (jobshellref19_Clean.l0 k x6 t226 0)
def jobshellref19_Clean.l0 : Nat → ByteArray → List ByteArray → Int → Option (ByteArray × Int)
 | 0, _, _, _ => none
 | k + 1, x6, x7, x8 => if x8 < (x7.length : Int) then (if 0 ≤ x8 then (if (rdOf ByteArray.empty x7 x8).toList = ([] : List UInt8) then (jobshellref19_Clean.j2 k x6 x7 x8 (rdOf ByteArray.empty x7 x8) true) else (jobshellref19_Clean.j2 k x6 x7 x8 (rdOf ByteArray.empty x7 x8) ((rdOf ByteArray.empty x7 x8).toList == ([46] : List UInt8)))) else (none)) else (if (x6.size : Int) > 128 then (some ((⟨#[]⟩ : ByteArray), 3)) else (some (x6, 0)))
def jobshellref19_Clean.j2 : Nat → ByteArray → List ByteArray → Int → ByteArray → Bool → Option (ByteArray × Int)
 | 0, _, _, _, _, _ => none
 | k + 1, x6, x7, x8, x9, x36 => if x36 = true then (jobshellref19_Clean.l0 k x6 x7 (wrap64 (x8 + 1))) else (if x9.toList = ([46, 46] : List UInt8) then ((jobshellref19_Parent.f k x6).bind fun t230 => (jobshellref19_Clean.l0 k t230 x7 (wrap64 (x8 + 1)))) else ((jobshellref19_name.f k x9).bind fun t231 => (if t231 = true then (if x6.toList = ([47] : List UInt8) then (if 0 + 1 ≤ 9223372036854775807 then (if 1 + x9.size ≤ 9223372036854775807 then (jobshellref19_Clean.l0 k (((⟨#[]⟩ : ByteArray) ++ (⟨#[47]⟩ : ByteArray)) ++ x9) x7 (wrap64 (x8 + 1))) else (none)) else (none)) else (if x6.size + 1 ≤ 9223372036854775807 then (if (x6 ++ (⟨#[47]⟩ : ByteArray)).size + x9.size ≤ 9223372036854775807 then (jobshellref19_Clean.l0 k ((x6 ++ (⟨#[47]⟩ : ByteArray)) ++ x9) x7 (wrap64 (x8 + 1))) else (none)) else (none))) else (some ((⟨#[]⟩ : ByteArray), 10)))))
end
def jobshellref19_Clean.f (k : Nat) (a0 : ByteArray) (a1 : ByteArray) : Option (ByteArray × Int) := (jobshellref19_IsPath.f k a0).bind fun t225 => (if t225 = true then (if a1.toList = ([] : List UInt8) then (some ((⟨#[]⟩ : ByteArray), 8)) else (if 0 < (a1.size : Int) then (if (bt a1 0) = 47 then (jobshellref19_Clean.j0 k a1 (⟨#[47]⟩ : ByteArray)) else (jobshellref19_Clean.j0 k a1 a0)) else (none))) else (some ((⟨#[]⟩ : ByteArray), 10)))
theorem jobshellref19_Clean.mono_l : ∀ k, (∀ y0 y1, LeO (jobshellref19_Clean.j0 k y0 y1) (jobshellref19_Clean.j0 (k + 1) y0 y1)) ∧ (∀ y0 y1 y2, LeO (jobshellref19_Clean.l0 k y0 y1 y2) (jobshellref19_Clean.l0 (k + 1) y0 y1 y2)) ∧ (∀ y0 y1 y2 y3 y4, LeO (jobshellref19_Clean.j2 k y0 y1 y2 y3 y4) (jobshellref19_Clean.j2 (k + 1) y0 y1 y2 y3 y4))
 | 0 => ⟨fun _ _ r h => by simp [jobshellref19_Clean.j0] at h, fun _ _ _ r h => by simp [jobshellref19_Clean.l0] at h, fun _ _ _ _ _ r h => by simp [jobshellref19_Clean.j2] at h⟩
 | k + 1 => by
  obtain ⟨ih0, ih1, ih2⟩ := jobshellref19_Clean.mono_l k
  refine ⟨?_, ?_, ?_⟩
  ·intro y0 y1
   unfold jobshellref19_Clean.j0
   repeat' first
   | (with_reducible exact ih0 _ _)
   | (with_reducible exact ih1 _ _ _)
   | (with_reducible exact ih2 _ _ _ _ _)
   | (with_reducible exact jobshellref19_IsPath.mono _ _)
   | (with_reducible exact jobshellref19_Parent.mono _ _)
   | (with_reducible exact jobshellref19_name.mono _ _)
   | (with_reducible exact jobshellref19_parts.mono _ _)
   | (with_reducible exact LeO.refl _)
   | (with_reducible exact LeO.none _)
   | (with_reducible refine LeO.ite ?_ ?_)
   | (with_reducible refine LeO.bind ?_ (fun _ => ?_))
   | exact ih0 _ _
   | exact ih1 _ _ _
   | exact ih2 _ _ _ _ _
   | exact jobshellref19_IsPath.mono _ _
   | exact jobshellref19_Parent.mono _ _
   | exact jobshellref19_name.mono _ _
   | exact jobshellref19_parts.mono _ _
   | exact LeO.none _
   | refine LeO.ite ?_ ?_
   | refine LeO.bind ?_ (fun _ => ?_)
  ·intro y0 y1 y2
   unfold jobshellref19_Clean.l0
   repeat' first
   | (with_reducible exact ih0 _ _)
   | (with_reducible exact ih1 _ _ _)
   | (with_reducible exact ih2 _ _ _ _ _)
   | (with_reducible exact jobshellref19_IsPath.mono _ _)
   | (with_reducible exact jobshellref19_Parent.mono _ _)
   | (with_reducible exact jobshellref19_name.mono _ _)
   | (with_reducible exact jobshellref19_parts.mono _ _)
   | (with_reducible exact LeO.refl _)
   | (with_reducible exact LeO.none _)
   | (with_reducible refine LeO.ite ?_ ?_)
   | (with_reducible refine LeO.bind ?_ (fun _ => ?_))
   | exact ih0 _ _
   | exact ih1 _ _ _
   | exact ih2 _ _ _ _ _
   | exact jobshellref19_IsPath.mono _ _
   | exact jobshellref19_Parent.mono _ _
   | exact jobshellref19_name.mono _ _
   | exact jobshellref19_parts.mono _ _
   | exact LeO.none _
   | refine LeO.ite ?_ ?_
   | refine LeO.bind ?_ (fun _ => ?_)
  ·intro y0 y1 y2 y3 y4
   unfold jobshellref19_Clean.j2
   repeat' first
   | (with_reducible exact ih0 _ _)
   | (with_reducible exact ih1 _ _ _)
   | (with_reducible exact ih2 _ _ _ _ _)
   | (with_reducible exact jobshellref19_IsPath.mono _ _)
   | (with_reducible exact jobshellref19_Parent.mono _ _)
   | (with_reducible exact jobshellref19_name.mono _ _)
   | (with_reducible exact jobshellref19_parts.mono _ _)
   | (with_reducible exact LeO.refl _)
   | (with_reducible exact LeO.none _)
   | (with_reducible refine LeO.ite ?_ ?_)
   | (with_reducible refine LeO.bind ?_ (fun _ => ?_))
   | exact ih0 _ _
   | exact ih1 _ _ _
   | exact ih2 _ _ _ _ _
   | exact jobshellref19_IsPath.mono _ _
   | exact jobshellref19_Parent.mono _ _
   | exact jobshellref19_name.mono _ _
   | exact jobshellref19_parts.mono _ _
   | exact LeO.none _
   | refine LeO.ite ?_ ?_
   | refine LeO.bind ?_ (fun _ => ?_)
theorem jobshellref19_Clean.mono : ∀ a0 a1 k, LeO (jobshellref19_Clean.f k a0 a1) (jobshellref19_Clean.f (k + 1) a0 a1) := by
 intro a0 a1 k
 obtain ⟨ih0, ih1, ih2⟩ := jobshellref19_Clean.mono_l k
 unfold jobshellref19_Clean.f
 repeat' first
   | (with_reducible exact ih0 _ _)
   | (with_reducible exact ih1 _ _ _)
   | (with_reducible exact ih2 _ _ _ _ _)
   | (with_reducible exact jobshellref19_IsPath.mono _ _)
   | (with_reducible exact jobshellref19_Parent.mono _ _)
   | (with_reducible exact jobshellref19_name.mono _ _)
   | (with_reducible exact jobshellref19_parts.mono _ _)
   | (with_reducible exact LeO.refl _)
   | (with_reducible exact LeO.none _)
   | (with_reducible refine LeO.ite ?_ ?_)
   | (with_reducible refine LeO.bind ?_ (fun _ => ?_))
   | exact ih0 _ _
   | exact ih1 _ _ _
   | exact ih2 _ _ _ _ _
   | exact jobshellref19_IsPath.mono _ _
   | exact jobshellref19_Parent.mono _ _
   | exact jobshellref19_name.mono _ _
   | exact jobshellref19_parts.mono _ _
   | exact LeO.none _
   | refine LeO.ite ?_ ?_
   | refine LeO.bind ?_ (fun _ => ?_)
set_option maxHeartbeats 8000000 in
set_option maxRecDepth 100000 in
theorem jobshellref19_Clean.calls (k : Nat) (a0 : ByteArray) (a1 : ByteArray) (r1 : ByteArray) (r2 : Int) (w : World) (h : jobshellref19_Clean.f k a0 a1 = some (r1, r2)) :
  Calls Tryd.prog 45 #[.string a0, .string a1] w fun e w' => e = .returned (.tuple #[.string r1, .int .i64 r2]) ∧ Below w.heap.size w w' := by
 have HB := Aside0.mk (Below.refl w.heap.size w)
 have H : ((jobshellref19_IsPath.f k a0).bind fun t225 => (if t225 = true then (if a1.toList = ([] : List UInt8) then (some ((⟨#[]⟩ : ByteArray), 8)) else (if 0 < (a1.size : Int) then (if (bt a1 0) = 47 then (jobshellref19_Clean.j0 k a1 (⟨#[47]⟩ : ByteArray)) else (jobshellref19_Clean.j0 k a1 a0)) else (none))) else (some ((⟨#[]⟩ : ByteArray), 10)))) = some (r1, r2) := h
 clear h
 replace H := Option.bind_eq_some_iff.mp H
 obtain ⟨t225, A30, H⟩ := H
 replace H : (if t225 = true then (if a1.toList = ([] : List UInt8) then (some ((⟨#[]⟩ : ByteArray), 8)) else (if 0 < (a1.size : Int) then (if (bt a1 0) = 47 then (jobshellref19_Clean.j0 k a1 (⟨#[47]⟩ : ByteArray)) else (jobshellref19_Clean.j0 k a1 a0)) else (none))) else (some ((⟨#[]⟩ : ByteArray), 10))) = some (r1, r2) := H
 have A3 := Aside0.mk A30
 clear A30
 by_cases c4 : t225 = true
 ·subst c4
  have H1 : (if a1.toList = ([] : List UInt8) then (some ((⟨#[]⟩ : ByteArray), 8)) else (if 0 < (a1.size : Int) then (if (bt a1 0) = 47 then (jobshellref19_Clean.j0 k a1 (⟨#[47]⟩ : ByteArray)) else (jobshellref19_Clean.j0 k a1 a0)) else (none))) = some (r1, r2) := by rw [if_pos rfl] at H; exact H
  clear H
  have H := H1
  clear H1
  by_cases c5 : a1.toList = ([] : List UInt8)
  ·rw [if_pos c5] at H
   have c5b0 : (a1.toList == ([] : List UInt8)) = true := beq_iff_eq.mpr c5
   have c5b1 : (a1.toList != ([] : List UInt8)) = false := bne_eq_false_iff_eq.mpr c5
   clear c5
   simp only [Option.some.injEq, Prod.mk.injEq] at H
   obtain ⟨rfl, rfl⟩ := H
   go_enter Tryd.func45, Tryd.ntmps45
   go_wp2_with (first | ((with_reducible refine gate_callee (f := 22) rfl ?_); refine goesL_ (some 11) rfl rfl Tryd.func22 (by kernel_rfl) rfl #[.string a0] rfl (by (try simp only [List.map_toArray, List.map_cons, List.map_nil]); first | done | rfl | (simp only [List.length_drop, List.length_take]; rfl)) ?_; (with_reducible refine (jobshellref19_IsPath.calls k a0 true _ A3.out).mono ?_); rintro e w6 ⟨rfl, hb⟩; refine ⟨_, rfl, ?_⟩; have n0_ := Aside0.mk (below_step (by repeat (first | (with_reducible first | exact HB.out | apply below_alloc | apply pw_below_drewN | apply below_drew1) | exact HB.out)) hb); clear HB; have HB := n0_; clear n0_; (try clear hb); (try clear hb2); (try clear hk); (try clear hi)))
   go_ret2
   exact ⟨by first | rfl | (simp [errW_none, errW_some] <;> rfl) | (simp [*, errW_none, errW_some] <;> rfl), by repeat (first | (with_reducible first | exact HB.out | apply below_alloc | apply pw_below_drewN | apply below_drew1) | exact HB.out)⟩
  ·rw [if_neg c5] at H
   have c5b0 : (a1.toList == ([] : List UInt8)) = false := beq_eq_false_iff_ne.mpr c5
   have c5b1 : (a1.toList != ([] : List UInt8)) = true := bne_iff_ne.mpr c5
   by_cases c7 : 0 < (a1.size : Int)
   ·rw [if_pos c7] at H
    have c7b0 : decide (0 < (a1.size : Int)) = true := decide_eq_true c7
    have c7b1 : decide (0 < a1.size) = true := decide_eq_true (by omega)
    clear c7
    have HC9 := Aside0.mk H
    clear H
    go_enter Tryd.func45, Tryd.ntmps45
    go_upto_if 18 with (first | ((with_reducible refine gate_callee (f := 22) rfl ?_); refine goesL_ (some 11) rfl rfl Tryd.func22 (by kernel_rfl) rfl #[.string a0] rfl (by (try simp only [List.map_toArray, List.map_cons, List.map_nil]); first | done | rfl | (simp only [List.length_drop, List.length_take]; rfl)) ?_; (with_reducible refine (jobshellref19_IsPath.calls k a0 true _ A3.out).mono ?_); rintro e w10 ⟨rfl, hb⟩; refine ⟨_, rfl, ?_⟩; have n0_ := Aside0.mk (below_step (by repeat (first | (with_reducible first | exact HB.out | apply below_alloc | apply pw_below_drewN | apply below_drew1) | exact HB.out)) hb); clear HB; have HB := n0_; clear n0_; (try clear hb); (try clear hb2); (try clear hk); (try clear hi); have p8 : 0 ≤ (0 : Int) := (by omega); have q8 : 0 < a1.size := (by have : (0 : Int) < (a1.size : Int) := of_decide_eq_true (by first | (with_reducible assumption) | assumption); omega); have hx8 : ∀ h : 0 < a1.size, ((a1[0]'h).toNat : Int) = bt a1 0 := bt_at a1 0; clear p8; have qi8 : (0 < (a1.size : Int)) = True := eq_true (of_decide_eq_true (by first | (with_reducible assumption) | assumption)); replace q8 := eq_true q8))
    (try simp only [Act.put, List.setIfInBounds_toArray, List.set_cons_zero, List.set_cons_succ])
    go_cut [6] (fun v6 wc => ∃ (kq : Nat) (x6_8 : ByteArray), v6 = .string x6_8 ∧ Aside0 (jobshellref19_Clean.j0 kq a1 x6_8 = some (r1, r2)) ∧ Aside0 (kq ≤ k) ∧ Aside0 (Below w.heap.size w wc))
    case first =>
     have H := HC9.out
     clear HC9
     by_cases c11 : (bt a1 0) = 47
     ·rw [if_pos c11] at H
      have c11b0 : ((bt a1 0) == 47) = true := beq_iff_eq.mpr c11
      have c11b1 : ((bt a1 0) != 47) = false := bne_eq_false_iff_eq.mpr c11
      clear c11
      (first | rw [c11b0] | (simp only [i64_w, i32_w]; rw [c11b0]) | skip)
      have H' := Aside0.mk H
      clear H
      go_wp2
      go_meet
      case rel => exact ⟨_, ((⟨#[47]⟩ : ByteArray)), (by first | rfl | (simp; done) | (simp [*]; done) | (simp [isE_ne]; done)), H', ⟨by first | omega | exact Nat.le_refl _⟩, ⟨by repeat (first | (with_reducible first | exact HB.out | apply below_alloc | apply pw_below_drewN | apply below_drew1) | exact HB.out)⟩⟩
     ·rw [if_neg c11] at H
      have c11b0 : ((bt a1 0) == 47) = false := beq_eq_false_iff_ne.mpr c11
      have c11b1 : ((bt a1 0) != 47) = true := bne_iff_ne.mpr c11
      (first | rw [c11b0] | (simp only [i64_w, i32_w]; rw [c11b0]) | skip)
      have H' := Aside0.mk H
      clear H
      go_wp2
      go_meet
      case rel => exact ⟨_, (a0), (by first | rfl | (simp; done) | (simp [*]; done) | (simp [isE_ne]; done)), H', ⟨by first | omega | exact Nat.le_refl _⟩, ⟨by repeat (first | (with_reducible first | exact HB.out | apply below_alloc | apply pw_below_drewN | apply below_drew1) | exact HB.out)⟩⟩
    case rest =>
     clear HC9
     try clear c1
     try clear c2
     try clear p2
     try clear c4
     try clear c5
     try clear c5b0
     try clear c5b1
     try clear c7
     try clear c7b0
     try clear c7b1
     try clear p8
     try clear q8
     try clear hx8
     try clear qi8
     try clear c11
     try clear c11b0
     try clear c11b1
     try clear p8
     try clear q8
     obtain ⟨kq, x6_8, rfl, HA, HJ8, HB⟩ := hcut
     cases kq with
     | zero => exact absurd HA.out (by simp [jobshellref19_Clean.j0])
     | succ kj8 =>
      have H := HA.out
      clear HA
      simp only [jobshellref19_Clean.j0] at H
      replace H := Option.bind_eq_some_iff.mp H
      obtain ⟨t226, A120, H⟩ := H
      replace H : (jobshellref19_Clean.l0 kj8 x6_8 t226 0) = some (r1, r2) := H
      have A12 := Aside0.mk A120
      clear A120
      have H' := Aside0.mk H
      clear H
      go_wp2_with (first | ((with_reducible refine gate_callee (f := 34) rfl ?_); refine goesL_ (some 20) rfl rfl Tryd.func34 (by kernel_rfl) rfl #[.string a1] rfl (by (try simp only [List.map_toArray, List.map_cons, List.map_nil]); first | done | rfl | (simp only [List.length_drop, List.length_take]; rfl)) ?_; (with_reducible refine (jobshellref19_parts.calls kj8 a1 t226 _ A12.out).mono ?_); rintro e w13 ⟨v227, rfl, ho0, hb⟩; refine ⟨_, rfl, ?_⟩; have n0_ := Aside0.mk (Kd.R_lower ho0 (below_size (by repeat (first | (with_reducible first | exact HB.out | apply below_alloc | apply pw_below_drewN | apply below_drew1) | exact HB.out)))); have n1_ := Aside0.mk (below_step (by repeat (first | (with_reducible first | exact HB.out | apply below_alloc | apply pw_below_drewN | apply below_drew1) | exact HB.out)) hb); clear HB; have HO228 := n0_; have HB := n1_; clear n0_ n1_; (try clear hb); (try clear hb2); (try clear hk); (try clear hi); (try clear ho0)))
      go_loopg [6, 8] kj8 (fun kq v6 v8 w' => ∃ (x6_2 : ByteArray) (x8_2 : Int), v6 = .string x6_2 ∧ v8 = .int .i64 x8_2 ∧ Aside0 (jobshellref19_Clean.l0 kq x6_2 t226 x8_2 = some (r1, r2)) ∧ Aside0 (kq ≤ kj8) ∧ Aside0 (Kd.R Kd.string 9 w' w.heap.size (fun _ => True) v227 t226) ∧ Aside0 (Below w.heap.size w w'))
      case atStart => exact ⟨(x6_8), (0), (by first | rfl | (simp; done) | (simp [*]; done) | (simp [isE_ne]; done)), (by first | rfl | (simp; done) | (simp [*]; done) | (simp [isE_ne]; done)), H', ⟨Nat.le_refl _⟩, ⟨by (with_reducible repeat (first | apply Kd.R_alloc | apply Kd.R_drewN | apply Kd.R_drew)); exact HO228.out⟩, ⟨by repeat (first | (with_reducible first | exact HB.out | apply below_alloc | apply pw_below_drewN | apply below_drew1) | exact HB.out)⟩⟩
      case round =>
       clear H'
       try clear c1
       try clear c2
       try clear p2
       try clear c3
       try clear c4
       try clear c5
       try clear c5b0
       try clear c5b1
       try clear c7
       try clear c7b0
       try clear c7b1
       try clear p8
       try clear q8
       try clear hx8
       try clear qi8
       try clear c11
       try clear c11b0
       try clear c11b1
       try clear p2
       try clear p8
       try clear q8
       obtain ⟨x6_2, x8_2, rfl, rfl, HA, HK2, HO_7, HB⟩ := hrel
       cases gk with
       | zero => exact absurd HA.out (by simp [jobshellref19_Clean.l0])
       | succ k2 =>
        have H := HA.out
        clear HA
        simp only [jobshellref19_Clean.l0] at H
        by_cases c14 : x8_2 < (t226.length : Int)
        ·rw [if_pos c14] at H
         have c14b0 : decide (x8_2 < (t226.length : Int)) = true := decide_eq_true c14
         clear c14
         by_cases c15 : 0 ≤ x8_2
         ·rw [if_pos c15] at H
          have c15b0 : decide (0 ≤ x8_2) = true := decide_eq_true c15
          clear c15
          have HC16 := Aside0.mk H
          clear H
          obtain ⟨Ao17, co17, eo17⟩ := Kd.R_slice HO_7.out
          subst eo17
          have p229 : 0 ≤ (x8_2 : Int) := of_decide_eq_true (by first | (with_reducible assumption) | assumption)
          have q229 : x8_2 < (t226.length : Int) := of_decide_eq_true (by first | (with_reducible assumption) | assumption)
          obtain ⟨ad229, e229, hx229_0⟩ := Kd.at_string (Kd.R_reads' HO_7.out).2.2 x8_2 p229 q229
          cases e229
          replace p229 := eq_true p229
          replace q229 := eq_true q229
          go_upto_region 13 with (fail)
          go_cut [36] (fun v36 wc => ∃ (kq : Nat) (x36_15 : Bool), v36 = .bool x36_15 ∧ Aside0 (jobshellref19_Clean.j2 kq x6_2 t226 x8_2 (rdOf ByteArray.empty t226 x8_2) x36_15 = some (r1, r2)) ∧ Aside0 (kq ≤ k2) ∧ Aside0 (Kd.R Kd.string 9 wc w.heap.size (fun _ => True) (.slice (some ad229) t226.length co17) t226) ∧ Aside0 (Below w.heap.size w wc))
          case first =>
           have H := HC16.out
           clear HC16
           by_cases c18 : (rdOf ByteArray.empty t226 x8_2).toList = ([] : List UInt8)
           ·rw [if_pos c18] at H
            have c18b0 : ((rdOf ByteArray.empty t226 x8_2).toList == ([] : List UInt8)) = true := beq_iff_eq.mpr c18
            have c18b1 : ((rdOf ByteArray.empty t226 x8_2).toList != ([] : List UInt8)) = false := bne_eq_false_iff_eq.mpr c18
            clear c18
            (first | rw [c18b0] | (simp only [i64_w, i32_w]; rw [c18b0]) | skip)
            have H' := Aside0.mk H
            clear H
            go_wp2
            go_meet
            case rel => exact ⟨_, (true), (by first | rfl | (simp; done) | (simp [*]; done) | (simp [isE_ne]; done)), H', ⟨by have := HJ8.out; have := HK2.out; first | omega | exact Nat.le_refl _⟩, ⟨by (with_reducible repeat (first | apply Kd.R_alloc | apply Kd.R_drewN | apply Kd.R_drew)); exact HO_7.out⟩, ⟨by repeat (first | (with_reducible first | exact HB.out | apply below_alloc | apply pw_below_drewN | apply below_drew1) | exact HB.out)⟩⟩
           ·rw [if_neg c18] at H
            have c18b0 : ((rdOf ByteArray.empty t226 x8_2).toList == ([] : List UInt8)) = false := beq_eq_false_iff_ne.mpr c18
            have c18b1 : ((rdOf ByteArray.empty t226 x8_2).toList != ([] : List UInt8)) = true := bne_iff_ne.mpr c18
            (first | rw [c18b0] | (simp only [i64_w, i32_w]; rw [c18b0]) | skip)
            have H' := Aside0.mk H
            clear H
            go_wp2
            go_meet
            case rel => exact ⟨_, (((rdOf ByteArray.empty t226 x8_2).toList == ([46] : List UInt8))), (by first | rfl | (simp; done) | (simp [*]; done) | (simp [isE_ne]; done)), H', ⟨by have := HJ8.out; have := HK2.out; first | omega | exact Nat.le_refl _⟩, ⟨by (with_reducible repeat (first | apply Kd.R_alloc | apply Kd.R_drewN | apply Kd.R_drew)); exact HO_7.out⟩, ⟨by repeat (first | (with_reducible first | exact HB.out | apply below_alloc | apply pw_below_drewN | apply below_drew1) | exact HB.out)⟩⟩
          case rest =>
           clear HC16
           try clear c1
           try clear c2
           try clear p2
           try clear q2
           try clear hx2
           try clear c3
           try clear c4
           try clear c5
           try clear c5b0
           try clear c5b1
           try clear c7
           try clear c7b0
           try clear c7b1
           try clear p8
           try clear q8
           try clear hx8
           try clear qi8
           try clear c11
           try clear c11b0
           try clear c11b1
           try clear c14
           try clear c14b0
           try clear c15
           try clear c15b0
           try clear c18
           try clear c18b0
           try clear c18b1
           try clear hx229_0
           try clear p2
           try clear p229
           try clear p8
           try clear q229
           try clear q8
           obtain ⟨kq, x36_15, rfl, HA, HJ15, HO_7, HB⟩ := hcut
           cases kq with
           | zero => exact absurd HA.out (by simp [jobshellref19_Clean.j2])
           | succ kj15 =>
            have H := HA.out
            clear HA
            simp only [jobshellref19_Clean.j2] at H
            by_cases c19 : x36_15 = true
            ·subst c19
             have H1 : (jobshellref19_Clean.l0 kj15 x6_2 t226 (wrap64 (x8_2 + 1))) = some (r1, r2) := by rw [if_pos rfl] at H; exact H
             clear H
             have H := H1
             clear H1
             have H' := Aside0.mk H
             clear H
             go_wp2
             go_roundg kj15
             case measure => have := HJ8.out; have := HK2.out; have := HJ15.out; omega
             case rel => exact ⟨(x6_2), (wrap64 (x8_2 + 1)), (by first | rfl | (simp; done) | (simp [*]; done) | (simp [isE_ne]; done)), (by first | rfl | (simp; done) | (simp [*]; done) | (simp [isE_ne]; done)), H', ⟨by have := HJ8.out; have := HK2.out; have := HJ15.out; omega⟩, ⟨by (with_reducible repeat (first | apply Kd.R_alloc | apply Kd.R_drewN | apply Kd.R_drew)); exact HO_7.out⟩, ⟨by repeat (first | (with_reducible first | exact HB.out | apply below_alloc | apply pw_below_drewN | apply below_drew1) | exact HB.out)⟩⟩
            ·replace c19 := Bool.eq_false_iff.mpr c19
             subst c19
             have H1 : (if (rdOf ByteArray.empty t226 x8_2).toList = ([46, 46] : List UInt8) then ((jobshellref19_Parent.f kj15 x6_2).bind fun t230 => (jobshellref19_Clean.l0 kj15 t230 t226 (wrap64 (x8_2 + 1)))) else ((jobshellref19_name.f kj15 (rdOf ByteArray.empty t226 x8_2)).bind fun t231 => (if t231 = true then (if x6_2.toList = ([47] : List UInt8) then (if 0 + 1 ≤ 9223372036854775807 then (if 1 + (rdOf ByteArray.empty t226 x8_2).size ≤ 9223372036854775807 then (jobshellref19_Clean.l0 kj15 (((⟨#[]⟩ : ByteArray) ++ (⟨#[47]⟩ : ByteArray)) ++ (rdOf ByteArray.empty t226 x8_2)) t226 (wrap64 (x8_2 + 1))) else (none)) else (none)) else (if x6_2.size + 1 ≤ 9223372036854775807 then (if (x6_2 ++ (⟨#[47]⟩ : ByteArray)).size + (rdOf ByteArray.empty t226 x8_2).size ≤ 9223372036854775807 then (jobshellref19_Clean.l0 kj15 ((x6_2 ++ (⟨#[47]⟩ : ByteArray)) ++ (rdOf ByteArray.empty t226 x8_2)) t226 (wrap64 (x8_2 + 1))) else (none)) else (none))) else (some ((⟨#[]⟩ : ByteArray), 10))))) = some (r1, r2) := by rw [if_neg (show ¬ (false = true) by decide)] at H; exact H
             clear H
             have H := H1
             clear H1
             by_cases c20 : (rdOf ByteArray.empty t226 x8_2).toList = ([46, 46] : List UInt8)
             ·rw [if_pos c20] at H
              have c20b0 : ((rdOf ByteArray.empty t226 x8_2).toList == ([46, 46] : List UInt8)) = true := beq_iff_eq.mpr c20
              have c20b1 : ((rdOf ByteArray.empty t226 x8_2).toList != ([46, 46] : List UInt8)) = false := bne_eq_false_iff_eq.mpr c20
              clear c20
              replace H := Option.bind_eq_some_iff.mp H
              obtain ⟨t230, A210, H⟩ := H
              replace H : (jobshellref19_Clean.l0 kj15 t230 t226 (wrap64 (x8_2 + 1))) = some (r1, r2) := H
              have A21 := Aside0.mk A210
              clear A210
              have H' := Aside0.mk H
              clear H
              go_wp2_with (first | ((with_reducible refine gate_callee (f := 38) rfl ?_); refine goesL_ (some 40) rfl rfl Tryd.func38 (by kernel_rfl) rfl #[.string x6_2] rfl (by (try simp only [List.map_toArray, List.map_cons, List.map_nil]); first | done | rfl | (simp only [List.length_drop, List.length_take]; rfl)) ?_; (with_reducible refine (jobshellref19_Parent.calls kj15 x6_2 t230 _ A21.out).mono ?_); rintro e w' ⟨rfl, ⟨nd, rfl⟩⟩; refine ⟨_, rfl, ?_⟩))
              go_roundg kj15
              case measure => have := HJ8.out; have := HK2.out; have := HJ15.out; omega
              case rel => exact ⟨(t230), (wrap64 (x8_2 + 1)), (by first | rfl | (simp; done) | (simp [*]; done) | (simp [isE_ne]; done)), (by first | rfl | (simp; done) | (simp [*]; done) | (simp [isE_ne]; done)), H', ⟨by have := HJ8.out; have := HK2.out; have := HJ15.out; omega⟩, ⟨by (with_reducible repeat (first | apply Kd.R_alloc | apply Kd.R_drewN | apply Kd.R_drew)); exact HO_7.out⟩, ⟨by repeat (first | (with_reducible first | exact HB.out | apply below_alloc | apply pw_below_drewN | apply below_drew1) | exact HB.out)⟩⟩
             ·rw [if_neg c20] at H
              have c20b0 : ((rdOf ByteArray.empty t226 x8_2).toList == ([46, 46] : List UInt8)) = false := beq_eq_false_iff_ne.mpr c20
              have c20b1 : ((rdOf ByteArray.empty t226 x8_2).toList != ([46, 46] : List UInt8)) = true := bne_iff_ne.mpr c20
              replace H := Option.bind_eq_some_iff.mp H
              obtain ⟨t231, A220, H⟩ := H
              replace H : (if t231 = true then (if x6_2.toList = ([47] : List UInt8) then (if 0 + 1 ≤ 9223372036854775807 then (if 1 + (rdOf ByteArray.empty t226 x8_2).size ≤ 9223372036854775807 then (jobshellref19_Clean.l0 kj15 (((⟨#[]⟩ : ByteArray) ++ (⟨#[47]⟩ : ByteArray)) ++ (rdOf ByteArray.empty t226 x8_2)) t226 (wrap64 (x8_2 + 1))) else (none)) else (none)) else (if x6_2.size + 1 ≤ 9223372036854775807 then (if (x6_2 ++ (⟨#[47]⟩ : ByteArray)).size + (rdOf ByteArray.empty t226 x8_2).size ≤ 9223372036854775807 then (jobshellref19_Clean.l0 kj15 ((x6_2 ++ (⟨#[47]⟩ : ByteArray)) ++ (rdOf ByteArray.empty t226 x8_2)) t226 (wrap64 (x8_2 + 1))) else (none)) else (none))) else (some ((⟨#[]⟩ : ByteArray), 10))) = some (r1, r2) := H
              have A22 := Aside0.mk A220
              clear A220
              by_cases c23 : t231 = true
              ·subst c23
               have H1 : (if x6_2.toList = ([47] : List UInt8) then (if 0 + 1 ≤ 9223372036854775807 then (if 1 + (rdOf ByteArray.empty t226 x8_2).size ≤ 9223372036854775807 then (jobshellref19_Clean.l0 kj15 (((⟨#[]⟩ : ByteArray) ++ (⟨#[47]⟩ : ByteArray)) ++ (rdOf ByteArray.empty t226 x8_2)) t226 (wrap64 (x8_2 + 1))) else (none)) else (none)) else (if x6_2.size + 1 ≤ 9223372036854775807 then (if (x6_2 ++ (⟨#[47]⟩ : ByteArray)).size + (rdOf ByteArray.empty t226 x8_2).size ≤ 9223372036854775807 then (jobshellref19_Clean.l0 kj15 ((x6_2 ++ (⟨#[47]⟩ : ByteArray)) ++ (rdOf ByteArray.empty t226 x8_2)) t226 (wrap64 (x8_2 + 1))) else (none)) else (none))) = some (r1, r2) := by rw [if_pos rfl] at H; exact H
               clear H
               have H := H1
               clear H1
               by_cases c24 : x6_2.toList = ([47] : List UInt8)
               ·rw [if_pos c24] at H
                have c24b0 : (x6_2.toList == ([47] : List UInt8)) = true := beq_iff_eq.mpr c24
                have c24b1 : (x6_2.toList != ([47] : List UInt8)) = false := bne_eq_false_iff_eq.mpr c24
                clear c24
                by_cases c25 : 0 + 1 ≤ 9223372036854775807
                ·rw [if_pos c25] at H
                 have c25b0 := eq_true c25
                 have c25b1 : decide (0 + 1 ≤ 9223372036854775807) = true := decide_eq_true c25
                 try have c25b2 : (9223372036854775807 < 0 + 1) = False := eq_false (Nat.not_lt.2 c25)
                 by_cases c26 : 1 + (rdOf ByteArray.empty t226 x8_2).size ≤ 9223372036854775807
                 ·rw [if_pos c26] at H
                  have c26b0 := eq_true c26
                  have c26b1 : decide (1 + (rdOf ByteArray.empty t226 x8_2).size ≤ 9223372036854775807) = true := decide_eq_true c26
                  try have c26b2 : (9223372036854775807 < 1 + (rdOf ByteArray.empty t226 x8_2).size) = False := eq_false (Nat.not_lt.2 c26)
                  have H' := Aside0.mk H
                  clear H
                  go_wp2_with (first | ((with_reducible refine gate_callee (f := 35) rfl ?_); refine goesL_ (some 42) rfl rfl Tryd.func35 (by kernel_rfl) rfl #[.string (rdOf ByteArray.empty t226 x8_2)] rfl (by (try simp only [List.map_toArray, List.map_cons, List.map_nil]); first | done | rfl | (simp only [List.length_drop, List.length_take]; rfl)) ?_; (with_reducible refine (jobshellref19_name.calls kj15 (rdOf ByteArray.empty t226 x8_2) true _ A22.out).mono ?_); rintro e w' ⟨rfl, ⟨nd, rfl⟩⟩; refine ⟨_, rfl, ?_⟩))
                  go_roundg kj15
                  case measure => have := HJ8.out; have := HK2.out; have := HJ15.out; omega
                  case rel => exact ⟨(((⟨#[]⟩ : ByteArray) ++ (⟨#[47]⟩ : ByteArray)) ++ (rdOf ByteArray.empty t226 x8_2)), (wrap64 (x8_2 + 1)), (by first | rfl | (simp; done) | (simp [*]; done) | (simp [isE_ne]; done)), (by first | rfl | (simp; done) | (simp [*]; done) | (simp [isE_ne]; done)), H', ⟨by have := HJ8.out; have := HK2.out; have := HJ15.out; omega⟩, ⟨by (with_reducible repeat (first | apply Kd.R_alloc | apply Kd.R_drewN | apply Kd.R_drew)); exact HO_7.out⟩, ⟨by repeat (first | (with_reducible first | exact HB.out | apply below_alloc | apply pw_below_drewN | apply below_drew1) | exact HB.out)⟩⟩
                 ·rw [if_neg c26] at H
                  exact absurd H (by simp)
                ·rw [if_neg c25] at H
                 exact absurd H (by simp)
               ·rw [if_neg c24] at H
                have c24b0 : (x6_2.toList == ([47] : List UInt8)) = false := beq_eq_false_iff_ne.mpr c24
                have c24b1 : (x6_2.toList != ([47] : List UInt8)) = true := bne_iff_ne.mpr c24
                by_cases c27 : x6_2.size + 1 ≤ 9223372036854775807
                ·rw [if_pos c27] at H
                 have c27b0 := eq_true c27
                 have c27b1 : decide (x6_2.size + 1 ≤ 9223372036854775807) = true := decide_eq_true c27
                 try have c27b2 : (9223372036854775807 < x6_2.size + 1) = False := eq_false (Nat.not_lt.2 c27)
                 by_cases c28 : (x6_2 ++ (⟨#[47]⟩ : ByteArray)).size + (rdOf ByteArray.empty t226 x8_2).size ≤ 9223372036854775807
                 ·rw [if_pos c28] at H
                  have c28b0 := eq_true c28
                  have c28b1 : decide ((x6_2 ++ (⟨#[47]⟩ : ByteArray)).size + (rdOf ByteArray.empty t226 x8_2).size ≤ 9223372036854775807) = true := decide_eq_true c28
                  try have c28b2 : (9223372036854775807 < (x6_2 ++ (⟨#[47]⟩ : ByteArray)).size + (rdOf ByteArray.empty t226 x8_2).size) = False := eq_false (Nat.not_lt.2 c28)
                  have H' := Aside0.mk H
                  clear H
                  go_wp2_with (first | ((with_reducible refine gate_callee (f := 35) rfl ?_); refine goesL_ (some 42) rfl rfl Tryd.func35 (by kernel_rfl) rfl #[.string (rdOf ByteArray.empty t226 x8_2)] rfl (by (try simp only [List.map_toArray, List.map_cons, List.map_nil]); first | done | rfl | (simp only [List.length_drop, List.length_take]; rfl)) ?_; (with_reducible refine (jobshellref19_name.calls kj15 (rdOf ByteArray.empty t226 x8_2) true _ A22.out).mono ?_); rintro e w' ⟨rfl, ⟨nd, rfl⟩⟩; refine ⟨_, rfl, ?_⟩))
                  go_roundg kj15
                  case measure => have := HJ8.out; have := HK2.out; have := HJ15.out; omega
                  case rel => exact ⟨((x6_2 ++ (⟨#[47]⟩ : ByteArray)) ++ (rdOf ByteArray.empty t226 x8_2)), (wrap64 (x8_2 + 1)), (by first | rfl | (simp; done) | (simp [*]; done) | (simp [isE_ne]; done)), (by first | rfl | (simp; done) | (simp [*]; done) | (simp [isE_ne]; done)), H', ⟨by have := HJ8.out; have := HK2.out; have := HJ15.out; omega⟩, ⟨by (with_reducible repeat (first | apply Kd.R_alloc | apply Kd.R_drewN | apply Kd.R_drew)); exact HO_7.out⟩, ⟨by repeat (first | (with_reducible first | exact HB.out | apply below_alloc | apply pw_below_drewN | apply below_drew1) | exact HB.out)⟩⟩
                 ·rw [if_neg c28] at H
                  exact absurd H (by simp)
                ·rw [if_neg c27] at H
                 exact absurd H (by simp)
              ·replace c23 := Bool.eq_false_iff.mpr c23
               subst c23
               have H1 : (some ((⟨#[]⟩ : ByteArray), 10)) = some (r1, r2) := by rw [if_neg (show ¬ (false = true) by decide)] at H; exact H
               clear H
               have H := H1
               clear H1
               simp only [Option.some.injEq, Prod.mk.injEq] at H
               obtain ⟨rfl, rfl⟩ := H
               go_wp2_with (first | ((with_reducible refine gate_callee (f := 35) rfl ?_); refine goesL_ (some 42) rfl rfl Tryd.func35 (by kernel_rfl) rfl #[.string (rdOf ByteArray.empty t226 x8_2)] rfl (by (try simp only [List.map_toArray, List.map_cons, List.map_nil]); first | done | rfl | (simp only [List.length_drop, List.length_take]; rfl)) ?_; (with_reducible refine (jobshellref19_name.calls kj15 (rdOf ByteArray.empty t226 x8_2) false _ A22.out).mono ?_); rintro e w' ⟨rfl, ⟨nd, rfl⟩⟩; refine ⟨_, rfl, ?_⟩))
               go_ret2
               exact ⟨by first | rfl | (simp [errW_none, errW_some] <;> rfl) | (simp [*, errW_none, errW_some] <;> rfl), by repeat (first | (with_reducible first | exact HB.out | apply below_alloc | apply pw_below_drewN | apply below_drew1) | exact HB.out)⟩
         ·rw [if_neg c15] at H
          exact absurd H (by simp)
        ·rw [if_neg c14] at H
         have c14b0 : decide (x8_2 < (t226.length : Int)) = false := decide_eq_false c14
         clear c14
         by_cases c29 : (x6_2.size : Int) > 128
         ·rw [if_pos c29] at H
          have c29b0 : decide (128 < (x6_2.size : Int)) = true := decide_eq_true c29
          have c29b1 : decide (128 < x6_2.size) = true := decide_eq_true (by omega)
          clear c29
          simp only [Option.some.injEq, Prod.mk.injEq] at H
          obtain ⟨rfl, rfl⟩ := H
          obtain ⟨Ao30, co30, eo30⟩ := Kd.R_slice HO_7.out
          subst eo30
          go_wp2
          go_ret2
          exact ⟨by first | rfl | (simp [errW_none, errW_some] <;> rfl) | (simp [*, errW_none, errW_some] <;> rfl), by repeat (first | (with_reducible first | exact HB.out | apply below_alloc | apply pw_below_drewN | apply below_drew1) | exact HB.out)⟩
         ·rw [if_neg c29] at H
          have c29b0 : decide (128 < (x6_2.size : Int)) = false := decide_eq_false c29
          have c29b1 : decide (128 < x6_2.size) = false := decide_eq_false (by omega)
          clear c29
          simp only [Option.some.injEq, Prod.mk.injEq] at H
          obtain ⟨rfl, rfl⟩ := H
          obtain ⟨Ao31, co31, eo31⟩ := Kd.R_slice HO_7.out
          subst eo31
          go_wp2
          go_ret2
          exact ⟨by first | rfl | (simp [errW_none, errW_some] <;> rfl) | (simp [*, errW_none, errW_some] <;> rfl), by repeat (first | (with_reducible first | exact HB.out | apply below_alloc | apply pw_below_drewN | apply below_drew1) | exact HB.out)⟩
   ·rw [if_neg c7] at H
    exact absurd H (by simp)
 ·replace c4 := Bool.eq_false_iff.mpr c4
  subst c4
  have H1 : (some ((⟨#[]⟩ : ByteArray), 10)) = some (r1, r2) := by rw [if_neg (show ¬ (false = true) by decide)] at H; exact H
  clear H
  have H := H1
  clear H1
  simp only [Option.some.injEq, Prod.mk.injEq] at H
  obtain ⟨rfl, rfl⟩ := H
  go_enter Tryd.func45, Tryd.ntmps45
  go_wp2_with (first | ((with_reducible refine gate_callee (f := 22) rfl ?_); refine goesL_ (some 11) rfl rfl Tryd.func22 (by kernel_rfl) rfl #[.string a0] rfl (by (try simp only [List.map_toArray, List.map_cons, List.map_nil]); first | done | rfl | (simp only [List.length_drop, List.length_take]; rfl)) ?_; (with_reducible refine (jobshellref19_IsPath.calls k a0 false _ A3.out).mono ?_); rintro e w32 ⟨rfl, hb⟩; refine ⟨_, rfl, ?_⟩; have n0_ := Aside0.mk (below_step (by repeat (first | (with_reducible first | exact HB.out | apply below_alloc | apply pw_below_drewN | apply below_drew1) | exact HB.out)) hb); clear HB; have HB := n0_; clear n0_; (try clear hb); (try clear hb2); (try clear hk); (try clear hi)))
  go_ret2
  exact ⟨by first | rfl | (simp [errW_none, errW_some] <;> rfl) | (simp [*, errW_none, errW_some] <;> rfl), by repeat (first | (with_reducible first | exact HB.out | apply below_alloc | apply pw_below_drewN | apply below_drew1) | exact HB.out)⟩
end Go.Proofs.YtoeiohfljaboaaaDoor.F
