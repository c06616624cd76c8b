/- Texts of this claim, joined. -/
import Derived.ProofKit
import Derived.DataElems
import Derived.OpenShut
import Derived.Test.YthkbcomkbioepaaDoorB0
import Derived.Test.YthkbcomkbioepaaDoorB1
import Derived.Test.YthkbcomkbioepaaDoorB3
import Derived.Test.YthkbcomkbioepaaDoorBW0
namespace Go.Proofs.YthkbcomkbioepaaDoor.F
open Go.RowKit Go.Proofs.YthkbcomkbioepaaDoorW.PrintWords Go.Proofs.YthkbcomkbioepaaDoorW.PrintLast Go.Proofs.YthkbcomkbioepaaDoorW.PrintMore
attribute [local go_sem] max2_int min2_int max_two min_two max_three min_three max_four min_four
set_option linter.unusedVariables false
set_option linter.unusedSimpArgs false
def jobshelllaw17_awake.j0 : Nat → List (S_PatItem) → Bool → Option (Bool)
 | 0, _, _ => none
 | k + 1, x10, x73 => if x73 = true then (some false) else ((param_Choose.f k 1 true true (⟨#[]⟩ : ByteArray)).bind fun t203 => (if t203 = 1 then ((param_Length.f (⟨#[97, 98, 99]⟩ : ByteArray)).bind fun t204 => (if t204 = 3 then ((param_Trim.f k 6 (⟨#[97, 46, 98, 46, 99]⟩ : ByteArray) x10).bind fun t205 => (if t205.toList = ([97, 46, 98] : List UInt8) then ((param_Trim.f k 7 (⟨#[97, 46, 98, 46, 99]⟩ : ByteArray) x10).bind fun t206 => (some (t206.toList == ([97] : List UInt8)))) else (some false))) else (some false))) else (some false)))
def jobshelllaw17_awake.f (k : Nat)  : Option (Bool) := (some (([(⟨(⟨#[73, 70, 83]⟩ : ByteArray), (⟨#[58]⟩ : ByteArray), true, false, false⟩ : S_Var)] : List (S_Var)) : List (S_Var))).bind fun y183 => ((some (([(⟨#[97]⟩ : ByteArray), (⟨#[98]⟩ : ByteArray)] : List ByteArray) : List ByteArray)).bind fun y186 => ((param_Value.f k (⟨#[115, 104]⟩ : ByteArray) y183 y186 zopq ([] : List (S_Alias)) ([] : List (S_Trap)) 5 0 0 0 (⟨#[]⟩ : ByteArray) 0 0 0 false (⟨#[42]⟩ : ByteArray)).bind fun bt190 => ((param_Value.f k (⟨#[115, 104]⟩ : ByteArray) y183 y186 zopq ([] : List (S_Alias)) ([] : List (S_Trap)) 5 0 0 0 (⟨#[]⟩ : ByteArray) 0 0 0 false (⟨#[35]⟩ : ByteArray)).bind fun bt192 => ((param_Value.f k (⟨#[115, 104]⟩ : ByteArray) y183 y186 zopq ([] : List (S_Alias)) ([] : List (S_Trap)) 5 0 0 0 (⟨#[]⟩ : ByteArray) 0 0 0 false (⟨#[51]⟩ : ByteArray)).bind fun bt194 => ((param_Value.f k (⟨#[115, 104]⟩ : ByteArray) y183 y186 zopq ([] : List (S_Alias)) ([] : List (S_Trap)) 5 0 0 0 (⟨#[]⟩ : ByteArray) 0 0 0 false (⟨#[45]⟩ : ByteArray)).bind fun bt196 => ((some (([(⟨1, (⟨#[46]⟩ : ByteArray), false, ([] : List (S_Span))⟩ : S_PatItem), (⟨3, (⟨#[]⟩ : ByteArray), false, ([] : List (S_Span))⟩ : S_PatItem)] : List (S_PatItem)) : List (S_PatItem))).bind fun y198 => (if bt190.1.toList = ([97, 58, 98] : List UInt8) then (if bt190.2 = true then (if bt192.1.toList = ([50] : List UInt8) then (if bt192.2 = true then (if bt194.1.toList = ([] : List UInt8) then (if bt194.2 = true then (jobshelllaw17_awake.j0 k y198 true) else (if bt196.1.toList = ([101, 120] : List UInt8) then (if bt196.2 = true then ((param_Valid.f k (⟨#[48, 49]⟩ : ByteArray)).bind fun t201 => (if t201 = true then (jobshelllaw17_awake.j0 k y198 true) else ((param_Valid.f k (⟨#[49, 48]⟩ : ByteArray)).bind fun t202 => (jobshelllaw17_awake.j0 k y198 (!t202))))) else (jobshelllaw17_awake.j0 k y198 true)) else (jobshelllaw17_awake.j0 k y198 true))) else (jobshelllaw17_awake.j0 k y198 true)) else (jobshelllaw17_awake.j0 k y198 true)) else (jobshelllaw17_awake.j0 k y198 true)) else (jobshelllaw17_awake.j0 k y198 true)) else (jobshelllaw17_awake.j0 k y198 true))))))))
theorem jobshelllaw17_awake.mono_l : ∀ k, (∀ y0 y1, LeO (jobshelllaw17_awake.j0 k y0 y1) (jobshelllaw17_awake.j0 (k + 1) y0 y1))
 | 0 => fun _ _ r h => by simp [jobshelllaw17_awake.j0] at h
 | k + 1 => by
  have ih0 := jobshelllaw17_awake.mono_l k
  ·intro y0 y1
   unfold jobshelllaw17_awake.j0
   repeat' first
   | (with_reducible exact ih0 _ _)
   | (with_reducible exact param_Choose.mono _ _ _ _ _)
   | (with_reducible exact param_Trim.mono _ _ _ _)
   | (with_reducible exact param_Valid.mono _ _)
   | (with_reducible exact param_Value.mono _ _ _ _ _ _ _ _ _ _ _ _ _ _ _ _ _)
   | (with_reducible exact LeO.refl _)
   | (with_reducible exact LeO.none _)
   | (with_reducible refine LeO.ite ?_ ?_)
   | (with_reducible refine LeO.bind ?_ (fun _ => ?_))
   | exact ih0 _ _
   | exact param_Choose.mono _ _ _ _ _
   | exact param_Trim.mono _ _ _ _
   | exact param_Valid.mono _ _
   | exact param_Value.mono _ _ _ _ _ _ _ _ _ _ _ _ _ _ _ _ _
   | exact LeO.none _
   | refine LeO.ite ?_ ?_
   | refine LeO.bind ?_ (fun _ => ?_)
theorem jobshelllaw17_awake.mono : ∀ k, LeO (jobshelllaw17_awake.f k ) (jobshelllaw17_awake.f (k + 1) ) := by
 intro  k
 have ih0 := jobshelllaw17_awake.mono_l k
 unfold jobshelllaw17_awake.f
 repeat' first
   | (with_reducible exact ih0 _ _)
   | (with_reducible exact param_Choose.mono _ _ _ _ _)
   | (with_reducible exact param_Trim.mono _ _ _ _)
   | (with_reducible exact param_Valid.mono _ _)
   | (with_reducible exact param_Value.mono _ _ _ _ _ _ _ _ _ _ _ _ _ _ _ _ _)
   | (with_reducible exact LeO.refl _)
   | (with_reducible exact LeO.none _)
   | (with_reducible refine LeO.ite ?_ ?_)
   | (with_reducible refine LeO.bind ?_ (fun _ => ?_))
   | exact ih0 _ _
   | exact param_Choose.mono _ _ _ _ _
   | exact param_Trim.mono _ _ _ _
   | exact param_Valid.mono _ _
   | exact param_Value.mono _ _ _ _ _ _ _ _ _ _ _ _ _ _ _ _ _
   | exact LeO.none _
   | refine LeO.ite ?_ ?_
   | refine LeO.bind ?_ (fun _ => ?_)
set_option maxHeartbeats 8000000 in
set_option maxRecDepth 100000 in
theorem jobshelllaw17_awake.calls (k : Nat)  (r : Bool) (w : World) (hamb : AmbC w) (h : jobshelllaw17_awake.f k  = some r) :
  Calls Tryd.prog 10 #[] w fun e w' => e = .returned (.bool r) ∧ Below w.heap.size w w' := by
 have hu49 := Tryd.underlying49
 have hu30 := Tryd.underlying30
 have hu52 := Tryd.underlying52
 have HAMB := Aside0.mk hamb
 clear hamb
 have HB := Aside0.mk (Below.refl w.heap.size w)
 have H : ((some (([(⟨(⟨#[73, 70, 83]⟩ : ByteArray), (⟨#[58]⟩ : ByteArray), true, false, false⟩ : S_Var)] : List (S_Var)) : List (S_Var))).bind fun y183 => ((some (([(⟨#[97]⟩ : ByteArray), (⟨#[98]⟩ : ByteArray)] : List ByteArray) : List ByteArray)).bind fun y186 => ((param_Value.f k (⟨#[115, 104]⟩ : ByteArray) y183 y186 zopq ([] : List (S_Alias)) ([] : List (S_Trap)) 5 0 0 0 (⟨#[]⟩ : ByteArray) 0 0 0 false (⟨#[42]⟩ : ByteArray)).bind fun bt190 => ((param_Value.f k (⟨#[115, 104]⟩ : ByteArray) y183 y186 zopq ([] : List (S_Alias)) ([] : List (S_Trap)) 5 0 0 0 (⟨#[]⟩ : ByteArray) 0 0 0 false (⟨#[35]⟩ : ByteArray)).bind fun bt192 => ((param_Value.f k (⟨#[115, 104]⟩ : ByteArray) y183 y186 zopq ([] : List (S_Alias)) ([] : List (S_Trap)) 5 0 0 0 (⟨#[]⟩ : ByteArray) 0 0 0 false (⟨#[51]⟩ : ByteArray)).bind fun bt194 => ((param_Value.f k (⟨#[115, 104]⟩ : ByteArray) y183 y186 zopq ([] : List (S_Alias)) ([] : List (S_Trap)) 5 0 0 0 (⟨#[]⟩ : ByteArray) 0 0 0 false (⟨#[45]⟩ : ByteArray)).bind fun bt196 => ((some (([(⟨1, (⟨#[46]⟩ : ByteArray), false, ([] : List (S_Span))⟩ : S_PatItem), (⟨3, (⟨#[]⟩ : ByteArray), false, ([] : List (S_Span))⟩ : S_PatItem)] : List (S_PatItem)) : List (S_PatItem))).bind fun y198 => (if bt190.1.toList = ([97, 58, 98] : List UInt8) then (if bt190.2 = true then (if bt192.1.toList = ([50] : List UInt8) then (if bt192.2 = true then (if bt194.1.toList = ([] : List UInt8) then (if bt194.2 = true then (jobshelllaw17_awake.j0 k y198 true) else (if bt196.1.toList = ([101, 120] : List UInt8) then (if bt196.2 = true then ((param_Valid.f k (⟨#[48, 49]⟩ : ByteArray)).bind fun t201 => (if t201 = true then (jobshelllaw17_awake.j0 k y198 true) else ((param_Valid.f k (⟨#[49, 48]⟩ : ByteArray)).bind fun t202 => (jobshelllaw17_awake.j0 k y198 (!t202))))) else (jobshelllaw17_awake.j0 k y198 true)) else (jobshelllaw17_awake.j0 k y198 true))) else (jobshelllaw17_awake.j0 k y198 true)) else (jobshelllaw17_awake.j0 k y198 true)) else (jobshelllaw17_awake.j0 k y198 true)) else (jobshelllaw17_awake.j0 k y198 true)) else (jobshelllaw17_awake.j0 k y198 true))))))))) = some r := h
 clear h
 obtain ⟨y183, hy183⟩ : ∃ y_ : List (S_Var), y_ = (([(⟨(⟨#[73, 70, 83]⟩ : ByteArray), (⟨#[58]⟩ : ByteArray), true, false, false⟩ : S_Var)] : List (S_Var))) := ⟨_, rfl⟩
 replace H : ((some (([(⟨#[97]⟩ : ByteArray), (⟨#[98]⟩ : ByteArray)] : List ByteArray) : List ByteArray)).bind fun y186 => ((param_Value.f k (⟨#[115, 104]⟩ : ByteArray) y183 y186 zopq ([] : List (S_Alias)) ([] : List (S_Trap)) 5 0 0 0 (⟨#[]⟩ : ByteArray) 0 0 0 false (⟨#[42]⟩ : ByteArray)).bind fun bt190 => ((param_Value.f k (⟨#[115, 104]⟩ : ByteArray) y183 y186 zopq ([] : List (S_Alias)) ([] : List (S_Trap)) 5 0 0 0 (⟨#[]⟩ : ByteArray) 0 0 0 false (⟨#[35]⟩ : ByteArray)).bind fun bt192 => ((param_Value.f k (⟨#[115, 104]⟩ : ByteArray) y183 y186 zopq ([] : List (S_Alias)) ([] : List (S_Trap)) 5 0 0 0 (⟨#[]⟩ : ByteArray) 0 0 0 false (⟨#[51]⟩ : ByteArray)).bind fun bt194 => ((param_Value.f k (⟨#[115, 104]⟩ : ByteArray) y183 y186 zopq ([] : List (S_Alias)) ([] : List (S_Trap)) 5 0 0 0 (⟨#[]⟩ : ByteArray) 0 0 0 false (⟨#[45]⟩ : ByteArray)).bind fun bt196 => ((some (([(⟨1, (⟨#[46]⟩ : ByteArray), false, ([] : List (S_Span))⟩ : S_PatItem), (⟨3, (⟨#[]⟩ : ByteArray), false, ([] : List (S_Span))⟩ : S_PatItem)] : List (S_PatItem)) : List (S_PatItem))).bind fun y198 => (if bt190.1.toList = ([97, 58, 98] : List UInt8) then (if bt190.2 = true then (if bt192.1.toList = ([50] : List UInt8) then (if bt192.2 = true then (if bt194.1.toList = ([] : List UInt8) then (if bt194.2 = true then (jobshelllaw17_awake.j0 k y198 true) else (if bt196.1.toList = ([101, 120] : List UInt8) then (if bt196.2 = true then ((param_Valid.f k (⟨#[48, 49]⟩ : ByteArray)).bind fun t201 => (if t201 = true then (jobshelllaw17_awake.j0 k y198 true) else ((param_Valid.f k (⟨#[49, 48]⟩ : ByteArray)).bind fun t202 => (jobshelllaw17_awake.j0 k y198 (!t202))))) else (jobshelllaw17_awake.j0 k y198 true)) else (jobshelllaw17_awake.j0 k y198 true))) else (jobshelllaw17_awake.j0 k y198 true)) else (jobshelllaw17_awake.j0 k y198 true)) else (jobshelllaw17_awake.j0 k y198 true)) else (jobshelllaw17_awake.j0 k y198 true)) else (jobshelllaw17_awake.j0 k y198 true)))))))) = some r := by first | (rw [hy183]; with_reducible exact H) | (have H2_ := (Option.bind_some _ _).symm.trans H; rw [hy183]; with_reducible exact H2_) | (have H2_ := (Option.bind_some _ _).symm.trans H; with_reducible exact H2_) | with_reducible exact H | (rw [hy183]; exact H) | exact H
 have Ny183 := Aside0.mk hy183
 clear hy183
 obtain ⟨y186, hy186⟩ : ∃ y_ : List ByteArray, y_ = (([(⟨#[97]⟩ : ByteArray), (⟨#[98]⟩ : ByteArray)] : List ByteArray)) := ⟨_, rfl⟩
 replace H : ((param_Value.f k (⟨#[115, 104]⟩ : ByteArray) y183 y186 zopq ([] : List (S_Alias)) ([] : List (S_Trap)) 5 0 0 0 (⟨#[]⟩ : ByteArray) 0 0 0 false (⟨#[42]⟩ : ByteArray)).bind fun bt190 => ((param_Value.f k (⟨#[115, 104]⟩ : ByteArray) y183 y186 zopq ([] : List (S_Alias)) ([] : List (S_Trap)) 5 0 0 0 (⟨#[]⟩ : ByteArray) 0 0 0 false (⟨#[35]⟩ : ByteArray)).bind fun bt192 => ((param_Value.f k (⟨#[115, 104]⟩ : ByteArray) y183 y186 zopq ([] : List (S_Alias)) ([] : List (S_Trap)) 5 0 0 0 (⟨#[]⟩ : ByteArray) 0 0 0 false (⟨#[51]⟩ : ByteArray)).bind fun bt194 => ((param_Value.f k (⟨#[115, 104]⟩ : ByteArray) y183 y186 zopq ([] : List (S_Alias)) ([] : List (S_Trap)) 5 0 0 0 (⟨#[]⟩ : ByteArray) 0 0 0 false (⟨#[45]⟩ : ByteArray)).bind fun bt196 => ((some (([(⟨1, (⟨#[46]⟩ : ByteArray), false, ([] : List (S_Span))⟩ : S_PatItem), (⟨3, (⟨#[]⟩ : ByteArray), false, ([] : List (S_Span))⟩ : S_PatItem)] : List (S_PatItem)) : List (S_PatItem))).bind fun y198 => (if bt190.1.toList = ([97, 58, 98] : List UInt8) then (if bt190.2 = true then (if bt192.1.toList = ([50] : List UInt8) then (if bt192.2 = true then (if bt194.1.toList = ([] : List UInt8) then (if bt194.2 = true then (jobshelllaw17_awake.j0 k y198 true) else (if bt196.1.toList = ([101, 120] : List UInt8) then (if bt196.2 = true then ((param_Valid.f k (⟨#[48, 49]⟩ : ByteArray)).bind fun t201 => (if t201 = true then (jobshelllaw17_awake.j0 k y198 true) else ((param_Valid.f k (⟨#[49, 48]⟩ : ByteArray)).bind fun t202 => (jobshelllaw17_awake.j0 k y198 (!t202))))) else (jobshelllaw17_awake.j0 k y198 true)) else (jobshelllaw17_awake.j0 k y198 true))) else (jobshelllaw17_awake.j0 k y198 true)) else (jobshelllaw17_awake.j0 k y198 true)) else (jobshelllaw17_awake.j0 k y198 true)) else (jobshelllaw17_awake.j0 k y198 true)) else (jobshelllaw17_awake.j0 k y198 true))))))) = some r := by first | (rw [hy186]; with_reducible exact H) | (have H2_ := (Option.bind_some _ _).symm.trans H; rw [hy186]; with_reducible exact H2_) | (have H2_ := (Option.bind_some _ _).symm.trans H; with_reducible exact H2_) | with_reducible exact H | (rw [hy186]; exact H) | exact H
 have Ny186 := Aside0.mk hy186
 clear hy186
 replace H := Option.bind_eq_some_iff.mp H
 obtain ⟨⟨t190, t191⟩, A10, H⟩ := H
 replace H : ((param_Value.f k (⟨#[115, 104]⟩ : ByteArray) y183 y186 zopq ([] : List (S_Alias)) ([] : List (S_Trap)) 5 0 0 0 (⟨#[]⟩ : ByteArray) 0 0 0 false (⟨#[35]⟩ : ByteArray)).bind fun bt192 => ((param_Value.f k (⟨#[115, 104]⟩ : ByteArray) y183 y186 zopq ([] : List (S_Alias)) ([] : List (S_Trap)) 5 0 0 0 (⟨#[]⟩ : ByteArray) 0 0 0 false (⟨#[51]⟩ : ByteArray)).bind fun bt194 => ((param_Value.f k (⟨#[115, 104]⟩ : ByteArray) y183 y186 zopq ([] : List (S_Alias)) ([] : List (S_Trap)) 5 0 0 0 (⟨#[]⟩ : ByteArray) 0 0 0 false (⟨#[45]⟩ : ByteArray)).bind fun bt196 => ((some (([(⟨1, (⟨#[46]⟩ : ByteArray), false, ([] : List (S_Span))⟩ : S_PatItem), (⟨3, (⟨#[]⟩ : ByteArray), false, ([] : List (S_Span))⟩ : S_PatItem)] : List (S_PatItem)) : List (S_PatItem))).bind fun y198 => (if t190.toList = ([97, 58, 98] : List UInt8) then (if t191 = true then (if bt192.1.toList = ([50] : List UInt8) then (if bt192.2 = true then (if bt194.1.toList = ([] : List UInt8) then (if bt194.2 = true then (jobshelllaw17_awake.j0 k y198 true) else (if bt196.1.toList = ([101, 120] : List UInt8) then (if bt196.2 = true then ((param_Valid.f k (⟨#[48, 49]⟩ : ByteArray)).bind fun t201 => (if t201 = true then (jobshelllaw17_awake.j0 k y198 true) else ((param_Valid.f k (⟨#[49, 48]⟩ : ByteArray)).bind fun t202 => (jobshelllaw17_awake.j0 k y198 (!t202))))) else (jobshelllaw17_awake.j0 k y198 true)) else (jobshelllaw17_awake.j0 k y198 true))) else (jobshelllaw17_awake.j0 k y198 true)) else (jobshelllaw17_awake.j0 k y198 true)) else (jobshelllaw17_awake.j0 k y198 true)) else (jobshelllaw17_awake.j0 k y198 true)) else (jobshelllaw17_awake.j0 k y198 true)))))) = some r := H
 have A1 := Aside0.mk A10
 clear A10
 replace H := Option.bind_eq_some_iff.mp H
 obtain ⟨⟨t192, t193⟩, A20, H⟩ := H
 replace H : ((param_Value.f k (⟨#[115, 104]⟩ : ByteArray) y183 y186 zopq ([] : List (S_Alias)) ([] : List (S_Trap)) 5 0 0 0 (⟨#[]⟩ : ByteArray) 0 0 0 false (⟨#[51]⟩ : ByteArray)).bind fun bt194 => ((param_Value.f k (⟨#[115, 104]⟩ : ByteArray) y183 y186 zopq ([] : List (S_Alias)) ([] : List (S_Trap)) 5 0 0 0 (⟨#[]⟩ : ByteArray) 0 0 0 false (⟨#[45]⟩ : ByteArray)).bind fun bt196 => ((some (([(⟨1, (⟨#[46]⟩ : ByteArray), false, ([] : List (S_Span))⟩ : S_PatItem), (⟨3, (⟨#[]⟩ : ByteArray), false, ([] : List (S_Span))⟩ : S_PatItem)] : List (S_PatItem)) : List (S_PatItem))).bind fun y198 => (if t190.toList = ([97, 58, 98] : List UInt8) then (if t191 = true then (if t192.toList = ([50] : List UInt8) then (if t193 = true then (if bt194.1.toList = ([] : List UInt8) then (if bt194.2 = true then (jobshelllaw17_awake.j0 k y198 true) else (if bt196.1.toList = ([101, 120] : List UInt8) then (if bt196.2 = true then ((param_Valid.f k (⟨#[48, 49]⟩ : ByteArray)).bind fun t201 => (if t201 = true then (jobshelllaw17_awake.j0 k y198 true) else ((param_Valid.f k (⟨#[49, 48]⟩ : ByteArray)).bind fun t202 => (jobshelllaw17_awake.j0 k y198 (!t202))))) else (jobshelllaw17_awake.j0 k y198 true)) else (jobshelllaw17_awake.j0 k y198 true))) else (jobshelllaw17_awake.j0 k y198 true)) else (jobshelllaw17_awake.j0 k y198 true)) else (jobshelllaw17_awake.j0 k y198 true)) else (jobshelllaw17_awake.j0 k y198 true)) else (jobshelllaw17_awake.j0 k y198 true))))) = some r := H
 have A2 := Aside0.mk A20
 clear A20
 replace H := Option.bind_eq_some_iff.mp H
 obtain ⟨⟨t194, t195⟩, A30, H⟩ := H
 replace H : ((param_Value.f k (⟨#[115, 104]⟩ : ByteArray) y183 y186 zopq ([] : List (S_Alias)) ([] : List (S_Trap)) 5 0 0 0 (⟨#[]⟩ : ByteArray) 0 0 0 false (⟨#[45]⟩ : ByteArray)).bind fun bt196 => ((some (([(⟨1, (⟨#[46]⟩ : ByteArray), false, ([] : List (S_Span))⟩ : S_PatItem), (⟨3, (⟨#[]⟩ : ByteArray), false, ([] : List (S_Span))⟩ : S_PatItem)] : List (S_PatItem)) : List (S_PatItem))).bind fun y198 => (if t190.toList = ([97, 58, 98] : List UInt8) then (if t191 = true then (if t192.toList = ([50] : List UInt8) then (if t193 = true then (if t194.toList = ([] : List UInt8) then (if t195 = true then (jobshelllaw17_awake.j0 k y198 true) else (if bt196.1.toList = ([101, 120] : List UInt8) then (if bt196.2 = true then ((param_Valid.f k (⟨#[48, 49]⟩ : ByteArray)).bind fun t201 => (if t201 = true then (jobshelllaw17_awake.j0 k y198 true) else ((param_Valid.f k (⟨#[49, 48]⟩ : ByteArray)).bind fun t202 => (jobshelllaw17_awake.j0 k y198 (!t202))))) else (jobshelllaw17_awake.j0 k y198 true)) else (jobshelllaw17_awake.j0 k y198 true))) else (jobshelllaw17_awake.j0 k y198 true)) else (jobshelllaw17_awake.j0 k y198 true)) else (jobshelllaw17_awake.j0 k y198 true)) else (jobshelllaw17_awake.j0 k y198 true)) else (jobshelllaw17_awake.j0 k y198 true)))) = some r := H
 have A3 := Aside0.mk A30
 clear A30
 replace H := Option.bind_eq_some_iff.mp H
 obtain ⟨⟨t196, t197⟩, A40, H⟩ := H
 replace H : ((some (([(⟨1, (⟨#[46]⟩ : ByteArray), false, ([] : List (S_Span))⟩ : S_PatItem), (⟨3, (⟨#[]⟩ : ByteArray), false, ([] : List (S_Span))⟩ : S_PatItem)] : List (S_PatItem)) : List (S_PatItem))).bind fun y198 => (if t190.toList = ([97, 58, 98] : List UInt8) then (if t191 = true then (if t192.toList = ([50] : List UInt8) then (if t193 = true then (if t194.toList = ([] : List UInt8) then (if t195 = true then (jobshelllaw17_awake.j0 k y198 true) else (if t196.toList = ([101, 120] : List UInt8) then (if t197 = true then ((param_Valid.f k (⟨#[48, 49]⟩ : ByteArray)).bind fun t201 => (if t201 = true then (jobshelllaw17_awake.j0 k y198 true) else ((param_Valid.f k (⟨#[49, 48]⟩ : ByteArray)).bind fun t202 => (jobshelllaw17_awake.j0 k y198 (!t202))))) else (jobshelllaw17_awake.j0 k y198 true)) else (jobshelllaw17_awake.j0 k y198 true))) else (jobshelllaw17_awake.j0 k y198 true)) else (jobshelllaw17_awake.j0 k y198 true)) else (jobshelllaw17_awake.j0 k y198 true)) else (jobshelllaw17_awake.j0 k y198 true)) else (jobshelllaw17_awake.j0 k y198 true))) = some r := H
 have A4 := Aside0.mk A40
 clear A40
 obtain ⟨y198, hy198⟩ : ∃ y_ : List (S_PatItem), y_ = (([(⟨1, (⟨#[46]⟩ : ByteArray), false, ([] : List (S_Span))⟩ : S_PatItem), (⟨3, (⟨#[]⟩ : ByteArray), false, ([] : List (S_Span))⟩ : S_PatItem)] : List (S_PatItem))) := ⟨_, rfl⟩
 replace H : (if t190.toList = ([97, 58, 98] : List UInt8) then (if t191 = true then (if t192.toList = ([50] : List UInt8) then (if t193 = true then (if t194.toList = ([] : List UInt8) then (if t195 = true then (jobshelllaw17_awake.j0 k y198 true) else (if t196.toList = ([101, 120] : List UInt8) then (if t197 = true then ((param_Valid.f k (⟨#[48, 49]⟩ : ByteArray)).bind fun t201 => (if t201 = true then (jobshelllaw17_awake.j0 k y198 true) else ((param_Valid.f k (⟨#[49, 48]⟩ : ByteArray)).bind fun t202 => (jobshelllaw17_awake.j0 k y198 (!t202))))) else (jobshelllaw17_awake.j0 k y198 true)) else (jobshelllaw17_awake.j0 k y198 true))) else (jobshelllaw17_awake.j0 k y198 true)) else (jobshelllaw17_awake.j0 k y198 true)) else (jobshelllaw17_awake.j0 k y198 true)) else (jobshelllaw17_awake.j0 k y198 true)) else (jobshelllaw17_awake.j0 k y198 true)) = some r := by first | (rw [hy198]; with_reducible exact H) | (have H2_ := (Option.bind_some _ _).symm.trans H; rw [hy198]; with_reducible exact H2_) | (have H2_ := (Option.bind_some _ _).symm.trans H; with_reducible exact H2_) | with_reducible exact H | (rw [hy198]; exact H) | exact H
 have Ny198 := Aside0.mk hy198
 clear hy198
 have HC5 := Aside0.mk H
 clear H
 go_enter Tryd.func10, Tryd.ntmps10
 go_upto_region 7 with (first | ((with_reducible refine gate_dst (N := 12) rfl ?_); refine Kd.R_lit k_Var _ 49 ?hg (N := 12) ?hd (xs := ([(⟨(⟨#[73, 70, 83]⟩ : ByteArray), (⟨#[58]⟩ : ByteArray), true, false, false⟩ : S_Var)] : List (S_Var))) (inner := [.string (⟨#[73, 70, 83]⟩ : ByteArray), .string (⟨#[58]⟩ : ByteArray), .bool true, .bool false, .bool false]) (ok := fun _ => True) (okp := fun _ => True) ?hr ?hp (fun _ hk => hk) trivial (Below.refl _ _) (Nat.le_refl _) (by simp) ?_; (case hd => rfl); (case hg => rfl); (case hr => first | (go_simp; done) | (go_simp; rfl)); (case hp => exact (Reps.c5 (show Kd.M k_Var _ _ _ (⟨(⟨#[73, 70, 83]⟩ : ByteArray), (⟨#[58]⟩ : ByteArray), true, false, false⟩ : S_Var) [.string (⟨#[73, 70, 83]⟩ : ByteArray), .string (⟨#[58]⟩ : ByteArray), .bool true, .bool false, .bool false] from (k_Var_mkM _ _ _ (⟨(⟨#[73, 70, 83]⟩ : ByteArray), (⟨#[58]⟩ : ByteArray), true, false, false⟩ : S_Var) )) (Reps.none _ _))); intro v184 w6 ho7 hb hg_ hnew_; clear hg_ hnew_; (first | rw [← Ny183.out] at ho7 | (simp only [Int.reduceToNat] at ho7; rw [← Ny183.out] at ho7)); have n0_ := Aside0.mk (Kd.R_lower ho7 (below_size (by repeat (first | (with_reducible first | exact HB.out | apply below_alloc | apply pw_below_drewN | apply below_drew1) | exact HB.out)))); have n1_ := Aside0.mk (below_step (by repeat (first | (with_reducible first | exact HB.out | apply below_alloc | apply pw_below_drewN | apply below_drew1) | exact HB.out)) hb); clear HB; have HO185 := n0_; have HB := n1_; clear n0_ n1_; clear hb ho7) | ((with_reducible refine gate_dst (N := 13) rfl ?_); refine Kd.R_lit Kd.string _ 9 ?hg (N := 13) ?hd (xs := ([(⟨#[97]⟩ : ByteArray), (⟨#[98]⟩ : ByteArray)] : List ByteArray)) (inner := [.string (⟨#[97]⟩ : ByteArray), .string (⟨#[98]⟩ : ByteArray)]) (ok := fun _ => True) (okp := fun _ => True) ?hr ?hp (fun _ hk => hk) trivial (Below.refl _ _) (Nat.le_refl _) (by simp) ?_; (case hd => rfl); (case hg => rfl); (case hr => first | (go_simp; done) | (go_simp; rfl)); (case hp => exact (Reps.one (show Kd.M Kd.string _ _ _ (⟨#[97]⟩ : ByteArray) [.string (⟨#[97]⟩ : ByteArray)] from rfl) (Reps.one (show Kd.M Kd.string _ _ _ (⟨#[98]⟩ : ByteArray) [.string (⟨#[98]⟩ : ByteArray)] from rfl) (Reps.none _ _)))); intro v187 w8 ho9 hb hg_ hnew_; clear hg_ hnew_; (first | rw [← Ny186.out] at ho9 | (simp only [Int.reduceToNat] at ho9; rw [← Ny186.out] at ho9)); have n0_ := Aside0.mk (Kd.R_below (by (with_reducible repeat (first | apply Kd.R_alloc | apply Kd.R_drewN | apply Kd.R_drew)); exact HO185.out) hb); have n1_ := Aside0.mk (Kd.R_lower ho9 (below_size (by repeat (first | (with_reducible first | exact HB.out | apply below_alloc | apply pw_below_drewN | apply below_drew1) | exact HB.out)))); have n2_ := Aside0.mk (below_step (by repeat (first | (with_reducible first | exact HB.out | apply below_alloc | apply pw_below_drewN | apply below_drew1) | exact HB.out)) hb); clear HO185; clear HB; have HO185 := n0_; have HO188 := n1_; have HB := n2_; clear n0_ n1_ n2_; clear hb ho9; obtain ⟨Ao10, co10, eo10⟩ := Kd.R_slice HO188.out; subst eo10; obtain ⟨Ao11, co11, eo11⟩ := Kd.R_slice HO185.out; subst eo11) | ((with_reducible refine gate_dst (N := 1) rfl ?_); refine box_event ?hg (N := 1) ?hd (cs := #[.string (⟨#[]⟩ : ByteArray), .slice none 0 0, .slice none 0 0, .slice none 0 0, .slice none 0 0, .slice none 0 0, .int .i64 0, .int .i64 0, .int .i64 0, .int .i64 0, .string (⟨#[]⟩ : ByteArray), .int .i64 0, .int .i64 0, .int .i64 0, .bool false]) (t := 30) ?hr ?_; (case hd => rfl); (case hg => rfl); (case hr => first | (go_simp; done) | (go_simp; rfl)); intro gb189 hg w12 hbox hb; have n0_ := Aside0.mk (Kd.R_below (by (with_reducible repeat (first | apply Kd.R_alloc | apply Kd.R_drewN | apply Kd.R_drew)); exact HO185.out) hb); have n1_ := Aside0.mk (Kd.R_below (by (with_reducible repeat (first | apply Kd.R_alloc | apply Kd.R_drewN | apply Kd.R_drew)); exact HO188.out) hb); have n2_ := Aside0.mk (below_step (by repeat (first | (with_reducible first | exact HB.out | apply below_alloc | apply pw_below_drewN | apply below_drew1) | exact HB.out)) hb); have n3_ := Aside0.mk (hbox); have n4_ := Aside0.mk ((by rw [hg]; exact (below_size (by repeat (first | (with_reducible first | exact HB.out | apply below_alloc | apply pw_below_drewN | apply below_drew1) | exact HB.out))) : w.heap.size ≤ gb189)); have n5_ := Aside0.mk ((by rw [hg]; exact (below_size (by repeat (first | (with_reducible first | exact HB.out | apply below_alloc | apply pw_below_drewN | apply below_drew1) | exact HB.out))) : w.heap.size ≤ gb189)); clear HO185; clear HO188; clear HB; have HO185 := n0_; have HO188 := n1_; have HB := n2_; have BK189 := n3_; have GW189 := n4_; have GE189 := n5_; clear n0_ n1_ n2_ n3_ n4_ n5_; clear hb hbox hg; have hcz13_0 : w12.cell? ⟨gb189, 0, none⟩ = some (.string (⟨#[]⟩ : ByteArray)) := (blk_cell BK189.out 0).trans rfl; have hcz13_1 : w12.cell? ⟨gb189, 1, none⟩ = some (.slice none 0 0) := (blk_cell BK189.out 1).trans rfl; have hcz13_2 : w12.cell? ⟨gb189, 2, none⟩ = some (.slice none 0 0) := (blk_cell BK189.out 2).trans rfl; have hcz13_3 : w12.cell? ⟨gb189, 3, none⟩ = some (.slice none 0 0) := (blk_cell BK189.out 3).trans rfl; have hcz13_4 : w12.cell? ⟨gb189, 4, none⟩ = some (.slice none 0 0) := (blk_cell BK189.out 4).trans rfl; have hcz13_5 : w12.cell? ⟨gb189, 5, none⟩ = some (.slice none 0 0) := (blk_cell BK189.out 5).trans rfl; have hcz13_6 : w12.cell? ⟨gb189, 6, none⟩ = some (.int .i64 0) := (blk_cell BK189.out 6).trans rfl; have hcz13_7 : w12.cell? ⟨gb189, 7, none⟩ = some (.int .i64 0) := (blk_cell BK189.out 7).trans rfl; have hcz13_8 : w12.cell? ⟨gb189, 8, none⟩ = some (.int .i64 0) := (blk_cell BK189.out 8).trans rfl; have hcz13_9 : w12.cell? ⟨gb189, 9, none⟩ = some (.int .i64 0) := (blk_cell BK189.out 9).trans rfl; have hcz13_10 : w12.cell? ⟨gb189, 10, none⟩ = some (.string (⟨#[]⟩ : ByteArray)) := (blk_cell BK189.out 10).trans rfl; have hcz13_11 : w12.cell? ⟨gb189, 11, none⟩ = some (.int .i64 0) := (blk_cell BK189.out 11).trans rfl; have hcz13_12 : w12.cell? ⟨gb189, 12, none⟩ = some (.int .i64 0) := (blk_cell BK189.out 12).trans rfl; have hcz13_13 : w12.cell? ⟨gb189, 13, none⟩ = some (.int .i64 0) := (blk_cell BK189.out 13).trans rfl; have hcz13_14 : w12.cell? ⟨gb189, 14, none⟩ = some (.bool false) := (blk_cell BK189.out 14).trans rfl; have hfz13_0 := blk_frozen BK189.out 0; have hfz13_1 := blk_frozen BK189.out 1; have hfz13_2 := blk_frozen BK189.out 2; have hfz13_3 := blk_frozen BK189.out 3; have hfz13_4 := blk_frozen BK189.out 4; have hfz13_5 := blk_frozen BK189.out 5; have hfz13_6 := blk_frozen BK189.out 6; have hfz13_7 := blk_frozen BK189.out 7; have hfz13_8 := blk_frozen BK189.out 8; have hfz13_9 := blk_frozen BK189.out 9; have hfz13_10 := blk_frozen BK189.out 10; have hfz13_11 := blk_frozen BK189.out 11; have hfz13_12 := blk_frozen BK189.out 12; have hfz13_13 := blk_frozen BK189.out 13; have hfz13_14 := blk_frozen BK189.out 14) | ((with_reducible refine gate_callee (f := 11) rfl ?_); refine goesL_ (some 17) rfl rfl Tryd.func11 (by kernel_rfl) rfl #[.agg #[.string (⟨#[115, 104]⟩ : ByteArray), .slice Ao11 y183.length co11, .slice Ao10 y186.length co10, .slice none 0 0, .slice none 0 0, .slice none 0 0, .int .i64 5, .int .i64 0, .int .i64 0, .int .i64 0, .string (⟨#[]⟩ : ByteArray), .int .i64 0, .int .i64 0, .int .i64 0, .bool false], .string (⟨#[42]⟩ : ByteArray)] rfl (by (try simp only [List.map_toArray, List.map_cons, List.map_nil]); first | done | rfl | (simp only [List.length_drop, List.length_take]; rfl)) ?_; (refine (param_Value.calls k (⟨#[115, 104]⟩ : ByteArray) _ _ y183 _ _ y186 zopq _ _ ([] : List (S_Alias)) _ _ ([] : List (S_Trap)) 5 0 0 0 (⟨#[]⟩ : ByteArray) 0 0 0 false (⟨#[42]⟩ : ByteArray) t190 t191 _ ?side1 ?side2 ?side3 ?side4 ?side5 ?side6 ?side7 ?side8 ?side9 A1.out).mono ?_); (case side1 => refine (Kd.R_reads' (e := 49) (base := w.heap.size) (ok := fun k_ => True) (n := y183.length) (c := co11) ?_).2.2; exact (by (with_reducible repeat (first | apply Kd.R_alloc | apply Kd.R_drewN | apply Kd.R_drew)); exact (Kd.R_mono (Kd.R_far (p := ⟨gb189, 14, none⟩) (Kd.R_far (p := ⟨gb189, 13, none⟩) (Kd.R_far (p := ⟨gb189, 12, none⟩) (Kd.R_far (p := ⟨gb189, 11, none⟩) (Kd.R_far (p := ⟨gb189, 10, none⟩) (Kd.R_far (p := ⟨gb189, 9, none⟩) (Kd.R_far (p := ⟨gb189, 8, none⟩) (Kd.R_far (p := ⟨gb189, 7, none⟩) (Kd.R_far (p := ⟨gb189, 6, none⟩) (Kd.R_far (p := ⟨gb189, 5, none⟩) (Kd.R_far (p := ⟨gb189, 4, none⟩) (Kd.R_far (p := ⟨gb189, 3, none⟩) (Kd.R_far (p := ⟨gb189, 2, none⟩) (Kd.R_far (p := ⟨gb189, 1, none⟩) (Kd.R_far (p := ⟨gb189, 0, none⟩) (Kd.R_types HO185.out BK189.out (by decide)) (fun _ hk => hk.2) (.string (⟨#[115, 104]⟩ : ByteArray))) (fun _ hk => hk.2) (.slice Ao11 y183.length co11)) (fun _ hk => hk.2) (.slice Ao10 y186.length co10)) (fun _ hk => hk.2) (.slice none 0 0)) (fun _ hk => hk.2) (.slice none 0 0)) (fun _ hk => hk.2) (.slice none 0 0)) (fun _ hk => hk.2) (.int .i64 5)) (fun _ hk => hk.2) (.int .i64 0)) (fun _ hk => hk.2) (.int .i64 0)) (fun _ hk => hk.2) (.int .i64 0)) (fun _ hk => hk.2) (.string (⟨#[]⟩ : ByteArray))) (fun _ hk => hk.2) (.int .i64 0)) (fun _ hk => hk.2) (.int .i64 0)) (fun _ hk => hk.2) (.int .i64 0)) (fun _ hk => hk.2) (.bool false)) (fun _ h_ => h_.1)))); (case side2 => exact (Kd.R_reads' HO185.out).2.1); (case side3 => refine (Kd.R_reads' (e := 9) (base := w.heap.size) (ok := fun k_ => True) (n := y186.length) (c := co10) ?_).2.2; exact (by (with_reducible repeat (first | apply Kd.R_alloc | apply Kd.R_drewN | apply Kd.R_drew)); exact (Kd.R_mono (Kd.R_far (p := ⟨gb189, 14, none⟩) (Kd.R_far (p := ⟨gb189, 13, none⟩) (Kd.R_far (p := ⟨gb189, 12, none⟩) (Kd.R_far (p := ⟨gb189, 11, none⟩) (Kd.R_far (p := ⟨gb189, 10, none⟩) (Kd.R_far (p := ⟨gb189, 9, none⟩) (Kd.R_far (p := ⟨gb189, 8, none⟩) (Kd.R_far (p := ⟨gb189, 7, none⟩) (Kd.R_far (p := ⟨gb189, 6, none⟩) (Kd.R_far (p := ⟨gb189, 5, none⟩) (Kd.R_far (p := ⟨gb189, 4, none⟩) (Kd.R_far (p := ⟨gb189, 3, none⟩) (Kd.R_far (p := ⟨gb189, 2, none⟩) (Kd.R_far (p := ⟨gb189, 1, none⟩) (Kd.R_far (p := ⟨gb189, 0, none⟩) (Kd.R_types HO188.out BK189.out (by decide)) (fun _ hk => hk.2) (.string (⟨#[115, 104]⟩ : ByteArray))) (fun _ hk => hk.2) (.slice Ao11 y183.length co11)) (fun _ hk => hk.2) (.slice Ao10 y186.length co10)) (fun _ hk => hk.2) (.slice none 0 0)) (fun _ hk => hk.2) (.slice none 0 0)) (fun _ hk => hk.2) (.slice none 0 0)) (fun _ hk => hk.2) (.int .i64 5)) (fun _ hk => hk.2) (.int .i64 0)) (fun _ hk => hk.2) (.int .i64 0)) (fun _ hk => hk.2) (.int .i64 0)) (fun _ hk => hk.2) (.string (⟨#[]⟩ : ByteArray))) (fun _ hk => hk.2) (.int .i64 0)) (fun _ hk => hk.2) (.int .i64 0)) (fun _ hk => hk.2) (.int .i64 0)) (fun _ hk => hk.2) (.bool false)) (fun _ h_ => h_.1)))); (case side4 => exact (Kd.R_reads' HO188.out).2.1); (case side5 => exact Kd.C_nil _ _); (case side6 => exact Nat.le_refl _); (case side7 => exact Kd.C_nil _ _); (case side8 => exact Nat.le_refl _); (case side9 => exact AmbC_below HAMB.out (by repeat (first | (with_reducible first | exact HB.out | apply below_alloc | apply pw_below_drewN | apply below_drew1 | refine below_set ?_ GE189.out) | exact HB.out))); rintro e w14 ⟨rfl, hb⟩; refine ⟨_, rfl, ?_⟩; have n0_ := Aside0.mk (Kd.R_below (by (with_reducible repeat (first | apply Kd.R_alloc | apply Kd.R_drewN | apply Kd.R_drew)); exact (Kd.R_mono (Kd.R_far (p := ⟨gb189, 14, none⟩) (Kd.R_far (p := ⟨gb189, 13, none⟩) (Kd.R_far (p := ⟨gb189, 12, none⟩) (Kd.R_far (p := ⟨gb189, 11, none⟩) (Kd.R_far (p := ⟨gb189, 10, none⟩) (Kd.R_far (p := ⟨gb189, 9, none⟩) (Kd.R_far (p := ⟨gb189, 8, none⟩) (Kd.R_far (p := ⟨gb189, 7, none⟩) (Kd.R_far (p := ⟨gb189, 6, none⟩) (Kd.R_far (p := ⟨gb189, 5, none⟩) (Kd.R_far (p := ⟨gb189, 4, none⟩) (Kd.R_far (p := ⟨gb189, 3, none⟩) (Kd.R_far (p := ⟨gb189, 2, none⟩) (Kd.R_far (p := ⟨gb189, 1, none⟩) (Kd.R_far (p := ⟨gb189, 0, none⟩) (Kd.R_types HO185.out BK189.out (by decide)) (fun _ hk => hk.2) (.string (⟨#[115, 104]⟩ : ByteArray))) (fun _ hk => hk.2) (.slice Ao11 y183.length co11)) (fun _ hk => hk.2) (.slice Ao10 y186.length co10)) (fun _ hk => hk.2) (.slice none 0 0)) (fun _ hk => hk.2) (.slice none 0 0)) (fun _ hk => hk.2) (.slice none 0 0)) (fun _ hk => hk.2) (.int .i64 5)) (fun _ hk => hk.2) (.int .i64 0)) (fun _ hk => hk.2) (.int .i64 0)) (fun _ hk => hk.2) (.int .i64 0)) (fun _ hk => hk.2) (.string (⟨#[]⟩ : ByteArray))) (fun _ hk => hk.2) (.int .i64 0)) (fun _ hk => hk.2) (.int .i64 0)) (fun _ hk => hk.2) (.int .i64 0)) (fun _ hk => hk.2) (.bool false)) (fun _ h_ => h_.1))) hb); have n1_ := Aside0.mk (Kd.R_below (by (with_reducible repeat (first | apply Kd.R_alloc | apply Kd.R_drewN | apply Kd.R_drew)); exact (Kd.R_mono (Kd.R_far (p := ⟨gb189, 14, none⟩) (Kd.R_far (p := ⟨gb189, 13, none⟩) (Kd.R_far (p := ⟨gb189, 12, none⟩) (Kd.R_far (p := ⟨gb189, 11, none⟩) (Kd.R_far (p := ⟨gb189, 10, none⟩) (Kd.R_far (p := ⟨gb189, 9, none⟩) (Kd.R_far (p := ⟨gb189, 8, none⟩) (Kd.R_far (p := ⟨gb189, 7, none⟩) (Kd.R_far (p := ⟨gb189, 6, none⟩) (Kd.R_far (p := ⟨gb189, 5, none⟩) (Kd.R_far (p := ⟨gb189, 4, none⟩) (Kd.R_far (p := ⟨gb189, 3, none⟩) (Kd.R_far (p := ⟨gb189, 2, none⟩) (Kd.R_far (p := ⟨gb189, 1, none⟩) (Kd.R_far (p := ⟨gb189, 0, none⟩) (Kd.R_types HO188.out BK189.out (by decide)) (fun _ hk => hk.2) (.string (⟨#[115, 104]⟩ : ByteArray))) (fun _ hk => hk.2) (.slice Ao11 y183.length co11)) (fun _ hk => hk.2) (.slice Ao10 y186.length co10)) (fun _ hk => hk.2) (.slice none 0 0)) (fun _ hk => hk.2) (.slice none 0 0)) (fun _ hk => hk.2) (.slice none 0 0)) (fun _ hk => hk.2) (.int .i64 5)) (fun _ hk => hk.2) (.int .i64 0)) (fun _ hk => hk.2) (.int .i64 0)) (fun _ hk => hk.2) (.int .i64 0)) (fun _ hk => hk.2) (.string (⟨#[]⟩ : ByteArray))) (fun _ hk => hk.2) (.int .i64 0)) (fun _ hk => hk.2) (.int .i64 0)) (fun _ hk => hk.2) (.int .i64 0)) (fun _ hk => hk.2) (.bool false)) (fun _ h_ => h_.1))) hb); have n2_ := Aside0.mk (blk_below (g := gb189) (o := .cells #[.string (⟨#[115, 104]⟩ : ByteArray), .slice Ao11 y183.length co11, .slice Ao10 y186.length co10, .slice none 0 0, .slice none 0 0, .slice none 0 0, .int .i64 5, .int .i64 0, .int .i64 0, .int .i64 0, .string (⟨#[]⟩ : ByteArray), .int .i64 0, .int .i64 0, .int .i64 0, .bool false] 30 (0, 0)) (by (with_reducible repeat (first | refine blk_drewN ?_ _ | refine blk_drew ?_ | refine blk_alloc ?_ _)); refine blk_put (cs := #[.string (⟨#[115, 104]⟩ : ByteArray), .slice Ao11 y183.length co11, .slice Ao10 y186.length co10, .slice none 0 0, .slice none 0 0, .slice none 0 0, .int .i64 5, .int .i64 0, .int .i64 0, .int .i64 0, .string (⟨#[]⟩ : ByteArray), .int .i64 0, .int .i64 0, .int .i64 0, .bool false]) ?_ 14 _ rfl; (with_reducible repeat (first | refine blk_drewN ?_ _ | refine blk_drew ?_ | refine blk_alloc ?_ _)); refine blk_put (cs := #[.string (⟨#[115, 104]⟩ : ByteArray), .slice Ao11 y183.length co11, .slice Ao10 y186.length co10, .slice none 0 0, .slice none 0 0, .slice none 0 0, .int .i64 5, .int .i64 0, .int .i64 0, .int .i64 0, .string (⟨#[]⟩ : ByteArray), .int .i64 0, .int .i64 0, .int .i64 0, .bool false]) ?_ 13 _ rfl; (with_reducible repeat (first | refine blk_drewN ?_ _ | refine blk_drew ?_ | refine blk_alloc ?_ _)); refine blk_put (cs := #[.string (⟨#[115, 104]⟩ : ByteArray), .slice Ao11 y183.length co11, .slice Ao10 y186.length co10, .slice none 0 0, .slice none 0 0, .slice none 0 0, .int .i64 5, .int .i64 0, .int .i64 0, .int .i64 0, .string (⟨#[]⟩ : ByteArray), .int .i64 0, .int .i64 0, .int .i64 0, .bool false]) ?_ 12 _ rfl; (with_reducible repeat (first | refine blk_drewN ?_ _ | refine blk_drew ?_ | refine blk_alloc ?_ _)); refine blk_put (cs := #[.string (⟨#[115, 104]⟩ : ByteArray), .slice Ao11 y183.length co11, .slice Ao10 y186.length co10, .slice none 0 0, .slice none 0 0, .slice none 0 0, .int .i64 5, .int .i64 0, .int .i64 0, .int .i64 0, .string (⟨#[]⟩ : ByteArray), .int .i64 0, .int .i64 0, .int .i64 0, .bool false]) ?_ 11 _ rfl; (with_reducible repeat (first | refine blk_drewN ?_ _ | refine blk_drew ?_ | refine blk_alloc ?_ _)); refine blk_put (cs := #[.string (⟨#[115, 104]⟩ : ByteArray), .slice Ao11 y183.length co11, .slice Ao10 y186.length co10, .slice none 0 0, .slice none 0 0, .slice none 0 0, .int .i64 5, .int .i64 0, .int .i64 0, .int .i64 0, .string (⟨#[]⟩ : ByteArray), .int .i64 0, .int .i64 0, .int .i64 0, .bool false]) ?_ 10 _ rfl; (with_reducible repeat (first | refine blk_drewN ?_ _ | refine blk_drew ?_ | refine blk_alloc ?_ _)); refine blk_put (cs := #[.string (⟨#[115, 104]⟩ : ByteArray), .slice Ao11 y183.length co11, .slice Ao10 y186.length co10, .slice none 0 0, .slice none 0 0, .slice none 0 0, .int .i64 5, .int .i64 0, .int .i64 0, .int .i64 0, .string (⟨#[]⟩ : ByteArray), .int .i64 0, .int .i64 0, .int .i64 0, .bool false]) ?_ 9 _ rfl; (with_reducible repeat (first | refine blk_drewN ?_ _ | refine blk_drew ?_ | refine blk_alloc ?_ _)); refine blk_put (cs := #[.string (⟨#[115, 104]⟩ : ByteArray), .slice Ao11 y183.length co11, .slice Ao10 y186.length co10, .slice none 0 0, .slice none 0 0, .slice none 0 0, .int .i64 5, .int .i64 0, .int .i64 0, .int .i64 0, .string (⟨#[]⟩ : ByteArray), .int .i64 0, .int .i64 0, .int .i64 0, .bool false]) ?_ 8 _ rfl; (with_reducible repeat (first | refine blk_drewN ?_ _ | refine blk_drew ?_ | refine blk_alloc ?_ _)); refine blk_put (cs := #[.string (⟨#[115, 104]⟩ : ByteArray), .slice Ao11 y183.length co11, .slice Ao10 y186.length co10, .slice none 0 0, .slice none 0 0, .slice none 0 0, .int .i64 5, .int .i64 0, .int .i64 0, .int .i64 0, .string (⟨#[]⟩ : ByteArray), .int .i64 0, .int .i64 0, .int .i64 0, .bool false]) ?_ 7 _ rfl; (with_reducible repeat (first | refine blk_drewN ?_ _ | refine blk_drew ?_ | refine blk_alloc ?_ _)); refine blk_put (cs := #[.string (⟨#[115, 104]⟩ : ByteArray), .slice Ao11 y183.length co11, .slice Ao10 y186.length co10, .slice none 0 0, .slice none 0 0, .slice none 0 0, .int .i64 0, .int .i64 0, .int .i64 0, .int .i64 0, .string (⟨#[]⟩ : ByteArray), .int .i64 0, .int .i64 0, .int .i64 0, .bool false]) ?_ 6 _ rfl; (with_reducible repeat (first | refine blk_drewN ?_ _ | refine blk_drew ?_ | refine blk_alloc ?_ _)); refine blk_put (cs := #[.string (⟨#[115, 104]⟩ : ByteArray), .slice Ao11 y183.length co11, .slice Ao10 y186.length co10, .slice none 0 0, .slice none 0 0, .slice none 0 0, .int .i64 0, .int .i64 0, .int .i64 0, .int .i64 0, .string (⟨#[]⟩ : ByteArray), .int .i64 0, .int .i64 0, .int .i64 0, .bool false]) ?_ 5 _ rfl; (with_reducible repeat (first | refine blk_drewN ?_ _ | refine blk_drew ?_ | refine blk_alloc ?_ _)); refine blk_put (cs := #[.string (⟨#[115, 104]⟩ : ByteArray), .slice Ao11 y183.length co11, .slice Ao10 y186.length co10, .slice none 0 0, .slice none 0 0, .slice none 0 0, .int .i64 0, .int .i64 0, .int .i64 0, .int .i64 0, .string (⟨#[]⟩ : ByteArray), .int .i64 0, .int .i64 0, .int .i64 0, .bool false]) ?_ 4 _ rfl; (with_reducible repeat (first | refine blk_drewN ?_ _ | refine blk_drew ?_ | refine blk_alloc ?_ _)); refine blk_put (cs := #[.string (⟨#[115, 104]⟩ : ByteArray), .slice Ao11 y183.length co11, .slice Ao10 y186.length co10, .slice none 0 0, .slice none 0 0, .slice none 0 0, .int .i64 0, .int .i64 0, .int .i64 0, .int .i64 0, .string (⟨#[]⟩ : ByteArray), .int .i64 0, .int .i64 0, .int .i64 0, .bool false]) ?_ 3 _ rfl; (with_reducible repeat (first | refine blk_drewN ?_ _ | refine blk_drew ?_ | refine blk_alloc ?_ _)); refine blk_put (cs := #[.string (⟨#[115, 104]⟩ : ByteArray), .slice Ao11 y183.length co11, .slice none 0 0, .slice none 0 0, .slice none 0 0, .slice none 0 0, .int .i64 0, .int .i64 0, .int .i64 0, .int .i64 0, .string (⟨#[]⟩ : ByteArray), .int .i64 0, .int .i64 0, .int .i64 0, .bool false]) ?_ 2 _ rfl; (with_reducible repeat (first | refine blk_drewN ?_ _ | refine blk_drew ?_ | refine blk_alloc ?_ _)); refine blk_put (cs := #[.string (⟨#[115, 104]⟩ : ByteArray), .slice none 0 0, .slice none 0 0, .slice none 0 0, .slice none 0 0, .slice none 0 0, .int .i64 0, .int .i64 0, .int .i64 0, .int .i64 0, .string (⟨#[]⟩ : ByteArray), .int .i64 0, .int .i64 0, .int .i64 0, .bool false]) ?_ 1 _ rfl; (with_reducible repeat (first | refine blk_drewN ?_ _ | refine blk_drew ?_ | refine blk_alloc ?_ _)); refine blk_put (cs := #[.string (⟨#[]⟩ : ByteArray), .slice none 0 0, .slice none 0 0, .slice none 0 0, .slice none 0 0, .slice none 0 0, .int .i64 0, .int .i64 0, .int .i64 0, .int .i64 0, .string (⟨#[]⟩ : ByteArray), .int .i64 0, .int .i64 0, .int .i64 0, .bool false]) ?_ 0 _ rfl; (with_reducible repeat (first | refine blk_drewN ?_ _ | refine blk_drew ?_ | refine blk_alloc ?_ _)); exact BK189.out) hb); have n3_ := Aside0.mk (below_step (by repeat (first | (with_reducible first | exact HB.out | apply below_alloc | apply pw_below_drewN | apply below_drew1 | refine below_set ?_ GE189.out) | exact HB.out)) hb); clear HO185; clear HO188; clear BK189; clear HB; have HO185 := n0_; have HO188 := n1_; have BK189 := n2_; have HB := n3_; clear n0_ n1_ n2_ n3_; (try clear hb); (try clear hb2); (try clear hk); (try clear hi); have hcz15_0 : w14.cell? ⟨gb189, 0, none⟩ = some (.string (⟨#[115, 104]⟩ : ByteArray)) := (blk_cell BK189.out 0).trans rfl; have hcz15_1 : w14.cell? ⟨gb189, 1, none⟩ = some (.slice Ao11 y183.length co11) := (blk_cell BK189.out 1).trans rfl; have hcz15_2 : w14.cell? ⟨gb189, 2, none⟩ = some (.slice Ao10 y186.length co10) := (blk_cell BK189.out 2).trans rfl; have hcz15_3 : w14.cell? ⟨gb189, 3, none⟩ = some (.slice none 0 0) := (blk_cell BK189.out 3).trans rfl; have hcz15_4 : w14.cell? ⟨gb189, 4, none⟩ = some (.slice none 0 0) := (blk_cell BK189.out 4).trans rfl; have hcz15_5 : w14.cell? ⟨gb189, 5, none⟩ = some (.slice none 0 0) := (blk_cell BK189.out 5).trans rfl; have hcz15_6 : w14.cell? ⟨gb189, 6, none⟩ = some (.int .i64 5) := (blk_cell BK189.out 6).trans rfl; have hcz15_7 : w14.cell? ⟨gb189, 7, none⟩ = some (.int .i64 0) := (blk_cell BK189.out 7).trans rfl; have hcz15_8 : w14.cell? ⟨gb189, 8, none⟩ = some (.int .i64 0) := (blk_cell BK189.out 8).trans rfl; have hcz15_9 : w14.cell? ⟨gb189, 9, none⟩ = some (.int .i64 0) := (blk_cell BK189.out 9).trans rfl; have hcz15_10 : w14.cell? ⟨gb189, 10, none⟩ = some (.string (⟨#[]⟩ : ByteArray)) := (blk_cell BK189.out 10).trans rfl; have hcz15_11 : w14.cell? ⟨gb189, 11, none⟩ = some (.int .i64 0) := (blk_cell BK189.out 11).trans rfl; have hcz15_12 : w14.cell? ⟨gb189, 12, none⟩ = some (.int .i64 0) := (blk_cell BK189.out 12).trans rfl; have hcz15_13 : w14.cell? ⟨gb189, 13, none⟩ = some (.int .i64 0) := (blk_cell BK189.out 13).trans rfl; have hcz15_14 : w14.cell? ⟨gb189, 14, none⟩ = some (.bool false) := (blk_cell BK189.out 14).trans rfl; have hfz15_0 := blk_frozen BK189.out 0; have hfz15_1 := blk_frozen BK189.out 1; have hfz15_2 := blk_frozen BK189.out 2; have hfz15_3 := blk_frozen BK189.out 3; have hfz15_4 := blk_frozen BK189.out 4; have hfz15_5 := blk_frozen BK189.out 5; have hfz15_6 := blk_frozen BK189.out 6; have hfz15_7 := blk_frozen BK189.out 7; have hfz15_8 := blk_frozen BK189.out 8; have hfz15_9 := blk_frozen BK189.out 9; have hfz15_10 := blk_frozen BK189.out 10; have hfz15_11 := blk_frozen BK189.out 11; have hfz15_12 := blk_frozen BK189.out 12; have hfz15_13 := blk_frozen BK189.out 13; have hfz15_14 := blk_frozen BK189.out 14) | ((with_reducible refine gate_callee (f := 11) rfl ?_); refine goesL_ (some 22) rfl rfl Tryd.func11 (by kernel_rfl) rfl #[.agg #[.string (⟨#[115, 104]⟩ : ByteArray), .slice Ao11 y183.length co11, .slice Ao10 y186.length co10, .slice none 0 0, .slice none 0 0, .slice none 0 0, .int .i64 5, .int .i64 0, .int .i64 0, .int .i64 0, .string (⟨#[]⟩ : ByteArray), .int .i64 0, .int .i64 0, .int .i64 0, .bool false], .string (⟨#[35]⟩ : ByteArray)] rfl (by (try simp only [List.map_toArray, List.map_cons, List.map_nil]); first | done | rfl | (simp only [List.length_drop, List.length_take]; rfl)) ?_; (refine (param_Value.calls k (⟨#[115, 104]⟩ : ByteArray) _ _ y183 _ _ y186 zopq _ _ ([] : List (S_Alias)) _ _ ([] : List (S_Trap)) 5 0 0 0 (⟨#[]⟩ : ByteArray) 0 0 0 false (⟨#[35]⟩ : ByteArray) t192 t193 _ ?side1 ?side2 ?side3 ?side4 ?side5 ?side6 ?side7 ?side8 ?side9 A2.out).mono ?_); (case side1 => repeat (first | exact (Kd.R_reads' HO185.out).2.2 | (with_reducible refine Kd.C_alloc ?_ _) | (with_reducible refine Kd.C_drewN ?_ _) | (with_reducible refine Kd.C_drew ?_))); (case side2 => exact (Kd.R_reads' HO185.out).2.1); (case side3 => repeat (first | exact (Kd.R_reads' HO188.out).2.2 | (with_reducible refine Kd.C_alloc ?_ _) | (with_reducible refine Kd.C_drewN ?_ _) | (with_reducible refine Kd.C_drew ?_))); (case side4 => exact (Kd.R_reads' HO188.out).2.1); (case side5 => exact Kd.C_nil _ _); (case side6 => exact Nat.le_refl _); (case side7 => exact Kd.C_nil _ _); (case side8 => exact Nat.le_refl _); (case side9 => repeat (first | exact (AmbC_below HAMB.out HB.out) | (with_reducible refine AmbC_alloc ?_ _) | (with_reducible refine AmbC_drewN ?_ _) | (with_reducible refine AmbC_drew ?_))); rintro e w16 ⟨rfl, hb⟩; refine ⟨_, rfl, ?_⟩; have n0_ := Aside0.mk (Kd.R_below (by (with_reducible repeat (first | apply Kd.R_alloc | apply Kd.R_drewN | apply Kd.R_drew)); exact HO185.out) hb); have n1_ := Aside0.mk (Kd.R_below (by (with_reducible repeat (first | apply Kd.R_alloc | apply Kd.R_drewN | apply Kd.R_drew)); exact HO188.out) hb); have n2_ := Aside0.mk (blk_below (g := gb189) (o := .cells #[.string (⟨#[115, 104]⟩ : ByteArray), .slice Ao11 y183.length co11, .slice Ao10 y186.length co10, .slice none 0 0, .slice none 0 0, .slice none 0 0, .int .i64 5, .int .i64 0, .int .i64 0, .int .i64 0, .string (⟨#[]⟩ : ByteArray), .int .i64 0, .int .i64 0, .int .i64 0, .bool false] 30 (0, 0)) (by (with_reducible repeat (first | refine blk_drewN ?_ _ | refine blk_drew ?_ | refine blk_alloc ?_ _)); exact BK189.out) hb); have n3_ := Aside0.mk (below_step (by repeat (first | (with_reducible first | exact HB.out | apply below_alloc | apply pw_below_drewN | apply below_drew1 | refine below_set ?_ GE189.out) | exact HB.out)) hb); clear HO185; clear HO188; clear BK189; clear HB; have HO185 := n0_; have HO188 := n1_; have BK189 := n2_; have HB := n3_; clear n0_ n1_ n2_ n3_; (try clear hb); (try clear hb2); (try clear hk); (try clear hi); have hcz17_0 : w16.cell? ⟨gb189, 0, none⟩ = some (.string (⟨#[115, 104]⟩ : ByteArray)) := (blk_cell BK189.out 0).trans rfl; have hcz17_1 : w16.cell? ⟨gb189, 1, none⟩ = some (.slice Ao11 y183.length co11) := (blk_cell BK189.out 1).trans rfl; have hcz17_2 : w16.cell? ⟨gb189, 2, none⟩ = some (.slice Ao10 y186.length co10) := (blk_cell BK189.out 2).trans rfl; have hcz17_3 : w16.cell? ⟨gb189, 3, none⟩ = some (.slice none 0 0) := (blk_cell BK189.out 3).trans rfl; have hcz17_4 : w16.cell? ⟨gb189, 4, none⟩ = some (.slice none 0 0) := (blk_cell BK189.out 4).trans rfl; have hcz17_5 : w16.cell? ⟨gb189, 5, none⟩ = some (.slice none 0 0) := (blk_cell BK189.out 5).trans rfl; have hcz17_6 : w16.cell? ⟨gb189, 6, none⟩ = some (.int .i64 5) := (blk_cell BK189.out 6).trans rfl; have hcz17_7 : w16.cell? ⟨gb189, 7, none⟩ = some (.int .i64 0) := (blk_cell BK189.out 7).trans rfl; have hcz17_8 : w16.cell? ⟨gb189, 8, none⟩ = some (.int .i64 0) := (blk_cell BK189.out 8).trans rfl; have hcz17_9 : w16.cell? ⟨gb189, 9, none⟩ = some (.int .i64 0) := (blk_cell BK189.out 9).trans rfl; have hcz17_10 : w16.cell? ⟨gb189, 10, none⟩ = some (.string (⟨#[]⟩ : ByteArray)) := (blk_cell BK189.out 10).trans rfl; have hcz17_11 : w16.cell? ⟨gb189, 11, none⟩ = some (.int .i64 0) := (blk_cell BK189.out 11).trans rfl; have hcz17_12 : w16.cell? ⟨gb189, 12, none⟩ = some (.int .i64 0) := (blk_cell BK189.out 12).trans rfl; have hcz17_13 : w16.cell? ⟨gb189, 13, none⟩ = some (.int .i64 0) := (blk_cell BK189.out 13).trans rfl; have hcz17_14 : w16.cell? ⟨gb189, 14, none⟩ = some (.bool false) := (blk_cell BK189.out 14).trans rfl; have hfz17_0 := blk_frozen BK189.out 0; have hfz17_1 := blk_frozen BK189.out 1; have hfz17_2 := blk_frozen BK189.out 2; have hfz17_3 := blk_frozen BK189.out 3; have hfz17_4 := blk_frozen BK189.out 4; have hfz17_5 := blk_frozen BK189.out 5; have hfz17_6 := blk_frozen BK189.out 6; have hfz17_7 := blk_frozen BK189.out 7; have hfz17_8 := blk_frozen BK189.out 8; have hfz17_9 := blk_frozen BK189.out 9; have hfz17_10 := blk_frozen BK189.out 10; have hfz17_11 := blk_frozen BK189.out 11; have hfz17_12 := blk_frozen BK189.out 12; have hfz17_13 := blk_frozen BK189.out 13; have hfz17_14 := blk_frozen BK189.out 14) | ((with_reducible refine gate_callee (f := 11) rfl ?_); refine goesL_ (some 27) rfl rfl Tryd.func11 (by kernel_rfl) rfl #[.agg #[.string (⟨#[115, 104]⟩ : ByteArray), .slice Ao11 y183.length co11, .slice Ao10 y186.length co10, .slice none 0 0, .slice none 0 0, .slice none 0 0, .int .i64 5, .int .i64 0, .int .i64 0, .int .i64 0, .string (⟨#[]⟩ : ByteArray), .int .i64 0, .int .i64 0, .int .i64 0, .bool false], .string (⟨#[51]⟩ : ByteArray)] rfl (by (try simp only [List.map_toArray, List.map_cons, List.map_nil]); first | done | rfl | (simp only [List.length_drop, List.length_take]; rfl)) ?_; (refine (param_Value.calls k (⟨#[115, 104]⟩ : ByteArray) _ _ y183 _ _ y186 zopq _ _ ([] : List (S_Alias)) _ _ ([] : List (S_Trap)) 5 0 0 0 (⟨#[]⟩ : ByteArray) 0 0 0 false (⟨#[51]⟩ : ByteArray) t194 t195 _ ?side1 ?side2 ?side3 ?side4 ?side5 ?side6 ?side7 ?side8 ?side9 A3.out).mono ?_); (case side1 => repeat (first | exact (Kd.R_reads' HO185.out).2.2 | (with_reducible refine Kd.C_alloc ?_ _) | (with_reducible refine Kd.C_drewN ?_ _) | (with_reducible refine Kd.C_drew ?_))); (case side2 => exact (Kd.R_reads' HO185.out).2.1); (case side3 => repeat (first | exact (Kd.R_reads' HO188.out).2.2 | (with_reducible refine Kd.C_alloc ?_ _) | (with_reducible refine Kd.C_drewN ?_ _) | (with_reducible refine Kd.C_drew ?_))); (case side4 => exact (Kd.R_reads' HO188.out).2.1); (case side5 => exact Kd.C_nil _ _); (case side6 => exact Nat.le_refl _); (case side7 => exact Kd.C_nil _ _); (case side8 => exact Nat.le_refl _); (case side9 => repeat (first | exact (AmbC_below HAMB.out HB.out) | (with_reducible refine AmbC_alloc ?_ _) | (with_reducible refine AmbC_drewN ?_ _) | (with_reducible refine AmbC_drew ?_))); rintro e w18 ⟨rfl, hb⟩; refine ⟨_, rfl, ?_⟩; have n0_ := Aside0.mk (Kd.R_below (by (with_reducible repeat (first | apply Kd.R_alloc | apply Kd.R_drewN | apply Kd.R_drew)); exact HO185.out) hb); have n1_ := Aside0.mk (Kd.R_below (by (with_reducible repeat (first | apply Kd.R_alloc | apply Kd.R_drewN | apply Kd.R_drew)); exact HO188.out) hb); have n2_ := Aside0.mk (blk_below (g := gb189) (o := .cells #[.string (⟨#[115, 104]⟩ : ByteArray), .slice Ao11 y183.length co11, .slice Ao10 y186.length co10, .slice none 0 0, .slice none 0 0, .slice none 0 0, .int .i64 5, .int .i64 0, .int .i64 0, .int .i64 0, .string (⟨#[]⟩ : ByteArray), .int .i64 0, .int .i64 0, .int .i64 0, .bool false] 30 (0, 0)) (by (with_reducible repeat (first | refine blk_drewN ?_ _ | refine blk_drew ?_ | refine blk_alloc ?_ _)); exact BK189.out) hb); have n3_ := Aside0.mk (below_step (by repeat (first | (with_reducible first | exact HB.out | apply below_alloc | apply pw_below_drewN | apply below_drew1 | refine below_set ?_ GE189.out) | exact HB.out)) hb); clear HO185; clear HO188; clear BK189; clear HB; have HO185 := n0_; have HO188 := n1_; have BK189 := n2_; have HB := n3_; clear n0_ n1_ n2_ n3_; (try clear hb); (try clear hb2); (try clear hk); (try clear hi); have hcz19_0 : w18.cell? ⟨gb189, 0, none⟩ = some (.string (⟨#[115, 104]⟩ : ByteArray)) := (blk_cell BK189.out 0).trans rfl; have hcz19_1 : w18.cell? ⟨gb189, 1, none⟩ = some (.slice Ao11 y183.length co11) := (blk_cell BK189.out 1).trans rfl; have hcz19_2 : w18.cell? ⟨gb189, 2, none⟩ = some (.slice Ao10 y186.length co10) := (blk_cell BK189.out 2).trans rfl; have hcz19_3 : w18.cell? ⟨gb189, 3, none⟩ = some (.slice none 0 0) := (blk_cell BK189.out 3).trans rfl; have hcz19_4 : w18.cell? ⟨gb189, 4, none⟩ = some (.slice none 0 0) := (blk_cell BK189.out 4).trans rfl; have hcz19_5 : w18.cell? ⟨gb189, 5, none⟩ = some (.slice none 0 0) := (blk_cell BK189.out 5).trans rfl; have hcz19_6 : w18.cell? ⟨gb189, 6, none⟩ = some (.int .i64 5) := (blk_cell BK189.out 6).trans rfl; have hcz19_7 : w18.cell? ⟨gb189, 7, none⟩ = some (.int .i64 0) := (blk_cell BK189.out 7).trans rfl; have hcz19_8 : w18.cell? ⟨gb189, 8, none⟩ = some (.int .i64 0) := (blk_cell BK189.out 8).trans rfl; have hcz19_9 : w18.cell? ⟨gb189, 9, none⟩ = some (.int .i64 0) := (blk_cell BK189.out 9).trans rfl; have hcz19_10 : w18.cell? ⟨gb189, 10, none⟩ = some (.string (⟨#[]⟩ : ByteArray)) := (blk_cell BK189.out 10).trans rfl; have hcz19_11 : w18.cell? ⟨gb189, 11, none⟩ = some (.int .i64 0) := (blk_cell BK189.out 11).trans rfl; have hcz19_12 : w18.cell? ⟨gb189, 12, none⟩ = some (.int .i64 0) := (blk_cell BK189.out 12).trans rfl; have hcz19_13 : w18.cell? ⟨gb189, 13, none⟩ = some (.int .i64 0) := (blk_cell BK189.out 13).trans rfl; have hcz19_14 : w18.cell? ⟨gb189, 14, none⟩ = some (.bool false) := (blk_cell BK189.out 14).trans rfl; have hfz19_0 := blk_frozen BK189.out 0; have hfz19_1 := blk_frozen BK189.out 1; have hfz19_2 := blk_frozen BK189.out 2; have hfz19_3 := blk_frozen BK189.out 3; have hfz19_4 := blk_frozen BK189.out 4; have hfz19_5 := blk_frozen BK189.out 5; have hfz19_6 := blk_frozen BK189.out 6; have hfz19_7 := blk_frozen BK189.out 7; have hfz19_8 := blk_frozen BK189.out 8; have hfz19_9 := blk_frozen BK189.out 9; have hfz19_10 := blk_frozen BK189.out 10; have hfz19_11 := blk_frozen BK189.out 11; have hfz19_12 := blk_frozen BK189.out 12; have hfz19_13 := blk_frozen BK189.out 13; have hfz19_14 := blk_frozen BK189.out 14) | ((with_reducible refine gate_callee (f := 11) rfl ?_); refine goesL_ (some 32) rfl rfl Tryd.func11 (by kernel_rfl) rfl #[.agg #[.string (⟨#[115, 104]⟩ : ByteArray), .slice Ao11 y183.length co11, .slice Ao10 y186.length co10, .slice none 0 0, .slice none 0 0, .slice none 0 0, .int .i64 5, .int .i64 0, .int .i64 0, .int .i64 0, .string (⟨#[]⟩ : ByteArray), .int .i64 0, .int .i64 0, .int .i64 0, .bool false], .string (⟨#[45]⟩ : ByteArray)] rfl (by (try simp only [List.map_toArray, List.map_cons, List.map_nil]); first | done | rfl | (simp only [List.length_drop, List.length_take]; rfl)) ?_; (refine (param_Value.calls k (⟨#[115, 104]⟩ : ByteArray) _ _ y183 _ _ y186 zopq _ _ ([] : List (S_Alias)) _ _ ([] : List (S_Trap)) 5 0 0 0 (⟨#[]⟩ : ByteArray) 0 0 0 false (⟨#[45]⟩ : ByteArray) t196 t197 _ ?side1 ?side2 ?side3 ?side4 ?side5 ?side6 ?side7 ?side8 ?side9 A4.out).mono ?_); (case side1 => repeat (first | exact (Kd.R_reads' HO185.out).2.2 | (with_reducible refine Kd.C_alloc ?_ _) | (with_reducible refine Kd.C_drewN ?_ _) | (with_reducible refine Kd.C_drew ?_))); (case side2 => exact (Kd.R_reads' HO185.out).2.1); (case side3 => repeat (first | exact (Kd.R_reads' HO188.out).2.2 | (with_reducible refine Kd.C_alloc ?_ _) | (with_reducible refine Kd.C_drewN ?_ _) | (with_reducible refine Kd.C_drew ?_))); (case side4 => exact (Kd.R_reads' HO188.out).2.1); (case side5 => exact Kd.C_nil _ _); (case side6 => exact Nat.le_refl _); (case side7 => exact Kd.C_nil _ _); (case side8 => exact Nat.le_refl _); (case side9 => repeat (first | exact (AmbC_below HAMB.out HB.out) | (with_reducible refine AmbC_alloc ?_ _) | (with_reducible refine AmbC_drewN ?_ _) | (with_reducible refine AmbC_drew ?_))); rintro e w20 ⟨rfl, hb⟩; refine ⟨_, rfl, ?_⟩; have n0_ := Aside0.mk (Kd.R_below (by (with_reducible repeat (first | apply Kd.R_alloc | apply Kd.R_drewN | apply Kd.R_drew)); exact HO185.out) hb); have n1_ := Aside0.mk (Kd.R_below (by (with_reducible repeat (first | apply Kd.R_alloc | apply Kd.R_drewN | apply Kd.R_drew)); exact HO188.out) hb); have n2_ := Aside0.mk (blk_below (g := gb189) (o := .cells #[.string (⟨#[115, 104]⟩ : ByteArray), .slice Ao11 y183.length co11, .slice Ao10 y186.length co10, .slice none 0 0, .slice none 0 0, .slice none 0 0, .int .i64 5, .int .i64 0, .int .i64 0, .int .i64 0, .string (⟨#[]⟩ : ByteArray), .int .i64 0, .int .i64 0, .int .i64 0, .bool false] 30 (0, 0)) (by (with_reducible repeat (first | refine blk_drewN ?_ _ | refine blk_drew ?_ | refine blk_alloc ?_ _)); exact BK189.out) hb); have n3_ := Aside0.mk (below_step (by repeat (first | (with_reducible first | exact HB.out | apply below_alloc | apply pw_below_drewN | apply below_drew1 | refine below_set ?_ GE189.out) | exact HB.out)) hb); clear HO185; clear HO188; clear BK189; clear HB; have HO185 := n0_; have HO188 := n1_; have BK189 := n2_; have HB := n3_; clear n0_ n1_ n2_ n3_; (try clear hb); (try clear hb2); (try clear hk); (try clear hi)) | ((with_reducible refine gate_dst (N := 37) rfl ?_); refine Kd.S_lit k_PatItem _ 52 ?hg (N := 37) ?hd (xs := ([(⟨1, (⟨#[46]⟩ : ByteArray), false, ([] : List (S_Span))⟩ : S_PatItem), (⟨3, (⟨#[]⟩ : ByteArray), false, ([] : List (S_Span))⟩ : S_PatItem)] : List (S_PatItem))) (inner := [.int .i64 1, .string (⟨#[46]⟩ : ByteArray), .bool false, .slice none 0 0, .int .i64 3, .string (⟨#[]⟩ : ByteArray), .bool false, .slice none 0 0]) (ok := fun _ => True) (okp := fun _ => True) ?hr ?hp (fun _ hk => hk) trivial (Below.refl _ _) (Nat.le_refl _) (by simp) ?_; (case hd => rfl); (case hg => rfl); (case hr => first | (go_simp; done) | (go_simp; rfl)); (case hp => exact (Reps.c4 (show Kd.M k_PatItem _ _ _ (⟨1, (⟨#[46]⟩ : ByteArray), false, ([] : List (S_Span))⟩ : S_PatItem) [.int .i64 1, .string (⟨#[46]⟩ : ByteArray), .bool false, .slice none 0 0] from (k_PatItem_mkM _ _ _ (⟨1, (⟨#[46]⟩ : ByteArray), false, ([] : List (S_Span))⟩ : S_PatItem) (Kd.R_nil _ _ _ _ _))) (Reps.c4 (show Kd.M k_PatItem _ _ _ (⟨3, (⟨#[]⟩ : ByteArray), false, ([] : List (S_Span))⟩ : S_PatItem) [.int .i64 3, .string (⟨#[]⟩ : ByteArray), .bool false, .slice none 0 0] from (k_PatItem_mkM _ _ _ (⟨3, (⟨#[]⟩ : ByteArray), false, ([] : List (S_Span))⟩ : S_PatItem) (Kd.R_nil _ _ _ _ _))) (Reps.none _ _)))); intro v199 w21 ho22 hb hg_ hnew_; clear hg_ hnew_; (first | rw [← Ny198.out] at ho22 | (simp only [Int.reduceToNat] at ho22; rw [← Ny198.out] at ho22)); have n0_ := Aside0.mk (Kd.R_below (by (with_reducible repeat (first | apply Kd.R_alloc | apply Kd.R_drewN | apply Kd.R_drew)); exact HO185.out) hb); have n1_ := Aside0.mk (Kd.R_below (by (with_reducible repeat (first | apply Kd.R_alloc | apply Kd.R_drewN | apply Kd.R_drew)); exact HO188.out) hb); have n2_ := Aside0.mk (Kd.S_lower ho22 (below_size (by repeat (first | (with_reducible first | exact HB.out | apply below_alloc | apply pw_below_drewN | apply below_drew1 | refine below_set ?_ GE189.out) | exact HB.out)))); have n3_ := Aside0.mk (blk_below (g := gb189) (o := .cells #[.string (⟨#[115, 104]⟩ : ByteArray), .slice Ao11 y183.length co11, .slice Ao10 y186.length co10, .slice none 0 0, .slice none 0 0, .slice none 0 0, .int .i64 5, .int .i64 0, .int .i64 0, .int .i64 0, .string (⟨#[]⟩ : ByteArray), .int .i64 0, .int .i64 0, .int .i64 0, .bool false] 30 (0, 0)) (by (with_reducible repeat (first | refine blk_drewN ?_ _ | refine blk_drew ?_ | refine blk_alloc ?_ _)); exact BK189.out) hb); have n4_ := Aside0.mk (below_step (by repeat (first | (with_reducible first | exact HB.out | apply below_alloc | apply pw_below_drewN | apply below_drew1 | refine below_set ?_ GE189.out) | exact HB.out)) hb); clear HO185; clear HO188; clear BK189; clear HB; have HO185 := n0_; have HO188 := n1_; have HO200 := n2_; have BK189 := n3_; have HB := n4_; clear n0_ n1_ n2_ n3_ n4_; clear hb ho22))
 (try simp only [Act.put, List.setIfInBounds_toArray, List.set_cons_zero, List.set_cons_succ])
 go_cut [73] (fun v73 wc => ∃ (kq : Nat) (x73_4 : Bool), v73 = .bool x73_4 ∧ Aside0 (jobshelllaw17_awake.j0 kq y198 x73_4 = some r) ∧ Aside0 (kq ≤ k) ∧ Aside0 (Kd.S k_PatItem 52 wc w.heap.size (fun _ => True) v199 y198) ∧ Aside0 (Kd.R k_Var 49 wc w.heap.size (fun _ => True) (.slice Ao11 y183.length co11) y183) ∧ Aside0 (Kd.R Kd.string 9 wc w.heap.size (fun _ => True) (.slice Ao10 y186.length co10) y186) ∧ Aside0 (wc.heap[gb189]? = some (.cells #[.string (⟨#[115, 104]⟩ : ByteArray), (.slice Ao11 y183.length co11), (.slice Ao10 y186.length co10), .slice none 0 0, (.slice none 0 0), (.slice none 0 0), .int .i64 5, .int .i64 0, .int .i64 0, .int .i64 0, .string (⟨#[]⟩ : ByteArray), .int .i64 0, .int .i64 0, .int .i64 0, .bool false] 30 (0, 0))) ∧ Aside0 (Below w.heap.size w wc))
 case first =>
  have H := HC5.out
  clear HC5
  by_cases c23 : t190.toList = ([97, 58, 98] : List UInt8)
  ·rw [if_pos c23] at H
   have c23b0 : (t190.toList == ([97, 58, 98] : List UInt8)) = true := beq_iff_eq.mpr c23
   have c23b1 : (t190.toList != ([97, 58, 98] : List UInt8)) = false := bne_eq_false_iff_eq.mpr c23
   clear c23
   (first | rw [c23b0] | (simp only [i64_w, i32_w]; rw [c23b0]) | skip)
   by_cases c24 : t191 = true
   ·subst c24
    have H1 : (if t192.toList = ([50] : List UInt8) then (if t193 = true then (if t194.toList = ([] : List UInt8) then (if t195 = true then (jobshelllaw17_awake.j0 k y198 true) else (if t196.toList = ([101, 120] : List UInt8) then (if t197 = true then ((param_Valid.f k (⟨#[48, 49]⟩ : ByteArray)).bind fun t201 => (if t201 = true then (jobshelllaw17_awake.j0 k y198 true) else ((param_Valid.f k (⟨#[49, 48]⟩ : ByteArray)).bind fun t202 => (jobshelllaw17_awake.j0 k y198 (!t202))))) else (jobshelllaw17_awake.j0 k y198 true)) else (jobshelllaw17_awake.j0 k y198 true))) else (jobshelllaw17_awake.j0 k y198 true)) else (jobshelllaw17_awake.j0 k y198 true)) else (jobshelllaw17_awake.j0 k y198 true)) = some r := by rw [if_pos rfl] at H; exact H
    clear H
    have H := H1
    clear H1
    by_cases c25 : t192.toList = ([50] : List UInt8)
    ·rw [if_pos c25] at H
     have c25b0 : (t192.toList == ([50] : List UInt8)) = true := beq_iff_eq.mpr c25
     have c25b1 : (t192.toList != ([50] : List UInt8)) = false := bne_eq_false_iff_eq.mpr c25
     clear c25
     by_cases c26 : t193 = true
     ·subst c26
      have H1 : (if t194.toList = ([] : List UInt8) then (if t195 = true then (jobshelllaw17_awake.j0 k y198 true) else (if t196.toList = ([101, 120] : List UInt8) then (if t197 = true then ((param_Valid.f k (⟨#[48, 49]⟩ : ByteArray)).bind fun t201 => (if t201 = true then (jobshelllaw17_awake.j0 k y198 true) else ((param_Valid.f k (⟨#[49, 48]⟩ : ByteArray)).bind fun t202 => (jobshelllaw17_awake.j0 k y198 (!t202))))) else (jobshelllaw17_awake.j0 k y198 true)) else (jobshelllaw17_awake.j0 k y198 true))) else (jobshelllaw17_awake.j0 k y198 true)) = some r := by rw [if_pos rfl] at H; exact H
      clear H
      have H := H1
      clear H1
      by_cases c27 : t194.toList = ([] : List UInt8)
      ·rw [if_pos c27] at H
       have c27b0 : (t194.toList == ([] : List UInt8)) = true := beq_iff_eq.mpr c27
       have c27b1 : (t194.toList != ([] : List UInt8)) = false := bne_eq_false_iff_eq.mpr c27
       clear c27
       by_cases c28 : t195 = true
       ·subst c28
        have H1 : (jobshelllaw17_awake.j0 k y198 true) = some r := by rw [if_pos rfl] at H; exact H
        clear H
        have H := H1
        clear H1
        have H' := Aside0.mk H
        clear H
        go_wp2
        go_meet
        case rel => exact ⟨_, (true), (by first | rfl | (simp; done) | (simp [*]; done) | (simp [isE_ne]; done)), H', ⟨by first | omega | exact Nat.le_refl _⟩, ⟨by (with_reducible repeat (first | apply Kd.S_alloc | apply Kd.S_drewN | apply Kd.S_drew)); exact HO200.out⟩, ⟨by (with_reducible repeat (first | apply Kd.R_alloc | apply Kd.R_drewN | apply Kd.R_drew)); exact HO185.out⟩, ⟨by (with_reducible repeat (first | apply Kd.R_alloc | apply Kd.R_drewN | apply Kd.R_drew)); exact HO188.out⟩, ⟨by (with_reducible repeat (first | refine blk_drewN ?_ _ | refine blk_drew ?_ | refine blk_alloc ?_ _)); exact BK189.out⟩, ⟨by repeat (first | (with_reducible first | exact HB.out | apply below_alloc | apply pw_below_drewN | apply below_drew1 | refine below_set ?_ GE189.out) | exact HB.out)⟩⟩
       ·replace c28 := Bool.eq_false_iff.mpr c28
        subst c28
        have H1 : (if t196.toList = ([101, 120] : List UInt8) then (if t197 = true then ((param_Valid.f k (⟨#[48, 49]⟩ : ByteArray)).bind fun t201 => (if t201 = true then (jobshelllaw17_awake.j0 k y198 true) else ((param_Valid.f k (⟨#[49, 48]⟩ : ByteArray)).bind fun t202 => (jobshelllaw17_awake.j0 k y198 (!t202))))) else (jobshelllaw17_awake.j0 k y198 true)) else (jobshelllaw17_awake.j0 k y198 true)) = some r := by rw [if_neg (show ¬ (false = true) by decide)] at H; exact H
        clear H
        have H := H1
        clear H1
        by_cases c29 : t196.toList = ([101, 120] : List UInt8)
        ·rw [if_pos c29] at H
         have c29b0 : (t196.toList == ([101, 120] : List UInt8)) = true := beq_iff_eq.mpr c29
         have c29b1 : (t196.toList != ([101, 120] : List UInt8)) = false := bne_eq_false_iff_eq.mpr c29
         clear c29
         by_cases c30 : t197 = true
         ·subst c30
          have H1 : ((param_Valid.f k (⟨#[48, 49]⟩ : ByteArray)).bind fun t201 => (if t201 = true then (jobshelllaw17_awake.j0 k y198 true) else ((param_Valid.f k (⟨#[49, 48]⟩ : ByteArray)).bind fun t202 => (jobshelllaw17_awake.j0 k y198 (!t202))))) = some r := by rw [if_pos rfl] at H; exact H
          clear H
          have H := H1
          clear H1
          replace H := Option.bind_eq_some_iff.mp H
          obtain ⟨t201, A310, H⟩ := H
          replace H : (if t201 = true then (jobshelllaw17_awake.j0 k y198 true) else ((param_Valid.f k (⟨#[49, 48]⟩ : ByteArray)).bind fun t202 => (jobshelllaw17_awake.j0 k y198 (!t202)))) = some r := H
          have A31 := Aside0.mk A310
          clear A310
          by_cases c32 : t201 = true
          ·subst c32
           have H1 : (jobshelllaw17_awake.j0 k y198 true) = some r := by rw [if_pos rfl] at H; exact H
           clear H
           have H := H1
           clear H1
           have H' := Aside0.mk H
           clear H
           go_wp2_with (first | (go_at_call 13; (with_reducible refine (param_Valid.calls k (⟨#[48, 49]⟩ : ByteArray) true _ A31.out).mono ?_); rintro e w33 ⟨rfl, hb⟩; have n0_ := Aside0.mk (Kd.R_below (by (with_reducible repeat (first | apply Kd.R_alloc | apply Kd.R_drewN | apply Kd.R_drew)); exact HO185.out) hb); have n1_ := Aside0.mk (Kd.R_below (by (with_reducible repeat (first | apply Kd.R_alloc | apply Kd.R_drewN | apply Kd.R_drew)); exact HO188.out) hb); have n2_ := Aside0.mk (Kd.S_below (by (with_reducible repeat (first | apply Kd.S_alloc | apply Kd.S_drewN | apply Kd.S_drew)); exact HO200.out) hb); have n3_ := Aside0.mk (blk_below (g := gb189) (o := .cells #[.string (⟨#[115, 104]⟩ : ByteArray), .slice Ao11 y183.length co11, .slice Ao10 y186.length co10, .slice none 0 0, .slice none 0 0, .slice none 0 0, .int .i64 5, .int .i64 0, .int .i64 0, .int .i64 0, .string (⟨#[]⟩ : ByteArray), .int .i64 0, .int .i64 0, .int .i64 0, .bool false] 30 (0, 0)) (by (with_reducible repeat (first | refine blk_drewN ?_ _ | refine blk_drew ?_ | refine blk_alloc ?_ _)); exact BK189.out) hb); have n4_ := Aside0.mk (below_step (by repeat (first | (with_reducible first | exact HB.out | apply below_alloc | apply pw_below_drewN | apply below_drew1 | refine below_set ?_ GE189.out) | exact HB.out)) hb); clear HO185; clear HO188; clear HO200; clear BK189; clear HB; have HO185 := n0_; have HO188 := n1_; have HO200 := n2_; have BK189 := n3_; have HB := n4_; clear n0_ n1_ n2_ n3_ n4_; (try clear hb); (try clear hb2); (try clear hk); (try clear hi)))
           go_meet
           case rel => exact ⟨_, (true), (by first | rfl | (simp; done) | (simp [*]; done) | (simp [isE_ne]; done)), H', ⟨by first | omega | exact Nat.le_refl _⟩, ⟨by (with_reducible repeat (first | apply Kd.S_alloc | apply Kd.S_drewN | apply Kd.S_drew)); exact HO200.out⟩, ⟨by (with_reducible repeat (first | apply Kd.R_alloc | apply Kd.R_drewN | apply Kd.R_drew)); exact HO185.out⟩, ⟨by (with_reducible repeat (first | apply Kd.R_alloc | apply Kd.R_drewN | apply Kd.R_drew)); exact HO188.out⟩, ⟨by (with_reducible repeat (first | refine blk_drewN ?_ _ | refine blk_drew ?_ | refine blk_alloc ?_ _)); exact BK189.out⟩, ⟨by repeat (first | (with_reducible first | exact HB.out | apply below_alloc | apply pw_below_drewN | apply below_drew1 | refine below_set ?_ GE189.out) | exact HB.out)⟩⟩
          ·replace c32 := Bool.eq_false_iff.mpr c32
           subst c32
           have H1 : ((param_Valid.f k (⟨#[49, 48]⟩ : ByteArray)).bind fun t202 => (jobshelllaw17_awake.j0 k y198 (!t202))) = some r := by rw [if_neg (show ¬ (false = true) by decide)] at H; exact H
           clear H
           have H := H1
           clear H1
           replace H := Option.bind_eq_some_iff.mp H
           obtain ⟨t202, A340, H⟩ := H
           replace H : (jobshelllaw17_awake.j0 k y198 (!t202)) = some r := H
           have A34 := Aside0.mk A340
           clear A340
           have H' := Aside0.mk H
           clear H
           go_wp2_with (first | (go_at_call 13; (with_reducible refine (param_Valid.calls k (⟨#[48, 49]⟩ : ByteArray) false _ A31.out).mono ?_); rintro e w35 ⟨rfl, hb⟩; have n0_ := Aside0.mk (Kd.R_below (by (with_reducible repeat (first | apply Kd.R_alloc | apply Kd.R_drewN | apply Kd.R_drew)); exact HO185.out) hb); have n1_ := Aside0.mk (Kd.R_below (by (with_reducible repeat (first | apply Kd.R_alloc | apply Kd.R_drewN | apply Kd.R_drew)); exact HO188.out) hb); have n2_ := Aside0.mk (Kd.S_below (by (with_reducible repeat (first | apply Kd.S_alloc | apply Kd.S_drewN | apply Kd.S_drew)); exact HO200.out) hb); have n3_ := Aside0.mk (blk_below (g := gb189) (o := .cells #[.string (⟨#[115, 104]⟩ : ByteArray), .slice Ao11 y183.length co11, .slice Ao10 y186.length co10, .slice none 0 0, .slice none 0 0, .slice none 0 0, .int .i64 5, .int .i64 0, .int .i64 0, .int .i64 0, .string (⟨#[]⟩ : ByteArray), .int .i64 0, .int .i64 0, .int .i64 0, .bool false] 30 (0, 0)) (by (with_reducible repeat (first | refine blk_drewN ?_ _ | refine blk_drew ?_ | refine blk_alloc ?_ _)); exact BK189.out) hb); have n4_ := Aside0.mk (below_step (by repeat (first | (with_reducible first | exact HB.out | apply below_alloc | apply pw_below_drewN | apply below_drew1 | refine below_set ?_ GE189.out) | exact HB.out)) hb); clear HO185; clear HO188; clear HO200; clear BK189; clear HB; have HO185 := n0_; have HO188 := n1_; have HO200 := n2_; have BK189 := n3_; have HB := n4_; clear n0_ n1_ n2_ n3_ n4_; (try clear hb); (try clear hb2); (try clear hk); (try clear hi)) | (go_at_call 13; (with_reducible refine (param_Valid.calls k (⟨#[49, 48]⟩ : ByteArray) t202 _ A34.out).mono ?_); rintro e w36 ⟨rfl, hb⟩; have n0_ := Aside0.mk (Kd.R_below (by (with_reducible repeat (first | apply Kd.R_alloc | apply Kd.R_drewN | apply Kd.R_drew)); exact HO185.out) hb); have n1_ := Aside0.mk (Kd.R_below (by (with_reducible repeat (first | apply Kd.R_alloc | apply Kd.R_drewN | apply Kd.R_drew)); exact HO188.out) hb); have n2_ := Aside0.mk (Kd.S_below (by (with_reducible repeat (first | apply Kd.S_alloc | apply Kd.S_drewN | apply Kd.S_drew)); exact HO200.out) hb); have n3_ := Aside0.mk (blk_below (g := gb189) (o := .cells #[.string (⟨#[115, 104]⟩ : ByteArray), .slice Ao11 y183.length co11, .slice Ao10 y186.length co10, .slice none 0 0, .slice none 0 0, .slice none 0 0, .int .i64 5, .int .i64 0, .int .i64 0, .int .i64 0, .string (⟨#[]⟩ : ByteArray), .int .i64 0, .int .i64 0, .int .i64 0, .bool false] 30 (0, 0)) (by (with_reducible repeat (first | refine blk_drewN ?_ _ | refine blk_drew ?_ | refine blk_alloc ?_ _)); exact BK189.out) hb); have n4_ := Aside0.mk (below_step (by repeat (first | (with_reducible first | exact HB.out | apply below_alloc | apply pw_below_drewN | apply below_drew1 | refine below_set ?_ GE189.out) | exact HB.out)) hb); clear HO185; clear HO188; clear HO200; clear BK189; clear HB; have HO185 := n0_; have HO188 := n1_; have HO200 := n2_; have BK189 := n3_; have HB := n4_; clear n0_ n1_ n2_ n3_ n4_; (try clear hb); (try clear hb2); (try clear hk); (try clear hi)))
           go_meet
           case rel => exact ⟨_, (!t202), (by first | rfl | (simp; done) | (simp [*]; done) | (simp [isE_ne]; done)), H', ⟨by first | omega | exact Nat.le_refl _⟩, ⟨by (with_reducible repeat (first | apply Kd.S_alloc | apply Kd.S_drewN | apply Kd.S_drew)); exact HO200.out⟩, ⟨by (with_reducible repeat (first | apply Kd.R_alloc | apply Kd.R_drewN | apply Kd.R_drew)); exact HO185.out⟩, ⟨by (with_reducible repeat (first | apply Kd.R_alloc | apply Kd.R_drewN | apply Kd.R_drew)); exact HO188.out⟩, ⟨by (with_reducible repeat (first | refine blk_drewN ?_ _ | refine blk_drew ?_ | refine blk_alloc ?_ _)); exact BK189.out⟩, ⟨by repeat (first | (with_reducible first | exact HB.out | apply below_alloc | apply pw_below_drewN | apply below_drew1 | refine below_set ?_ GE189.out) | exact HB.out)⟩⟩
         ·replace c30 := Bool.eq_false_iff.mpr c30
          subst c30
          have H1 : (jobshelllaw17_awake.j0 k y198 true) = some r := by rw [if_neg (show ¬ (false = true) by decide)] at H; exact H
          clear H
          have H := H1
          clear H1
          have H' := Aside0.mk H
          clear H
          go_wp2
          go_meet
          case rel => exact ⟨_, (true), (by first | rfl | (simp; done) | (simp [*]; done) | (simp [isE_ne]; done)), H', ⟨by first | omega | exact Nat.le_refl _⟩, ⟨by (with_reducible repeat (first | apply Kd.S_alloc | apply Kd.S_drewN | apply Kd.S_drew)); exact HO200.out⟩, ⟨by (with_reducible repeat (first | apply Kd.R_alloc | apply Kd.R_drewN | apply Kd.R_drew)); exact HO185.out⟩, ⟨by (with_reducible repeat (first | apply Kd.R_alloc | apply Kd.R_drewN | apply Kd.R_drew)); exact HO188.out⟩, ⟨by (with_reducible repeat (first | refine blk_drewN ?_ _ | refine blk_drew ?_ | refine blk_alloc ?_ _)); exact BK189.out⟩, ⟨by repeat (first | (with_reducible first | exact HB.out | apply below_alloc | apply pw_below_drewN | apply below_drew1 | refine below_set ?_ GE189.out) | exact HB.out)⟩⟩
        ·rw [if_neg c29] at H
         have c29b0 : (t196.toList == ([101, 120] : List UInt8)) = false := beq_eq_false_iff_ne.mpr c29
         have c29b1 : (t196.toList != ([101, 120] : List UInt8)) = true := bne_iff_ne.mpr c29
         have H' := Aside0.mk H
         clear H
         go_wp2
         go_meet
         case rel => exact ⟨_, (true), (by first | rfl | (simp; done) | (simp [*]; done) | (simp [isE_ne]; done)), H', ⟨by first | omega | exact Nat.le_refl _⟩, ⟨by (with_reducible repeat (first | apply Kd.S_alloc | apply Kd.S_drewN | apply Kd.S_drew)); exact HO200.out⟩, ⟨by (with_reducible repeat (first | apply Kd.R_alloc | apply Kd.R_drewN | apply Kd.R_drew)); exact HO185.out⟩, ⟨by (with_reducible repeat (first | apply Kd.R_alloc | apply Kd.R_drewN | apply Kd.R_drew)); exact HO188.out⟩, ⟨by (with_reducible repeat (first | refine blk_drewN ?_ _ | refine blk_drew ?_ | refine blk_alloc ?_ _)); exact BK189.out⟩, ⟨by repeat (first | (with_reducible first | exact HB.out | apply below_alloc | apply pw_below_drewN | apply below_drew1 | refine below_set ?_ GE189.out) | exact HB.out)⟩⟩
      ·rw [if_neg c27] at H
       have c27b0 : (t194.toList == ([] : List UInt8)) = false := beq_eq_false_iff_ne.mpr c27
       have c27b1 : (t194.toList != ([] : List UInt8)) = true := bne_iff_ne.mpr c27
       have H' := Aside0.mk H
       clear H
       go_wp2
       go_meet
       case rel => exact ⟨_, (true), (by first | rfl | (simp; done) | (simp [*]; done) | (simp [isE_ne]; done)), H', ⟨by first | omega | exact Nat.le_refl _⟩, ⟨by (with_reducible repeat (first | apply Kd.S_alloc | apply Kd.S_drewN | apply Kd.S_drew)); exact HO200.out⟩, ⟨by (with_reducible repeat (first | apply Kd.R_alloc | apply Kd.R_drewN | apply Kd.R_drew)); exact HO185.out⟩, ⟨by (with_reducible repeat (first | apply Kd.R_alloc | apply Kd.R_drewN | apply Kd.R_drew)); exact HO188.out⟩, ⟨by (with_reducible repeat (first | refine blk_drewN ?_ _ | refine blk_drew ?_ | refine blk_alloc ?_ _)); exact BK189.out⟩, ⟨by repeat (first | (with_reducible first | exact HB.out | apply below_alloc | apply pw_below_drewN | apply below_drew1 | refine below_set ?_ GE189.out) | exact HB.out)⟩⟩
     ·replace c26 := Bool.eq_false_iff.mpr c26
      subst c26
      have H1 : (jobshelllaw17_awake.j0 k y198 true) = some r := by rw [if_neg (show ¬ (false = true) by decide)] at H; exact H
      clear H
      have H := H1
      clear H1
      have H' := Aside0.mk H
      clear H
      go_wp2
      go_meet
      case rel => exact ⟨_, (true), (by first | rfl | (simp; done) | (simp [*]; done) | (simp [isE_ne]; done)), H', ⟨by first | omega | exact Nat.le_refl _⟩, ⟨by (with_reducible repeat (first | apply Kd.S_alloc | apply Kd.S_drewN | apply Kd.S_drew)); exact HO200.out⟩, ⟨by (with_reducible repeat (first | apply Kd.R_alloc | apply Kd.R_drewN | apply Kd.R_drew)); exact HO185.out⟩, ⟨by (with_reducible repeat (first | apply Kd.R_alloc | apply Kd.R_drewN | apply Kd.R_drew)); exact HO188.out⟩, ⟨by (with_reducible repeat (first | refine blk_drewN ?_ _ | refine blk_drew ?_ | refine blk_alloc ?_ _)); exact BK189.out⟩, ⟨by repeat (first | (with_reducible first | exact HB.out | apply below_alloc | apply pw_below_drewN | apply below_drew1 | refine below_set ?_ GE189.out) | exact HB.out)⟩⟩
    ·rw [if_neg c25] at H
     have c25b0 : (t192.toList == ([50] : List UInt8)) = false := beq_eq_false_iff_ne.mpr c25
     have c25b1 : (t192.toList != ([50] : List UInt8)) = true := bne_iff_ne.mpr c25
     have H' := Aside0.mk H
     clear H
     go_wp2
     go_meet
     case rel => exact ⟨_, (true), (by first | rfl | (simp; done) | (simp [*]; done) | (simp [isE_ne]; done)), H', ⟨by first | omega | exact Nat.le_refl _⟩, ⟨by (with_reducible repeat (first | apply Kd.S_alloc | apply Kd.S_drewN | apply Kd.S_drew)); exact HO200.out⟩, ⟨by (with_reducible repeat (first | apply Kd.R_alloc | apply Kd.R_drewN | apply Kd.R_drew)); exact HO185.out⟩, ⟨by (with_reducible repeat (first | apply Kd.R_alloc | apply Kd.R_drewN | apply Kd.R_drew)); exact HO188.out⟩, ⟨by (with_reducible repeat (first | refine blk_drewN ?_ _ | refine blk_drew ?_ | refine blk_alloc ?_ _)); exact BK189.out⟩, ⟨by repeat (first | (with_reducible first | exact HB.out | apply below_alloc | apply pw_below_drewN | apply below_drew1 | refine below_set ?_ GE189.out) | exact HB.out)⟩⟩
   ·replace c24 := Bool.eq_false_iff.mpr c24
    subst c24
    have H1 : (jobshelllaw17_awake.j0 k y198 true) = some r := by rw [if_neg (show ¬ (false = true) by decide)] at H; exact H
    clear H
    have H := H1
    clear H1
    have H' := Aside0.mk H
    clear H
    go_wp2
    go_meet
    case rel => exact ⟨_, (true), (by first | rfl | (simp; done) | (simp [*]; done) | (simp [isE_ne]; done)), H', ⟨by first | omega | exact Nat.le_refl _⟩, ⟨by (with_reducible repeat (first | apply Kd.S_alloc | apply Kd.S_drewN | apply Kd.S_drew)); exact HO200.out⟩, ⟨by (with_reducible repeat (first | apply Kd.R_alloc | apply Kd.R_drewN | apply Kd.R_drew)); exact HO185.out⟩, ⟨by (with_reducible repeat (first | apply Kd.R_alloc | apply Kd.R_drewN | apply Kd.R_drew)); exact HO188.out⟩, ⟨by (with_reducible repeat (first | refine blk_drewN ?_ _ | refine blk_drew ?_ | refine blk_alloc ?_ _)); exact BK189.out⟩, ⟨by repeat (first | (with_reducible first | exact HB.out | apply below_alloc | apply pw_below_drewN | apply below_drew1 | refine below_set ?_ GE189.out) | exact HB.out)⟩⟩
  ·rw [if_neg c23] at H
   have c23b0 : (t190.toList == ([97, 58, 98] : List UInt8)) = false := beq_eq_false_iff_ne.mpr c23
   have c23b1 : (t190.toList != ([97, 58, 98] : List UInt8)) = true := bne_iff_ne.mpr c23
   (first | rw [c23b0] | (simp only [i64_w, i32_w]; rw [c23b0]) | skip)
   have H' := Aside0.mk H
   clear H
   go_wp2
   go_meet
   case rel => exact ⟨_, (true), (by first | rfl | (simp; done) | (simp [*]; done) | (simp [isE_ne]; done)), H', ⟨by first | omega | exact Nat.le_refl _⟩, ⟨by (with_reducible repeat (first | apply Kd.S_alloc | apply Kd.S_drewN | apply Kd.S_drew)); exact HO200.out⟩, ⟨by (with_reducible repeat (first | apply Kd.R_alloc | apply Kd.R_drewN | apply Kd.R_drew)); exact HO185.out⟩, ⟨by (with_reducible repeat (first | apply Kd.R_alloc | apply Kd.R_drewN | apply Kd.R_drew)); exact HO188.out⟩, ⟨by (with_reducible repeat (first | refine blk_drewN ?_ _ | refine blk_drew ?_ | refine blk_alloc ?_ _)); exact BK189.out⟩, ⟨by repeat (first | (with_reducible first | exact HB.out | apply below_alloc | apply pw_below_drewN | apply below_drew1 | refine below_set ?_ GE189.out) | exact HB.out)⟩⟩
 case rest =>
  clear HC5
  try clear c1
  try clear c2
  try clear p2
  try clear c3
  try clear c4
  try clear c5
  try clear c10
  try clear c11
  try clear c23
  try clear c23b0
  try clear c23b1
  try clear c24
  try clear c25
  try clear c25b0
  try clear c25b1
  try clear c26
  try clear c27
  try clear c27b0
  try clear c27b1
  try clear c28
  try clear c29
  try clear c29b0
  try clear c29b1
  try clear c30
  try clear c32
  try clear hcz13_0
  try clear hcz13_1
  try clear hcz13_10
  try clear hcz13_11
  try clear hcz13_12
  try clear hcz13_13
  try clear hcz13_14
  try clear hcz13_2
  try clear hcz13_3
  try clear hcz13_4
  try clear hcz13_5
  try clear hcz13_6
  try clear hcz13_7
  try clear hcz13_8
  try clear hcz13_9
  try clear hcz15_0
  try clear hcz15_1
  try clear hcz15_10
  try clear hcz15_11
  try clear hcz15_12
  try clear hcz15_13
  try clear hcz15_14
  try clear hcz15_2
  try clear hcz15_3
  try clear hcz15_4
  try clear hcz15_5
  try clear hcz15_6
  try clear hcz15_7
  try clear hcz15_8
  try clear hcz15_9
  try clear hcz17_0
  try clear hcz17_1
  try clear hcz17_10
  try clear hcz17_11
  try clear hcz17_12
  try clear hcz17_13
  try clear hcz17_14
  try clear hcz17_2
  try clear hcz17_3
  try clear hcz17_4
  try clear hcz17_5
  try clear hcz17_6
  try clear hcz17_7
  try clear hcz17_8
  try clear hcz17_9
  try clear hcz19_0
  try clear hcz19_1
  try clear hcz19_10
  try clear hcz19_11
  try clear hcz19_12
  try clear hcz19_13
  try clear hcz19_14
  try clear hcz19_2
  try clear hcz19_3
  try clear hcz19_4
  try clear hcz19_5
  try clear hcz19_6
  try clear hcz19_7
  try clear hcz19_8
  try clear hcz19_9
  try clear hfz13_0
  try clear hfz13_1
  try clear hfz13_10
  try clear hfz13_11
  try clear hfz13_12
  try clear hfz13_13
  try clear hfz13_14
  try clear hfz13_2
  try clear hfz13_3
  try clear hfz13_4
  try clear hfz13_5
  try clear hfz13_6
  try clear hfz13_7
  try clear hfz13_8
  try clear hfz13_9
  try clear hfz15_0
  try clear hfz15_1
  try clear hfz15_10
  try clear hfz15_11
  try clear hfz15_12
  try clear hfz15_13
  try clear hfz15_14
  try clear hfz15_2
  try clear hfz15_3
  try clear hfz15_4
  try clear hfz15_5
  try clear hfz15_6
  try clear hfz15_7
  try clear hfz15_8
  try clear hfz15_9
  try clear hfz17_0
  try clear hfz17_1
  try clear hfz17_10
  try clear hfz17_11
  try clear hfz17_12
  try clear hfz17_13
  try clear hfz17_14
  try clear hfz17_2
  try clear hfz17_3
  try clear hfz17_4
  try clear hfz17_5
  try clear hfz17_6
  try clear hfz17_7
  try clear hfz17_8
  try clear hfz17_9
  try clear hfz19_0
  try clear hfz19_1
  try clear hfz19_10
  try clear hfz19_11
  try clear hfz19_12
  try clear hfz19_13
  try clear hfz19_14
  try clear hfz19_2
  try clear hfz19_3
  try clear hfz19_4
  try clear hfz19_5
  try clear hfz19_6
  try clear hfz19_7
  try clear hfz19_8
  try clear hfz19_9
  obtain ⟨kq, x73_4, rfl, HA, HJ4, HO_10, HO_190001, HO_190002, BK189, HB⟩ := hcut
  cases kq with
  | zero => exact absurd HA.out (by simp [jobshelllaw17_awake.j0])
  | succ kj4 =>
   have H := HA.out
   clear HA
   simp only [jobshelllaw17_awake.j0] at H
   by_cases c37 : x73_4 = true
   ·subst c37
    have H1 : (some false) = some r := by rw [if_pos rfl] at H; exact H
    clear H
    have H := H1
    clear H1
    obtain rfl := Option.some.inj H
    go_wp2
    go_ret
    exact ⟨by first | rfl | (simp [errW_none, errW_some] <;> rfl) | (simp [*, errW_none, errW_some] <;> rfl), by repeat (first | (with_reducible first | exact HB.out | apply below_alloc | apply pw_below_drewN | apply below_drew1 | refine below_set ?_ GE189.out) | exact HB.out)⟩
   ·replace c37 := Bool.eq_false_iff.mpr c37
    subst c37
    have H1 : ((param_Choose.f kj4 1 true true (⟨#[]⟩ : ByteArray)).bind fun t203 => (if t203 = 1 then ((param_Length.f (⟨#[97, 98, 99]⟩ : ByteArray)).bind fun t204 => (if t204 = 3 then ((param_Trim.f kj4 6 (⟨#[97, 46, 98, 46, 99]⟩ : ByteArray) y198).bind fun t205 => (if t205.toList = ([97, 46, 98] : List UInt8) then ((param_Trim.f kj4 7 (⟨#[97, 46, 98, 46, 99]⟩ : ByteArray) y198).bind fun t206 => (some (t206.toList == ([97] : List UInt8)))) else (some false))) else (some false))) else (some false))) = some r := by rw [if_neg (show ¬ (false = true) by decide)] at H; exact H
    clear H
    have H := H1
    clear H1
    replace H := Option.bind_eq_some_iff.mp H
    obtain ⟨t203, A380, H⟩ := H
    replace H : (if t203 = 1 then ((param_Length.f (⟨#[97, 98, 99]⟩ : ByteArray)).bind fun t204 => (if t204 = 3 then ((param_Trim.f kj4 6 (⟨#[97, 46, 98, 46, 99]⟩ : ByteArray) y198).bind fun t205 => (if t205.toList = ([97, 46, 98] : List UInt8) then ((param_Trim.f kj4 7 (⟨#[97, 46, 98, 46, 99]⟩ : ByteArray) y198).bind fun t206 => (some (t206.toList == ([97] : List UInt8)))) else (some false))) else (some false))) else (some false)) = some r := H
    have A38 := Aside0.mk A380
    clear A380
    by_cases c39 : t203 = 1
    ·rw [if_pos c39] at H
     have c39b0 : (t203 == 1) = true := beq_iff_eq.mpr c39
     have c39b1 : (t203 != 1) = false := bne_eq_false_iff_eq.mpr c39
     clear c39
     replace H := Option.bind_eq_some_iff.mp H
     obtain ⟨t204, A400, H⟩ := H
     replace H : (if t204 = 3 then ((param_Trim.f kj4 6 (⟨#[97, 46, 98, 46, 99]⟩ : ByteArray) y198).bind fun t205 => (if t205.toList = ([97, 46, 98] : List UInt8) then ((param_Trim.f kj4 7 (⟨#[97, 46, 98, 46, 99]⟩ : ByteArray) y198).bind fun t206 => (some (t206.toList == ([97] : List UInt8)))) else (some false))) else (some false)) = some r := H
     have A40 := Aside0.mk A400
     clear A400
     by_cases c41 : t204 = 3
     ·rw [if_pos c41] at H
      have c41b0 : (t204 == 3) = true := beq_iff_eq.mpr c41
      have c41b1 : (t204 != 3) = false := bne_eq_false_iff_eq.mpr c41
      clear c41
      replace H := Option.bind_eq_some_iff.mp H
      obtain ⟨t205, A420, H⟩ := H
      replace H : (if t205.toList = ([97, 46, 98] : List UInt8) then ((param_Trim.f kj4 7 (⟨#[97, 46, 98, 46, 99]⟩ : ByteArray) y198).bind fun t206 => (some (t206.toList == ([97] : List UInt8)))) else (some false)) = some r := H
      have A42 := Aside0.mk A420
      clear A420
      by_cases c43 : t205.toList = ([97, 46, 98] : List UInt8)
      ·rw [if_pos c43] at H
       have c43b0 : (t205.toList == ([97, 46, 98] : List UInt8)) = true := beq_iff_eq.mpr c43
       have c43b1 : (t205.toList != ([97, 46, 98] : List UInt8)) = false := bne_eq_false_iff_eq.mpr c43
       clear c43
       replace H := Option.bind_eq_some_iff.mp H
       obtain ⟨t206, A440, H⟩ := H
       replace H : (some (t206.toList == ([97] : List UInt8))) = some r := H
       have A44 := Aside0.mk A440
       clear A440
       obtain rfl := Option.some.inj H
       go_wp2_with (first | ((with_reducible refine gate_callee (f := 15) rfl ?_); refine goesL_ (some 74) rfl rfl Tryd.func15 (by kernel_rfl) rfl #[.int .i64 1, .bool true, .bool true, .string (⟨#[]⟩ : ByteArray)] rfl (by (try simp only [List.map_toArray, List.map_cons, List.map_nil]); first | done | rfl | (simp only [List.length_drop, List.length_take]; rfl)) ?_; (with_reducible refine (param_Choose.calls kj4 1 true true (⟨#[]⟩ : ByteArray) t203 _ A38.out).mono ?_); rintro e w' ⟨rfl, ⟨nd, rfl⟩⟩; refine ⟨_, rfl, ?_⟩) | (go_at_call 17; (with_reducible refine (param_Length.calls (⟨#[97, 98, 99]⟩ : ByteArray) t204 _ A40.out).mono ?_); rintro e w' ⟨rfl, ⟨nd, rfl⟩⟩; obtain ⟨Ao45, co45, eo45⟩ := Kd.S_slice HO_10.out; subst eo45) | (go_at_call 19; (with_reducible refine (param_Trim.calls kj4 6 (⟨#[97, 46, 98, 46, 99]⟩ : ByteArray) _ _ y198 t205 _ ?side1 ?side2 A42.out).mono ?_); (case side1 => repeat (first | exact (Kd.S_reads' HO_10.out).2.2 | (with_reducible refine Kd.C_alloc ?_ _) | (with_reducible refine Kd.C_drewN ?_ _) | (with_reducible refine Kd.C_drew ?_))); (case side2 => exact (Kd.S_reads' HO_10.out).2.1); rintro e w46 ⟨rfl, hb⟩; have n0_ := Aside0.mk (Kd.S_below (by (with_reducible repeat (first | apply Kd.S_alloc | apply Kd.S_drewN | apply Kd.S_drew)); exact HO_10.out) hb); have n1_ := Aside0.mk (Kd.R_below (by (with_reducible repeat (first | apply Kd.R_alloc | apply Kd.R_drewN | apply Kd.R_drew)); exact HO_190001.out) hb); have n2_ := Aside0.mk (Kd.R_below (by (with_reducible repeat (first | apply Kd.R_alloc | apply Kd.R_drewN | apply Kd.R_drew)); exact HO_190002.out) hb); have n3_ := Aside0.mk (blk_below (g := gb189) (o := .cells #[.string (⟨#[115, 104]⟩ : ByteArray), .slice Ao11 y183.length co11, .slice Ao10 y186.length co10, .slice none 0 0, .slice none 0 0, .slice none 0 0, .int .i64 5, .int .i64 0, .int .i64 0, .int .i64 0, .string (⟨#[]⟩ : ByteArray), .int .i64 0, .int .i64 0, .int .i64 0, .bool false] 30 (0, 0)) (by (with_reducible repeat (first | refine blk_drewN ?_ _ | refine blk_drew ?_ | refine blk_alloc ?_ _)); exact BK189.out) hb); have n4_ := Aside0.mk (below_step (by repeat (first | (with_reducible first | exact HB.out | apply below_alloc | apply pw_below_drewN | apply below_drew1 | refine below_set ?_ GE189.out) | exact HB.out)) hb); clear HO_10; clear HO_190001; clear HO_190002; clear BK189; clear HB; have HO_10 := n0_; have HO_190001 := n1_; have HO_190002 := n2_; have BK189 := n3_; have HB := n4_; clear n0_ n1_ n2_ n3_ n4_; (try clear hb); (try clear hb2); (try clear hk); (try clear hi)) | (go_at_call 19; (with_reducible refine (param_Trim.calls kj4 7 (⟨#[97, 46, 98, 46, 99]⟩ : ByteArray) _ _ y198 t206 _ ?side1 ?side2 A44.out).mono ?_); (case side1 => repeat (first | exact (Kd.S_reads' HO_10.out).2.2 | (with_reducible refine Kd.C_alloc ?_ _) | (with_reducible refine Kd.C_drewN ?_ _) | (with_reducible refine Kd.C_drew ?_))); (case side2 => exact (Kd.S_reads' HO_10.out).2.1); rintro e w47 ⟨rfl, hb⟩; have n0_ := Aside0.mk (Kd.S_below (by (with_reducible repeat (first | apply Kd.S_alloc | apply Kd.S_drewN | apply Kd.S_drew)); exact HO_10.out) hb); have n1_ := Aside0.mk (Kd.R_below (by (with_reducible repeat (first | apply Kd.R_alloc | apply Kd.R_drewN | apply Kd.R_drew)); exact HO_190001.out) hb); have n2_ := Aside0.mk (Kd.R_below (by (with_reducible repeat (first | apply Kd.R_alloc | apply Kd.R_drewN | apply Kd.R_drew)); exact HO_190002.out) hb); have n3_ := Aside0.mk (blk_below (g := gb189) (o := .cells #[.string (⟨#[115, 104]⟩ : ByteArray), .slice Ao11 y183.length co11, .slice Ao10 y186.length co10, .slice none 0 0, .slice none 0 0, .slice none 0 0, .int .i64 5, .int .i64 0, .int .i64 0, .int .i64 0, .string (⟨#[]⟩ : ByteArray), .int .i64 0, .int .i64 0, .int .i64 0, .bool false] 30 (0, 0)) (by (with_reducible repeat (first | refine blk_drewN ?_ _ | refine blk_drew ?_ | refine blk_alloc ?_ _)); exact BK189.out) hb); have n4_ := Aside0.mk (below_step (by repeat (first | (with_reducible first | exact HB.out | apply below_alloc | apply pw_below_drewN | apply below_drew1 | refine below_set ?_ GE189.out) | exact HB.out)) hb); clear HO_10; clear HO_190001; clear HO_190002; clear BK189; clear HB; have HO_10 := n0_; have HO_190001 := n1_; have HO_190002 := n2_; have BK189 := n3_; have HB := n4_; clear n0_ n1_ n2_ n3_ n4_; (try clear hb); (try clear hb2); (try clear hk); (try clear hi)))
       go_ret
       exact ⟨by first | rfl | (simp [errW_none, errW_some] <;> rfl) | (simp [*, errW_none, errW_some] <;> rfl), by repeat (first | (with_reducible first | exact HB.out | apply below_alloc | apply pw_below_drewN | apply below_drew1 | refine below_set ?_ GE189.out) | exact HB.out)⟩
      ·rw [if_neg c43] at H
       have c43b0 : (t205.toList == ([97, 46, 98] : List UInt8)) = false := beq_eq_false_iff_ne.mpr c43
       have c43b1 : (t205.toList != ([97, 46, 98] : List UInt8)) = true := bne_iff_ne.mpr c43
       obtain rfl := Option.some.inj H
       go_wp2_with (first | ((with_reducible refine gate_callee (f := 15) rfl ?_); refine goesL_ (some 74) rfl rfl Tryd.func15 (by kernel_rfl) rfl #[.int .i64 1, .bool true, .bool true, .string (⟨#[]⟩ : ByteArray)] rfl (by (try simp only [List.map_toArray, List.map_cons, List.map_nil]); first | done | rfl | (simp only [List.length_drop, List.length_take]; rfl)) ?_; (with_reducible refine (param_Choose.calls kj4 1 true true (⟨#[]⟩ : ByteArray) t203 _ A38.out).mono ?_); rintro e w' ⟨rfl, ⟨nd, rfl⟩⟩; refine ⟨_, rfl, ?_⟩) | (go_at_call 17; (with_reducible refine (param_Length.calls (⟨#[97, 98, 99]⟩ : ByteArray) t204 _ A40.out).mono ?_); rintro e w' ⟨rfl, ⟨nd, rfl⟩⟩; obtain ⟨Ao48, co48, eo48⟩ := Kd.S_slice HO_10.out; subst eo48) | (go_at_call 19; (with_reducible refine (param_Trim.calls kj4 6 (⟨#[97, 46, 98, 46, 99]⟩ : ByteArray) _ _ y198 t205 _ ?side1 ?side2 A42.out).mono ?_); (case side1 => repeat (first | exact (Kd.S_reads' HO_10.out).2.2 | (with_reducible refine Kd.C_alloc ?_ _) | (with_reducible refine Kd.C_drewN ?_ _) | (with_reducible refine Kd.C_drew ?_))); (case side2 => exact (Kd.S_reads' HO_10.out).2.1); rintro e w49 ⟨rfl, hb⟩; have n0_ := Aside0.mk (Kd.S_below (by (with_reducible repeat (first | apply Kd.S_alloc | apply Kd.S_drewN | apply Kd.S_drew)); exact HO_10.out) hb); have n1_ := Aside0.mk (Kd.R_below (by (with_reducible repeat (first | apply Kd.R_alloc | apply Kd.R_drewN | apply Kd.R_drew)); exact HO_190001.out) hb); have n2_ := Aside0.mk (Kd.R_below (by (with_reducible repeat (first | apply Kd.R_alloc | apply Kd.R_drewN | apply Kd.R_drew)); exact HO_190002.out) hb); have n3_ := Aside0.mk (blk_below (g := gb189) (o := .cells #[.string (⟨#[115, 104]⟩ : ByteArray), .slice Ao11 y183.length co11, .slice Ao10 y186.length co10, .slice none 0 0, .slice none 0 0, .slice none 0 0, .int .i64 5, .int .i64 0, .int .i64 0, .int .i64 0, .string (⟨#[]⟩ : ByteArray), .int .i64 0, .int .i64 0, .int .i64 0, .bool false] 30 (0, 0)) (by (with_reducible repeat (first | refine blk_drewN ?_ _ | refine blk_drew ?_ | refine blk_alloc ?_ _)); exact BK189.out) hb); have n4_ := Aside0.mk (below_step (by repeat (first | (with_reducible first | exact HB.out | apply below_alloc | apply pw_below_drewN | apply below_drew1 | refine below_set ?_ GE189.out) | exact HB.out)) hb); clear HO_10; clear HO_190001; clear HO_190002; clear BK189; clear HB; have HO_10 := n0_; have HO_190001 := n1_; have HO_190002 := n2_; have BK189 := n3_; have HB := n4_; clear n0_ n1_ n2_ n3_ n4_; (try clear hb); (try clear hb2); (try clear hk); (try clear hi)))
       go_ret
       exact ⟨by first | rfl | (simp [errW_none, errW_some] <;> rfl) | (simp [*, errW_none, errW_some] <;> rfl), by repeat (first | (with_reducible first | exact HB.out | apply below_alloc | apply pw_below_drewN | apply below_drew1 | refine below_set ?_ GE189.out) | exact HB.out)⟩
     ·rw [if_neg c41] at H
      have c41b0 : (t204 == 3) = false := beq_eq_false_iff_ne.mpr c41
      have c41b1 : (t204 != 3) = true := bne_iff_ne.mpr c41
      obtain rfl := Option.some.inj H
      go_wp2_with (first | ((with_reducible refine gate_callee (f := 15) rfl ?_); refine goesL_ (some 74) rfl rfl Tryd.func15 (by kernel_rfl) rfl #[.int .i64 1, .bool true, .bool true, .string (⟨#[]⟩ : ByteArray)] rfl (by (try simp only [List.map_toArray, List.map_cons, List.map_nil]); first | done | rfl | (simp only [List.length_drop, List.length_take]; rfl)) ?_; (with_reducible refine (param_Choose.calls kj4 1 true true (⟨#[]⟩ : ByteArray) t203 _ A38.out).mono ?_); rintro e w' ⟨rfl, ⟨nd, rfl⟩⟩; refine ⟨_, rfl, ?_⟩) | (go_at_call 17; (with_reducible refine (param_Length.calls (⟨#[97, 98, 99]⟩ : ByteArray) t204 _ A40.out).mono ?_); rintro e w' ⟨rfl, ⟨nd, rfl⟩⟩))
      go_ret
      exact ⟨by first | rfl | (simp [errW_none, errW_some] <;> rfl) | (simp [*, errW_none, errW_some] <;> rfl), by repeat (first | (with_reducible first | exact HB.out | apply below_alloc | apply pw_below_drewN | apply below_drew1 | refine below_set ?_ GE189.out) | exact HB.out)⟩
    ·rw [if_neg c39] at H
     have c39b0 : (t203 == 1) = false := beq_eq_false_iff_ne.mpr c39
     have c39b1 : (t203 != 1) = true := bne_iff_ne.mpr c39
     obtain rfl := Option.some.inj H
     go_wp2_with (first | ((with_reducible refine gate_callee (f := 15) rfl ?_); refine goesL_ (some 74) rfl rfl Tryd.func15 (by kernel_rfl) rfl #[.int .i64 1, .bool true, .bool true, .string (⟨#[]⟩ : ByteArray)] rfl (by (try simp only [List.map_toArray, List.map_cons, List.map_nil]); first | done | rfl | (simp only [List.length_drop, List.length_take]; rfl)) ?_; (with_reducible refine (param_Choose.calls kj4 1 true true (⟨#[]⟩ : ByteArray) t203 _ A38.out).mono ?_); rintro e w' ⟨rfl, ⟨nd, rfl⟩⟩; refine ⟨_, rfl, ?_⟩))
     go_ret
     exact ⟨by first | rfl | (simp [errW_none, errW_some] <;> rfl) | (simp [*, errW_none, errW_some] <;> rfl), by repeat (first | (with_reducible first | exact HB.out | apply below_alloc | apply pw_below_drewN | apply below_drew1 | refine below_set ?_ GE189.out) | exact HB.out)⟩
end Go.Proofs.YthkbcomkbioepaaDoor.F
set_option linter.unusedVariables false
set_option linter.unusedSimpArgs false
namespace Go.Proofs.YthkbcomkbioepaaDoor.Opn
open Go.RowKit Go.Proofs.YthkbcomkbioepaaDoorW.PrintWords
variable {P : Program}
def Opens {α : Type} (P : Program) (t : TypeId) (d : Kd α) (ok : α → Prop) : Prop :=
  ∀ (H : Type) (enc : TypeId × Value → H) (W : World) (sp : Nat → Bool) (held : Bool) (fuel : Nat) (cs : List Value) (x : DataW H × List MemPlace),
    DataW.trod enc P W 0 sp held fuel t cs = some x → ∃ y : α, d.K W y cs ∧ ok y
theorem opens_int {t : TypeId} {k : IntKind} (ht : P.underlying t = some (.int k)) : Opens P t (Kd.int k) (fun n => (Lit.int k n).wf = true) := by
  intro H enc W sp held fuel cs x h
  obtain ⟨n, rfl, _, hw⟩ := DataW.trod_int ht h
  exact ⟨n, rfl, hw⟩
theorem opens_bool {t : TypeId} (ht : P.underlying t = some .bool) : Opens P t Kd.bool (fun _ => True) := by
  intro H enc W sp held fuel cs x h
  obtain ⟨b, rfl, _⟩ := DataW.trod_bool ht h
  exact ⟨b, rfl, trivial⟩
theorem opens_string {t : TypeId} (ht : P.underlying t = some .string) : Opens P t Kd.string (fun s => s.size ≤ maxLen) := by
  intro H enc W sp held fuel cs x h
  obtain ⟨s, rfl, _, hs⟩ := DataW.trod_string ht h
  exact ⟨s, rfl, hs⟩
theorem mapM_length {α β : Type} {f : α → Option β} : ∀ {l : List α} {xs : List β}, l.mapM f = some xs → xs.length = l.length
  | [], xs, h => by simp at h; simp [← h]
  | a :: r, xs, h => by
    rw [List.mapM_cons] at h
    cases h1 : f a with
    | none => simp [h1] at h
    | some y =>
      cases h2 : r.mapM f with
      | none => simp [h1, h2] at h
      | some ys =>
        simp [h1, h2] at h
        rw [← h]
        simp [mapM_length h2]
theorem cells_get {w : World} {a : Addr} {n : Nat} {cs : List Value} (h : w.cells? 0 a n = some cs) : cs.length = n ∧ ∀ i u, cs[i]? = some u → w.cell? (a.add i) = some u := by
  unfold World.cells? at h
  rw [if_pos (Nat.zero_le _)] at h
  have hl := mapM_length h
  rw [List.length_range] at hl
  refine ⟨hl, fun i u hu => ?_⟩
  have hi : i < n := by have := (List.getElem?_eq_some_iff.1 hu).1; omega
  have key : ∀ {l : List Nat} {xs : List Value}, l.mapM (fun i => w.cell? (a.add i)) = some xs → ∀ (j : Nat) (k : Nat), l[j]? = some k → xs[j]? = w.cell? (a.add k) := by
    intro l
    induction l with
    | nil => intro xs _ j k hk; simp at hk
    | cons b r ih =>
      intro xs hx j k hk
      rw [List.mapM_cons] at hx
      cases h1 : w.cell? (a.add b) with
      | none => simp [h1] at hx
      | some y =>
        cases h2 : r.mapM (fun i => w.cell? (a.add i)) with
        | none => simp [h1, h2] at hx
        | some ys =>
          simp [h1, h2] at hx
          subst hx
          cases j with
          | zero => simp at hk; subst hk; simp [h1]
          | succ j => simp at hk ⊢; exact ih h2 j k hk
  have := key h i i (by simp [hi])
  rw [← this]; exact hu
theorem choose_list {α : Type} {Q : Nat → α → Prop} : ∀ n : Nat, (∀ i, i < n → ∃ y, Q i y) → ∃ ys : List α, ys.length = n ∧ ∀ i y, ys[i]? = some y → Q i y
  | 0, _ => ⟨[], rfl, fun i y h => by simp at h⟩
  | n + 1, h => by
    obtain ⟨ys, hl, hy⟩ := choose_list n (fun i hi => h i (by omega))
    obtain ⟨z, hz⟩ := h n (by omega)
    refine ⟨ys ++ [z], by simp [hl], fun i y hi => ?_⟩
    rcases Nat.lt_or_ge i ys.length with hlt | hge
    · rw [List.getElem?_append_left hlt] at hi; exact hy i y hi
    · have hlt := (List.getElem?_eq_some_iff.1 hi).1
      simp at hlt
      have : i = ys.length := by omega
      subst this
      simp at hi
      subst hi
      rw [hl]; exact hz
theorem opens_slice {α : Type} {t e : TypeId} {d : Kd α} {ok : α → Prop} (ht : P.underlying t = some (.slice e)) (hd : Opens P e d ok) (hs : P.cellsOf e = d.sz) : Opens P t (Kd.slice e d) (fun xs => xs.length ≤ maxLen ∧ ∀ x ∈ xs, ok x) := by
  intro H enc W sp held fuel cs x h
  rcases DataW.trod_slice ht h with ⟨rfl, _⟩ | ⟨a, len, cap, els, rest, n, _, rfl, _, _, hb1, hb2, hl0, hel, _⟩
  · exact ⟨[], ⟨none, 0, rfl, Nat.le_refl _, rfl, by simp, fun h => absurd h (by simp)⟩, by simp, fun x hx => by cases hx⟩
  · have hgot : ∀ i, i < len → ∃ y : α, ok y ∧ ∃ c : List Value, c.length = d.sz ∧ d.K W y c ∧ ∀ j u, c[j]? = some u → W.cell? (a.add (i * d.sz + j)) = some u := by
      intro i hi
      have hz := hel i hi
      rw [List.getElem?_eq_getElem (by omega)] at hz
      cases hc : W.cells? 0 (a.add (i * P.cellsOf e)) (P.cellsOf e) with
      | none => rw [hc] at hz; simp at hz
      | some c =>
        rw [hc] at hz
        simp only [Option.bind_some] at hz
        obtain ⟨y, hK, hok⟩ := hd H enc W sp held n c _ hz
        obtain ⟨hcl, hcc⟩ := cells_get hc
        refine ⟨y, hok, c, by rw [hcl, hs], hK, fun j u hu => ?_⟩
        have := hcc j u hu
        rw [Addr.add_add, hs] at this
        exact this
    obtain ⟨ys, hl, hy⟩ := choose_list len hgot
    refine ⟨ys, ⟨some a, cap, by rw [hl], by rw [hl]; exact hb1, rfl, ?_, fun _ => ⟨a, rfl, fun j p hp => ?_⟩⟩, by rw [hl]; exact Nat.le_trans hb1 hb2, fun x hx => ?_⟩
    · rw [hl]; simp only [maxLen] at hb2; omega
    · obtain ⟨_, c, h1, h2, h3⟩ := hy j p hp
      exact ⟨c, h1, h2, h3⟩
    · obtain ⟨i, hi, rfl⟩ := List.getElem_of_mem hx
      exact (hy i _ (List.getElem?_eq_getElem hi)).1
theorem opens_opq {α : Type} {t e : TypeId} {d : Kd α} (g : Option Addr → Nat → Nat → α) (hd : ∀ W A n c, d.K W (g A n c) [.slice A n c]) (ht : P.underlying t = some (.slice e)) : Opens P t d (fun _ => True) := by
  intro H enc W sp held fuel cs x h
  rcases DataW.trod_slice ht h with ⟨rfl, _⟩ | ⟨a, len, cap, els, rest, n, _, rfl, _⟩
  · exact ⟨g none 0 0, hd _ _ _ _, trivial⟩
  · exact ⟨g (some a) len cap, hd _ _ _ _, trivial⟩
def OpensFields {α : Type} (P : Program) (fs : List Field) (off : Nat) (d : Kd α) (ok : α → Prop) : Prop :=
  ∀ (H : Type) (enc : TypeId × Value → H) (W : World) (sp : Nat → Bool) (held : Bool) (fuel : Nat) (cs : List Value),
    cs.length = off + d.sz → (∀ f ∈ fs, ∃ z, DataW.trod enc P W 0 sp held fuel f.type ((cs.drop f.offset).take (P.cellsOf f.type)) = some z) → ∃ y : α, d.K W y (cs.drop off) ∧ ok y
theorem fields_one {α : Type} {f : Field} {off : Nat} {d : Kd α} {ok : α → Prop} (ho : f.offset = off) (hd : Opens P f.type d ok) (hs : P.cellsOf f.type = d.sz) : OpensFields P [f] off d ok := by
  intro H enc W sp held fuel cs hl h
  obtain ⟨z, hz⟩ := h f (List.mem_singleton.2 rfl)
  rw [ho, hs, List.take_of_length_le (by simp; omega)] at hz
  exact hd H enc W sp held fuel _ z hz
theorem fields_cons {α β : Type} {f : Field} {fs : List Field} {off : Nat} {d : Kd α} {d' : Kd β} {ok : α → Prop} {ok' : β → Prop} (ho : f.offset = off) (hd : Opens P f.type d ok) (hs : P.cellsOf f.type = d.sz) (hr : OpensFields P fs (off + d.sz) d' ok') :
    OpensFields P (f :: fs) off (Kd.pair d d') (fun y => ok y.1 ∧ ok' y.2) := by
  intro H enc W sp held fuel cs hl h
  obtain ⟨z, hz⟩ := h f List.mem_cons_self
  rw [ho, hs] at hz
  obtain ⟨y, hy, oy⟩ := hd H enc W sp held fuel _ z hz
  obtain ⟨y', hy', oy'⟩ := hr H enc W sp held fuel cs (by rw [hl]; show off + (d.sz + d'.sz) = _; omega) (fun g hg => h g (List.mem_cons_of_mem _ hg))
  refine ⟨(y, y'), ⟨(cs.drop off).take d.sz, cs.drop (off + d.sz), ?_, hy, hy'⟩, oy, oy'⟩
  rw [← List.drop_drop, List.take_append_drop]
theorem opens_struct {α β : Type} {t : TypeId} {fs : Array Field} {d : Kd α} {ok : α → Prop} {f : β → α} (ht : P.underlying t = some (.struct fs)) (hr : OpensFields P fs.toList 0 d ok) (hs : P.cellsOf t = d.sz) (g : α → β) (hg : ∀ a, f (g a) = a) :
    Opens P t (Kd.iso d f) (fun y => ok (f y)) := by
  intro H enc W sp held fuel cs x h
  obtain ⟨xs, n, _, _, hl, hlen, hf⟩ := DataW.trod_struct ht h
  obtain ⟨y, hy, oy⟩ := hr H enc W sp held n cs (by rw [hl, hs]; omega) (fun q hq => by
    obtain ⟨i, hi, rfl⟩ := List.getElem_of_mem hq
    have := hf i _ (by simpa using Array.getElem?_eq_getElem (xs := fs) (i := i) (by simpa using hi))
    rw [List.getElem?_eq_getElem (by rw [hlen]; simpa using hi)] at this
    exact ⟨_, by simpa using this⟩)
  exact ⟨g y, by show d.K W (f (g y)) cs; rw [hg]; exact hy, by show ok (f (g y)); rw [hg]; exact oy⟩
theorem opens_array2 {α : Type} {t e : TypeId} {d : Kd α} {ok : α → Prop} (ht : P.underlying t = some (.array 2 e)) (hd : Opens P e d ok) (hs : P.cellsOf e = d.sz) (hz : P.cellsOf t = 2 * d.sz) :
    Opens P t (Kd.pair d d) (fun y => ok y.1 ∧ ok y.2) := by
  intro H enc W sp held fuel cs x h
  obtain ⟨xs, m, _, _, hl, hlen, hf⟩ := DataW.trod_array ht h
  have h0 := hf 0 (by omega)
  have h1 := hf 1 (by omega)
  rw [List.getElem?_eq_getElem (by omega)] at h0 h1
  obtain ⟨y0, k0, o0⟩ := hd H enc W sp held m _ _ h0
  obtain ⟨y1, k1, o1⟩ := hd H enc W sp held m _ _ h1
  rw [hs] at k0 k1
  rw [List.take_of_length_le (by simp; omega)] at k1
  simp only [Nat.zero_mul, List.drop_zero, Nat.one_mul] at k0 k1
  exact ⟨(y0, y1), ⟨_, _, (List.take_append_drop d.sz cs).symm, k0, k1⟩, o0, o1⟩
theorem opens_imp {α : Type} {t : TypeId} {d : Kd α} {ok ok' : α → Prop} (h : Opens P t d ok) (hi : ∀ x, ok x → ok' x) : Opens P t d ok' :=
  fun H enc W sp held fuel cs x hx => let ⟨y, hy, oy⟩ := h H enc W sp held fuel cs x hx; ⟨y, hy, hi y oy⟩
theorem arg_slice {α : Type} {H : Type} {enc : TypeId × Value → H} {W : World} {sp : Nat → Bool} {held : Bool} {t e : TypeId} {v : Value} {d : DataW H} {p : List MemPlace} {k : Kd α} {ok : List α → Prop} (ho : Opens P t (Kd.slice e k) ok) (hv : ∃ a len cap, v = .slice a len cap) (h : DataW.Trod enc P W 0 sp held t v d p) :
    ∃ A c xs, v = .slice A xs.length c ∧ xs.length ≤ c ∧ k.C W A xs.length xs ∧ ok xs := by
  obtain ⟨a, len, cap, rfl⟩ := hv
  obtain ⟨fuel, hf⟩ := h
  obtain ⟨xs, ⟨A, c, h1, h2, h3⟩, oy⟩ := ho H enc W sp held fuel _ _ hf
  simp [Value.cells] at h1
  obtain ⟨rfl, rfl, rfl⟩ := h1
  exact ⟨_, _, xs, rfl, h2, h3, oy⟩
theorem arg_struct {α : Type} {H : Type} {enc : TypeId × Value → H} {W : World} {sp : Nat → Bool} {held : Bool} {t : TypeId} {v : Value} {d : DataW H} {p : List MemPlace} {k : Kd α} {ok : α → Prop} (ho : Opens P t k ok) (hv : ∃ cs : Array Value, v = .agg cs) (h : DataW.Trod enc P W 0 sp held t v d p) :
    ∃ (cs : List Value) (x : α), v = .agg cs.toArray ∧ k.K W x cs ∧ ok x := by
  obtain ⟨cs, rfl⟩ := hv
  obtain ⟨fuel, hf⟩ := h
  obtain ⟨x, h1, oy⟩ := ho H enc W sp held fuel _ _ hf
  exact ⟨cs.toList, x, by simp, by simpa [Value.cells] using h1, oy⟩
theorem okWide_array2 {n : Nat} {e t : TypeId} {w : World} {r : Reach} {base : Nat} {v : Value} (ht : P.underlying t = some (.array n e)) (h : Value.okWide P w r base t v) : ∃ cs : Array Value, v = .agg cs := by
  simp only [Value.okWide, ht] at h
  obtain ⟨cs, h1, _⟩ := h
  exact ⟨cs, h1⟩
end Go.Proofs.YthkbcomkbioepaaDoor.Opn
set_option linter.unusedVariables false
namespace Go.Proofs.YthkbcomkbioepaaDoor.Opn
open Go.RowKit Go.Proofs.YthkbcomkbioepaaDoorW.PrintWords Go.Proofs.YthkbcomkbioepaaDoor.F
def ok49 (x : S_Var) : Prop := (fun s => s.size ≤ maxLen) x.f0 ∧ (fun s => s.size ≤ maxLen) x.f1 ∧ (fun _ => True) x.f2 ∧ (fun _ => True) x.f3 ∧ (fun _ => True) x.f4
theorem opens49 : Opens Tryd.prog 49 k_Var ok49 := opens_imp (opens_struct Tryd.underlying49 (fields_cons rfl (opens_string Tryd.underlying9) (by kernel_rfl) (fields_cons rfl (opens_string Tryd.underlying9) (by kernel_rfl) (fields_cons rfl (opens_bool Tryd.underlying4) (by kernel_rfl) (fields_cons rfl (opens_bool Tryd.underlying4) (by kernel_rfl) (fields_one rfl (opens_bool Tryd.underlying4) (by kernel_rfl)))))) (by kernel_rfl) (fun x => (⟨x.1, x.2.1, x.2.2.1, x.2.2.2.1, x.2.2.2.2⟩ : S_Var)) (fun _ => rfl)) (fun x h => h)
def ok132 (x : S_Alias) : Prop := (fun s => s.size ≤ maxLen) x.f0 ∧ (fun s => s.size ≤ maxLen) x.f1
theorem opens132 : Opens Tryd.prog 132 k_Alias ok132 := opens_imp (opens_struct Tryd.underlying132 (fields_cons rfl (opens_string Tryd.underlying9) (by kernel_rfl) (fields_one rfl (opens_string Tryd.underlying9) (by kernel_rfl))) (by kernel_rfl) (fun x => (⟨x.1, x.2⟩ : S_Alias)) (fun _ => rfl)) (fun x h => h)
def ok134 (x : S_Trap) : Prop := (fun n => (Lit.int .i64 n).wf = true) x.f0 ∧ (fun s => s.size ≤ maxLen) x.f1
theorem opens134 : Opens Tryd.prog 134 k_Trap ok134 := opens_imp (opens_struct Tryd.underlying134 (fields_cons rfl (opens_int Tryd.underlying3) (by kernel_rfl) (fields_one rfl (opens_string Tryd.underlying9) (by kernel_rfl))) (by kernel_rfl) (fun x => (⟨x.1, x.2⟩ : S_Trap)) (fun _ => rfl)) (fun x h => h)
structure S28 where
  f0 : Int
  f1 : Int
def k28 : Kd S28 := Kd.iso (Kd.pair (Kd.int .i64) (Kd.int .i64)) (fun x : S28 => (x.f0, x.f1))
theorem k28_open {w : World} {x : S28} {cs : List Value} (h : k28.K w x cs) : cs = [.int .i64 x.f0, .int .i64 x.f1] := by
  obtain ⟨_, _, rfl, rfl, rfl⟩ := h
  exact rfl
def ok28 (x : S28) : Prop := (fun n => (Lit.int .i64 n).wf = true) x.f0 ∧ (fun n => (Lit.int .i64 n).wf = true) x.f1
theorem opens28 : Opens Tryd.prog 28 k28 ok28 := opens_imp (opens_struct Tryd.underlying28 (fields_cons rfl (opens_int Tryd.underlying3) (by kernel_rfl) (fields_one rfl (opens_int Tryd.underlying3) (by kernel_rfl))) (by kernel_rfl) (fun x => (⟨x.1, x.2⟩ : S28)) (fun _ => rfl)) (fun x h => h)
structure S30 where
  f0 : ByteArray
  f1 : List S_Var
  f2 : List ByteArray
  f3 : Opq
  f4 : List S_Alias
  f5 : List S_Trap
  f6 : Int
  f7 : Int
  f8 : Int
  f9 : Int
  f10 : ByteArray
  f11 : S28
  f12 : Int
  f13 : Bool
def k30 : Kd S30 := Kd.iso (Kd.pair Kd.string (Kd.pair (Kd.slice 49 k_Var) (Kd.pair (Kd.slice 9 Kd.string) (Kd.pair kopq (Kd.pair (Kd.slice 132 k_Alias) (Kd.pair (Kd.slice 134 k_Trap) (Kd.pair (Kd.int .i64) (Kd.pair (Kd.int .i64) (Kd.pair (Kd.int .i64) (Kd.pair (Kd.int .i64) (Kd.pair Kd.string (Kd.pair k28 (Kd.pair (Kd.int .i64) Kd.bool))))))))))))) (fun x : S30 => (x.f0, x.f1, x.f2, x.f3, x.f4, x.f5, x.f6, x.f7, x.f8, x.f9, x.f10, x.f11, x.f12, x.f13))
theorem k30_open {w : World} {x : S30} {cs : List Value} (h : k30.K w x cs) : ∃ A1 c1 A2 c2 A4 c4 A5 c5, cs = [.string x.f0, .slice A1 x.f1.length c1, .slice A2 x.f2.length c2, .slice x.f3.A x.f3.n x.f3.c, .slice A4 x.f4.length c4, .slice A5 x.f5.length c5, .int .i64 x.f6, .int .i64 x.f7, .int .i64 x.f8, .int .i64 x.f9, .string x.f10, .int .i64 x.f11.f0, .int .i64 x.f11.f1, .int .i64 x.f12, .bool x.f13] ∧ x.f1.length ≤ c1 ∧ k_Var.C w A1 x.f1.length x.f1 ∧ x.f2.length ≤ c2 ∧ Kd.string.C w A2 x.f2.length x.f2 ∧ x.f4.length ≤ c4 ∧ k_Alias.C w A4 x.f4.length x.f4 ∧ x.f5.length ≤ c5 ∧ k_Trap.C w A5 x.f5.length x.f5 := by
  obtain ⟨_, _, rfl, rfl, ⟨_, _, rfl, ⟨A1, c1, rfl, l1, g1⟩, ⟨_, _, rfl, ⟨A2, c2, rfl, l2, g2⟩, ⟨_, _, rfl, rfl, ⟨_, _, rfl, ⟨A4, c4, rfl, l4, g4⟩, ⟨_, _, rfl, ⟨A5, c5, rfl, l5, g5⟩, ⟨_, _, rfl, rfl, ⟨_, _, rfl, rfl, ⟨_, _, rfl, rfl, ⟨_, _, rfl, rfl, ⟨_, _, rfl, rfl, ⟨_, _, rfl, ⟨_, _, rfl, rfl, rfl⟩, ⟨_, _, rfl, rfl, rfl⟩⟩⟩⟩⟩⟩⟩⟩⟩⟩⟩⟩⟩ := h
  exact ⟨A1, c1, A2, c2, A4, c4, A5, c5, rfl, l1, g1, l2, g2, l4, g4, l5, g5⟩
def ok30 (x : S30) : Prop := (fun s => s.size ≤ maxLen) x.f0 ∧ (fun xs => xs.length ≤ maxLen ∧ ∀ x ∈ xs, ok49 x) x.f1 ∧ (fun xs => xs.length ≤ maxLen ∧ ∀ x ∈ xs, (fun s => s.size ≤ maxLen) x) x.f2 ∧ (fun _ => True) x.f3 ∧ (fun xs => xs.length ≤ maxLen ∧ ∀ x ∈ xs, ok132 x) x.f4 ∧ (fun xs => xs.length ≤ maxLen ∧ ∀ x ∈ xs, ok134 x) x.f5 ∧ (fun n => (Lit.int .i64 n).wf = true) x.f6 ∧ (fun n => (Lit.int .i64 n).wf = true) x.f7 ∧ (fun n => (Lit.int .i64 n).wf = true) x.f8 ∧ (fun n => (Lit.int .i64 n).wf = true) x.f9 ∧ (fun s => s.size ≤ maxLen) x.f10 ∧ ok28 x.f11 ∧ (fun n => (Lit.int .i64 n).wf = true) x.f12 ∧ (fun _ => True) x.f13
theorem opens30 : Opens Tryd.prog 30 k30 ok30 := opens_imp (opens_struct Tryd.underlying30 (fields_cons rfl (opens_string Tryd.underlying9) (by kernel_rfl) (fields_cons rfl (opens_slice Tryd.underlying22 opens49 (by kernel_rfl)) (by kernel_rfl) (fields_cons rfl (opens_slice Tryd.underlying23 (opens_string Tryd.underlying9) (by kernel_rfl)) (by kernel_rfl) (fields_cons rfl (opens_opq (fun A n c => (⟨A, n, c⟩ : Opq)) (fun _ _ _ _ => rfl) Tryd.underlying24) (by kernel_rfl) (fields_cons rfl (opens_slice Tryd.underlying25 opens132 (by kernel_rfl)) (by kernel_rfl) (fields_cons rfl (opens_slice Tryd.underlying26 opens134 (by kernel_rfl)) (by kernel_rfl) (fields_cons rfl (opens_int Tryd.underlying3) (by kernel_rfl) (fields_cons rfl (opens_int Tryd.underlying3) (by kernel_rfl) (fields_cons rfl (opens_int Tryd.underlying3) (by kernel_rfl) (fields_cons rfl (opens_int Tryd.underlying3) (by kernel_rfl) (fields_cons rfl (opens_string Tryd.underlying9) (by kernel_rfl) (fields_cons rfl opens28 (by kernel_rfl) (fields_cons rfl (opens_int Tryd.underlying3) (by kernel_rfl) (fields_one rfl (opens_bool Tryd.underlying4) (by kernel_rfl))))))))))))))) (by kernel_rfl) (fun x => (⟨x.1, x.2.1, x.2.2.1, x.2.2.2.1, x.2.2.2.2.1, x.2.2.2.2.2.1, x.2.2.2.2.2.2.1, x.2.2.2.2.2.2.2.1, x.2.2.2.2.2.2.2.2.1, x.2.2.2.2.2.2.2.2.2.1, x.2.2.2.2.2.2.2.2.2.2.1, x.2.2.2.2.2.2.2.2.2.2.2.1, x.2.2.2.2.2.2.2.2.2.2.2.2.1, x.2.2.2.2.2.2.2.2.2.2.2.2.2⟩ : S30)) (fun _ => rfl)) (fun x h => h)
def ok96 (x : S_Span) : Prop := (fun n => (Lit.int .u8 n).wf = true) x.f0 ∧ (fun n => (Lit.int .u8 n).wf = true) x.f1
theorem opens96 : Opens Tryd.prog 96 k_Span ok96 := opens_imp (opens_struct Tryd.underlying96 (fields_cons rfl (opens_int Tryd.underlying5) (by kernel_rfl) (fields_one rfl (opens_int Tryd.underlying5) (by kernel_rfl))) (by kernel_rfl) (fun x => (⟨x.1, x.2⟩ : S_Span)) (fun _ => rfl)) (fun x h => h)
def ok52 (x : S_PatItem) : Prop := (fun n => (Lit.int .i64 n).wf = true) x.f0 ∧ (fun s => s.size ≤ maxLen) x.f1 ∧ (fun _ => True) x.f2 ∧ (fun xs => xs.length ≤ maxLen ∧ ∀ x ∈ xs, ok96 x) x.f3
theorem opens52 : Opens Tryd.prog 52 k_PatItem ok52 := opens_imp (opens_struct Tryd.underlying52 (fields_cons rfl (opens_int Tryd.underlying3) (by kernel_rfl) (fields_cons rfl (opens_string Tryd.underlying9) (by kernel_rfl) (fields_cons rfl (opens_bool Tryd.underlying4) (by kernel_rfl) (fields_one rfl (opens_slice Tryd.underlying50 opens96 (by kernel_rfl)) (by kernel_rfl))))) (by kernel_rfl) (fun x => (⟨x.1, x.2.1, x.2.2.1, x.2.2.2⟩ : S_PatItem)) (fun _ => rfl)) (fun x h => h)
end Go.Proofs.YthkbcomkbioepaaDoor.Opn
set_option linter.unusedVariables false
set_option linter.unusedSimpArgs false
namespace Go.Proofs.YthkbcomkbioepaaDoor.Pure
open Go.RowKit Go.Proofs.YthkbcomkbioepaaDoor.F Go.Proofs.YthkbcomkbioepaaDoorW.PrintWords
theorem awake_ok {k : Nat} (h : 40 ≤ k) : jobshelllaw17_awake.f k = some true :=
  at_rounds (g := fun k => jobshelllaw17_awake.f k) (fun k => jobshelllaw17_awake.mono k) h (by decide +kernel)
theorem wrap_id {i : Int} (h0 : -9223372036854775808 ≤ i) (h1 : i ≤ 9223372036854775807) : wrap64 i = i := by unfold wrap64; omega
theorem wrap_succ {i : Nat} (h : i < 9223372036854775807) : wrap64 ((i : Int) + 1) = ((i + 1 : Nat) : Int) := by rw [wrap_id (by omega) (by omega)]; omega
theorem succ_of {n k : Nat} (h : n < k) : ∃ m, k = m + 1 := ⟨k - 1, by omega⟩
theorem bt_drop (s : ByteArray) (i : Nat) (h : i < s.size) : ∃ c : UInt8, s.data.toList.drop i = c :: s.data.toList.drop (i + 1) ∧ bt s i = (c.toNat : Int) := by
  refine ⟨s.data.toList[i]'(by simpa using h), List.drop_eq_getElem_cons _, ?_⟩
  have h' : ((i : Int)).toNat < s.size := by omega
  unfold bt
  rw [dif_pos h']
  have : s[((i : Int)).toNat]'h' = s.data.toList[i]'(by simpa using h) := by
    have e : ((i : Int)).toNat = i := by omega
    simp only [e]
    simp; rfl
  rw [this]
def ba (l : List UInt8) : ByteArray := ⟨l.toArray⟩
theorem ba_data (l : List UInt8) : (ba l).data.toList = l := by simp [ba]
theorem ba_size (l : List UInt8) : (ba l).size = l.length := rfl
theorem ba_of (s : ByteArray) : ba s.data.toList = s := by simp [ba]
theorem size_data (s : ByteArray) : s.data.toList.length = s.size := by simp
theorem extract_data (s : ByteArray) (a b : Nat) : (s.extract a b).data.toList = (s.data.toList.take b).drop a := by rw [Lib.extract_data, List.drop_take]
theorem extract_ba (s : ByteArray) (a b : Nat) : s.extract a b = ba ((s.data.toList.take b).drop a) := by
  rw [← extract_data, ba_of]
theorem ba_append (a b : List UInt8) : ba a ++ ba b = ba (a ++ b) := by
  apply ByteArray.ext; rw [ByteArray.data_append]; simp [ba]
theorem getD_drop {α} (d : α) (xs : List α) (i : Nat) (h : i < xs.length) : xs.drop i = xs.getD ((i : Int)).toNat d :: xs.drop (i + 1) := by
  rw [List.drop_eq_getElem_cons h]
  have e : ((i : Int)).toNat = i := by omega
  rw [e, List.getD_eq_getElem?_getD, List.getElem?_eq_getElem h]; rfl
theorem nil_iff (s : ByteArray) : s.toList = ([] : List UInt8) ↔ s.size = 0 := by
  rw [Lib.toList_data, ← size_data, List.length_eq_zero_iff]
end Go.Proofs.YthkbcomkbioepaaDoor.Pure
