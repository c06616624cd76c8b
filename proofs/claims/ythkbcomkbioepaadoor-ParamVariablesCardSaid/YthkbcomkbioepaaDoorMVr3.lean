/- The law ParamVariables: for every input the call returns true and leaves its arguments as they were; the variables that the row lists are tied to the program's text (a tied card). No condition beyond the row's own. -/
import Derived.Lib.ItoaLen
import Derived.Test.YthkbcomkbioepaaDoorCards
import Derived.Test.YthkbcomkbioepaaDoorTie
import Derived.WalkKit
import Derived.ProofKit
import Derived.OpenShut
import Derived.ShutString
import Derived.ChangeOld
import Derived.Below
import Derived.SizedLaws
import Derived.LaidMore
import Derived.Lay
import Derived.SevenTiedAt
import Derived.Stop.Joined
import Derived.Carry
import Derived.Test.YthkbcomkbioepaaDoorB0
import Derived.Test.YthkbcomkbioepaaDoorMVr1
import Derived.Test.YthkbcomkbioepaaDoorMVr2
import Derived.Test.YthkbcomkbioepaaDoorB4
import Derived.Test.YthkbcomkbioepaaDoorB1
import Derived.Test.YthkbcomkbioepaaDoorMVr0
namespace Go.Proofs.YthkbcomkbioepaaDoor.F
open Go.RowKit Go.Proofs.YthkbcomkbioepaaDoorW.PrintWords Go.Proofs.YthkbcomkbioepaaDoorW.PrintLast Go.Proofs.YthkbcomkbioepaaDoorW.PrintMore
attribute [local go_sem] max2_int min2_int max_two min_two max_three min_three max_four min_four
set_option linter.unusedVariables false
set_option linter.unusedSimpArgs false
mutual
def jobshellref17_Value.j0 : Nat → ByteArray → Int → Bool → ByteArray → List (S_Var) → List ByteArray → Opq → List (S_Alias) → List (S_Trap) → Int → Int → Int → Int → ByteArray → Int → Int → Int → Bool → Option (ByteArray × Bool)
 | 0, _, _, _, _, _, _, _, _, _, _, _, _, _, _, _, _, _, _ => none
 | k + 1, x1, x6, x26, x239000, x239001, x239002, x239003, x239004, x239005, x239006, x239007, x239008, x239009, x239010, x239011, x239012, x239013, x239014 => if x26 = true then (if 0 ≤ (wrap64 (x6 - 1)) then (if (wrap64 (x6 - 1)) < (x239002.length : Int) then (some (rdOf ByteArray.empty x239002 (wrap64 (x6 - 1)), true)) else (none)) else (none)) else (if x1.toList = ([48] : List UInt8) then (some (x239000, true)) else (if x1.toList = ([35] : List UInt8) then ((jobshellref05_Decimal.f k (x239002.length : Int)).bind fun t249 => (some (t249, true))) else (if x1.toList = ([63] : List UInt8) then ((jobshellref05_Decimal.f k x239007).bind fun t250 => (some (t250, true))) else (if x1.toList = ([45] : List UInt8) then ((jobshellref17_Flags.f k x239006).bind fun t251 => (some (t251, true))) else (if x1.toList = ([36] : List UInt8) then ((jobshellref05_Decimal.f k x239008).bind fun t252 => (some (t252, true))) else (if x1.toList = ([33] : List UInt8) then (jobshellref17_Value.j1 k x1 (x239009 != 0) x239000 x239001 x239002 x239003 x239004 x239005 x239006 x239007 x239008 x239009 x239010 x239011 x239012 x239013 x239014) else (jobshellref17_Value.j1 k x1 false x239000 x239001 x239002 x239003 x239004 x239005 x239006 x239007 x239008 x239009 x239010 x239011 x239012 x239013 x239014)))))))
def jobshellref17_Value.j1 : Nat → ByteArray → Bool → ByteArray → List (S_Var) → List ByteArray → Opq → List (S_Alias) → List (S_Trap) → Int → Int → Int → Int → ByteArray → Int → Int → Int → Bool → Option (ByteArray × Bool)
 | 0, _, _, _, _, _, _, _, _, _, _, _, _, _, _, _, _, _ => none
 | k + 1, x1, x72, x239000, x239001, x239002, x239003, x239004, x239005, x239006, x239007, x239008, x239009, x239010, x239011, x239012, x239013, x239014 => if x72 = true then ((jobshellref05_Decimal.f k x239009).bind fun t253 => (some (t253, true))) else (if x1.toList = ([64] : List UInt8) then ((jobshellref17_Join.f k x239002 (⟨#[32]⟩ : ByteArray)).bind fun t254 => (some (t254, decide ((x239002.length : Int) > 0)))) else (if x1.toList = ([42] : List UInt8) then ((jobshellref17_Glue.f k x239001).bind fun t255 => ((jobshellref17_Join.f k x239002 t255).bind fun t256 => (some (t256, decide ((x239002.length : Int) > 0))))) else (some ((⟨#[]⟩ : ByteArray), false))))
end
def jobshellref17_Value.f (k : Nat) (a0_0 : ByteArray) (l0_1 : List (S_Var)) (l0_2 : List ByteArray) (a0_3 : Opq) (l0_4 : List (S_Alias)) (l0_5 : List (S_Trap)) (a0_6 : Int) (a0_7 : Int) (a0_8 : Int) (a0_9 : Int) (a0_10 : ByteArray) (a0_11 : Int) (a0_12 : Int) (a0_13 : Int) (a0_14 : Bool) (a1 : ByteArray) : Option (ByteArray × Bool) := (jobshellref17_positional.f k a1).bind fun t239 => ((jobshellref01_Name.f k a1).bind fun t240 => (if t240 = true then ((jobshellref15_Get.f k l0_1 a1).bind fun bt241 => (if bt241.2.2.1 = true then (some (bt241.2.1, true)) else (some ((⟨#[]⟩ : ByteArray), false)))) else (if t239 > 0 then (jobshellref17_Value.j0 k a1 t239 (decide (t239 ≤ (l0_2.length : Int))) a0_0 l0_1 l0_2 a0_3 l0_4 l0_5 a0_6 a0_7 a0_8 a0_9 a0_10 a0_11 a0_12 a0_13 a0_14) else (jobshellref17_Value.j0 k a1 t239 false a0_0 l0_1 l0_2 a0_3 l0_4 l0_5 a0_6 a0_7 a0_8 a0_9 a0_10 a0_11 a0_12 a0_13 a0_14))))
theorem jobshellref17_Value.mono_l : ∀ k, (∀ y0 y1 y2 y3 y4 y5 y6 y7 y8 y9 y10 y11 y12 y13 y14 y15 y16 y17, LeO (jobshellref17_Value.j0 k y0 y1 y2 y3 y4 y5 y6 y7 y8 y9 y10 y11 y12 y13 y14 y15 y16 y17) (jobshellref17_Value.j0 (k + 1) y0 y1 y2 y3 y4 y5 y6 y7 y8 y9 y10 y11 y12 y13 y14 y15 y16 y17)) ∧ (∀ y0 y1 y2 y3 y4 y5 y6 y7 y8 y9 y10 y11 y12 y13 y14 y15 y16, LeO (jobshellref17_Value.j1 k y0 y1 y2 y3 y4 y5 y6 y7 y8 y9 y10 y11 y12 y13 y14 y15 y16) (jobshellref17_Value.j1 (k + 1) y0 y1 y2 y3 y4 y5 y6 y7 y8 y9 y10 y11 y12 y13 y14 y15 y16))
 | 0 => ⟨fun _ _ _ _ _ _ _ _ _ _ _ _ _ _ _ _ _ _ r h => by simp [jobshellref17_Value.j0] at h, fun _ _ _ _ _ _ _ _ _ _ _ _ _ _ _ _ _ r h => by simp [jobshellref17_Value.j1] at h⟩
 | k + 1 => by
  obtain ⟨ih0, ih1⟩ := jobshellref17_Value.mono_l k
  refine ⟨?_, ?_⟩
  ·intro y0 y1 y2 y3 y4 y5 y6 y7 y8 y9 y10 y11 y12 y13 y14 y15 y16 y17
   unfold jobshellref17_Value.j0
   repeat' first
   | (with_reducible exact ih0 _ _ _ _ _ _ _ _ _ _ _ _ _ _ _ _ _ _)
   | (with_reducible exact ih1 _ _ _ _ _ _ _ _ _ _ _ _ _ _ _ _ _)
   | (with_reducible exact jobshellref01_Name.mono _ _)
   | (with_reducible exact jobshellref05_Decimal.mono _ _)
   | (with_reducible exact jobshellref15_Get.mono _ _ _)
   | (with_reducible exact jobshellref17_Flags.mono _ _)
   | (with_reducible exact jobshellref17_Glue.mono _ _)
   | (with_reducible exact jobshellref17_Join.mono _ _ _)
   | (with_reducible exact jobshellref17_positional.mono _ _)
   | (with_reducible exact LeO.refl _)
   | (with_reducible exact LeO.none _)
   | (with_reducible refine LeO.ite ?_ ?_)
   | (with_reducible refine LeO.bind ?_ (fun _ => ?_))
   | exact ih0 _ _ _ _ _ _ _ _ _ _ _ _ _ _ _ _ _ _
   | exact ih1 _ _ _ _ _ _ _ _ _ _ _ _ _ _ _ _ _
   | exact jobshellref01_Name.mono _ _
   | exact jobshellref05_Decimal.mono _ _
   | exact jobshellref15_Get.mono _ _ _
   | exact jobshellref17_Flags.mono _ _
   | exact jobshellref17_Glue.mono _ _
   | exact jobshellref17_Join.mono _ _ _
   | exact jobshellref17_positional.mono _ _
   | exact LeO.none _
   | refine LeO.ite ?_ ?_
   | refine LeO.bind ?_ (fun _ => ?_)
  ·intro y0 y1 y2 y3 y4 y5 y6 y7 y8 y9 y10 y11 y12 y13 y14 y15 y16
   unfold jobshellref17_Value.j1
   repeat' first
   | (with_reducible exact ih0 _ _ _ _ _ _ _ _ _ _ _ _ _ _ _ _ _ _)
   | (with_reducible exact ih1 _ _ _ _ _ _ _ _ _ _ _ _ _ _ _ _ _)
   | (with_reducible exact jobshellref01_Name.mono _ _)
   | (with_reducible exact jobshellref05_Decimal.mono _ _)
   | (with_reducible exact jobshellref15_Get.mono _ _ _)
   | (with_reducible exact jobshellref17_Flags.mono _ _)
   | (with_reducible exact jobshellref17_Glue.mono _ _)
   | (with_reducible exact jobshellref17_Join.mono _ _ _)
   | (with_reducible exact jobshellref17_positional.mono _ _)
   | (with_reducible exact LeO.refl _)
   | (with_reducible exact LeO.none _)
   | (with_reducible refine LeO.ite ?_ ?_)
   | (with_reducible refine LeO.bind ?_ (fun _ => ?_))
   | exact ih0 _ _ _ _ _ _ _ _ _ _ _ _ _ _ _ _ _ _
   | exact ih1 _ _ _ _ _ _ _ _ _ _ _ _ _ _ _ _ _
   | exact jobshellref01_Name.mono _ _
   | exact jobshellref05_Decimal.mono _ _
   | exact jobshellref15_Get.mono _ _ _
   | exact jobshellref17_Flags.mono _ _
   | exact jobshellref17_Glue.mono _ _
   | exact jobshellref17_Join.mono _ _ _
   | exact jobshellref17_positional.mono _ _
   | exact LeO.none _
   | refine LeO.ite ?_ ?_
   | refine LeO.bind ?_ (fun _ => ?_)
theorem jobshellref17_Value.mono : ∀ a0 a1 a2 a3 a4 a5 a6 a7 a8 a9 a10 a11 a12 a13 a14 a15 k, LeO (jobshellref17_Value.f k a0 a1 a2 a3 a4 a5 a6 a7 a8 a9 a10 a11 a12 a13 a14 a15) (jobshellref17_Value.f (k + 1) a0 a1 a2 a3 a4 a5 a6 a7 a8 a9 a10 a11 a12 a13 a14 a15) := by
 intro a0 a1 a2 a3 a4 a5 a6 a7 a8 a9 a10 a11 a12 a13 a14 a15 k
 obtain ⟨ih0, ih1⟩ := jobshellref17_Value.mono_l k
 unfold jobshellref17_Value.f
 repeat' first
   | (with_reducible exact ih0 _ _ _ _ _ _ _ _ _ _ _ _ _ _ _ _ _ _)
   | (with_reducible exact ih1 _ _ _ _ _ _ _ _ _ _ _ _ _ _ _ _ _)
   | (with_reducible exact jobshellref01_Name.mono _ _)
   | (with_reducible exact jobshellref05_Decimal.mono _ _)
   | (with_reducible exact jobshellref15_Get.mono _ _ _)
   | (with_reducible exact jobshellref17_Flags.mono _ _)
   | (with_reducible exact jobshellref17_Glue.mono _ _)
   | (with_reducible exact jobshellref17_Join.mono _ _ _)
   | (with_reducible exact jobshellref17_positional.mono _ _)
   | (with_reducible exact LeO.refl _)
   | (with_reducible exact LeO.none _)
   | (with_reducible refine LeO.ite ?_ ?_)
   | (with_reducible refine LeO.bind ?_ (fun _ => ?_))
   | exact ih0 _ _ _ _ _ _ _ _ _ _ _ _ _ _ _ _ _ _
   | exact ih1 _ _ _ _ _ _ _ _ _ _ _ _ _ _ _ _ _
   | exact jobshellref01_Name.mono _ _
   | exact jobshellref05_Decimal.mono _ _
   | exact jobshellref15_Get.mono _ _ _
   | exact jobshellref17_Flags.mono _ _
   | exact jobshellref17_Glue.mono _ _
   | exact jobshellref17_Join.mono _ _ _
   | exact jobshellref17_positional.mono _ _
   | exact LeO.none _
   | refine LeO.ite ?_ ?_
   | refine LeO.bind ?_ (fun _ => ?_)
def jobshellref17_Value.T22 : Bool × List (List Nat × List Nat) := (true, [([], []), ([0], [0]), ([1], [1]), ([], []), ([3], [3]), ([4], [4]), ([5], [5]), ([2, 2, 0, 1, 2], [2]), ([6, 7, 0, 1, 2, 3, 4, 5, 6, 7], [6])])
def jobshellref17_Value.B22 : List Nat := [0, 1, 3, 0, 8, 24, 56, 7, 255]
theorem jobshellref17_Value.tab22 : rtab .any (opsOf Tryd.f12 22) = jobshellref17_Value.T22 := by kernel_rfl
theorem jobshellref17_Value.bits22 : waitsOk jobshellref17_Value.T22.2 jobshellref17_Value.B22 = true := by kernel_rfl
def jobshellref17_Value.T24 : Bool × List (List Nat × List Nat) := (true, [([], []), ([0], [0]), ([], []), ([2], [2]), ([3], [3]), ([1, 4, 4], [1, 4]), ([], []), ([6], [6]), ([7], [7]), ([8], [8]), ([5, 5, 0, 1, 2, 3, 4, 5], [5]), ([9, 10, 0, 1, 2, 3, 4, 5, 6, 7, 8, 9, 10], [9])])
def jobshellref17_Value.B24 : List Nat := [0, 1, 0, 4, 12, 31, 0, 64, 192, 448, 63, 2047]
theorem jobshellref17_Value.tab24 : rtab .any (opsOf Tryd.f12 24) = jobshellref17_Value.T24 := by kernel_rfl
theorem jobshellref17_Value.bits24 : waitsOk jobshellref17_Value.T24.2 jobshellref17_Value.B24 = true := by kernel_rfl
set_option maxHeartbeats 8000000 in
set_option maxRecDepth 100000 in
theorem jobshellref17_Value.calls (k : Nat) (a0_0 : ByteArray) (A0_1 : Option Addr) (c0_1 : Nat) (l0_1 : List (S_Var)) (A0_2 : Option Addr) (c0_2 : Nat) (l0_2 : List ByteArray) (a0_3 : Opq) (A0_4 : Option Addr) (c0_4 : Nat) (l0_4 : List (S_Alias)) (A0_5 : Option Addr) (c0_5 : Nat) (l0_5 : List (S_Trap)) (a0_6 : Int) (a0_7 : Int) (a0_8 : Int) (a0_9 : Int) (a0_10 : ByteArray) (a0_11 : Int) (a0_12 : Int) (a0_13 : Int) (a0_14 : Bool) (a1 : ByteArray) (r1 : ByteArray) (r2 : Bool) (w : World) (hr0_1 : Kd.C k_Var w A0_1 l0_1.length l0_1) (hc0_1 : l0_1.length ≤ c0_1) (hr0_2 : Kd.C Kd.string w A0_2 l0_2.length l0_2) (hc0_2 : l0_2.length ≤ c0_2) (hr0_4 : Kd.C k_Alias w A0_4 l0_4.length l0_4) (hc0_4 : l0_4.length ≤ c0_4) (hr0_5 : Kd.C k_Trap w A0_5 l0_5.length l0_5) (hc0_5 : l0_5.length ≤ c0_5) (h : jobshellref17_Value.f k a0_0 l0_1 l0_2 a0_3 l0_4 l0_5 a0_6 a0_7 a0_8 a0_9 a0_10 a0_11 a0_12 a0_13 a0_14 a1 = some (r1, r2)) :
  Calls Tryd.prog 12 #[.agg #[.string a0_0, .slice A0_1 l0_1.length c0_1, .slice A0_2 l0_2.length c0_2, .slice (a0_3).A (a0_3).n (a0_3).c, .slice A0_4 l0_4.length c0_4, .slice A0_5 l0_5.length c0_5, .int .i64 a0_6, .int .i64 a0_7, .int .i64 a0_8, .int .i64 a0_9, .string a0_10, .int .i64 a0_11, .int .i64 a0_12, .int .i64 a0_13, .bool a0_14], .string a1] w fun e w' => e = .returned (.tuple #[.string r1, .bool r2]) ∧ Below w.heap.size w w' := by
 have hu30 := Tryd.underlying30
 have hu49 := Tryd.underlying49
 have HR0_1 := Aside0.mk hr0_1
 have HC0_1 := Aside0.mk hc0_1
 clear hr0_1 hc0_1
 have HR0_2 := Aside0.mk hr0_2
 have HC0_2 := Aside0.mk hc0_2
 clear hr0_2 hc0_2
 have HR0_4 := Aside0.mk hr0_4
 have HC0_4 := Aside0.mk hc0_4
 clear hr0_4 hc0_4
 have HR0_5 := Aside0.mk hr0_5
 have HC0_5 := Aside0.mk hc0_5
 clear hr0_5 hc0_5
 have HB := Aside0.mk (Below.refl w.heap.size w)
 have H : ((jobshellref17_positional.f k a1).bind fun t239 => ((jobshellref01_Name.f k a1).bind fun t240 => (if t240 = true then ((jobshellref15_Get.f k l0_1 a1).bind fun bt241 => (if bt241.2.2.1 = true then (some (bt241.2.1, true)) else (some ((⟨#[]⟩ : ByteArray), false)))) else (if t239 > 0 then (jobshellref17_Value.j0 k a1 t239 (decide (t239 ≤ (l0_2.length : Int))) a0_0 l0_1 l0_2 a0_3 l0_4 l0_5 a0_6 a0_7 a0_8 a0_9 a0_10 a0_11 a0_12 a0_13 a0_14) else (jobshellref17_Value.j0 k a1 t239 false a0_0 l0_1 l0_2 a0_3 l0_4 l0_5 a0_6 a0_7 a0_8 a0_9 a0_10 a0_11 a0_12 a0_13 a0_14))))) = some (r1, r2) := h
 clear h
 replace H := Option.bind_eq_some_iff.mp H
 obtain ⟨t239, A30, H⟩ := H
 replace H : ((jobshellref01_Name.f k a1).bind fun t240 => (if t240 = true then ((jobshellref15_Get.f k l0_1 a1).bind fun bt241 => (if bt241.2.2.1 = true then (some (bt241.2.1, true)) else (some ((⟨#[]⟩ : ByteArray), false)))) else (if t239 > 0 then (jobshellref17_Value.j0 k a1 t239 (decide (t239 ≤ (l0_2.length : Int))) a0_0 l0_1 l0_2 a0_3 l0_4 l0_5 a0_6 a0_7 a0_8 a0_9 a0_10 a0_11 a0_12 a0_13 a0_14) else (jobshellref17_Value.j0 k a1 t239 false a0_0 l0_1 l0_2 a0_3 l0_4 l0_5 a0_6 a0_7 a0_8 a0_9 a0_10 a0_11 a0_12 a0_13 a0_14)))) = some (r1, r2) := H
 have A3 := Aside0.mk A30
 clear A30
 replace H := Option.bind_eq_some_iff.mp H
 obtain ⟨t240, A40, H⟩ := H
 replace H : (if t240 = true then ((jobshellref15_Get.f k l0_1 a1).bind fun bt241 => (if bt241.2.2.1 = true then (some (bt241.2.1, true)) else (some ((⟨#[]⟩ : ByteArray), false)))) else (if t239 > 0 then (jobshellref17_Value.j0 k a1 t239 (decide (t239 ≤ (l0_2.length : Int))) a0_0 l0_1 l0_2 a0_3 l0_4 l0_5 a0_6 a0_7 a0_8 a0_9 a0_10 a0_11 a0_12 a0_13 a0_14) else (jobshellref17_Value.j0 k a1 t239 false a0_0 l0_1 l0_2 a0_3 l0_4 l0_5 a0_6 a0_7 a0_8 a0_9 a0_10 a0_11 a0_12 a0_13 a0_14))) = some (r1, r2) := H
 have A4 := Aside0.mk A40
 clear A40
 by_cases c5 : t240 = true
 ·subst c5
  have H1 : ((jobshellref15_Get.f k l0_1 a1).bind fun bt241 => (if bt241.2.2.1 = true then (some (bt241.2.1, true)) else (some ((⟨#[]⟩ : ByteArray), false)))) = some (r1, r2) := by rw [if_pos rfl] at H; exact H
  clear H
  have H := H1
  clear H1
  replace H := Option.bind_eq_some_iff.mp H
  obtain ⟨⟨t241, t242, t243, t244, t245, t246⟩, A60, H⟩ := H
  replace H : (if t243 = true then (some (t242, true)) else (some ((⟨#[]⟩ : ByteArray), false))) = some (r1, r2) := H
  have A6 := Aside0.mk A60
  clear A60
  by_cases c7 : t243 = true
  ·subst c7
   have H1 : (some (t242, true)) = some (r1, r2) := by rw [if_pos rfl] at H; exact H
   clear H
   have H := H1
   clear H1
   simp only [Option.some.injEq, Prod.mk.injEq] at H
   obtain ⟨rfl, rfl⟩ := H
   go_enter Tryd.func12, Tryd.ntmps12
   go_wp2_with (first | ((with_reducible refine gate_dst (N := 2) rfl ?_); (try (refine gate_guard (by rfl) ?_; dsimp only)); refine box_event ?hg (N := 2) ?hd (cs := #[.string a0_0, .slice A0_1 l0_1.length c0_1, .slice A0_2 l0_2.length c0_2, .slice (a0_3).A (a0_3).n (a0_3).c, .slice A0_4 l0_4.length c0_4, .slice A0_5 l0_5.length c0_5, .int .i64 a0_6, .int .i64 a0_7, .int .i64 a0_8, .int .i64 a0_9, .string a0_10, .int .i64 a0_11, .int .i64 a0_12, .int .i64 a0_13, .bool a0_14]) (t := 30) ?hr ?_; (case hd => rfl); (case hg => rfl); (case hr => first | (go_simp; done) | (go_simp; rfl)); intro gb238 hg w8 hbox hb; have n0_ := Aside0.mk (below_step (by repeat (first | (with_reducible first | exact HB.out | apply below_alloc | apply pw_below_drewN | apply below_drew1) | exact HB.out)) hb); have n1_ := Aside0.mk (hbox); have n2_ := Aside0.mk ((by rw [hg]; exact (below_size (by repeat (first | (with_reducible first | exact HB.out | apply below_alloc | apply pw_below_drewN | apply below_drew1) | exact HB.out))) : w.heap.size ≤ gb238)); have n3_ := Aside0.mk ((by rw [hg]; exact (below_size (by repeat (first | (with_reducible first | exact HB.out | apply below_alloc | apply pw_below_drewN | apply below_drew1) | exact HB.out))) : w.heap.size ≤ gb238)); clear HB; have HB := n0_; have BK238 := n1_; have GW238 := n2_; have GE238 := n3_; clear n0_ n1_ n2_ n3_; clear hb hbox hg) | ((with_reducible refine gate_callee (f := 28) rfl ?_); refine goesL_ (some 10) rfl rfl Tryd.func28 (by kernel_rfl) rfl #[.string a1] rfl (by (try simp only [List.map_toArray, List.map_cons, List.map_nil]); first | done | rfl | (simp only [List.length_drop, List.length_take]; rfl)) ?_; (with_reducible refine (jobshellref17_positional.calls k a1 t239 _ A3.out).mono ?_); rintro e w' ⟨rfl, ⟨nd, rfl⟩⟩; refine ⟨_, rfl, ?_⟩; (try (rw [drewN_self w8]; generalize hq_ : World.drewN w8 _ = w8; have n0_ : Aside0 (w8.heap[gb238]? = some (.cells #[.string a0_0, .slice A0_1 l0_1.length c0_1, .slice A0_2 l0_2.length c0_2, .slice (a0_3).A (a0_3).n (a0_3).c, .slice A0_4 l0_4.length c0_4, .slice A0_5 l0_5.length c0_5, .int .i64 a0_6, .int .i64 a0_7, .int .i64 a0_8, .int .i64 a0_9, .string a0_10, .int .i64 a0_11, .int .i64 a0_12, .int .i64 a0_13, .bool a0_14] 30 (0, 0))) := ⟨by rw [← hq_]; exact (by (with_reducible repeat (first | refine blk_drewN ?_ _ | refine blk_drew ?_ | refine blk_alloc ?_ _)); exact BK238.out)⟩; have n1_ : Aside0 (Below w.heap.size w w8) := ⟨by rw [← hq_]; exact (by repeat (first | (with_reducible first | exact HB.out | apply below_alloc | apply pw_below_drewN | apply below_drew1 | refine below_set ?_ GE238.out) | exact HB.out))⟩; clear BK238 HB hq_; have BK238 := n0_; have HB := n1_; clear n0_ n1_))) | ((with_reducible refine gate_callee (f := 29) rfl ?_); refine goesL_ (some 13) rfl rfl Tryd.func29 (by kernel_rfl) rfl #[.string a1] rfl (by (try simp only [List.map_toArray, List.map_cons, List.map_nil]); first | done | rfl | (simp only [List.length_drop, List.length_take]; rfl)) ?_; (with_reducible refine (jobshellref01_Name.calls k a1 true _ A4.out).mono ?_); rintro e w' ⟨rfl, ⟨nd, rfl⟩⟩; refine ⟨_, rfl, ?_⟩; (try (rw [drewN_self w8]; generalize hq_ : World.drewN w8 _ = w8; have n0_ : Aside0 (w8.heap[gb238]? = some (.cells #[.string a0_0, .slice A0_1 l0_1.length c0_1, .slice A0_2 l0_2.length c0_2, .slice (a0_3).A (a0_3).n (a0_3).c, .slice A0_4 l0_4.length c0_4, .slice A0_5 l0_5.length c0_5, .int .i64 a0_6, .int .i64 a0_7, .int .i64 a0_8, .int .i64 a0_9, .string a0_10, .int .i64 a0_11, .int .i64 a0_12, .int .i64 a0_13, .bool a0_14] 30 (0, 0))) := ⟨by rw [← hq_]; exact (by (with_reducible repeat (first | refine blk_drewN ?_ _ | refine blk_drew ?_ | refine blk_alloc ?_ _)); exact BK238.out)⟩; have n1_ : Aside0 (Below w.heap.size w w8) := ⟨by rw [← hq_]; exact (by repeat (first | (with_reducible first | exact HB.out | apply below_alloc | apply pw_below_drewN | apply below_drew1 | refine below_set ?_ GE238.out) | exact HB.out))⟩; clear BK238 HB hq_; have BK238 := n0_; have HB := n1_; clear n0_ n1_)); have hcz9_0 : w8.cell? ⟨gb238, 0, none⟩ = some (.string a0_0) := (blk_cell BK238.out 0).trans rfl; have hcz9_1 : w8.cell? ⟨gb238, 1, none⟩ = some (.slice A0_1 l0_1.length c0_1) := (blk_cell BK238.out 1).trans rfl; have hcz9_2 : w8.cell? ⟨gb238, 2, none⟩ = some (.slice A0_2 l0_2.length c0_2) := (blk_cell BK238.out 2).trans rfl; have hcz9_3 : w8.cell? ⟨gb238, 3, none⟩ = some (.slice (a0_3).A (a0_3).n (a0_3).c) := (blk_cell BK238.out 3).trans rfl; have hcz9_4 : w8.cell? ⟨gb238, 4, none⟩ = some (.slice A0_4 l0_4.length c0_4) := (blk_cell BK238.out 4).trans rfl; have hcz9_5 : w8.cell? ⟨gb238, 5, none⟩ = some (.slice A0_5 l0_5.length c0_5) := (blk_cell BK238.out 5).trans rfl; have hcz9_6 : w8.cell? ⟨gb238, 6, none⟩ = some (.int .i64 a0_6) := (blk_cell BK238.out 6).trans rfl; have hcz9_7 : w8.cell? ⟨gb238, 7, none⟩ = some (.int .i64 a0_7) := (blk_cell BK238.out 7).trans rfl; have hcz9_8 : w8.cell? ⟨gb238, 8, none⟩ = some (.int .i64 a0_8) := (blk_cell BK238.out 8).trans rfl; have hcz9_9 : w8.cell? ⟨gb238, 9, none⟩ = some (.int .i64 a0_9) := (blk_cell BK238.out 9).trans rfl; have hcz9_10 : w8.cell? ⟨gb238, 10, none⟩ = some (.string a0_10) := (blk_cell BK238.out 10).trans rfl; have hcz9_11 : w8.cell? ⟨gb238, 11, none⟩ = some (.int .i64 a0_11) := (blk_cell BK238.out 11).trans rfl; have hcz9_12 : w8.cell? ⟨gb238, 12, none⟩ = some (.int .i64 a0_12) := (blk_cell BK238.out 12).trans rfl; have hcz9_13 : w8.cell? ⟨gb238, 13, none⟩ = some (.int .i64 a0_13) := (blk_cell BK238.out 13).trans rfl; have hcz9_14 : w8.cell? ⟨gb238, 14, none⟩ = some (.bool a0_14) := (blk_cell BK238.out 14).trans rfl; have hfz9_0 := blk_frozen BK238.out 0; have hfz9_1 := blk_frozen BK238.out 1; have hfz9_2 := blk_frozen BK238.out 2; have hfz9_3 := blk_frozen BK238.out 3; have hfz9_4 := blk_frozen BK238.out 4; have hfz9_5 := blk_frozen BK238.out 5; have hfz9_6 := blk_frozen BK238.out 6; have hfz9_7 := blk_frozen BK238.out 7; have hfz9_8 := blk_frozen BK238.out 8; have hfz9_9 := blk_frozen BK238.out 9; have hfz9_10 := blk_frozen BK238.out 10; have hfz9_11 := blk_frozen BK238.out 11; have hfz9_12 := blk_frozen BK238.out 12; have hfz9_13 := blk_frozen BK238.out 13; have hfz9_14 := blk_frozen BK238.out 14) | ((with_reducible refine gate_callee (f := 30) rfl ?_); refine goesL_ (some 18) rfl rfl Tryd.func30 (by kernel_rfl) rfl #[.slice A0_1 l0_1.length c0_1, .string a1] rfl (by (try simp only [List.map_toArray, List.map_cons, List.map_nil]); first | done | rfl | (simp only [List.length_drop, List.length_take]; rfl)) ?_; (with_reducible refine (jobshellref15_Get.calls k _ _ l0_1 a1 t241 t242 true t244 t245 t246 _ ?side1 ?side2 A6.out).mono ?_); (case side1 => repeat (first | exact (Kd.C_below HR0_1.out HB.out) | (with_reducible refine Kd.C_alloc ?_ _) | (with_reducible refine Kd.C_drewN ?_ _) | (with_reducible refine Kd.C_drew ?_))); (case side2 => exact HC0_1.out); rintro e w10 ⟨rfl, hb⟩; refine ⟨_, rfl, ?_⟩; have n0_ := Aside0.mk (blk_below (g := gb238) (o := .cells #[.string a0_0, .slice A0_1 l0_1.length c0_1, .slice A0_2 l0_2.length c0_2, .slice (a0_3).A (a0_3).n (a0_3).c, .slice A0_4 l0_4.length c0_4, .slice A0_5 l0_5.length c0_5, .int .i64 a0_6, .int .i64 a0_7, .int .i64 a0_8, .int .i64 a0_9, .string a0_10, .int .i64 a0_11, .int .i64 a0_12, .int .i64 a0_13, .bool a0_14] 30 (0, 0)) (by (with_reducible repeat (first | refine blk_drewN ?_ _ | refine blk_drew ?_ | refine blk_alloc ?_ _)); exact BK238.out) hb); have n1_ := Aside0.mk (below_step (by repeat (first | (with_reducible first | exact HB.out | apply below_alloc | apply pw_below_drewN | apply below_drew1 | refine below_set ?_ GE238.out) | exact HB.out)) hb); clear BK238; clear HB; have BK238 := n0_; have HB := n1_; clear n0_ n1_; (try clear hb); (try clear hb2); (try clear hk); (try clear hi)) | ((with_reducible refine gate_dst (N := 7) rfl ?_); (try (refine gate_guard (by rfl) ?_; dsimp only)); refine box_event ?hg (N := 7) ?hd (cs := #[.string (⟨#[]⟩ : ByteArray), .string (⟨#[]⟩ : ByteArray), .bool false, .bool false, .bool false]) (t := 49) ?hr ?_; (case hd => rfl); (case hg => rfl); (case hr => first | (go_simp; done) | (go_simp; rfl)); intro gb247 hg w11 hbox hb; have n0_ := Aside0.mk (blk_below (g := gb238) (o := .cells #[.string a0_0, .slice A0_1 l0_1.length c0_1, .slice A0_2 l0_2.length c0_2, .slice (a0_3).A (a0_3).n (a0_3).c, .slice A0_4 l0_4.length c0_4, .slice A0_5 l0_5.length c0_5, .int .i64 a0_6, .int .i64 a0_7, .int .i64 a0_8, .int .i64 a0_9, .string a0_10, .int .i64 a0_11, .int .i64 a0_12, .int .i64 a0_13, .bool a0_14] 30 (0, 0)) (by (with_reducible repeat (first | refine blk_drewN ?_ _ | refine blk_drew ?_ | refine blk_alloc ?_ _)); exact BK238.out) hb); have n1_ := Aside0.mk (below_step (by repeat (first | (with_reducible first | exact HB.out | apply below_alloc | apply pw_below_drewN | apply below_drew1 | refine below_set ?_ GE238.out) | exact HB.out)) hb); have n2_ := Aside0.mk (hbox); have n3_ := Aside0.mk ((by rw [hg]; exact (below_size (by repeat (first | (with_reducible first | exact HB.out | apply below_alloc | apply pw_below_drewN | apply below_drew1 | refine below_set ?_ GE238.out) | exact HB.out))) : w.heap.size ≤ gb247)); have n4_ := Aside0.mk ((by rw [hg]; exact (below_size (by repeat (first | (with_reducible first | exact HB.out | apply below_alloc | apply pw_below_drewN | apply below_drew1 | refine below_set ?_ GE238.out) | exact HB.out))) : w.heap.size ≤ gb247)); have n5_ := Aside0.mk ((by rw [hg]; exact Nat.ne_of_lt (blk_lt (g := gb238) (o := .cells #[.string a0_0, .slice A0_1 l0_1.length c0_1, .slice A0_2 l0_2.length c0_2, .slice (a0_3).A (a0_3).n (a0_3).c, .slice A0_4 l0_4.length c0_4, .slice A0_5 l0_5.length c0_5, .int .i64 a0_6, .int .i64 a0_7, .int .i64 a0_8, .int .i64 a0_9, .string a0_10, .int .i64 a0_11, .int .i64 a0_12, .int .i64 a0_13, .bool a0_14] 30 (0, 0)) (by (with_reducible repeat (first | refine blk_drewN ?_ _ | refine blk_drew ?_ | refine blk_alloc ?_ _)); exact BK238.out)) : gb238 ≠ gb247)); have n6_ := Aside0.mk ((by rw [hg]; exact Nat.ne_of_gt (blk_lt (g := gb238) (o := .cells #[.string a0_0, .slice A0_1 l0_1.length c0_1, .slice A0_2 l0_2.length c0_2, .slice (a0_3).A (a0_3).n (a0_3).c, .slice A0_4 l0_4.length c0_4, .slice A0_5 l0_5.length c0_5, .int .i64 a0_6, .int .i64 a0_7, .int .i64 a0_8, .int .i64 a0_9, .string a0_10, .int .i64 a0_11, .int .i64 a0_12, .int .i64 a0_13, .bool a0_14] 30 (0, 0)) (by (with_reducible repeat (first | refine blk_drewN ?_ _ | refine blk_drew ?_ | refine blk_alloc ?_ _)); exact BK238.out)) : gb247 ≠ gb238)); clear BK238; clear HB; have BK238 := n0_; have HB := n1_; have BK247 := n2_; have GW247 := n3_; have GE247 := n4_; have NB238_247 := n5_; have NB247_238 := n6_; clear n0_ n1_ n2_ n3_ n4_ n5_ n6_; clear hb hbox hg; have hnb12 := NB247_238.out; have hnc12 := NB238_247.out; have hcz13_0 : w11.cell? ⟨gb247, 0, none⟩ = some (.string (⟨#[]⟩ : ByteArray)) := (blk_cell BK247.out 0).trans rfl; have hcz13_1 : w11.cell? ⟨gb247, 1, none⟩ = some (.string (⟨#[]⟩ : ByteArray)) := (blk_cell BK247.out 1).trans rfl; have hcz13_2 : w11.cell? ⟨gb247, 2, none⟩ = some (.bool false) := (blk_cell BK247.out 2).trans rfl; have hcz13_3 : w11.cell? ⟨gb247, 3, none⟩ = some (.bool false) := (blk_cell BK247.out 3).trans rfl; have hcz13_4 : w11.cell? ⟨gb247, 4, none⟩ = some (.bool false) := (blk_cell BK247.out 4).trans rfl; have hfz13_0 := blk_frozen BK247.out 0; have hfz13_1 := blk_frozen BK247.out 1; have hfz13_2 := blk_frozen BK247.out 2; have hfz13_3 := blk_frozen BK247.out 3; have hfz13_4 := blk_frozen BK247.out 4))
   go_ret2
   exact ⟨by first | rfl | (simp [errW_none, errW_some] <;> rfl) | (simp [*, errW_none, errW_some] <;> rfl), by repeat (first | (with_reducible first | exact HB.out | apply below_alloc | apply pw_below_drewN | apply below_drew1 | refine below_set ?_ GE238.out | refine below_set ?_ GE247.out) | exact HB.out)⟩
  ·replace c7 := Bool.eq_false_iff.mpr c7
   subst c7
   have H1 : (some ((⟨#[]⟩ : ByteArray), false)) = some (r1, r2) := by rw [if_neg (show ¬ (false = true) by decide)] at H; exact H
   clear H
   have H := H1
   clear H1
   simp only [Option.some.injEq, Prod.mk.injEq] at H
   obtain ⟨rfl, rfl⟩ := H
   go_enter Tryd.func12, Tryd.ntmps12
   go_wp2_with (first | ((with_reducible refine gate_dst (N := 2) rfl ?_); (try (refine gate_guard (by rfl) ?_; dsimp only)); refine box_event ?hg (N := 2) ?hd (cs := #[.string a0_0, .slice A0_1 l0_1.length c0_1, .slice A0_2 l0_2.length c0_2, .slice (a0_3).A (a0_3).n (a0_3).c, .slice A0_4 l0_4.length c0_4, .slice A0_5 l0_5.length c0_5, .int .i64 a0_6, .int .i64 a0_7, .int .i64 a0_8, .int .i64 a0_9, .string a0_10, .int .i64 a0_11, .int .i64 a0_12, .int .i64 a0_13, .bool a0_14]) (t := 30) ?hr ?_; (case hd => rfl); (case hg => rfl); (case hr => first | (go_simp; done) | (go_simp; rfl)); intro gb238 hg w14 hbox hb; have n0_ := Aside0.mk (below_step (by repeat (first | (with_reducible first | exact HB.out | apply below_alloc | apply pw_below_drewN | apply below_drew1) | exact HB.out)) hb); have n1_ := Aside0.mk (hbox); have n2_ := Aside0.mk ((by rw [hg]; exact (below_size (by repeat (first | (with_reducible first | exact HB.out | apply below_alloc | apply pw_below_drewN | apply below_drew1) | exact HB.out))) : w.heap.size ≤ gb238)); have n3_ := Aside0.mk ((by rw [hg]; exact (below_size (by repeat (first | (with_reducible first | exact HB.out | apply below_alloc | apply pw_below_drewN | apply below_drew1) | exact HB.out))) : w.heap.size ≤ gb238)); clear HB; have HB := n0_; have BK238 := n1_; have GW238 := n2_; have GE238 := n3_; clear n0_ n1_ n2_ n3_; clear hb hbox hg) | ((with_reducible refine gate_callee (f := 28) rfl ?_); refine goesL_ (some 10) rfl rfl Tryd.func28 (by kernel_rfl) rfl #[.string a1] rfl (by (try simp only [List.map_toArray, List.map_cons, List.map_nil]); first | done | rfl | (simp only [List.length_drop, List.length_take]; rfl)) ?_; (with_reducible refine (jobshellref17_positional.calls k a1 t239 _ A3.out).mono ?_); rintro e w' ⟨rfl, ⟨nd, rfl⟩⟩; refine ⟨_, rfl, ?_⟩; (try (rw [drewN_self w14]; generalize hq_ : World.drewN w14 _ = w14; have n0_ : Aside0 (w14.heap[gb238]? = some (.cells #[.string a0_0, .slice A0_1 l0_1.length c0_1, .slice A0_2 l0_2.length c0_2, .slice (a0_3).A (a0_3).n (a0_3).c, .slice A0_4 l0_4.length c0_4, .slice A0_5 l0_5.length c0_5, .int .i64 a0_6, .int .i64 a0_7, .int .i64 a0_8, .int .i64 a0_9, .string a0_10, .int .i64 a0_11, .int .i64 a0_12, .int .i64 a0_13, .bool a0_14] 30 (0, 0))) := ⟨by rw [← hq_]; exact (by (with_reducible repeat (first | refine blk_drewN ?_ _ | refine blk_drew ?_ | refine blk_alloc ?_ _)); exact BK238.out)⟩; have n1_ : Aside0 (Below w.heap.size w w14) := ⟨by rw [← hq_]; exact (by repeat (first | (with_reducible first | exact HB.out | apply below_alloc | apply pw_below_drewN | apply below_drew1 | refine below_set ?_ GE238.out) | exact HB.out))⟩; clear BK238 HB hq_; have BK238 := n0_; have HB := n1_; clear n0_ n1_))) | ((with_reducible refine gate_callee (f := 29) rfl ?_); refine goesL_ (some 13) rfl rfl Tryd.func29 (by kernel_rfl) rfl #[.string a1] rfl (by (try simp only [List.map_toArray, List.map_cons, List.map_nil]); first | done | rfl | (simp only [List.length_drop, List.length_take]; rfl)) ?_; (with_reducible refine (jobshellref01_Name.calls k a1 true _ A4.out).mono ?_); rintro e w' ⟨rfl, ⟨nd, rfl⟩⟩; refine ⟨_, rfl, ?_⟩; (try (rw [drewN_self w14]; generalize hq_ : World.drewN w14 _ = w14; have n0_ : Aside0 (w14.heap[gb238]? = some (.cells #[.string a0_0, .slice A0_1 l0_1.length c0_1, .slice A0_2 l0_2.length c0_2, .slice (a0_3).A (a0_3).n (a0_3).c, .slice A0_4 l0_4.length c0_4, .slice A0_5 l0_5.length c0_5, .int .i64 a0_6, .int .i64 a0_7, .int .i64 a0_8, .int .i64 a0_9, .string a0_10, .int .i64 a0_11, .int .i64 a0_12, .int .i64 a0_13, .bool a0_14] 30 (0, 0))) := ⟨by rw [← hq_]; exact (by (with_reducible repeat (first | refine blk_drewN ?_ _ | refine blk_drew ?_ | refine blk_alloc ?_ _)); exact BK238.out)⟩; have n1_ : Aside0 (Below w.heap.size w w14) := ⟨by rw [← hq_]; exact (by repeat (first | (with_reducible first | exact HB.out | apply below_alloc | apply pw_below_drewN | apply below_drew1 | refine below_set ?_ GE238.out) | exact HB.out))⟩; clear BK238 HB hq_; have BK238 := n0_; have HB := n1_; clear n0_ n1_)); have hcz15_0 : w14.cell? ⟨gb238, 0, none⟩ = some (.string a0_0) := (blk_cell BK238.out 0).trans rfl; have hcz15_1 : w14.cell? ⟨gb238, 1, none⟩ = some (.slice A0_1 l0_1.length c0_1) := (blk_cell BK238.out 1).trans rfl; have hcz15_2 : w14.cell? ⟨gb238, 2, none⟩ = some (.slice A0_2 l0_2.length c0_2) := (blk_cell BK238.out 2).trans rfl; have hcz15_3 : w14.cell? ⟨gb238, 3, none⟩ = some (.slice (a0_3).A (a0_3).n (a0_3).c) := (blk_cell BK238.out 3).trans rfl; have hcz15_4 : w14.cell? ⟨gb238, 4, none⟩ = some (.slice A0_4 l0_4.length c0_4) := (blk_cell BK238.out 4).trans rfl; have hcz15_5 : w14.cell? ⟨gb238, 5, none⟩ = some (.slice A0_5 l0_5.length c0_5) := (blk_cell BK238.out 5).trans rfl; have hcz15_6 : w14.cell? ⟨gb238, 6, none⟩ = some (.int .i64 a0_6) := (blk_cell BK238.out 6).trans rfl; have hcz15_7 : w14.cell? ⟨gb238, 7, none⟩ = some (.int .i64 a0_7) := (blk_cell BK238.out 7).trans rfl; have hcz15_8 : w14.cell? ⟨gb238, 8, none⟩ = some (.int .i64 a0_8) := (blk_cell BK238.out 8).trans rfl; have hcz15_9 : w14.cell? ⟨gb238, 9, none⟩ = some (.int .i64 a0_9) := (blk_cell BK238.out 9).trans rfl; have hcz15_10 : w14.cell? ⟨gb238, 10, none⟩ = some (.string a0_10) := (blk_cell BK238.out 10).trans rfl; have hcz15_11 : w14.cell? ⟨gb238, 11, none⟩ = some (.int .i64 a0_11) := (blk_cell BK238.out 11).trans rfl; have hcz15_12 : w14.cell? ⟨gb238, 12, none⟩ = some (.int .i64 a0_12) := (blk_cell BK238.out 12).trans rfl; have hcz15_13 : w14.cell? ⟨gb238, 13, none⟩ = some (.int .i64 a0_13) := (blk_cell BK238.out 13).trans rfl; have hcz15_14 : w14.cell? ⟨gb238, 14, none⟩ = some (.bool a0_14) := (blk_cell BK238.out 14).trans rfl; have hfz15_0 := blk_frozen BK238.out 0; have hfz15_1 := blk_frozen BK238.out 1; have hfz15_2 := blk_frozen BK238.out 2; have hfz15_3 := blk_frozen BK238.out 3; have hfz15_4 := blk_frozen BK238.out 4; have hfz15_5 := blk_frozen BK238.out 5; have hfz15_6 := blk_frozen BK238.out 6; have hfz15_7 := blk_frozen BK238.out 7; have hfz15_8 := blk_frozen BK238.out 8; have hfz15_9 := blk_frozen BK238.out 9; have hfz15_10 := blk_frozen BK238.out 10; have hfz15_11 := blk_frozen BK238.out 11; have hfz15_12 := blk_frozen BK238.out 12; have hfz15_13 := blk_frozen BK238.out 13; have hfz15_14 := blk_frozen BK238.out 14) | ((with_reducible refine gate_callee (f := 30) rfl ?_); refine goesL_ (some 18) rfl rfl Tryd.func30 (by kernel_rfl) rfl #[.slice A0_1 l0_1.length c0_1, .string a1] rfl (by (try simp only [List.map_toArray, List.map_cons, List.map_nil]); first | done | rfl | (simp only [List.length_drop, List.length_take]; rfl)) ?_; (with_reducible refine (jobshellref15_Get.calls k _ _ l0_1 a1 t241 t242 false t244 t245 t246 _ ?side1 ?side2 A6.out).mono ?_); (case side1 => repeat (first | exact (Kd.C_below HR0_1.out HB.out) | (with_reducible refine Kd.C_alloc ?_ _) | (with_reducible refine Kd.C_drewN ?_ _) | (with_reducible refine Kd.C_drew ?_))); (case side2 => exact HC0_1.out); rintro e w16 ⟨rfl, hb⟩; refine ⟨_, rfl, ?_⟩; have n0_ := Aside0.mk (blk_below (g := gb238) (o := .cells #[.string a0_0, .slice A0_1 l0_1.length c0_1, .slice A0_2 l0_2.length c0_2, .slice (a0_3).A (a0_3).n (a0_3).c, .slice A0_4 l0_4.length c0_4, .slice A0_5 l0_5.length c0_5, .int .i64 a0_6, .int .i64 a0_7, .int .i64 a0_8, .int .i64 a0_9, .string a0_10, .int .i64 a0_11, .int .i64 a0_12, .int .i64 a0_13, .bool a0_14] 30 (0, 0)) (by (with_reducible repeat (first | refine blk_drewN ?_ _ | refine blk_drew ?_ | refine blk_alloc ?_ _)); exact BK238.out) hb); have n1_ := Aside0.mk (below_step (by repeat (first | (with_reducible first | exact HB.out | apply below_alloc | apply pw_below_drewN | apply below_drew1 | refine below_set ?_ GE238.out) | exact HB.out)) hb); clear BK238; clear HB; have BK238 := n0_; have HB := n1_; clear n0_ n1_; (try clear hb); (try clear hb2); (try clear hk); (try clear hi)) | ((with_reducible refine gate_dst (N := 7) rfl ?_); (try (refine gate_guard (by rfl) ?_; dsimp only)); refine box_event ?hg (N := 7) ?hd (cs := #[.string (⟨#[]⟩ : ByteArray), .string (⟨#[]⟩ : ByteArray), .bool false, .bool false, .bool false]) (t := 49) ?hr ?_; (case hd => rfl); (case hg => rfl); (case hr => first | (go_simp; done) | (go_simp; rfl)); intro gb247 hg w17 hbox hb; have n0_ := Aside0.mk (blk_below (g := gb238) (o := .cells #[.string a0_0, .slice A0_1 l0_1.length c0_1, .slice A0_2 l0_2.length c0_2, .slice (a0_3).A (a0_3).n (a0_3).c, .slice A0_4 l0_4.length c0_4, .slice A0_5 l0_5.length c0_5, .int .i64 a0_6, .int .i64 a0_7, .int .i64 a0_8, .int .i64 a0_9, .string a0_10, .int .i64 a0_11, .int .i64 a0_12, .int .i64 a0_13, .bool a0_14] 30 (0, 0)) (by (with_reducible repeat (first | refine blk_drewN ?_ _ | refine blk_drew ?_ | refine blk_alloc ?_ _)); exact BK238.out) hb); have n1_ := Aside0.mk (below_step (by repeat (first | (with_reducible first | exact HB.out | apply below_alloc | apply pw_below_drewN | apply below_drew1 | refine below_set ?_ GE238.out) | exact HB.out)) hb); have n2_ := Aside0.mk (hbox); have n3_ := Aside0.mk ((by rw [hg]; exact (below_size (by repeat (first | (with_reducible first | exact HB.out | apply below_alloc | apply pw_below_drewN | apply below_drew1 | refine below_set ?_ GE238.out) | exact HB.out))) : w.heap.size ≤ gb247)); have n4_ := Aside0.mk ((by rw [hg]; exact (below_size (by repeat (first | (with_reducible first | exact HB.out | apply below_alloc | apply pw_below_drewN | apply below_drew1 | refine below_set ?_ GE238.out) | exact HB.out))) : w.heap.size ≤ gb247)); have n5_ := Aside0.mk ((by rw [hg]; exact Nat.ne_of_lt (blk_lt (g := gb238) (o := .cells #[.string a0_0, .slice A0_1 l0_1.length c0_1, .slice A0_2 l0_2.length c0_2, .slice (a0_3).A (a0_3).n (a0_3).c, .slice A0_4 l0_4.length c0_4, .slice A0_5 l0_5.length c0_5, .int .i64 a0_6, .int .i64 a0_7, .int .i64 a0_8, .int .i64 a0_9, .string a0_10, .int .i64 a0_11, .int .i64 a0_12, .int .i64 a0_13, .bool a0_14] 30 (0, 0)) (by (with_reducible repeat (first | refine blk_drewN ?_ _ | refine blk_drew ?_ | refine blk_alloc ?_ _)); exact BK238.out)) : gb238 ≠ gb247)); have n6_ := Aside0.mk ((by rw [hg]; exact Nat.ne_of_gt (blk_lt (g := gb238) (o := .cells #[.string a0_0, .slice A0_1 l0_1.length c0_1, .slice A0_2 l0_2.length c0_2, .slice (a0_3).A (a0_3).n (a0_3).c, .slice A0_4 l0_4.length c0_4, .slice A0_5 l0_5.length c0_5, .int .i64 a0_6, .int .i64 a0_7, .int .i64 a0_8, .int .i64 a0_9, .string a0_10, .int .i64 a0_11, .int .i64 a0_12, .int .i64 a0_13, .bool a0_14] 30 (0, 0)) (by (with_reducible repeat (first | refine blk_drewN ?_ _ | refine blk_drew ?_ | refine blk_alloc ?_ _)); exact BK238.out)) : gb247 ≠ gb238)); clear BK238; clear HB; have BK238 := n0_; have HB := n1_; have BK247 := n2_; have GW247 := n3_; have GE247 := n4_; have NB238_247 := n5_; have NB247_238 := n6_; clear n0_ n1_ n2_ n3_ n4_ n5_ n6_; clear hb hbox hg; have hnb18 := NB247_238.out; have hnc18 := NB238_247.out; have hcz19_0 : w17.cell? ⟨gb247, 0, none⟩ = some (.string (⟨#[]⟩ : ByteArray)) := (blk_cell BK247.out 0).trans rfl; have hcz19_1 : w17.cell? ⟨gb247, 1, none⟩ = some (.string (⟨#[]⟩ : ByteArray)) := (blk_cell BK247.out 1).trans rfl; have hcz19_2 : w17.cell? ⟨gb247, 2, none⟩ = some (.bool false) := (blk_cell BK247.out 2).trans rfl; have hcz19_3 : w17.cell? ⟨gb247, 3, none⟩ = some (.bool false) := (blk_cell BK247.out 3).trans rfl; have hcz19_4 : w17.cell? ⟨gb247, 4, none⟩ = some (.bool false) := (blk_cell BK247.out 4).trans rfl; have hfz19_0 := blk_frozen BK247.out 0; have hfz19_1 := blk_frozen BK247.out 1; have hfz19_2 := blk_frozen BK247.out 2; have hfz19_3 := blk_frozen BK247.out 3; have hfz19_4 := blk_frozen BK247.out 4))
   go_ret2
   exact ⟨by first | rfl | (simp [errW_none, errW_some] <;> rfl) | (simp [*, errW_none, errW_some] <;> rfl), by repeat (first | (with_reducible first | exact HB.out | apply below_alloc | apply pw_below_drewN | apply below_drew1 | refine below_set ?_ GE238.out | refine below_set ?_ GE247.out) | exact HB.out)⟩
 ·replace c5 := Bool.eq_false_iff.mpr c5
  subst c5
  have H1 : (if t239 > 0 then (jobshellref17_Value.j0 k a1 t239 (decide (t239 ≤ (l0_2.length : Int))) a0_0 l0_1 l0_2 a0_3 l0_4 l0_5 a0_6 a0_7 a0_8 a0_9 a0_10 a0_11 a0_12 a0_13 a0_14) else (jobshellref17_Value.j0 k a1 t239 false a0_0 l0_1 l0_2 a0_3 l0_4 l0_5 a0_6 a0_7 a0_8 a0_9 a0_10 a0_11 a0_12 a0_13 a0_14)) = some (r1, r2) := by rw [if_neg (show ¬ (false = true) by decide)] at H; exact H
  clear H
  have H := H1
  clear H1
  have HC20 := Aside0.mk H
  clear H
  go_enter Tryd.func12, Tryd.ntmps12
  go_upto_region 7 with (first | ((with_reducible refine gate_dst (N := 2) rfl ?_); (try (refine gate_guard (by rfl) ?_; dsimp only)); refine box_event ?hg (N := 2) ?hd (cs := #[.string a0_0, .slice A0_1 l0_1.length c0_1, .slice A0_2 l0_2.length c0_2, .slice (a0_3).A (a0_3).n (a0_3).c, .slice A0_4 l0_4.length c0_4, .slice A0_5 l0_5.length c0_5, .int .i64 a0_6, .int .i64 a0_7, .int .i64 a0_8, .int .i64 a0_9, .string a0_10, .int .i64 a0_11, .int .i64 a0_12, .int .i64 a0_13, .bool a0_14]) (t := 30) ?hr ?_; (case hd => rfl); (case hg => rfl); (case hr => first | (go_simp; done) | (go_simp; rfl)); intro gb238 hg w21 hbox hb; have n0_ := Aside0.mk (below_step (by repeat (first | (with_reducible first | exact HB.out | apply below_alloc | apply pw_below_drewN | apply below_drew1) | exact HB.out)) hb); have n1_ := Aside0.mk (hbox); have n2_ := Aside0.mk ((by rw [hg]; exact (below_size (by repeat (first | (with_reducible first | exact HB.out | apply below_alloc | apply pw_below_drewN | apply below_drew1) | exact HB.out))) : w.heap.size ≤ gb238)); have n3_ := Aside0.mk ((by rw [hg]; exact (below_size (by repeat (first | (with_reducible first | exact HB.out | apply below_alloc | apply pw_below_drewN | apply below_drew1) | exact HB.out))) : w.heap.size ≤ gb238)); clear HB; have HB := n0_; have BK238 := n1_; have GW238 := n2_; have GE238 := n3_; clear n0_ n1_ n2_ n3_; clear hb hbox hg) | ((with_reducible refine gate_callee (f := 28) rfl ?_); refine goesL_ (some 10) rfl rfl Tryd.func28 (by kernel_rfl) rfl #[.string a1] rfl (by (try simp only [List.map_toArray, List.map_cons, List.map_nil]); first | done | rfl | (simp only [List.length_drop, List.length_take]; rfl)) ?_; (with_reducible refine (jobshellref17_positional.calls k a1 t239 _ A3.out).mono ?_); rintro e w' ⟨rfl, ⟨nd, rfl⟩⟩; refine ⟨_, rfl, ?_⟩) | ((with_reducible refine gate_callee (f := 29) rfl ?_); refine goesL_ (some 13) rfl rfl Tryd.func29 (by kernel_rfl) rfl #[.string a1] rfl (by (try simp only [List.map_toArray, List.map_cons, List.map_nil]); first | done | rfl | (simp only [List.length_drop, List.length_take]; rfl)) ?_; (with_reducible refine (jobshellref01_Name.calls k a1 false _ A4.out).mono ?_); rintro e w' ⟨rfl, ⟨nd, rfl⟩⟩; refine ⟨_, rfl, ?_⟩))
  (try simp only [Act.put, List.setIfInBounds_toArray, List.set_cons_zero, List.set_cons_succ])
  go_cut [26] (fun v26 wc => ∃ (kq : Nat) (x26_19 : Bool), v26 = .bool x26_19 ∧ Aside0 (jobshellref17_Value.j0 kq a1 t239 x26_19 a0_0 l0_1 l0_2 a0_3 l0_4 l0_5 a0_6 a0_7 a0_8 a0_9 a0_10 a0_11 a0_12 a0_13 a0_14 = some (r1, r2)) ∧ Aside0 (kq ≤ k) ∧ Aside0 (wc.heap[gb238]? = some (.cells #[.string a0_0, (.slice A0_1 l0_1.length c0_1), (.slice A0_2 l0_2.length c0_2), .slice (a0_3).A (a0_3).n (a0_3).c, (.slice A0_4 l0_4.length c0_4), (.slice A0_5 l0_5.length c0_5), .int .i64 a0_6, .int .i64 a0_7, .int .i64 a0_8, .int .i64 a0_9, .string a0_10, .int .i64 a0_11, .int .i64 a0_12, .int .i64 a0_13, .bool a0_14] 30 (0, 0))) ∧ Aside0 (Below w.heap.size w wc))
  case first =>
   have H := HC20.out
   clear HC20
   by_cases c22 : t239 > 0
   ·rw [if_pos c22] at H
    have c22b0 : decide (0 < t239) = true := decide_eq_true c22
    clear c22
    (first | rw [c22b0] | (simp only [i64_w, i32_w]; rw [c22b0]) | skip)
    have H' := Aside0.mk H
    clear H
    have hcz23_0 : w21.cell? ⟨gb238, 0, none⟩ = some (.string a0_0) := (blk_cell BK238.out 0).trans rfl
    have hcz23_1 : w21.cell? ⟨gb238, 1, none⟩ = some (.slice A0_1 l0_1.length c0_1) := (blk_cell BK238.out 1).trans rfl
    have hcz23_2 : w21.cell? ⟨gb238, 2, none⟩ = some (.slice A0_2 l0_2.length c0_2) := (blk_cell BK238.out 2).trans rfl
    have hcz23_3 : w21.cell? ⟨gb238, 3, none⟩ = some (.slice (a0_3).A (a0_3).n (a0_3).c) := (blk_cell BK238.out 3).trans rfl
    have hcz23_4 : w21.cell? ⟨gb238, 4, none⟩ = some (.slice A0_4 l0_4.length c0_4) := (blk_cell BK238.out 4).trans rfl
    have hcz23_5 : w21.cell? ⟨gb238, 5, none⟩ = some (.slice A0_5 l0_5.length c0_5) := (blk_cell BK238.out 5).trans rfl
    have hcz23_6 : w21.cell? ⟨gb238, 6, none⟩ = some (.int .i64 a0_6) := (blk_cell BK238.out 6).trans rfl
    have hcz23_7 : w21.cell? ⟨gb238, 7, none⟩ = some (.int .i64 a0_7) := (blk_cell BK238.out 7).trans rfl
    have hcz23_8 : w21.cell? ⟨gb238, 8, none⟩ = some (.int .i64 a0_8) := (blk_cell BK238.out 8).trans rfl
    have hcz23_9 : w21.cell? ⟨gb238, 9, none⟩ = some (.int .i64 a0_9) := (blk_cell BK238.out 9).trans rfl
    have hcz23_10 : w21.cell? ⟨gb238, 10, none⟩ = some (.string a0_10) := (blk_cell BK238.out 10).trans rfl
    have hcz23_11 : w21.cell? ⟨gb238, 11, none⟩ = some (.int .i64 a0_11) := (blk_cell BK238.out 11).trans rfl
    have hcz23_12 : w21.cell? ⟨gb238, 12, none⟩ = some (.int .i64 a0_12) := (blk_cell BK238.out 12).trans rfl
    have hcz23_13 : w21.cell? ⟨gb238, 13, none⟩ = some (.int .i64 a0_13) := (blk_cell BK238.out 13).trans rfl
    have hcz23_14 : w21.cell? ⟨gb238, 14, none⟩ = some (.bool a0_14) := (blk_cell BK238.out 14).trans rfl
    have hfz23_0 := blk_frozen BK238.out 0
    have hfz23_1 := blk_frozen BK238.out 1
    have hfz23_2 := blk_frozen BK238.out 2
    have hfz23_3 := blk_frozen BK238.out 3
    have hfz23_4 := blk_frozen BK238.out 4
    have hfz23_5 := blk_frozen BK238.out 5
    have hfz23_6 := blk_frozen BK238.out 6
    have hfz23_7 := blk_frozen BK238.out 7
    have hfz23_8 := blk_frozen BK238.out 8
    have hfz23_9 := blk_frozen BK238.out 9
    have hfz23_10 := blk_frozen BK238.out 10
    have hfz23_11 := blk_frozen BK238.out 11
    have hfz23_12 := blk_frozen BK238.out 12
    have hfz23_13 := blk_frozen BK238.out 13
    have hfz23_14 := blk_frozen BK238.out 14
    go_wp2
    go_meet
    case rel => exact ⟨_, (decide (t239 ≤ (l0_2.length : Int))), (by first | rfl | (simp; done) | (simp [*]; done) | (simp [isE_ne]; done)), H', ⟨by first | omega | exact Nat.le_refl _⟩, ⟨by (with_reducible repeat (first | refine blk_drewN ?_ _ | refine blk_drew ?_ | refine blk_alloc ?_ _)); exact BK238.out⟩, ⟨by repeat (first | (with_reducible first | exact HB.out | apply below_alloc | apply pw_below_drewN | apply below_drew1 | refine below_set ?_ GE238.out) | exact HB.out)⟩⟩
   ·rw [if_neg c22] at H
    have c22b0 : decide (0 < t239) = false := decide_eq_false c22
    clear c22
    (first | rw [c22b0] | (simp only [i64_w, i32_w]; rw [c22b0]) | skip)
    have H' := Aside0.mk H
    clear H
    go_wp2
    go_meet
    case rel => exact ⟨_, (false), (by first | rfl | (simp; done) | (simp [*]; done) | (simp [isE_ne]; done)), H', ⟨by first | omega | exact Nat.le_refl _⟩, ⟨by (with_reducible repeat (first | refine blk_drewN ?_ _ | refine blk_drew ?_ | refine blk_alloc ?_ _)); exact BK238.out⟩, ⟨by repeat (first | (with_reducible first | exact HB.out | apply below_alloc | apply pw_below_drewN | apply below_drew1 | refine below_set ?_ GE238.out) | exact HB.out)⟩⟩
  case rest =>
   clear HC20
   try clear c1
   try clear c2
   try clear p2
   try clear c3
   try clear c5
   try clear c7
   try clear c12
   try clear c18
   try clear c22
   try clear c22b0
   try clear hcz13_0
   try clear hcz13_1
   try clear hcz13_2
   try clear hcz13_3
   try clear hcz13_4
   try clear hcz15_0
   try clear hcz15_1
   try clear hcz15_10
   try clear hcz15_11
   try clear hcz15_12
   try clear hcz15_13
   try clear hcz15_14
   try clear hcz15_2
   try clear hcz15_3
   try clear hcz15_4
   try clear hcz15_5
   try clear hcz15_6
   try clear hcz15_7
   try clear hcz15_8
   try clear hcz15_9
   try clear hcz19_0
   try clear hcz19_1
   try clear hcz19_2
   try clear hcz19_3
   try clear hcz19_4
   try clear hcz23_0
   try clear hcz23_1
   try clear hcz23_10
   try clear hcz23_11
   try clear hcz23_12
   try clear hcz23_13
   try clear hcz23_14
   try clear hcz23_2
   try clear hcz23_3
   try clear hcz23_4
   try clear hcz23_5
   try clear hcz23_6
   try clear hcz23_7
   try clear hcz23_8
   try clear hcz23_9
   try clear hcz9_0
   try clear hcz9_1
   try clear hcz9_10
   try clear hcz9_11
   try clear hcz9_12
   try clear hcz9_13
   try clear hcz9_14
   try clear hcz9_2
   try clear hcz9_3
   try clear hcz9_4
   try clear hcz9_5
   try clear hcz9_6
   try clear hcz9_7
   try clear hcz9_8
   try clear hcz9_9
   try clear hfz13_0
   try clear hfz13_1
   try clear hfz13_2
   try clear hfz13_3
   try clear hfz13_4
   try clear hfz15_0
   try clear hfz15_1
   try clear hfz15_10
   try clear hfz15_11
   try clear hfz15_12
   try clear hfz15_13
   try clear hfz15_14
   try clear hfz15_2
   try clear hfz15_3
   try clear hfz15_4
   try clear hfz15_5
   try clear hfz15_6
   try clear hfz15_7
   try clear hfz15_8
   try clear hfz15_9
   try clear hfz19_0
   try clear hfz19_1
   try clear hfz19_2
   try clear hfz19_3
   try clear hfz19_4
   try clear hfz23_0
   try clear hfz23_1
   try clear hfz23_10
   try clear hfz23_11
   try clear hfz23_12
   try clear hfz23_13
   try clear hfz23_14
   try clear hfz23_2
   try clear hfz23_3
   try clear hfz23_4
   try clear hfz23_5
   try clear hfz23_6
   try clear hfz23_7
   try clear hfz23_8
   try clear hfz23_9
   try clear hfz9_0
   try clear hfz9_1
   try clear hfz9_10
   try clear hfz9_11
   try clear hfz9_12
   try clear hfz9_13
   try clear hfz9_14
   try clear hfz9_2
   try clear hfz9_3
   try clear hfz9_4
   try clear hfz9_5
   try clear hfz9_6
   try clear hfz9_7
   try clear hfz9_8
   try clear hfz9_9
   obtain ⟨kq, x26_19, rfl, HA, HJ19, BK238, HB⟩ := hcut
   cases kq with
   | zero => exact absurd HA.out (by simp [jobshellref17_Value.j0])
   | succ kj19 =>
    have H := HA.out
    clear HA
    simp only [jobshellref17_Value.j0] at H
    by_cases c24 : x26_19 = true
    ·subst c24
     have H1 : (if 0 ≤ (wrap64 (t239 - 1)) then (if (wrap64 (t239 - 1)) < (l0_2.length : Int) then (some (rdOf ByteArray.empty l0_2 (wrap64 (t239 - 1)), true)) else (none)) else (none)) = some (r1, r2) := by rw [if_pos rfl] at H; exact H
     clear H
     have H := H1
     clear H1
     obtain ⟨ji25, hji25⟩ : ∃ j_ : Int, (wrap64 (t239 - 1)) = j_ := ⟨_, rfl⟩
     replace H : (if 0 ≤ (ji25) then (if (ji25) < (l0_2.length : Int) then (some (rdOf ByteArray.empty l0_2 (ji25), true)) else (none)) else (none)) = some (r1, r2) := by first | (rw [hji25] at H; exact H) | (simp only [hji25] at H ⊢; exact H)
     have hji25w : (IntKind.i64.wrap (t239 - 1)) = ji25 := (i64_w _).trans hji25
     by_cases c26 : 0 ≤ (ji25)
     ·rw [if_pos c26] at H
      have c26b0 : decide (0 ≤ (ji25)) = true := decide_eq_true c26
      clear c26
      by_cases c27 : (ji25) < (l0_2.length : Int)
      ·rw [if_pos c27] at H
       have c27b0 : decide ((ji25) < (l0_2.length : Int)) = true := decide_eq_true c27
       clear c27
       simp only [Option.some.injEq, Prod.mk.injEq] at H
       obtain ⟨rfl, rfl⟩ := H
       have hcz28_0 : wc.cell? ⟨gb238, 0, none⟩ = some (.string a0_0) := (blk_cell BK238.out 0).trans rfl
       have hcz28_1 : wc.cell? ⟨gb238, 1, none⟩ = some (.slice A0_1 l0_1.length c0_1) := (blk_cell BK238.out 1).trans rfl
       have hcz28_2 : wc.cell? ⟨gb238, 2, none⟩ = some (.slice A0_2 l0_2.length c0_2) := (blk_cell BK238.out 2).trans rfl
       have hcz28_3 : wc.cell? ⟨gb238, 3, none⟩ = some (.slice (a0_3).A (a0_3).n (a0_3).c) := (blk_cell BK238.out 3).trans rfl
       have hcz28_4 : wc.cell? ⟨gb238, 4, none⟩ = some (.slice A0_4 l0_4.length c0_4) := (blk_cell BK238.out 4).trans rfl
       have hcz28_5 : wc.cell? ⟨gb238, 5, none⟩ = some (.slice A0_5 l0_5.length c0_5) := (blk_cell BK238.out 5).trans rfl
       have hcz28_6 : wc.cell? ⟨gb238, 6, none⟩ = some (.int .i64 a0_6) := (blk_cell BK238.out 6).trans rfl
       have hcz28_7 : wc.cell? ⟨gb238, 7, none⟩ = some (.int .i64 a0_7) := (blk_cell BK238.out 7).trans rfl
       have hcz28_8 : wc.cell? ⟨gb238, 8, none⟩ = some (.int .i64 a0_8) := (blk_cell BK238.out 8).trans rfl
       have hcz28_9 : wc.cell? ⟨gb238, 9, none⟩ = some (.int .i64 a0_9) := (blk_cell BK238.out 9).trans rfl
       have hcz28_10 : wc.cell? ⟨gb238, 10, none⟩ = some (.string a0_10) := (blk_cell BK238.out 10).trans rfl
       have hcz28_11 : wc.cell? ⟨gb238, 11, none⟩ = some (.int .i64 a0_11) := (blk_cell BK238.out 11).trans rfl
       have hcz28_12 : wc.cell? ⟨gb238, 12, none⟩ = some (.int .i64 a0_12) := (blk_cell BK238.out 12).trans rfl
       have hcz28_13 : wc.cell? ⟨gb238, 13, none⟩ = some (.int .i64 a0_13) := (blk_cell BK238.out 13).trans rfl
       have hcz28_14 : wc.cell? ⟨gb238, 14, none⟩ = some (.bool a0_14) := (blk_cell BK238.out 14).trans rfl
       have hfz28_0 := blk_frozen BK238.out 0
       have hfz28_1 := blk_frozen BK238.out 1
       have hfz28_2 := blk_frozen BK238.out 2
       have hfz28_3 := blk_frozen BK238.out 3
       have hfz28_4 := blk_frozen BK238.out 4
       have hfz28_5 := blk_frozen BK238.out 5
       have hfz28_6 := blk_frozen BK238.out 6
       have hfz28_7 := blk_frozen BK238.out 7
       have hfz28_8 := blk_frozen BK238.out 8
       have hfz28_9 := blk_frozen BK238.out 9
       have hfz28_10 := blk_frozen BK238.out 10
       have hfz28_11 := blk_frozen BK238.out 11
       have hfz28_12 := blk_frozen BK238.out 12
       have hfz28_13 := blk_frozen BK238.out 13
       have hfz28_14 := blk_frozen BK238.out 14
       have p248 : 0 ≤ ((ji25) : Int) := of_decide_eq_true (by first | (with_reducible assumption) | assumption)
       have q248 : (ji25) < (l0_2.length : Int) := of_decide_eq_true (by first | (with_reducible assumption) | assumption)
       obtain ⟨ad248, e248, hx248_0⟩ := Kd.at_string HR0_2.out (ji25) p248 q248
       cases e248
       replace hx248_0 := (HB.out.cell (World.block_lt_of_cell? w _ hx248_0)).trans hx248_0
       replace p248 := eq_true p248
       replace q248 := eq_true q248
       go_wp2
       go_ret2
       exact ⟨by first | rfl | (simp [errW_none, errW_some] <;> rfl) | (simp only [← hji25]; first | rfl | (simp [errW_none, errW_some] <;> rfl)) | (simp [*, errW_none, errW_some] <;> rfl), by repeat (first | (with_reducible first | exact HB.out | apply below_alloc | apply pw_below_drewN | apply below_drew1 | refine below_set ?_ GE238.out) | exact HB.out)⟩
      ·rw [if_neg c27] at H
       exact absurd H (by simp)
     ·rw [if_neg c26] at H
      exact absurd H (by simp)
    ·replace c24 := Bool.eq_false_iff.mpr c24
     subst c24
     have H1 : (if a1.toList = ([48] : List UInt8) then (some (a0_0, true)) else (if a1.toList = ([35] : List UInt8) then ((jobshellref05_Decimal.f kj19 (l0_2.length : Int)).bind fun t249 => (some (t249, true))) else (if a1.toList = ([63] : List UInt8) then ((jobshellref05_Decimal.f kj19 a0_7).bind fun t250 => (some (t250, true))) else (if a1.toList = ([45] : List UInt8) then ((jobshellref17_Flags.f kj19 a0_6).bind fun t251 => (some (t251, true))) else (if a1.toList = ([36] : List UInt8) then ((jobshellref05_Decimal.f kj19 a0_8).bind fun t252 => (some (t252, true))) else (if a1.toList = ([33] : List UInt8) then (jobshellref17_Value.j1 kj19 a1 (a0_9 != 0) a0_0 l0_1 l0_2 a0_3 l0_4 l0_5 a0_6 a0_7 a0_8 a0_9 a0_10 a0_11 a0_12 a0_13 a0_14) else (jobshellref17_Value.j1 kj19 a1 false a0_0 l0_1 l0_2 a0_3 l0_4 l0_5 a0_6 a0_7 a0_8 a0_9 a0_10 a0_11 a0_12 a0_13 a0_14))))))) = some (r1, r2) := by rw [if_neg (show ¬ (false = true) by decide)] at H; exact H
     clear H
     have H := H1
     clear H1
     by_cases c29 : a1.toList = ([48] : List UInt8)
     ·rw [if_pos c29] at H
      have c29b0 : (a1.toList == ([48] : List UInt8)) = true := beq_iff_eq.mpr c29
      have c29b1 : (a1.toList != ([48] : List UInt8)) = false := bne_eq_false_iff_eq.mpr c29
      clear c29
      simp only [Option.some.injEq, Prod.mk.injEq] at H
      obtain ⟨rfl, rfl⟩ := H
      have hcz30_0 : wc.cell? ⟨gb238, 0, none⟩ = some (.string a0_0) := (blk_cell BK238.out 0).trans rfl
      have hcz30_1 : wc.cell? ⟨gb238, 1, none⟩ = some (.slice A0_1 l0_1.length c0_1) := (blk_cell BK238.out 1).trans rfl
      have hcz30_2 : wc.cell? ⟨gb238, 2, none⟩ = some (.slice A0_2 l0_2.length c0_2) := (blk_cell BK238.out 2).trans rfl
      have hcz30_3 : wc.cell? ⟨gb238, 3, none⟩ = some (.slice (a0_3).A (a0_3).n (a0_3).c) := (blk_cell BK238.out 3).trans rfl
      have hcz30_4 : wc.cell? ⟨gb238, 4, none⟩ = some (.slice A0_4 l0_4.length c0_4) := (blk_cell BK238.out 4).trans rfl
      have hcz30_5 : wc.cell? ⟨gb238, 5, none⟩ = some (.slice A0_5 l0_5.length c0_5) := (blk_cell BK238.out 5).trans rfl
      have hcz30_6 : wc.cell? ⟨gb238, 6, none⟩ = some (.int .i64 a0_6) := (blk_cell BK238.out 6).trans rfl
      have hcz30_7 : wc.cell? ⟨gb238, 7, none⟩ = some (.int .i64 a0_7) := (blk_cell BK238.out 7).trans rfl
      have hcz30_8 : wc.cell? ⟨gb238, 8, none⟩ = some (.int .i64 a0_8) := (blk_cell BK238.out 8).trans rfl
      have hcz30_9 : wc.cell? ⟨gb238, 9, none⟩ = some (.int .i64 a0_9) := (blk_cell BK238.out 9).trans rfl
      have hcz30_10 : wc.cell? ⟨gb238, 10, none⟩ = some (.string a0_10) := (blk_cell BK238.out 10).trans rfl
      have hcz30_11 : wc.cell? ⟨gb238, 11, none⟩ = some (.int .i64 a0_11) := (blk_cell BK238.out 11).trans rfl
      have hcz30_12 : wc.cell? ⟨gb238, 12, none⟩ = some (.int .i64 a0_12) := (blk_cell BK238.out 12).trans rfl
      have hcz30_13 : wc.cell? ⟨gb238, 13, none⟩ = some (.int .i64 a0_13) := (blk_cell BK238.out 13).trans rfl
      have hcz30_14 : wc.cell? ⟨gb238, 14, none⟩ = some (.bool a0_14) := (blk_cell BK238.out 14).trans rfl
      have hfz30_0 := blk_frozen BK238.out 0
      have hfz30_1 := blk_frozen BK238.out 1
      have hfz30_2 := blk_frozen BK238.out 2
      have hfz30_3 := blk_frozen BK238.out 3
      have hfz30_4 := blk_frozen BK238.out 4
      have hfz30_5 := blk_frozen BK238.out 5
      have hfz30_6 := blk_frozen BK238.out 6
      have hfz30_7 := blk_frozen BK238.out 7
      have hfz30_8 := blk_frozen BK238.out 8
      have hfz30_9 := blk_frozen BK238.out 9
      have hfz30_10 := blk_frozen BK238.out 10
      have hfz30_11 := blk_frozen BK238.out 11
      have hfz30_12 := blk_frozen BK238.out 12
      have hfz30_13 := blk_frozen BK238.out 13
      have hfz30_14 := blk_frozen BK238.out 14
      go_wp2
      go_ret2
      exact ⟨by first | rfl | (simp [errW_none, errW_some] <;> rfl) | (simp [*, errW_none, errW_some] <;> rfl), by repeat (first | (with_reducible first | exact HB.out | apply below_alloc | apply pw_below_drewN | apply below_drew1 | refine below_set ?_ GE238.out) | exact HB.out)⟩
     ·rw [if_neg c29] at H
      have c29b0 : (a1.toList == ([48] : List UInt8)) = false := beq_eq_false_iff_ne.mpr c29
      have c29b1 : (a1.toList != ([48] : List UInt8)) = true := bne_iff_ne.mpr c29
      by_cases c31 : a1.toList = ([35] : List UInt8)
      ·rw [if_pos c31] at H
       have c31b0 : (a1.toList == ([35] : List UInt8)) = true := beq_iff_eq.mpr c31
       have c31b1 : (a1.toList != ([35] : List UInt8)) = false := bne_eq_false_iff_eq.mpr c31
       clear c31
       replace H := Option.bind_eq_some_iff.mp H
       obtain ⟨t249, A320, H⟩ := H
       replace H : (some (t249, true)) = some (r1, r2) := H
       have A32 := Aside0.mk A320
       clear A320
       simp only [Option.some.injEq, Prod.mk.injEq] at H
       obtain ⟨rfl, rfl⟩ := H
       have hcz33_0 : wc.cell? ⟨gb238, 0, none⟩ = some (.string a0_0) := (blk_cell BK238.out 0).trans rfl
       have hcz33_1 : wc.cell? ⟨gb238, 1, none⟩ = some (.slice A0_1 l0_1.length c0_1) := (blk_cell BK238.out 1).trans rfl
       have hcz33_2 : wc.cell? ⟨gb238, 2, none⟩ = some (.slice A0_2 l0_2.length c0_2) := (blk_cell BK238.out 2).trans rfl
       have hcz33_3 : wc.cell? ⟨gb238, 3, none⟩ = some (.slice (a0_3).A (a0_3).n (a0_3).c) := (blk_cell BK238.out 3).trans rfl
       have hcz33_4 : wc.cell? ⟨gb238, 4, none⟩ = some (.slice A0_4 l0_4.length c0_4) := (blk_cell BK238.out 4).trans rfl
       have hcz33_5 : wc.cell? ⟨gb238, 5, none⟩ = some (.slice A0_5 l0_5.length c0_5) := (blk_cell BK238.out 5).trans rfl
       have hcz33_6 : wc.cell? ⟨gb238, 6, none⟩ = some (.int .i64 a0_6) := (blk_cell BK238.out 6).trans rfl
       have hcz33_7 : wc.cell? ⟨gb238, 7, none⟩ = some (.int .i64 a0_7) := (blk_cell BK238.out 7).trans rfl
       have hcz33_8 : wc.cell? ⟨gb238, 8, none⟩ = some (.int .i64 a0_8) := (blk_cell BK238.out 8).trans rfl
       have hcz33_9 : wc.cell? ⟨gb238, 9, none⟩ = some (.int .i64 a0_9) := (blk_cell BK238.out 9).trans rfl
       have hcz33_10 : wc.cell? ⟨gb238, 10, none⟩ = some (.string a0_10) := (blk_cell BK238.out 10).trans rfl
       have hcz33_11 : wc.cell? ⟨gb238, 11, none⟩ = some (.int .i64 a0_11) := (blk_cell BK238.out 11).trans rfl
       have hcz33_12 : wc.cell? ⟨gb238, 12, none⟩ = some (.int .i64 a0_12) := (blk_cell BK238.out 12).trans rfl
       have hcz33_13 : wc.cell? ⟨gb238, 13, none⟩ = some (.int .i64 a0_13) := (blk_cell BK238.out 13).trans rfl
       have hcz33_14 : wc.cell? ⟨gb238, 14, none⟩ = some (.bool a0_14) := (blk_cell BK238.out 14).trans rfl
       have hfz33_0 := blk_frozen BK238.out 0
       have hfz33_1 := blk_frozen BK238.out 1
       have hfz33_2 := blk_frozen BK238.out 2
       have hfz33_3 := blk_frozen BK238.out 3
       have hfz33_4 := blk_frozen BK238.out 4
       have hfz33_5 := blk_frozen BK238.out 5
       have hfz33_6 := blk_frozen BK238.out 6
       have hfz33_7 := blk_frozen BK238.out 7
       have hfz33_8 := blk_frozen BK238.out 8
       have hfz33_9 := blk_frozen BK238.out 9
       have hfz33_10 := blk_frozen BK238.out 10
       have hfz33_11 := blk_frozen BK238.out 11
       have hfz33_12 := blk_frozen BK238.out 12
       have hfz33_13 := blk_frozen BK238.out 13
       have hfz33_14 := blk_frozen BK238.out 14
       go_wp2_with (first | ((with_reducible refine gate_callee (f := 31) rfl ?_); refine goesL_ (some 53) rfl rfl Tryd.func31 (by kernel_rfl) rfl #[.int .i64 (l0_2.length : Int)] rfl (by (try simp only [List.map_toArray, List.map_cons, List.map_nil]); first | done | rfl | (simp only [List.length_drop, List.length_take]; rfl)) ?_; (with_reducible refine (jobshellref05_Decimal.calls kj19 (l0_2.length : Int) t249 _ A32.out).mono ?_); rintro e w34 ⟨rfl, hb⟩; refine ⟨_, rfl, ?_⟩; have n0_ := Aside0.mk (blk_below (g := gb238) (o := .cells #[.string a0_0, .slice A0_1 l0_1.length c0_1, .slice A0_2 l0_2.length c0_2, .slice (a0_3).A (a0_3).n (a0_3).c, .slice A0_4 l0_4.length c0_4, .slice A0_5 l0_5.length c0_5, .int .i64 a0_6, .int .i64 a0_7, .int .i64 a0_8, .int .i64 a0_9, .string a0_10, .int .i64 a0_11, .int .i64 a0_12, .int .i64 a0_13, .bool a0_14] 30 (0, 0)) (by (with_reducible repeat (first | refine blk_drewN ?_ _ | refine blk_drew ?_ | refine blk_alloc ?_ _)); exact BK238.out) hb); have n1_ := Aside0.mk (below_step (by repeat (first | (with_reducible first | exact HB.out | apply below_alloc | apply pw_below_drewN | apply below_drew1 | refine below_set ?_ GE238.out) | exact HB.out)) hb); clear BK238; clear HB; have BK238 := n0_; have HB := n1_; clear n0_ n1_; (try clear hb); (try clear hb2); (try clear hk); (try clear hi)))
       go_ret2
       exact ⟨by first | rfl | (simp [errW_none, errW_some] <;> rfl) | (simp [*, errW_none, errW_some] <;> rfl), by repeat (first | (with_reducible first | exact HB.out | apply below_alloc | apply pw_below_drewN | apply below_drew1 | refine below_set ?_ GE238.out) | exact HB.out)⟩
      ·rw [if_neg c31] at H
       have c31b0 : (a1.toList == ([35] : List UInt8)) = false := beq_eq_false_iff_ne.mpr c31
       have c31b1 : (a1.toList != ([35] : List UInt8)) = true := bne_iff_ne.mpr c31
       by_cases c35 : a1.toList = ([63] : List UInt8)
       ·rw [if_pos c35] at H
        have c35b0 : (a1.toList == ([63] : List UInt8)) = true := beq_iff_eq.mpr c35
        have c35b1 : (a1.toList != ([63] : List UInt8)) = false := bne_eq_false_iff_eq.mpr c35
        clear c35
        replace H := Option.bind_eq_some_iff.mp H
        obtain ⟨t250, A360, H⟩ := H
        replace H : (some (t250, true)) = some (r1, r2) := H
        have A36 := Aside0.mk A360
        clear A360
        simp only [Option.some.injEq, Prod.mk.injEq] at H
        obtain ⟨rfl, rfl⟩ := H
        have hcz37_0 : wc.cell? ⟨gb238, 0, none⟩ = some (.string a0_0) := (blk_cell BK238.out 0).trans rfl
        have hcz37_1 : wc.cell? ⟨gb238, 1, none⟩ = some (.slice A0_1 l0_1.length c0_1) := (blk_cell BK238.out 1).trans rfl
        have hcz37_2 : wc.cell? ⟨gb238, 2, none⟩ = some (.slice A0_2 l0_2.length c0_2) := (blk_cell BK238.out 2).trans rfl
        have hcz37_3 : wc.cell? ⟨gb238, 3, none⟩ = some (.slice (a0_3).A (a0_3).n (a0_3).c) := (blk_cell BK238.out 3).trans rfl
        have hcz37_4 : wc.cell? ⟨gb238, 4, none⟩ = some (.slice A0_4 l0_4.length c0_4) := (blk_cell BK238.out 4).trans rfl
        have hcz37_5 : wc.cell? ⟨gb238, 5, none⟩ = some (.slice A0_5 l0_5.length c0_5) := (blk_cell BK238.out 5).trans rfl
        have hcz37_6 : wc.cell? ⟨gb238, 6, none⟩ = some (.int .i64 a0_6) := (blk_cell BK238.out 6).trans rfl
        have hcz37_7 : wc.cell? ⟨gb238, 7, none⟩ = some (.int .i64 a0_7) := (blk_cell BK238.out 7).trans rfl
        have hcz37_8 : wc.cell? ⟨gb238, 8, none⟩ = some (.int .i64 a0_8) := (blk_cell BK238.out 8).trans rfl
        have hcz37_9 : wc.cell? ⟨gb238, 9, none⟩ = some (.int .i64 a0_9) := (blk_cell BK238.out 9).trans rfl
        have hcz37_10 : wc.cell? ⟨gb238, 10, none⟩ = some (.string a0_10) := (blk_cell BK238.out 10).trans rfl
        have hcz37_11 : wc.cell? ⟨gb238, 11, none⟩ = some (.int .i64 a0_11) := (blk_cell BK238.out 11).trans rfl
        have hcz37_12 : wc.cell? ⟨gb238, 12, none⟩ = some (.int .i64 a0_12) := (blk_cell BK238.out 12).trans rfl
        have hcz37_13 : wc.cell? ⟨gb238, 13, none⟩ = some (.int .i64 a0_13) := (blk_cell BK238.out 13).trans rfl
        have hcz37_14 : wc.cell? ⟨gb238, 14, none⟩ = some (.bool a0_14) := (blk_cell BK238.out 14).trans rfl
        have hfz37_0 := blk_frozen BK238.out 0
        have hfz37_1 := blk_frozen BK238.out 1
        have hfz37_2 := blk_frozen BK238.out 2
        have hfz37_3 := blk_frozen BK238.out 3
        have hfz37_4 := blk_frozen BK238.out 4
        have hfz37_5 := blk_frozen BK238.out 5
        have hfz37_6 := blk_frozen BK238.out 6
        have hfz37_7 := blk_frozen BK238.out 7
        have hfz37_8 := blk_frozen BK238.out 8
        have hfz37_9 := blk_frozen BK238.out 9
        have hfz37_10 := blk_frozen BK238.out 10
        have hfz37_11 := blk_frozen BK238.out 11
        have hfz37_12 := blk_frozen BK238.out 12
        have hfz37_13 := blk_frozen BK238.out 13
        have hfz37_14 := blk_frozen BK238.out 14
        go_wp2_with (first | ((with_reducible refine gate_callee (f := 31) rfl ?_); refine goesL_ (some 59) rfl rfl Tryd.func31 (by kernel_rfl) rfl #[.int .i64 a0_7] rfl (by (try simp only [List.map_toArray, List.map_cons, List.map_nil]); first | done | rfl | (simp only [List.length_drop, List.length_take]; rfl)) ?_; (with_reducible refine (jobshellref05_Decimal.calls kj19 a0_7 t250 _ A36.out).mono ?_); rintro e w38 ⟨rfl, hb⟩; refine ⟨_, rfl, ?_⟩; have n0_ := Aside0.mk (blk_below (g := gb238) (o := .cells #[.string a0_0, .slice A0_1 l0_1.length c0_1, .slice A0_2 l0_2.length c0_2, .slice (a0_3).A (a0_3).n (a0_3).c, .slice A0_4 l0_4.length c0_4, .slice A0_5 l0_5.length c0_5, .int .i64 a0_6, .int .i64 a0_7, .int .i64 a0_8, .int .i64 a0_9, .string a0_10, .int .i64 a0_11, .int .i64 a0_12, .int .i64 a0_13, .bool a0_14] 30 (0, 0)) (by (with_reducible repeat (first | refine blk_drewN ?_ _ | refine blk_drew ?_ | refine blk_alloc ?_ _)); exact BK238.out) hb); have n1_ := Aside0.mk (below_step (by repeat (first | (with_reducible first | exact HB.out | apply below_alloc | apply pw_below_drewN | apply below_drew1 | refine below_set ?_ GE238.out) | exact HB.out)) hb); clear BK238; clear HB; have BK238 := n0_; have HB := n1_; clear n0_ n1_; (try clear hb); (try clear hb2); (try clear hk); (try clear hi)))
        go_ret2
        exact ⟨by first | rfl | (simp [errW_none, errW_some] <;> rfl) | (simp [*, errW_none, errW_some] <;> rfl), by repeat (first | (with_reducible first | exact HB.out | apply below_alloc | apply pw_below_drewN | apply below_drew1 | refine below_set ?_ GE238.out) | exact HB.out)⟩
       ·rw [if_neg c35] at H
        have c35b0 : (a1.toList == ([63] : List UInt8)) = false := beq_eq_false_iff_ne.mpr c35
        have c35b1 : (a1.toList != ([63] : List UInt8)) = true := bne_iff_ne.mpr c35
        by_cases c39 : a1.toList = ([45] : List UInt8)
        ·rw [if_pos c39] at H
         have c39b0 : (a1.toList == ([45] : List UInt8)) = true := beq_iff_eq.mpr c39
         have c39b1 : (a1.toList != ([45] : List UInt8)) = false := bne_eq_false_iff_eq.mpr c39
         clear c39
         replace H := Option.bind_eq_some_iff.mp H
         obtain ⟨t251, A400, H⟩ := H
         replace H : (some (t251, true)) = some (r1, r2) := H
         have A40 := Aside0.mk A400
         clear A400
         simp only [Option.some.injEq, Prod.mk.injEq] at H
         obtain ⟨rfl, rfl⟩ := H
         have hcz41_0 : wc.cell? ⟨gb238, 0, none⟩ = some (.string a0_0) := (blk_cell BK238.out 0).trans rfl
         have hcz41_1 : wc.cell? ⟨gb238, 1, none⟩ = some (.slice A0_1 l0_1.length c0_1) := (blk_cell BK238.out 1).trans rfl
         have hcz41_2 : wc.cell? ⟨gb238, 2, none⟩ = some (.slice A0_2 l0_2.length c0_2) := (blk_cell BK238.out 2).trans rfl
         have hcz41_3 : wc.cell? ⟨gb238, 3, none⟩ = some (.slice (a0_3).A (a0_3).n (a0_3).c) := (blk_cell BK238.out 3).trans rfl
         have hcz41_4 : wc.cell? ⟨gb238, 4, none⟩ = some (.slice A0_4 l0_4.length c0_4) := (blk_cell BK238.out 4).trans rfl
         have hcz41_5 : wc.cell? ⟨gb238, 5, none⟩ = some (.slice A0_5 l0_5.length c0_5) := (blk_cell BK238.out 5).trans rfl
         have hcz41_6 : wc.cell? ⟨gb238, 6, none⟩ = some (.int .i64 a0_6) := (blk_cell BK238.out 6).trans rfl
         have hcz41_7 : wc.cell? ⟨gb238, 7, none⟩ = some (.int .i64 a0_7) := (blk_cell BK238.out 7).trans rfl
         have hcz41_8 : wc.cell? ⟨gb238, 8, none⟩ = some (.int .i64 a0_8) := (blk_cell BK238.out 8).trans rfl
         have hcz41_9 : wc.cell? ⟨gb238, 9, none⟩ = some (.int .i64 a0_9) := (blk_cell BK238.out 9).trans rfl
         have hcz41_10 : wc.cell? ⟨gb238, 10, none⟩ = some (.string a0_10) := (blk_cell BK238.out 10).trans rfl
         have hcz41_11 : wc.cell? ⟨gb238, 11, none⟩ = some (.int .i64 a0_11) := (blk_cell BK238.out 11).trans rfl
         have hcz41_12 : wc.cell? ⟨gb238, 12, none⟩ = some (.int .i64 a0_12) := (blk_cell BK238.out 12).trans rfl
         have hcz41_13 : wc.cell? ⟨gb238, 13, none⟩ = some (.int .i64 a0_13) := (blk_cell BK238.out 13).trans rfl
         have hcz41_14 : wc.cell? ⟨gb238, 14, none⟩ = some (.bool a0_14) := (blk_cell BK238.out 14).trans rfl
         have hfz41_0 := blk_frozen BK238.out 0
         have hfz41_1 := blk_frozen BK238.out 1
         have hfz41_2 := blk_frozen BK238.out 2
         have hfz41_3 := blk_frozen BK238.out 3
         have hfz41_4 := blk_frozen BK238.out 4
         have hfz41_5 := blk_frozen BK238.out 5
         have hfz41_6 := blk_frozen BK238.out 6
         have hfz41_7 := blk_frozen BK238.out 7
         have hfz41_8 := blk_frozen BK238.out 8
         have hfz41_9 := blk_frozen BK238.out 9
         have hfz41_10 := blk_frozen BK238.out 10
         have hfz41_11 := blk_frozen BK238.out 11
         have hfz41_12 := blk_frozen BK238.out 12
         have hfz41_13 := blk_frozen BK238.out 13
         have hfz41_14 := blk_frozen BK238.out 14
         go_wp2_with (first | ((with_reducible refine gate_callee (f := 32) rfl ?_); refine goesL_ (some 65) rfl rfl Tryd.func32 (by kernel_rfl) rfl #[.int .i64 a0_6] rfl (by (try simp only [List.map_toArray, List.map_cons, List.map_nil]); first | done | rfl | (simp only [List.length_drop, List.length_take]; rfl)) ?_; (with_reducible refine (jobshellref17_Flags.calls kj19 a0_6 t251 _ A40.out).mono ?_); rintro e w42 ⟨rfl, hb⟩; refine ⟨_, rfl, ?_⟩; have n0_ := Aside0.mk (blk_below (g := gb238) (o := .cells #[.string a0_0, .slice A0_1 l0_1.length c0_1, .slice A0_2 l0_2.length c0_2, .slice (a0_3).A (a0_3).n (a0_3).c, .slice A0_4 l0_4.length c0_4, .slice A0_5 l0_5.length c0_5, .int .i64 a0_6, .int .i64 a0_7, .int .i64 a0_8, .int .i64 a0_9, .string a0_10, .int .i64 a0_11, .int .i64 a0_12, .int .i64 a0_13, .bool a0_14] 30 (0, 0)) (by (with_reducible repeat (first | refine blk_drewN ?_ _ | refine blk_drew ?_ | refine blk_alloc ?_ _)); exact BK238.out) hb); have n1_ := Aside0.mk (below_step (by repeat (first | (with_reducible first | exact HB.out | apply below_alloc | apply pw_below_drewN | apply below_drew1 | refine below_set ?_ GE238.out) | exact HB.out)) hb); clear BK238; clear HB; have BK238 := n0_; have HB := n1_; clear n0_ n1_; (try clear hb); (try clear hb2); (try clear hk); (try clear hi)))
         go_ret2
         exact ⟨by first | rfl | (simp [errW_none, errW_some] <;> rfl) | (simp [*, errW_none, errW_some] <;> rfl), by repeat (first | (with_reducible first | exact HB.out | apply below_alloc | apply pw_below_drewN | apply below_drew1 | refine below_set ?_ GE238.out) | exact HB.out)⟩
        ·rw [if_neg c39] at H
         have c39b0 : (a1.toList == ([45] : List UInt8)) = false := beq_eq_false_iff_ne.mpr c39
         have c39b1 : (a1.toList != ([45] : List UInt8)) = true := bne_iff_ne.mpr c39
         by_cases c43 : a1.toList = ([36] : List UInt8)
         ·rw [if_pos c43] at H
          have c43b0 : (a1.toList == ([36] : List UInt8)) = true := beq_iff_eq.mpr c43
          have c43b1 : (a1.toList != ([36] : List UInt8)) = false := bne_eq_false_iff_eq.mpr c43
          clear c43
          replace H := Option.bind_eq_some_iff.mp H
          obtain ⟨t252, A440, H⟩ := H
          replace H : (some (t252, true)) = some (r1, r2) := H
          have A44 := Aside0.mk A440
          clear A440
          simp only [Option.some.injEq, Prod.mk.injEq] at H
          obtain ⟨rfl, rfl⟩ := H
          have hcz45_0 : wc.cell? ⟨gb238, 0, none⟩ = some (.string a0_0) := (blk_cell BK238.out 0).trans rfl
          have hcz45_1 : wc.cell? ⟨gb238, 1, none⟩ = some (.slice A0_1 l0_1.length c0_1) := (blk_cell BK238.out 1).trans rfl
          have hcz45_2 : wc.cell? ⟨gb238, 2, none⟩ = some (.slice A0_2 l0_2.length c0_2) := (blk_cell BK238.out 2).trans rfl
          have hcz45_3 : wc.cell? ⟨gb238, 3, none⟩ = some (.slice (a0_3).A (a0_3).n (a0_3).c) := (blk_cell BK238.out 3).trans rfl
          have hcz45_4 : wc.cell? ⟨gb238, 4, none⟩ = some (.slice A0_4 l0_4.length c0_4) := (blk_cell BK238.out 4).trans rfl
          have hcz45_5 : wc.cell? ⟨gb238, 5, none⟩ = some (.slice A0_5 l0_5.length c0_5) := (blk_cell BK238.out 5).trans rfl
          have hcz45_6 : wc.cell? ⟨gb238, 6, none⟩ = some (.int .i64 a0_6) := (blk_cell BK238.out 6).trans rfl
          have hcz45_7 : wc.cell? ⟨gb238, 7, none⟩ = some (.int .i64 a0_7) := (blk_cell BK238.out 7).trans rfl
          have hcz45_8 : wc.cell? ⟨gb238, 8, none⟩ = some (.int .i64 a0_8) := (blk_cell BK238.out 8).trans rfl
          have hcz45_9 : wc.cell? ⟨gb238, 9, none⟩ = some (.int .i64 a0_9) := (blk_cell BK238.out 9).trans rfl
          have hcz45_10 : wc.cell? ⟨gb238, 10, none⟩ = some (.string a0_10) := (blk_cell BK238.out 10).trans rfl
          have hcz45_11 : wc.cell? ⟨gb238, 11, none⟩ = some (.int .i64 a0_11) := (blk_cell BK238.out 11).trans rfl
          have hcz45_12 : wc.cell? ⟨gb238, 12, none⟩ = some (.int .i64 a0_12) := (blk_cell BK238.out 12).trans rfl
          have hcz45_13 : wc.cell? ⟨gb238, 13, none⟩ = some (.int .i64 a0_13) := (blk_cell BK238.out 13).trans rfl
          have hcz45_14 : wc.cell? ⟨gb238, 14, none⟩ = some (.bool a0_14) := (blk_cell BK238.out 14).trans rfl
          have hfz45_0 := blk_frozen BK238.out 0
          have hfz45_1 := blk_frozen BK238.out 1
          have hfz45_2 := blk_frozen BK238.out 2
          have hfz45_3 := blk_frozen BK238.out 3
          have hfz45_4 := blk_frozen BK238.out 4
          have hfz45_5 := blk_frozen BK238.out 5
          have hfz45_6 := blk_frozen BK238.out 6
          have hfz45_7 := blk_frozen BK238.out 7
          have hfz45_8 := blk_frozen BK238.out 8
          have hfz45_9 := blk_frozen BK238.out 9
          have hfz45_10 := blk_frozen BK238.out 10
          have hfz45_11 := blk_frozen BK238.out 11
          have hfz45_12 := blk_frozen BK238.out 12
          have hfz45_13 := blk_frozen BK238.out 13
          have hfz45_14 := blk_frozen BK238.out 14
          go_wp2_with (first | ((with_reducible refine gate_callee (f := 31) rfl ?_); refine goesL_ (some 71) rfl rfl Tryd.func31 (by kernel_rfl) rfl #[.int .i64 a0_8] rfl (by (try simp only [List.map_toArray, List.map_cons, List.map_nil]); first | done | rfl | (simp only [List.length_drop, List.length_take]; rfl)) ?_; (with_reducible refine (jobshellref05_Decimal.calls kj19 a0_8 t252 _ A44.out).mono ?_); rintro e w46 ⟨rfl, hb⟩; refine ⟨_, rfl, ?_⟩; have n0_ := Aside0.mk (blk_below (g := gb238) (o := .cells #[.string a0_0, .slice A0_1 l0_1.length c0_1, .slice A0_2 l0_2.length c0_2, .slice (a0_3).A (a0_3).n (a0_3).c, .slice A0_4 l0_4.length c0_4, .slice A0_5 l0_5.length c0_5, .int .i64 a0_6, .int .i64 a0_7, .int .i64 a0_8, .int .i64 a0_9, .string a0_10, .int .i64 a0_11, .int .i64 a0_12, .int .i64 a0_13, .bool a0_14] 30 (0, 0)) (by (with_reducible repeat (first | refine blk_drewN ?_ _ | refine blk_drew ?_ | refine blk_alloc ?_ _)); exact BK238.out) hb); have n1_ := Aside0.mk (below_step (by repeat (first | (with_reducible first | exact HB.out | apply below_alloc | apply pw_below_drewN | apply below_drew1 | refine below_set ?_ GE238.out) | exact HB.out)) hb); clear BK238; clear HB; have BK238 := n0_; have HB := n1_; clear n0_ n1_; (try clear hb); (try clear hb2); (try clear hk); (try clear hi)))
          go_ret2
          exact ⟨by first | rfl | (simp [errW_none, errW_some] <;> rfl) | (simp [*, errW_none, errW_some] <;> rfl), by repeat (first | (with_reducible first | exact HB.out | apply below_alloc | apply pw_below_drewN | apply below_drew1 | refine below_set ?_ GE238.out) | exact HB.out)⟩
         ·rw [if_neg c43] at H
          have c43b0 : (a1.toList == ([36] : List UInt8)) = false := beq_eq_false_iff_ne.mpr c43
          have c43b1 : (a1.toList != ([36] : List UInt8)) = true := bne_iff_ne.mpr c43
          have HC47 := Aside0.mk H
          clear H
          go_upto_region 19 with (fail)
          go_cut [72] (fun v72 wc => ∃ (kq : Nat) (x72_46 : Bool), v72 = .bool x72_46 ∧ Aside0 (jobshellref17_Value.j1 kq a1 x72_46 a0_0 l0_1 l0_2 a0_3 l0_4 l0_5 a0_6 a0_7 a0_8 a0_9 a0_10 a0_11 a0_12 a0_13 a0_14 = some (r1, r2)) ∧ Aside0 (kq ≤ kj19) ∧ Aside0 (wc.heap[gb238]? = some (.cells #[.string a0_0, (.slice A0_1 l0_1.length c0_1), (.slice A0_2 l0_2.length c0_2), .slice (a0_3).A (a0_3).n (a0_3).c, (.slice A0_4 l0_4.length c0_4), (.slice A0_5 l0_5.length c0_5), .int .i64 a0_6, .int .i64 a0_7, .int .i64 a0_8, .int .i64 a0_9, .string a0_10, .int .i64 a0_11, .int .i64 a0_12, .int .i64 a0_13, .bool a0_14] 30 (0, 0))) ∧ Aside0 (Below w.heap.size w wc))
          case first =>
           have H := HC47.out
           clear HC47
           by_cases c48 : a1.toList = ([33] : List UInt8)
           ·rw [if_pos c48] at H
            have c48b0 : (a1.toList == ([33] : List UInt8)) = true := beq_iff_eq.mpr c48
            have c48b1 : (a1.toList != ([33] : List UInt8)) = false := bne_eq_false_iff_eq.mpr c48
            clear c48
            (first | rw [c48b0] | (simp only [i64_w, i32_w]; rw [c48b0]) | skip)
            have H' := Aside0.mk H
            clear H
            have hcz49_0 : wc.cell? ⟨gb238, 0, none⟩ = some (.string a0_0) := (blk_cell BK238.out 0).trans rfl
            have hcz49_1 : wc.cell? ⟨gb238, 1, none⟩ = some (.slice A0_1 l0_1.length c0_1) := (blk_cell BK238.out 1).trans rfl
            have hcz49_2 : wc.cell? ⟨gb238, 2, none⟩ = some (.slice A0_2 l0_2.length c0_2) := (blk_cell BK238.out 2).trans rfl
            have hcz49_3 : wc.cell? ⟨gb238, 3, none⟩ = some (.slice (a0_3).A (a0_3).n (a0_3).c) := (blk_cell BK238.out 3).trans rfl
            have hcz49_4 : wc.cell? ⟨gb238, 4, none⟩ = some (.slice A0_4 l0_4.length c0_4) := (blk_cell BK238.out 4).trans rfl
            have hcz49_5 : wc.cell? ⟨gb238, 5, none⟩ = some (.slice A0_5 l0_5.length c0_5) := (blk_cell BK238.out 5).trans rfl
            have hcz49_6 : wc.cell? ⟨gb238, 6, none⟩ = some (.int .i64 a0_6) := (blk_cell BK238.out 6).trans rfl
            have hcz49_7 : wc.cell? ⟨gb238, 7, none⟩ = some (.int .i64 a0_7) := (blk_cell BK238.out 7).trans rfl
            have hcz49_8 : wc.cell? ⟨gb238, 8, none⟩ = some (.int .i64 a0_8) := (blk_cell BK238.out 8).trans rfl
            have hcz49_9 : wc.cell? ⟨gb238, 9, none⟩ = some (.int .i64 a0_9) := (blk_cell BK238.out 9).trans rfl
            have hcz49_10 : wc.cell? ⟨gb238, 10, none⟩ = some (.string a0_10) := (blk_cell BK238.out 10).trans rfl
            have hcz49_11 : wc.cell? ⟨gb238, 11, none⟩ = some (.int .i64 a0_11) := (blk_cell BK238.out 11).trans rfl
            have hcz49_12 : wc.cell? ⟨gb238, 12, none⟩ = some (.int .i64 a0_12) := (blk_cell BK238.out 12).trans rfl
            have hcz49_13 : wc.cell? ⟨gb238, 13, none⟩ = some (.int .i64 a0_13) := (blk_cell BK238.out 13).trans rfl
            have hcz49_14 : wc.cell? ⟨gb238, 14, none⟩ = some (.bool a0_14) := (blk_cell BK238.out 14).trans rfl
            have hfz49_0 := blk_frozen BK238.out 0
            have hfz49_1 := blk_frozen BK238.out 1
            have hfz49_2 := blk_frozen BK238.out 2
            have hfz49_3 := blk_frozen BK238.out 3
            have hfz49_4 := blk_frozen BK238.out 4
            have hfz49_5 := blk_frozen BK238.out 5
            have hfz49_6 := blk_frozen BK238.out 6
            have hfz49_7 := blk_frozen BK238.out 7
            have hfz49_8 := blk_frozen BK238.out 8
            have hfz49_9 := blk_frozen BK238.out 9
            have hfz49_10 := blk_frozen BK238.out 10
            have hfz49_11 := blk_frozen BK238.out 11
            have hfz49_12 := blk_frozen BK238.out 12
            have hfz49_13 := blk_frozen BK238.out 13
            have hfz49_14 := blk_frozen BK238.out 14
            go_wp2
            go_meet
            case rel => exact ⟨_, ((a0_9 != 0)), (by first | rfl | (simp; done) | (simp [*]; done) | (simp [isE_ne]; done)), H', ⟨by have := HJ19.out; first | omega | exact Nat.le_refl _⟩, ⟨by (with_reducible repeat (first | refine blk_drewN ?_ _ | refine blk_drew ?_ | refine blk_alloc ?_ _)); exact BK238.out⟩, ⟨by repeat (first | (with_reducible first | exact HB.out | apply below_alloc | apply pw_below_drewN | apply below_drew1 | refine below_set ?_ GE238.out) | exact HB.out)⟩⟩
           ·rw [if_neg c48] at H
            have c48b0 : (a1.toList == ([33] : List UInt8)) = false := beq_eq_false_iff_ne.mpr c48
            have c48b1 : (a1.toList != ([33] : List UInt8)) = true := bne_iff_ne.mpr c48
            (first | rw [c48b0] | (simp only [i64_w, i32_w]; rw [c48b0]) | skip)
            have H' := Aside0.mk H
            clear H
            go_wp2
            go_meet
            case rel => exact ⟨_, (false), (by first | rfl | (simp; done) | (simp [*]; done) | (simp [isE_ne]; done)), H', ⟨by have := HJ19.out; first | omega | exact Nat.le_refl _⟩, ⟨by (with_reducible repeat (first | refine blk_drewN ?_ _ | refine blk_drew ?_ | refine blk_alloc ?_ _)); exact BK238.out⟩, ⟨by repeat (first | (with_reducible first | exact HB.out | apply below_alloc | apply pw_below_drewN | apply below_drew1 | refine below_set ?_ GE238.out) | exact HB.out)⟩⟩
          case rest =>
           clear HC47
           try clear c1
           try clear c2
           try clear p2
           try clear q2
           try clear hx2
           try clear c3
           try clear c4
           try clear c5
           try clear p6
           try clear c7
           try clear c12
           try clear c18
           try clear c22
           try clear c22b0
           try clear c24
           try clear p24
           try clear q24
           try clear hx24
           try clear c26
           try clear c26b0
           try clear c27
           try clear c27b0
           try clear c28
           try clear c29
           try clear c29b0
           try clear c29b1
           try clear c30
           try clear c31
           try clear c31b0
           try clear c31b1
           try clear c32
           try clear c35
           try clear c35b0
           try clear c35b1
           try clear c39
           try clear c39b0
           try clear c39b1
           try clear c43
           try clear c43b0
           try clear c43b1
           try clear c48
           try clear c48b0
           try clear c48b1
           try clear hcz13_0
           try clear hcz13_1
           try clear hcz13_2
           try clear hcz13_3
           try clear hcz13_4
           try clear hcz15_0
           try clear hcz15_1
           try clear hcz15_10
           try clear hcz15_11
           try clear hcz15_12
           try clear hcz15_13
           try clear hcz15_14
           try clear hcz15_2
           try clear hcz15_3
           try clear hcz15_4
           try clear hcz15_5
           try clear hcz15_6
           try clear hcz15_7
           try clear hcz15_8
           try clear hcz15_9
           try clear hcz19_0
           try clear hcz19_1
           try clear hcz19_2
           try clear hcz19_3
           try clear hcz19_4
           try clear hcz23_0
           try clear hcz23_1
           try clear hcz23_10
           try clear hcz23_11
           try clear hcz23_12
           try clear hcz23_13
           try clear hcz23_14
           try clear hcz23_2
           try clear hcz23_3
           try clear hcz23_4
           try clear hcz23_5
           try clear hcz23_6
           try clear hcz23_7
           try clear hcz23_8
           try clear hcz23_9
           try clear hcz28_0
           try clear hcz28_1
           try clear hcz28_10
           try clear hcz28_11
           try clear hcz28_12
           try clear hcz28_13
           try clear hcz28_14
           try clear hcz28_2
           try clear hcz28_3
           try clear hcz28_4
           try clear hcz28_5
           try clear hcz28_6
           try clear hcz28_7
           try clear hcz28_8
           try clear hcz28_9
           try clear hcz30_0
           try clear hcz30_1
           try clear hcz30_10
           try clear hcz30_11
           try clear hcz30_12
           try clear hcz30_13
           try clear hcz30_14
           try clear hcz30_2
           try clear hcz30_3
           try clear hcz30_4
           try clear hcz30_5
           try clear hcz30_6
           try clear hcz30_7
           try clear hcz30_8
           try clear hcz30_9
           try clear hcz33_0
           try clear hcz33_1
           try clear hcz33_10
           try clear hcz33_11
           try clear hcz33_12
           try clear hcz33_13
           try clear hcz33_14
           try clear hcz33_2
           try clear hcz33_3
           try clear hcz33_4
           try clear hcz33_5
           try clear hcz33_6
           try clear hcz33_7
           try clear hcz33_8
           try clear hcz33_9
           try clear hcz37_0
           try clear hcz37_1
           try clear hcz37_10
           try clear hcz37_11
           try clear hcz37_12
           try clear hcz37_13
           try clear hcz37_14
           try clear hcz37_2
           try clear hcz37_3
           try clear hcz37_4
           try clear hcz37_5
           try clear hcz37_6
           try clear hcz37_7
           try clear hcz37_8
           try clear hcz37_9
           try clear hcz41_0
           try clear hcz41_1
           try clear hcz41_10
           try clear hcz41_11
           try clear hcz41_12
           try clear hcz41_13
           try clear hcz41_14
           try clear hcz41_2
           try clear hcz41_3
           try clear hcz41_4
           try clear hcz41_5
           try clear hcz41_6
           try clear hcz41_7
           try clear hcz41_8
           try clear hcz41_9
           try clear hcz45_0
           try clear hcz45_1
           try clear hcz45_10
           try clear hcz45_11
           try clear hcz45_12
           try clear hcz45_13
           try clear hcz45_14
           try clear hcz45_2
           try clear hcz45_3
           try clear hcz45_4
           try clear hcz45_5
           try clear hcz45_6
           try clear hcz45_7
           try clear hcz45_8
           try clear hcz45_9
           try clear hcz49_0
           try clear hcz49_1
           try clear hcz49_10
           try clear hcz49_11
           try clear hcz49_12
           try clear hcz49_13
           try clear hcz49_14
           try clear hcz49_2
           try clear hcz49_3
           try clear hcz49_4
           try clear hcz49_5
           try clear hcz49_6
           try clear hcz49_7
           try clear hcz49_8
           try clear hcz49_9
           try clear hcz9_0
           try clear hcz9_1
           try clear hcz9_10
           try clear hcz9_11
           try clear hcz9_12
           try clear hcz9_13
           try clear hcz9_14
           try clear hcz9_2
           try clear hcz9_3
           try clear hcz9_4
           try clear hcz9_5
           try clear hcz9_6
           try clear hcz9_7
           try clear hcz9_8
           try clear hcz9_9
           try clear hfz13_0
           try clear hfz13_1
           try clear hfz13_2
           try clear hfz13_3
           try clear hfz13_4
           try clear hfz15_0
           try clear hfz15_1
           try clear hfz15_10
           try clear hfz15_11
           try clear hfz15_12
           try clear hfz15_13
           try clear hfz15_14
           try clear hfz15_2
           try clear hfz15_3
           try clear hfz15_4
           try clear hfz15_5
           try clear hfz15_6
           try clear hfz15_7
           try clear hfz15_8
           try clear hfz15_9
           try clear hfz19_0
           try clear hfz19_1
           try clear hfz19_2
           try clear hfz19_3
           try clear hfz19_4
           try clear hfz23_0
           try clear hfz23_1
           try clear hfz23_10
           try clear hfz23_11
           try clear hfz23_12
           try clear hfz23_13
           try clear hfz23_14
           try clear hfz23_2
           try clear hfz23_3
           try clear hfz23_4
           try clear hfz23_5
           try clear hfz23_6
           try clear hfz23_7
           try clear hfz23_8
           try clear hfz23_9
           try clear hfz28_0
           try clear hfz28_1
           try clear hfz28_10
           try clear hfz28_11
           try clear hfz28_12
           try clear hfz28_13
           try clear hfz28_14
           try clear hfz28_2
           try clear hfz28_3
           try clear hfz28_4
           try clear hfz28_5
           try clear hfz28_6
           try clear hfz28_7
           try clear hfz28_8
           try clear hfz28_9
           try clear hfz30_0
           try clear hfz30_1
           try clear hfz30_10
           try clear hfz30_11
           try clear hfz30_12
           try clear hfz30_13
           try clear hfz30_14
           try clear hfz30_2
           try clear hfz30_3
           try clear hfz30_4
           try clear hfz30_5
           try clear hfz30_6
           try clear hfz30_7
           try clear hfz30_8
           try clear hfz30_9
           try clear hfz33_0
           try clear hfz33_1
           try clear hfz33_10
           try clear hfz33_11
           try clear hfz33_12
           try clear hfz33_13
           try clear hfz33_14
           try clear hfz33_2
           try clear hfz33_3
           try clear hfz33_4
           try clear hfz33_5
           try clear hfz33_6
           try clear hfz33_7
           try clear hfz33_8
           try clear hfz33_9
           try clear hfz37_0
           try clear hfz37_1
           try clear hfz37_10
           try clear hfz37_11
           try clear hfz37_12
           try clear hfz37_13
           try clear hfz37_14
           try clear hfz37_2
           try clear hfz37_3
           try clear hfz37_4
           try clear hfz37_5
           try clear hfz37_6
           try clear hfz37_7
           try clear hfz37_8
           try clear hfz37_9
           try clear hfz41_0
           try clear hfz41_1
           try clear hfz41_10
           try clear hfz41_11
           try clear hfz41_12
           try clear hfz41_13
           try clear hfz41_14
           try clear hfz41_2
           try clear hfz41_3
           try clear hfz41_4
           try clear hfz41_5
           try clear hfz41_6
           try clear hfz41_7
           try clear hfz41_8
           try clear hfz41_9
           try clear hfz45_0
           try clear hfz45_1
           try clear hfz45_10
           try clear hfz45_11
           try clear hfz45_12
           try clear hfz45_13
           try clear hfz45_14
           try clear hfz45_2
           try clear hfz45_3
           try clear hfz45_4
           try clear hfz45_5
           try clear hfz45_6
           try clear hfz45_7
           try clear hfz45_8
           try clear hfz45_9
           try clear hfz49_0
           try clear hfz49_1
           try clear hfz49_10
           try clear hfz49_11
           try clear hfz49_12
           try clear hfz49_13
           try clear hfz49_14
           try clear hfz49_2
           try clear hfz49_3
           try clear hfz49_4
           try clear hfz49_5
           try clear hfz49_6
           try clear hfz49_7
           try clear hfz49_8
           try clear hfz49_9
           try clear hfz9_0
           try clear hfz9_1
           try clear hfz9_10
           try clear hfz9_11
           try clear hfz9_12
           try clear hfz9_13
           try clear hfz9_14
           try clear hfz9_2
           try clear hfz9_3
           try clear hfz9_4
           try clear hfz9_5
           try clear hfz9_6
           try clear hfz9_7
           try clear hfz9_8
           try clear hfz9_9
           try clear hx248_0
           try clear p2
           try clear p248
           try clear q248
           obtain ⟨kq, x72_46, rfl, HA, HJ46, BK238, HB⟩ := hcut
           cases kq with
           | zero => exact absurd HA.out (by simp [jobshellref17_Value.j1])
           | succ kj46 =>
            have H := HA.out
            clear HA
            simp only [jobshellref17_Value.j1] at H
            by_cases c50 : x72_46 = true
            ·subst c50
             have H1 : ((jobshellref05_Decimal.f kj46 a0_9).bind fun t253 => (some (t253, true))) = some (r1, r2) := by rw [if_pos rfl] at H; exact H
             clear H
             have H := H1
             clear H1
             replace H := Option.bind_eq_some_iff.mp H
             obtain ⟨t253, A510, H⟩ := H
             replace H : (some (t253, true)) = some (r1, r2) := H
             have A51 := Aside0.mk A510
             clear A510
             simp only [Option.some.injEq, Prod.mk.injEq] at H
             obtain ⟨rfl, rfl⟩ := H
             have hcz52_0 : wc.cell? ⟨gb238, 0, none⟩ = some (.string a0_0) := (blk_cell BK238.out 0).trans rfl
             have hcz52_1 : wc.cell? ⟨gb238, 1, none⟩ = some (.slice A0_1 l0_1.length c0_1) := (blk_cell BK238.out 1).trans rfl
             have hcz52_2 : wc.cell? ⟨gb238, 2, none⟩ = some (.slice A0_2 l0_2.length c0_2) := (blk_cell BK238.out 2).trans rfl
             have hcz52_3 : wc.cell? ⟨gb238, 3, none⟩ = some (.slice (a0_3).A (a0_3).n (a0_3).c) := (blk_cell BK238.out 3).trans rfl
             have hcz52_4 : wc.cell? ⟨gb238, 4, none⟩ = some (.slice A0_4 l0_4.length c0_4) := (blk_cell BK238.out 4).trans rfl
             have hcz52_5 : wc.cell? ⟨gb238, 5, none⟩ = some (.slice A0_5 l0_5.length c0_5) := (blk_cell BK238.out 5).trans rfl
             have hcz52_6 : wc.cell? ⟨gb238, 6, none⟩ = some (.int .i64 a0_6) := (blk_cell BK238.out 6).trans rfl
             have hcz52_7 : wc.cell? ⟨gb238, 7, none⟩ = some (.int .i64 a0_7) := (blk_cell BK238.out 7).trans rfl
             have hcz52_8 : wc.cell? ⟨gb238, 8, none⟩ = some (.int .i64 a0_8) := (blk_cell BK238.out 8).trans rfl
             have hcz52_9 : wc.cell? ⟨gb238, 9, none⟩ = some (.int .i64 a0_9) := (blk_cell BK238.out 9).trans rfl
             have hcz52_10 : wc.cell? ⟨gb238, 10, none⟩ = some (.string a0_10) := (blk_cell BK238.out 10).trans rfl
             have hcz52_11 : wc.cell? ⟨gb238, 11, none⟩ = some (.int .i64 a0_11) := (blk_cell BK238.out 11).trans rfl
             have hcz52_12 : wc.cell? ⟨gb238, 12, none⟩ = some (.int .i64 a0_12) := (blk_cell BK238.out 12).trans rfl
             have hcz52_13 : wc.cell? ⟨gb238, 13, none⟩ = some (.int .i64 a0_13) := (blk_cell BK238.out 13).trans rfl
             have hcz52_14 : wc.cell? ⟨gb238, 14, none⟩ = some (.bool a0_14) := (blk_cell BK238.out 14).trans rfl
             have hfz52_0 := blk_frozen BK238.out 0
             have hfz52_1 := blk_frozen BK238.out 1
             have hfz52_2 := blk_frozen BK238.out 2
             have hfz52_3 := blk_frozen BK238.out 3
             have hfz52_4 := blk_frozen BK238.out 4
             have hfz52_5 := blk_frozen BK238.out 5
             have hfz52_6 := blk_frozen BK238.out 6
             have hfz52_7 := blk_frozen BK238.out 7
             have hfz52_8 := blk_frozen BK238.out 8
             have hfz52_9 := blk_frozen BK238.out 9
             have hfz52_10 := blk_frozen BK238.out 10
             have hfz52_11 := blk_frozen BK238.out 11
             have hfz52_12 := blk_frozen BK238.out 12
             have hfz52_13 := blk_frozen BK238.out 13
             have hfz52_14 := blk_frozen BK238.out 14
             go_wp2_with (first | ((with_reducible refine gate_callee (f := 31) rfl ?_); refine goesL_ (some 82) rfl rfl Tryd.func31 (by kernel_rfl) rfl #[.int .i64 a0_9] rfl (by (try simp only [List.map_toArray, List.map_cons, List.map_nil]); first | done | rfl | (simp only [List.length_drop, List.length_take]; rfl)) ?_; (with_reducible refine (jobshellref05_Decimal.calls kj46 a0_9 t253 _ A51.out).mono ?_); rintro e w53 ⟨rfl, hb⟩; refine ⟨_, rfl, ?_⟩; have n0_ := Aside0.mk (blk_below (g := gb238) (o := .cells #[.string a0_0, .slice A0_1 l0_1.length c0_1, .slice A0_2 l0_2.length c0_2, .slice (a0_3).A (a0_3).n (a0_3).c, .slice A0_4 l0_4.length c0_4, .slice A0_5 l0_5.length c0_5, .int .i64 a0_6, .int .i64 a0_7, .int .i64 a0_8, .int .i64 a0_9, .string a0_10, .int .i64 a0_11, .int .i64 a0_12, .int .i64 a0_13, .bool a0_14] 30 (0, 0)) (by (with_reducible repeat (first | refine blk_drewN ?_ _ | refine blk_drew ?_ | refine blk_alloc ?_ _)); exact BK238.out) hb); have n1_ := Aside0.mk (below_step (by repeat (first | (with_reducible first | exact HB.out | apply below_alloc | apply pw_below_drewN | apply below_drew1 | refine below_set ?_ GE238.out) | exact HB.out)) hb); clear BK238; clear HB; have BK238 := n0_; have HB := n1_; clear n0_ n1_; (try clear hb); (try clear hb2); (try clear hk); (try clear hi)))
             go_ret2
             exact ⟨by first | rfl | (simp [errW_none, errW_some] <;> rfl) | (simp [*, errW_none, errW_some] <;> rfl), by repeat (first | (with_reducible first | exact HB.out | apply below_alloc | apply pw_below_drewN | apply below_drew1 | refine below_set ?_ GE238.out) | exact HB.out)⟩
            ·replace c50 := Bool.eq_false_iff.mpr c50
             subst c50
             have H1 : (if a1.toList = ([64] : List UInt8) then ((jobshellref17_Join.f kj46 l0_2 (⟨#[32]⟩ : ByteArray)).bind fun t254 => (some (t254, decide ((l0_2.length : Int) > 0)))) else (if a1.toList = ([42] : List UInt8) then ((jobshellref17_Glue.f kj46 l0_1).bind fun t255 => ((jobshellref17_Join.f kj46 l0_2 t255).bind fun t256 => (some (t256, decide ((l0_2.length : Int) > 0))))) else (some ((⟨#[]⟩ : ByteArray), false)))) = some (r1, r2) := by rw [if_neg (show ¬ (false = true) by decide)] at H; exact H
             clear H
             have H := H1
             clear H1
             by_cases c54 : a1.toList = ([64] : List UInt8)
             ·rw [if_pos c54] at H
              have c54b0 : (a1.toList == ([64] : List UInt8)) = true := beq_iff_eq.mpr c54
              have c54b1 : (a1.toList != ([64] : List UInt8)) = false := bne_eq_false_iff_eq.mpr c54
              clear c54
              replace H := Option.bind_eq_some_iff.mp H
              obtain ⟨t254, A550, H⟩ := H
              replace H : (some (t254, decide ((l0_2.length : Int) > 0))) = some (r1, r2) := H
              have A55 := Aside0.mk A550
              clear A550
              simp only [Option.some.injEq, Prod.mk.injEq] at H
              obtain ⟨rfl, rfl⟩ := H
              try go_wp2
              have n0_ := Aside0.mk (blk_drew BK238.out)
              have n1_ := Aside0.mk (below_drew1 HB.out)
              clear BK238
              clear HB
              have BK238 := n0_
              have HB := n1_
              clear n0_ n1_
              refine start_ (n := 9) (S := fun w' => w'.cell? ⟨gb238, 0, none⟩ = some (.string a0_0) ∧ w'.cell? ⟨gb238, 1, none⟩ = some (.slice A0_1 l0_1.length c0_1) ∧ w'.cell? ⟨gb238, 2, none⟩ = some (.slice A0_2 l0_2.length c0_2) ∧ w'.cell? ⟨gb238, 3, none⟩ = some (.slice (a0_3).A (a0_3).n (a0_3).c) ∧ w'.cell? ⟨gb238, 4, none⟩ = some (.slice A0_4 l0_4.length c0_4) ∧ w'.cell? ⟨gb238, 5, none⟩ = some (.slice A0_5 l0_5.length c0_5) ∧ w'.cell? ⟨gb238, 6, none⟩ = some (.int .i64 a0_6) ∧ w'.cell? ⟨gb238, 7, none⟩ = some (.int .i64 a0_7) ∧ w'.cell? ⟨gb238, 8, none⟩ = some (.int .i64 a0_8) ∧ w'.cell? ⟨gb238, 9, none⟩ = some (.int .i64 a0_9) ∧ w'.cell? ⟨gb238, 10, none⟩ = some (.string a0_10) ∧ w'.cell? ⟨gb238, 11, none⟩ = some (.int .i64 a0_11) ∧ w'.cell? ⟨gb238, 12, none⟩ = some (.int .i64 a0_12) ∧ w'.cell? ⟨gb238, 13, none⟩ = some (.int .i64 a0_13) ∧ w'.cell? ⟨gb238, 14, none⟩ = some (.bool a0_14)) (ds := []) #[false, false, false, false, false, false, false, false, false] (by kernel_rfl) rfl rfl ⟨(blk_cell BK238.out 0).trans rfl, (blk_cell BK238.out 1).trans rfl, (blk_cell BK238.out 2).trans rfl, (blk_cell BK238.out 3).trans rfl, (blk_cell BK238.out 4).trans rfl, (blk_cell BK238.out 5).trans rfl, (blk_cell BK238.out 6).trans rfl, (blk_cell BK238.out 7).trans rfl, (blk_cell BK238.out 8).trans rfl, (blk_cell BK238.out 9).trans rfl, (blk_cell BK238.out 10).trans rfl, (blk_cell BK238.out 11).trans rfl, (blk_cell BK238.out 12).trans rfl, (blk_cell BK238.out 13).trans rfl, (blk_cell BK238.out 14).trans rfl⟩ (fun hHeld => ?_); refine with_tabW jobshellref17_Value.tab22 jobshellref17_Value.bits22 (fun HT_ HW_ => ?_)
              generalize wc.drew = w56 at BK238 HB hHeld ⊢
              refine pure_ (i := 0) (N := some 86) (v := ?_) (a' := ?_) #[true, false, false, false, false, false, false, false, false] rfl rfl (any_of HT_.out (by kernel_rfl)) (fun _ _ _ h => h) (Or.inl ⟨by rfl, ?_⟩) ?_ ?_
              rotate_left
              ·intro w'
               go_simp
               with_reducible rfl
              rotate_left
              ·simp only [Act.put, List.setIfInBounds_toArray, List.set_cons_zero, List.set_cons_succ, i64_w, i32_w]
               rfl
              refine pure_ (i := 3) (N := some 89) (v := ?_) (a' := ?_) #[true, false, false, true, false, false, false, false, false] rfl rfl (any_of HT_.out (by kernel_rfl)) (fun _ _ _ h => h) (Or.inl ⟨by rfl, ?_⟩) ?_ ?_
              rotate_left
              ·intro w'
               go_simp
               with_reducible rfl
              rotate_left
              ·simp only [Act.put, List.setIfInBounds_toArray, List.set_cons_zero, List.set_cons_succ, i64_w, i32_w]
               rfl
              refine take_ (i := 1) (N := some 87) (v := ?_) (a' := ?_) #[true, true, false, true, false, false, false, false, false] rfl rfl (take_ofW HT_.out HW_.out (by kernel_rfl)) (fun _ _ _ h => h) (Or.inl ⟨by rfl, ?_⟩) hHeld ?_ ?_
              rotate_left
              ·rintro w' ⟨s0, s1, s2, s3, s4, s5, s6, s7, s8, s9, s10, s11, s12, s13, s14⟩
               go_simp
               with_reducible rfl
              rotate_left
              ·simp only [Act.put, List.setIfInBounds_toArray, List.set_cons_zero, List.set_cons_succ, i64_w, i32_w]
               rfl
              refine take_ (i := 4) (N := some 90) (v := ?_) (a' := ?_) #[true, true, false, true, true, false, false, false, false] rfl rfl (take_ofW HT_.out HW_.out (by kernel_rfl)) (fun _ _ _ h => h) (Or.inl ⟨by rfl, ?_⟩) hHeld ?_ ?_
              rotate_left
              ·rintro w' ⟨s0, s1, s2, s3, s4, s5, s6, s7, s8, s9, s10, s11, s12, s13, s14⟩
               go_simp
               with_reducible rfl
              rotate_left
              ·simp only [Act.put, List.setIfInBounds_toArray, List.set_cons_zero, List.set_cons_succ, i64_w, i32_w]
               rfl
              refine pure_ (i := 5) (N := some 91) (v := ?_) (a' := ?_) #[true, true, false, true, true, true, false, false, false] rfl rfl (any_of HT_.out (by kernel_rfl)) (fun _ _ _ h => h) (Or.inl ⟨by rfl, ?_⟩) ?_ ?_
              rotate_left
              ·intro w'
               go_simp
               with_reducible rfl
              rotate_left
              ·simp only [Act.put, List.setIfInBounds_toArray, List.set_cons_zero, List.set_cons_succ, i64_w, i32_w]
               rfl
              refine pure_ (i := 6) (N := some 92) (v := ?_) (a' := ?_) #[true, true, false, true, true, true, true, false, false] rfl rfl (any_of HT_.out (by kernel_rfl)) (fun _ _ _ h => h) (Or.inl ⟨by rfl, ?_⟩) ?_ ?_
              rotate_left
              ·intro w'
               go_simp
               with_reducible rfl
              rotate_left
              ·simp only [Act.put, List.setIfInBounds_toArray, List.set_cons_zero, List.set_cons_succ, i64_w, i32_w]
               rfl
              refine one_ (i := 2) (N := some 88) #[true, true, true, true, true, true, true, false, false] rfl rfl (one_of HT_.out (by kernel_rfl)) (by decide) (fun K hK => ?_)
              refine goes_ Tryd.func33 (by kernel_rfl) rfl #[.slice A0_2 l0_2.length c0_2, .string (⟨#[32]⟩ : ByteArray)] (by rfl) rfl rfl (by (try simp only [List.map_toArray, List.map_cons, List.map_nil]); first | done | rfl | (simp only [List.length_drop, List.length_take]; rfl)) ?_
              with_reducible refine (jobshellref17_Join.calls kj46 _ _ l0_2 (⟨#[32]⟩ : ByteArray) t254 _ ?side1 ?side2 A55.out).mono ?_
              (case side1 => repeat (first | exact (Kd.C_below HR0_2.out HB.out) | (with_reducible refine Kd.C_alloc ?_ _) | (with_reducible refine Kd.C_drewN ?_ _) | (with_reducible refine Kd.C_drew ?_)))
              (case side2 => exact HC0_2.out)
              rintro e w' ⟨rfl, ⟨nd, rfl⟩⟩
              refine ⟨_, rfl, ?_⟩
              refine hK.out _ _ ⟨(blk_cell BK238.out 0).trans rfl, (blk_cell BK238.out 1).trans rfl, (blk_cell BK238.out 2).trans rfl, (blk_cell BK238.out 3).trans rfl, (blk_cell BK238.out 4).trans rfl, (blk_cell BK238.out 5).trans rfl, (blk_cell BK238.out 6).trans rfl, (blk_cell BK238.out 7).trans rfl, (blk_cell BK238.out 8).trans rfl, (blk_cell BK238.out 9).trans rfl, (blk_cell BK238.out 10).trans rfl, (blk_cell BK238.out 11).trans rfl, (blk_cell BK238.out 12).trans rfl, (blk_cell BK238.out 13).trans rfl, (blk_cell BK238.out 14).trans rfl⟩ (fun hHeld => ?_)
              clear hK K
              refine norm_ (a' := ?_) ?_ ?_
              rotate_left
              ·show Act.put _ (some 88) _ = _
               simp only [Act.put, List.setIfInBounds_toArray, List.set_cons_zero, List.set_cons_succ, i64_w, i32_w]
               rfl
              refine pure_ (i := 7) (N := some 4) (v := ?_) (a' := ?_) #[true, true, true, true, true, true, true, true, false] rfl rfl (any_of HT_.out (by kernel_rfl)) (fun _ _ _ h => h) (Or.inl ⟨by rfl, ?_⟩) ?_ ?_
              rotate_left
              ·intro w'
               go_simp
               with_reducible rfl
              rotate_left
              ·simp only [Act.put, List.setIfInBounds_toArray, List.set_cons_zero, List.set_cons_succ, i64_w, i32_w]
               rfl
              refine pure_ (i := 8) (N := some 5) (v := ?_) (a' := ?_) #[true, true, true, true, true, true, true, true, true] rfl rfl (any_of HT_.out (by kernel_rfl)) (fun _ _ _ h => h) (Or.inl ⟨by rfl, ?_⟩) ?_ ?_
              rotate_left
              ·intro w'
               go_simp
               with_reducible rfl
              rotate_left
              ·simp only [Act.put, List.setIfInBounds_toArray, List.set_cons_zero, List.set_cons_succ, i64_w, i32_w]
               rfl
              refine done_ (done_of HT_.out (by kernel_rfl)) ?_
              try go_wp2
              go_ret2
              exact ⟨by first | rfl | (simp [errW_none, errW_some] <;> rfl) | (simp [*, errW_none, errW_some] <;> rfl), by repeat (first | (with_reducible first | exact HB.out | apply below_alloc | apply pw_below_drewN | apply below_drew1 | refine below_set ?_ GE238.out) | exact HB.out)⟩
             ·rw [if_neg c54] at H
              have c54b0 : (a1.toList == ([64] : List UInt8)) = false := beq_eq_false_iff_ne.mpr c54
              have c54b1 : (a1.toList != ([64] : List UInt8)) = true := bne_iff_ne.mpr c54
              by_cases c57 : a1.toList = ([42] : List UInt8)
              ·rw [if_pos c57] at H
               have c57b0 : (a1.toList == ([42] : List UInt8)) = true := beq_iff_eq.mpr c57
               have c57b1 : (a1.toList != ([42] : List UInt8)) = false := bne_eq_false_iff_eq.mpr c57
               clear c57
               replace H := Option.bind_eq_some_iff.mp H
               obtain ⟨t255, A580, H⟩ := H
               replace H : ((jobshellref17_Join.f kj46 l0_2 t255).bind fun t256 => (some (t256, decide ((l0_2.length : Int) > 0)))) = some (r1, r2) := H
               have A58 := Aside0.mk A580
               clear A580
               replace H := Option.bind_eq_some_iff.mp H
               obtain ⟨t256, A590, H⟩ := H
               replace H : (some (t256, decide ((l0_2.length : Int) > 0))) = some (r1, r2) := H
               have A59 := Aside0.mk A590
               clear A590
               simp only [Option.some.injEq, Prod.mk.injEq] at H
               obtain ⟨rfl, rfl⟩ := H
               try go_wp2
               have n0_ := Aside0.mk (blk_drew BK238.out)
               have n1_ := Aside0.mk (below_drew1 HB.out)
               clear BK238
               clear HB
               have BK238 := n0_
               have HB := n1_
               clear n0_ n1_
               refine start_ (n := 12) (S := fun w' => w'.cell? ⟨gb238, 0, none⟩ = some (.string a0_0) ∧ w'.cell? ⟨gb238, 1, none⟩ = some (.slice A0_1 l0_1.length c0_1) ∧ w'.cell? ⟨gb238, 2, none⟩ = some (.slice A0_2 l0_2.length c0_2) ∧ w'.cell? ⟨gb238, 3, none⟩ = some (.slice (a0_3).A (a0_3).n (a0_3).c) ∧ w'.cell? ⟨gb238, 4, none⟩ = some (.slice A0_4 l0_4.length c0_4) ∧ w'.cell? ⟨gb238, 5, none⟩ = some (.slice A0_5 l0_5.length c0_5) ∧ w'.cell? ⟨gb238, 6, none⟩ = some (.int .i64 a0_6) ∧ w'.cell? ⟨gb238, 7, none⟩ = some (.int .i64 a0_7) ∧ w'.cell? ⟨gb238, 8, none⟩ = some (.int .i64 a0_8) ∧ w'.cell? ⟨gb238, 9, none⟩ = some (.int .i64 a0_9) ∧ w'.cell? ⟨gb238, 10, none⟩ = some (.string a0_10) ∧ w'.cell? ⟨gb238, 11, none⟩ = some (.int .i64 a0_11) ∧ w'.cell? ⟨gb238, 12, none⟩ = some (.int .i64 a0_12) ∧ w'.cell? ⟨gb238, 13, none⟩ = some (.int .i64 a0_13) ∧ w'.cell? ⟨gb238, 14, none⟩ = some (.bool a0_14)) (ds := []) #[false, false, false, false, false, false, false, false, false, false, false, false] (by kernel_rfl) rfl rfl ⟨(blk_cell BK238.out 0).trans rfl, (blk_cell BK238.out 1).trans rfl, (blk_cell BK238.out 2).trans rfl, (blk_cell BK238.out 3).trans rfl, (blk_cell BK238.out 4).trans rfl, (blk_cell BK238.out 5).trans rfl, (blk_cell BK238.out 6).trans rfl, (blk_cell BK238.out 7).trans rfl, (blk_cell BK238.out 8).trans rfl, (blk_cell BK238.out 9).trans rfl, (blk_cell BK238.out 10).trans rfl, (blk_cell BK238.out 11).trans rfl, (blk_cell BK238.out 12).trans rfl, (blk_cell BK238.out 13).trans rfl, (blk_cell BK238.out 14).trans rfl⟩ (fun hHeld => ?_); refine with_tabW jobshellref17_Value.tab24 jobshellref17_Value.bits24 (fun HT_ HW_ => ?_)
               generalize wc.drew = w60 at BK238 HB hHeld ⊢
               refine pure_ (i := 0) (N := some 96) (v := ?_) (a' := ?_) #[true, false, false, false, false, false, false, false, false, false, false, false] rfl rfl (any_of HT_.out (by kernel_rfl)) (fun _ _ _ h => h) (Or.inl ⟨by rfl, ?_⟩) ?_ ?_
               rotate_left
               ·intro w'
                go_simp
                with_reducible rfl
               rotate_left
               ·simp only [Act.put, List.setIfInBounds_toArray, List.set_cons_zero, List.set_cons_succ, i64_w, i32_w]
                rfl
               refine pure_ (i := 2) (N := some 98) (v := ?_) (a' := ?_) #[true, false, true, false, false, false, false, false, false, false, false, false] rfl rfl (any_of HT_.out (by kernel_rfl)) (fun _ _ _ h => h) (Or.inl ⟨by rfl, ?_⟩) ?_ ?_
               rotate_left
               ·intro w'
                go_simp
                with_reducible rfl
               rotate_left
               ·simp only [Act.put, List.setIfInBounds_toArray, List.set_cons_zero, List.set_cons_succ, i64_w, i32_w]
                rfl
               refine pure_ (i := 6) (N := some 102) (v := ?_) (a' := ?_) #[true, false, true, false, false, false, true, false, false, false, false, false] rfl rfl (any_of HT_.out (by kernel_rfl)) (fun _ _ _ h => h) (Or.inl ⟨by rfl, ?_⟩) ?_ ?_
               rotate_left
               ·intro w'
                go_simp
                with_reducible rfl
               rotate_left
               ·simp only [Act.put, List.setIfInBounds_toArray, List.set_cons_zero, List.set_cons_succ, i64_w, i32_w]
                rfl
               refine take_ (i := 1) (N := some 97) (v := ?_) (a' := ?_) #[true, true, true, false, false, false, true, false, false, false, false, false] rfl rfl (take_ofW HT_.out HW_.out (by kernel_rfl)) (fun _ _ _ h => h) (Or.inl ⟨by rfl, ?_⟩) hHeld ?_ ?_
               rotate_left
               ·rintro w' ⟨s0, s1, s2, s3, s4, s5, s6, s7, s8, s9, s10, s11, s12, s13, s14⟩
                go_simp
                with_reducible rfl
               rotate_left
               ·simp only [Act.put, List.setIfInBounds_toArray, List.set_cons_zero, List.set_cons_succ, i64_w, i32_w]
                rfl
               refine take_ (i := 3) (N := some 99) (v := ?_) (a' := ?_) #[true, true, true, true, false, false, true, false, false, false, false, false] rfl rfl (take_ofW HT_.out HW_.out (by kernel_rfl)) (fun _ _ _ h => h) (Or.inl ⟨by rfl, ?_⟩) hHeld ?_ ?_
               rotate_left
               ·rintro w' ⟨s0, s1, s2, s3, s4, s5, s6, s7, s8, s9, s10, s11, s12, s13, s14⟩
                go_simp
                with_reducible rfl
               rotate_left
               ·simp only [Act.put, List.setIfInBounds_toArray, List.set_cons_zero, List.set_cons_succ, i64_w, i32_w]
                rfl
               refine take_ (i := 7) (N := some 103) (v := ?_) (a' := ?_) #[true, true, true, true, false, false, true, true, false, false, false, false] rfl rfl (take_ofW HT_.out HW_.out (by kernel_rfl)) (fun _ _ _ h => h) (Or.inl ⟨by rfl, ?_⟩) hHeld ?_ ?_
               rotate_left
               ·rintro w' ⟨s0, s1, s2, s3, s4, s5, s6, s7, s8, s9, s10, s11, s12, s13, s14⟩
                go_simp
                with_reducible rfl
               rotate_left
               ·simp only [Act.put, List.setIfInBounds_toArray, List.set_cons_zero, List.set_cons_succ, i64_w, i32_w]
                rfl
               refine pure_ (i := 8) (N := some 104) (v := ?_) (a' := ?_) #[true, true, true, true, false, false, true, true, true, false, false, false] rfl rfl (any_of HT_.out (by kernel_rfl)) (fun _ _ _ h => h) (Or.inl ⟨by rfl, ?_⟩) ?_ ?_
               rotate_left
               ·intro w'
                go_simp
                with_reducible rfl
               rotate_left
               ·simp only [Act.put, List.setIfInBounds_toArray, List.set_cons_zero, List.set_cons_succ, i64_w, i32_w]
                rfl
               refine pure_ (i := 9) (N := some 105) (v := ?_) (a' := ?_) #[true, true, true, true, false, false, true, true, true, true, false, false] rfl rfl (any_of HT_.out (by kernel_rfl)) (fun _ _ _ h => h) (Or.inl ⟨by rfl, ?_⟩) ?_ ?_
               rotate_left
               ·intro w'
                go_simp
                with_reducible rfl
               rotate_left
               ·simp only [Act.put, List.setIfInBounds_toArray, List.set_cons_zero, List.set_cons_succ, i64_w, i32_w]
                rfl
               refine one_ (i := 4) (N := some 100) #[true, true, true, true, true, false, true, true, true, true, false, false] rfl rfl (one_of HT_.out (by kernel_rfl)) (by decide) (fun K hK => ?_)
               refine goes_ Tryd.func34 (by kernel_rfl) rfl #[.slice A0_1 l0_1.length c0_1] (by rfl) rfl rfl (by (try simp only [List.map_toArray, List.map_cons, List.map_nil]); first | done | rfl | (simp only [List.length_drop, List.length_take]; rfl)) ?_
               with_reducible refine (jobshellref17_Glue.calls kj46 _ _ l0_1 t255 _ ?side1 ?side2 A58.out).mono ?_
               (case side1 => repeat (first | exact (Kd.C_below HR0_1.out HB.out) | (with_reducible refine Kd.C_alloc ?_ _) | (with_reducible refine Kd.C_drewN ?_ _) | (with_reducible refine Kd.C_drew ?_)))
               (case side2 => exact HC0_1.out)
               rintro e w61 ⟨rfl, hb⟩
               refine ⟨_, rfl, ?_⟩
               have n0_ := Aside0.mk (blk_below (g := gb238) (o := .cells #[.string a0_0, .slice A0_1 l0_1.length c0_1, .slice A0_2 l0_2.length c0_2, .slice (a0_3).A (a0_3).n (a0_3).c, .slice A0_4 l0_4.length c0_4, .slice A0_5 l0_5.length c0_5, .int .i64 a0_6, .int .i64 a0_7, .int .i64 a0_8, .int .i64 a0_9, .string a0_10, .int .i64 a0_11, .int .i64 a0_12, .int .i64 a0_13, .bool a0_14] 30 (0, 0)) (by (with_reducible repeat (first | refine blk_drewN ?_ _ | refine blk_drew ?_ | refine blk_alloc ?_ _)); exact BK238.out) hb)
               have n1_ := Aside0.mk (below_step (by repeat (first | (with_reducible first | exact HB.out | apply below_alloc | apply pw_below_drewN | apply below_drew1 | refine below_set ?_ GE238.out) | exact HB.out)) hb)
               clear BK238
               clear HB
               have BK238 := n0_
               have HB := n1_
               clear n0_ n1_
               (try clear hb)
               (try clear hb2)
               (try clear hk)
               (try clear hi)
               refine hK.out _ _ ⟨(blk_cell BK238.out 0).trans rfl, (blk_cell BK238.out 1).trans rfl, (blk_cell BK238.out 2).trans rfl, (blk_cell BK238.out 3).trans rfl, (blk_cell BK238.out 4).trans rfl, (blk_cell BK238.out 5).trans rfl, (blk_cell BK238.out 6).trans rfl, (blk_cell BK238.out 7).trans rfl, (blk_cell BK238.out 8).trans rfl, (blk_cell BK238.out 9).trans rfl, (blk_cell BK238.out 10).trans rfl, (blk_cell BK238.out 11).trans rfl, (blk_cell BK238.out 12).trans rfl, (blk_cell BK238.out 13).trans rfl, (blk_cell BK238.out 14).trans rfl⟩ (fun hHeld => ?_)
               clear hK K
               refine norm_ (a' := ?_) ?_ ?_
               rotate_left
               ·show Act.put _ (some 100) _ = _
                simp only [Act.put, List.setIfInBounds_toArray, List.set_cons_zero, List.set_cons_succ, i64_w, i32_w]
                rfl
               refine one_ (i := 5) (N := some 101) #[true, true, true, true, true, true, true, true, true, true, false, false] rfl rfl (one_of HT_.out (by kernel_rfl)) (by decide) (fun K hK => ?_)
               refine goes_ Tryd.func33 (by kernel_rfl) rfl #[.slice A0_2 l0_2.length c0_2, .string t255] (by rfl) rfl rfl (by (try simp only [List.map_toArray, List.map_cons, List.map_nil]); first | done | rfl | (simp only [List.length_drop, List.length_take]; rfl)) ?_
               with_reducible refine (jobshellref17_Join.calls kj46 _ _ l0_2 t255 t256 _ ?side1 ?side2 A59.out).mono ?_
               (case side1 => repeat (first | exact (Kd.C_below HR0_2.out HB.out) | (with_reducible refine Kd.C_alloc ?_ _) | (with_reducible refine Kd.C_drewN ?_ _) | (with_reducible refine Kd.C_drew ?_)))
               (case side2 => exact HC0_2.out)
               rintro e w' ⟨rfl, ⟨nd, rfl⟩⟩
               refine ⟨_, rfl, ?_⟩
               refine hK.out _ _ ⟨(blk_cell BK238.out 0).trans rfl, (blk_cell BK238.out 1).trans rfl, (blk_cell BK238.out 2).trans rfl, (blk_cell BK238.out 3).trans rfl, (blk_cell BK238.out 4).trans rfl, (blk_cell BK238.out 5).trans rfl, (blk_cell BK238.out 6).trans rfl, (blk_cell BK238.out 7).trans rfl, (blk_cell BK238.out 8).trans rfl, (blk_cell BK238.out 9).trans rfl, (blk_cell BK238.out 10).trans rfl, (blk_cell BK238.out 11).trans rfl, (blk_cell BK238.out 12).trans rfl, (blk_cell BK238.out 13).trans rfl, (blk_cell BK238.out 14).trans rfl⟩ (fun hHeld => ?_)
               clear hK K
               refine norm_ (a' := ?_) ?_ ?_
               rotate_left
               ·show Act.put _ (some 101) _ = _
                simp only [Act.put, List.setIfInBounds_toArray, List.set_cons_zero, List.set_cons_succ, i64_w, i32_w]
                rfl
               refine pure_ (i := 10) (N := some 4) (v := ?_) (a' := ?_) #[true, true, true, true, true, true, true, true, true, true, true, false] rfl rfl (any_of HT_.out (by kernel_rfl)) (fun _ _ _ h => h) (Or.inl ⟨by rfl, ?_⟩) ?_ ?_
               rotate_left
               ·intro w'
                go_simp
                with_reducible rfl
               rotate_left
               ·simp only [Act.put, List.setIfInBounds_toArray, List.set_cons_zero, List.set_cons_succ, i64_w, i32_w]
                rfl
               refine pure_ (i := 11) (N := some 5) (v := ?_) (a' := ?_) #[true, true, true, true, true, true, true, true, true, true, true, true] rfl rfl (any_of HT_.out (by kernel_rfl)) (fun _ _ _ h => h) (Or.inl ⟨by rfl, ?_⟩) ?_ ?_
               rotate_left
               ·intro w'
                go_simp
                with_reducible rfl
               rotate_left
               ·simp only [Act.put, List.setIfInBounds_toArray, List.set_cons_zero, List.set_cons_succ, i64_w, i32_w]
                rfl
               refine done_ (done_of HT_.out (by kernel_rfl)) ?_
               try go_wp2
               go_ret2
               exact ⟨by first | rfl | (simp [errW_none, errW_some] <;> rfl) | (simp [*, errW_none, errW_some] <;> rfl), by repeat (first | (with_reducible first | exact HB.out | apply below_alloc | apply pw_below_drewN | apply below_drew1 | refine below_set ?_ GE238.out) | exact HB.out)⟩
              ·rw [if_neg c57] at H
               have c57b0 : (a1.toList == ([42] : List UInt8)) = false := beq_eq_false_iff_ne.mpr c57
               have c57b1 : (a1.toList != ([42] : List UInt8)) = true := bne_iff_ne.mpr c57
               simp only [Option.some.injEq, Prod.mk.injEq] at H
               obtain ⟨rfl, rfl⟩ := H
               go_wp2
               go_ret2
               exact ⟨by first | rfl | (simp [errW_none, errW_some] <;> rfl) | (simp [*, errW_none, errW_some] <;> rfl), by repeat (first | (with_reducible first | exact HB.out | apply below_alloc | apply pw_below_drewN | apply below_drew1 | refine below_set ?_ GE238.out) | exact HB.out)⟩
end Go.Proofs.YthkbcomkbioepaaDoor.F
namespace Go.Proofs.YthkbcomkbioepaaDoor.F
open Go.RowKit Go.Proofs.YthkbcomkbioepaaDoorW.PrintWords Go.Proofs.YthkbcomkbioepaaDoorW.PrintLast Go.Proofs.YthkbcomkbioepaaDoorW.PrintMore
attribute [local go_sem] max2_int min2_int max_two min_two max_three min_three max_four min_four
set_option linter.unusedVariables false
set_option linter.unusedSimpArgs false
def jobshellref17_special.l0 : Nat → ByteArray → List ByteArray → Int → Option (Bool)
 | 0, _, _, _ => none
 | k + 1, x0, x3, x4 => if x4 < (x3.length : Int) then (if 0 ≤ x4 then (if (rdOf ByteArray.empty x3 x4).toList = x0.toList then (some true) else (jobshellref17_special.l0 k x0 x3 (wrap64 (x4 + 1)))) else (none)) else (some false)
def jobshellref17_special.f (k : Nat) (a0 : ByteArray) : Option (Bool) := jobshellref17_special.l0 k a0 (([(⟨#[64]⟩ : ByteArray), (⟨#[42]⟩ : ByteArray), (⟨#[35]⟩ : ByteArray), (⟨#[63]⟩ : ByteArray), (⟨#[45]⟩ : ByteArray), (⟨#[36]⟩ : ByteArray), (⟨#[33]⟩ : ByteArray), (⟨#[48]⟩ : ByteArray)] : List ByteArray)) 0
theorem jobshellref17_special.mono_l : ∀ k, (∀ y0 y1 y2, LeO (jobshellref17_special.l0 k y0 y1 y2) (jobshellref17_special.l0 (k + 1) y0 y1 y2))
 | 0 => fun _ _ _ r h => by simp [jobshellref17_special.l0] at h
 | k + 1 => by
  have ih0 := jobshellref17_special.mono_l k
  ·intro y0 y1 y2
   unfold jobshellref17_special.l0
   repeat' first
   | (with_reducible exact ih0 _ _ _)
   | (with_reducible exact LeO.refl _)
   | (with_reducible exact LeO.none _)
   | (with_reducible refine LeO.ite ?_ ?_)
   | (with_reducible refine LeO.bind ?_ (fun _ => ?_))
   | exact ih0 _ _ _
   | exact LeO.none _
   | refine LeO.ite ?_ ?_
   | refine LeO.bind ?_ (fun _ => ?_)
theorem jobshellref17_special.mono : ∀ a0 k, LeO (jobshellref17_special.f k a0) (jobshellref17_special.f (k + 1) a0) := by
 intro a0 k
 have ih0 := jobshellref17_special.mono_l k
 unfold jobshellref17_special.f
 repeat' first
   | (with_reducible exact ih0 _ _ _)
   | (with_reducible exact LeO.refl _)
   | (with_reducible exact LeO.none _)
   | (with_reducible refine LeO.ite ?_ ?_)
   | (with_reducible refine LeO.bind ?_ (fun _ => ?_))
   | exact ih0 _ _ _
   | exact LeO.none _
   | refine LeO.ite ?_ ?_
   | refine LeO.bind ?_ (fun _ => ?_)
set_option maxHeartbeats 8000000 in
set_option maxRecDepth 100000 in
theorem jobshellref17_special.calls (k : Nat) (a0 : ByteArray) (r : Bool) (w : World) (h : jobshellref17_special.f k a0 = some r) :
  Calls Tryd.prog 35 #[.string a0] w fun e w' => e = .returned (.bool r) ∧ Below w.heap.size w w' := by
 have HB := Aside0.mk (Below.refl w.heap.size w)
 have H : (jobshellref17_special.l0 k a0 (([(⟨#[64]⟩ : ByteArray), (⟨#[42]⟩ : ByteArray), (⟨#[35]⟩ : ByteArray), (⟨#[63]⟩ : ByteArray), (⟨#[45]⟩ : ByteArray), (⟨#[36]⟩ : ByteArray), (⟨#[33]⟩ : ByteArray), (⟨#[48]⟩ : ByteArray)] : List ByteArray)) 0) = some r := h
 clear h
 obtain ⟨y257, hy257⟩ : ∃ y_ : List ByteArray, y_ = (([(⟨#[64]⟩ : ByteArray), (⟨#[42]⟩ : ByteArray), (⟨#[35]⟩ : ByteArray), (⟨#[63]⟩ : ByteArray), (⟨#[45]⟩ : ByteArray), (⟨#[36]⟩ : ByteArray), (⟨#[33]⟩ : ByteArray), (⟨#[48]⟩ : ByteArray)] : List ByteArray)) := ⟨_, rfl⟩
 replace H : (jobshellref17_special.l0 k a0 y257 0) = some r := by first | (rw [hy257]; with_reducible exact H) | (have H2_ := (Option.bind_some _ _).symm.trans H; rw [hy257]; with_reducible exact H2_) | (have H2_ := (Option.bind_some _ _).symm.trans H; with_reducible exact H2_) | with_reducible exact H | (rw [hy257]; exact H) | exact H
 have Ny257 := Aside0.mk hy257
 clear hy257
 have H' := Aside0.mk H
 clear H
 go_enter Tryd.func35, Tryd.ntmps35
 go_wp2_with (first | ((with_reducible refine gate_dst (N := 5) rfl ?_); refine Kd.R_lit Kd.string _ 9 ?hg (N := 5) ?hd (xs := ([(⟨#[64]⟩ : ByteArray), (⟨#[42]⟩ : ByteArray), (⟨#[35]⟩ : ByteArray), (⟨#[63]⟩ : ByteArray), (⟨#[45]⟩ : ByteArray), (⟨#[36]⟩ : ByteArray), (⟨#[33]⟩ : ByteArray), (⟨#[48]⟩ : ByteArray)] : List ByteArray)) (inner := [.string (⟨#[64]⟩ : ByteArray), .string (⟨#[42]⟩ : ByteArray), .string (⟨#[35]⟩ : ByteArray), .string (⟨#[63]⟩ : ByteArray), .string (⟨#[45]⟩ : ByteArray), .string (⟨#[36]⟩ : ByteArray), .string (⟨#[33]⟩ : ByteArray), .string (⟨#[48]⟩ : ByteArray)]) (ok := fun _ => True) (okp := fun _ => True) ?hr ?hp (fun _ hk => hk) trivial (Below.refl _ _) (Nat.le_refl _) (by simp) ?_; (case hd => rfl); (case hg => rfl); (case hr => first | (go_simp; done) | (go_simp; rfl)); (case hp => exact (Reps.one (show Kd.M Kd.string _ _ _ (⟨#[64]⟩ : ByteArray) [.string (⟨#[64]⟩ : ByteArray)] from rfl) (Reps.one (show Kd.M Kd.string _ _ _ (⟨#[42]⟩ : ByteArray) [.string (⟨#[42]⟩ : ByteArray)] from rfl) (Reps.one (show Kd.M Kd.string _ _ _ (⟨#[35]⟩ : ByteArray) [.string (⟨#[35]⟩ : ByteArray)] from rfl) (Reps.one (show Kd.M Kd.string _ _ _ (⟨#[63]⟩ : ByteArray) [.string (⟨#[63]⟩ : ByteArray)] from rfl) (Reps.one (show Kd.M Kd.string _ _ _ (⟨#[45]⟩ : ByteArray) [.string (⟨#[45]⟩ : ByteArray)] from rfl) (Reps.one (show Kd.M Kd.string _ _ _ (⟨#[36]⟩ : ByteArray) [.string (⟨#[36]⟩ : ByteArray)] from rfl) (Reps.one (show Kd.M Kd.string _ _ _ (⟨#[33]⟩ : ByteArray) [.string (⟨#[33]⟩ : ByteArray)] from rfl) (Reps.one (show Kd.M Kd.string _ _ _ (⟨#[48]⟩ : ByteArray) [.string (⟨#[48]⟩ : ByteArray)] from rfl) (Reps.none _ _)))))))))); intro v258 w2 ho3 hb hg_ hnew_; clear hg_ hnew_; (first | rw [← Ny257.out] at ho3 | (simp only [Int.reduceToNat] at ho3; rw [← Ny257.out] at ho3)); have n0_ := Aside0.mk (Kd.R_lower ho3 (below_size (by repeat (first | (with_reducible first | exact HB.out | apply below_alloc | apply pw_below_drewN | apply below_drew1) | exact HB.out)))); have n1_ := Aside0.mk (below_step (by repeat (first | (with_reducible first | exact HB.out | apply below_alloc | apply pw_below_drewN | apply below_drew1) | exact HB.out)) hb); clear HB; have HO259 := n0_; have HB := n1_; clear n0_ n1_; clear hb ho3))
 go_loopg [4] k (fun kq v4 w' => ∃ (x4_1 : Int), v4 = .int .i64 x4_1 ∧ Aside0 (jobshellref17_special.l0 kq a0 y257 x4_1 = some r) ∧ Aside0 (kq ≤ k) ∧ Aside0 (Kd.R Kd.string 9 w' w.heap.size (fun _ => True) v258 y257) ∧ Aside0 (Below w.heap.size w w'))
 case atStart => exact ⟨(0), (by first | rfl | (simp; done) | (simp [*]; done) | (simp [isE_ne]; done)), H', ⟨Nat.le_refl _⟩, ⟨by (with_reducible repeat (first | apply Kd.R_alloc | apply Kd.R_drewN | apply Kd.R_drew)); exact HO259.out⟩, ⟨by repeat (first | (with_reducible first | exact HB.out | apply below_alloc | apply pw_below_drewN | apply below_drew1) | exact HB.out)⟩⟩
 case round =>
  clear H'
  try clear p2
  try clear c3
  obtain ⟨x4_1, rfl, HA, HK1, HO_3, HB⟩ := hrel
  cases gk with
  | zero => exact absurd HA.out (by simp [jobshellref17_special.l0])
  | succ k1 =>
   have H := HA.out
   clear HA
   simp only [jobshellref17_special.l0] at H
   by_cases c4 : x4_1 < (y257.length : Int)
   ·rw [if_pos c4] at H
    have c4b0 : decide (x4_1 < (y257.length : Int)) = true := decide_eq_true c4
    clear c4
    by_cases c5 : 0 ≤ x4_1
    ·rw [if_pos c5] at H
     have c5b0 : decide (0 ≤ x4_1) = true := decide_eq_true c5
     clear c5
     by_cases c6 : (rdOf ByteArray.empty y257 x4_1).toList = a0.toList
     ·rw [if_pos c6] at H
      have c6b0 : ((rdOf ByteArray.empty y257 x4_1).toList == a0.toList) = true := beq_iff_eq.mpr c6
      have c6b1 : ((rdOf ByteArray.empty y257 x4_1).toList != a0.toList) = false := bne_eq_false_iff_eq.mpr c6
      clear c6
      obtain rfl := Option.some.inj H
      obtain ⟨Ao7, co7, eo7⟩ := Kd.R_slice HO_3.out
      subst eo7
      have p260 : 0 ≤ (x4_1 : Int) := of_decide_eq_true (by first | (with_reducible assumption) | assumption)
      have q260 : x4_1 < (y257.length : Int) := of_decide_eq_true (by first | (with_reducible assumption) | assumption)
      obtain ⟨ad260, e260, hx260_0⟩ := Kd.at_string (Kd.R_reads' HO_3.out).2.2 x4_1 p260 q260
      cases e260
      replace p260 := eq_true p260
      replace q260 := eq_true q260
      go_wp2
      go_ret
      exact ⟨by first | rfl | (simp [errW_none, errW_some] <;> rfl) | (simp [*, errW_none, errW_some] <;> rfl), by repeat (first | (with_reducible first | exact HB.out | apply below_alloc | apply pw_below_drewN | apply below_drew1) | exact HB.out)⟩
     ·rw [if_neg c6] at H
      have c6b0 : ((rdOf ByteArray.empty y257 x4_1).toList == a0.toList) = false := beq_eq_false_iff_ne.mpr c6
      have c6b1 : ((rdOf ByteArray.empty y257 x4_1).toList != a0.toList) = true := bne_iff_ne.mpr c6
      have H' := Aside0.mk H
      clear H
      obtain ⟨Ao8, co8, eo8⟩ := Kd.R_slice HO_3.out
      subst eo8
      have p260 : 0 ≤ (x4_1 : Int) := of_decide_eq_true (by first | (with_reducible assumption) | assumption)
      have q260 : x4_1 < (y257.length : Int) := of_decide_eq_true (by first | (with_reducible assumption) | assumption)
      obtain ⟨ad260, e260, hx260_0⟩ := Kd.at_string (Kd.R_reads' HO_3.out).2.2 x4_1 p260 q260
      cases e260
      replace p260 := eq_true p260
      replace q260 := eq_true q260
      go_wp2
      go_roundg k1
      case measure => have := HK1.out; omega
      case rel => exact ⟨(wrap64 (x4_1 + 1)), (by first | rfl | (simp; done) | (simp [*]; done) | (simp [isE_ne]; done)), H', ⟨by have := HK1.out; omega⟩, ⟨by (with_reducible repeat (first | apply Kd.R_alloc | apply Kd.R_drewN | apply Kd.R_drew)); exact HO_3.out⟩, ⟨by repeat (first | (with_reducible first | exact HB.out | apply below_alloc | apply pw_below_drewN | apply below_drew1) | exact HB.out)⟩⟩
    ·rw [if_neg c5] at H
     exact absurd H (by simp)
   ·rw [if_neg c4] at H
    have c4b0 : decide (x4_1 < (y257.length : Int)) = false := decide_eq_false c4
    clear c4
    obtain rfl := Option.some.inj H
    obtain ⟨Ao9, co9, eo9⟩ := Kd.R_slice HO_3.out
    subst eo9
    go_wp2
    go_ret
    exact ⟨by first | rfl | (simp [errW_none, errW_some] <;> rfl) | (simp [*, errW_none, errW_some] <;> rfl), by repeat (first | (with_reducible first | exact HB.out | apply below_alloc | apply pw_below_drewN | apply below_drew1) | exact HB.out)⟩
end Go.Proofs.YthkbcomkbioepaaDoor.F
namespace Go.Proofs.YthkbcomkbioepaaDoor.F
open Go.RowKit Go.Proofs.YthkbcomkbioepaaDoorW.PrintWords Go.Proofs.YthkbcomkbioepaaDoorW.PrintLast Go.Proofs.YthkbcomkbioepaaDoorW.PrintMore
attribute [local go_sem] max2_int min2_int max_two min_two max_three min_three max_four min_four
set_option linter.unusedVariables false
set_option linter.unusedSimpArgs false
def jobshellref17_Valid.f (k : Nat) (a0 : ByteArray) : Option (Bool) := (jobshellref01_Name.f k a0).bind fun t261 => (if t261 = true then (some true) else ((jobshellref17_positional.f k a0).bind fun t262 => (if t262 > 0 then (some true) else ((jobshellref17_special.f k a0).bind fun t263 => (some t263)))))
theorem jobshellref17_Valid.mono : ∀ a0 k, LeO (jobshellref17_Valid.f k a0) (jobshellref17_Valid.f (k + 1) a0) := by
 intro a0 k
 unfold jobshellref17_Valid.f
 repeat' first
   | (with_reducible exact jobshellref01_Name.mono _ _)
   | (with_reducible exact jobshellref17_positional.mono _ _)
   | (with_reducible exact jobshellref17_special.mono _ _)
   | (with_reducible exact LeO.refl _)
   | (with_reducible exact LeO.none _)
   | (with_reducible refine LeO.ite ?_ ?_)
   | (with_reducible refine LeO.bind ?_ (fun _ => ?_))
   | exact jobshellref01_Name.mono _ _
   | exact jobshellref17_positional.mono _ _
   | exact jobshellref17_special.mono _ _
   | exact LeO.none _
   | refine LeO.ite ?_ ?_
   | refine LeO.bind ?_ (fun _ => ?_)
set_option maxHeartbeats 8000000 in
set_option maxRecDepth 100000 in
theorem jobshellref17_Valid.calls (k : Nat) (a0 : ByteArray) (r : Bool) (w : World) (h : jobshellref17_Valid.f k a0 = some r) :
  Calls Tryd.prog 14 #[.string a0] w fun e w' => e = .returned (.bool r) ∧ Below w.heap.size w w' := by
 have HB := Aside0.mk (Below.refl w.heap.size w)
 have H : ((jobshellref01_Name.f k a0).bind fun t261 => (if t261 = true then (some true) else ((jobshellref17_positional.f k a0).bind fun t262 => (if t262 > 0 then (some true) else ((jobshellref17_special.f k a0).bind fun t263 => (some t263)))))) = some r := h
 clear h
 replace H := Option.bind_eq_some_iff.mp H
 obtain ⟨t261, A20, H⟩ := H
 replace H : (if t261 = true then (some true) else ((jobshellref17_positional.f k a0).bind fun t262 => (if t262 > 0 then (some true) else ((jobshellref17_special.f k a0).bind fun t263 => (some t263))))) = some r := H
 have A2 := Aside0.mk A20
 clear A20
 by_cases c3 : t261 = true
 ·subst c3
  have H1 : (some true) = some r := by rw [if_pos rfl] at H; exact H
  clear H
  have H := H1
  clear H1
  obtain rfl := Option.some.inj H
  go_enter Tryd.func14, Tryd.ntmps14
  go_wp2_with (first | ((with_reducible refine gate_callee (f := 29) rfl ?_); refine goesL_ (some 4) rfl rfl Tryd.func29 (by kernel_rfl) rfl #[.string a0] rfl (by (try simp only [List.map_toArray, List.map_cons, List.map_nil]); first | done | rfl | (simp only [List.length_drop, List.length_take]; rfl)) ?_; (with_reducible refine (jobshellref01_Name.calls k a0 true _ A2.out).mono ?_); rintro e w' ⟨rfl, ⟨nd, rfl⟩⟩; refine ⟨_, rfl, ?_⟩))
  go_ret
  exact ⟨by first | rfl | (simp [errW_none, errW_some] <;> rfl) | (simp [*, errW_none, errW_some] <;> rfl), by repeat (first | (with_reducible first | exact HB.out | apply below_alloc | apply pw_below_drewN | apply below_drew1) | exact HB.out)⟩
 ·replace c3 := Bool.eq_false_iff.mpr c3
  subst c3
  have H1 : ((jobshellref17_positional.f k a0).bind fun t262 => (if t262 > 0 then (some true) else ((jobshellref17_special.f k a0).bind fun t263 => (some t263)))) = some r := by rw [if_neg (show ¬ (false = true) by decide)] at H; exact H
  clear H
  have H := H1
  clear H1
  replace H := Option.bind_eq_some_iff.mp H
  obtain ⟨t262, A40, H⟩ := H
  replace H : (if t262 > 0 then (some true) else ((jobshellref17_special.f k a0).bind fun t263 => (some t263))) = some r := H
  have A4 := Aside0.mk A40
  clear A40
  by_cases c5 : t262 > 0
  ·rw [if_pos c5] at H
   have c5b0 : decide (0 < t262) = true := decide_eq_true c5
   clear c5
   obtain rfl := Option.some.inj H
   go_enter Tryd.func14, Tryd.ntmps14
   go_wp2_with (first | ((with_reducible refine gate_callee (f := 29) rfl ?_); refine goesL_ (some 4) rfl rfl Tryd.func29 (by kernel_rfl) rfl #[.string a0] rfl (by (try simp only [List.map_toArray, List.map_cons, List.map_nil]); first | done | rfl | (simp only [List.length_drop, List.length_take]; rfl)) ?_; (with_reducible refine (jobshellref01_Name.calls k a0 false _ A2.out).mono ?_); rintro e w' ⟨rfl, ⟨nd, rfl⟩⟩; refine ⟨_, rfl, ?_⟩) | (go_at_call 28; (with_reducible refine (jobshellref17_positional.calls k a0 t262 _ A4.out).mono ?_); rintro e w' ⟨rfl, ⟨nd, rfl⟩⟩))
   go_ret
   exact ⟨by first | rfl | (simp [errW_none, errW_some] <;> rfl) | (simp [*, errW_none, errW_some] <;> rfl), by repeat (first | (with_reducible first | exact HB.out | apply below_alloc | apply pw_below_drewN | apply below_drew1) | exact HB.out)⟩
  ·rw [if_neg c5] at H
   have c5b0 : decide (0 < t262) = false := decide_eq_false c5
   clear c5
   replace H := Option.bind_eq_some_iff.mp H
   obtain ⟨t263, A60, H⟩ := H
   replace H : (some t263) = some r := H
   have A6 := Aside0.mk A60
   clear A60
   obtain rfl := Option.some.inj H
   go_enter Tryd.func14, Tryd.ntmps14
   go_wp2_with (first | ((with_reducible refine gate_callee (f := 29) rfl ?_); refine goesL_ (some 4) rfl rfl Tryd.func29 (by kernel_rfl) rfl #[.string a0] rfl (by (try simp only [List.map_toArray, List.map_cons, List.map_nil]); first | done | rfl | (simp only [List.length_drop, List.length_take]; rfl)) ?_; (with_reducible refine (jobshellref01_Name.calls k a0 false _ A2.out).mono ?_); rintro e w' ⟨rfl, ⟨nd, rfl⟩⟩; refine ⟨_, rfl, ?_⟩) | (go_at_call 28; (with_reducible refine (jobshellref17_positional.calls k a0 t262 _ A4.out).mono ?_); rintro e w' ⟨rfl, ⟨nd, rfl⟩⟩) | (go_at_call 35; (with_reducible refine (jobshellref17_special.calls k a0 t263 _ A6.out).mono ?_); rintro e w7 ⟨rfl, hb⟩; have n0_ := Aside0.mk (below_step (by repeat (first | (with_reducible first | exact HB.out | apply below_alloc | apply pw_below_drewN | apply below_drew1) | exact HB.out)) hb); clear HB; have HB := n0_; clear n0_; (try clear hb); (try clear hb2); (try clear hk); (try clear hi)))
   go_ret
   exact ⟨by first | rfl | (simp [errW_none, errW_some] <;> rfl) | (simp [*, errW_none, errW_some] <;> rfl), by repeat (first | (with_reducible first | exact HB.out | apply below_alloc | apply pw_below_drewN | apply below_drew1) | exact HB.out)⟩
end Go.Proofs.YthkbcomkbioepaaDoor.F
set_option linter.unusedVariables false
set_option linter.unusedSimpArgs false
namespace Go.Proofs.YthkbcomkbioepaaDoor.Pure
open Go.RowKit Go.Proofs.YthkbcomkbioepaaDoor.F Go.Proofs.YthkbcomkbioepaaDoorW.PrintWords
abbrev Got := ByteArray × ByteArray × Bool × Bool × Bool × Bool
def getGo (nm : ByteArray) : List S_Var → Got
  | [] => (⟨#[]⟩, ⟨#[]⟩, false, false, false, false)
  | v :: r => if v.f0.toList = nm.toList then (v.f0, v.f1, v.f2, v.f3, v.f4, true) else getGo nm r
theorem ref_get_go (nm : ByteArray) (xs : List S_Var) (hl : xs.length < 1000) : ∀ (k i : Nat), i ≤ xs.length → xs.length - i < k → jobshellref15_Get.l0 k xs nm i = some (getGo nm (xs.drop i)) := by
  intro k
  induction k with
  | zero => intro i _ h; omega
  | succ k ih =>
    intro i hi hk
    rw [jobshellref15_Get.l0]
    by_cases h : i < xs.length
    · rw [if_pos (by omega), if_pos (by omega), wrap_succ (by omega), ih (i + 1) (by omega) (by omega), (show xs.drop i = rd_Var xs i :: xs.drop (i + 1) from getD_drop z_Var xs i h)]
      simp only [getGo]
      by_cases hc : (rd_Var xs (i : Int)).f0.toList = nm.toList
      · rw [if_pos hc, if_pos hc]
      · rw [if_neg hc, if_neg hc]
    · rw [if_neg (by omega), List.drop_eq_nil_of_le (by omega)]; rfl
theorem vars_get_go (nm : ByteArray) (xs : List S_Var) (hl : xs.length < 1000) : ∀ (k i : Nat), i ≤ xs.length → xs.length - i < k → vars_Get.l0 k nm xs (xs.length : Int) i = some (getGo nm (xs.drop i)) := by
  intro k
  induction k with
  | zero => intro i _ h; omega
  | succ k ih =>
    intro i hi hk
    rw [vars_Get.l0]
    by_cases h : i < xs.length
    · rw [if_pos (by omega), if_pos (by omega), if_pos (by omega), wrap_succ (by omega), ih (i + 1) (by omega) (by omega), (show xs.drop i = rd_Var xs i :: xs.drop (i + 1) from getD_drop z_Var xs i h)]
      simp only [getGo]
      by_cases hc : (rd_Var xs (i : Int)).f0.toList = nm.toList
      · rw [if_pos hc, if_pos hc]
      · rw [if_neg hc, if_neg hc]
    · rw [if_neg (by omega), List.drop_eq_nil_of_le (by omega)]; rfl
theorem ref_get (nm : ByteArray) (xs : List S_Var) (hl : xs.length < 1000) {k : Nat} (hk : 1000 ≤ k) : jobshellref15_Get.f k xs nm = some (getGo nm xs) :=
  ref_get_go nm xs hl k 0 (by omega) (by omega)
theorem vars_get (nm : ByteArray) (xs : List S_Var) (hl : xs.length < 1000) {k : Nat} (hk : 1000 ≤ k) : vars_Get.f k xs nm = some (getGo nm xs) :=
  vars_get_go nm xs hl k 0 (by omega) (by omega)
theorem digit_eq (x : Int) : jobshellref01_Digit.f x = some (isDig x) := by
  unfold jobshellref01_Digit.f isDig
  by_cases h : x ≥ 48
  · rw [if_pos h, decide_eq_true (show 48 ≤ x from h), Bool.true_and]
  · rw [if_neg h, decide_eq_false (show ¬ 48 ≤ x from h), Bool.false_and]
theorem letter_eq (x : Int) : jobshellref01_Letter.f x = some (isLet x) := by
  unfold jobshellref01_Letter.f isLet
  by_cases h1 : x ≥ 97 <;> by_cases h2 : x ≤ 122 <;> by_cases h3 : x ≥ 65 <;> by_cases h4 : x ≤ 90 <;> simp [h1, h2, h3, h4] <;> omega
theorem word_eq (x : Int) : jobshellref01_Word.f x = some (nameCh false x) := by
  unfold jobshellref01_Word.f nameCh
  rw [letter_eq, digit_eq]
  cases isLet x <;> cases isDig x <;> cases h : x == 95 <;> simp [h]
theorem name_go (s : ByteArray) (hl : s.size < 1000) : ∀ (k i : Nat), i ≤ s.size → s.size - i < k → jobshellref01_Name.l0 k s i = some (nameGo (s.data.toList.drop i) false) := by
  intro k
  induction k with
  | zero => intro i _ h; omega
  | succ k ih =>
    intro i hi hk
    rw [jobshellref01_Name.l0]
    by_cases h : i < s.size
    · obtain ⟨c, hc, hb⟩ := bt_drop s i h
      rw [if_pos (by omega), if_pos (by omega), wrap_succ (by omega), ih (i + 1) (by omega) (by omega), hc, hb, word_eq]
      simp only [Option.bind_some, nameGo]
      split <;> rfl
    · rw [if_neg (by omega), List.drop_eq_nil_of_le (by simp; omega)]; rfl
theorem name_eq (s : ByteArray) {k : Nat} (hk : 1000 ≤ k) : jobshellref01_Name.f k s = chars_Name.f s := by
  unfold jobshellref01_Name.f chars_Name.f
  obtain ⟨m, rfl⟩ := succ_of (show 0 < k by omega)
  by_cases h0 : s.size = 0
  · rw [if_pos ((nil_iff s).2 h0), if_pos h0]; rfl
  · rw [if_neg (fun h => h0 ((nil_iff s).1 h)), if_neg h0]
    by_cases h1 : 32 < s.size
    · rw [if_pos (by omega), if_pos h1]; rfl
    · rw [if_neg (by omega), if_neg h1, if_pos (by omega), digit_eq, Option.bind_some]
      obtain ⟨c, hc, hb⟩ := bt_drop s 0 (by omega)
      have hb' : bt s 0 = (c.toNat : Int) := hb
      rw [List.drop_zero] at hc
      obtain ⟨r, hr⟩ : ∃ r, s.data.toList = c :: r := ⟨_, hc⟩
      clear hc
      rw [jobshellref01_Name.j0, hb', hr]
      by_cases hd : isDig (c.toNat : Int) = true
      · rw [if_pos hd]
        have hl : isLet (c.toNat : Int) = false := by unfold isDig at hd; unfold isLet; simp at hd ⊢; omega
        have h95 : ((c.toNat : Int) == 95) = false := by unfold isDig at hd; simp at hd ⊢; omega
        simp only [nameGo, nameCh, hl, h95, Bool.not_true, Bool.false_and, Bool.or_false, Bool.false_eq_true, if_false]
      · rw [if_neg hd, show (0 : Int) = ((0 : Nat) : Int) from rfl, name_go s (by omega) m 0 (by omega) (by omega), List.drop_zero, hr]
        have hd' : isDig (c.toNat : Int) = false := by simpa using hd
        simp only [nameGo, nameCh, hd', Bool.and_false, Bool.or_false]
theorem dig_none : ∀ (l : List UInt8) (n : Int), digGo l n = none ∨ ∃ m, digGo l n = some m := by
  intro l n; cases digGo l n with
  | none => exact .inl rfl
  | some m => exact .inr ⟨m, rfl⟩
theorem dig_go (s : ByteArray) (hl : s.size ≤ 10) : ∀ (k i : Nat) (n : Int), i ≤ s.size → s.size - i < k → 0 ≤ n → n < 10 ^ i → jobshellref01_Digits.l0 k s n i = some (match digGo (s.data.toList.drop i) n with | none => (0, false) | some n => if n > 2147483647 then (0, false) else (n, true)) := by
  intro k
  induction k with
  | zero => intro i n _ h; omega
  | succ k ih =>
    intro i n hi hk hn0 hn1
    rw [jobshellref01_Digits.l0]
    by_cases h : i < s.size
    · obtain ⟨c, hc, hb⟩ := bt_drop s i h
      have hp : n < 10000000000 := by
        have : (10 : Int) ^ i ≤ 10 ^ 10 := by
          have := Nat.pow_le_pow_right (show 0 < 10 by omega) (show i ≤ 10 by omega)
          exact_mod_cast this
        omega
      have hc255 : c.toNat < 256 := c.toNat_lt
      rw [if_pos (by omega), if_pos (by omega), wrap_succ (by omega), hc, hb, digit_eq, Option.bind_some]
      by_cases hd : isDig (c.toNat : Int) = true
      · have hd2 : 48 ≤ (c.toNat : Int) ∧ (c.toNat : Int) ≤ 57 := by unfold isDig at hd; simpa using hd
        rw [if_pos hd, wrap_id (i := 10 * n) (by omega) (by omega), Int.emod_eq_of_lt (by omega) (by omega), wrap_id (by omega) (by omega)]
        rw [ih (i + 1) _ (by omega) (by omega) (by omega) (by rw [Int.pow_succ]; omega)]
        simp only [digGo, if_pos hd2]
      · rw [if_neg hd]
        have hd2 : ¬ (48 ≤ (c.toNat : Int) ∧ (c.toNat : Int) ≤ 57) := by unfold isDig at hd; simpa using hd
        simp only [digGo, if_neg hd2]
    · rw [if_neg (by omega), List.drop_eq_nil_of_le (by simp; omega)]
      simp only [digGo]
      split <;> rfl
theorem digits_eq (s : ByteArray) {k : Nat} (hk : 1000 ≤ k) : jobshellref01_Digits.f k s = chars_Digits.f s := by
  unfold jobshellref01_Digits.f chars_Digits.f
  obtain ⟨m, rfl⟩ := succ_of (show 0 < k by omega)
  by_cases h0 : s.size = 0
  · rw [if_pos ((nil_iff s).2 h0), if_pos h0]; rfl
  · rw [if_neg (fun h => h0 ((nil_iff s).1 h)), if_neg h0]
    by_cases h1 : 10 < s.size
    · rw [if_pos (by omega), if_pos h1]; rfl
    · have hgo := dig_go s (by omega) m 0 0 (by omega) (by omega) (by omega) (by simp)
      rw [List.drop_zero] at hgo
      rw [if_neg (by omega), if_neg h1, if_pos (by omega)]
      by_cases h2 : bt s 0 = 48
      · by_cases h3 : 1 < s.size
        · rw [if_pos h2, if_pos ⟨h3, h2⟩, decide_eq_true (by omega)]; rfl
        · rw [if_pos h2, if_neg (fun h => h3 h.1), decide_eq_false (by omega), jobshellref01_Digits.j0, if_neg (by simp)]
          exact hgo
      · rw [if_neg h2, if_neg (fun h => h2 h.2), jobshellref01_Digits.j0, if_neg (by simp)]
        exact hgo
def posOf (s : ByteArray) : Int := match chars_Digits.f s with | some (n, true) => n | _ => 0
theorem digits_some (s : ByteArray) : ∃ p, chars_Digits.f s = some p ∧ (p.2 = true → 0 ≤ p.1 ∧ p.1 ≤ 2147483647 ∧ 0 < s.size ∧ (bt s 0 = 48 → p.1 = 0)) := by
  unfold chars_Digits.f
  split
  · exact ⟨_, rfl, fun h => by cases h⟩
  split
  · exact ⟨_, rfl, fun h => by cases h⟩
  split
  · exact ⟨_, rfl, fun h => by cases h⟩
  rename_i h0 h1 h2
  cases hg : digGo s.data.toList 0 with
  | none => exact ⟨_, rfl, fun h => by cases h⟩
  | some n =>
    simp only
    split
    · exact ⟨_, rfl, fun h => by cases h⟩
    · refine ⟨_, rfl, fun _ => ⟨?_, by omega, by omega, fun hz => ?_⟩⟩
      · have : ∀ (l : List UInt8) (a b : Int), 0 ≤ a → digGo l a = some b → 0 ≤ b := by
          intro l
          induction l with
          | nil => intro a b h e; obtain rfl := Option.some.inj e; exact h
          | cons c r ih =>
            intro a b h e
            simp only [digGo] at e
            split at e
            · exact ih _ _ (by omega) e
            · cases e
        exact this _ _ _ (by omega) hg
      · have h3 : s.size = 1 := by omega
        obtain ⟨c, hc, hb⟩ := bt_drop s 0 (by omega)
        rw [List.drop_zero, List.drop_eq_nil_of_le (i := 0 + 1) (by simp; omega)] at hc
        have hb' : bt s 0 = (c.toNat : Int) := hb
        rw [hc] at hg
        simp only [digGo] at hg
        split at hg
        · have := Option.some.inj hg; omega
        · cases hg
theorem positional_eq (s : ByteArray) {k : Nat} (hk : 1000 ≤ k) : jobshellref17_positional.f k s = some (posOf s) := by
  unfold jobshellref17_positional.f posOf
  rw [digits_eq s hk]
  obtain ⟨⟨n, b⟩, hp, hh⟩ := digits_some s
  rw [hp, Option.bind_some]
  cases b with
  | false => rfl
  | true =>
    obtain ⟨h0, h1, h2, h3⟩ := hh rfl
    simp only [if_true]
    simp only at h0 h1 h3
    by_cases h4 : n < 1
    · rw [if_pos h4]; congr 1; omega
    · rw [if_neg h4, if_neg (by omega), if_pos (by omega), if_neg (fun h => by have := h3 h; omega)]
theorem position_eq (s : ByteArray) : ∃ n b, param_position.f s = some (n, b) ∧ (b = true → n = posOf s ∧ 0 < n ∧ n ≤ 2147483647) ∧ (b = false → posOf s = 0) := by
  unfold param_position.f posOf
  obtain ⟨⟨n, b⟩, hp, hh⟩ := digits_some s
  rw [hp, Option.bind_some]
  cases b with
  | false => exact ⟨_, _, rfl, (fun h => by cases h), fun _ => rfl⟩
  | true =>
    obtain ⟨h0, h1, h2, h3⟩ := hh rfl
    simp only at h0 h1
    refine ⟨n, decide (n > 0), rfl, fun h => ⟨rfl, of_decide_eq_true h, h1⟩, fun h => ?_⟩
    have := of_decide_eq_false h
    show n = 0
    omega
theorem pos_range (s : ByteArray) : 0 ≤ posOf s ∧ posOf s ≤ 2147483647 := by
  obtain ⟨n, b, _, h1, h2⟩ := position_eq s
  cases b with
  | false => rw [h2 rfl]; omega
  | true => obtain ⟨e, h3, h4⟩ := h1 rfl; omega
end Go.Proofs.YthkbcomkbioepaaDoor.Pure
set_option linter.unusedVariables false
set_option linter.unusedSimpArgs false
namespace Go.Proofs.YthkbcomkbioepaaDoor.Pure
open Go.RowKit Go.Proofs.YthkbcomkbioepaaDoor.F Go.Proofs.YthkbcomkbioepaaDoorW.PrintWords
theorem one_num (d : Nat) (h : d < 10) : strOfNums [(IntKind.u64.wrap (48 + (d : Int))) % 256] = ba [UInt8.ofNat (48 + d)] := by
  rw [IntWalk.u64_in _ ⟨by omega, by omega⟩, Int.emod_eq_of_lt (by omega) (by omega)]
  unfold strOfNums ba
  simp only [List.map_cons, List.map_nil]
  rw [show (48 + (d : Int)).toNat = 48 + d by omega]
theorem digits_go : ∀ (n : Nat) (f k : Nat) (acc : List UInt8), n < 10 ^ f → f < 21 → acc.length + f ≤ 100 → n ≤ 18446744073709551615 → f + 1 ≤ k → jobshellref05_digits.l0 k (n : Int) (ba acc) = some (ba (Lib.decDigits n ++ acc)) := by
  intro n
  induction n using Nat.strongRecOn with
  | _ n ih =>
    intro f k acc hf hf2 ha hn hk
    obtain ⟨m, rfl⟩ : ∃ m, k = m + 1 := ⟨k - 1, by omega⟩
    rw [jobshellref05_digits.l0]
    by_cases h : n < 10
    · rw [if_neg (by omega), Option.bind_some, one_num n h, ba_append, ba_size, ba_size, if_pos (by simp; omega), Lib.decDigits_one h]
    · obtain ⟨g, rfl⟩ : ∃ g, f = g + 1 := by
        cases f with
        | zero => simp at hf; omega
        | succ g => exact ⟨g, rfl⟩
      have hg : n / 10 < 10 ^ g := by rw [Nat.pow_succ] at hf; omega
      rw [if_pos (by omega), Option.bind_some, Int.tmod_eq_emod_of_nonneg (by omega), Int.tdiv_eq_ediv_of_nonneg (by omega)]
      rw [show ((n : Int) % 10) = ((n % 10 : Nat) : Int) by omega, show ((n : Int) / 10) = ((n / 10 : Nat) : Int) by omega]
      rw [one_num (n % 10) (by omega), ba_append, ba_size, ba_size, if_pos (by simp; omega), IntWalk.u64_in _ ⟨by omega, by omega⟩]
      rw [ih (n / 10) (by omega) g m _ hg (by omega) (by simp; omega) (by omega) (by omega)]
      have e : Lib.decDigits n = Lib.decDigits (n / 10) ++ [UInt8.ofNat (48 + n % 10)] := by rw [Lib.decDigits, dif_neg h]
      rw [e, List.append_assoc]
theorem digits05 (n : Nat) (hn : n ≤ 18446744073709551615) {k : Nat} (hk : 100 ≤ k) : jobshellref05_digits.f k (n : Int) = some (ba (Lib.decDigits n)) := by
  have := digits_go n 20 k [] (by omega) (by omega) (by simp) hn (by omega)
  rw [List.append_nil] at this
  exact this
theorem decimal_eq (n : Int) (h0 : -9223372036854775808 ≤ n) (h1 : n ≤ 9223372036854775807) {k : Nat} (hk : 100 ≤ k) : jobshellref05_Decimal.f k n = some (ba (Lib.itoa n)) := by
  unfold jobshellref05_Decimal.f
  by_cases h : n < 0
  · rw [if_pos h]
    have e1 : wrap64 (-(wrap64 (n + 1))) = -(n + 1) := by rw [wrap_id (i := n + 1) (by omega) (by omega), wrap_id (by omega) (by omega)]
    have e2 : IntKind.u64.wrap (IntKind.u64.wrap (-(n + 1)) + 1) = (n.natAbs : Int) := by
      rw [IntWalk.u64_in (-(n + 1)) ⟨by omega, by omega⟩, IntWalk.u64_in _ ⟨by omega, by omega⟩]; omega
    have hl := Lib.decDigits_length n.natAbs
    have hl2 : Lib.nDigits n.natAbs ≤ 100 := by
      have := Lib.nDigits_unique
      have h3 : ∀ (f u : Nat), u < 10 ^ f → 1 ≤ f → Lib.nDigits u ≤ f := by
        intro f
        induction f with
        | zero => intro u _ h; omega
        | succ f ihf =>
          intro u hu _
          by_cases h10 : u < 10
          · rw [Lib.nDigits_small h10]; omega
          · rw [Lib.nDigits_big h10]
            have hf0 : 1 ≤ f := by
              cases f with
              | zero => simp at hu; omega
              | succ f => omega
            have := ihf (u / 10) (by rw [Nat.pow_succ] at hu; omega) hf0
            omega
      have := h3 20 n.natAbs (by omega) (by omega)
      omega
    rw [e1, e2, digits05 n.natAbs (by omega) hk, Option.bind_some, ba_size, if_pos (by omega)]
    have e3 : Lib.itoa n = 45 :: Lib.decDigits n.natAbs := by unfold Lib.itoa; rw [if_pos h]
    rw [e3]
    exact congrArg some (ba_append [45] (Lib.decDigits n.natAbs))
  · rw [if_neg h]
    obtain ⟨m, rfl⟩ : ∃ m : Nat, n = m := ⟨n.toNat, by omega⟩
    rw [IntWalk.u64_in _ ⟨by omega, by omega⟩, digits05 m (by omega) hk, Option.bind_some, Lib.itoa_nonneg]
theorem itoa_eq (n : Int) (h0 : -9223372036854775808 ≤ n) (h1 : n ≤ 9223372036854775807) : strconv_Itoa.f n = some (ba (Lib.itoa n)) := by
  unfold strconv_Itoa.f; rw [if_pos ⟨h0, h1⟩]; rfl
theorem flags_eq (o : Int) {k : Nat} (hk : 20 ≤ k) : jobshellref17_Flags.f k o = param_flags.f o := by
  obtain ⟨m, rfl⟩ : ∃ m, k = m + 9 := ⟨k - 9, by omega⟩
  unfold jobshellref17_Flags.f param_flags.f
  have step : ∀ (i : Nat) (b : Int) (c : UInt8) (q : Nat) (acc : List UInt8), i < 8 → acc.length ≤ 100 → rd [32, 128, 1, 8, 64, 16, 2, 4] (i : Int) = b → (⟨#[97, 67, 101, 102, 109, 110, 117, 120]⟩ : ByteArray).extract i (i + 1) = ba [c] →
      jobshellref17_Flags.l0 (q + 1) o (⟨#[97, 67, 101, 102, 109, 110, 117, 120]⟩ : ByteArray) [32, 128, 1, 8, 64, 16, 2, 4] (ba acc) (i : Int) =
      jobshellref17_Flags.l0 q o (⟨#[97, 67, 101, 102, 109, 110, 117, 120]⟩ : ByteArray) [32, 128, 1, 8, 64, 16, 2, 4] (ba (acc ++ if Go.bits .and .i64 o b = 0 then [] else [c])) ((i + 1 : Nat) : Int) := by
    intro i b c q acc hi ha hb hc
    have hsz : ((⟨#[97, 67, 101, 102, 109, 110, 117, 120]⟩ : ByteArray).size : Int) = 8 := rfl
    rw [jobshellref17_Flags.l0, if_pos (by simp; omega), if_pos (by omega), hb, wrap_succ (by omega)]
    by_cases h : Go.bits .and .i64 o b = 0
    · rw [if_pos h, if_pos h, List.append_nil]
    · rw [if_neg h, if_neg h, if_pos (by omega), if_pos (by omega), Int.toNat_natCast, Int.toNat_natCast, hc, ba_size, ba_size, if_pos (by simp; omega), ba_append]
  have e0 : (⟨#[]⟩ : ByteArray) = ba [] := rfl
  have len1 : ∀ (c : UInt8) (b : Int), (if Go.bits .and .i64 o b = 0 then [] else [c]).length ≤ 1 := by intro c b; split <;> simp
  rw [e0, show (0 : Int) = ((0 : Nat) : Int) from rfl]
  rw [step 0 32 97 _ _ (by omega) (by simp) rfl (by decide +kernel)]
  rw [step 1 128 67 _ _ (by omega) (by have := len1 97 32; simp only [List.length_append, List.length_nil]; omega) rfl (by decide +kernel)]
  rw [step 2 1 101 _ _ (by omega) (by have := len1 97 32; have := len1 67 128; simp only [List.length_append, List.length_nil]; omega) rfl (by decide +kernel)]
  rw [step 3 8 102 _ _ (by omega) (by have := len1 97 32; have := len1 67 128; have := len1 101 1; simp only [List.length_append, List.length_nil]; omega) rfl (by decide +kernel)]
  rw [step 4 64 109 _ _ (by omega) (by have := len1 97 32; have := len1 67 128; have := len1 101 1; have := len1 102 8; simp only [List.length_append, List.length_nil]; omega) rfl (by decide +kernel)]
  rw [step 5 16 110 _ _ (by omega) (by have := len1 97 32; have := len1 67 128; have := len1 101 1; have := len1 102 8; have := len1 109 64; simp only [List.length_append, List.length_nil]; omega) rfl (by decide +kernel)]
  rw [step 6 2 117 _ _ (by omega) (by have := len1 97 32; have := len1 67 128; have := len1 101 1; have := len1 102 8; have := len1 109 64; have := len1 110 16; simp only [List.length_append, List.length_nil]; omega) rfl (by decide +kernel)]
  rw [step 7 4 120 _ _ (by omega) (by have := len1 97 32; have := len1 67 128; have := len1 101 1; have := len1 102 8; have := len1 109 64; have := len1 110 16; have := len1 117 2; simp only [List.length_append, List.length_nil]; omega) rfl (by decide +kernel)]
  rw [jobshellref17_Flags.l0, if_neg (by simp)]
  have fl : ∀ (x : Int × UInt8) (r : List (Int × UInt8)), flagsOf o (x :: r) = (if Go.bits .and .i64 o x.1 = 0 then [] else [x.2]) ++ flagsOf o r := by
    intro x r; simp only [flagsOf]; split <;> rfl
  show some (ba _) = some (ba (flagsOf o flagTab))
  unfold flagTab
  rw [fl, fl, fl, fl, fl, fl, fl, fl]
  simp only [List.nil_append, List.append_assoc, flagsOf, List.append_nil]
theorem ba_add (a : List UInt8) (s : ByteArray) : ba a ++ s = ba (a ++ s.data.toList) := by
  rw [← ba_append, ba_of]
theorem join_go (sep : ByteArray) (xs : List ByteArray) (hl : xs.length ≤ 12) (hx : ∀ x ∈ xs, x.size ≤ 60) (hsep : sep.size ≤ 1) :
    ∀ (d i k : Nat) (acc : List UInt8), i + d = xs.length → 0 < i → acc.length ≤ i * 61 → d < k → jobshellref17_Join.l0 k xs sep (ba acc) i = some (ba (acc ++ joinTail sep (xs.drop i))) := by
  intro d
  induction d with
  | zero =>
    intro i k acc hi h0 ha hk
    obtain ⟨m, rfl⟩ : ∃ m, k = m + 1 := ⟨k - 1, by omega⟩
    rw [jobshellref17_Join.l0, if_neg (by omega), List.drop_eq_nil_of_le (by omega)]
    simp [joinTail]
  | succ d ih =>
    intro i k acc hi h0 ha hk
    obtain ⟨m, rfl⟩ : ∃ m, k = m + 1 := ⟨k - 1, by omega⟩
    have hd : xs.drop i = rdOf ByteArray.empty xs (i : Int) :: xs.drop (i + 1) := getD_drop _ xs i (by omega)
    have hm := hx _ (List.mem_of_mem_drop (hd ▸ List.mem_cons_self) : rdOf ByteArray.empty xs (i : Int) ∈ xs)
    have hsd := size_data sep
    have hxd := size_data (rdOf ByteArray.empty xs (i : Int))
    rw [jobshellref17_Join.l0, if_pos (by omega), if_pos (by omega), ba_size, if_pos (by omega), if_pos (by omega), ba_add, ba_size, List.length_append, if_pos (by omega), ba_add, wrap_succ (by omega)]
    rw [ih (i + 1) m _ (by omega) (by omega) (by simp only [List.length_append]; omega) (by omega), hd]
    simp only [joinTail, List.append_assoc]
theorem join_len (sep : ByteArray) (xs : List ByteArray) (hl : xs.length ≤ 12) (hx : ∀ x ∈ xs, x.size ≤ 60) (hsep : sep.size ≤ 1) : (joinGo sep xs).length ≤ 1000 := by
  have key : ∀ ys : List ByteArray, (∀ x ∈ ys, x.size ≤ 60) → (joinTail sep ys).length ≤ ys.length * 61 := by
    intro ys
    induction ys with
    | nil => intro _; simp [joinTail]
    | cons y r ih =>
      intro h
      have h1 := h y List.mem_cons_self
      have h2 := ih (fun x hx => h x (List.mem_cons_of_mem _ hx))
      simp only [joinTail, List.length_append, List.length_cons, size_data]
      omega
  cases xs with
  | nil => simp [joinGo]
  | cons x r =>
    have h1 := hx x List.mem_cons_self
    have h2 := key r (fun y hy => hx y (List.mem_cons_of_mem _ hy))
    simp only [joinGo, List.length_append, size_data]
    simp only [List.length_cons] at hl
    omega
theorem join_eq (sep : ByteArray) (xs : List ByteArray) (hl : xs.length ≤ 12) (hx : ∀ x ∈ xs, x.size ≤ 60) (hsep : sep.size ≤ 1) {k : Nat} (hk : 100 ≤ k) :
    strings_Join.f xs sep = some (ba (joinGo sep xs)) ∧ jobshellref17_Join.f k xs sep = some (ba (joinGo sep xs)) := by
  refine ⟨by unfold strings_Join.f; rw [if_pos (by have := join_len sep xs hl hx hsep; omega)]; rfl, ?_⟩
  obtain ⟨m, rfl⟩ : ∃ m, k = m + 1 := ⟨k - 1, by omega⟩
  unfold jobshellref17_Join.f
  rw [jobshellref17_Join.l0]
  cases xs with
  | nil => rw [if_neg (by simp)]; rfl
  | cons x r =>
    have h1 := hx x List.mem_cons_self
    have e0 : rdOf ByteArray.empty (x :: r) 0 = x := rfl
    have hxd := size_data x
    rw [if_pos (by simp), if_neg (by omega), if_pos (by omega), e0, show (⟨#[]⟩ : ByteArray) = ba [] from rfl, ba_size, if_pos (by simp; omega), ba_add, show wrap64 (0 + 1) = ((1 : Nat) : Int) by rw [wrap_id (by omega) (by omega)]; rfl]
    rw [join_go sep (x :: r) hl hx hsep r.length 1 m _ (by simp; omega) (by omega) (by simp; omega) (by simp at hl; omega)]
    simp [joinGo]
theorem sep_eq (vs : List S_Var) (hl : vs.length ≤ 12) {k : Nat} (hk : 1000 ≤ k) : ∃ s, param_separator.f k vs = some s ∧ jobshellref17_Glue.f k vs = some s ∧ s.size ≤ 1 := by
  unfold param_separator.f jobshellref17_Glue.f
  simp only [vars_get _ vs (show vs.length < 1000 by omega) hk, ref_get _ vs (show vs.length < 1000 by omega) hk, Option.bind_some]
  generalize getGo (⟨#[73, 70, 83]⟩ : ByteArray) vs = g
  by_cases h1 : g.2.2.1 = true
  · rw [if_pos h1]
    by_cases h2 : g.2.1.size = 0
    · rw [if_pos ((nil_iff _).2 h2)]; exact ⟨_, rfl, rfl, by decide⟩
    · have h2' : ¬ g.2.1.toList = ([] : List UInt8) := fun e => h2 ((nil_iff _).1 e)
      rw [if_neg h2', if_pos (by omega), if_pos (by omega)]
      exact ⟨_, rfl, rfl, by rw [ByteArray.size_extract]; omega⟩
  · rw [if_neg h1]; exact ⟨_, rfl, rfl, by decide⟩
end Go.Proofs.YthkbcomkbioepaaDoor.Pure
set_option linter.unusedVariables false
set_option linter.unusedSimpArgs false
namespace Go.Proofs.YthkbcomkbioepaaDoor.Pure
open Go.RowKit Go.Proofs.YthkbcomkbioepaaDoor.F Go.Proofs.YthkbcomkbioepaaDoorW.PrintWords Go.Proofs.YthkbcomkbioepaaDoor.Opn
structure Few (vs : List S_Var) (ps : List ByteArray) : Prop where
  vars : vs.length ≤ 12
  params : ps.length ≤ 12
  sizes : ∀ x ∈ ps, x.size ≤ 60
section
variable (n0 : ByteArray) (vs : List S_Var) (ps : List ByteArray) (o3 : Opq) (al : List S_Alias) (tr : List S_Trap) (i6 i7 i8 i9 : Int) (s10 : ByteArray) (i11 i12 i13 : Int) (b14 : Bool)
theorem small_params (hl : ps.length ≤ 12) : ∀ (d i k : Nat), i + d = ps.length → d < k →
    ∃ b, jobshellref17_Small.l1 k i n0 vs ps o3 al tr i6 i7 i8 i9 s10 i11 i12 i13 b14 = some b ∧ (b = true → ∀ x ∈ ps.drop i, x.size ≤ 60) := by
  intro d
  induction d with
  | zero =>
    intro i k hi hk
    obtain ⟨m, rfl⟩ : ∃ m, k = m + 1 := ⟨k - 1, by omega⟩
    rw [jobshellref17_Small.l1, if_neg (by omega)]
    exact ⟨_, rfl, fun _ x hx => by rw [List.drop_eq_nil_of_le (by omega)] at hx; cases hx⟩
  | succ d ih =>
    intro i k hi hk
    obtain ⟨m, rfl⟩ : ∃ m, k = m + 1 := ⟨k - 1, by omega⟩
    have hd : ps.drop i = rdOf ByteArray.empty ps (i : Int) :: ps.drop (i + 1) := getD_drop _ ps i (by omega)
    rw [jobshellref17_Small.l1, if_pos (by omega), if_pos (by omega), wrap_succ (by omega)]
    by_cases h : ((rdOf ByteArray.empty ps (i : Int)).size : Int) > 60
    · rw [if_pos h]; exact ⟨_, rfl, fun h => by cases h⟩
    · rw [if_neg h]
      obtain ⟨b, h1, h2⟩ := ih (i + 1) m (by omega) (by omega)
      refine ⟨b, h1, fun e x hx => ?_⟩
      rw [hd] at hx
      rcases List.mem_cons.1 hx with rfl | hx
      · omega
      · exact h2 e x hx
theorem small_vars (hv : vs.length ≤ 12) (hl : ps.length ≤ 12) : ∀ (d i k : Nat), i + d = vs.length → d + 20 < k →
    ∃ b, jobshellref17_Small.l0 k i n0 vs ps o3 al tr i6 i7 i8 i9 s10 i11 i12 i13 b14 = some b ∧ (b = true → ∀ x ∈ ps, x.size ≤ 60) := by
  intro d
  induction d with
  | zero =>
    intro i k hi hk
    obtain ⟨m, rfl⟩ : ∃ m, k = m + 1 := ⟨k - 1, by omega⟩
    rw [jobshellref17_Small.l0, if_neg (by omega)]
    exact small_params n0 vs ps o3 al tr i6 i7 i8 i9 s10 i11 i12 i13 b14 hl ps.length 0 m (by omega) (by omega)
  | succ d ih =>
    intro i k hi hk
    obtain ⟨m, rfl⟩ : ∃ m, k = m + 1 := ⟨k - 1, by omega⟩
    rw [jobshellref17_Small.l0, if_pos (by omega), if_pos (by omega), wrap_succ (by omega)]
    split
    · exact ⟨_, rfl, fun h => by cases h⟩
    split
    · exact ⟨_, rfl, fun h => by cases h⟩
    · exact ih (i + 1) m (by omega) (by omega)
theorem small_eq {k : Nat} (hk : 100 ≤ k) : ∃ b, jobshellref17_Small.f k n0 vs ps o3 al tr i6 i7 i8 i9 s10 i11 i12 i13 b14 = some b ∧ (b = true → Few vs ps) := by
  obtain ⟨m, rfl⟩ : ∃ m, k = m + 1 := ⟨k - 1, by omega⟩
  unfold jobshellref17_Small.f
  by_cases h1 : (vs.length : Int) > 12
  · rw [if_pos h1, jobshellref17_Small.j0, if_pos rfl]; exact ⟨_, rfl, fun h => by cases h⟩
  · rw [if_neg h1]
    by_cases h2 : (ps.length : Int) > 12
    · rw [if_pos h2, jobshellref17_Small.j0, if_pos rfl]; exact ⟨_, rfl, fun h => by cases h⟩
    · rw [if_neg h2, jobshellref17_Small.j0]
      split
      · exact ⟨_, rfl, fun h => by cases h⟩
      · obtain ⟨b, h3, h4⟩ := small_vars n0 vs ps o3 al tr i6 i7 i8 i9 s10 i11 i12 i13 b14 (by omega) (by omega) vs.length 0 m (by omega) (by omega)
        exact ⟨b, h3, fun e => ⟨by omega, by omega, h4 e⟩⟩
end
theorem wf_i64 {a : Int} (h : (Lit.int .i64 a).wf = true) : -9223372036854775808 ≤ a ∧ a ≤ 9223372036854775807 := by
  simp only [Lit.wf, Bool.and_eq_true, decide_eq_true_eq] at h
  exact ⟨h.1, h.2⟩
theorem of_bytes {s : ByteArray} {l : List UInt8} (h : s.toList = l) : s = ba l := by
  rw [Lib.toList_data] at h; rw [← h, ba_of]
theorem getGo_ok (nm : ByteArray) (vs : List S_Var) : (getGo nm vs).2.2.2.2.2 = false → (getGo nm vs).2.2.1 = false := by
  induction vs with
  | nil => intro _; rfl
  | cons v r ih =>
    intro h
    by_cases hn : v.f0.toList = nm.toList
    · rw [getGo, if_pos hn] at h; cases h
    · rw [getGo, if_neg hn] at h ⊢; exact ih h
theorem pos_name (s : ByteArray) (h : posOf s ≠ 0) : chars_Name.f s = some false := by
  obtain ⟨⟨n, b⟩, hp, hh⟩ := digits_some s
  unfold posOf at h
  rw [hp] at h
  cases b with
  | false => exact absurd rfl h
  | true =>
    obtain ⟨_, _, h2, _⟩ := hh rfl
    unfold chars_Name.f
    rw [if_neg (by omega)]
    split
    · rfl
    · unfold chars_Digits.f at hp
      obtain ⟨c, hc, _⟩ := bt_drop s 0 h2
      rw [List.drop_zero] at hc
      obtain ⟨r, hr⟩ : ∃ r, s.data.toList = c :: r := ⟨_, hc⟩
      rw [if_neg (by omega)] at hp
      split at hp
      · cases hp
      split at hp
      · cases hp
      rw [hr] at hp ⊢
      simp only [digGo] at hp
      split at hp
      · cases hp
      · rename_i m hm
        split at hm
        · rename_i hd
          have hl : isLet (c.toNat : Int) = false := by unfold isLet; simp; omega
          have h95 : ((c.toNat : Int) == 95) = false := beq_eq_false_iff_ne.2 (by omega)
          simp only [nameGo, nameCh, hl, h95, Bool.not_true, Bool.false_and, Bool.or_false, Bool.false_eq_true, if_false]
        · cases hm
theorem spec_off (c : UInt8) (h : chars_Name.f (ba [c]) = some false) (hd : chars_Digits.f (ba [c]) = some (0, false) ∨ chars_Digits.f (ba [c]) = some (0, true)) : posOf (ba [c]) = 0 := by
  unfold posOf
  rcases hd with h | h <;> rw [h]
set_option maxHeartbeats 1000000 in
theorem value_eq (n0 : ByteArray) (vs : List S_Var) (ps : List ByteArray) (o3 : Opq) (al : List S_Alias) (tr : List S_Trap) (i6 i7 i8 i9 : Int) (s10 : ByteArray) (i11 i12 i13 : Int) (b14 : Bool) (nm : ByteArray)
    (hF : Few vs ps) (h7 : (Lit.int .i64 i7).wf = true) (h8 : (Lit.int .i64 i8).wf = true) (h9 : (Lit.int .i64 i9).wf = true) {k : Nat} (hk : 2000 ≤ k) :
    ∃ r, param_Value.f k n0 vs ps o3 al tr i6 i7 i8 i9 s10 i11 i12 i13 b14 nm = some r ∧ jobshellref17_Value.f k n0 vs ps o3 al tr i6 i7 i8 i9 s10 i11 i12 i13 b14 nm = some r := by
  obtain ⟨hv, hp, hsz⟩ := hF
  have nf : ¬ (false = true) := by decide
  obtain ⟨h7a, h7b⟩ := wf_i64 h7
  obtain ⟨h8a, h8b⟩ := wf_i64 h8
  obtain ⟨h9a, h9b⟩ := wf_i64 h9
  obtain ⟨m, rfl⟩ : ∃ m, k = m + 2 := ⟨k - 2, by omega⟩
  have R : jobshellref17_Value.f (m + 2) n0 vs ps o3 al tr i6 i7 i8 i9 s10 i11 i12 i13 b14 nm = ((chars_Name.f nm).bind fun t240 => (if t240 = true then (if (getGo nm vs).2.2.1 = true then (some ((getGo nm vs).2.1, true)) else (some ((⟨#[]⟩ : ByteArray), false))) else (jobshellref17_Value.j0 (m + 2) nm (posOf nm) (decide (0 < posOf nm) && decide (posOf nm ≤ (ps.length : Int))) n0 vs ps o3 al tr i6 i7 i8 i9 s10 i11 i12 i13 b14))) := by
    unfold jobshellref17_Value.f
    rw [positional_eq nm (by omega), Option.bind_some, name_eq nm (by omega), ref_get nm vs (by omega) (by omega)]
    congr 1; funext t
    simp only [Option.bind_some]
    cases t with
    | true => rfl
    | false =>
      simp only [Bool.false_eq_true, if_false]
      by_cases h : posOf nm > 0
      · rw [if_pos h, decide_eq_true (show 0 < posOf nm from h), Bool.true_and]
      · rw [if_neg h, decide_eq_false (show ¬ 0 < posOf nm from h), Bool.false_and]
  rw [R]
  clear R
  unfold param_Value.f
  have P : ∀ c : UInt8, chars_Name.f (ba [c]) = some false → posOf (ba [c]) = 0 → ((chars_Name.f (ba [c])).bind fun t240 => (if t240 = true then (if (getGo (ba [c]) vs).2.2.1 = true then (some ((getGo (ba [c]) vs).2.1, true)) else (some ((⟨#[]⟩ : ByteArray), false))) else (jobshellref17_Value.j0 (m + 2) (ba [c]) (posOf (ba [c])) (decide (0 < posOf (ba [c])) && decide (posOf (ba [c]) ≤ (ps.length : Int))) n0 vs ps o3 al tr i6 i7 i8 i9 s10 i11 i12 i13 b14)))
      = jobshellref17_Value.j0 (m + 2) (ba [c]) 0 false n0 vs ps o3 al tr i6 i7 i8 i9 s10 i11 i12 i13 b14 := by
    intro c h1 h2
    rw [h1, h2, Option.bind_some, if_neg nf]; rfl
  by_cases c0 : nm.toList = ([48] : List UInt8)
  · obtain rfl := of_bytes c0
    rw [if_pos c0, P 48 (by decide +kernel) (by decide +kernel), jobshellref17_Value.j0, if_neg nf, if_pos c0]
    exact ⟨_, rfl, rfl⟩
  by_cases c1 : nm.toList = ([35] : List UInt8)
  · obtain rfl := of_bytes c1
    rw [if_neg c0, if_pos c1, P 35 (by decide +kernel) (by decide +kernel), jobshellref17_Value.j0, if_neg nf, if_neg c0, if_pos c1, decimal_eq _ (by omega) (by omega) (by omega), itoa_eq _ (by omega) (by omega)]
    exact ⟨_, rfl, rfl⟩
  by_cases c2 : nm.toList = ([63] : List UInt8)
  · obtain rfl := of_bytes c2
    rw [if_neg c0, if_neg c1, if_pos c2, P 63 (by decide +kernel) (by decide +kernel), jobshellref17_Value.j0, if_neg nf, if_neg c0, if_neg c1, if_pos c2, decimal_eq _ (by omega) (by omega) (by omega), itoa_eq _ (by omega) (by omega)]
    exact ⟨_, rfl, rfl⟩
  by_cases c3 : nm.toList = ([45] : List UInt8)
  · obtain rfl := of_bytes c3
    rw [if_neg c0, if_neg c1, if_neg c2, if_pos c3, P 45 (by decide +kernel) (by decide +kernel), jobshellref17_Value.j0, if_neg nf, if_neg c0, if_neg c1, if_neg c2, if_pos c3, flags_eq _ (by omega)]
    exact ⟨_, rfl, rfl⟩
  by_cases c4 : nm.toList = ([36] : List UInt8)
  · obtain rfl := of_bytes c4
    rw [if_neg c0, if_neg c1, if_neg c2, if_neg c3, if_pos c4, P 36 (by decide +kernel) (by decide +kernel), jobshellref17_Value.j0, if_neg nf, if_neg c0, if_neg c1, if_neg c2, if_neg c3, if_pos c4, decimal_eq _ (by omega) (by omega) (by omega), itoa_eq _ (by omega) (by omega)]
    exact ⟨_, rfl, rfl⟩
  by_cases c5 : nm.toList = ([33] : List UInt8)
  · obtain rfl := of_bytes c5
    rw [if_neg c0, if_neg c1, if_neg c2, if_neg c3, if_neg c4, if_pos c5, P 33 (by decide +kernel) (by decide +kernel), jobshellref17_Value.j0, if_neg nf, if_neg c0, if_neg c1, if_neg c2, if_neg c3, if_neg c4, if_pos c5, jobshellref17_Value.j1]
    by_cases h : i9 = 0
    · rw [if_pos h, h, if_neg (show ¬ ((0 : Int) != 0) = true by decide), if_neg (show ¬ (ba [33]).toList = ([64] : List UInt8) by decide +kernel), if_neg (show ¬ (ba [33]).toList = ([42] : List UInt8) by decide +kernel)]; exact ⟨_, rfl, rfl⟩
    · rw [if_neg h, bne_iff_ne.2 h, if_pos rfl, decimal_eq _ (by omega) (by omega) (by omega), itoa_eq _ (by omega) (by omega)]; exact ⟨_, rfl, rfl⟩
  by_cases c6 : nm.toList = ([64] : List UInt8)
  · obtain rfl := of_bytes c6
    obtain ⟨j1, j2⟩ := join_eq (⟨#[32]⟩ : ByteArray) ps hp hsz (by decide) (k := m) (by omega)
    rw [if_neg c0, if_neg c1, if_neg c2, if_neg c3, if_neg c4, if_neg c5, if_pos c6, P 64 (by decide +kernel) (by decide +kernel), jobshellref17_Value.j0, if_neg nf, if_neg c0, if_neg c1, if_neg c2, if_neg c3, if_neg c4, if_neg c5, jobshellref17_Value.j1, if_neg nf, if_pos c6, j1, j2]
    exact ⟨_, rfl, rfl⟩
  by_cases c7 : nm.toList = ([42] : List UInt8)
  · obtain rfl := of_bytes c7
    obtain ⟨s, s1, _, s3⟩ := sep_eq vs hv (k := m + 2) (by omega)
    obtain ⟨s', _, s2', s3'⟩ := sep_eq vs hv (k := m) (by omega)
    have : s' = s := by
      have e1 := s1
      have e2 : param_separator.f m vs = some s' := by
        obtain ⟨u, u1, u2, _⟩ := sep_eq vs hv (k := m) (by omega)
        rw [u1]; rw [u2] at s2'; exact s2'
      have e3 := at_rounds (g := fun k => param_separator.f k vs) (fun k => param_separator.mono _ k) (show m ≤ m + 2 by omega) e2
      exact Option.some.inj (e3.symm.trans e1)
    subst this
    obtain ⟨j1, j2⟩ := join_eq s' ps hp hsz s3 (k := m) (by omega)
    rw [if_neg c0, if_neg c1, if_neg c2, if_neg c3, if_neg c4, if_neg c5, if_neg c6, if_pos c7, P 42 (by decide +kernel) (by decide +kernel), jobshellref17_Value.j0, if_neg nf, if_neg c0, if_neg c1, if_neg c2, if_neg c3, if_neg c4, if_neg c5, jobshellref17_Value.j1, if_neg nf, if_neg c6, if_pos c7, s1, s2', Option.bind_some, Option.bind_some, j1, j2]
    exact ⟨_, rfl, rfl⟩
  have last : ∀ n, jobshellref17_Value.j0 (m + 2) nm n false n0 vs ps o3 al tr i6 i7 i8 i9 s10 i11 i12 i13 b14 = some ((⟨#[]⟩ : ByteArray), false) := by
    intro n
    rw [jobshellref17_Value.j0, if_neg nf, if_neg c0, if_neg c1, if_neg c2, if_neg c3, if_neg c4, if_neg c5, jobshellref17_Value.j1, if_neg nf, if_neg c6, if_neg c7]
  rw [if_neg c0, if_neg c1, if_neg c2, if_neg c3, if_neg c4, if_neg c5, if_neg c6, if_neg c7]
  obtain ⟨n, b, e, e1, e2⟩ := position_eq nm
  rw [e, Option.bind_some]
  simp only
  cases b with
  | true =>
    obtain ⟨rfl, g1, g2⟩ := e1 rfl
    rw [if_pos (rfl : true = true), pos_name nm (by omega), Option.bind_some, if_neg nf, decide_eq_true g1, Bool.true_and]
    by_cases h : posOf nm > (ps.length : Int)
    · rw [if_pos h, decide_eq_false (by omega), last]; exact ⟨_, rfl, rfl⟩
    · rw [if_neg h, decide_eq_true (by omega), jobshellref17_Value.j0, if_pos rfl, wrap_id (by omega) (by omega), if_pos (by omega), if_pos (by omega)]
      exact ⟨_, rfl, rfl⟩
  | false =>
    rw [e2 rfl, if_neg nf, vars_get nm vs (by omega) (by omega), Option.bind_some]
    have hd : (decide ((0 : Int) < 0) && decide ((0 : Int) ≤ (ps.length : Int))) = false := rfl
    rw [hd, last]
    obtain ⟨t, ht⟩ : ∃ t, chars_Name.f nm = some t := by
      unfold chars_Name.f; split
      · exact ⟨_, rfl⟩
      split <;> exact ⟨_, rfl⟩
    rw [ht]
    simp only [Option.bind_some]
    have hok := getGo_ok nm vs
    generalize getGo nm vs = g at hok ⊢
    obtain ⟨g1, g2, g3, g4, g5, g6⟩ := g
    simp only at hok ⊢
    cases g6 <;> cases g3 <;> cases t <;> simp at hok ⊢
def specials : List (List UInt8) := [[64], [42], [35], [63], [45], [36], [33], [48]]
def validB (nm : ByteArray) : Bool := decide (nm.toList ∈ specials) || decide (0 < posOf nm) || (chars_Name.f nm == some true)
theorem name_some (nm : ByteArray) : ∃ t, chars_Name.f nm = some t := by
  unfold chars_Name.f; split
  · exact ⟨_, rfl⟩
  split <;> exact ⟨_, rfl⟩
theorem pvalid_eq (nm : ByteArray) {k : Nat} (hk : 2 ≤ k) : param_Valid.f k nm = some (validB nm) := by
  obtain ⟨m, rfl⟩ : ∃ m, k = m + 1 := ⟨k - 1, by omega⟩
  unfold param_Valid.f validB
  by_cases h : nm.toList ∈ specials
  · rw [decide_eq_true h]
    have yes : ∀ b : Bool, b = true → param_Valid.j0 (m + 1) nm b = some true := by intro b hb; rw [param_Valid.j0, if_pos hb]
    repeat (split; · rename_i e; rw [yes _ (by rw [e]; exact beq_self_eq_true _)]; rfl)
    rename_i c0 c1 c2 c3 c4 c5 c6
    simp only [specials, List.mem_cons, List.not_mem_nil, or_false] at h
    rcases h with e | e | e | e | e | e | e | e
    · exact absurd e c0
    · exact absurd e c1
    · exact absurd e c2
    · exact absurd e c3
    · exact absurd e c4
    · exact absurd e c5
    · exact absurd e c6
    · rw [yes _ (by rw [e]; exact beq_self_eq_true _)]; rfl
  · rw [decide_eq_false h]
    simp only [specials, List.mem_cons, List.not_mem_nil, or_false, not_or] at h
    obtain ⟨c0, c1, c2, c3, c4, c5, c6, c7⟩ := h
    rw [if_neg c0, if_neg c1, if_neg c2, if_neg c3, if_neg c4, if_neg c5, if_neg c6, param_Valid.j0, beq_eq_false_iff_ne.2 c7, if_neg (by decide)]
    obtain ⟨n, b, e, e1, e2⟩ := position_eq nm
    obtain ⟨t, ht⟩ := name_some nm
    rw [e, Option.bind_some, ht]
    cases b with
    | true => obtain ⟨h1, h2, _⟩ := e1 rfl; rw [if_pos rfl, decide_eq_true (by omega)]; rfl
    | false => rw [e2 rfl]; simp only [Bool.false_eq_true, if_false]; cases t <;> rfl
theorem special_eq (nm : ByteArray) {k : Nat} (hk : 9 ≤ k) : jobshellref17_special.f k nm = some (decide (nm.toList ∈ specials)) := by
  obtain ⟨m, rfl⟩ : ∃ m, k = m + 9 := ⟨k - 9, by omega⟩
  unfold jobshellref17_special.f
  generalize hL : ([(⟨#[64]⟩ : ByteArray), (⟨#[42]⟩ : ByteArray), (⟨#[35]⟩ : ByteArray), (⟨#[63]⟩ : ByteArray), (⟨#[45]⟩ : ByteArray), (⟨#[36]⟩ : ByteArray), (⟨#[33]⟩ : ByteArray), (⟨#[48]⟩ : ByteArray)] : List ByteArray) = L
  have hLl : L.length = 8 := by rw [← hL]; rfl
  have step : ∀ (i q : Nat) (c : UInt8), i < 8 → (rdOf ByteArray.empty L (i : Int)).toList = [c] → jobshellref17_special.l0 (q + 1) nm L (i : Int) = if nm.toList = [c] then some true else jobshellref17_special.l0 q nm L ((i + 1 : Nat) : Int) := by
    intro i q c hi hc
    rw [jobshellref17_special.l0, if_pos (by omega), if_pos (by omega), hc, wrap_succ (by omega)]
    by_cases e : nm.toList = [c]
    · rw [if_pos e.symm, if_pos e]
    · rw [if_neg (fun h => e h.symm), if_neg e]
  rw [show (0 : Int) = ((0 : Nat) : Int) from rfl]
  rw [step 0 _ 64 (by omega) (by rw [← hL]; decide +kernel), step 1 _ 42 (by omega) (by rw [← hL]; decide +kernel), step 2 _ 35 (by omega) (by rw [← hL]; decide +kernel), step 3 _ 63 (by omega) (by rw [← hL]; decide +kernel),
    step 4 _ 45 (by omega) (by rw [← hL]; decide +kernel), step 5 _ 36 (by omega) (by rw [← hL]; decide +kernel), step 6 _ 33 (by omega) (by rw [← hL]; decide +kernel), step 7 _ 48 (by omega) (by rw [← hL]; decide +kernel)]
  have end_ : jobshellref17_special.l0 (m + 1) nm L ((7 + 1 : Nat) : Int) = some false := by rw [jobshellref17_special.l0, if_neg (by omega)]
  rw [end_]
  by_cases h : nm.toList ∈ specials
  · rw [decide_eq_true h]
    repeat (split; · rfl)
    rename_i c0 c1 c2 c3 c4 c5 c6 c7
    simp only [specials, List.mem_cons, List.not_mem_nil, or_false] at h
    exact absurd h (by simp only [not_or]; exact ⟨c0, c1, c2, c3, c4, c5, c6, c7⟩)
  · rw [decide_eq_false h]
    simp only [specials, List.mem_cons, List.not_mem_nil, or_false, not_or] at h
    obtain ⟨c0, c1, c2, c3, c4, c5, c6, c7⟩ := h
    rw [if_neg c0, if_neg c1, if_neg c2, if_neg c3, if_neg c4, if_neg c5, if_neg c6, if_neg c7]
theorem rvalid_eq (nm : ByteArray) {k : Nat} (hk : 2000 ≤ k) : jobshellref17_Valid.f k nm = some (validB nm) := by
  unfold jobshellref17_Valid.f validB
  rw [name_eq nm (by omega), positional_eq nm (by omega), special_eq nm (by omega)]
  obtain ⟨t, ht⟩ := name_some nm
  rw [ht]
  simp only [Option.bind_some]
  cases t with
  | true => rw [if_pos rfl]; simp
  | false =>
    rw [if_neg (by decide)]
    by_cases h : posOf nm > 0
    · rw [if_pos h, decide_eq_true (show 0 < posOf nm from h)]; simp
    · rw [if_neg h, decide_eq_false (show ¬ 0 < posOf nm from h)]; simp
theorem value_some {n0 : ByteArray} {vs : List S_Var} {ps : List ByteArray} {o3 : Opq} {al : List S_Alias} {tr : List S_Trap} {i6 i7 i8 i9 : Int} {s10 : ByteArray} {i11 i12 i13 : Int} {b14 : Bool} {nm : ByteArray} {k : Nat} {r : ByteArray × Bool}
    (hv : vs.length ≤ 12) (hk : 1000 ≤ k) (h : param_Value.f k n0 vs ps o3 al tr i6 i7 i8 i9 s10 i11 i12 i13 b14 nm = some r) : (r.2 = false → r.1.toList = []) ∧ (r.2 = true → validB nm = true) := by
  have sp : nm.toList ∈ specials → validB nm = true := fun hm => by unfold validB; rw [decide_eq_true hm]; rfl
  have nil0 : ((⟨#[]⟩ : ByteArray).toList = ([] : List UInt8)) := by decide +kernel
  have yes : ∀ (x : ByteArray), (x, true) = r → nm.toList ∈ specials → (r.2 = false → r.1.toList = []) ∧ (r.2 = true → validB nm = true) := by
    rintro x rfl hm; exact ⟨fun h => (by cases h), fun _ => sp hm⟩
  have itoa : ∀ n, ((strconv_Itoa.f n).bind fun t => some (t, true)) = some r → nm.toList ∈ specials → (r.2 = false → r.1.toList = []) ∧ (r.2 = true → validB nm = true) := by
    intro n e hm
    obtain ⟨t, _, e2⟩ := Option.bind_eq_some_iff.1 e
    exact yes t (Option.some.inj e2) hm
  have join : ∀ sep, ((strings_Join.f ps sep).bind fun t => some (t, decide ((ps.length : Int) > 0))) = some r → nm.toList ∈ specials → (r.2 = false → r.1.toList = []) ∧ (r.2 = true → validB nm = true) := by
    intro sep e hm
    obtain ⟨t, e1, e2⟩ := Option.bind_eq_some_iff.1 e
    obtain rfl := Option.some.inj e2
    refine ⟨fun hb => ?_, fun _ => sp hm⟩
    have hl : ps = [] := List.length_eq_zero_iff.1 (by have := of_decide_eq_false hb; omega)
    subst hl
    unfold strings_Join.f at e1
    split at e1
    · obtain rfl := Option.some.inj e1; exact nil0
    · cases e1
  unfold param_Value.f at h
  by_cases c0 : nm.toList = ([48] : List UInt8)
  · rw [if_pos c0] at h; exact yes _ (Option.some.inj h) (by rw [c0]; decide)
  rw [if_neg c0] at h
  by_cases c1 : nm.toList = ([35] : List UInt8)
  · rw [if_pos c1] at h; exact itoa _ h (by rw [c1]; decide)
  rw [if_neg c1] at h
  by_cases c2 : nm.toList = ([63] : List UInt8)
  · rw [if_pos c2] at h; exact itoa _ h (by rw [c2]; decide)
  rw [if_neg c2] at h
  by_cases c3 : nm.toList = ([45] : List UInt8)
  · rw [if_pos c3] at h; exact yes _ (Option.some.inj h) (by rw [c3]; decide)
  rw [if_neg c3] at h
  by_cases c4 : nm.toList = ([36] : List UInt8)
  · rw [if_pos c4] at h; exact itoa _ h (by rw [c4]; decide)
  rw [if_neg c4] at h
  by_cases c5 : nm.toList = ([33] : List UInt8)
  · rw [if_pos c5] at h
    split at h
    · obtain rfl := Option.some.inj h; exact ⟨fun _ => nil0, fun h => by cases h⟩
    · exact itoa _ h (by rw [c5]; decide)
  rw [if_neg c5] at h
  by_cases c6 : nm.toList = ([64] : List UInt8)
  · rw [if_pos c6] at h; exact join _ h (by rw [c6]; decide)
  rw [if_neg c6] at h
  by_cases c7 : nm.toList = ([42] : List UInt8)
  · rw [if_pos c7] at h
    obtain ⟨t, _, e2⟩ := Option.bind_eq_some_iff.1 h
    exact join _ e2 (by rw [c7]; decide)
  rw [if_neg c7] at h
  obtain ⟨n, b, e, e1, e2⟩ := position_eq nm
  rw [e, Option.bind_some] at h
  cases b with
  | true =>
    obtain ⟨g0, g1, _⟩ := e1 rfl
    rw [if_pos rfl] at h
    split at h
    · obtain rfl := Option.some.inj h; exact ⟨fun _ => nil0, fun h => by cases h⟩
    split at h
    · split at h
      · obtain rfl := Option.some.inj h
        exact ⟨fun h => (by cases h), fun _ => by unfold validB; rw [decide_eq_true (show 0 < posOf nm by omega)]; simp⟩
      · cases h
    · cases h
  | false =>
    simp only [Bool.false_eq_true, if_false] at h
    rw [vars_get nm vs (by omega) (by omega), Option.bind_some] at h
    split at h
    · split at h
      · obtain ⟨t, ht⟩ := name_some nm
        rw [ht, Option.bind_some] at h
        split at h
        · rename_i hb
          obtain rfl := Option.some.inj h
          exact ⟨fun h => (by cases h), fun _ => by unfold validB; rw [ht, hb]; simp⟩
        · obtain rfl := Option.some.inj h; exact ⟨fun _ => nil0, fun h => by cases h⟩
      · obtain rfl := Option.some.inj h; exact ⟨fun _ => nil0, fun h => by cases h⟩
    · obtain rfl := Option.some.inj h; exact ⟨fun _ => nil0, fun h => by cases h⟩
end Go.Proofs.YthkbcomkbioepaaDoor.Pure
set_option linter.unusedVariables false
set_option linter.unusedSimpArgs false
namespace Go.Proofs.YthkbcomkbioepaaDoor.Pure
open Go.RowKit Go.Proofs.YthkbcomkbioepaaDoor.F Go.Proofs.YthkbcomkbioepaaDoorW.PrintWords Go.Proofs.YthkbcomkbioepaaDoor.Opn
theorem value_indep {n0 : ByteArray} {vs vs' : List S_Var} {ps : List ByteArray} {o3 : Opq} {al : List S_Alias} {tr : List S_Trap} {i6 i7 i8 i9 : Int} {s10 : ByteArray} {i11 i12 i13 : Int} {b14 : Bool} {nm : ByteArray} {k : Nat}
    (hv : vs.length ≤ 12) (hv' : vs'.length ≤ 12) (hk : 1000 ≤ k) (h7 : nm.toList ≠ [42]) (hn : chars_Name.f nm = some false) :
    param_Value.f k n0 vs ps o3 al tr i6 i7 i8 i9 s10 i11 i12 i13 b14 nm = param_Value.f k n0 vs' ps o3 al tr i6 i7 i8 i9 s10 i11 i12 i13 b14 nm := by
  unfold param_Value.f
  rw [if_neg h7, if_neg h7, vars_get nm vs (by omega) hk, vars_get nm vs' (by omega) hk, hn]
  have e : ∀ g : Got, ((some g).bind fun bt148 => (if bt148.2.2.2.2.2 = true then (if bt148.2.2.1 = true then ((some false : Option Bool).bind fun t155 => (if t155 = true then (some (bt148.2.1, true)) else (some ((⟨#[]⟩ : ByteArray), false)))) else (some ((⟨#[]⟩ : ByteArray), false))) else (some ((⟨#[]⟩ : ByteArray), false)))) = some ((⟨#[]⟩ : ByteArray), false) := by
    intro g
    simp only [Option.bind_some, Bool.false_eq_true, if_false]
    split
    · split <;> rfl
    · rfl
  rw [e, e]
theorem not_name (nm : ByteArray) (h0 : 0 < nm.size) (h1 : ¬ bt nm 0 = 95) (h2 : ¬ (bt nm 0 ≥ 97 ∧ bt nm 0 ≤ 122)) (h3 : ¬ (bt nm 0 ≥ 65 ∧ bt nm 0 ≤ 90)) : chars_Name.f nm = some false := by
  unfold chars_Name.f
  rw [if_neg (by omega)]
  split
  · rfl
  · obtain ⟨c, hc, hb⟩ := bt_drop nm 0 h0
    have hb' : bt nm 0 = (c.toNat : Int) := hb
    rw [hb'] at h1 h2 h3
    rw [List.drop_zero] at hc
    have hl : isLet (c.toNat : Int) = false := by unfold isLet; simp; omega
    have h95 : ((c.toNat : Int) == 95) = false := beq_eq_false_iff_ne.2 h1
    rw [hc]
    simp only [nameGo, nameCh, hl, h95, Bool.not_true, Bool.false_and, Bool.or_false, Bool.false_eq_true, if_false]
theorem ParamVariables (x0 : S30) (l1 : List S_Var) (a2 : ByteArray) (w0 : ok30 x0) (w1 : (fun xs => xs.length ≤ maxLen ∧ ∀ x ∈ xs, ok49 x) l1) (w2 : a2.size ≤ 140737488351232) : ∃ k, jobshelllaw17_ParamVariables.f k x0.f0 x0.f1 x0.f2 x0.f3 x0.f4 x0.f5 x0.f6 x0.f7 x0.f8 x0.f9 x0.f10 x0.f11.f0 x0.f11.f1 x0.f12 x0.f13 l1 a2 = some true := by
  refine ⟨6002, ?_⟩
  obtain ⟨_, _, _, _, _, _, _, h7, h8, h9, _⟩ := w0
  generalize x0.f11.f0 = i11
  generalize x0.f11.f1 = i12
  have aw : jobshelllaw17_ParamVariables.j0 6002 a2 true x0.f0 x0.f1 x0.f2 x0.f3 x0.f4 x0.f5 x0.f6 x0.f7 x0.f8 x0.f9 x0.f10 i11 i12 x0.f12 x0.f13 x0.f0 l1 x0.f2 x0.f3 x0.f4 x0.f5 x0.f6 x0.f7 x0.f8 x0.f9 x0.f10 i11 i12 x0.f12 x0.f13 = some true := by
    rw [jobshelllaw17_ParamVariables.j0, if_pos rfl, awake_ok (by omega)]; rfl
  have aw1 : jobshelllaw17_ParamVariables.j1 6001 a2 true x0.f0 x0.f1 x0.f2 x0.f3 x0.f4 x0.f5 x0.f6 x0.f7 x0.f8 x0.f9 x0.f10 i11 i12 x0.f12 x0.f13 x0.f0 l1 x0.f2 x0.f3 x0.f4 x0.f5 x0.f6 x0.f7 x0.f8 x0.f9 x0.f10 i11 i12 x0.f12 x0.f13 = some true := by
    rw [jobshelllaw17_ParamVariables.j1, if_pos rfl, awake_ok (by omega)]; rfl
  unfold jobshelllaw17_ParamVariables.f
  obtain ⟨b, hb, hF⟩ := small_eq x0.f0 x0.f1 x0.f2 x0.f3 x0.f4 x0.f5 x0.f6 x0.f7 x0.f8 x0.f9 x0.f10 i11 i12 x0.f12 x0.f13 (k := 6002) (by omega)
  obtain ⟨c, hc, hG⟩ := small_eq x0.f0 l1 x0.f2 x0.f3 x0.f4 x0.f5 x0.f6 x0.f7 x0.f8 x0.f9 x0.f10 i11 i12 x0.f12 x0.f13 (k := 6002) (by omega)
  rw [hb, Option.bind_some, hc, Option.bind_some]
  cases b with
  | false => rw [if_neg (by decide)]; exact aw
  | true =>
    rw [if_pos rfl]
    cases c with
    | false => rw [if_neg (by decide)]; exact aw
    | true =>
      rw [if_pos rfl]
      by_cases h : (a2.size : Int) > 60
      · rw [decide_eq_true h]; exact aw
      · have main : a2.toList ≠ [42] → chars_Name.f a2 = some false → jobshelllaw17_ParamVariables.j1 6001 a2 false x0.f0 x0.f1 x0.f2 x0.f3 x0.f4 x0.f5 x0.f6 x0.f7 x0.f8 x0.f9 x0.f10 i11 i12 x0.f12 x0.f13 x0.f0 l1 x0.f2 x0.f3 x0.f4 x0.f5 x0.f6 x0.f7 x0.f8 x0.f9 x0.f10 i11 i12 x0.f12 x0.f13 = some true := by
          intro g1 g2
          obtain ⟨r, e1, _⟩ := value_eq x0.f0 x0.f1 x0.f2 x0.f3 x0.f4 x0.f5 x0.f6 x0.f7 x0.f8 x0.f9 x0.f10 i11 i12 x0.f12 x0.f13 a2 (hF rfl) h7 h8 h9 (k := 6000) (by omega)
          have e2 := e1
          rw [value_indep (hF rfl).vars (hG rfl).vars (by omega) g1 g2] at e2
          rw [jobshelllaw17_ParamVariables.j1, if_neg (by decide), e1, e2]
          simp only [Option.bind_some, if_true, beq_self_eq_true]
          rw [awake_ok (by omega)]; rfl
        rw [decide_eq_false h, jobshelllaw17_ParamVariables.j0, if_neg (by decide)]
        by_cases g0 : a2.toList = ([] : List UInt8)
        · rw [if_pos g0]; exact aw1
        rw [if_neg g0]
        by_cases g1 : a2.toList = ([42] : List UInt8)
        · rw [if_pos g1]; exact aw1
        have hs : 0 < a2.size := Nat.pos_of_ne_zero (fun e => g0 ((nil_iff a2).2 e))
        rw [if_neg g1, if_pos (by omega)]
        by_cases q1 : bt a2 0 = 95
        · rw [if_pos q1]; exact aw1
        rw [if_neg q1]
        by_cases q2 : bt a2 0 ≥ 97
        · rw [if_pos q2]
          by_cases q3 : bt a2 0 ≤ 122
          · rw [if_pos q3]; exact aw1
          · rw [if_neg q3, if_pos (by omega), decide_eq_false (by omega)]
            exact main g1 (not_name a2 hs q1 (by omega) (by omega))
        · rw [if_neg q2]
          by_cases q4 : bt a2 0 ≥ 65
          · rw [if_pos q4]
            by_cases q5 : bt a2 0 ≤ 90
            · rw [decide_eq_true q5]; exact aw1
            · rw [decide_eq_false q5]; exact main g1 (not_name a2 hs q1 (by omega) (by omega))
          · rw [if_neg q4]; exact main g1 (not_name a2 hs q1 (by omega) (by omega))
end Go.Proofs.YthkbcomkbioepaaDoor.Pure
namespace Go.Proofs.YthkbcomkbioepaaDoor.paramVariables
open Go.ChangeShapes Go.WideShapes Go.ChangeAt Go.RowKit
open Go.ChangeMaps (open_string shut_string)
open Go.Proofs.YthkbcomkbioepaaDoor.F Go.Proofs.YthkbcomkbioepaaDoorW.PrintWords Go.Proofs.YthkbcomkbioepaaDoor.Opn
set_option linter.unusedVariables false
set_option linter.unusedSimpArgs false
theorem own : ownKnob Tryd.prog.godebug = none := by kernel_rfl
theorem laidOut : laidOutB Tryd.prog = true := by kernel_rfl
theorem amb {W : World} (h : laidMetH Tryd.prog Rows.paramVariablesRow.laid W) : AmbC W := by
  rw [MakeChecks.laidMetH_plain _ _ _ (by kernel_rfl)] at h
  have h0 : laidMet Tryd.prog [("math/bits.deBruijn32tab", Rows.laid_math_bits_deBruijn32tab), ("math/bits.deBruijn64tab", Rows.laid_math_bits_deBruijn64tab), ("internal/strconv.uint64pow10", Lib.tabData .u64 Lib.pow10Tab)] W := h
  obtain ⟨_, h1, _⟩ := h0
  obtain ⟨_, _, _, _, _, _, _, _, _, _, h1, _⟩ := h1
  obtain ⟨_, _, _, _, _, _, _, _, _, _, h1, _⟩ := h1
  obtain ⟨g', t', cs, fuel, p, q, hg', ht', hvar, hd, _, _⟩ := h1
  obtain rfl := Option.some.inj ((show Tryd.prog.globalNamed "internal/strconv.uint64pow10" = some 0 by kernel_rfl).symm.trans hg')
  obtain rfl := Option.some.inj ((show (Tryd.prog.globals[0]?).map (·.type) = some 100 by kernel_rfl).symm.trans ht')
  unfold AmbC Lib.TabIs
  rw [hvar, ← Lib.cells_of_tab Tryd.underlying100 Tryd.underlying75 (by kernel_rfl) (by kernel_rfl) hd]
set_option maxRecDepth 100000 in
set_option maxHeartbeats 1000000 in
theorem lifted (os : Os) (started : os.Started) (H : Type) (enc : TypeId × Value → H) :
    ReturnsInHanded {} Tryd.checked os 8 .any (fun w args => (Rows.paramVariablesSpec.pre enc Tryd.prog Tryd.f8 [] false w args ∧ laidMetH Tryd.prog Rows.paramVariablesRow.laid w) ∧ sizedMet enc Tryd.prog Tryd.f8 (OpenSpec.ofChange Rows.paramVariablesSpec) false w args)
      (Rows.paramVariablesSpec.post enc Tryd.prog Tryd.f8 false true false false) := by
  refine returnsInHanded_of_change_and (C := Tryd.checked) (X := fun w _ => laidMetH Tryd.prog Rows.paramVariablesRow.laid w) (fun _ _ _ hh h => h.of_heap hh) own started (by kernel_rfl) Tryd.func8
    (ChangeSpec.witness_shaped (enc := enc) (C := Tryd.checked) (os := os) (X := fun w _ => laidMetH Tryd.prog Rows.paramVariablesRow.laid w) false (World.laidAll Tryd.prog os Rows.paramVariablesRow.laid) #[.agg #[.string ByteArray.empty, .slice none 0 0, .slice none 0 0, .slice none 0 0, .slice none 0 0, .slice none 0 0, .int .i64 0, .int .i64 0, .int .i64 0, .int .i64 0, .string ByteArray.empty, .int .i64 0, .int .i64 0, .int .i64 0, .bool false], .slice none 0 0, .string ByteArray.empty] 8 (World.laidAll_os _ _ _)
      (World.shaped_of_ZipB (by kernel_rfl) (by kernel_rfl)) (by kernel_rfl) (by kernel_rfl) (by kernel_rfl)
      (by rw [MakeChecks.laidMetH_plain _ _ _ (by kernel_rfl)]; exact laidMet_laidAll _ (by kernel_rfl) (by kernel_rfl))) ?_
  intro W base args ds gs before hval0 hW _ hsz0 hL _
  have hsz : (DataW.weightsEach Tryd.prog (Tryd.f8.params.toList ++ Rows.paramVariablesSpec.plain.varTypes Tryd.prog) (ds ++ gs)).all (· ≤ reachBytes) = true := hsz0
  have hval : ∀ (j : Nat) t v, Tryd.f8.params[j]? = some t → args[j]? = some v → Value.okWide Tryd.prog W .any base t v := hval0
  have hW' := hW
  obtain ⟨p, q, hA0, hV, rfl, hfz, hnd⟩ := hW
  have hA : DataW.TrodAll enc Tryd.prog W 0 (fun _ => true) true Tryd.f8.params.toList args.toList ds p := hA0
  rw [Tryd.params8] at hA hval hsz
  obtain ⟨v0, vs0, d0, ds0, p0, q0, hargs, rfl, rfl, h0, r0⟩ := trodAll_cons hA
  obtain ⟨v1, vs1, d1, ds1, p1, q1, rfl, rfl, rfl, h1, r1⟩ := trodAll_cons r0
  obtain ⟨v2, vs2, d2, ds2, p2, q2, rfl, rfl, rfl, h2, r2⟩ := trodAll_cons r1
  obtain ⟨rfl, rfl, rfl⟩ := trodAll_nil r2
  obtain rfl : args = #[v0, v1, v2] := by cases args; simp_all
  obtain ⟨rfl, rfl⟩ := trodVars_none hV
  have k0 := h0
  have lt0 : ∀ x ∈ p0, x.block < W.heap.size := by obtain ⟨m, hm⟩ := k0; exact DataW.trod_lt m _ _ _ hm
  obtain ⟨cs0, x0, rfl, hk0, w0⟩ := arg_struct opens30 (okWide_struct Tryd.underlying30 (hval 0 30 v0 rfl rfl) |>.imp fun _ h => h.1) h0
  obtain ⟨A0_1, c0_1, A0_2, c0_2, A0_4, c0_4, A0_5, c0_5, rfl, hc0_1, hr0_1, hc0_2, hr0_2, hc0_4, hr0_4, hc0_5, hr0_5⟩ := k30_open hk0
  have k1 := h1
  have lt1 : ∀ x ∈ p1, x.block < W.heap.size := by obtain ⟨m, hm⟩ := k1; exact DataW.trod_lt m _ _ _ hm
  obtain ⟨A1, c1, l1, rfl, hc1, hr1, w1⟩ := arg_slice (opens_slice Tryd.underlying22 opens49 (by kernel_rfl)) (okWide_slice Tryd.underlying22 (hval 1 22 v1 rfl rfl)) h1
  obtain ⟨a2, rfl, rfl, rfl, y2⟩ := open_string Tryd.underlying9 (hval 2 9 v2 rfl rfl) h2
  have w2 : a2.size ≤ 140737488351232 := by
    have z := sized_string hsz (j := 2) (t := 9) rfl rfl
    rw [Array.length_toList] at z
    exact z
  clear hA0 hval0 hsz0 hsz
  obtain ⟨k, hk_⟩ := Go.Proofs.YthkbcomkbioepaaDoor.Pure.ParamVariables x0 l1 a2 w0 w1 w2
  refine (jobshelllaw17_ParamVariables.calls k x0.f0 A0_1 c0_1 x0.f1 A0_2 c0_2 x0.f2 x0.f3 A0_4 c0_4 x0.f4 A0_5 c0_5 x0.f5 x0.f6 x0.f7 x0.f8 x0.f9 x0.f10 x0.f11.f0 x0.f11.f1 x0.f12 x0.f13 A1 c1 l1 a2 true W hr0_1 hc0_1 hr0_2 hc0_2 hr0_4 hc0_4 hr0_5 hc0_5 hr1 hc1 (amb hL) hk_).mono fun e W' ⟨he, bel0⟩ => ?_
  have bel : Below W.heap.size W W' := bel0
  subst he
  exact ⟨_, rfl, _, _, _, [], _, [], hW', trodAll_mk1 (shut_bool Tryd.underlying4 _), (trodAll_cons_mk (Below.trod laidOut (by kernel_rfl) (of_decide_eq_true (by kernel_rfl)) k0 bel lt0) (trodAll_cons_mk (Below.trod laidOut (by kernel_rfl) (of_decide_eq_true (by kernel_rfl)) k1 bel lt1) (trodAll_cons_mk (shut_string Tryd.underlying9 y2) trodAll_mk0))), rfl, bel.frame _, fun h => by cases h⟩
theorem over : Rows.paramVariablesRow.holds Tryd.pinned (OpenSpec.ofChange Rows.paramVariablesSpec) :=
  OpenClaim.holds_of_wide 8 Tryd.f8 rfl rfl rfl rfl rfl rfl rfl ⟨rfl, rfl, rfl, rfl, rfl⟩ rfl rfl rfl rfl rfl (by kernel_rfl) Tryd.func8 (by kernel_rfl)
    (of_decide_eq_true (by kernel_rfl)) (by unfold Func.isWrapper; first | (rw [if_pos (by decide +kernel)]; kernel_rfl) | (rw [if_neg (by decide +kernel)]; exact ⟨rfl, rfl⟩))
    (fun os started H enc _ => lifted os started H enc)
theorem card : Rows.ParamVariablesCardSaid :=
  Claim7.holds_tied_plain_at .later [] [.data, .data, .data] true (true, "938b025c0917e96f3a95e97b566f2c3d43cbf96fe82d94234e0ecb6cd516634e") false over (fun _ h => by cases h) (by kernel_rfl) (fun _ h => by cases h) paramVariables_row_tie rfl ⟨rfl, rfl⟩ (by kernel_rfl) rfl
    (fun f fn hf hfn => by
      obtain rfl : f = 8 := Option.some.inj ((show Tryd.prog.funcNamed "jobshell/jobshelllaw17.ParamVariables" = some 8 by kernel_rfl).symm.trans hf) |>.symm
      obtain rfl : fn = Tryd.f8 := (Option.some.inj (Tryd.func8.symm.trans hfn)).symm
      exact ⟨by kernel_rfl, fun j t ht => by
        rw [Tryd.params8] at ht
        have hm : t ∈ [30, 22, 9] := by simpa using Array.mem_of_getElem? ht
        have hall : ([30, 22, 9].all fun u => !Tryd.prog.wantsStandIn u) = true := by kernel_rfl
        exact (show Tryd.prog.wantsStandIn t = false by simpa using List.all_eq_true.1 hall t hm)⟩)
    (by kernel_rfl)
#print axioms card
end Go.Proofs.YthkbcomkbioepaaDoor.paramVariables
namespace Go.Proofs.YthkbcomkbioepaaDoor
theorem paramVariables_holds : Rows.ParamVariablesCardSaid := paramVariables.card
end Go.Proofs.YthkbcomkbioepaaDoor
