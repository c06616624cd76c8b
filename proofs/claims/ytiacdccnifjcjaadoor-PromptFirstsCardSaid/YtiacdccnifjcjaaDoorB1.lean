/- Texts of this claim, joined. -/
import Derived.Lib.OthersKept
import Derived.Lib.SpaceUEq
import Derived.Outline
import Derived.Deep.QuietTactic
import Derived.BigQuiet
import Derived.WalkSpells
import Derived.Test.YtiacdccnifjcjaaDoorB0
namespace Go.Proofs.YtiacdccnifjcjaaDoor.F
open Go.RowKit Go.Proofs.YtiacdccnifjcjaaDoorW.PrintWords Go.Proofs.YtiacdccnifjcjaaDoorW.PrintLast Go.Proofs.YtiacdccnifjcjaaDoorW.PrintMore
attribute [local go_sem] max2_int min2_int max_two min_two max_three min_three max_four min_four
set_option linter.unusedVariables false
set_option linter.unusedSimpArgs false
def param_Value.f (k : Nat) (a0_0 : ByteArray) (l0_1 : List (S_Var)) (l0_2 : List ByteArray) (a0_3 : Opq) (l0_4 : List (S_Alias)) (l0_5 : List (S_Trap)) (a0_6 : Int) (a0_7 : Int) (a0_8 : Int) (a0_9 : Int) (a0_10 : ByteArray) (a0_11 : Int) (a0_12 : Int) (a0_13 : Int) (a0_14 : Bool) (a1 : ByteArray) : Option (ByteArray × Bool) := if a1.toList = ([48] : List UInt8) then (some (a0_0, true)) else (if a1.toList = ([35] : List UInt8) then ((strconv_Itoa.f (l0_2.length : Int)).bind fun t159 => (some (t159, true))) else (if a1.toList = ([63] : List UInt8) then ((strconv_Itoa.f a0_7).bind fun t160 => (some (t160, true))) else (if a1.toList = ([45] : List UInt8) then ((param_flags.f a0_6).bind fun t161 => (some (t161, true))) else (if a1.toList = ([36] : List UInt8) then ((strconv_Itoa.f a0_8).bind fun t162 => (some (t162, true))) else (if a1.toList = ([33] : List UInt8) then (if a0_9 = 0 then (some ((⟨#[]⟩ : ByteArray), false)) else ((strconv_Itoa.f a0_9).bind fun t163 => (some (t163, true)))) else (if a1.toList = ([64] : List UInt8) then ((strings_Join.f l0_2 (⟨#[32]⟩ : ByteArray)).bind fun t164 => (some (t164, decide ((l0_2.length : Int) > 0)))) else (if a1.toList = ([42] : List UInt8) then ((param_separator.f k l0_1).bind fun t165 => ((strings_Join.f l0_2 t165).bind fun t166 => (some (t166, decide ((l0_2.length : Int) > 0))))) else ((param_position.f a1).bind fun bt167 => (if bt167.2 = true then (if bt167.1 > (l0_2.length : Int) then (some ((⟨#[]⟩ : ByteArray), false)) else (if 0 ≤ (wrap64 (bt167.1 - 1)) then (if (wrap64 (bt167.1 - 1)) < (l0_2.length : Int) then (some (rdOf ByteArray.empty l0_2 (wrap64 (bt167.1 - 1)), true)) else (none)) else (none))) else ((vars_Get.f k l0_1 a1).bind fun bt170 => (if bt170.2.2.2.2.2 = true then (if bt170.2.2.1 = true then ((chars_Name.f a1).bind fun t177 => (if t177 = true then (some (bt170.2.1, true)) else (some ((⟨#[]⟩ : ByteArray), false)))) else (some ((⟨#[]⟩ : ByteArray), false))) else (some ((⟨#[]⟩ : ByteArray), false)))))))))))))
theorem param_Value.mono : ∀ a0 a1 a2 a3 a4 a5 a6 a7 a8 a9 a10 a11 a12 a13 a14 a15 k, LeO (param_Value.f k a0 a1 a2 a3 a4 a5 a6 a7 a8 a9 a10 a11 a12 a13 a14 a15) (param_Value.f (k + 1) a0 a1 a2 a3 a4 a5 a6 a7 a8 a9 a10 a11 a12 a13 a14 a15) := by
 intro a0 a1 a2 a3 a4 a5 a6 a7 a8 a9 a10 a11 a12 a13 a14 a15 k
 unfold param_Value.f
 repeat' first
   | (with_reducible exact param_separator.mono _ _)
   | (with_reducible exact vars_Get.mono _ _ _)
   | (with_reducible exact LeO.refl _)
   | (with_reducible exact LeO.none _)
   | (with_reducible refine LeO.ite ?_ ?_)
   | (with_reducible refine LeO.bind ?_ (fun _ => ?_))
   | exact param_separator.mono _ _
   | exact vars_Get.mono _ _ _
   | exact LeO.none _
   | refine LeO.ite ?_ ?_
   | refine LeO.bind ?_ (fun _ => ?_)
def param_Value.T17 : Bool × List (List Nat × List Nat) := (true, [([], []), ([0], [0]), ([1], [1]), ([], []), ([3], [3]), ([4], [4]), ([5], [5]), ([2, 2, 0, 1, 2], [2]), ([6, 7, 0, 1, 2, 3, 4, 5, 6, 7], [6])])
def param_Value.B17 : List Nat := [0, 1, 3, 0, 8, 24, 56, 7, 255]
theorem param_Value.tab17 : rtab .any (opsOf Tryd.f20 17) = param_Value.T17 := by kernel_rfl
theorem param_Value.bits17 : waitsOk param_Value.T17.2 param_Value.B17 = true := by kernel_rfl
def param_Value.T19 : Bool × List (List Nat × List Nat) := (true, [([], []), ([0], [0]), ([], []), ([2], [2]), ([3], [3]), ([1, 4, 4], [1, 4]), ([], []), ([6], [6]), ([7], [7]), ([8], [8]), ([5, 5, 0, 1, 2, 3, 4, 5], [5]), ([9, 10, 0, 1, 2, 3, 4, 5, 6, 7, 8, 9, 10], [9])])
def param_Value.B19 : List Nat := [0, 1, 0, 4, 12, 31, 0, 64, 192, 448, 63, 2047]
theorem param_Value.tab19 : rtab .any (opsOf Tryd.f20 19) = param_Value.T19 := by kernel_rfl
theorem param_Value.bits19 : waitsOk param_Value.T19.2 param_Value.B19 = true := by kernel_rfl
set_option maxHeartbeats 8000000 in
set_option maxRecDepth 100000 in
theorem param_Value.calls (k : Nat) (a0_0 : ByteArray) (A0_1 : Option Addr) (c0_1 : Nat) (l0_1 : List (S_Var)) (A0_2 : Option Addr) (c0_2 : Nat) (l0_2 : List ByteArray) (a0_3 : Opq) (A0_4 : Option Addr) (c0_4 : Nat) (l0_4 : List (S_Alias)) (A0_5 : Option Addr) (c0_5 : Nat) (l0_5 : List (S_Trap)) (a0_6 : Int) (a0_7 : Int) (a0_8 : Int) (a0_9 : Int) (a0_10 : ByteArray) (a0_11 : Int) (a0_12 : Int) (a0_13 : Int) (a0_14 : Bool) (a1 : ByteArray) (r1 : ByteArray) (r2 : Bool) (w : World) (hr0_1 : Kd.C k_Var w A0_1 l0_1.length l0_1) (hc0_1 : l0_1.length ≤ c0_1) (hr0_2 : Kd.C Kd.string w A0_2 l0_2.length l0_2) (hc0_2 : l0_2.length ≤ c0_2) (hr0_4 : Kd.C k_Alias w A0_4 l0_4.length l0_4) (hc0_4 : l0_4.length ≤ c0_4) (hr0_5 : Kd.C k_Trap w A0_5 l0_5.length l0_5) (hc0_5 : l0_5.length ≤ c0_5) (hamb : AmbC w) (h : param_Value.f k a0_0 l0_1 l0_2 a0_3 l0_4 l0_5 a0_6 a0_7 a0_8 a0_9 a0_10 a0_11 a0_12 a0_13 a0_14 a1 = some (r1, r2)) :
  Calls Tryd.prog 20 #[.agg #[.string a0_0, .slice A0_1 l0_1.length c0_1, .slice A0_2 l0_2.length c0_2, .slice (a0_3).A (a0_3).n (a0_3).c, .slice A0_4 l0_4.length c0_4, .slice A0_5 l0_5.length c0_5, .int .i64 a0_6, .int .i64 a0_7, .int .i64 a0_8, .int .i64 a0_9, .string a0_10, .int .i64 a0_11, .int .i64 a0_12, .int .i64 a0_13, .bool a0_14], .string a1] w fun e w' => e = .returned (.tuple #[.string r1, .bool r2]) ∧ Below w.heap.size w w' := by
 have hu30 := Tryd.underlying30
 have hu42 := Tryd.underlying42
 have HAMB := Aside0.mk hamb
 clear hamb
 have HR0_1 := Aside0.mk hr0_1
 have HC0_1 := Aside0.mk hc0_1
 clear hr0_1 hc0_1
 have HR0_2 := Aside0.mk hr0_2
 have HC0_2 := Aside0.mk hc0_2
 clear hr0_2 hc0_2
 have HR0_4 := Aside0.mk hr0_4
 have HC0_4 := Aside0.mk hc0_4
 clear hr0_4 hc0_4
 have HR0_5 := Aside0.mk hr0_5
 have HC0_5 := Aside0.mk hc0_5
 clear hr0_5 hc0_5
 have HB := Aside0.mk (Below.refl w.heap.size w)
 have H : (if a1.toList = ([48] : List UInt8) then (some (a0_0, true)) else (if a1.toList = ([35] : List UInt8) then ((strconv_Itoa.f (l0_2.length : Int)).bind fun t159 => (some (t159, true))) else (if a1.toList = ([63] : List UInt8) then ((strconv_Itoa.f a0_7).bind fun t160 => (some (t160, true))) else (if a1.toList = ([45] : List UInt8) then ((param_flags.f a0_6).bind fun t161 => (some (t161, true))) else (if a1.toList = ([36] : List UInt8) then ((strconv_Itoa.f a0_8).bind fun t162 => (some (t162, true))) else (if a1.toList = ([33] : List UInt8) then (if a0_9 = 0 then (some ((⟨#[]⟩ : ByteArray), false)) else ((strconv_Itoa.f a0_9).bind fun t163 => (some (t163, true)))) else (if a1.toList = ([64] : List UInt8) then ((strings_Join.f l0_2 (⟨#[32]⟩ : ByteArray)).bind fun t164 => (some (t164, decide ((l0_2.length : Int) > 0)))) else (if a1.toList = ([42] : List UInt8) then ((param_separator.f k l0_1).bind fun t165 => ((strings_Join.f l0_2 t165).bind fun t166 => (some (t166, decide ((l0_2.length : Int) > 0))))) else ((param_position.f a1).bind fun bt167 => (if bt167.2 = true then (if bt167.1 > (l0_2.length : Int) then (some ((⟨#[]⟩ : ByteArray), false)) else (if 0 ≤ (wrap64 (bt167.1 - 1)) then (if (wrap64 (bt167.1 - 1)) < (l0_2.length : Int) then (some (rdOf ByteArray.empty l0_2 (wrap64 (bt167.1 - 1)), true)) else (none)) else (none))) else ((vars_Get.f k l0_1 a1).bind fun bt170 => (if bt170.2.2.2.2.2 = true then (if bt170.2.2.1 = true then ((chars_Name.f a1).bind fun t177 => (if t177 = true then (some (bt170.2.1, true)) else (some ((⟨#[]⟩ : ByteArray), false)))) else (some ((⟨#[]⟩ : ByteArray), false))) else (some ((⟨#[]⟩ : ByteArray), false)))))))))))))) = some (r1, r2) := h
 clear h
 by_cases c3 : a1.toList = ([48] : List UInt8)
 ·rw [if_pos c3] at H
  have c3b0 : (a1.toList == ([48] : List UInt8)) = true := beq_iff_eq.mpr c3
  have c3b1 : (a1.toList != ([48] : List UInt8)) = false := bne_eq_false_iff_eq.mpr c3
  clear c3
  simp only [Option.some.injEq, Prod.mk.injEq] at H
  obtain ⟨rfl, rfl⟩ := H
  go_enter Tryd.func20, Tryd.ntmps20
  go_wp2_with (first | ((with_reducible refine gate_dst (N := 2) rfl ?_); refine box_event ?hg (N := 2) ?hd (cs := #[.string a0_0, .slice A0_1 l0_1.length c0_1, .slice A0_2 l0_2.length c0_2, .slice (a0_3).A (a0_3).n (a0_3).c, .slice A0_4 l0_4.length c0_4, .slice A0_5 l0_5.length c0_5, .int .i64 a0_6, .int .i64 a0_7, .int .i64 a0_8, .int .i64 a0_9, .string a0_10, .int .i64 a0_11, .int .i64 a0_12, .int .i64 a0_13, .bool a0_14]) (t := 30) ?hr ?_; (case hd => rfl); (case hg => rfl); (case hr => first | (go_simp; done) | (go_simp; rfl)); intro gb158 hg w4 hbox hb; have n0_ := Aside0.mk (below_step (by repeat (first | (with_reducible first | exact HB.out | apply below_alloc | apply pw_below_drewN | apply below_drew1) | exact HB.out)) hb); have n1_ := Aside0.mk (hbox); have n2_ := Aside0.mk ((by rw [hg]; exact (below_size (by repeat (first | (with_reducible first | exact HB.out | apply below_alloc | apply pw_below_drewN | apply below_drew1) | exact HB.out))) : w.heap.size ≤ gb158)); have n3_ := Aside0.mk ((by rw [hg]; exact (below_size (by repeat (first | (with_reducible first | exact HB.out | apply below_alloc | apply pw_below_drewN | apply below_drew1) | exact HB.out))) : w.heap.size ≤ gb158)); clear HB; have HB := n0_; have BK158 := n1_; have GW158 := n2_; have GE158 := n3_; clear n0_ n1_ n2_ n3_; clear hb hbox hg; have hcz5_0 : w4.cell? ⟨gb158, 0, none⟩ = some (.string a0_0) := (blk_cell BK158.out 0).trans rfl; have hcz5_1 : w4.cell? ⟨gb158, 1, none⟩ = some (.slice A0_1 l0_1.length c0_1) := (blk_cell BK158.out 1).trans rfl; have hcz5_2 : w4.cell? ⟨gb158, 2, none⟩ = some (.slice A0_2 l0_2.length c0_2) := (blk_cell BK158.out 2).trans rfl; have hcz5_3 : w4.cell? ⟨gb158, 3, none⟩ = some (.slice (a0_3).A (a0_3).n (a0_3).c) := (blk_cell BK158.out 3).trans rfl; have hcz5_4 : w4.cell? ⟨gb158, 4, none⟩ = some (.slice A0_4 l0_4.length c0_4) := (blk_cell BK158.out 4).trans rfl; have hcz5_5 : w4.cell? ⟨gb158, 5, none⟩ = some (.slice A0_5 l0_5.length c0_5) := (blk_cell BK158.out 5).trans rfl; have hcz5_6 : w4.cell? ⟨gb158, 6, none⟩ = some (.int .i64 a0_6) := (blk_cell BK158.out 6).trans rfl; have hcz5_7 : w4.cell? ⟨gb158, 7, none⟩ = some (.int .i64 a0_7) := (blk_cell BK158.out 7).trans rfl; have hcz5_8 : w4.cell? ⟨gb158, 8, none⟩ = some (.int .i64 a0_8) := (blk_cell BK158.out 8).trans rfl; have hcz5_9 : w4.cell? ⟨gb158, 9, none⟩ = some (.int .i64 a0_9) := (blk_cell BK158.out 9).trans rfl; have hcz5_10 : w4.cell? ⟨gb158, 10, none⟩ = some (.string a0_10) := (blk_cell BK158.out 10).trans rfl; have hcz5_11 : w4.cell? ⟨gb158, 11, none⟩ = some (.int .i64 a0_11) := (blk_cell BK158.out 11).trans rfl; have hcz5_12 : w4.cell? ⟨gb158, 12, none⟩ = some (.int .i64 a0_12) := (blk_cell BK158.out 12).trans rfl; have hcz5_13 : w4.cell? ⟨gb158, 13, none⟩ = some (.int .i64 a0_13) := (blk_cell BK158.out 13).trans rfl; have hcz5_14 : w4.cell? ⟨gb158, 14, none⟩ = some (.bool a0_14) := (blk_cell BK158.out 14).trans rfl; have hfz5_0 := blk_frozen BK158.out 0; have hfz5_1 := blk_frozen BK158.out 1; have hfz5_2 := blk_frozen BK158.out 2; have hfz5_3 := blk_frozen BK158.out 3; have hfz5_4 := blk_frozen BK158.out 4; have hfz5_5 := blk_frozen BK158.out 5; have hfz5_6 := blk_frozen BK158.out 6; have hfz5_7 := blk_frozen BK158.out 7; have hfz5_8 := blk_frozen BK158.out 8; have hfz5_9 := blk_frozen BK158.out 9; have hfz5_10 := blk_frozen BK158.out 10; have hfz5_11 := blk_frozen BK158.out 11; have hfz5_12 := blk_frozen BK158.out 12; have hfz5_13 := blk_frozen BK158.out 13; have hfz5_14 := blk_frozen BK158.out 14))
  go_ret2
  exact ⟨by first | rfl | (simp [errW_none, errW_some] <;> rfl) | (simp [*, errW_none, errW_some] <;> rfl), by repeat (first | (with_reducible first | exact HB.out | apply below_alloc | apply pw_below_drewN | apply below_drew1 | refine below_set ?_ GE158.out) | exact HB.out)⟩
 ·rw [if_neg c3] at H
  have c3b0 : (a1.toList == ([48] : List UInt8)) = false := beq_eq_false_iff_ne.mpr c3
  have c3b1 : (a1.toList != ([48] : List UInt8)) = true := bne_iff_ne.mpr c3
  by_cases c6 : a1.toList = ([35] : List UInt8)
  ·rw [if_pos c6] at H
   have c6b0 : (a1.toList == ([35] : List UInt8)) = true := beq_iff_eq.mpr c6
   have c6b1 : (a1.toList != ([35] : List UInt8)) = false := bne_eq_false_iff_eq.mpr c6
   clear c6
   replace H := Option.bind_eq_some_iff.mp H
   obtain ⟨t159, A70, H⟩ := H
   replace H : (some (t159, true)) = some (r1, r2) := H
   have A7 := Aside0.mk A70
   clear A70
   simp only [Option.some.injEq, Prod.mk.injEq] at H
   obtain ⟨rfl, rfl⟩ := H
   go_enter Tryd.func20, Tryd.ntmps20
   go_wp2_with (first | ((with_reducible refine gate_dst (N := 2) rfl ?_); refine box_event ?hg (N := 2) ?hd (cs := #[.string a0_0, .slice A0_1 l0_1.length c0_1, .slice A0_2 l0_2.length c0_2, .slice (a0_3).A (a0_3).n (a0_3).c, .slice A0_4 l0_4.length c0_4, .slice A0_5 l0_5.length c0_5, .int .i64 a0_6, .int .i64 a0_7, .int .i64 a0_8, .int .i64 a0_9, .string a0_10, .int .i64 a0_11, .int .i64 a0_12, .int .i64 a0_13, .bool a0_14]) (t := 30) ?hr ?_; (case hd => rfl); (case hg => rfl); (case hr => first | (go_simp; done) | (go_simp; rfl)); intro gb158 hg w8 hbox hb; have n0_ := Aside0.mk (below_step (by repeat (first | (with_reducible first | exact HB.out | apply below_alloc | apply pw_below_drewN | apply below_drew1) | exact HB.out)) hb); have n1_ := Aside0.mk (hbox); have n2_ := Aside0.mk ((by rw [hg]; exact (below_size (by repeat (first | (with_reducible first | exact HB.out | apply below_alloc | apply pw_below_drewN | apply below_drew1) | exact HB.out))) : w.heap.size ≤ gb158)); have n3_ := Aside0.mk ((by rw [hg]; exact (below_size (by repeat (first | (with_reducible first | exact HB.out | apply below_alloc | apply pw_below_drewN | apply below_drew1) | exact HB.out))) : w.heap.size ≤ gb158)); clear HB; have HB := n0_; have BK158 := n1_; have GW158 := n2_; have GE158 := n3_; clear n0_ n1_ n2_ n3_; clear hb hbox hg; have hcz9_0 : w8.cell? ⟨gb158, 0, none⟩ = some (.string a0_0) := (blk_cell BK158.out 0).trans rfl; have hcz9_1 : w8.cell? ⟨gb158, 1, none⟩ = some (.slice A0_1 l0_1.length c0_1) := (blk_cell BK158.out 1).trans rfl; have hcz9_2 : w8.cell? ⟨gb158, 2, none⟩ = some (.slice A0_2 l0_2.length c0_2) := (blk_cell BK158.out 2).trans rfl; have hcz9_3 : w8.cell? ⟨gb158, 3, none⟩ = some (.slice (a0_3).A (a0_3).n (a0_3).c) := (blk_cell BK158.out 3).trans rfl; have hcz9_4 : w8.cell? ⟨gb158, 4, none⟩ = some (.slice A0_4 l0_4.length c0_4) := (blk_cell BK158.out 4).trans rfl; have hcz9_5 : w8.cell? ⟨gb158, 5, none⟩ = some (.slice A0_5 l0_5.length c0_5) := (blk_cell BK158.out 5).trans rfl; have hcz9_6 : w8.cell? ⟨gb158, 6, none⟩ = some (.int .i64 a0_6) := (blk_cell BK158.out 6).trans rfl; have hcz9_7 : w8.cell? ⟨gb158, 7, none⟩ = some (.int .i64 a0_7) := (blk_cell BK158.out 7).trans rfl; have hcz9_8 : w8.cell? ⟨gb158, 8, none⟩ = some (.int .i64 a0_8) := (blk_cell BK158.out 8).trans rfl; have hcz9_9 : w8.cell? ⟨gb158, 9, none⟩ = some (.int .i64 a0_9) := (blk_cell BK158.out 9).trans rfl; have hcz9_10 : w8.cell? ⟨gb158, 10, none⟩ = some (.string a0_10) := (blk_cell BK158.out 10).trans rfl; have hcz9_11 : w8.cell? ⟨gb158, 11, none⟩ = some (.int .i64 a0_11) := (blk_cell BK158.out 11).trans rfl; have hcz9_12 : w8.cell? ⟨gb158, 12, none⟩ = some (.int .i64 a0_12) := (blk_cell BK158.out 12).trans rfl; have hcz9_13 : w8.cell? ⟨gb158, 13, none⟩ = some (.int .i64 a0_13) := (blk_cell BK158.out 13).trans rfl; have hcz9_14 : w8.cell? ⟨gb158, 14, none⟩ = some (.bool a0_14) := (blk_cell BK158.out 14).trans rfl; have hfz9_0 := blk_frozen BK158.out 0; have hfz9_1 := blk_frozen BK158.out 1; have hfz9_2 := blk_frozen BK158.out 2; have hfz9_3 := blk_frozen BK158.out 3; have hfz9_4 := blk_frozen BK158.out 4; have hfz9_5 := blk_frozen BK158.out 5; have hfz9_6 := blk_frozen BK158.out 6; have hfz9_7 := blk_frozen BK158.out 7; have hfz9_8 := blk_frozen BK158.out 8; have hfz9_9 := blk_frozen BK158.out 9; have hfz9_10 := blk_frozen BK158.out 10; have hfz9_11 := blk_frozen BK158.out 11; have hfz9_12 := blk_frozen BK158.out 12; have hfz9_13 := blk_frozen BK158.out 13; have hfz9_14 := blk_frozen BK158.out 14) | ((with_reducible refine gate_callee (f := 21) rfl ?_); refine goesL_ (some 20) rfl rfl Tryd.func21 (by kernel_rfl) rfl #[.int .i64 (l0_2.length : Int)] rfl (by (try simp only [List.map_toArray, List.map_cons, List.map_nil]); first | done | rfl | (simp only [List.length_drop, List.length_take]; rfl)) ?_; (with_reducible refine (strconv_Itoa.calls (l0_2.length : Int) t159 _ ?side1 A7.out).mono ?_); (case side1 => repeat (first | exact (AmbC_below HAMB.out HB.out) | (with_reducible refine AmbC_alloc ?_ _) | (with_reducible refine AmbC_drewN ?_ _) | (with_reducible refine AmbC_drew ?_))); rintro e w10 ⟨rfl, hb⟩; refine ⟨_, rfl, ?_⟩; have n0_ := Aside0.mk (blk_below (g := gb158) (o := .cells #[.string a0_0, .slice A0_1 l0_1.length c0_1, .slice A0_2 l0_2.length c0_2, .slice (a0_3).A (a0_3).n (a0_3).c, .slice A0_4 l0_4.length c0_4, .slice A0_5 l0_5.length c0_5, .int .i64 a0_6, .int .i64 a0_7, .int .i64 a0_8, .int .i64 a0_9, .string a0_10, .int .i64 a0_11, .int .i64 a0_12, .int .i64 a0_13, .bool a0_14] 30 (0, 0)) (by (with_reducible repeat (first | refine blk_drewN ?_ _ | refine blk_drew ?_ | refine blk_alloc ?_ _)); exact BK158.out) hb); have n1_ := Aside0.mk (below_step (by repeat (first | (with_reducible first | exact HB.out | apply below_alloc | apply pw_below_drewN | apply below_drew1 | refine below_set ?_ GE158.out) | exact HB.out)) hb); clear BK158; clear HB; have BK158 := n0_; have HB := n1_; clear n0_ n1_; (try clear hb); (try clear hb2); (try clear hk); (try clear hi)))
   go_ret2
   exact ⟨by first | rfl | (simp [errW_none, errW_some] <;> rfl) | (simp [*, errW_none, errW_some] <;> rfl), by repeat (first | (with_reducible first | exact HB.out | apply below_alloc | apply pw_below_drewN | apply below_drew1 | refine below_set ?_ GE158.out) | exact HB.out)⟩
  ·rw [if_neg c6] at H
   have c6b0 : (a1.toList == ([35] : List UInt8)) = false := beq_eq_false_iff_ne.mpr c6
   have c6b1 : (a1.toList != ([35] : List UInt8)) = true := bne_iff_ne.mpr c6
   by_cases c11 : a1.toList = ([63] : List UInt8)
   ·rw [if_pos c11] at H
    have c11b0 : (a1.toList == ([63] : List UInt8)) = true := beq_iff_eq.mpr c11
    have c11b1 : (a1.toList != ([63] : List UInt8)) = false := bne_eq_false_iff_eq.mpr c11
    clear c11
    replace H := Option.bind_eq_some_iff.mp H
    obtain ⟨t160, A120, H⟩ := H
    replace H : (some (t160, true)) = some (r1, r2) := H
    have A12 := Aside0.mk A120
    clear A120
    simp only [Option.some.injEq, Prod.mk.injEq] at H
    obtain ⟨rfl, rfl⟩ := H
    go_enter Tryd.func20, Tryd.ntmps20
    go_wp2_with (first | ((with_reducible refine gate_dst (N := 2) rfl ?_); refine box_event ?hg (N := 2) ?hd (cs := #[.string a0_0, .slice A0_1 l0_1.length c0_1, .slice A0_2 l0_2.length c0_2, .slice (a0_3).A (a0_3).n (a0_3).c, .slice A0_4 l0_4.length c0_4, .slice A0_5 l0_5.length c0_5, .int .i64 a0_6, .int .i64 a0_7, .int .i64 a0_8, .int .i64 a0_9, .string a0_10, .int .i64 a0_11, .int .i64 a0_12, .int .i64 a0_13, .bool a0_14]) (t := 30) ?hr ?_; (case hd => rfl); (case hg => rfl); (case hr => first | (go_simp; done) | (go_simp; rfl)); intro gb158 hg w13 hbox hb; have n0_ := Aside0.mk (below_step (by repeat (first | (with_reducible first | exact HB.out | apply below_alloc | apply pw_below_drewN | apply below_drew1) | exact HB.out)) hb); have n1_ := Aside0.mk (hbox); have n2_ := Aside0.mk ((by rw [hg]; exact (below_size (by repeat (first | (with_reducible first | exact HB.out | apply below_alloc | apply pw_below_drewN | apply below_drew1) | exact HB.out))) : w.heap.size ≤ gb158)); have n3_ := Aside0.mk ((by rw [hg]; exact (below_size (by repeat (first | (with_reducible first | exact HB.out | apply below_alloc | apply pw_below_drewN | apply below_drew1) | exact HB.out))) : w.heap.size ≤ gb158)); clear HB; have HB := n0_; have BK158 := n1_; have GW158 := n2_; have GE158 := n3_; clear n0_ n1_ n2_ n3_; clear hb hbox hg; have hcz14_0 : w13.cell? ⟨gb158, 0, none⟩ = some (.string a0_0) := (blk_cell BK158.out 0).trans rfl; have hcz14_1 : w13.cell? ⟨gb158, 1, none⟩ = some (.slice A0_1 l0_1.length c0_1) := (blk_cell BK158.out 1).trans rfl; have hcz14_2 : w13.cell? ⟨gb158, 2, none⟩ = some (.slice A0_2 l0_2.length c0_2) := (blk_cell BK158.out 2).trans rfl; have hcz14_3 : w13.cell? ⟨gb158, 3, none⟩ = some (.slice (a0_3).A (a0_3).n (a0_3).c) := (blk_cell BK158.out 3).trans rfl; have hcz14_4 : w13.cell? ⟨gb158, 4, none⟩ = some (.slice A0_4 l0_4.length c0_4) := (blk_cell BK158.out 4).trans rfl; have hcz14_5 : w13.cell? ⟨gb158, 5, none⟩ = some (.slice A0_5 l0_5.length c0_5) := (blk_cell BK158.out 5).trans rfl; have hcz14_6 : w13.cell? ⟨gb158, 6, none⟩ = some (.int .i64 a0_6) := (blk_cell BK158.out 6).trans rfl; have hcz14_7 : w13.cell? ⟨gb158, 7, none⟩ = some (.int .i64 a0_7) := (blk_cell BK158.out 7).trans rfl; have hcz14_8 : w13.cell? ⟨gb158, 8, none⟩ = some (.int .i64 a0_8) := (blk_cell BK158.out 8).trans rfl; have hcz14_9 : w13.cell? ⟨gb158, 9, none⟩ = some (.int .i64 a0_9) := (blk_cell BK158.out 9).trans rfl; have hcz14_10 : w13.cell? ⟨gb158, 10, none⟩ = some (.string a0_10) := (blk_cell BK158.out 10).trans rfl; have hcz14_11 : w13.cell? ⟨gb158, 11, none⟩ = some (.int .i64 a0_11) := (blk_cell BK158.out 11).trans rfl; have hcz14_12 : w13.cell? ⟨gb158, 12, none⟩ = some (.int .i64 a0_12) := (blk_cell BK158.out 12).trans rfl; have hcz14_13 : w13.cell? ⟨gb158, 13, none⟩ = some (.int .i64 a0_13) := (blk_cell BK158.out 13).trans rfl; have hcz14_14 : w13.cell? ⟨gb158, 14, none⟩ = some (.bool a0_14) := (blk_cell BK158.out 14).trans rfl; have hfz14_0 := blk_frozen BK158.out 0; have hfz14_1 := blk_frozen BK158.out 1; have hfz14_2 := blk_frozen BK158.out 2; have hfz14_3 := blk_frozen BK158.out 3; have hfz14_4 := blk_frozen BK158.out 4; have hfz14_5 := blk_frozen BK158.out 5; have hfz14_6 := blk_frozen BK158.out 6; have hfz14_7 := blk_frozen BK158.out 7; have hfz14_8 := blk_frozen BK158.out 8; have hfz14_9 := blk_frozen BK158.out 9; have hfz14_10 := blk_frozen BK158.out 10; have hfz14_11 := blk_frozen BK158.out 11; have hfz14_12 := blk_frozen BK158.out 12; have hfz14_13 := blk_frozen BK158.out 13; have hfz14_14 := blk_frozen BK158.out 14) | ((with_reducible refine gate_callee (f := 21) rfl ?_); refine goesL_ (some 25) rfl rfl Tryd.func21 (by kernel_rfl) rfl #[.int .i64 a0_7] rfl (by (try simp only [List.map_toArray, List.map_cons, List.map_nil]); first | done | rfl | (simp only [List.length_drop, List.length_take]; rfl)) ?_; (with_reducible refine (strconv_Itoa.calls a0_7 t160 _ ?side1 A12.out).mono ?_); (case side1 => repeat (first | exact (AmbC_below HAMB.out HB.out) | (with_reducible refine AmbC_alloc ?_ _) | (with_reducible refine AmbC_drewN ?_ _) | (with_reducible refine AmbC_drew ?_))); rintro e w15 ⟨rfl, hb⟩; refine ⟨_, rfl, ?_⟩; have n0_ := Aside0.mk (blk_below (g := gb158) (o := .cells #[.string a0_0, .slice A0_1 l0_1.length c0_1, .slice A0_2 l0_2.length c0_2, .slice (a0_3).A (a0_3).n (a0_3).c, .slice A0_4 l0_4.length c0_4, .slice A0_5 l0_5.length c0_5, .int .i64 a0_6, .int .i64 a0_7, .int .i64 a0_8, .int .i64 a0_9, .string a0_10, .int .i64 a0_11, .int .i64 a0_12, .int .i64 a0_13, .bool a0_14] 30 (0, 0)) (by (with_reducible repeat (first | refine blk_drewN ?_ _ | refine blk_drew ?_ | refine blk_alloc ?_ _)); exact BK158.out) hb); have n1_ := Aside0.mk (below_step (by repeat (first | (with_reducible first | exact HB.out | apply below_alloc | apply pw_below_drewN | apply below_drew1 | refine below_set ?_ GE158.out) | exact HB.out)) hb); clear BK158; clear HB; have BK158 := n0_; have HB := n1_; clear n0_ n1_; (try clear hb); (try clear hb2); (try clear hk); (try clear hi)))
    go_ret2
    exact ⟨by first | rfl | (simp [errW_none, errW_some] <;> rfl) | (simp [*, errW_none, errW_some] <;> rfl), by repeat (first | (with_reducible first | exact HB.out | apply below_alloc | apply pw_below_drewN | apply below_drew1 | refine below_set ?_ GE158.out) | exact HB.out)⟩
   ·rw [if_neg c11] at H
    have c11b0 : (a1.toList == ([63] : List UInt8)) = false := beq_eq_false_iff_ne.mpr c11
    have c11b1 : (a1.toList != ([63] : List UInt8)) = true := bne_iff_ne.mpr c11
    by_cases c16 : a1.toList = ([45] : List UInt8)
    ·rw [if_pos c16] at H
     have c16b0 : (a1.toList == ([45] : List UInt8)) = true := beq_iff_eq.mpr c16
     have c16b1 : (a1.toList != ([45] : List UInt8)) = false := bne_eq_false_iff_eq.mpr c16
     clear c16
     replace H := Option.bind_eq_some_iff.mp H
     obtain ⟨t161, A170, H⟩ := H
     replace H : (some (t161, true)) = some (r1, r2) := H
     have A17 := Aside0.mk A170
     clear A170
     simp only [Option.some.injEq, Prod.mk.injEq] at H
     obtain ⟨rfl, rfl⟩ := H
     go_enter Tryd.func20, Tryd.ntmps20
     go_wp2_with (first | ((with_reducible refine gate_dst (N := 2) rfl ?_); refine box_event ?hg (N := 2) ?hd (cs := #[.string a0_0, .slice A0_1 l0_1.length c0_1, .slice A0_2 l0_2.length c0_2, .slice (a0_3).A (a0_3).n (a0_3).c, .slice A0_4 l0_4.length c0_4, .slice A0_5 l0_5.length c0_5, .int .i64 a0_6, .int .i64 a0_7, .int .i64 a0_8, .int .i64 a0_9, .string a0_10, .int .i64 a0_11, .int .i64 a0_12, .int .i64 a0_13, .bool a0_14]) (t := 30) ?hr ?_; (case hd => rfl); (case hg => rfl); (case hr => first | (go_simp; done) | (go_simp; rfl)); intro gb158 hg w18 hbox hb; have n0_ := Aside0.mk (below_step (by repeat (first | (with_reducible first | exact HB.out | apply below_alloc | apply pw_below_drewN | apply below_drew1) | exact HB.out)) hb); have n1_ := Aside0.mk (hbox); have n2_ := Aside0.mk ((by rw [hg]; exact (below_size (by repeat (first | (with_reducible first | exact HB.out | apply below_alloc | apply pw_below_drewN | apply below_drew1) | exact HB.out))) : w.heap.size ≤ gb158)); have n3_ := Aside0.mk ((by rw [hg]; exact (below_size (by repeat (first | (with_reducible first | exact HB.out | apply below_alloc | apply pw_below_drewN | apply below_drew1) | exact HB.out))) : w.heap.size ≤ gb158)); clear HB; have HB := n0_; have BK158 := n1_; have GW158 := n2_; have GE158 := n3_; clear n0_ n1_ n2_ n3_; clear hb hbox hg; have hcz19_0 : w18.cell? ⟨gb158, 0, none⟩ = some (.string a0_0) := (blk_cell BK158.out 0).trans rfl; have hcz19_1 : w18.cell? ⟨gb158, 1, none⟩ = some (.slice A0_1 l0_1.length c0_1) := (blk_cell BK158.out 1).trans rfl; have hcz19_2 : w18.cell? ⟨gb158, 2, none⟩ = some (.slice A0_2 l0_2.length c0_2) := (blk_cell BK158.out 2).trans rfl; have hcz19_3 : w18.cell? ⟨gb158, 3, none⟩ = some (.slice (a0_3).A (a0_3).n (a0_3).c) := (blk_cell BK158.out 3).trans rfl; have hcz19_4 : w18.cell? ⟨gb158, 4, none⟩ = some (.slice A0_4 l0_4.length c0_4) := (blk_cell BK158.out 4).trans rfl; have hcz19_5 : w18.cell? ⟨gb158, 5, none⟩ = some (.slice A0_5 l0_5.length c0_5) := (blk_cell BK158.out 5).trans rfl; have hcz19_6 : w18.cell? ⟨gb158, 6, none⟩ = some (.int .i64 a0_6) := (blk_cell BK158.out 6).trans rfl; have hcz19_7 : w18.cell? ⟨gb158, 7, none⟩ = some (.int .i64 a0_7) := (blk_cell BK158.out 7).trans rfl; have hcz19_8 : w18.cell? ⟨gb158, 8, none⟩ = some (.int .i64 a0_8) := (blk_cell BK158.out 8).trans rfl; have hcz19_9 : w18.cell? ⟨gb158, 9, none⟩ = some (.int .i64 a0_9) := (blk_cell BK158.out 9).trans rfl; have hcz19_10 : w18.cell? ⟨gb158, 10, none⟩ = some (.string a0_10) := (blk_cell BK158.out 10).trans rfl; have hcz19_11 : w18.cell? ⟨gb158, 11, none⟩ = some (.int .i64 a0_11) := (blk_cell BK158.out 11).trans rfl; have hcz19_12 : w18.cell? ⟨gb158, 12, none⟩ = some (.int .i64 a0_12) := (blk_cell BK158.out 12).trans rfl; have hcz19_13 : w18.cell? ⟨gb158, 13, none⟩ = some (.int .i64 a0_13) := (blk_cell BK158.out 13).trans rfl; have hcz19_14 : w18.cell? ⟨gb158, 14, none⟩ = some (.bool a0_14) := (blk_cell BK158.out 14).trans rfl; have hfz19_0 := blk_frozen BK158.out 0; have hfz19_1 := blk_frozen BK158.out 1; have hfz19_2 := blk_frozen BK158.out 2; have hfz19_3 := blk_frozen BK158.out 3; have hfz19_4 := blk_frozen BK158.out 4; have hfz19_5 := blk_frozen BK158.out 5; have hfz19_6 := blk_frozen BK158.out 6; have hfz19_7 := blk_frozen BK158.out 7; have hfz19_8 := blk_frozen BK158.out 8; have hfz19_9 := blk_frozen BK158.out 9; have hfz19_10 := blk_frozen BK158.out 10; have hfz19_11 := blk_frozen BK158.out 11; have hfz19_12 := blk_frozen BK158.out 12; have hfz19_13 := blk_frozen BK158.out 13; have hfz19_14 := blk_frozen BK158.out 14) | ((with_reducible refine gate_callee (f := 33) rfl ?_); refine goesL_ (some 30) rfl rfl Tryd.func33 (by kernel_rfl) rfl #[.int .i64 a0_6] rfl (by (try simp only [List.map_toArray, List.map_cons, List.map_nil]); first | done | rfl | (simp only [List.length_drop, List.length_take]; rfl)) ?_; (with_reducible refine (param_flags.calls a0_6 t161 _ A17.out).mono ?_); rintro e w20 ⟨rfl, hb⟩; refine ⟨_, rfl, ?_⟩; have n0_ := Aside0.mk (blk_below (g := gb158) (o := .cells #[.string a0_0, .slice A0_1 l0_1.length c0_1, .slice A0_2 l0_2.length c0_2, .slice (a0_3).A (a0_3).n (a0_3).c, .slice A0_4 l0_4.length c0_4, .slice A0_5 l0_5.length c0_5, .int .i64 a0_6, .int .i64 a0_7, .int .i64 a0_8, .int .i64 a0_9, .string a0_10, .int .i64 a0_11, .int .i64 a0_12, .int .i64 a0_13, .bool a0_14] 30 (0, 0)) (by (with_reducible repeat (first | refine blk_drewN ?_ _ | refine blk_drew ?_ | refine blk_alloc ?_ _)); exact BK158.out) hb); have n1_ := Aside0.mk (below_step (by repeat (first | (with_reducible first | exact HB.out | apply below_alloc | apply pw_below_drewN | apply below_drew1 | refine below_set ?_ GE158.out) | exact HB.out)) hb); clear BK158; clear HB; have BK158 := n0_; have HB := n1_; clear n0_ n1_; (try clear hb); (try clear hb2); (try clear hk); (try clear hi)))
     go_ret2
     exact ⟨by first | rfl | (simp [errW_none, errW_some] <;> rfl) | (simp [*, errW_none, errW_some] <;> rfl), by repeat (first | (with_reducible first | exact HB.out | apply below_alloc | apply pw_below_drewN | apply below_drew1 | refine below_set ?_ GE158.out) | exact HB.out)⟩
    ·rw [if_neg c16] at H
     have c16b0 : (a1.toList == ([45] : List UInt8)) = false := beq_eq_false_iff_ne.mpr c16
     have c16b1 : (a1.toList != ([45] : List UInt8)) = true := bne_iff_ne.mpr c16
     by_cases c21 : a1.toList = ([36] : List UInt8)
     ·rw [if_pos c21] at H
      have c21b0 : (a1.toList == ([36] : List UInt8)) = true := beq_iff_eq.mpr c21
      have c21b1 : (a1.toList != ([36] : List UInt8)) = false := bne_eq_false_iff_eq.mpr c21
      clear c21
      replace H := Option.bind_eq_some_iff.mp H
      obtain ⟨t162, A220, H⟩ := H
      replace H : (some (t162, true)) = some (r1, r2) := H
      have A22 := Aside0.mk A220
      clear A220
      simp only [Option.some.injEq, Prod.mk.injEq] at H
      obtain ⟨rfl, rfl⟩ := H
      go_enter Tryd.func20, Tryd.ntmps20
      go_wp2_with (first | ((with_reducible refine gate_dst (N := 2) rfl ?_); refine box_event ?hg (N := 2) ?hd (cs := #[.string a0_0, .slice A0_1 l0_1.length c0_1, .slice A0_2 l0_2.length c0_2, .slice (a0_3).A (a0_3).n (a0_3).c, .slice A0_4 l0_4.length c0_4, .slice A0_5 l0_5.length c0_5, .int .i64 a0_6, .int .i64 a0_7, .int .i64 a0_8, .int .i64 a0_9, .string a0_10, .int .i64 a0_11, .int .i64 a0_12, .int .i64 a0_13, .bool a0_14]) (t := 30) ?hr ?_; (case hd => rfl); (case hg => rfl); (case hr => first | (go_simp; done) | (go_simp; rfl)); intro gb158 hg w23 hbox hb; have n0_ := Aside0.mk (below_step (by repeat (first | (with_reducible first | exact HB.out | apply below_alloc | apply pw_below_drewN | apply below_drew1) | exact HB.out)) hb); have n1_ := Aside0.mk (hbox); have n2_ := Aside0.mk ((by rw [hg]; exact (below_size (by repeat (first | (with_reducible first | exact HB.out | apply below_alloc | apply pw_below_drewN | apply below_drew1) | exact HB.out))) : w.heap.size ≤ gb158)); have n3_ := Aside0.mk ((by rw [hg]; exact (below_size (by repeat (first | (with_reducible first | exact HB.out | apply below_alloc | apply pw_below_drewN | apply below_drew1) | exact HB.out))) : w.heap.size ≤ gb158)); clear HB; have HB := n0_; have BK158 := n1_; have GW158 := n2_; have GE158 := n3_; clear n0_ n1_ n2_ n3_; clear hb hbox hg; have hcz24_0 : w23.cell? ⟨gb158, 0, none⟩ = some (.string a0_0) := (blk_cell BK158.out 0).trans rfl; have hcz24_1 : w23.cell? ⟨gb158, 1, none⟩ = some (.slice A0_1 l0_1.length c0_1) := (blk_cell BK158.out 1).trans rfl; have hcz24_2 : w23.cell? ⟨gb158, 2, none⟩ = some (.slice A0_2 l0_2.length c0_2) := (blk_cell BK158.out 2).trans rfl; have hcz24_3 : w23.cell? ⟨gb158, 3, none⟩ = some (.slice (a0_3).A (a0_3).n (a0_3).c) := (blk_cell BK158.out 3).trans rfl; have hcz24_4 : w23.cell? ⟨gb158, 4, none⟩ = some (.slice A0_4 l0_4.length c0_4) := (blk_cell BK158.out 4).trans rfl; have hcz24_5 : w23.cell? ⟨gb158, 5, none⟩ = some (.slice A0_5 l0_5.length c0_5) := (blk_cell BK158.out 5).trans rfl; have hcz24_6 : w23.cell? ⟨gb158, 6, none⟩ = some (.int .i64 a0_6) := (blk_cell BK158.out 6).trans rfl; have hcz24_7 : w23.cell? ⟨gb158, 7, none⟩ = some (.int .i64 a0_7) := (blk_cell BK158.out 7).trans rfl; have hcz24_8 : w23.cell? ⟨gb158, 8, none⟩ = some (.int .i64 a0_8) := (blk_cell BK158.out 8).trans rfl; have hcz24_9 : w23.cell? ⟨gb158, 9, none⟩ = some (.int .i64 a0_9) := (blk_cell BK158.out 9).trans rfl; have hcz24_10 : w23.cell? ⟨gb158, 10, none⟩ = some (.string a0_10) := (blk_cell BK158.out 10).trans rfl; have hcz24_11 : w23.cell? ⟨gb158, 11, none⟩ = some (.int .i64 a0_11) := (blk_cell BK158.out 11).trans rfl; have hcz24_12 : w23.cell? ⟨gb158, 12, none⟩ = some (.int .i64 a0_12) := (blk_cell BK158.out 12).trans rfl; have hcz24_13 : w23.cell? ⟨gb158, 13, none⟩ = some (.int .i64 a0_13) := (blk_cell BK158.out 13).trans rfl; have hcz24_14 : w23.cell? ⟨gb158, 14, none⟩ = some (.bool a0_14) := (blk_cell BK158.out 14).trans rfl; have hfz24_0 := blk_frozen BK158.out 0; have hfz24_1 := blk_frozen BK158.out 1; have hfz24_2 := blk_frozen BK158.out 2; have hfz24_3 := blk_frozen BK158.out 3; have hfz24_4 := blk_frozen BK158.out 4; have hfz24_5 := blk_frozen BK158.out 5; have hfz24_6 := blk_frozen BK158.out 6; have hfz24_7 := blk_frozen BK158.out 7; have hfz24_8 := blk_frozen BK158.out 8; have hfz24_9 := blk_frozen BK158.out 9; have hfz24_10 := blk_frozen BK158.out 10; have hfz24_11 := blk_frozen BK158.out 11; have hfz24_12 := blk_frozen BK158.out 12; have hfz24_13 := blk_frozen BK158.out 13; have hfz24_14 := blk_frozen BK158.out 14) | ((with_reducible refine gate_callee (f := 21) rfl ?_); refine goesL_ (some 35) rfl rfl Tryd.func21 (by kernel_rfl) rfl #[.int .i64 a0_8] rfl (by (try simp only [List.map_toArray, List.map_cons, List.map_nil]); first | done | rfl | (simp only [List.length_drop, List.length_take]; rfl)) ?_; (with_reducible refine (strconv_Itoa.calls a0_8 t162 _ ?side1 A22.out).mono ?_); (case side1 => repeat (first | exact (AmbC_below HAMB.out HB.out) | (with_reducible refine AmbC_alloc ?_ _) | (with_reducible refine AmbC_drewN ?_ _) | (with_reducible refine AmbC_drew ?_))); rintro e w25 ⟨rfl, hb⟩; refine ⟨_, rfl, ?_⟩; have n0_ := Aside0.mk (blk_below (g := gb158) (o := .cells #[.string a0_0, .slice A0_1 l0_1.length c0_1, .slice A0_2 l0_2.length c0_2, .slice (a0_3).A (a0_3).n (a0_3).c, .slice A0_4 l0_4.length c0_4, .slice A0_5 l0_5.length c0_5, .int .i64 a0_6, .int .i64 a0_7, .int .i64 a0_8, .int .i64 a0_9, .string a0_10, .int .i64 a0_11, .int .i64 a0_12, .int .i64 a0_13, .bool a0_14] 30 (0, 0)) (by (with_reducible repeat (first | refine blk_drewN ?_ _ | refine blk_drew ?_ | refine blk_alloc ?_ _)); exact BK158.out) hb); have n1_ := Aside0.mk (below_step (by repeat (first | (with_reducible first | exact HB.out | apply below_alloc | apply pw_below_drewN | apply below_drew1 | refine below_set ?_ GE158.out) | exact HB.out)) hb); clear BK158; clear HB; have BK158 := n0_; have HB := n1_; clear n0_ n1_; (try clear hb); (try clear hb2); (try clear hk); (try clear hi)))
      go_ret2
      exact ⟨by first | rfl | (simp [errW_none, errW_some] <;> rfl) | (simp [*, errW_none, errW_some] <;> rfl), by repeat (first | (with_reducible first | exact HB.out | apply below_alloc | apply pw_below_drewN | apply below_drew1 | refine below_set ?_ GE158.out) | exact HB.out)⟩
     ·rw [if_neg c21] at H
      have c21b0 : (a1.toList == ([36] : List UInt8)) = false := beq_eq_false_iff_ne.mpr c21
      have c21b1 : (a1.toList != ([36] : List UInt8)) = true := bne_iff_ne.mpr c21
      by_cases c26 : a1.toList = ([33] : List UInt8)
      ·rw [if_pos c26] at H
       have c26b0 : (a1.toList == ([33] : List UInt8)) = true := beq_iff_eq.mpr c26
       have c26b1 : (a1.toList != ([33] : List UInt8)) = false := bne_eq_false_iff_eq.mpr c26
       clear c26
       by_cases c27 : a0_9 = 0
       ·rw [if_pos c27] at H
        have c27b0 : (a0_9 == 0) = true := beq_iff_eq.mpr c27
        have c27b1 : (a0_9 != 0) = false := bne_eq_false_iff_eq.mpr c27
        clear c27
        simp only [Option.some.injEq, Prod.mk.injEq] at H
        obtain ⟨rfl, rfl⟩ := H
        go_enter Tryd.func20, Tryd.ntmps20
        go_wp2_with (first | ((with_reducible refine gate_dst (N := 2) rfl ?_); refine box_event ?hg (N := 2) ?hd (cs := #[.string a0_0, .slice A0_1 l0_1.length c0_1, .slice A0_2 l0_2.length c0_2, .slice (a0_3).A (a0_3).n (a0_3).c, .slice A0_4 l0_4.length c0_4, .slice A0_5 l0_5.length c0_5, .int .i64 a0_6, .int .i64 a0_7, .int .i64 a0_8, .int .i64 a0_9, .string a0_10, .int .i64 a0_11, .int .i64 a0_12, .int .i64 a0_13, .bool a0_14]) (t := 30) ?hr ?_; (case hd => rfl); (case hg => rfl); (case hr => first | (go_simp; done) | (go_simp; rfl)); intro gb158 hg w28 hbox hb; have n0_ := Aside0.mk (below_step (by repeat (first | (with_reducible first | exact HB.out | apply below_alloc | apply pw_below_drewN | apply below_drew1) | exact HB.out)) hb); have n1_ := Aside0.mk (hbox); have n2_ := Aside0.mk ((by rw [hg]; exact (below_size (by repeat (first | (with_reducible first | exact HB.out | apply below_alloc | apply pw_below_drewN | apply below_drew1) | exact HB.out))) : w.heap.size ≤ gb158)); have n3_ := Aside0.mk ((by rw [hg]; exact (below_size (by repeat (first | (with_reducible first | exact HB.out | apply below_alloc | apply pw_below_drewN | apply below_drew1) | exact HB.out))) : w.heap.size ≤ gb158)); clear HB; have HB := n0_; have BK158 := n1_; have GW158 := n2_; have GE158 := n3_; clear n0_ n1_ n2_ n3_; clear hb hbox hg; have hcz29_0 : w28.cell? ⟨gb158, 0, none⟩ = some (.string a0_0) := (blk_cell BK158.out 0).trans rfl; have hcz29_1 : w28.cell? ⟨gb158, 1, none⟩ = some (.slice A0_1 l0_1.length c0_1) := (blk_cell BK158.out 1).trans rfl; have hcz29_2 : w28.cell? ⟨gb158, 2, none⟩ = some (.slice A0_2 l0_2.length c0_2) := (blk_cell BK158.out 2).trans rfl; have hcz29_3 : w28.cell? ⟨gb158, 3, none⟩ = some (.slice (a0_3).A (a0_3).n (a0_3).c) := (blk_cell BK158.out 3).trans rfl; have hcz29_4 : w28.cell? ⟨gb158, 4, none⟩ = some (.slice A0_4 l0_4.length c0_4) := (blk_cell BK158.out 4).trans rfl; have hcz29_5 : w28.cell? ⟨gb158, 5, none⟩ = some (.slice A0_5 l0_5.length c0_5) := (blk_cell BK158.out 5).trans rfl; have hcz29_6 : w28.cell? ⟨gb158, 6, none⟩ = some (.int .i64 a0_6) := (blk_cell BK158.out 6).trans rfl; have hcz29_7 : w28.cell? ⟨gb158, 7, none⟩ = some (.int .i64 a0_7) := (blk_cell BK158.out 7).trans rfl; have hcz29_8 : w28.cell? ⟨gb158, 8, none⟩ = some (.int .i64 a0_8) := (blk_cell BK158.out 8).trans rfl; have hcz29_9 : w28.cell? ⟨gb158, 9, none⟩ = some (.int .i64 a0_9) := (blk_cell BK158.out 9).trans rfl; have hcz29_10 : w28.cell? ⟨gb158, 10, none⟩ = some (.string a0_10) := (blk_cell BK158.out 10).trans rfl; have hcz29_11 : w28.cell? ⟨gb158, 11, none⟩ = some (.int .i64 a0_11) := (blk_cell BK158.out 11).trans rfl; have hcz29_12 : w28.cell? ⟨gb158, 12, none⟩ = some (.int .i64 a0_12) := (blk_cell BK158.out 12).trans rfl; have hcz29_13 : w28.cell? ⟨gb158, 13, none⟩ = some (.int .i64 a0_13) := (blk_cell BK158.out 13).trans rfl; have hcz29_14 : w28.cell? ⟨gb158, 14, none⟩ = some (.bool a0_14) := (blk_cell BK158.out 14).trans rfl; have hfz29_0 := blk_frozen BK158.out 0; have hfz29_1 := blk_frozen BK158.out 1; have hfz29_2 := blk_frozen BK158.out 2; have hfz29_3 := blk_frozen BK158.out 3; have hfz29_4 := blk_frozen BK158.out 4; have hfz29_5 := blk_frozen BK158.out 5; have hfz29_6 := blk_frozen BK158.out 6; have hfz29_7 := blk_frozen BK158.out 7; have hfz29_8 := blk_frozen BK158.out 8; have hfz29_9 := blk_frozen BK158.out 9; have hfz29_10 := blk_frozen BK158.out 10; have hfz29_11 := blk_frozen BK158.out 11; have hfz29_12 := blk_frozen BK158.out 12; have hfz29_13 := blk_frozen BK158.out 13; have hfz29_14 := blk_frozen BK158.out 14))
        go_ret2
        exact ⟨by first | rfl | (simp [errW_none, errW_some] <;> rfl) | (simp [*, errW_none, errW_some] <;> rfl), by repeat (first | (with_reducible first | exact HB.out | apply below_alloc | apply pw_below_drewN | apply below_drew1 | refine below_set ?_ GE158.out) | exact HB.out)⟩
       ·rw [if_neg c27] at H
        have c27b0 : (a0_9 == 0) = false := beq_eq_false_iff_ne.mpr c27
        have c27b1 : (a0_9 != 0) = true := bne_iff_ne.mpr c27
        replace H := Option.bind_eq_some_iff.mp H
        obtain ⟨t163, A300, H⟩ := H
        replace H : (some (t163, true)) = some (r1, r2) := H
        have A30 := Aside0.mk A300
        clear A300
        simp only [Option.some.injEq, Prod.mk.injEq] at H
        obtain ⟨rfl, rfl⟩ := H
        go_enter Tryd.func20, Tryd.ntmps20
        go_wp2_with (first | ((with_reducible refine gate_dst (N := 2) rfl ?_); refine box_event ?hg (N := 2) ?hd (cs := #[.string a0_0, .slice A0_1 l0_1.length c0_1, .slice A0_2 l0_2.length c0_2, .slice (a0_3).A (a0_3).n (a0_3).c, .slice A0_4 l0_4.length c0_4, .slice A0_5 l0_5.length c0_5, .int .i64 a0_6, .int .i64 a0_7, .int .i64 a0_8, .int .i64 a0_9, .string a0_10, .int .i64 a0_11, .int .i64 a0_12, .int .i64 a0_13, .bool a0_14]) (t := 30) ?hr ?_; (case hd => rfl); (case hg => rfl); (case hr => first | (go_simp; done) | (go_simp; rfl)); intro gb158 hg w31 hbox hb; have n0_ := Aside0.mk (below_step (by repeat (first | (with_reducible first | exact HB.out | apply below_alloc | apply pw_below_drewN | apply below_drew1) | exact HB.out)) hb); have n1_ := Aside0.mk (hbox); have n2_ := Aside0.mk ((by rw [hg]; exact (below_size (by repeat (first | (with_reducible first | exact HB.out | apply below_alloc | apply pw_below_drewN | apply below_drew1) | exact HB.out))) : w.heap.size ≤ gb158)); have n3_ := Aside0.mk ((by rw [hg]; exact (below_size (by repeat (first | (with_reducible first | exact HB.out | apply below_alloc | apply pw_below_drewN | apply below_drew1) | exact HB.out))) : w.heap.size ≤ gb158)); clear HB; have HB := n0_; have BK158 := n1_; have GW158 := n2_; have GE158 := n3_; clear n0_ n1_ n2_ n3_; clear hb hbox hg; have hcz32_0 : w31.cell? ⟨gb158, 0, none⟩ = some (.string a0_0) := (blk_cell BK158.out 0).trans rfl; have hcz32_1 : w31.cell? ⟨gb158, 1, none⟩ = some (.slice A0_1 l0_1.length c0_1) := (blk_cell BK158.out 1).trans rfl; have hcz32_2 : w31.cell? ⟨gb158, 2, none⟩ = some (.slice A0_2 l0_2.length c0_2) := (blk_cell BK158.out 2).trans rfl; have hcz32_3 : w31.cell? ⟨gb158, 3, none⟩ = some (.slice (a0_3).A (a0_3).n (a0_3).c) := (blk_cell BK158.out 3).trans rfl; have hcz32_4 : w31.cell? ⟨gb158, 4, none⟩ = some (.slice A0_4 l0_4.length c0_4) := (blk_cell BK158.out 4).trans rfl; have hcz32_5 : w31.cell? ⟨gb158, 5, none⟩ = some (.slice A0_5 l0_5.length c0_5) := (blk_cell BK158.out 5).trans rfl; have hcz32_6 : w31.cell? ⟨gb158, 6, none⟩ = some (.int .i64 a0_6) := (blk_cell BK158.out 6).trans rfl; have hcz32_7 : w31.cell? ⟨gb158, 7, none⟩ = some (.int .i64 a0_7) := (blk_cell BK158.out 7).trans rfl; have hcz32_8 : w31.cell? ⟨gb158, 8, none⟩ = some (.int .i64 a0_8) := (blk_cell BK158.out 8).trans rfl; have hcz32_9 : w31.cell? ⟨gb158, 9, none⟩ = some (.int .i64 a0_9) := (blk_cell BK158.out 9).trans rfl; have hcz32_10 : w31.cell? ⟨gb158, 10, none⟩ = some (.string a0_10) := (blk_cell BK158.out 10).trans rfl; have hcz32_11 : w31.cell? ⟨gb158, 11, none⟩ = some (.int .i64 a0_11) := (blk_cell BK158.out 11).trans rfl; have hcz32_12 : w31.cell? ⟨gb158, 12, none⟩ = some (.int .i64 a0_12) := (blk_cell BK158.out 12).trans rfl; have hcz32_13 : w31.cell? ⟨gb158, 13, none⟩ = some (.int .i64 a0_13) := (blk_cell BK158.out 13).trans rfl; have hcz32_14 : w31.cell? ⟨gb158, 14, none⟩ = some (.bool a0_14) := (blk_cell BK158.out 14).trans rfl; have hfz32_0 := blk_frozen BK158.out 0; have hfz32_1 := blk_frozen BK158.out 1; have hfz32_2 := blk_frozen BK158.out 2; have hfz32_3 := blk_frozen BK158.out 3; have hfz32_4 := blk_frozen BK158.out 4; have hfz32_5 := blk_frozen BK158.out 5; have hfz32_6 := blk_frozen BK158.out 6; have hfz32_7 := blk_frozen BK158.out 7; have hfz32_8 := blk_frozen BK158.out 8; have hfz32_9 := blk_frozen BK158.out 9; have hfz32_10 := blk_frozen BK158.out 10; have hfz32_11 := blk_frozen BK158.out 11; have hfz32_12 := blk_frozen BK158.out 12; have hfz32_13 := blk_frozen BK158.out 13; have hfz32_14 := blk_frozen BK158.out 14) | ((with_reducible refine gate_callee (f := 21) rfl ?_); refine goesL_ (some 43) rfl rfl Tryd.func21 (by kernel_rfl) rfl #[.int .i64 a0_9] rfl (by (try simp only [List.map_toArray, List.map_cons, List.map_nil]); first | done | rfl | (simp only [List.length_drop, List.length_take]; rfl)) ?_; (with_reducible refine (strconv_Itoa.calls a0_9 t163 _ ?side1 A30.out).mono ?_); (case side1 => repeat (first | exact (AmbC_below HAMB.out HB.out) | (with_reducible refine AmbC_alloc ?_ _) | (with_reducible refine AmbC_drewN ?_ _) | (with_reducible refine AmbC_drew ?_))); rintro e w33 ⟨rfl, hb⟩; refine ⟨_, rfl, ?_⟩; have n0_ := Aside0.mk (blk_below (g := gb158) (o := .cells #[.string a0_0, .slice A0_1 l0_1.length c0_1, .slice A0_2 l0_2.length c0_2, .slice (a0_3).A (a0_3).n (a0_3).c, .slice A0_4 l0_4.length c0_4, .slice A0_5 l0_5.length c0_5, .int .i64 a0_6, .int .i64 a0_7, .int .i64 a0_8, .int .i64 a0_9, .string a0_10, .int .i64 a0_11, .int .i64 a0_12, .int .i64 a0_13, .bool a0_14] 30 (0, 0)) (by (with_reducible repeat (first | refine blk_drewN ?_ _ | refine blk_drew ?_ | refine blk_alloc ?_ _)); exact BK158.out) hb); have n1_ := Aside0.mk (below_step (by repeat (first | (with_reducible first | exact HB.out | apply below_alloc | apply pw_below_drewN | apply below_drew1 | refine below_set ?_ GE158.out) | exact HB.out)) hb); clear BK158; clear HB; have BK158 := n0_; have HB := n1_; clear n0_ n1_; (try clear hb); (try clear hb2); (try clear hk); (try clear hi)))
        go_ret2
        exact ⟨by first | rfl | (simp [errW_none, errW_some] <;> rfl) | (simp [*, errW_none, errW_some] <;> rfl), by repeat (first | (with_reducible first | exact HB.out | apply below_alloc | apply pw_below_drewN | apply below_drew1 | refine below_set ?_ GE158.out) | exact HB.out)⟩
      ·rw [if_neg c26] at H
       have c26b0 : (a1.toList == ([33] : List UInt8)) = false := beq_eq_false_iff_ne.mpr c26
       have c26b1 : (a1.toList != ([33] : List UInt8)) = true := bne_iff_ne.mpr c26
       by_cases c34 : a1.toList = ([64] : List UInt8)
       ·rw [if_pos c34] at H
        have c34b0 : (a1.toList == ([64] : List UInt8)) = true := beq_iff_eq.mpr c34
        have c34b1 : (a1.toList != ([64] : List UInt8)) = false := bne_eq_false_iff_eq.mpr c34
        clear c34
        replace H := Option.bind_eq_some_iff.mp H
        obtain ⟨t164, A350, H⟩ := H
        replace H : (some (t164, decide ((l0_2.length : Int) > 0))) = some (r1, r2) := H
        have A35 := Aside0.mk A350
        clear A350
        simp only [Option.some.injEq, Prod.mk.injEq] at H
        obtain ⟨rfl, rfl⟩ := H
        go_enter Tryd.func20, Tryd.ntmps20
        try go_wp2_with (first | ((with_reducible refine gate_dst (N := 2) rfl ?_); refine box_event ?hg (N := 2) ?hd (cs := #[.string a0_0, .slice A0_1 l0_1.length c0_1, .slice A0_2 l0_2.length c0_2, .slice (a0_3).A (a0_3).n (a0_3).c, .slice A0_4 l0_4.length c0_4, .slice A0_5 l0_5.length c0_5, .int .i64 a0_6, .int .i64 a0_7, .int .i64 a0_8, .int .i64 a0_9, .string a0_10, .int .i64 a0_11, .int .i64 a0_12, .int .i64 a0_13, .bool a0_14]) (t := 30) ?hr ?_; (case hd => rfl); (case hg => rfl); (case hr => first | (go_simp; done) | (go_simp; rfl)); intro gb158 hg w36 hbox hb; have n0_ := Aside0.mk (below_step (by repeat (first | (with_reducible first | exact HB.out | apply below_alloc | apply pw_below_drewN | apply below_drew1) | exact HB.out)) hb); have n1_ := Aside0.mk (hbox); have n2_ := Aside0.mk ((by rw [hg]; exact (below_size (by repeat (first | (with_reducible first | exact HB.out | apply below_alloc | apply pw_below_drewN | apply below_drew1) | exact HB.out))) : w.heap.size ≤ gb158)); have n3_ := Aside0.mk ((by rw [hg]; exact (below_size (by repeat (first | (with_reducible first | exact HB.out | apply below_alloc | apply pw_below_drewN | apply below_drew1) | exact HB.out))) : w.heap.size ≤ gb158)); clear HB; have HB := n0_; have BK158 := n1_; have GW158 := n2_; have GE158 := n3_; clear n0_ n1_ n2_ n3_; clear hb hbox hg))
        have n0_ := Aside0.mk (blk_drew BK158.out)
        have n1_ := Aside0.mk (below_drew1 HB.out)
        clear BK158
        clear HB
        have BK158 := n0_
        have HB := n1_
        clear n0_ n1_
        refine start_ (n := 9) (S := fun w' => w'.cell? ⟨gb158, 0, none⟩ = some (.string a0_0) ∧ w'.cell? ⟨gb158, 1, none⟩ = some (.slice A0_1 l0_1.length c0_1) ∧ w'.cell? ⟨gb158, 2, none⟩ = some (.slice A0_2 l0_2.length c0_2) ∧ w'.cell? ⟨gb158, 3, none⟩ = some (.slice (a0_3).A (a0_3).n (a0_3).c) ∧ w'.cell? ⟨gb158, 4, none⟩ = some (.slice A0_4 l0_4.length c0_4) ∧ w'.cell? ⟨gb158, 5, none⟩ = some (.slice A0_5 l0_5.length c0_5) ∧ w'.cell? ⟨gb158, 6, none⟩ = some (.int .i64 a0_6) ∧ w'.cell? ⟨gb158, 7, none⟩ = some (.int .i64 a0_7) ∧ w'.cell? ⟨gb158, 8, none⟩ = some (.int .i64 a0_8) ∧ w'.cell? ⟨gb158, 9, none⟩ = some (.int .i64 a0_9) ∧ w'.cell? ⟨gb158, 10, none⟩ = some (.string a0_10) ∧ w'.cell? ⟨gb158, 11, none⟩ = some (.int .i64 a0_11) ∧ w'.cell? ⟨gb158, 12, none⟩ = some (.int .i64 a0_12) ∧ w'.cell? ⟨gb158, 13, none⟩ = some (.int .i64 a0_13) ∧ w'.cell? ⟨gb158, 14, none⟩ = some (.bool a0_14)) (ds := []) #[false, false, false, false, false, false, false, false, false] (by kernel_rfl) rfl rfl ⟨(blk_cell BK158.out 0).trans rfl, (blk_cell BK158.out 1).trans rfl, (blk_cell BK158.out 2).trans rfl, (blk_cell BK158.out 3).trans rfl, (blk_cell BK158.out 4).trans rfl, (blk_cell BK158.out 5).trans rfl, (blk_cell BK158.out 6).trans rfl, (blk_cell BK158.out 7).trans rfl, (blk_cell BK158.out 8).trans rfl, (blk_cell BK158.out 9).trans rfl, (blk_cell BK158.out 10).trans rfl, (blk_cell BK158.out 11).trans rfl, (blk_cell BK158.out 12).trans rfl, (blk_cell BK158.out 13).trans rfl, (blk_cell BK158.out 14).trans rfl⟩ (fun hHeld => ?_); refine with_tabW param_Value.tab17 param_Value.bits17 (fun HT_ HW_ => ?_)
        generalize w36.drew = w37 at BK158 HB hHeld ⊢
        refine pure_ (i := 0) (N := some 46) (v := ?_) (a' := ?_) #[true, false, false, false, false, false, false, false, false] rfl rfl (any_of HT_.out (by kernel_rfl)) (fun _ _ _ h => h) (Or.inl ⟨by rfl, ?_⟩) ?_ ?_
        rotate_left
        ·intro w'
         go_simp
         with_reducible rfl
        rotate_left
        ·simp only [Act.put, List.setIfInBounds_toArray, List.set_cons_zero, List.set_cons_succ, i64_w, i32_w]
         rfl
        refine pure_ (i := 3) (N := some 49) (v := ?_) (a' := ?_) #[true, false, false, true, false, false, false, false, false] rfl rfl (any_of HT_.out (by kernel_rfl)) (fun _ _ _ h => h) (Or.inl ⟨by rfl, ?_⟩) ?_ ?_
        rotate_left
        ·intro w'
         go_simp
         with_reducible rfl
        rotate_left
        ·simp only [Act.put, List.setIfInBounds_toArray, List.set_cons_zero, List.set_cons_succ, i64_w, i32_w]
         rfl
        refine take_ (i := 1) (N := some 47) (v := ?_) (a' := ?_) #[true, true, false, true, false, false, false, false, false] rfl rfl (take_ofW HT_.out HW_.out (by kernel_rfl)) (fun _ _ _ h => h) (Or.inl ⟨by rfl, ?_⟩) hHeld ?_ ?_
        rotate_left
        ·rintro w' ⟨s0, s1, s2, s3, s4, s5, s6, s7, s8, s9, s10, s11, s12, s13, s14⟩
         go_simp
         with_reducible rfl
        rotate_left
        ·simp only [Act.put, List.setIfInBounds_toArray, List.set_cons_zero, List.set_cons_succ, i64_w, i32_w]
         rfl
        refine take_ (i := 4) (N := some 50) (v := ?_) (a' := ?_) #[true, true, false, true, true, false, false, false, false] rfl rfl (take_ofW HT_.out HW_.out (by kernel_rfl)) (fun _ _ _ h => h) (Or.inl ⟨by rfl, ?_⟩) hHeld ?_ ?_
        rotate_left
        ·rintro w' ⟨s0, s1, s2, s3, s4, s5, s6, s7, s8, s9, s10, s11, s12, s13, s14⟩
         go_simp
         with_reducible rfl
        rotate_left
        ·simp only [Act.put, List.setIfInBounds_toArray, List.set_cons_zero, List.set_cons_succ, i64_w, i32_w]
         rfl
        refine pure_ (i := 5) (N := some 51) (v := ?_) (a' := ?_) #[true, true, false, true, true, true, false, false, false] rfl rfl (any_of HT_.out (by kernel_rfl)) (fun _ _ _ h => h) (Or.inl ⟨by rfl, ?_⟩) ?_ ?_
        rotate_left
        ·intro w'
         go_simp
         with_reducible rfl
        rotate_left
        ·simp only [Act.put, List.setIfInBounds_toArray, List.set_cons_zero, List.set_cons_succ, i64_w, i32_w]
         rfl
        refine pure_ (i := 6) (N := some 52) (v := ?_) (a' := ?_) #[true, true, false, true, true, true, true, false, false] rfl rfl (any_of HT_.out (by kernel_rfl)) (fun _ _ _ h => h) (Or.inl ⟨by rfl, ?_⟩) ?_ ?_
        rotate_left
        ·intro w'
         go_simp
         with_reducible rfl
        rotate_left
        ·simp only [Act.put, List.setIfInBounds_toArray, List.set_cons_zero, List.set_cons_succ, i64_w, i32_w]
         rfl
        refine one_ (i := 2) (N := some 48) #[true, true, true, true, true, true, true, false, false] rfl rfl (one_of HT_.out (by kernel_rfl)) (by decide) (fun K hK => ?_)
        refine goes_ Tryd.func34 (by kernel_rfl) rfl #[.slice A0_2 l0_2.length c0_2, .string (⟨#[32]⟩ : ByteArray)] (by rfl) rfl rfl (by (try simp only [List.map_toArray, List.map_cons, List.map_nil]); first | done | rfl | (simp only [List.length_drop, List.length_take]; rfl)) ?_
        with_reducible refine (strings_Join.calls _ _ l0_2 (⟨#[32]⟩ : ByteArray) t164 _ ?side1 ?side2 A35.out).mono ?_
        (case side1 => repeat (first | exact (Kd.C_below HR0_2.out HB.out) | (with_reducible refine Kd.C_alloc ?_ _) | (with_reducible refine Kd.C_drewN ?_ _) | (with_reducible refine Kd.C_drew ?_)))
        (case side2 => exact HC0_2.out)
        rintro e w38 ⟨rfl, hb⟩
        refine ⟨_, rfl, ?_⟩
        have n0_ := Aside0.mk (blk_below (g := gb158) (o := .cells #[.string a0_0, .slice A0_1 l0_1.length c0_1, .slice A0_2 l0_2.length c0_2, .slice (a0_3).A (a0_3).n (a0_3).c, .slice A0_4 l0_4.length c0_4, .slice A0_5 l0_5.length c0_5, .int .i64 a0_6, .int .i64 a0_7, .int .i64 a0_8, .int .i64 a0_9, .string a0_10, .int .i64 a0_11, .int .i64 a0_12, .int .i64 a0_13, .bool a0_14] 30 (0, 0)) (by (with_reducible repeat (first | refine blk_drewN ?_ _ | refine blk_drew ?_ | refine blk_alloc ?_ _)); exact BK158.out) hb)
        have n1_ := Aside0.mk (below_step (by repeat (first | (with_reducible first | exact HB.out | apply below_alloc | apply pw_below_drewN | apply below_drew1 | refine below_set ?_ GE158.out) | exact HB.out)) hb)
        clear BK158
        clear HB
        have BK158 := n0_
        have HB := n1_
        clear n0_ n1_
        (try clear hb)
        (try clear hb2)
        (try clear hk)
        (try clear hi)
        refine hK.out _ _ ⟨(blk_cell BK158.out 0).trans rfl, (blk_cell BK158.out 1).trans rfl, (blk_cell BK158.out 2).trans rfl, (blk_cell BK158.out 3).trans rfl, (blk_cell BK158.out 4).trans rfl, (blk_cell BK158.out 5).trans rfl, (blk_cell BK158.out 6).trans rfl, (blk_cell BK158.out 7).trans rfl, (blk_cell BK158.out 8).trans rfl, (blk_cell BK158.out 9).trans rfl, (blk_cell BK158.out 10).trans rfl, (blk_cell BK158.out 11).trans rfl, (blk_cell BK158.out 12).trans rfl, (blk_cell BK158.out 13).trans rfl, (blk_cell BK158.out 14).trans rfl⟩ (fun hHeld => ?_)
        clear hK K
        refine norm_ (a' := ?_) ?_ ?_
        rotate_left
        ·show Act.put _ (some 48) _ = _
         simp only [Act.put, List.setIfInBounds_toArray, List.set_cons_zero, List.set_cons_succ, i64_w, i32_w]
         rfl
        refine pure_ (i := 7) (N := some 4) (v := ?_) (a' := ?_) #[true, true, true, true, true, true, true, true, false] rfl rfl (any_of HT_.out (by kernel_rfl)) (fun _ _ _ h => h) (Or.inl ⟨by rfl, ?_⟩) ?_ ?_
        rotate_left
        ·intro w'
         go_simp
         with_reducible rfl
        rotate_left
        ·simp only [Act.put, List.setIfInBounds_toArray, List.set_cons_zero, List.set_cons_succ, i64_w, i32_w]
         rfl
        refine pure_ (i := 8) (N := some 5) (v := ?_) (a' := ?_) #[true, true, true, true, true, true, true, true, true] rfl rfl (any_of HT_.out (by kernel_rfl)) (fun _ _ _ h => h) (Or.inl ⟨by rfl, ?_⟩) ?_ ?_
        rotate_left
        ·intro w'
         go_simp
         with_reducible rfl
        rotate_left
        ·simp only [Act.put, List.setIfInBounds_toArray, List.set_cons_zero, List.set_cons_succ, i64_w, i32_w]
         rfl
        refine done_ (done_of HT_.out (by kernel_rfl)) ?_
        try go_wp2
        go_ret2
        exact ⟨by first | rfl | (simp [errW_none, errW_some] <;> rfl) | (simp [*, errW_none, errW_some] <;> rfl), by repeat (first | (with_reducible first | exact HB.out | apply below_alloc | apply pw_below_drewN | apply below_drew1 | refine below_set ?_ GE158.out) | exact HB.out)⟩
       ·rw [if_neg c34] at H
        have c34b0 : (a1.toList == ([64] : List UInt8)) = false := beq_eq_false_iff_ne.mpr c34
        have c34b1 : (a1.toList != ([64] : List UInt8)) = true := bne_iff_ne.mpr c34
        by_cases c39 : a1.toList = ([42] : List UInt8)
        ·rw [if_pos c39] at H
         have c39b0 : (a1.toList == ([42] : List UInt8)) = true := beq_iff_eq.mpr c39
         have c39b1 : (a1.toList != ([42] : List UInt8)) = false := bne_eq_false_iff_eq.mpr c39
         clear c39
         replace H := Option.bind_eq_some_iff.mp H
         obtain ⟨t165, A400, H⟩ := H
         replace H : ((strings_Join.f l0_2 t165).bind fun t166 => (some (t166, decide ((l0_2.length : Int) > 0)))) = some (r1, r2) := H
         have A40 := Aside0.mk A400
         clear A400
         replace H := Option.bind_eq_some_iff.mp H
         obtain ⟨t166, A410, H⟩ := H
         replace H : (some (t166, decide ((l0_2.length : Int) > 0))) = some (r1, r2) := H
         have A41 := Aside0.mk A410
         clear A410
         simp only [Option.some.injEq, Prod.mk.injEq] at H
         obtain ⟨rfl, rfl⟩ := H
         go_enter Tryd.func20, Tryd.ntmps20
         try go_wp2_with (first | ((with_reducible refine gate_dst (N := 2) rfl ?_); refine box_event ?hg (N := 2) ?hd (cs := #[.string a0_0, .slice A0_1 l0_1.length c0_1, .slice A0_2 l0_2.length c0_2, .slice (a0_3).A (a0_3).n (a0_3).c, .slice A0_4 l0_4.length c0_4, .slice A0_5 l0_5.length c0_5, .int .i64 a0_6, .int .i64 a0_7, .int .i64 a0_8, .int .i64 a0_9, .string a0_10, .int .i64 a0_11, .int .i64 a0_12, .int .i64 a0_13, .bool a0_14]) (t := 30) ?hr ?_; (case hd => rfl); (case hg => rfl); (case hr => first | (go_simp; done) | (go_simp; rfl)); intro gb158 hg w42 hbox hb; have n0_ := Aside0.mk (below_step (by repeat (first | (with_reducible first | exact HB.out | apply below_alloc | apply pw_below_drewN | apply below_drew1) | exact HB.out)) hb); have n1_ := Aside0.mk (hbox); have n2_ := Aside0.mk ((by rw [hg]; exact (below_size (by repeat (first | (with_reducible first | exact HB.out | apply below_alloc | apply pw_below_drewN | apply below_drew1) | exact HB.out))) : w.heap.size ≤ gb158)); have n3_ := Aside0.mk ((by rw [hg]; exact (below_size (by repeat (first | (with_reducible first | exact HB.out | apply below_alloc | apply pw_below_drewN | apply below_drew1) | exact HB.out))) : w.heap.size ≤ gb158)); clear HB; have HB := n0_; have BK158 := n1_; have GW158 := n2_; have GE158 := n3_; clear n0_ n1_ n2_ n3_; clear hb hbox hg))
         have n0_ := Aside0.mk (blk_drew BK158.out)
         have n1_ := Aside0.mk (below_drew1 HB.out)
         clear BK158
         clear HB
         have BK158 := n0_
         have HB := n1_
         clear n0_ n1_
         refine start_ (n := 12) (S := fun w' => w'.cell? ⟨gb158, 0, none⟩ = some (.string a0_0) ∧ w'.cell? ⟨gb158, 1, none⟩ = some (.slice A0_1 l0_1.length c0_1) ∧ w'.cell? ⟨gb158, 2, none⟩ = some (.slice A0_2 l0_2.length c0_2) ∧ w'.cell? ⟨gb158, 3, none⟩ = some (.slice (a0_3).A (a0_3).n (a0_3).c) ∧ w'.cell? ⟨gb158, 4, none⟩ = some (.slice A0_4 l0_4.length c0_4) ∧ w'.cell? ⟨gb158, 5, none⟩ = some (.slice A0_5 l0_5.length c0_5) ∧ w'.cell? ⟨gb158, 6, none⟩ = some (.int .i64 a0_6) ∧ w'.cell? ⟨gb158, 7, none⟩ = some (.int .i64 a0_7) ∧ w'.cell? ⟨gb158, 8, none⟩ = some (.int .i64 a0_8) ∧ w'.cell? ⟨gb158, 9, none⟩ = some (.int .i64 a0_9) ∧ w'.cell? ⟨gb158, 10, none⟩ = some (.string a0_10) ∧ w'.cell? ⟨gb158, 11, none⟩ = some (.int .i64 a0_11) ∧ w'.cell? ⟨gb158, 12, none⟩ = some (.int .i64 a0_12) ∧ w'.cell? ⟨gb158, 13, none⟩ = some (.int .i64 a0_13) ∧ w'.cell? ⟨gb158, 14, none⟩ = some (.bool a0_14)) (ds := []) #[false, false, false, false, false, false, false, false, false, false, false, false] (by kernel_rfl) rfl rfl ⟨(blk_cell BK158.out 0).trans rfl, (blk_cell BK158.out 1).trans rfl, (blk_cell BK158.out 2).trans rfl, (blk_cell BK158.out 3).trans rfl, (blk_cell BK158.out 4).trans rfl, (blk_cell BK158.out 5).trans rfl, (blk_cell BK158.out 6).trans rfl, (blk_cell BK158.out 7).trans rfl, (blk_cell BK158.out 8).trans rfl, (blk_cell BK158.out 9).trans rfl, (blk_cell BK158.out 10).trans rfl, (blk_cell BK158.out 11).trans rfl, (blk_cell BK158.out 12).trans rfl, (blk_cell BK158.out 13).trans rfl, (blk_cell BK158.out 14).trans rfl⟩ (fun hHeld => ?_); refine with_tabW param_Value.tab19 param_Value.bits19 (fun HT_ HW_ => ?_)
         generalize w42.drew = w43 at BK158 HB hHeld ⊢
         refine pure_ (i := 0) (N := some 55) (v := ?_) (a' := ?_) #[true, false, false, false, false, false, false, false, false, false, false, false] rfl rfl (any_of HT_.out (by kernel_rfl)) (fun _ _ _ h => h) (Or.inl ⟨by rfl, ?_⟩) ?_ ?_
         rotate_left
         ·intro w'
          go_simp
          with_reducible rfl
         rotate_left
         ·simp only [Act.put, List.setIfInBounds_toArray, List.set_cons_zero, List.set_cons_succ, i64_w, i32_w]
          rfl
         refine pure_ (i := 2) (N := some 57) (v := ?_) (a' := ?_) #[true, false, true, false, false, false, false, false, false, false, false, false] rfl rfl (any_of HT_.out (by kernel_rfl)) (fun _ _ _ h => h) (Or.inl ⟨by rfl, ?_⟩) ?_ ?_
         rotate_left
         ·intro w'
          go_simp
          with_reducible rfl
         rotate_left
         ·simp only [Act.put, List.setIfInBounds_toArray, List.set_cons_zero, List.set_cons_succ, i64_w, i32_w]
          rfl
         refine pure_ (i := 6) (N := some 61) (v := ?_) (a' := ?_) #[true, false, true, false, false, false, true, false, false, false, false, false] rfl rfl (any_of HT_.out (by kernel_rfl)) (fun _ _ _ h => h) (Or.inl ⟨by rfl, ?_⟩) ?_ ?_
         rotate_left
         ·intro w'
          go_simp
          with_reducible rfl
         rotate_left
         ·simp only [Act.put, List.setIfInBounds_toArray, List.set_cons_zero, List.set_cons_succ, i64_w, i32_w]
          rfl
         refine take_ (i := 1) (N := some 56) (v := ?_) (a' := ?_) #[true, true, true, false, false, false, true, false, false, false, false, false] rfl rfl (take_ofW HT_.out HW_.out (by kernel_rfl)) (fun _ _ _ h => h) (Or.inl ⟨by rfl, ?_⟩) hHeld ?_ ?_
         rotate_left
         ·rintro w' ⟨s0, s1, s2, s3, s4, s5, s6, s7, s8, s9, s10, s11, s12, s13, s14⟩
          go_simp
          with_reducible rfl
         rotate_left
         ·simp only [Act.put, List.setIfInBounds_toArray, List.set_cons_zero, List.set_cons_succ, i64_w, i32_w]
          rfl
         refine take_ (i := 3) (N := some 58) (v := ?_) (a' := ?_) #[true, true, true, true, false, false, true, false, false, false, false, false] rfl rfl (take_ofW HT_.out HW_.out (by kernel_rfl)) (fun _ _ _ h => h) (Or.inl ⟨by rfl, ?_⟩) hHeld ?_ ?_
         rotate_left
         ·rintro w' ⟨s0, s1, s2, s3, s4, s5, s6, s7, s8, s9, s10, s11, s12, s13, s14⟩
          go_simp
          with_reducible rfl
         rotate_left
         ·simp only [Act.put, List.setIfInBounds_toArray, List.set_cons_zero, List.set_cons_succ, i64_w, i32_w]
          rfl
         refine take_ (i := 7) (N := some 62) (v := ?_) (a' := ?_) #[true, true, true, true, false, false, true, true, false, false, false, false] rfl rfl (take_ofW HT_.out HW_.out (by kernel_rfl)) (fun _ _ _ h => h) (Or.inl ⟨by rfl, ?_⟩) hHeld ?_ ?_
         rotate_left
         ·rintro w' ⟨s0, s1, s2, s3, s4, s5, s6, s7, s8, s9, s10, s11, s12, s13, s14⟩
          go_simp
          with_reducible rfl
         rotate_left
         ·simp only [Act.put, List.setIfInBounds_toArray, List.set_cons_zero, List.set_cons_succ, i64_w, i32_w]
          rfl
         refine pure_ (i := 8) (N := some 63) (v := ?_) (a' := ?_) #[true, true, true, true, false, false, true, true, true, false, false, false] rfl rfl (any_of HT_.out (by kernel_rfl)) (fun _ _ _ h => h) (Or.inl ⟨by rfl, ?_⟩) ?_ ?_
         rotate_left
         ·intro w'
          go_simp
          with_reducible rfl
         rotate_left
         ·simp only [Act.put, List.setIfInBounds_toArray, List.set_cons_zero, List.set_cons_succ, i64_w, i32_w]
          rfl
         refine pure_ (i := 9) (N := some 64) (v := ?_) (a' := ?_) #[true, true, true, true, false, false, true, true, true, true, false, false] rfl rfl (any_of HT_.out (by kernel_rfl)) (fun _ _ _ h => h) (Or.inl ⟨by rfl, ?_⟩) ?_ ?_
         rotate_left
         ·intro w'
          go_simp
          with_reducible rfl
         rotate_left
         ·simp only [Act.put, List.setIfInBounds_toArray, List.set_cons_zero, List.set_cons_succ, i64_w, i32_w]
          rfl
         refine one_ (i := 4) (N := some 59) #[true, true, true, true, true, false, true, true, true, true, false, false] rfl rfl (one_of HT_.out (by kernel_rfl)) (by decide) (fun K hK => ?_)
         refine goes_ Tryd.func35 (by kernel_rfl) rfl #[.slice A0_1 l0_1.length c0_1] (by rfl) rfl rfl (by (try simp only [List.map_toArray, List.map_cons, List.map_nil]); first | done | rfl | (simp only [List.length_drop, List.length_take]; rfl)) ?_
         with_reducible refine (param_separator.calls k _ _ l0_1 t165 _ ?side1 ?side2 A40.out).mono ?_
         (case side1 => repeat (first | exact (Kd.C_below HR0_1.out HB.out) | (with_reducible refine Kd.C_alloc ?_ _) | (with_reducible refine Kd.C_drewN ?_ _) | (with_reducible refine Kd.C_drew ?_)))
         (case side2 => exact HC0_1.out)
         rintro e w44 ⟨rfl, hb⟩
         refine ⟨_, rfl, ?_⟩
         have n0_ := Aside0.mk (blk_below (g := gb158) (o := .cells #[.string a0_0, .slice A0_1 l0_1.length c0_1, .slice A0_2 l0_2.length c0_2, .slice (a0_3).A (a0_3).n (a0_3).c, .slice A0_4 l0_4.length c0_4, .slice A0_5 l0_5.length c0_5, .int .i64 a0_6, .int .i64 a0_7, .int .i64 a0_8, .int .i64 a0_9, .string a0_10, .int .i64 a0_11, .int .i64 a0_12, .int .i64 a0_13, .bool a0_14] 30 (0, 0)) (by (with_reducible repeat (first | refine blk_drewN ?_ _ | refine blk_drew ?_ | refine blk_alloc ?_ _)); exact BK158.out) hb)
         have n1_ := Aside0.mk (below_step (by repeat (first | (with_reducible first | exact HB.out | apply below_alloc | apply pw_below_drewN | apply below_drew1 | refine below_set ?_ GE158.out) | exact HB.out)) hb)
         clear BK158
         clear HB
         have BK158 := n0_
         have HB := n1_
         clear n0_ n1_
         (try clear hb)
         (try clear hb2)
         (try clear hk)
         (try clear hi)
         refine hK.out _ _ ⟨(blk_cell BK158.out 0).trans rfl, (blk_cell BK158.out 1).trans rfl, (blk_cell BK158.out 2).trans rfl, (blk_cell BK158.out 3).trans rfl, (blk_cell BK158.out 4).trans rfl, (blk_cell BK158.out 5).trans rfl, (blk_cell BK158.out 6).trans rfl, (blk_cell BK158.out 7).trans rfl, (blk_cell BK158.out 8).trans rfl, (blk_cell BK158.out 9).trans rfl, (blk_cell BK158.out 10).trans rfl, (blk_cell BK158.out 11).trans rfl, (blk_cell BK158.out 12).trans rfl, (blk_cell BK158.out 13).trans rfl, (blk_cell BK158.out 14).trans rfl⟩ (fun hHeld => ?_)
         clear hK K
         refine norm_ (a' := ?_) ?_ ?_
         rotate_left
         ·show Act.put _ (some 59) _ = _
          simp only [Act.put, List.setIfInBounds_toArray, List.set_cons_zero, List.set_cons_succ, i64_w, i32_w]
          rfl
         refine one_ (i := 5) (N := some 60) #[true, true, true, true, true, true, true, true, true, true, false, false] rfl rfl (one_of HT_.out (by kernel_rfl)) (by decide) (fun K hK => ?_)
         refine goes_ Tryd.func34 (by kernel_rfl) rfl #[.slice A0_2 l0_2.length c0_2, .string t165] (by rfl) rfl rfl (by (try simp only [List.map_toArray, List.map_cons, List.map_nil]); first | done | rfl | (simp only [List.length_drop, List.length_take]; rfl)) ?_
         with_reducible refine (strings_Join.calls _ _ l0_2 t165 t166 _ ?side1 ?side2 A41.out).mono ?_
         (case side1 => repeat (first | exact (Kd.C_below HR0_2.out HB.out) | (with_reducible refine Kd.C_alloc ?_ _) | (with_reducible refine Kd.C_drewN ?_ _) | (with_reducible refine Kd.C_drew ?_)))
         (case side2 => exact HC0_2.out)
         rintro e w45 ⟨rfl, hb⟩
         refine ⟨_, rfl, ?_⟩
         have n0_ := Aside0.mk (blk_below (g := gb158) (o := .cells #[.string a0_0, .slice A0_1 l0_1.length c0_1, .slice A0_2 l0_2.length c0_2, .slice (a0_3).A (a0_3).n (a0_3).c, .slice A0_4 l0_4.length c0_4, .slice A0_5 l0_5.length c0_5, .int .i64 a0_6, .int .i64 a0_7, .int .i64 a0_8, .int .i64 a0_9, .string a0_10, .int .i64 a0_11, .int .i64 a0_12, .int .i64 a0_13, .bool a0_14] 30 (0, 0)) (by (with_reducible repeat (first | refine blk_drewN ?_ _ | refine blk_drew ?_ | refine blk_alloc ?_ _)); exact BK158.out) hb)
         have n1_ := Aside0.mk (below_step (by repeat (first | (with_reducible first | exact HB.out | apply below_alloc | apply pw_below_drewN | apply below_drew1 | refine below_set ?_ GE158.out) | exact HB.out)) hb)
         clear BK158
         clear HB
         have BK158 := n0_
         have HB := n1_
         clear n0_ n1_
         (try clear hb)
         (try clear hb2)
         (try clear hk)
         (try clear hi)
         refine hK.out _ _ ⟨(blk_cell BK158.out 0).trans rfl, (blk_cell BK158.out 1).trans rfl, (blk_cell BK158.out 2).trans rfl, (blk_cell BK158.out 3).trans rfl, (blk_cell BK158.out 4).trans rfl, (blk_cell BK158.out 5).trans rfl, (blk_cell BK158.out 6).trans rfl, (blk_cell BK158.out 7).trans rfl, (blk_cell BK158.out 8).trans rfl, (blk_cell BK158.out 9).trans rfl, (blk_cell BK158.out 10).trans rfl, (blk_cell BK158.out 11).trans rfl, (blk_cell BK158.out 12).trans rfl, (blk_cell BK158.out 13).trans rfl, (blk_cell BK158.out 14).trans rfl⟩ (fun hHeld => ?_)
         clear hK K
         refine norm_ (a' := ?_) ?_ ?_
         rotate_left
         ·show Act.put _ (some 60) _ = _
          simp only [Act.put, List.setIfInBounds_toArray, List.set_cons_zero, List.set_cons_succ, i64_w, i32_w]
          rfl
         refine pure_ (i := 10) (N := some 4) (v := ?_) (a' := ?_) #[true, true, true, true, true, true, true, true, true, true, true, false] rfl rfl (any_of HT_.out (by kernel_rfl)) (fun _ _ _ h => h) (Or.inl ⟨by rfl, ?_⟩) ?_ ?_
         rotate_left
         ·intro w'
          go_simp
          with_reducible rfl
         rotate_left
         ·simp only [Act.put, List.setIfInBounds_toArray, List.set_cons_zero, List.set_cons_succ, i64_w, i32_w]
          rfl
         refine pure_ (i := 11) (N := some 5) (v := ?_) (a' := ?_) #[true, true, true, true, true, true, true, true, true, true, true, true] rfl rfl (any_of HT_.out (by kernel_rfl)) (fun _ _ _ h => h) (Or.inl ⟨by rfl, ?_⟩) ?_ ?_
         rotate_left
         ·intro w'
          go_simp
          with_reducible rfl
         rotate_left
         ·simp only [Act.put, List.setIfInBounds_toArray, List.set_cons_zero, List.set_cons_succ, i64_w, i32_w]
          rfl
         refine done_ (done_of HT_.out (by kernel_rfl)) ?_
         try go_wp2
         go_ret2
         exact ⟨by first | rfl | (simp [errW_none, errW_some] <;> rfl) | (simp [*, errW_none, errW_some] <;> rfl), by repeat (first | (with_reducible first | exact HB.out | apply below_alloc | apply pw_below_drewN | apply below_drew1 | refine below_set ?_ GE158.out) | exact HB.out)⟩
        ·rw [if_neg c39] at H
         have c39b0 : (a1.toList == ([42] : List UInt8)) = false := beq_eq_false_iff_ne.mpr c39
         have c39b1 : (a1.toList != ([42] : List UInt8)) = true := bne_iff_ne.mpr c39
         replace H := Option.bind_eq_some_iff.mp H
         obtain ⟨⟨t167, t168⟩, A460, H⟩ := H
         replace H : (if t168 = true then (if t167 > (l0_2.length : Int) then (some ((⟨#[]⟩ : ByteArray), false)) else (if 0 ≤ (wrap64 (t167 - 1)) then (if (wrap64 (t167 - 1)) < (l0_2.length : Int) then (some (rdOf ByteArray.empty l0_2 (wrap64 (t167 - 1)), true)) else (none)) else (none))) else ((vars_Get.f k l0_1 a1).bind fun bt170 => (if bt170.2.2.2.2.2 = true then (if bt170.2.2.1 = true then ((chars_Name.f a1).bind fun t177 => (if t177 = true then (some (bt170.2.1, true)) else (some ((⟨#[]⟩ : ByteArray), false)))) else (some ((⟨#[]⟩ : ByteArray), false))) else (some ((⟨#[]⟩ : ByteArray), false))))) = some (r1, r2) := H
         have A46 := Aside0.mk A460
         clear A460
         by_cases c47 : t168 = true
         ·subst c47
          have H1 : (if t167 > (l0_2.length : Int) then (some ((⟨#[]⟩ : ByteArray), false)) else (if 0 ≤ (wrap64 (t167 - 1)) then (if (wrap64 (t167 - 1)) < (l0_2.length : Int) then (some (rdOf ByteArray.empty l0_2 (wrap64 (t167 - 1)), true)) else (none)) else (none))) = some (r1, r2) := by rw [if_pos rfl] at H; exact H
          clear H
          have H := H1
          clear H1
          by_cases c48 : t167 > (l0_2.length : Int)
          ·rw [if_pos c48] at H
           have c48b0 : decide ((l0_2.length : Int) < t167) = true := decide_eq_true c48
           clear c48
           simp only [Option.some.injEq, Prod.mk.injEq] at H
           obtain ⟨rfl, rfl⟩ := H
           go_enter Tryd.func20, Tryd.ntmps20
           go_wp2_with (first | ((with_reducible refine gate_dst (N := 2) rfl ?_); refine box_event ?hg (N := 2) ?hd (cs := #[.string a0_0, .slice A0_1 l0_1.length c0_1, .slice A0_2 l0_2.length c0_2, .slice (a0_3).A (a0_3).n (a0_3).c, .slice A0_4 l0_4.length c0_4, .slice A0_5 l0_5.length c0_5, .int .i64 a0_6, .int .i64 a0_7, .int .i64 a0_8, .int .i64 a0_9, .string a0_10, .int .i64 a0_11, .int .i64 a0_12, .int .i64 a0_13, .bool a0_14]) (t := 30) ?hr ?_; (case hd => rfl); (case hg => rfl); (case hr => first | (go_simp; done) | (go_simp; rfl)); intro gb158 hg w49 hbox hb; have n0_ := Aside0.mk (below_step (by repeat (first | (with_reducible first | exact HB.out | apply below_alloc | apply pw_below_drewN | apply below_drew1) | exact HB.out)) hb); have n1_ := Aside0.mk (hbox); have n2_ := Aside0.mk ((by rw [hg]; exact (below_size (by repeat (first | (with_reducible first | exact HB.out | apply below_alloc | apply pw_below_drewN | apply below_drew1) | exact HB.out))) : w.heap.size ≤ gb158)); have n3_ := Aside0.mk ((by rw [hg]; exact (below_size (by repeat (first | (with_reducible first | exact HB.out | apply below_alloc | apply pw_below_drewN | apply below_drew1) | exact HB.out))) : w.heap.size ≤ gb158)); clear HB; have HB := n0_; have BK158 := n1_; have GW158 := n2_; have GE158 := n3_; clear n0_ n1_ n2_ n3_; clear hb hbox hg) | ((with_reducible refine gate_callee (f := 36) rfl ?_); refine goesL_ (some 67) rfl rfl Tryd.func36 (by kernel_rfl) rfl #[.string a1] rfl (by (try simp only [List.map_toArray, List.map_cons, List.map_nil]); first | done | rfl | (simp only [List.length_drop, List.length_take]; rfl)) ?_; (with_reducible refine (param_position.calls a1 t167 true _ A46.out).mono ?_); rintro e w50 ⟨rfl, hb⟩; refine ⟨_, rfl, ?_⟩; have n0_ := Aside0.mk (blk_below (g := gb158) (o := .cells #[.string a0_0, .slice A0_1 l0_1.length c0_1, .slice A0_2 l0_2.length c0_2, .slice (a0_3).A (a0_3).n (a0_3).c, .slice A0_4 l0_4.length c0_4, .slice A0_5 l0_5.length c0_5, .int .i64 a0_6, .int .i64 a0_7, .int .i64 a0_8, .int .i64 a0_9, .string a0_10, .int .i64 a0_11, .int .i64 a0_12, .int .i64 a0_13, .bool a0_14] 30 (0, 0)) (by (with_reducible repeat (first | refine blk_drewN ?_ _ | refine blk_drew ?_ | refine blk_alloc ?_ _)); exact BK158.out) hb); have n1_ := Aside0.mk (below_step (by repeat (first | (with_reducible first | exact HB.out | apply below_alloc | apply pw_below_drewN | apply below_drew1 | refine below_set ?_ GE158.out) | exact HB.out)) hb); clear BK158; clear HB; have BK158 := n0_; have HB := n1_; clear n0_ n1_; (try clear hb); (try clear hb2); (try clear hk); (try clear hi); have hcz51_0 : w50.cell? ⟨gb158, 0, none⟩ = some (.string a0_0) := (blk_cell BK158.out 0).trans rfl; have hcz51_1 : w50.cell? ⟨gb158, 1, none⟩ = some (.slice A0_1 l0_1.length c0_1) := (blk_cell BK158.out 1).trans rfl; have hcz51_2 : w50.cell? ⟨gb158, 2, none⟩ = some (.slice A0_2 l0_2.length c0_2) := (blk_cell BK158.out 2).trans rfl; have hcz51_3 : w50.cell? ⟨gb158, 3, none⟩ = some (.slice (a0_3).A (a0_3).n (a0_3).c) := (blk_cell BK158.out 3).trans rfl; have hcz51_4 : w50.cell? ⟨gb158, 4, none⟩ = some (.slice A0_4 l0_4.length c0_4) := (blk_cell BK158.out 4).trans rfl; have hcz51_5 : w50.cell? ⟨gb158, 5, none⟩ = some (.slice A0_5 l0_5.length c0_5) := (blk_cell BK158.out 5).trans rfl; have hcz51_6 : w50.cell? ⟨gb158, 6, none⟩ = some (.int .i64 a0_6) := (blk_cell BK158.out 6).trans rfl; have hcz51_7 : w50.cell? ⟨gb158, 7, none⟩ = some (.int .i64 a0_7) := (blk_cell BK158.out 7).trans rfl; have hcz51_8 : w50.cell? ⟨gb158, 8, none⟩ = some (.int .i64 a0_8) := (blk_cell BK158.out 8).trans rfl; have hcz51_9 : w50.cell? ⟨gb158, 9, none⟩ = some (.int .i64 a0_9) := (blk_cell BK158.out 9).trans rfl; have hcz51_10 : w50.cell? ⟨gb158, 10, none⟩ = some (.string a0_10) := (blk_cell BK158.out 10).trans rfl; have hcz51_11 : w50.cell? ⟨gb158, 11, none⟩ = some (.int .i64 a0_11) := (blk_cell BK158.out 11).trans rfl; have hcz51_12 : w50.cell? ⟨gb158, 12, none⟩ = some (.int .i64 a0_12) := (blk_cell BK158.out 12).trans rfl; have hcz51_13 : w50.cell? ⟨gb158, 13, none⟩ = some (.int .i64 a0_13) := (blk_cell BK158.out 13).trans rfl; have hcz51_14 : w50.cell? ⟨gb158, 14, none⟩ = some (.bool a0_14) := (blk_cell BK158.out 14).trans rfl; have hfz51_0 := blk_frozen BK158.out 0; have hfz51_1 := blk_frozen BK158.out 1; have hfz51_2 := blk_frozen BK158.out 2; have hfz51_3 := blk_frozen BK158.out 3; have hfz51_4 := blk_frozen BK158.out 4; have hfz51_5 := blk_frozen BK158.out 5; have hfz51_6 := blk_frozen BK158.out 6; have hfz51_7 := blk_frozen BK158.out 7; have hfz51_8 := blk_frozen BK158.out 8; have hfz51_9 := blk_frozen BK158.out 9; have hfz51_10 := blk_frozen BK158.out 10; have hfz51_11 := blk_frozen BK158.out 11; have hfz51_12 := blk_frozen BK158.out 12; have hfz51_13 := blk_frozen BK158.out 13; have hfz51_14 := blk_frozen BK158.out 14))
           go_ret2
           exact ⟨by first | rfl | (simp [errW_none, errW_some] <;> rfl) | (simp [*, errW_none, errW_some] <;> rfl), by repeat (first | (with_reducible first | exact HB.out | apply below_alloc | apply pw_below_drewN | apply below_drew1 | refine below_set ?_ GE158.out) | exact HB.out)⟩
          ·rw [if_neg c48] at H
           have c48b0 : decide ((l0_2.length : Int) < t167) = false := decide_eq_false c48
           clear c48
           obtain ⟨ji52, hji52⟩ : ∃ j_ : Int, (wrap64 (t167 - 1)) = j_ := ⟨_, rfl⟩
           replace H : (if 0 ≤ (ji52) then (if (ji52) < (l0_2.length : Int) then (some (rdOf ByteArray.empty l0_2 (ji52), true)) else (none)) else (none)) = some (r1, r2) := by first | (rw [hji52] at H; exact H) | (simp only [hji52] at H ⊢; exact H)
           (try rw [hji52] at A46)
           have hji52w : (IntKind.i64.wrap (t167 - 1)) = ji52 := (i64_w _).trans hji52
           by_cases c53 : 0 ≤ (ji52)
           ·rw [if_pos c53] at H
            have c53b0 : decide (0 ≤ (ji52)) = true := decide_eq_true c53
            clear c53
            by_cases c54 : (ji52) < (l0_2.length : Int)
            ·rw [if_pos c54] at H
             have c54b0 : decide ((ji52) < (l0_2.length : Int)) = true := decide_eq_true c54
             clear c54
             simp only [Option.some.injEq, Prod.mk.injEq] at H
             obtain ⟨rfl, rfl⟩ := H
             go_enter Tryd.func20, Tryd.ntmps20
             go_wp2_with (first | ((with_reducible refine gate_dst (N := 2) rfl ?_); refine box_event ?hg (N := 2) ?hd (cs := #[.string a0_0, .slice A0_1 l0_1.length c0_1, .slice A0_2 l0_2.length c0_2, .slice (a0_3).A (a0_3).n (a0_3).c, .slice A0_4 l0_4.length c0_4, .slice A0_5 l0_5.length c0_5, .int .i64 a0_6, .int .i64 a0_7, .int .i64 a0_8, .int .i64 a0_9, .string a0_10, .int .i64 a0_11, .int .i64 a0_12, .int .i64 a0_13, .bool a0_14]) (t := 30) ?hr ?_; (case hd => rfl); (case hg => rfl); (case hr => first | (go_simp; done) | (go_simp; rfl)); intro gb158 hg w55 hbox hb; have n0_ := Aside0.mk (below_step (by repeat (first | (with_reducible first | exact HB.out | apply below_alloc | apply pw_below_drewN | apply below_drew1) | exact HB.out)) hb); have n1_ := Aside0.mk (hbox); have n2_ := Aside0.mk ((by rw [hg]; exact (below_size (by repeat (first | (with_reducible first | exact HB.out | apply below_alloc | apply pw_below_drewN | apply below_drew1) | exact HB.out))) : w.heap.size ≤ gb158)); have n3_ := Aside0.mk ((by rw [hg]; exact (below_size (by repeat (first | (with_reducible first | exact HB.out | apply below_alloc | apply pw_below_drewN | apply below_drew1) | exact HB.out))) : w.heap.size ≤ gb158)); clear HB; have HB := n0_; have BK158 := n1_; have GW158 := n2_; have GE158 := n3_; clear n0_ n1_ n2_ n3_; clear hb hbox hg) | ((with_reducible refine gate_callee (f := 36) rfl ?_); refine goesL_ (some 67) rfl rfl Tryd.func36 (by kernel_rfl) rfl #[.string a1] rfl (by (try simp only [List.map_toArray, List.map_cons, List.map_nil]); first | done | rfl | (simp only [List.length_drop, List.length_take]; rfl)) ?_; (with_reducible refine (param_position.calls a1 t167 true _ A46.out).mono ?_); rintro e w56 ⟨rfl, hb⟩; refine ⟨_, rfl, ?_⟩; have n0_ := Aside0.mk (blk_below (g := gb158) (o := .cells #[.string a0_0, .slice A0_1 l0_1.length c0_1, .slice A0_2 l0_2.length c0_2, .slice (a0_3).A (a0_3).n (a0_3).c, .slice A0_4 l0_4.length c0_4, .slice A0_5 l0_5.length c0_5, .int .i64 a0_6, .int .i64 a0_7, .int .i64 a0_8, .int .i64 a0_9, .string a0_10, .int .i64 a0_11, .int .i64 a0_12, .int .i64 a0_13, .bool a0_14] 30 (0, 0)) (by (with_reducible repeat (first | refine blk_drewN ?_ _ | refine blk_drew ?_ | refine blk_alloc ?_ _)); exact BK158.out) hb); have n1_ := Aside0.mk (below_step (by repeat (first | (with_reducible first | exact HB.out | apply below_alloc | apply pw_below_drewN | apply below_drew1 | refine below_set ?_ GE158.out) | exact HB.out)) hb); clear BK158; clear HB; have BK158 := n0_; have HB := n1_; clear n0_ n1_; (try clear hb); (try clear hb2); (try clear hk); (try clear hi); have hcz57_0 : w56.cell? ⟨gb158, 0, none⟩ = some (.string a0_0) := (blk_cell BK158.out 0).trans rfl; have hcz57_1 : w56.cell? ⟨gb158, 1, none⟩ = some (.slice A0_1 l0_1.length c0_1) := (blk_cell BK158.out 1).trans rfl; have hcz57_2 : w56.cell? ⟨gb158, 2, none⟩ = some (.slice A0_2 l0_2.length c0_2) := (blk_cell BK158.out 2).trans rfl; have hcz57_3 : w56.cell? ⟨gb158, 3, none⟩ = some (.slice (a0_3).A (a0_3).n (a0_3).c) := (blk_cell BK158.out 3).trans rfl; have hcz57_4 : w56.cell? ⟨gb158, 4, none⟩ = some (.slice A0_4 l0_4.length c0_4) := (blk_cell BK158.out 4).trans rfl; have hcz57_5 : w56.cell? ⟨gb158, 5, none⟩ = some (.slice A0_5 l0_5.length c0_5) := (blk_cell BK158.out 5).trans rfl; have hcz57_6 : w56.cell? ⟨gb158, 6, none⟩ = some (.int .i64 a0_6) := (blk_cell BK158.out 6).trans rfl; have hcz57_7 : w56.cell? ⟨gb158, 7, none⟩ = some (.int .i64 a0_7) := (blk_cell BK158.out 7).trans rfl; have hcz57_8 : w56.cell? ⟨gb158, 8, none⟩ = some (.int .i64 a0_8) := (blk_cell BK158.out 8).trans rfl; have hcz57_9 : w56.cell? ⟨gb158, 9, none⟩ = some (.int .i64 a0_9) := (blk_cell BK158.out 9).trans rfl; have hcz57_10 : w56.cell? ⟨gb158, 10, none⟩ = some (.string a0_10) := (blk_cell BK158.out 10).trans rfl; have hcz57_11 : w56.cell? ⟨gb158, 11, none⟩ = some (.int .i64 a0_11) := (blk_cell BK158.out 11).trans rfl; have hcz57_12 : w56.cell? ⟨gb158, 12, none⟩ = some (.int .i64 a0_12) := (blk_cell BK158.out 12).trans rfl; have hcz57_13 : w56.cell? ⟨gb158, 13, none⟩ = some (.int .i64 a0_13) := (blk_cell BK158.out 13).trans rfl; have hcz57_14 : w56.cell? ⟨gb158, 14, none⟩ = some (.bool a0_14) := (blk_cell BK158.out 14).trans rfl; have hfz57_0 := blk_frozen BK158.out 0; have hfz57_1 := blk_frozen BK158.out 1; have hfz57_2 := blk_frozen BK158.out 2; have hfz57_3 := blk_frozen BK158.out 3; have hfz57_4 := blk_frozen BK158.out 4; have hfz57_5 := blk_frozen BK158.out 5; have hfz57_6 := blk_frozen BK158.out 6; have hfz57_7 := blk_frozen BK158.out 7; have hfz57_8 := blk_frozen BK158.out 8; have hfz57_9 := blk_frozen BK158.out 9; have hfz57_10 := blk_frozen BK158.out 10; have hfz57_11 := blk_frozen BK158.out 11; have hfz57_12 := blk_frozen BK158.out 12; have hfz57_13 := blk_frozen BK158.out 13; have hfz57_14 := blk_frozen BK158.out 14; have p169 : 0 ≤ ((ji52) : Int) := of_decide_eq_true (by first | (with_reducible assumption) | assumption); have q169 : (ji52) < (l0_2.length : Int) := of_decide_eq_true (by first | (with_reducible assumption) | assumption); obtain ⟨ad169, e169, hx169_0⟩ := Kd.at_string HR0_2.out (ji52) p169 q169; cases e169; replace hx169_0 := (HB.out.cell (World.block_lt_of_cell? w _ hx169_0)).trans hx169_0; replace p169 := eq_true p169; replace q169 := eq_true q169))
             go_ret2
             exact ⟨by first | rfl | (simp [errW_none, errW_some] <;> rfl) | (simp only [← hji52]; first | rfl | (simp [errW_none, errW_some] <;> rfl)) | (simp [*, errW_none, errW_some] <;> rfl), by repeat (first | (with_reducible first | exact HB.out | apply below_alloc | apply pw_below_drewN | apply below_drew1 | refine below_set ?_ GE158.out) | exact HB.out)⟩
            ·rw [if_neg c54] at H
             exact absurd H (by simp)
           ·rw [if_neg c53] at H
            exact absurd H (by simp)
         ·replace c47 := Bool.eq_false_iff.mpr c47
          subst c47
          have H1 : ((vars_Get.f k l0_1 a1).bind fun bt170 => (if bt170.2.2.2.2.2 = true then (if bt170.2.2.1 = true then ((chars_Name.f a1).bind fun t177 => (if t177 = true then (some (bt170.2.1, true)) else (some ((⟨#[]⟩ : ByteArray), false)))) else (some ((⟨#[]⟩ : ByteArray), false))) else (some ((⟨#[]⟩ : ByteArray), false)))) = some (r1, r2) := by rw [if_neg (show ¬ (false = true) by decide)] at H; exact H
          clear H
          have H := H1
          clear H1
          replace H := Option.bind_eq_some_iff.mp H
          obtain ⟨⟨t170, t171, t172, t173, t174, t175⟩, A580, H⟩ := H
          replace H : (if t175 = true then (if t172 = true then ((chars_Name.f a1).bind fun t177 => (if t177 = true then (some (t171, true)) else (some ((⟨#[]⟩ : ByteArray), false)))) else (some ((⟨#[]⟩ : ByteArray), false))) else (some ((⟨#[]⟩ : ByteArray), false))) = some (r1, r2) := H
          have A58 := Aside0.mk A580
          clear A580
          by_cases c59 : t175 = true
          ·subst c59
           have H1 : (if t172 = true then ((chars_Name.f a1).bind fun t177 => (if t177 = true then (some (t171, true)) else (some ((⟨#[]⟩ : ByteArray), false)))) else (some ((⟨#[]⟩ : ByteArray), false))) = some (r1, r2) := by rw [if_pos rfl] at H; exact H
           clear H
           have H := H1
           clear H1
           by_cases c60 : t172 = true
           ·subst c60
            have H1 : ((chars_Name.f a1).bind fun t177 => (if t177 = true then (some (t171, true)) else (some ((⟨#[]⟩ : ByteArray), false)))) = some (r1, r2) := by rw [if_pos rfl] at H; exact H
            clear H
            have H := H1
            clear H1
            replace H := Option.bind_eq_some_iff.mp H
            obtain ⟨t177, A610, H⟩ := H
            replace H : (if t177 = true then (some (t171, true)) else (some ((⟨#[]⟩ : ByteArray), false))) = some (r1, r2) := H
            have A61 := Aside0.mk A610
            clear A610
            by_cases c62 : t177 = true
            ·subst c62
             have H1 : (some (t171, true)) = some (r1, r2) := by rw [if_pos rfl] at H; exact H
             clear H
             have H := H1
             clear H1
             simp only [Option.some.injEq, Prod.mk.injEq] at H
             obtain ⟨rfl, rfl⟩ := H
             go_enter Tryd.func20, Tryd.ntmps20
             go_wp2_with (first | ((with_reducible refine gate_dst (N := 2) rfl ?_); refine box_event ?hg (N := 2) ?hd (cs := #[.string a0_0, .slice A0_1 l0_1.length c0_1, .slice A0_2 l0_2.length c0_2, .slice (a0_3).A (a0_3).n (a0_3).c, .slice A0_4 l0_4.length c0_4, .slice A0_5 l0_5.length c0_5, .int .i64 a0_6, .int .i64 a0_7, .int .i64 a0_8, .int .i64 a0_9, .string a0_10, .int .i64 a0_11, .int .i64 a0_12, .int .i64 a0_13, .bool a0_14]) (t := 30) ?hr ?_; (case hd => rfl); (case hg => rfl); (case hr => first | (go_simp; done) | (go_simp; rfl)); intro gb158 hg w63 hbox hb; have n0_ := Aside0.mk (below_step (by repeat (first | (with_reducible first | exact HB.out | apply below_alloc | apply pw_below_drewN | apply below_drew1) | exact HB.out)) hb); have n1_ := Aside0.mk (hbox); have n2_ := Aside0.mk ((by rw [hg]; exact (below_size (by repeat (first | (with_reducible first | exact HB.out | apply below_alloc | apply pw_below_drewN | apply below_drew1) | exact HB.out))) : w.heap.size ≤ gb158)); have n3_ := Aside0.mk ((by rw [hg]; exact (below_size (by repeat (first | (with_reducible first | exact HB.out | apply below_alloc | apply pw_below_drewN | apply below_drew1) | exact HB.out))) : w.heap.size ≤ gb158)); clear HB; have HB := n0_; have BK158 := n1_; have GW158 := n2_; have GE158 := n3_; clear n0_ n1_ n2_ n3_; clear hb hbox hg) | ((with_reducible refine gate_callee (f := 36) rfl ?_); refine goesL_ (some 67) rfl rfl Tryd.func36 (by kernel_rfl) rfl #[.string a1] rfl (by (try simp only [List.map_toArray, List.map_cons, List.map_nil]); first | done | rfl | (simp only [List.length_drop, List.length_take]; rfl)) ?_; (with_reducible refine (param_position.calls a1 t167 false _ A46.out).mono ?_); rintro e w64 ⟨rfl, hb⟩; refine ⟨_, rfl, ?_⟩; have n0_ := Aside0.mk (blk_below (g := gb158) (o := .cells #[.string a0_0, .slice A0_1 l0_1.length c0_1, .slice A0_2 l0_2.length c0_2, .slice (a0_3).A (a0_3).n (a0_3).c, .slice A0_4 l0_4.length c0_4, .slice A0_5 l0_5.length c0_5, .int .i64 a0_6, .int .i64 a0_7, .int .i64 a0_8, .int .i64 a0_9, .string a0_10, .int .i64 a0_11, .int .i64 a0_12, .int .i64 a0_13, .bool a0_14] 30 (0, 0)) (by (with_reducible repeat (first | refine blk_drewN ?_ _ | refine blk_drew ?_ | refine blk_alloc ?_ _)); exact BK158.out) hb); have n1_ := Aside0.mk (below_step (by repeat (first | (with_reducible first | exact HB.out | apply below_alloc | apply pw_below_drewN | apply below_drew1 | refine below_set ?_ GE158.out) | exact HB.out)) hb); clear BK158; clear HB; have BK158 := n0_; have HB := n1_; clear n0_ n1_; (try clear hb); (try clear hb2); (try clear hk); (try clear hi); have hcz65_0 : w64.cell? ⟨gb158, 0, none⟩ = some (.string a0_0) := (blk_cell BK158.out 0).trans rfl; have hcz65_1 : w64.cell? ⟨gb158, 1, none⟩ = some (.slice A0_1 l0_1.length c0_1) := (blk_cell BK158.out 1).trans rfl; have hcz65_2 : w64.cell? ⟨gb158, 2, none⟩ = some (.slice A0_2 l0_2.length c0_2) := (blk_cell BK158.out 2).trans rfl; have hcz65_3 : w64.cell? ⟨gb158, 3, none⟩ = some (.slice (a0_3).A (a0_3).n (a0_3).c) := (blk_cell BK158.out 3).trans rfl; have hcz65_4 : w64.cell? ⟨gb158, 4, none⟩ = some (.slice A0_4 l0_4.length c0_4) := (blk_cell BK158.out 4).trans rfl; have hcz65_5 : w64.cell? ⟨gb158, 5, none⟩ = some (.slice A0_5 l0_5.length c0_5) := (blk_cell BK158.out 5).trans rfl; have hcz65_6 : w64.cell? ⟨gb158, 6, none⟩ = some (.int .i64 a0_6) := (blk_cell BK158.out 6).trans rfl; have hcz65_7 : w64.cell? ⟨gb158, 7, none⟩ = some (.int .i64 a0_7) := (blk_cell BK158.out 7).trans rfl; have hcz65_8 : w64.cell? ⟨gb158, 8, none⟩ = some (.int .i64 a0_8) := (blk_cell BK158.out 8).trans rfl; have hcz65_9 : w64.cell? ⟨gb158, 9, none⟩ = some (.int .i64 a0_9) := (blk_cell BK158.out 9).trans rfl; have hcz65_10 : w64.cell? ⟨gb158, 10, none⟩ = some (.string a0_10) := (blk_cell BK158.out 10).trans rfl; have hcz65_11 : w64.cell? ⟨gb158, 11, none⟩ = some (.int .i64 a0_11) := (blk_cell BK158.out 11).trans rfl; have hcz65_12 : w64.cell? ⟨gb158, 12, none⟩ = some (.int .i64 a0_12) := (blk_cell BK158.out 12).trans rfl; have hcz65_13 : w64.cell? ⟨gb158, 13, none⟩ = some (.int .i64 a0_13) := (blk_cell BK158.out 13).trans rfl; have hcz65_14 : w64.cell? ⟨gb158, 14, none⟩ = some (.bool a0_14) := (blk_cell BK158.out 14).trans rfl; have hfz65_0 := blk_frozen BK158.out 0; have hfz65_1 := blk_frozen BK158.out 1; have hfz65_2 := blk_frozen BK158.out 2; have hfz65_3 := blk_frozen BK158.out 3; have hfz65_4 := blk_frozen BK158.out 4; have hfz65_5 := blk_frozen BK158.out 5; have hfz65_6 := blk_frozen BK158.out 6; have hfz65_7 := blk_frozen BK158.out 7; have hfz65_8 := blk_frozen BK158.out 8; have hfz65_9 := blk_frozen BK158.out 9; have hfz65_10 := blk_frozen BK158.out 10; have hfz65_11 := blk_frozen BK158.out 11; have hfz65_12 := blk_frozen BK158.out 12; have hfz65_13 := blk_frozen BK158.out 13; have hfz65_14 := blk_frozen BK158.out 14) | ((with_reducible refine gate_callee (f := 26) rfl ?_); refine goesL_ (some 86) rfl rfl Tryd.func26 (by kernel_rfl) rfl #[.slice A0_1 l0_1.length c0_1, .string a1] rfl (by (try simp only [List.map_toArray, List.map_cons, List.map_nil]); first | done | rfl | (simp only [List.length_drop, List.length_take]; rfl)) ?_; (with_reducible refine (vars_Get.calls k _ _ l0_1 a1 t170 t171 true t173 t174 true _ ?side1 ?side2 A58.out).mono ?_); (case side1 => repeat (first | exact (Kd.C_below HR0_1.out HB.out) | (with_reducible refine Kd.C_alloc ?_ _) | (with_reducible refine Kd.C_drewN ?_ _) | (with_reducible refine Kd.C_drew ?_))); (case side2 => exact HC0_1.out); rintro e w66 ⟨rfl, hb⟩; refine ⟨_, rfl, ?_⟩; have n0_ := Aside0.mk (blk_below (g := gb158) (o := .cells #[.string a0_0, .slice A0_1 l0_1.length c0_1, .slice A0_2 l0_2.length c0_2, .slice (a0_3).A (a0_3).n (a0_3).c, .slice A0_4 l0_4.length c0_4, .slice A0_5 l0_5.length c0_5, .int .i64 a0_6, .int .i64 a0_7, .int .i64 a0_8, .int .i64 a0_9, .string a0_10, .int .i64 a0_11, .int .i64 a0_12, .int .i64 a0_13, .bool a0_14] 30 (0, 0)) (by (with_reducible repeat (first | refine blk_drewN ?_ _ | refine blk_drew ?_ | refine blk_alloc ?_ _)); exact BK158.out) hb); have n1_ := Aside0.mk (below_step (by repeat (first | (with_reducible first | exact HB.out | apply below_alloc | apply pw_below_drewN | apply below_drew1 | refine below_set ?_ GE158.out) | exact HB.out)) hb); clear BK158; clear HB; have BK158 := n0_; have HB := n1_; clear n0_ n1_; (try clear hb); (try clear hb2); (try clear hk); (try clear hi)) | ((with_reducible refine gate_dst (N := 8) rfl ?_); refine box_event ?hg (N := 8) ?hd (cs := #[.string (⟨#[]⟩ : ByteArray), .string (⟨#[]⟩ : ByteArray), .bool false, .bool false, .bool false]) (t := 42) ?hr ?_; (case hd => rfl); (case hg => rfl); (case hr => first | (go_simp; done) | (go_simp; rfl)); intro gb176 hg w67 hbox hb; have n0_ := Aside0.mk (blk_below (g := gb158) (o := .cells #[.string a0_0, .slice A0_1 l0_1.length c0_1, .slice A0_2 l0_2.length c0_2, .slice (a0_3).A (a0_3).n (a0_3).c, .slice A0_4 l0_4.length c0_4, .slice A0_5 l0_5.length c0_5, .int .i64 a0_6, .int .i64 a0_7, .int .i64 a0_8, .int .i64 a0_9, .string a0_10, .int .i64 a0_11, .int .i64 a0_12, .int .i64 a0_13, .bool a0_14] 30 (0, 0)) (by (with_reducible repeat (first | refine blk_drewN ?_ _ | refine blk_drew ?_ | refine blk_alloc ?_ _)); exact BK158.out) hb); have n1_ := Aside0.mk (below_step (by repeat (first | (with_reducible first | exact HB.out | apply below_alloc | apply pw_below_drewN | apply below_drew1 | refine below_set ?_ GE158.out) | exact HB.out)) hb); have n2_ := Aside0.mk (hbox); have n3_ := Aside0.mk ((by rw [hg]; exact (below_size (by repeat (first | (with_reducible first | exact HB.out | apply below_alloc | apply pw_below_drewN | apply below_drew1 | refine below_set ?_ GE158.out) | exact HB.out))) : w.heap.size ≤ gb176)); have n4_ := Aside0.mk ((by rw [hg]; exact (below_size (by repeat (first | (with_reducible first | exact HB.out | apply below_alloc | apply pw_below_drewN | apply below_drew1 | refine below_set ?_ GE158.out) | exact HB.out))) : w.heap.size ≤ gb176)); have n5_ := Aside0.mk ((by rw [hg]; exact Nat.ne_of_lt (blk_lt (g := gb158) (o := .cells #[.string a0_0, .slice A0_1 l0_1.length c0_1, .slice A0_2 l0_2.length c0_2, .slice (a0_3).A (a0_3).n (a0_3).c, .slice A0_4 l0_4.length c0_4, .slice A0_5 l0_5.length c0_5, .int .i64 a0_6, .int .i64 a0_7, .int .i64 a0_8, .int .i64 a0_9, .string a0_10, .int .i64 a0_11, .int .i64 a0_12, .int .i64 a0_13, .bool a0_14] 30 (0, 0)) (by (with_reducible repeat (first | refine blk_drewN ?_ _ | refine blk_drew ?_ | refine blk_alloc ?_ _)); exact BK158.out)) : gb158 ≠ gb176)); have n6_ := Aside0.mk ((by rw [hg]; exact Nat.ne_of_gt (blk_lt (g := gb158) (o := .cells #[.string a0_0, .slice A0_1 l0_1.length c0_1, .slice A0_2 l0_2.length c0_2, .slice (a0_3).A (a0_3).n (a0_3).c, .slice A0_4 l0_4.length c0_4, .slice A0_5 l0_5.length c0_5, .int .i64 a0_6, .int .i64 a0_7, .int .i64 a0_8, .int .i64 a0_9, .string a0_10, .int .i64 a0_11, .int .i64 a0_12, .int .i64 a0_13, .bool a0_14] 30 (0, 0)) (by (with_reducible repeat (first | refine blk_drewN ?_ _ | refine blk_drew ?_ | refine blk_alloc ?_ _)); exact BK158.out)) : gb176 ≠ gb158)); clear BK158; clear HB; have BK158 := n0_; have HB := n1_; have BK176 := n2_; have GW176 := n3_; have GE176 := n4_; have NB158_176 := n5_; have NB176_158 := n6_; clear n0_ n1_ n2_ n3_ n4_ n5_ n6_; clear hb hbox hg; have hnb68 := NB176_158.out; have hnc68 := NB158_176.out; have hcz69_0 : w67.cell? ⟨gb176, 0, none⟩ = some (.string (⟨#[]⟩ : ByteArray)) := (blk_cell BK176.out 0).trans rfl; have hcz69_1 : w67.cell? ⟨gb176, 1, none⟩ = some (.string (⟨#[]⟩ : ByteArray)) := (blk_cell BK176.out 1).trans rfl; have hcz69_2 : w67.cell? ⟨gb176, 2, none⟩ = some (.bool false) := (blk_cell BK176.out 2).trans rfl; have hcz69_3 : w67.cell? ⟨gb176, 3, none⟩ = some (.bool false) := (blk_cell BK176.out 3).trans rfl; have hcz69_4 : w67.cell? ⟨gb176, 4, none⟩ = some (.bool false) := (blk_cell BK176.out 4).trans rfl; have hfz69_0 := blk_frozen BK176.out 0; have hfz69_1 := blk_frozen BK176.out 1; have hfz69_2 := blk_frozen BK176.out 2; have hfz69_3 := blk_frozen BK176.out 3; have hfz69_4 := blk_frozen BK176.out 4) | (go_at_call 37; (with_reducible refine (chars_Name.calls a1 true _ A61.out).mono ?_); rintro e w70 ⟨rfl, hb⟩; have n0_ := Aside0.mk (blk_below (g := gb158) (o := .cells #[.string a0_0, .slice A0_1 l0_1.length c0_1, .slice A0_2 l0_2.length c0_2, .slice (a0_3).A (a0_3).n (a0_3).c, .slice A0_4 l0_4.length c0_4, .slice A0_5 l0_5.length c0_5, .int .i64 a0_6, .int .i64 a0_7, .int .i64 a0_8, .int .i64 a0_9, .string a0_10, .int .i64 a0_11, .int .i64 a0_12, .int .i64 a0_13, .bool a0_14] 30 (0, 0)) (by (with_reducible repeat (first | refine blk_drewN ?_ _ | refine blk_drew ?_ | refine blk_alloc ?_ _)); refine blk_far ?_ NB158_176.out _; (with_reducible repeat (first | refine blk_drewN ?_ _ | refine blk_drew ?_ | refine blk_alloc ?_ _)); refine blk_far ?_ NB158_176.out _; (with_reducible repeat (first | refine blk_drewN ?_ _ | refine blk_drew ?_ | refine blk_alloc ?_ _)); refine blk_far ?_ NB158_176.out _; (with_reducible repeat (first | refine blk_drewN ?_ _ | refine blk_drew ?_ | refine blk_alloc ?_ _)); refine blk_far ?_ NB158_176.out _; (with_reducible repeat (first | refine blk_drewN ?_ _ | refine blk_drew ?_ | refine blk_alloc ?_ _)); refine blk_far ?_ NB158_176.out _; (with_reducible repeat (first | refine blk_drewN ?_ _ | refine blk_drew ?_ | refine blk_alloc ?_ _)); exact BK158.out) hb); have n1_ := Aside0.mk (blk_below (g := gb176) (o := .cells #[.string t170, .string t171, .bool true, .bool t173, .bool t174] 42 (0, 0)) (by (with_reducible repeat (first | refine blk_drewN ?_ _ | refine blk_drew ?_ | refine blk_alloc ?_ _)); refine blk_put (cs := #[.string t170, .string t171, .bool true, .bool t173, .bool false]) ?_ 4 _ rfl; (with_reducible repeat (first | refine blk_drewN ?_ _ | refine blk_drew ?_ | refine blk_alloc ?_ _)); refine blk_put (cs := #[.string t170, .string t171, .bool true, .bool false, .bool false]) ?_ 3 _ rfl; (with_reducible repeat (first | refine blk_drewN ?_ _ | refine blk_drew ?_ | refine blk_alloc ?_ _)); refine blk_put (cs := #[.string t170, .string t171, .bool false, .bool false, .bool false]) ?_ 2 _ rfl; (with_reducible repeat (first | refine blk_drewN ?_ _ | refine blk_drew ?_ | refine blk_alloc ?_ _)); refine blk_put (cs := #[.string t170, .string (⟨#[]⟩ : ByteArray), .bool false, .bool false, .bool false]) ?_ 1 _ rfl; (with_reducible repeat (first | refine blk_drewN ?_ _ | refine blk_drew ?_ | refine blk_alloc ?_ _)); refine blk_put (cs := #[.string (⟨#[]⟩ : ByteArray), .string (⟨#[]⟩ : ByteArray), .bool false, .bool false, .bool false]) ?_ 0 _ rfl; (with_reducible repeat (first | refine blk_drewN ?_ _ | refine blk_drew ?_ | refine blk_alloc ?_ _)); exact BK176.out) hb); have n2_ := Aside0.mk (below_step (by repeat (first | (with_reducible first | exact HB.out | apply below_alloc | apply pw_below_drewN | apply below_drew1 | refine below_set ?_ GE158.out | refine below_set ?_ GE176.out) | exact HB.out)) hb); clear BK158; clear BK176; clear HB; have BK158 := n0_; have BK176 := n1_; have HB := n2_; clear n0_ n1_ n2_; (try clear hb); (try clear hb2); (try clear hk); (try clear hi); have hcz71_0 : w70.cell? ⟨gb176, 0, none⟩ = some (.string t170) := (blk_cell BK176.out 0).trans rfl; have hcz71_1 : w70.cell? ⟨gb176, 1, none⟩ = some (.string t171) := (blk_cell BK176.out 1).trans rfl; have hcz71_2 : w70.cell? ⟨gb176, 2, none⟩ = some (.bool true) := (blk_cell BK176.out 2).trans rfl; have hcz71_3 : w70.cell? ⟨gb176, 3, none⟩ = some (.bool t173) := (blk_cell BK176.out 3).trans rfl; have hcz71_4 : w70.cell? ⟨gb176, 4, none⟩ = some (.bool t174) := (blk_cell BK176.out 4).trans rfl; have hfz71_0 := blk_frozen BK176.out 0; have hfz71_1 := blk_frozen BK176.out 1; have hfz71_2 := blk_frozen BK176.out 2; have hfz71_3 := blk_frozen BK176.out 3; have hfz71_4 := blk_frozen BK176.out 4))
             go_ret2
             exact ⟨by first | rfl | (simp [errW_none, errW_some] <;> rfl) | (simp [*, errW_none, errW_some] <;> rfl), by repeat (first | (with_reducible first | exact HB.out | apply below_alloc | apply pw_below_drewN | apply below_drew1 | refine below_set ?_ GE158.out | refine below_set ?_ GE176.out) | exact HB.out)⟩
            ·replace c62 := Bool.eq_false_iff.mpr c62
             subst c62
             have H1 : (some ((⟨#[]⟩ : ByteArray), false)) = some (r1, r2) := by rw [if_neg (show ¬ (false = true) by decide)] at H; exact H
             clear H
             have H := H1
             clear H1
             simp only [Option.some.injEq, Prod.mk.injEq] at H
             obtain ⟨rfl, rfl⟩ := H
             go_enter Tryd.func20, Tryd.ntmps20
             go_wp2_with (first | ((with_reducible refine gate_dst (N := 2) rfl ?_); refine box_event ?hg (N := 2) ?hd (cs := #[.string a0_0, .slice A0_1 l0_1.length c0_1, .slice A0_2 l0_2.length c0_2, .slice (a0_3).A (a0_3).n (a0_3).c, .slice A0_4 l0_4.length c0_4, .slice A0_5 l0_5.length c0_5, .int .i64 a0_6, .int .i64 a0_7, .int .i64 a0_8, .int .i64 a0_9, .string a0_10, .int .i64 a0_11, .int .i64 a0_12, .int .i64 a0_13, .bool a0_14]) (t := 30) ?hr ?_; (case hd => rfl); (case hg => rfl); (case hr => first | (go_simp; done) | (go_simp; rfl)); intro gb158 hg w72 hbox hb; have n0_ := Aside0.mk (below_step (by repeat (first | (with_reducible first | exact HB.out | apply below_alloc | apply pw_below_drewN | apply below_drew1) | exact HB.out)) hb); have n1_ := Aside0.mk (hbox); have n2_ := Aside0.mk ((by rw [hg]; exact (below_size (by repeat (first | (with_reducible first | exact HB.out | apply below_alloc | apply pw_below_drewN | apply below_drew1) | exact HB.out))) : w.heap.size ≤ gb158)); have n3_ := Aside0.mk ((by rw [hg]; exact (below_size (by repeat (first | (with_reducible first | exact HB.out | apply below_alloc | apply pw_below_drewN | apply below_drew1) | exact HB.out))) : w.heap.size ≤ gb158)); clear HB; have HB := n0_; have BK158 := n1_; have GW158 := n2_; have GE158 := n3_; clear n0_ n1_ n2_ n3_; clear hb hbox hg) | ((with_reducible refine gate_callee (f := 36) rfl ?_); refine goesL_ (some 67) rfl rfl Tryd.func36 (by kernel_rfl) rfl #[.string a1] rfl (by (try simp only [List.map_toArray, List.map_cons, List.map_nil]); first | done | rfl | (simp only [List.length_drop, List.length_take]; rfl)) ?_; (with_reducible refine (param_position.calls a1 t167 false _ A46.out).mono ?_); rintro e w73 ⟨rfl, hb⟩; refine ⟨_, rfl, ?_⟩; have n0_ := Aside0.mk (blk_below (g := gb158) (o := .cells #[.string a0_0, .slice A0_1 l0_1.length c0_1, .slice A0_2 l0_2.length c0_2, .slice (a0_3).A (a0_3).n (a0_3).c, .slice A0_4 l0_4.length c0_4, .slice A0_5 l0_5.length c0_5, .int .i64 a0_6, .int .i64 a0_7, .int .i64 a0_8, .int .i64 a0_9, .string a0_10, .int .i64 a0_11, .int .i64 a0_12, .int .i64 a0_13, .bool a0_14] 30 (0, 0)) (by (with_reducible repeat (first | refine blk_drewN ?_ _ | refine blk_drew ?_ | refine blk_alloc ?_ _)); exact BK158.out) hb); have n1_ := Aside0.mk (below_step (by repeat (first | (with_reducible first | exact HB.out | apply below_alloc | apply pw_below_drewN | apply below_drew1 | refine below_set ?_ GE158.out) | exact HB.out)) hb); clear BK158; clear HB; have BK158 := n0_; have HB := n1_; clear n0_ n1_; (try clear hb); (try clear hb2); (try clear hk); (try clear hi); have hcz74_0 : w73.cell? ⟨gb158, 0, none⟩ = some (.string a0_0) := (blk_cell BK158.out 0).trans rfl; have hcz74_1 : w73.cell? ⟨gb158, 1, none⟩ = some (.slice A0_1 l0_1.length c0_1) := (blk_cell BK158.out 1).trans rfl; have hcz74_2 : w73.cell? ⟨gb158, 2, none⟩ = some (.slice A0_2 l0_2.length c0_2) := (blk_cell BK158.out 2).trans rfl; have hcz74_3 : w73.cell? ⟨gb158, 3, none⟩ = some (.slice (a0_3).A (a0_3).n (a0_3).c) := (blk_cell BK158.out 3).trans rfl; have hcz74_4 : w73.cell? ⟨gb158, 4, none⟩ = some (.slice A0_4 l0_4.length c0_4) := (blk_cell BK158.out 4).trans rfl; have hcz74_5 : w73.cell? ⟨gb158, 5, none⟩ = some (.slice A0_5 l0_5.length c0_5) := (blk_cell BK158.out 5).trans rfl; have hcz74_6 : w73.cell? ⟨gb158, 6, none⟩ = some (.int .i64 a0_6) := (blk_cell BK158.out 6).trans rfl; have hcz74_7 : w73.cell? ⟨gb158, 7, none⟩ = some (.int .i64 a0_7) := (blk_cell BK158.out 7).trans rfl; have hcz74_8 : w73.cell? ⟨gb158, 8, none⟩ = some (.int .i64 a0_8) := (blk_cell BK158.out 8).trans rfl; have hcz74_9 : w73.cell? ⟨gb158, 9, none⟩ = some (.int .i64 a0_9) := (blk_cell BK158.out 9).trans rfl; have hcz74_10 : w73.cell? ⟨gb158, 10, none⟩ = some (.string a0_10) := (blk_cell BK158.out 10).trans rfl; have hcz74_11 : w73.cell? ⟨gb158, 11, none⟩ = some (.int .i64 a0_11) := (blk_cell BK158.out 11).trans rfl; have hcz74_12 : w73.cell? ⟨gb158, 12, none⟩ = some (.int .i64 a0_12) := (blk_cell BK158.out 12).trans rfl; have hcz74_13 : w73.cell? ⟨gb158, 13, none⟩ = some (.int .i64 a0_13) := (blk_cell BK158.out 13).trans rfl; have hcz74_14 : w73.cell? ⟨gb158, 14, none⟩ = some (.bool a0_14) := (blk_cell BK158.out 14).trans rfl; have hfz74_0 := blk_frozen BK158.out 0; have hfz74_1 := blk_frozen BK158.out 1; have hfz74_2 := blk_frozen BK158.out 2; have hfz74_3 := blk_frozen BK158.out 3; have hfz74_4 := blk_frozen BK158.out 4; have hfz74_5 := blk_frozen BK158.out 5; have hfz74_6 := blk_frozen BK158.out 6; have hfz74_7 := blk_frozen BK158.out 7; have hfz74_8 := blk_frozen BK158.out 8; have hfz74_9 := blk_frozen BK158.out 9; have hfz74_10 := blk_frozen BK158.out 10; have hfz74_11 := blk_frozen BK158.out 11; have hfz74_12 := blk_frozen BK158.out 12; have hfz74_13 := blk_frozen BK158.out 13; have hfz74_14 := blk_frozen BK158.out 14) | ((with_reducible refine gate_callee (f := 26) rfl ?_); refine goesL_ (some 86) rfl rfl Tryd.func26 (by kernel_rfl) rfl #[.slice A0_1 l0_1.length c0_1, .string a1] rfl (by (try simp only [List.map_toArray, List.map_cons, List.map_nil]); first | done | rfl | (simp only [List.length_drop, List.length_take]; rfl)) ?_; (with_reducible refine (vars_Get.calls k _ _ l0_1 a1 t170 t171 true t173 t174 true _ ?side1 ?side2 A58.out).mono ?_); (case side1 => repeat (first | exact (Kd.C_below HR0_1.out HB.out) | (with_reducible refine Kd.C_alloc ?_ _) | (with_reducible refine Kd.C_drewN ?_ _) | (with_reducible refine Kd.C_drew ?_))); (case side2 => exact HC0_1.out); rintro e w75 ⟨rfl, hb⟩; refine ⟨_, rfl, ?_⟩; have n0_ := Aside0.mk (blk_below (g := gb158) (o := .cells #[.string a0_0, .slice A0_1 l0_1.length c0_1, .slice A0_2 l0_2.length c0_2, .slice (a0_3).A (a0_3).n (a0_3).c, .slice A0_4 l0_4.length c0_4, .slice A0_5 l0_5.length c0_5, .int .i64 a0_6, .int .i64 a0_7, .int .i64 a0_8, .int .i64 a0_9, .string a0_10, .int .i64 a0_11, .int .i64 a0_12, .int .i64 a0_13, .bool a0_14] 30 (0, 0)) (by (with_reducible repeat (first | refine blk_drewN ?_ _ | refine blk_drew ?_ | refine blk_alloc ?_ _)); exact BK158.out) hb); have n1_ := Aside0.mk (below_step (by repeat (first | (with_reducible first | exact HB.out | apply below_alloc | apply pw_below_drewN | apply below_drew1 | refine below_set ?_ GE158.out) | exact HB.out)) hb); clear BK158; clear HB; have BK158 := n0_; have HB := n1_; clear n0_ n1_; (try clear hb); (try clear hb2); (try clear hk); (try clear hi)) | ((with_reducible refine gate_dst (N := 8) rfl ?_); refine box_event ?hg (N := 8) ?hd (cs := #[.string (⟨#[]⟩ : ByteArray), .string (⟨#[]⟩ : ByteArray), .bool false, .bool false, .bool false]) (t := 42) ?hr ?_; (case hd => rfl); (case hg => rfl); (case hr => first | (go_simp; done) | (go_simp; rfl)); intro gb176 hg w76 hbox hb; have n0_ := Aside0.mk (blk_below (g := gb158) (o := .cells #[.string a0_0, .slice A0_1 l0_1.length c0_1, .slice A0_2 l0_2.length c0_2, .slice (a0_3).A (a0_3).n (a0_3).c, .slice A0_4 l0_4.length c0_4, .slice A0_5 l0_5.length c0_5, .int .i64 a0_6, .int .i64 a0_7, .int .i64 a0_8, .int .i64 a0_9, .string a0_10, .int .i64 a0_11, .int .i64 a0_12, .int .i64 a0_13, .bool a0_14] 30 (0, 0)) (by (with_reducible repeat (first | refine blk_drewN ?_ _ | refine blk_drew ?_ | refine blk_alloc ?_ _)); exact BK158.out) hb); have n1_ := Aside0.mk (below_step (by repeat (first | (with_reducible first | exact HB.out | apply below_alloc | apply pw_below_drewN | apply below_drew1 | refine below_set ?_ GE158.out) | exact HB.out)) hb); have n2_ := Aside0.mk (hbox); have n3_ := Aside0.mk ((by rw [hg]; exact (below_size (by repeat (first | (with_reducible first | exact HB.out | apply below_alloc | apply pw_below_drewN | apply below_drew1 | refine below_set ?_ GE158.out) | exact HB.out))) : w.heap.size ≤ gb176)); have n4_ := Aside0.mk ((by rw [hg]; exact (below_size (by repeat (first | (with_reducible first | exact HB.out | apply below_alloc | apply pw_below_drewN | apply below_drew1 | refine below_set ?_ GE158.out) | exact HB.out))) : w.heap.size ≤ gb176)); have n5_ := Aside0.mk ((by rw [hg]; exact Nat.ne_of_lt (blk_lt (g := gb158) (o := .cells #[.string a0_0, .slice A0_1 l0_1.length c0_1, .slice A0_2 l0_2.length c0_2, .slice (a0_3).A (a0_3).n (a0_3).c, .slice A0_4 l0_4.length c0_4, .slice A0_5 l0_5.length c0_5, .int .i64 a0_6, .int .i64 a0_7, .int .i64 a0_8, .int .i64 a0_9, .string a0_10, .int .i64 a0_11, .int .i64 a0_12, .int .i64 a0_13, .bool a0_14] 30 (0, 0)) (by (with_reducible repeat (first | refine blk_drewN ?_ _ | refine blk_drew ?_ | refine blk_alloc ?_ _)); exact BK158.out)) : gb158 ≠ gb176)); have n6_ := Aside0.mk ((by rw [hg]; exact Nat.ne_of_gt (blk_lt (g := gb158) (o := .cells #[.string a0_0, .slice A0_1 l0_1.length c0_1, .slice A0_2 l0_2.length c0_2, .slice (a0_3).A (a0_3).n (a0_3).c, .slice A0_4 l0_4.length c0_4, .slice A0_5 l0_5.length c0_5, .int .i64 a0_6, .int .i64 a0_7, .int .i64 a0_8, .int .i64 a0_9, .string a0_10, .int .i64 a0_11, .int .i64 a0_12, .int .i64 a0_13, .bool a0_14] 30 (0, 0)) (by (with_reducible repeat (first | refine blk_drewN ?_ _ | refine blk_drew ?_ | refine blk_alloc ?_ _)); exact BK158.out)) : gb176 ≠ gb158)); clear BK158; clear HB; have BK158 := n0_; have HB := n1_; have BK176 := n2_; have GW176 := n3_; have GE176 := n4_; have NB158_176 := n5_; have NB176_158 := n6_; clear n0_ n1_ n2_ n3_ n4_ n5_ n6_; clear hb hbox hg; have hnb77 := NB176_158.out; have hnc77 := NB158_176.out; have hcz78_0 : w76.cell? ⟨gb176, 0, none⟩ = some (.string (⟨#[]⟩ : ByteArray)) := (blk_cell BK176.out 0).trans rfl; have hcz78_1 : w76.cell? ⟨gb176, 1, none⟩ = some (.string (⟨#[]⟩ : ByteArray)) := (blk_cell BK176.out 1).trans rfl; have hcz78_2 : w76.cell? ⟨gb176, 2, none⟩ = some (.bool false) := (blk_cell BK176.out 2).trans rfl; have hcz78_3 : w76.cell? ⟨gb176, 3, none⟩ = some (.bool false) := (blk_cell BK176.out 3).trans rfl; have hcz78_4 : w76.cell? ⟨gb176, 4, none⟩ = some (.bool false) := (blk_cell BK176.out 4).trans rfl; have hfz78_0 := blk_frozen BK176.out 0; have hfz78_1 := blk_frozen BK176.out 1; have hfz78_2 := blk_frozen BK176.out 2; have hfz78_3 := blk_frozen BK176.out 3; have hfz78_4 := blk_frozen BK176.out 4) | (go_at_call 37; (with_reducible refine (chars_Name.calls a1 false _ A61.out).mono ?_); rintro e w79 ⟨rfl, hb⟩; have n0_ := Aside0.mk (blk_below (g := gb158) (o := .cells #[.string a0_0, .slice A0_1 l0_1.length c0_1, .slice A0_2 l0_2.length c0_2, .slice (a0_3).A (a0_3).n (a0_3).c, .slice A0_4 l0_4.length c0_4, .slice A0_5 l0_5.length c0_5, .int .i64 a0_6, .int .i64 a0_7, .int .i64 a0_8, .int .i64 a0_9, .string a0_10, .int .i64 a0_11, .int .i64 a0_12, .int .i64 a0_13, .bool a0_14] 30 (0, 0)) (by (with_reducible repeat (first | refine blk_drewN ?_ _ | refine blk_drew ?_ | refine blk_alloc ?_ _)); refine blk_far ?_ NB158_176.out _; (with_reducible repeat (first | refine blk_drewN ?_ _ | refine blk_drew ?_ | refine blk_alloc ?_ _)); refine blk_far ?_ NB158_176.out _; (with_reducible repeat (first | refine blk_drewN ?_ _ | refine blk_drew ?_ | refine blk_alloc ?_ _)); refine blk_far ?_ NB158_176.out _; (with_reducible repeat (first | refine blk_drewN ?_ _ | refine blk_drew ?_ | refine blk_alloc ?_ _)); refine blk_far ?_ NB158_176.out _; (with_reducible repeat (first | refine blk_drewN ?_ _ | refine blk_drew ?_ | refine blk_alloc ?_ _)); refine blk_far ?_ NB158_176.out _; (with_reducible repeat (first | refine blk_drewN ?_ _ | refine blk_drew ?_ | refine blk_alloc ?_ _)); exact BK158.out) hb); have n1_ := Aside0.mk (blk_below (g := gb176) (o := .cells #[.string t170, .string t171, .bool true, .bool t173, .bool t174] 42 (0, 0)) (by (with_reducible repeat (first | refine blk_drewN ?_ _ | refine blk_drew ?_ | refine blk_alloc ?_ _)); refine blk_put (cs := #[.string t170, .string t171, .bool true, .bool t173, .bool false]) ?_ 4 _ rfl; (with_reducible repeat (first | refine blk_drewN ?_ _ | refine blk_drew ?_ | refine blk_alloc ?_ _)); refine blk_put (cs := #[.string t170, .string t171, .bool true, .bool false, .bool false]) ?_ 3 _ rfl; (with_reducible repeat (first | refine blk_drewN ?_ _ | refine blk_drew ?_ | refine blk_alloc ?_ _)); refine blk_put (cs := #[.string t170, .string t171, .bool false, .bool false, .bool false]) ?_ 2 _ rfl; (with_reducible repeat (first | refine blk_drewN ?_ _ | refine blk_drew ?_ | refine blk_alloc ?_ _)); refine blk_put (cs := #[.string t170, .string (⟨#[]⟩ : ByteArray), .bool false, .bool false, .bool false]) ?_ 1 _ rfl; (with_reducible repeat (first | refine blk_drewN ?_ _ | refine blk_drew ?_ | refine blk_alloc ?_ _)); refine blk_put (cs := #[.string (⟨#[]⟩ : ByteArray), .string (⟨#[]⟩ : ByteArray), .bool false, .bool false, .bool false]) ?_ 0 _ rfl; (with_reducible repeat (first | refine blk_drewN ?_ _ | refine blk_drew ?_ | refine blk_alloc ?_ _)); exact BK176.out) hb); have n2_ := Aside0.mk (below_step (by repeat (first | (with_reducible first | exact HB.out | apply below_alloc | apply pw_below_drewN | apply below_drew1 | refine below_set ?_ GE158.out | refine below_set ?_ GE176.out) | exact HB.out)) hb); clear BK158; clear BK176; clear HB; have BK158 := n0_; have BK176 := n1_; have HB := n2_; clear n0_ n1_ n2_; (try clear hb); (try clear hb2); (try clear hk); (try clear hi)))
             go_ret2
             exact ⟨by first | rfl | (simp [errW_none, errW_some] <;> rfl) | (simp [*, errW_none, errW_some] <;> rfl), by repeat (first | (with_reducible first | exact HB.out | apply below_alloc | apply pw_below_drewN | apply below_drew1 | refine below_set ?_ GE158.out | refine below_set ?_ GE176.out) | exact HB.out)⟩
           ·replace c60 := Bool.eq_false_iff.mpr c60
            subst c60
            have H1 : (some ((⟨#[]⟩ : ByteArray), false)) = some (r1, r2) := by rw [if_neg (show ¬ (false = true) by decide)] at H; exact H
            clear H
            have H := H1
            clear H1
            simp only [Option.some.injEq, Prod.mk.injEq] at H
            obtain ⟨rfl, rfl⟩ := H
            go_enter Tryd.func20, Tryd.ntmps20
            go_wp2_with (first | ((with_reducible refine gate_dst (N := 2) rfl ?_); refine box_event ?hg (N := 2) ?hd (cs := #[.string a0_0, .slice A0_1 l0_1.length c0_1, .slice A0_2 l0_2.length c0_2, .slice (a0_3).A (a0_3).n (a0_3).c, .slice A0_4 l0_4.length c0_4, .slice A0_5 l0_5.length c0_5, .int .i64 a0_6, .int .i64 a0_7, .int .i64 a0_8, .int .i64 a0_9, .string a0_10, .int .i64 a0_11, .int .i64 a0_12, .int .i64 a0_13, .bool a0_14]) (t := 30) ?hr ?_; (case hd => rfl); (case hg => rfl); (case hr => first | (go_simp; done) | (go_simp; rfl)); intro gb158 hg w80 hbox hb; have n0_ := Aside0.mk (below_step (by repeat (first | (with_reducible first | exact HB.out | apply below_alloc | apply pw_below_drewN | apply below_drew1) | exact HB.out)) hb); have n1_ := Aside0.mk (hbox); have n2_ := Aside0.mk ((by rw [hg]; exact (below_size (by repeat (first | (with_reducible first | exact HB.out | apply below_alloc | apply pw_below_drewN | apply below_drew1) | exact HB.out))) : w.heap.size ≤ gb158)); have n3_ := Aside0.mk ((by rw [hg]; exact (below_size (by repeat (first | (with_reducible first | exact HB.out | apply below_alloc | apply pw_below_drewN | apply below_drew1) | exact HB.out))) : w.heap.size ≤ gb158)); clear HB; have HB := n0_; have BK158 := n1_; have GW158 := n2_; have GE158 := n3_; clear n0_ n1_ n2_ n3_; clear hb hbox hg) | ((with_reducible refine gate_callee (f := 36) rfl ?_); refine goesL_ (some 67) rfl rfl Tryd.func36 (by kernel_rfl) rfl #[.string a1] rfl (by (try simp only [List.map_toArray, List.map_cons, List.map_nil]); first | done | rfl | (simp only [List.length_drop, List.length_take]; rfl)) ?_; (with_reducible refine (param_position.calls a1 t167 false _ A46.out).mono ?_); rintro e w81 ⟨rfl, hb⟩; refine ⟨_, rfl, ?_⟩; have n0_ := Aside0.mk (blk_below (g := gb158) (o := .cells #[.string a0_0, .slice A0_1 l0_1.length c0_1, .slice A0_2 l0_2.length c0_2, .slice (a0_3).A (a0_3).n (a0_3).c, .slice A0_4 l0_4.length c0_4, .slice A0_5 l0_5.length c0_5, .int .i64 a0_6, .int .i64 a0_7, .int .i64 a0_8, .int .i64 a0_9, .string a0_10, .int .i64 a0_11, .int .i64 a0_12, .int .i64 a0_13, .bool a0_14] 30 (0, 0)) (by (with_reducible repeat (first | refine blk_drewN ?_ _ | refine blk_drew ?_ | refine blk_alloc ?_ _)); exact BK158.out) hb); have n1_ := Aside0.mk (below_step (by repeat (first | (with_reducible first | exact HB.out | apply below_alloc | apply pw_below_drewN | apply below_drew1 | refine below_set ?_ GE158.out) | exact HB.out)) hb); clear BK158; clear HB; have BK158 := n0_; have HB := n1_; clear n0_ n1_; (try clear hb); (try clear hb2); (try clear hk); (try clear hi); have hcz82_0 : w81.cell? ⟨gb158, 0, none⟩ = some (.string a0_0) := (blk_cell BK158.out 0).trans rfl; have hcz82_1 : w81.cell? ⟨gb158, 1, none⟩ = some (.slice A0_1 l0_1.length c0_1) := (blk_cell BK158.out 1).trans rfl; have hcz82_2 : w81.cell? ⟨gb158, 2, none⟩ = some (.slice A0_2 l0_2.length c0_2) := (blk_cell BK158.out 2).trans rfl; have hcz82_3 : w81.cell? ⟨gb158, 3, none⟩ = some (.slice (a0_3).A (a0_3).n (a0_3).c) := (blk_cell BK158.out 3).trans rfl; have hcz82_4 : w81.cell? ⟨gb158, 4, none⟩ = some (.slice A0_4 l0_4.length c0_4) := (blk_cell BK158.out 4).trans rfl; have hcz82_5 : w81.cell? ⟨gb158, 5, none⟩ = some (.slice A0_5 l0_5.length c0_5) := (blk_cell BK158.out 5).trans rfl; have hcz82_6 : w81.cell? ⟨gb158, 6, none⟩ = some (.int .i64 a0_6) := (blk_cell BK158.out 6).trans rfl; have hcz82_7 : w81.cell? ⟨gb158, 7, none⟩ = some (.int .i64 a0_7) := (blk_cell BK158.out 7).trans rfl; have hcz82_8 : w81.cell? ⟨gb158, 8, none⟩ = some (.int .i64 a0_8) := (blk_cell BK158.out 8).trans rfl; have hcz82_9 : w81.cell? ⟨gb158, 9, none⟩ = some (.int .i64 a0_9) := (blk_cell BK158.out 9).trans rfl; have hcz82_10 : w81.cell? ⟨gb158, 10, none⟩ = some (.string a0_10) := (blk_cell BK158.out 10).trans rfl; have hcz82_11 : w81.cell? ⟨gb158, 11, none⟩ = some (.int .i64 a0_11) := (blk_cell BK158.out 11).trans rfl; have hcz82_12 : w81.cell? ⟨gb158, 12, none⟩ = some (.int .i64 a0_12) := (blk_cell BK158.out 12).trans rfl; have hcz82_13 : w81.cell? ⟨gb158, 13, none⟩ = some (.int .i64 a0_13) := (blk_cell BK158.out 13).trans rfl; have hcz82_14 : w81.cell? ⟨gb158, 14, none⟩ = some (.bool a0_14) := (blk_cell BK158.out 14).trans rfl; have hfz82_0 := blk_frozen BK158.out 0; have hfz82_1 := blk_frozen BK158.out 1; have hfz82_2 := blk_frozen BK158.out 2; have hfz82_3 := blk_frozen BK158.out 3; have hfz82_4 := blk_frozen BK158.out 4; have hfz82_5 := blk_frozen BK158.out 5; have hfz82_6 := blk_frozen BK158.out 6; have hfz82_7 := blk_frozen BK158.out 7; have hfz82_8 := blk_frozen BK158.out 8; have hfz82_9 := blk_frozen BK158.out 9; have hfz82_10 := blk_frozen BK158.out 10; have hfz82_11 := blk_frozen BK158.out 11; have hfz82_12 := blk_frozen BK158.out 12; have hfz82_13 := blk_frozen BK158.out 13; have hfz82_14 := blk_frozen BK158.out 14) | ((with_reducible refine gate_callee (f := 26) rfl ?_); refine goesL_ (some 86) rfl rfl Tryd.func26 (by kernel_rfl) rfl #[.slice A0_1 l0_1.length c0_1, .string a1] rfl (by (try simp only [List.map_toArray, List.map_cons, List.map_nil]); first | done | rfl | (simp only [List.length_drop, List.length_take]; rfl)) ?_; (with_reducible refine (vars_Get.calls k _ _ l0_1 a1 t170 t171 false t173 t174 true _ ?side1 ?side2 A58.out).mono ?_); (case side1 => repeat (first | exact (Kd.C_below HR0_1.out HB.out) | (with_reducible refine Kd.C_alloc ?_ _) | (with_reducible refine Kd.C_drewN ?_ _) | (with_reducible refine Kd.C_drew ?_))); (case side2 => exact HC0_1.out); rintro e w83 ⟨rfl, hb⟩; refine ⟨_, rfl, ?_⟩; have n0_ := Aside0.mk (blk_below (g := gb158) (o := .cells #[.string a0_0, .slice A0_1 l0_1.length c0_1, .slice A0_2 l0_2.length c0_2, .slice (a0_3).A (a0_3).n (a0_3).c, .slice A0_4 l0_4.length c0_4, .slice A0_5 l0_5.length c0_5, .int .i64 a0_6, .int .i64 a0_7, .int .i64 a0_8, .int .i64 a0_9, .string a0_10, .int .i64 a0_11, .int .i64 a0_12, .int .i64 a0_13, .bool a0_14] 30 (0, 0)) (by (with_reducible repeat (first | refine blk_drewN ?_ _ | refine blk_drew ?_ | refine blk_alloc ?_ _)); exact BK158.out) hb); have n1_ := Aside0.mk (below_step (by repeat (first | (with_reducible first | exact HB.out | apply below_alloc | apply pw_below_drewN | apply below_drew1 | refine below_set ?_ GE158.out) | exact HB.out)) hb); clear BK158; clear HB; have BK158 := n0_; have HB := n1_; clear n0_ n1_; (try clear hb); (try clear hb2); (try clear hk); (try clear hi)) | ((with_reducible refine gate_dst (N := 8) rfl ?_); refine box_event ?hg (N := 8) ?hd (cs := #[.string (⟨#[]⟩ : ByteArray), .string (⟨#[]⟩ : ByteArray), .bool false, .bool false, .bool false]) (t := 42) ?hr ?_; (case hd => rfl); (case hg => rfl); (case hr => first | (go_simp; done) | (go_simp; rfl)); intro gb176 hg w84 hbox hb; have n0_ := Aside0.mk (blk_below (g := gb158) (o := .cells #[.string a0_0, .slice A0_1 l0_1.length c0_1, .slice A0_2 l0_2.length c0_2, .slice (a0_3).A (a0_3).n (a0_3).c, .slice A0_4 l0_4.length c0_4, .slice A0_5 l0_5.length c0_5, .int .i64 a0_6, .int .i64 a0_7, .int .i64 a0_8, .int .i64 a0_9, .string a0_10, .int .i64 a0_11, .int .i64 a0_12, .int .i64 a0_13, .bool a0_14] 30 (0, 0)) (by (with_reducible repeat (first | refine blk_drewN ?_ _ | refine blk_drew ?_ | refine blk_alloc ?_ _)); exact BK158.out) hb); have n1_ := Aside0.mk (below_step (by repeat (first | (with_reducible first | exact HB.out | apply below_alloc | apply pw_below_drewN | apply below_drew1 | refine below_set ?_ GE158.out) | exact HB.out)) hb); have n2_ := Aside0.mk (hbox); have n3_ := Aside0.mk ((by rw [hg]; exact (below_size (by repeat (first | (with_reducible first | exact HB.out | apply below_alloc | apply pw_below_drewN | apply below_drew1 | refine below_set ?_ GE158.out) | exact HB.out))) : w.heap.size ≤ gb176)); have n4_ := Aside0.mk ((by rw [hg]; exact (below_size (by repeat (first | (with_reducible first | exact HB.out | apply below_alloc | apply pw_below_drewN | apply below_drew1 | refine below_set ?_ GE158.out) | exact HB.out))) : w.heap.size ≤ gb176)); have n5_ := Aside0.mk ((by rw [hg]; exact Nat.ne_of_lt (blk_lt (g := gb158) (o := .cells #[.string a0_0, .slice A0_1 l0_1.length c0_1, .slice A0_2 l0_2.length c0_2, .slice (a0_3).A (a0_3).n (a0_3).c, .slice A0_4 l0_4.length c0_4, .slice A0_5 l0_5.length c0_5, .int .i64 a0_6, .int .i64 a0_7, .int .i64 a0_8, .int .i64 a0_9, .string a0_10, .int .i64 a0_11, .int .i64 a0_12, .int .i64 a0_13, .bool a0_14] 30 (0, 0)) (by (with_reducible repeat (first | refine blk_drewN ?_ _ | refine blk_drew ?_ | refine blk_alloc ?_ _)); exact BK158.out)) : gb158 ≠ gb176)); have n6_ := Aside0.mk ((by rw [hg]; exact Nat.ne_of_gt (blk_lt (g := gb158) (o := .cells #[.string a0_0, .slice A0_1 l0_1.length c0_1, .slice A0_2 l0_2.length c0_2, .slice (a0_3).A (a0_3).n (a0_3).c, .slice A0_4 l0_4.length c0_4, .slice A0_5 l0_5.length c0_5, .int .i64 a0_6, .int .i64 a0_7, .int .i64 a0_8, .int .i64 a0_9, .string a0_10, .int .i64 a0_11, .int .i64 a0_12, .int .i64 a0_13, .bool a0_14] 30 (0, 0)) (by (with_reducible repeat (first | refine blk_drewN ?_ _ | refine blk_drew ?_ | refine blk_alloc ?_ _)); exact BK158.out)) : gb176 ≠ gb158)); clear BK158; clear HB; have BK158 := n0_; have HB := n1_; have BK176 := n2_; have GW176 := n3_; have GE176 := n4_; have NB158_176 := n5_; have NB176_158 := n6_; clear n0_ n1_ n2_ n3_ n4_ n5_ n6_; clear hb hbox hg; have hnb85 := NB176_158.out; have hnc85 := NB158_176.out; have hcz86_0 : w84.cell? ⟨gb176, 0, none⟩ = some (.string (⟨#[]⟩ : ByteArray)) := (blk_cell BK176.out 0).trans rfl; have hcz86_1 : w84.cell? ⟨gb176, 1, none⟩ = some (.string (⟨#[]⟩ : ByteArray)) := (blk_cell BK176.out 1).trans rfl; have hcz86_2 : w84.cell? ⟨gb176, 2, none⟩ = some (.bool false) := (blk_cell BK176.out 2).trans rfl; have hcz86_3 : w84.cell? ⟨gb176, 3, none⟩ = some (.bool false) := (blk_cell BK176.out 3).trans rfl; have hcz86_4 : w84.cell? ⟨gb176, 4, none⟩ = some (.bool false) := (blk_cell BK176.out 4).trans rfl; have hfz86_0 := blk_frozen BK176.out 0; have hfz86_1 := blk_frozen BK176.out 1; have hfz86_2 := blk_frozen BK176.out 2; have hfz86_3 := blk_frozen BK176.out 3; have hfz86_4 := blk_frozen BK176.out 4))
            go_ret2
            exact ⟨by first | rfl | (simp [errW_none, errW_some] <;> rfl) | (simp [*, errW_none, errW_some] <;> rfl), by repeat (first | (with_reducible first | exact HB.out | apply below_alloc | apply pw_below_drewN | apply below_drew1 | refine below_set ?_ GE158.out | refine below_set ?_ GE176.out) | exact HB.out)⟩
          ·replace c59 := Bool.eq_false_iff.mpr c59
           subst c59
           have H1 : (some ((⟨#[]⟩ : ByteArray), false)) = some (r1, r2) := by rw [if_neg (show ¬ (false = true) by decide)] at H; exact H
           clear H
           have H := H1
           clear H1
           simp only [Option.some.injEq, Prod.mk.injEq] at H
           obtain ⟨rfl, rfl⟩ := H
           go_enter Tryd.func20, Tryd.ntmps20
           go_wp2_with (first | ((with_reducible refine gate_dst (N := 2) rfl ?_); refine box_event ?hg (N := 2) ?hd (cs := #[.string a0_0, .slice A0_1 l0_1.length c0_1, .slice A0_2 l0_2.length c0_2, .slice (a0_3).A (a0_3).n (a0_3).c, .slice A0_4 l0_4.length c0_4, .slice A0_5 l0_5.length c0_5, .int .i64 a0_6, .int .i64 a0_7, .int .i64 a0_8, .int .i64 a0_9, .string a0_10, .int .i64 a0_11, .int .i64 a0_12, .int .i64 a0_13, .bool a0_14]) (t := 30) ?hr ?_; (case hd => rfl); (case hg => rfl); (case hr => first | (go_simp; done) | (go_simp; rfl)); intro gb158 hg w87 hbox hb; have n0_ := Aside0.mk (below_step (by repeat (first | (with_reducible first | exact HB.out | apply below_alloc | apply pw_below_drewN | apply below_drew1) | exact HB.out)) hb); have n1_ := Aside0.mk (hbox); have n2_ := Aside0.mk ((by rw [hg]; exact (below_size (by repeat (first | (with_reducible first | exact HB.out | apply below_alloc | apply pw_below_drewN | apply below_drew1) | exact HB.out))) : w.heap.size ≤ gb158)); have n3_ := Aside0.mk ((by rw [hg]; exact (below_size (by repeat (first | (with_reducible first | exact HB.out | apply below_alloc | apply pw_below_drewN | apply below_drew1) | exact HB.out))) : w.heap.size ≤ gb158)); clear HB; have HB := n0_; have BK158 := n1_; have GW158 := n2_; have GE158 := n3_; clear n0_ n1_ n2_ n3_; clear hb hbox hg) | ((with_reducible refine gate_callee (f := 36) rfl ?_); refine goesL_ (some 67) rfl rfl Tryd.func36 (by kernel_rfl) rfl #[.string a1] rfl (by (try simp only [List.map_toArray, List.map_cons, List.map_nil]); first | done | rfl | (simp only [List.length_drop, List.length_take]; rfl)) ?_; (with_reducible refine (param_position.calls a1 t167 false _ A46.out).mono ?_); rintro e w88 ⟨rfl, hb⟩; refine ⟨_, rfl, ?_⟩; have n0_ := Aside0.mk (blk_below (g := gb158) (o := .cells #[.string a0_0, .slice A0_1 l0_1.length c0_1, .slice A0_2 l0_2.length c0_2, .slice (a0_3).A (a0_3).n (a0_3).c, .slice A0_4 l0_4.length c0_4, .slice A0_5 l0_5.length c0_5, .int .i64 a0_6, .int .i64 a0_7, .int .i64 a0_8, .int .i64 a0_9, .string a0_10, .int .i64 a0_11, .int .i64 a0_12, .int .i64 a0_13, .bool a0_14] 30 (0, 0)) (by (with_reducible repeat (first | refine blk_drewN ?_ _ | refine blk_drew ?_ | refine blk_alloc ?_ _)); exact BK158.out) hb); have n1_ := Aside0.mk (below_step (by repeat (first | (with_reducible first | exact HB.out | apply below_alloc | apply pw_below_drewN | apply below_drew1 | refine below_set ?_ GE158.out) | exact HB.out)) hb); clear BK158; clear HB; have BK158 := n0_; have HB := n1_; clear n0_ n1_; (try clear hb); (try clear hb2); (try clear hk); (try clear hi); have hcz89_0 : w88.cell? ⟨gb158, 0, none⟩ = some (.string a0_0) := (blk_cell BK158.out 0).trans rfl; have hcz89_1 : w88.cell? ⟨gb158, 1, none⟩ = some (.slice A0_1 l0_1.length c0_1) := (blk_cell BK158.out 1).trans rfl; have hcz89_2 : w88.cell? ⟨gb158, 2, none⟩ = some (.slice A0_2 l0_2.length c0_2) := (blk_cell BK158.out 2).trans rfl; have hcz89_3 : w88.cell? ⟨gb158, 3, none⟩ = some (.slice (a0_3).A (a0_3).n (a0_3).c) := (blk_cell BK158.out 3).trans rfl; have hcz89_4 : w88.cell? ⟨gb158, 4, none⟩ = some (.slice A0_4 l0_4.length c0_4) := (blk_cell BK158.out 4).trans rfl; have hcz89_5 : w88.cell? ⟨gb158, 5, none⟩ = some (.slice A0_5 l0_5.length c0_5) := (blk_cell BK158.out 5).trans rfl; have hcz89_6 : w88.cell? ⟨gb158, 6, none⟩ = some (.int .i64 a0_6) := (blk_cell BK158.out 6).trans rfl; have hcz89_7 : w88.cell? ⟨gb158, 7, none⟩ = some (.int .i64 a0_7) := (blk_cell BK158.out 7).trans rfl; have hcz89_8 : w88.cell? ⟨gb158, 8, none⟩ = some (.int .i64 a0_8) := (blk_cell BK158.out 8).trans rfl; have hcz89_9 : w88.cell? ⟨gb158, 9, none⟩ = some (.int .i64 a0_9) := (blk_cell BK158.out 9).trans rfl; have hcz89_10 : w88.cell? ⟨gb158, 10, none⟩ = some (.string a0_10) := (blk_cell BK158.out 10).trans rfl; have hcz89_11 : w88.cell? ⟨gb158, 11, none⟩ = some (.int .i64 a0_11) := (blk_cell BK158.out 11).trans rfl; have hcz89_12 : w88.cell? ⟨gb158, 12, none⟩ = some (.int .i64 a0_12) := (blk_cell BK158.out 12).trans rfl; have hcz89_13 : w88.cell? ⟨gb158, 13, none⟩ = some (.int .i64 a0_13) := (blk_cell BK158.out 13).trans rfl; have hcz89_14 : w88.cell? ⟨gb158, 14, none⟩ = some (.bool a0_14) := (blk_cell BK158.out 14).trans rfl; have hfz89_0 := blk_frozen BK158.out 0; have hfz89_1 := blk_frozen BK158.out 1; have hfz89_2 := blk_frozen BK158.out 2; have hfz89_3 := blk_frozen BK158.out 3; have hfz89_4 := blk_frozen BK158.out 4; have hfz89_5 := blk_frozen BK158.out 5; have hfz89_6 := blk_frozen BK158.out 6; have hfz89_7 := blk_frozen BK158.out 7; have hfz89_8 := blk_frozen BK158.out 8; have hfz89_9 := blk_frozen BK158.out 9; have hfz89_10 := blk_frozen BK158.out 10; have hfz89_11 := blk_frozen BK158.out 11; have hfz89_12 := blk_frozen BK158.out 12; have hfz89_13 := blk_frozen BK158.out 13; have hfz89_14 := blk_frozen BK158.out 14) | ((with_reducible refine gate_callee (f := 26) rfl ?_); refine goesL_ (some 86) rfl rfl Tryd.func26 (by kernel_rfl) rfl #[.slice A0_1 l0_1.length c0_1, .string a1] rfl (by (try simp only [List.map_toArray, List.map_cons, List.map_nil]); first | done | rfl | (simp only [List.length_drop, List.length_take]; rfl)) ?_; (with_reducible refine (vars_Get.calls k _ _ l0_1 a1 t170 t171 t172 t173 t174 false _ ?side1 ?side2 A58.out).mono ?_); (case side1 => repeat (first | exact (Kd.C_below HR0_1.out HB.out) | (with_reducible refine Kd.C_alloc ?_ _) | (with_reducible refine Kd.C_drewN ?_ _) | (with_reducible refine Kd.C_drew ?_))); (case side2 => exact HC0_1.out); rintro e w90 ⟨rfl, hb⟩; refine ⟨_, rfl, ?_⟩; have n0_ := Aside0.mk (blk_below (g := gb158) (o := .cells #[.string a0_0, .slice A0_1 l0_1.length c0_1, .slice A0_2 l0_2.length c0_2, .slice (a0_3).A (a0_3).n (a0_3).c, .slice A0_4 l0_4.length c0_4, .slice A0_5 l0_5.length c0_5, .int .i64 a0_6, .int .i64 a0_7, .int .i64 a0_8, .int .i64 a0_9, .string a0_10, .int .i64 a0_11, .int .i64 a0_12, .int .i64 a0_13, .bool a0_14] 30 (0, 0)) (by (with_reducible repeat (first | refine blk_drewN ?_ _ | refine blk_drew ?_ | refine blk_alloc ?_ _)); exact BK158.out) hb); have n1_ := Aside0.mk (below_step (by repeat (first | (with_reducible first | exact HB.out | apply below_alloc | apply pw_below_drewN | apply below_drew1 | refine below_set ?_ GE158.out) | exact HB.out)) hb); clear BK158; clear HB; have BK158 := n0_; have HB := n1_; clear n0_ n1_; (try clear hb); (try clear hb2); (try clear hk); (try clear hi)) | ((with_reducible refine gate_dst (N := 8) rfl ?_); refine box_event ?hg (N := 8) ?hd (cs := #[.string (⟨#[]⟩ : ByteArray), .string (⟨#[]⟩ : ByteArray), .bool false, .bool false, .bool false]) (t := 42) ?hr ?_; (case hd => rfl); (case hg => rfl); (case hr => first | (go_simp; done) | (go_simp; rfl)); intro gb176 hg w91 hbox hb; have n0_ := Aside0.mk (blk_below (g := gb158) (o := .cells #[.string a0_0, .slice A0_1 l0_1.length c0_1, .slice A0_2 l0_2.length c0_2, .slice (a0_3).A (a0_3).n (a0_3).c, .slice A0_4 l0_4.length c0_4, .slice A0_5 l0_5.length c0_5, .int .i64 a0_6, .int .i64 a0_7, .int .i64 a0_8, .int .i64 a0_9, .string a0_10, .int .i64 a0_11, .int .i64 a0_12, .int .i64 a0_13, .bool a0_14] 30 (0, 0)) (by (with_reducible repeat (first | refine blk_drewN ?_ _ | refine blk_drew ?_ | refine blk_alloc ?_ _)); exact BK158.out) hb); have n1_ := Aside0.mk (below_step (by repeat (first | (with_reducible first | exact HB.out | apply below_alloc | apply pw_below_drewN | apply below_drew1 | refine below_set ?_ GE158.out) | exact HB.out)) hb); have n2_ := Aside0.mk (hbox); have n3_ := Aside0.mk ((by rw [hg]; exact (below_size (by repeat (first | (with_reducible first | exact HB.out | apply below_alloc | apply pw_below_drewN | apply below_drew1 | refine below_set ?_ GE158.out) | exact HB.out))) : w.heap.size ≤ gb176)); have n4_ := Aside0.mk ((by rw [hg]; exact (below_size (by repeat (first | (with_reducible first | exact HB.out | apply below_alloc | apply pw_below_drewN | apply below_drew1 | refine below_set ?_ GE158.out) | exact HB.out))) : w.heap.size ≤ gb176)); have n5_ := Aside0.mk ((by rw [hg]; exact Nat.ne_of_lt (blk_lt (g := gb158) (o := .cells #[.string a0_0, .slice A0_1 l0_1.length c0_1, .slice A0_2 l0_2.length c0_2, .slice (a0_3).A (a0_3).n (a0_3).c, .slice A0_4 l0_4.length c0_4, .slice A0_5 l0_5.length c0_5, .int .i64 a0_6, .int .i64 a0_7, .int .i64 a0_8, .int .i64 a0_9, .string a0_10, .int .i64 a0_11, .int .i64 a0_12, .int .i64 a0_13, .bool a0_14] 30 (0, 0)) (by (with_reducible repeat (first | refine blk_drewN ?_ _ | refine blk_drew ?_ | refine blk_alloc ?_ _)); exact BK158.out)) : gb158 ≠ gb176)); have n6_ := Aside0.mk ((by rw [hg]; exact Nat.ne_of_gt (blk_lt (g := gb158) (o := .cells #[.string a0_0, .slice A0_1 l0_1.length c0_1, .slice A0_2 l0_2.length c0_2, .slice (a0_3).A (a0_3).n (a0_3).c, .slice A0_4 l0_4.length c0_4, .slice A0_5 l0_5.length c0_5, .int .i64 a0_6, .int .i64 a0_7, .int .i64 a0_8, .int .i64 a0_9, .string a0_10, .int .i64 a0_11, .int .i64 a0_12, .int .i64 a0_13, .bool a0_14] 30 (0, 0)) (by (with_reducible repeat (first | refine blk_drewN ?_ _ | refine blk_drew ?_ | refine blk_alloc ?_ _)); exact BK158.out)) : gb176 ≠ gb158)); clear BK158; clear HB; have BK158 := n0_; have HB := n1_; have BK176 := n2_; have GW176 := n3_; have GE176 := n4_; have NB158_176 := n5_; have NB176_158 := n6_; clear n0_ n1_ n2_ n3_ n4_ n5_ n6_; clear hb hbox hg; have hnb92 := NB176_158.out; have hnc92 := NB158_176.out; have hcz93_0 : w91.cell? ⟨gb176, 0, none⟩ = some (.string (⟨#[]⟩ : ByteArray)) := (blk_cell BK176.out 0).trans rfl; have hcz93_1 : w91.cell? ⟨gb176, 1, none⟩ = some (.string (⟨#[]⟩ : ByteArray)) := (blk_cell BK176.out 1).trans rfl; have hcz93_2 : w91.cell? ⟨gb176, 2, none⟩ = some (.bool false) := (blk_cell BK176.out 2).trans rfl; have hcz93_3 : w91.cell? ⟨gb176, 3, none⟩ = some (.bool false) := (blk_cell BK176.out 3).trans rfl; have hcz93_4 : w91.cell? ⟨gb176, 4, none⟩ = some (.bool false) := (blk_cell BK176.out 4).trans rfl; have hfz93_0 := blk_frozen BK176.out 0; have hfz93_1 := blk_frozen BK176.out 1; have hfz93_2 := blk_frozen BK176.out 2; have hfz93_3 := blk_frozen BK176.out 3; have hfz93_4 := blk_frozen BK176.out 4))
           go_ret2
           exact ⟨by first | rfl | (simp [errW_none, errW_some] <;> rfl) | (simp [*, errW_none, errW_some] <;> rfl), by repeat (first | (with_reducible first | exact HB.out | apply below_alloc | apply pw_below_drewN | apply below_drew1 | refine below_set ?_ GE158.out | refine below_set ?_ GE176.out) | exact HB.out)⟩
end Go.Proofs.YtiacdccnifjcjaaDoor.F
set_option linter.unusedVariables false
set_option linter.unusedSimpArgs false
namespace Go.Proofs.YtiacdccnifjcjaaDoor.F
open Go.RowKit Go.Proofs.YtiacdccnifjcjaaDoorW.PrintWords Go.Proofs.YtiacdccnifjcjaaDoorW.PrintLast Go.Proofs.YtiacdccnifjcjaaDoorW.PrintMore Go.Proofs.YtiacdccnifjcjaaDoor.Aid
def exStep (V : ByteArray → Option (ByteArray × Bool)) (Pm : ByteArray → Option (ByteArray × Int)) (cwd : ByteArray) (jobs number : Int) (s : ByteArray) (p : Nat) : Option (Option (ByteArray × Nat)) :=
  if bt s p = 36 then (Pm (s.extract (p + 1) s.size)).bind fun q => if 0 < q.2 then (V q.1).bind fun v => some (some (v.1, q.2.toNat + 1)) else some none
  else if bt s p = 92 then
    if p + 1 < s.size then
      if bt s (p + 1 : Nat) = 119 then some (some (cwd, 2))
      else if bt s (p + 1 : Nat) = 36 then some (some ((s.extract (p + 1) s.size).extract 0 1, 2))
      else if bt s (p + 1 : Nat) = 92 then some (some ((s.extract (p + 1) s.size).extract 0 1, 2))
      else if bt s (p + 1 : Nat) = 117 then (V ⟨#[85, 83, 69, 82]⟩).bind fun v => some (some (v.1, 2))
      else if bt s (p + 1 : Nat) = 106 then (strconv_Itoa.f jobs).bind fun v => some (some (v, 2))
      else if bt s (p + 1 : Nat) = 33 then (strconv_Itoa.f number).bind fun v => some (some (v, 2))
      else if bt s (p + 1 : Nat) = 110 then some (some (⟨#[10]⟩, 2))
      else some none
    else some none
  else some none
def exGo (V : ByteArray → Option (ByteArray × Bool)) (Pm : ByteArray → Option (ByteArray × Int)) (cwd : ByteArray) (jobs number : Int) (s : ByteArray) : Nat → Nat → Option (List UInt8)
  | 0, _ => none
  | g + 1, p => if p < s.size then (exStep V Pm cwd jobs number s p).bind fun o => match o with
      | none => (exGo V Pm cwd jobs number s g (p + 1)).bind fun r => some ((s.data.toList.drop p).take 1 ++ r)
      | some (t, n) => if 1 ≤ n ∧ p + n ≤ s.size then (exGo V Pm cwd jobs number s g (p + n)).bind fun r => some (t.data.toList ++ r) else none
    else some []
@[irreducible] def prompt_Expand.f (k : Nat) (a0_0 : ByteArray) (l0_1 : List S_Var) (l0_2 : List ByteArray) (a0_3 : Opq) (l0_4 : List S_Alias) (l0_5 : List S_Trap) (a0_6 a0_7 a0_8 a0_9 : Int) (a0_10 : ByteArray) (a0_11 a0_12 a0_13 : Int) (a0_14 : Bool) (a1 : ByteArray) (a2 a3 : Int) : Option ByteArray :=
  if a1.size ≤ 140737488351232 then (exGo (fun nm => param_Value.f k a0_0 l0_1 l0_2 a0_3 l0_4 l0_5 a0_6 a0_7 a0_8 a0_9 a0_10 a0_11 a0_12 a0_13 a0_14 nm) (fun x => prompt_parameter.f k x) a0_10 a2 a3 a1 (a1.size + 1) 0).bind fun out =>
    if out.length ≤ 140737488351232 then some ⟨(out.take 4096).toArray⟩ else none
  else none
theorem exStep_mono {V V' : ByteArray → Option (ByteArray × Bool)} {Pm Pm' : ByteArray → Option (ByteArray × Int)} (hV : ∀ x, LeO (V x) (V' x)) (hP : ∀ x, LeO (Pm x) (Pm' x)) (cwd : ByteArray) (jobs number : Int) (s : ByteArray) (p : Nat) :
    LeO (exStep V Pm cwd jobs number s p) (exStep V' Pm' cwd jobs number s p) := by
  unfold exStep
  repeat' first
    | exact hV _
    | exact hP _
    | exact LeO.refl _
    | refine LeO.ite ?_ ?_
    | refine LeO.bind ?_ (fun _ => ?_)
theorem exGo_mono {V V' : ByteArray → Option (ByteArray × Bool)} {Pm Pm' : ByteArray → Option (ByteArray × Int)} (hV : ∀ x, LeO (V x) (V' x)) (hP : ∀ x, LeO (Pm x) (Pm' x)) (cwd : ByteArray) (jobs number : Int) (s : ByteArray) :
    ∀ g p, LeO (exGo V Pm cwd jobs number s g p) (exGo V' Pm' cwd jobs number s g p) := by
  intro g
  induction g with
  | zero => intro p; exact LeO.none _
  | succ g ih =>
    intro p
    rw [exGo, exGo]
    refine LeO.ite (LeO.bind (exStep_mono hV hP cwd jobs number s p) (fun o => ?_)) (LeO.refl _)
    cases o with
    | none => exact LeO.bind (ih _) (fun _ => LeO.refl _)
    | some x => obtain ⟨t, n⟩ := x; exact LeO.ite (LeO.bind (ih _) (fun _ => LeO.refl _)) (LeO.refl _)
theorem prompt_Expand.mono : ∀ a0 a1 a2 a3 a4 a5 a6 a7 a8 a9 a10 a11 a12 a13 a14 a15 a16 a17 k, LeO (prompt_Expand.f k a0 a1 a2 a3 a4 a5 a6 a7 a8 a9 a10 a11 a12 a13 a14 a15 a16 a17) (prompt_Expand.f (k + 1) a0 a1 a2 a3 a4 a5 a6 a7 a8 a9 a10 a11 a12 a13 a14 a15 a16 a17) := by
  intro a0 a1 a2 a3 a4 a5 a6 a7 a8 a9 a10 a11 a12 a13 a14 a15 a16 a17 k
  unfold prompt_Expand.f
  exact LeO.ite (LeO.bind (exGo_mono (fun _ => param_Value.mono _ _ _ _ _ _ _ _ _ _ _ _ _ _ _ _ _) (fun _ => prompt_parameter.mono _ _) _ _ _ _ _ _) (fun _ => LeO.refl _)) (LeO.none _)
theorem seg_cat (s : ByteArray) (f p : Nat) (t : ByteArray) : (s.extract f p ++ t).data.toList = (s.data.toList.drop f).take (p - f) ++ t.data.toList := by
  rw [← Lib.extract_data, ByteArray.data_append]; simp
theorem high_run (s : ByteArray) (p : Nat) (h : p < s.size) (hc : 128 ≤ bt s p) : p + (Utf8.decode s p).2 ≤ s.size ∧ 1 ≤ (Utf8.decode s p).2 ∧ ∀ j, p ≤ j → j < p + (Utf8.decode s p).2 → 128 ≤ bt s j := by
  have hg : ∀ j, j < s.size → ((s.get! j).toNat : Int) = bt s j := by
    intro j hj
    rw [← bt_at s j (by simpa using hj)]
    simp [ByteArray.get!, getElem!_pos, hj]
    rfl
  rw [Lib.decode_at]
  obtain ⟨h1, h2, h3, h4⟩ := Lib.decodeN_conts (s.size - p) (s.get! p).toNat (s.get! (p + 1)).toNat (s.get! (p + 2)).toNat (s.get! (p + 3)).toNat
  have hge := Lib.decodeN_ge1 (s.size - p) (s.get! p).toNat (s.get! (p + 1)).toNat (s.get! (p + 2)).toNat (s.get! (p + 3)).toNat
  generalize Lib.decodeN (s.size - p) (s.get! p).toNat (s.get! (p + 1)).toNat (s.get! (p + 2)).toNat (s.get! (p + 3)).toNat = d at h1 h2 h3 h4 hge ⊢
  have hle : p + d.2 ≤ s.size := by
    rcases Nat.lt_or_ge d.2 2 with h5 | h5
    · omega
    · rcases Nat.lt_or_ge d.2 3 with h6 | h6
      · have := (h1 h5).2; omega
      · rcases Nat.lt_or_ge d.2 4 with h7 | h7
        · have := (h2 h6).2; omega
        · have := (h3 h7).2; omega
  refine ⟨hle, hge, fun j hj1 hj2 => ?_⟩
  rcases (show j = p ∨ j = p + 1 ∨ j = p + 2 ∨ j = p + 3 by omega) with e | e | e | e
  · subst e; exact hc
  · have := (h1 (by omega)).1; rw [← hg j (by omega), e]; omega
  · have := (h2 (by omega)).1; rw [← hg j (by omega), e]; omega
  · have := (h3 (by omega)).1; rw [← hg j (by omega), e]; omega
section
variable {V : ByteArray → Option (ByteArray × Bool)} {Pm : ByteArray → Option (ByteArray × Int)} {cwd : ByteArray} {jobs number : Int} {s : ByteArray}
theorem exStep_plain (p : Nat) (h1 : bt s p ≠ 36) (h2 : bt s p ≠ 92) : exStep V Pm cwd jobs number s p = some none := by
  unfold exStep; rw [if_neg h1, if_neg h2]
theorem exGo_plain : ∀ (d a g : Nat) (r : List UInt8), a + d ≤ s.size → (∀ j, a ≤ j → j < a + d → 128 ≤ bt s j) → exGo V Pm cwd jobs number s g a = some r →
    ∃ g' r', exGo V Pm cwd jobs number s g' (a + d) = some r' ∧ r = (s.data.toList.drop a).take d ++ r' := by
  intro d
  induction d with
  | zero => intro a g r _ _ h; exact ⟨g, r, h, by simp⟩
  | succ d ih =>
    intro a g r hle hb h
    cases g with
    | zero => cases h
    | succ g =>
      have h0 := hb a (Nat.le_refl _) (by omega)
      rw [exGo, if_pos (by omega), exStep_plain a (by omega) (by omega), Option.bind_some] at h
      obtain ⟨r1, e1, e2⟩ := Option.bind_eq_some_iff.1 h
      obtain ⟨g', r', e3, e4⟩ := ih (a + 1) g r1 (by omega) (fun j h1 h2 => hb j (by omega) (by omega)) e1
      refine ⟨g', r', by rw [show a + (d + 1) = a + 1 + d by omega]; exact e3, ?_⟩
      have e5 := Option.some.inj e2
      rw [← e5, e4, ← List.append_assoc]
      congr 1
      rw [show d + 1 = 1 + d by omega, List.take_add, List.drop_drop]
def Left (V : ByteArray → Option (ByteArray × Bool)) (Pm : ByteArray → Option (ByteArray × Int)) (cwd : ByteArray) (jobs number : Int) (s : ByteArray) (f p : Nat) (acc out : List UInt8) : Prop :=
  f ≤ s.size ∧ p ≤ s.size ∧ (if p < f then ∃ g r, exGo V Pm cwd jobs number s g f = some r ∧ acc ++ r = out
    else ∃ g r, exGo V Pm cwd jobs number s g p = some r ∧ acc ++ (s.data.toList.drop f).take (p - f) ++ r = out)
theorem seg_add (l : List UInt8) (f p q : Nat) (h1 : f ≤ p) (h2 : p ≤ q) : (l.drop f).take (q - f) = (l.drop f).take (p - f) ++ (l.drop p).take (q - p) := by
  rw [show q - f = (p - f) + (q - p) by omega, List.take_add, List.drop_drop, show f + (p - f) = p by omega]
theorem Left.high {f p q : Nat} {acc out : List UInt8} (h : Left V Pm cwd jobs number s f p acc out) (hpq : p ≤ q) (hq : q ≤ s.size) (hb : ∀ j, p ≤ j → j < q → 128 ≤ bt s j) : Left V Pm cwd jobs number s f q acc out := by
  obtain ⟨h1, h2, h3⟩ := h
  refine ⟨h1, hq, ?_⟩
  by_cases hpf : p < f
  · rw [if_pos hpf] at h3
    obtain ⟨g, r, e1, e2⟩ := h3
    by_cases hqf : q < f
    · rw [if_pos hqf]; exact ⟨g, r, e1, e2⟩
    · rw [if_neg hqf]
      obtain ⟨g', r', e3, e4⟩ := exGo_plain (q - f) f g r (by omega) (fun j h1 h2 => hb j (by omega) (by omega)) e1
      rw [show f + (q - f) = q by omega] at e3
      exact ⟨g', r', e3, by rw [List.append_assoc, ← e4]; exact e2⟩
  · rw [if_neg hpf] at h3
    rw [if_neg (by omega)]
    obtain ⟨g, r, e1, e2⟩ := h3
    obtain ⟨g', r', e3, e4⟩ := exGo_plain (q - p) p g r (by omega) (fun j h1 h2 => hb j h1 (by omega)) e1
    rw [show p + (q - p) = q by omega] at e3
    refine ⟨g', r', e3, ?_⟩
    rw [← e2, seg_add _ f p q (by omega) hpq, e4]
    simp only [List.append_assoc]
theorem Left.skip {f p : Nat} {acc out : List UInt8} (h : Left V Pm cwd jobs number s f p acc out) (hpf : p < f) : Left V Pm cwd jobs number s f (p + 1) acc out := by
  obtain ⟨h1, h2, h3⟩ := h
  rw [if_pos hpf] at h3
  refine ⟨h1, by omega, ?_⟩
  by_cases hq : p + 1 < f
  · rw [if_pos hq]; exact h3
  · rw [if_neg hq]
    obtain ⟨g, r, e1, e2⟩ := h3
    obtain rfl : f = p + 1 := by omega
    exact ⟨g, r, e1, by simpa using e2⟩
theorem Left.step {f p : Nat} {acc out : List UInt8} (h : Left V Pm cwd jobs number s f p acc out) (hpf : ¬ p < f) (hp : p < s.size) :
    ∃ o, exStep V Pm cwd jobs number s p = some o ∧ (o = none → Left V Pm cwd jobs number s f (p + 1) acc out) ∧
      (∀ t n, o = some (t, n) → 1 ≤ n ∧ p + n ≤ s.size ∧ acc.length + (p - f) + t.size ≤ out.length ∧ Left V Pm cwd jobs number s (p + n) (p + 1) (acc ++ ((s.data.toList.drop f).take (p - f) ++ t.data.toList)) out) := by
  obtain ⟨h1, h2, h3⟩ := h
  rw [if_neg hpf] at h3
  obtain ⟨g, r, e1, e2⟩ := h3
  cases g with
  | zero => cases e1
  | succ g =>
    rw [exGo, if_pos hp] at e1
    obtain ⟨o, e3, e4⟩ := Option.bind_eq_some_iff.1 e1
    refine ⟨o, e3, ?_, ?_⟩
    · rintro rfl
      obtain ⟨r1, e5, e6⟩ := Option.bind_eq_some_iff.1 e4
      refine ⟨h1, by omega, ?_⟩
      rw [if_neg (by omega)]
      refine ⟨g, r1, e5, ?_⟩
      rw [← e2, ← Option.some.inj e6, seg_add _ f p (p + 1) (by omega) (by omega), show p + 1 - p = 1 by omega]
      simp only [List.append_assoc]
    · rintro t n rfl
      simp only at e4
      split at e4
      · rename_i hc
        obtain ⟨r1, e5, e6⟩ := Option.bind_eq_some_iff.1 e4
        have e7 : acc ++ ((s.data.toList.drop f).take (p - f) ++ t.data.toList) ++ r1 = out := by
          rw [← e2, ← Option.some.inj e6]; simp only [List.append_assoc]
        refine ⟨hc.1, hc.2, ?_, hc.2, by omega, ?_⟩
        · rw [← e7]
          have ht : t.data.toList.length = t.size := by simp
          have hs : s.data.toList.length = s.size := by simp
          simp only [List.length_append, List.length_take, List.length_drop, ht, hs]
          omega
        · by_cases hq : p + 1 < p + n
          · rw [if_pos hq]; exact ⟨g, r1, e5, e7⟩
          · rw [if_neg hq]
            obtain rfl : n = 1 := by omega
            exact ⟨g, r1, e5, by simpa using e7⟩
      · cases e4
theorem Left.done {f p : Nat} {acc out : List UInt8} (h : Left V Pm cwd jobs number s f p acc out) (hp : ¬ p < s.size) : acc ++ s.data.toList.drop f = out := by
  obtain ⟨h1, h2, h3⟩ := h
  rw [if_neg (by omega)] at h3
  obtain ⟨g, r, e1, e2⟩ := h3
  have hr : r = [] := by
    cases g with
    | zero => cases e1
    | succ g => rw [exGo, if_neg hp] at e1; exact (Option.some.inj e1).symm
  rw [hr, List.append_nil] at e2
  rw [← e2, List.take_of_length_le (by simp; omega)]
end
structure PW (w0 wr : World) (ecs : Array Value) (s : ByteArray) (f p : Nat) (acc : List UInt8) : Prop where
  below : Below w0.heap.size w0 wr
  he : wr.heap[w0.heap.size]? = some (.cells ecs 30 (0, 0))
  hs : wr.heap[w0.heap.size + 1]? = some (.cells #[.string s] 9 (0, 0))
  bld : Lib.IsBuilder 47 5 w0.heap.size (w0.heap.size + 2) (Lib.byteCells acc) wr
  hf : wr.heap[w0.heap.size + 3]? = some (.cells #[.int .i64 f] 3 (0, 0))
  hu : wr.heap[w0.heap.size + 4]? = some (.cells #[.int .i64 f] 3 (0, 0))
  hi : wr.heap[w0.heap.size + 5]? = some (.stringIter s p)
theorem PW.keep {w0 wr w' : World} {ecs : Array Value} {s : ByteArray} {f p : Nat} {acc : List UInt8} (h : PW w0 wr ecs s f p acc) (hb : Below wr.heap.size wr w') : PW w0 w' ecs s f p acc :=
  ⟨below_up h.below h.below.size hb, (hb.block _ (lt_of_some h.he)).trans h.he, (hb.block _ (lt_of_some h.hs)).trans h.hs, isBuilder_below h.bld hb, (hb.block _ (lt_of_some h.hf)).trans h.hf, (hb.block _ (lt_of_some h.hu)).trans h.hu, (hb.block _ (lt_of_some h.hi)).trans h.hi⟩
theorem al (w : World) (o : Obj) (i : Nat) : (w.alloc o).heap[i]? = if i = w.heap.size then some o else w.heap[i]? := by
  show (w.heap.push o)[i]? = _
  rw [Array.getElem?_push]
theorem sz (w : World) (o : Obj) : (w.alloc o).heap.size = w.heap.size + 1 := by simp
theorem PW.start (w : World) (ecs : Array Value) (s : ByteArray) : PW w ((((((w.alloc (.cells ecs 30)).alloc (.cells #[.string s] 9)).alloc (.cells #[.pointer none, .slice none 0 0] 47)).alloc (.cells #[.int .i64 0] 3)).alloc (.cells #[.int .i64 0] 3)).iter s 0) ecs s 0 0 [] := by
  have b1 := below_one w (.cells ecs 30)
  have b2 := b1.alloc (by simp) (.cells #[.string s] 9)
  have b3 := b2.alloc (by simp; omega) (.cells #[.pointer none, .slice none 0 0] 47)
  have b4 := b3.alloc (by simp; omega) (.cells #[.int .i64 0] 3)
  have b5 := b4.alloc (by simp; omega) (.cells #[.int .i64 0] 3)
  have b6 := b5.alloc (by simp; omega) (.stringIter s 0)
  have hH : ((((((w.alloc (.cells ecs 30)).alloc (.cells #[.string s] 9)).alloc (.cells #[.pointer none, .slice none 0 0] 47)).alloc (.cells #[.int .i64 0] 3)).alloc (.cells #[.int .i64 0] 3)).iter s 0) = ((((((w.alloc (.cells ecs 30)).alloc (.cells #[.string s] 9)).alloc (.cells #[.pointer none, .slice none 0 0] 47)).alloc (.cells #[.int .i64 0] 3)).alloc (.cells #[.int .i64 0] 3)).alloc (.stringIter s 0)) := rfl
  rw [hH]
  refine ⟨b6, ?_, ?_, .inl ⟨by omega, .slice none 0 0, ?_, World.ownsRow_nil _ _ _ _, by simp [Value.ownBlock]⟩, ?_, ?_, ?_⟩
  all_goals
    simp only [al, sz]
    repeat (first | rw [if_neg (by omega)] | rw [if_pos (by omega)] | rw [if_pos trivial])
    try rfl
theorem PW.iter {w0 wr : World} {ecs : Array Value} {s : ByteArray} {f p : Nat} {acc : List UInt8} (h : PW w0 wr ecs s f p acc) (p' : Nat) : PW w0 (wr.iterAt (w0.heap.size + 5) s p') ecs s f p' acc := by
  have o : ∀ j, j ≠ w0.heap.size + 5 → (wr.iterAt (w0.heap.size + 5) s p').heap[j]? = wr.heap[j]? := fun j hj => Lib.iterAt_other _ _ _ _ _ hj
  refine ⟨Lib.below_iterAt h.below (by omega) s p', (o _ (by omega)).trans h.he, (o _ (by omega)).trans h.hs, ?_, (o _ (by omega)).trans h.hf, (o _ (by omega)).trans h.hu, Lib.iterAt_heap _ _ _ _ _ h.hi⟩
  have hg : wr.grownBy (wr.iterAt (w0.heap.size + 5) s p') (some (w0.heap.size + 5)) := ⟨rfl, rfl, rfl, by rw [Lib.iterAt_size]; exact Nat.le_refl _, fun i _ hi => o i (fun e => hi (by rw [e]))⟩
  have keep : ∀ q, Lib.BuilderAt 47 5 w0.heap.size (w0.heap.size + 2) q (Lib.byteCells acc) wr → Lib.BuilderAt 47 5 w0.heap.size (w0.heap.size + 2) q (Lib.byteCells acc) (wr.iterAt (w0.heap.size + 5) s p') := by
    rintro q ⟨h1, v, h2, h3, h4⟩
    refine ⟨h1, v, (o _ (by omega)).trans h2, h3.kept hg (.inr (fun e => ?_)), h4⟩
    obtain ⟨cs, hcs⟩ := owned_typed h3 _ e
    rw [h.hi] at hcs; cases hcs
  exact h.bld.imp (keep _) (keep _)
theorem PW.wrote {w0 wr w' : World} {ecs : Array Value} {s : ByteArray} {f p : Nat} {acc acc' : List UInt8} (h : PW w0 wr ecs s f p acc) (hb : Lib.IsBuilder 47 5 w0.heap.size (w0.heap.size + 2) (Lib.byteCells acc') w') (hw : Wrote 5 w0.heap.size (w0.heap.size + 2) wr w') : PW w0 w' ecs s f p acc' := by
  refine ⟨h.below.trans hw.below, hw.other _ _ h.he (by omega) (fun _ _ e => by cases e), hw.other _ _ h.hs (by omega) (fun _ _ e => by cases e), hb, hw.other _ _ h.hf (by omega) (fun _ _ e => by cases e), hw.other _ _ h.hu (by omega) (fun _ _ e => by cases e), hw.other _ _ h.hi (by omega) (fun _ _ e => by cases e)⟩
theorem PW.moved {w0 wr : World} {ecs : Array Value} {s : ByteArray} {f p : Nat} {acc : List UInt8} (h : PW w0 wr ecs s f p acc) (x : Nat) :
    PW w0 ((wr.setCell ⟨w0.heap.size + 3, 0, none⟩ (.int .i64 x)).setCell ⟨w0.heap.size + 4, 0, none⟩ (.int .i64 x)) ecs s x p acc := by
  have o : ∀ j, j ≠ w0.heap.size + 3 → j ≠ w0.heap.size + 4 → ((wr.setCell ⟨w0.heap.size + 3, 0, none⟩ (.int .i64 x)).setCell ⟨w0.heap.size + 4, 0, none⟩ (.int .i64 x)).heap[j]? = wr.heap[j]? := by
    intro j h3 h4
    rw [Below.heap_setCell _ _ _ _ h4, Below.heap_setCell _ _ _ _ h3]
  have s1 : (wr.setCell ⟨w0.heap.size + 3, 0, none⟩ (.int .i64 x)).heap[w0.heap.size + 3]? = some (.cells #[.int .i64 x] 3 (0, 0)) := by
    rw [Joins.block_setCell h.hf]; rfl
  have u1 : (wr.setCell ⟨w0.heap.size + 3, 0, none⟩ (.int .i64 x)).heap[w0.heap.size + 4]? = some (.cells #[.int .i64 f] 3 (0, 0)) := by
    rw [Below.heap_setCell _ _ _ _ (show w0.heap.size + 4 ≠ w0.heap.size + 3 by omega)]; exact h.hu
  have gb : wr.grownBy (wr.setCell ⟨w0.heap.size + 3, 0, none⟩ (.int .i64 x)) (some (w0.heap.size + 3)) := setCell_grownBy _ _ _ _
  have gb2 : (wr.setCell ⟨w0.heap.size + 3, 0, none⟩ (.int .i64 x)).grownBy ((wr.setCell ⟨w0.heap.size + 3, 0, none⟩ (.int .i64 x)).setCell ⟨w0.heap.size + 4, 0, none⟩ (.int .i64 x)) (some (w0.heap.size + 4)) := setCell_grownBy _ _ _ _
  refine ⟨(h.below.setCell (p := ⟨w0.heap.size + 3, 0, none⟩) (by show w0.heap.size ≤ w0.heap.size + 3; omega) _).setCell (p := ⟨w0.heap.size + 4, 0, none⟩) (by show w0.heap.size ≤ w0.heap.size + 4; omega) _, (o _ (by omega) (by omega)).trans h.he, (o _ (by omega) (by omega)).trans h.hs, ?_, ?_, ?_, (o _ (by omega) (by omega)).trans h.hi⟩
  · have keep : ∀ q, Lib.BuilderAt 47 5 w0.heap.size (w0.heap.size + 2) q (Lib.byteCells acc) wr → Lib.BuilderAt 47 5 w0.heap.size (w0.heap.size + 2) q (Lib.byteCells acc) ((wr.setCell ⟨w0.heap.size + 3, 0, none⟩ (.int .i64 x)).setCell ⟨w0.heap.size + 4, 0, none⟩ (.int .i64 x)) := by
      rintro q ⟨h1, v, h2, h3, h4⟩
      have k1 := h3.kept gb (.inr (fun e => by
        obtain ⟨cs, hcs⟩ := owned_typed h3 _ e
        rw [h.hf] at hcs; cases hcs))
      refine ⟨h1, v, (o _ (by omega) (by omega)).trans h2, k1.kept gb2 (.inr (fun e => ?_)), h4⟩
      obtain ⟨cs, hcs⟩ := owned_typed h3 _ e
      rw [h.hu] at hcs; cases hcs
    exact h.bld.imp (keep _) (keep _)
  · rw [Below.heap_setCell _ _ _ _ (show w0.heap.size + 3 ≠ w0.heap.size + 4 by omega)]; exact s1
  · rw [Joins.block_setCell u1]; rfl
set_option maxHeartbeats 4000000 in
set_option maxRecDepth 100000 in
theorem insert_calls {w0 wr : World} {ecs : Array Value} {s : ByteArray} {f q : Nat} {acc : List UInt8} (h : PW w0 wr ecs s f q acc) (p N : Nat) (x : Int) (hx : x = (N : Int)) (t : ByteArray) (hfp : f ≤ p) (hp : p + N ≤ s.size) (hs : s.size ≤ 140737488351232) (hlen : acc.length + (p - f) + t.size ≤ 140737488351232) :
    Calls Tryd.prog 17 #[.int .i64 p, .int .i64 x, .string t, .pointer (some ⟨w0.heap.size + 1 + 1, 0, none⟩), .pointer (some ⟨w0.heap.size + 1, 0, none⟩), .pointer (some ⟨w0.heap.size + 1 + 1 + 1, 0, none⟩), .pointer (some ⟨w0.heap.size + 1 + 1 + 1 + 1, 0, none⟩)] wr fun e w' =>
      e = .returned (.tuple #[]) ∧ PW w0 w' ecs s (p + N) q (acc ++ ((s.data.toList.drop f).take (p - f) ++ t.data.toList)) := by
  subst hx
  have HP := Aside0.mk h
  clear h
  have hex : (s.extract f p).size = p - f := by rw [ByteArray.size_extract]; omega
  have cs3 : wr.cell? ⟨w0.heap.size + 1, 0, none⟩ = some (.string s) := by rw [Lib.cell_of_heap HP.out.hs]; rfl
  have cf3 : wr.cell? ⟨w0.heap.size + 1 + 1 + 1, 0, none⟩ = some (.int .i64 f) := by rw [show (⟨w0.heap.size + 1 + 1 + 1, 0, none⟩ : Addr) = ⟨w0.heap.size + 3, 0, none⟩ from rfl, Lib.cell_of_heap HP.out.hf]; rfl
  have hcat : (s.extract f p).size + t.size ≤ 9223372036854775807 := by rw [hex]; omega
  have hsl : ∀ wx, (Instr.slice 9 (.string s) (some (.int .i64 (f : Int))) (some (.int .i64 (p : Int))) none).run Tryd.prog wx = .ok (.string (s.extract f p)) wx := by
    intro wx
    have := run_slice_string (P := Tryd.prog) wx 9 s .i64 .i64 (f : Int) (p : Int) Tryd.underlying9 (by omega) (by omega) (by omega)
    rw [Int.toNat_natCast, Int.toNat_natCast] at this
    exact this
  go_enter Tryd.func17, Tryd.ntmps17
  go_wp2_with fail
  refine (Bld.write w0.heap.size (w0.heap.size + 1 + 1) _ (s.extract f p ++ t) _ HP.out.bld (by rw [byteCells_length, ByteArray.size_append, hex]; omega) HP.out.below.size).mono ?_
  rintro e wy ⟨rfl, hbd, hwr⟩
  have HPy : Aside0 (PW w0 wy ecs s f q (acc ++ ((s.data.toList.drop f).take (p - f) ++ t.data.toList))) := Aside0.mk (HP.out.wrote (.inr (by rw [byteCells_str, ← Lib.byteCells_append, seg_cat] at hbd; exact hbd)) hwr)
  clear hbd hwr cs3 cf3
  have cf4 : wy.cell? ⟨w0.heap.size + 1 + 1 + 1, 0, none⟩ = some (.int .i64 f) := by rw [show (⟨w0.heap.size + 1 + 1 + 1, 0, none⟩ : Addr) = ⟨w0.heap.size + 3, 0, none⟩ from rfl, Lib.cell_of_heap HPy.out.hf]; rfl
  have ff4 : wy.frozen? ⟨w0.heap.size + 1 + 1 + 1, 0, none⟩ = false := Lib.frozen_of_heap HPy.out.hf 0
  have cu4 : wy.cell? ⟨w0.heap.size + 1 + 1 + 1 + 1, 0, none⟩ = some (.int .i64 f) := by rw [show (⟨w0.heap.size + 1 + 1 + 1 + 1, 0, none⟩ : Addr) = ⟨w0.heap.size + 4, 0, none⟩ from rfl, Lib.cell_of_heap HPy.out.hu]; rfl
  have fu4 : wy.frozen? ⟨w0.heap.size + 1 + 1 + 1 + 1, 0, none⟩ = false := Lib.frozen_of_heap HPy.out.hu 0
  go_wp2_with fail
  go_end0
  refine ⟨rfl, ?_⟩
  have hm := HPy.out.moved (p + N)
  rw [Int.natCast_add] at hm
  exact hm
end Go.Proofs.YtiacdccnifjcjaaDoor.F
set_option linter.unusedVariables false
set_option linter.unusedSimpArgs false
namespace Go.Proofs.YtiacdccnifjcjaaDoor.F
open Go.RowKit Go.Proofs.YtiacdccnifjcjaaDoorW.PrintWords Go.Proofs.YtiacdccnifjcjaaDoorW.PrintLast Go.Proofs.YtiacdccnifjcjaaDoorW.PrintMore Go.Proofs.YtiacdccnifjcjaaDoor.Aid
set_option maxHeartbeats 40000000 in
set_option maxRecDepth 100000 in
theorem prompt_Expand.calls (k : Nat) (a0_0 : ByteArray) (A0_1 : Option Addr) (c0_1 : Nat) (l0_1 : List (S_Var)) (A0_2 : Option Addr) (c0_2 : Nat) (l0_2 : List ByteArray) (a0_3 : Opq) (A0_4 : Option Addr) (c0_4 : Nat) (l0_4 : List (S_Alias)) (A0_5 : Option Addr) (c0_5 : Nat) (l0_5 : List (S_Trap)) (a0_6 : Int) (a0_7 : Int) (a0_8 : Int) (a0_9 : Int) (a0_10 : ByteArray) (a0_11 : Int) (a0_12 : Int) (a0_13 : Int) (a0_14 : Bool) (a1 : ByteArray) (a2 : Int) (a3 : Int) (r : ByteArray) (w : World) (hr0_1 : Kd.C k_Var w A0_1 l0_1.length l0_1) (hc0_1 : l0_1.length ≤ c0_1) (hr0_2 : Kd.C Kd.string w A0_2 l0_2.length l0_2) (hc0_2 : l0_2.length ≤ c0_2) (hr0_4 : Kd.C k_Alias w A0_4 l0_4.length l0_4) (hc0_4 : l0_4.length ≤ c0_4) (hr0_5 : Kd.C k_Trap w A0_5 l0_5.length l0_5) (hc0_5 : l0_5.length ≤ c0_5) (hamb : AmbC w) (h : prompt_Expand.f k a0_0 l0_1 l0_2 a0_3 l0_4 l0_5 a0_6 a0_7 a0_8 a0_9 a0_10 a0_11 a0_12 a0_13 a0_14 a1 a2 a3 = some r) :
    Calls Tryd.prog 9 #[.agg #[.string a0_0, .slice A0_1 l0_1.length c0_1, .slice A0_2 l0_2.length c0_2, .slice (a0_3).A (a0_3).n (a0_3).c, .slice A0_4 l0_4.length c0_4, .slice A0_5 l0_5.length c0_5, .int .i64 a0_6, .int .i64 a0_7, .int .i64 a0_8, .int .i64 a0_9, .string a0_10, .int .i64 a0_11, .int .i64 a0_12, .int .i64 a0_13, .bool a0_14], .string a1, .int .i64 a2, .int .i64 a3] w fun e w' => e = .returned (.string r) ∧ Below w.heap.size w w' := by
  have HAMB := Aside0.mk hamb
  have HR1 := Aside0.mk hr0_1
  have HC1 := Aside0.mk hc0_1
  have HR2 := Aside0.mk hr0_2
  have HC2 := Aside0.mk hc0_2
  have HR4 := Aside0.mk hr0_4
  have HC4 := Aside0.mk hc0_4
  have HR5 := Aside0.mk hr0_5
  have HC5 := Aside0.mk hc0_5
  clear hamb hr0_1 hc0_1 hr0_2 hc0_2 hr0_4 hc0_4 hr0_5 hc0_5
  unfold prompt_Expand.f at h
  split at h
  case isFalse => cases h
  rename_i hsz
  obtain ⟨out, hout, hr⟩ := Option.bind_eq_some_iff.1 h
  clear h
  split at hr
  case isFalse => cases hr
  rename_i hlen
  have HRES := Aside0.mk (Option.some.inj hr)
  clear hr
  generalize hecs : (#[.string a0_0, .slice A0_1 l0_1.length c0_1, .slice A0_2 l0_2.length c0_2, .slice (a0_3).A (a0_3).n (a0_3).c, .slice A0_4 l0_4.length c0_4, .slice A0_5 l0_5.length c0_5, .int .i64 a0_6, .int .i64 a0_7, .int .i64 a0_8, .int .i64 a0_9, .string a0_10, .int .i64 a0_11, .int .i64 a0_12, .int .i64 a0_13, .bool a0_14] : Array Value) = ecs
  have HECS := Aside0.mk hecs
  generalize hV : (fun nm => param_Value.f k a0_0 l0_1 l0_2 a0_3 l0_4 l0_5 a0_6 a0_7 a0_8 a0_9 a0_10 a0_11 a0_12 a0_13 a0_14 nm) = V at hout
  have HV := Aside0.mk hV
  generalize hP : (fun x => prompt_parameter.f k x) = Pm at hout
  have HPM := Aside0.mk hP
  clear hecs hV hP
  have HL0 : Aside0 (Left V Pm a0_10 a2 a3 a1 0 0 [] out) := Aside0.mk ⟨by omega, by omega, by rw [if_neg (by omega)]; exact ⟨_, out, hout, by simp⟩⟩
  clear hout
  go_enter Tryd.func9, Tryd.ntmps9
  go_wp2_with fail
  go_loopw [] (fun wr => ∃ (f p : Nat) (acc : List UInt8), Aside0 (PW w wr ecs a1 f p acc) ∧ Aside0 (Left V Pm a0_10 a2 a3 a1 f p acc out)) (fun wr => a1.size - wr.iterPos (w.heap.size + 1 + 1 + 1 + 1 + 1))
  case atStart => exact ⟨0, 0, [], Aside0.mk (PW.start w ecs a1), HL0⟩
  case round =>
    obtain ⟨f, p, acc, HP, HL⟩ := hrel
    have hf := HL.out.1
    have hpos : wr.iterPos (w.heap.size + 1 + 1 + 1 + 1 + 1) = p := by unfold World.iterPos; rw [show wr.heap[w.heap.size + 1 + 1 + 1 + 1 + 1]? = _ from HP.out.hi]
    by_cases hlt : p < a1.size
    · have hnx0 := fun ty => Lib.run_next_any_at (P := Tryd.prog) wr (w.heap.size + 1 + 1 + 1 + 1 + 1) a1 p ty HP.out.hi hlt
      obtain ⟨w2, hw2⟩ : ∃ w2, w2 = wr.iterAt (w.heap.size + 1 + 1 + 1 + 1 + 1) a1 (p + (Utf8.decode a1 p).2) := ⟨_, rfl⟩
      have HP2 : Aside0 (PW w w2 ecs a1 f (p + (Utf8.decode a1 p).2) acc) := Aside0.mk (by rw [hw2]; exact HP.out.iter _)
      have hpos2 : ∀ w' acc' f', PW w w' ecs a1 f' (p + (Utf8.decode a1 p).2) acc' → w'.iterPos (w.heap.size + 1 + 1 + 1 + 1 + 1) = p + (Utf8.decode a1 p).2 := by
        intro w' acc' f' h; unfold World.iterPos; rw [show w'.heap[w.heap.size + 1 + 1 + 1 + 1 + 1]? = _ from h.hi]
      rw [← hw2] at hnx0
      have HPOS2 := Aside0.mk hpos2
      clear hpos2 hw2
      have cs2 : w2.cell? ⟨w.heap.size + 1, 0, none⟩ = some (.string a1) := by rw [show (w.heap.size + 1) = w.heap.size + 1 from rfl, Lib.cell_of_heap HP2.out.hs]; rfl
      have cu2 : w2.cell? ⟨w.heap.size + 1 + 1 + 1 + 1, 0, none⟩ = some (.int .i64 f) := by rw [show (⟨w.heap.size + 1 + 1 + 1 + 1, 0, none⟩ : Addr) = ⟨w.heap.size + 4, 0, none⟩ from rfl, Lib.cell_of_heap HP2.out.hu]; rfl
      by_cases hhigh : 128 ≤ bt a1 p
      · obtain ⟨hr1, hr2, hr3⟩ := high_run a1 p hlt hhigh
        have HL2 := Aside0.mk (HL.out.high (Nat.le_add_right p _) hr1 hr3)
        have hge : 128 ≤ (Utf8.decode a1 p).1 := (decode_high a1 p hlt (by have := bt_at a1 p (by simpa using hlt); simp only [Int.toNat_natCast] at this; omega)).1
        have n36 : (((Utf8.decode a1 p).1 : Int) == 36) = false := beq_eq_false_iff_ne.2 (by omega)
        have n92 : (((Utf8.decode a1 p).1 : Int) != 92) = true := bne_iff_ne.2 (by omega)
        clear hr3 hhigh hge
        by_cases hpf : p < f
        · have hd : decide ((p : Int) < (f : Int)) = true := decide_eq_true (by omega)
          go_wp2_with fail
          go_roundw
          case rel => exact ⟨f, _, acc, HP2, HL2⟩
          case measure => rw [hpos, HPOS2.out _ _ _ HP2.out]; omega
        · have hd : decide ((p : Int) < (f : Int)) = false := decide_eq_false (by omega)
          go_wp2_with fail
          go_roundw
          case rel => exact ⟨f, _, acc, HP2, HL2⟩
          case measure => rw [hpos, HPOS2.out _ _ _ HP2.out]; omega
      · have hasc : (a1[p]'hlt).toNat < 128 := by have := bt_at a1 p (by simpa using hlt); simp only [Int.toNat_natCast] at this; omega
        have hb1 : ((Utf8.decode a1 p).1 : Int) = bt a1 p := by rw [decode_ascii a1 p hlt hasc]; have := bt_at a1 p (by simpa using hlt); simp only [Int.toNat_natCast] at this; exact this
        have hb2 : (Utf8.decode a1 p).2 = 1 := by rw [decode_ascii a1 p hlt hasc]
        rw [hb1] at hnx0
        rw [hb2] at HP2
        have HPOS3 : Aside0 (∀ w' acc' f', PW w w' ecs a1 f' (p + 1) acc' → w'.iterPos (w.heap.size + 1 + 1 + 1 + 1 + 1) = p + 1) := Aside0.mk (by have := HPOS2.out; rw [hb2] at this; exact this)
        clear HPOS2 hhigh hasc hb1 hb2
        by_cases hpf : p < f
        · have hd : decide ((p : Int) < (f : Int)) = true := decide_eq_true (by omega)
          have HL2 := Aside0.mk (HL.out.skip hpf)
          go_wp2_with fail
          go_roundw
          case rel => exact ⟨f, _, acc, HP2, HL2⟩
          case measure => rw [hpos, HPOS3.out _ _ _ HP2.out]; omega
        · have hd : decide ((p : Int) < (f : Int)) = false := decide_eq_false (by omega)
          obtain ⟨o, ho, hnone, hsome⟩ := HL.out.step hpf hlt
          have HN := Aside0.mk hnone
          have HS := Aside0.mk hsome
          have HO := Aside0.mk ho
          clear hnone hsome ho
          go_upto_region 9 with (fail)
          clear hnx0 hd cs2 cu2
          by_cases h36 : bt a1 p = 36
          · have n36 : (bt a1 p == 36) = true := beq_iff_eq.2 h36
            have n92 : (bt a1 p != 92) = true := bne_iff_ne.2 (by omega)
            obtain ⟨q, hq, ho2⟩ := Option.bind_eq_some_iff.1 (show (Pm (a1.extract (p + 1) a1.size)).bind _ = some o by have := HO.out; rw [exStep, if_pos h36] at this; exact this)
            obtain ⟨nm, n⟩ := q
            rw [← HPM.out] at hq
            have HQ := Aside0.mk hq
            have HO2 := Aside0.mk ho2
            clear hq ho2 HO
            go_wp2_with fail
            refine (prompt_parameter.calls k _ nm n w2 HQ.out).mono ?_
            rintro e w3 ⟨rfl, hb⟩
            have HP3 := Aside0.mk (HP2.out.keep hb)
            clear hb HQ
            by_cases hn : 0 < n
            · have hnb : decide ((0 : Int) < n) = true := decide_eq_true hn
              obtain ⟨v, hv, ho3⟩ := Option.bind_eq_some_iff.1 (show (V nm).bind _ = some o by have := HO2.out; rw [if_pos hn] at this; exact this)
              rw [← HV.out] at hv
              obtain ⟨v1, v2⟩ := v
              have HVV := Aside0.mk hv
              obtain ⟨g1, g2, g3, g4⟩ := HS.out _ _ (Option.some.inj ho3).symm
              clear hv ho3 HO2
              have he := HP3.out.he
              rw [← HECS.out] at he
              have e0 : w3.cell? ⟨w.heap.size, 0, none⟩ = some (.string a0_0) := by rw [Lib.cell_of_heap he]; rfl
              have e1 : w3.cell? ⟨w.heap.size, 1, none⟩ = some (.slice A0_1 l0_1.length c0_1) := by rw [Lib.cell_of_heap he]; rfl
              have e2 : w3.cell? ⟨w.heap.size, 2, none⟩ = some (.slice A0_2 l0_2.length c0_2) := by rw [Lib.cell_of_heap he]; rfl
              have e3 : w3.cell? ⟨w.heap.size, 3, none⟩ = some (.slice (a0_3).A (a0_3).n (a0_3).c) := by rw [Lib.cell_of_heap he]; rfl
              have e4 : w3.cell? ⟨w.heap.size, 4, none⟩ = some (.slice A0_4 l0_4.length c0_4) := by rw [Lib.cell_of_heap he]; rfl
              have e5 : w3.cell? ⟨w.heap.size, 5, none⟩ = some (.slice A0_5 l0_5.length c0_5) := by rw [Lib.cell_of_heap he]; rfl
              have e6 : w3.cell? ⟨w.heap.size, 6, none⟩ = some (.int .i64 a0_6) := by rw [Lib.cell_of_heap he]; rfl
              have e7 : w3.cell? ⟨w.heap.size, 7, none⟩ = some (.int .i64 a0_7) := by rw [Lib.cell_of_heap he]; rfl
              have e8 : w3.cell? ⟨w.heap.size, 8, none⟩ = some (.int .i64 a0_8) := by rw [Lib.cell_of_heap he]; rfl
              have e9 : w3.cell? ⟨w.heap.size, 9, none⟩ = some (.int .i64 a0_9) := by rw [Lib.cell_of_heap he]; rfl
              have e10 : w3.cell? ⟨w.heap.size, 10, none⟩ = some (.string a0_10) := by rw [Lib.cell_of_heap he]; rfl
              have e11 : w3.cell? ⟨w.heap.size, 11, none⟩ = some (.int .i64 a0_11) := by rw [Lib.cell_of_heap he]; rfl
              have e12 : w3.cell? ⟨w.heap.size, 12, none⟩ = some (.int .i64 a0_12) := by rw [Lib.cell_of_heap he]; rfl
              have e13 : w3.cell? ⟨w.heap.size, 13, none⟩ = some (.int .i64 a0_13) := by rw [Lib.cell_of_heap he]; rfl
              have e14 : w3.cell? ⟨w.heap.size, 14, none⟩ = some (.bool a0_14) := by rw [Lib.cell_of_heap he]; rfl
              clear he
              go_wp2_with fail
              refine (param_Value.calls k a0_0 A0_1 c0_1 l0_1 A0_2 c0_2 l0_2 a0_3 A0_4 c0_4 l0_4 A0_5 c0_5 l0_5 a0_6 a0_7 a0_8 a0_9 a0_10 a0_11 a0_12 a0_13 a0_14 nm v1 v2 w3 (Kd.C_below HR1.out HP3.out.below) HC1.out (Kd.C_below HR2.out HP3.out.below) HC2.out (Kd.C_below HR4.out HP3.out.below) HC4.out (Kd.C_below HR5.out HP3.out.below) HC5.out (AmbC_below HAMB.out HP3.out.below) HVV.out).mono ?_
              rintro e w4 ⟨rfl, hb⟩
              have HP4 := Aside0.mk (HP3.out.keep hb)
              clear hb HVV e0 e1 e2 e3 e4 e5 e6 e7 e8 e9 e10 e11 e12 e13 e14
              go_wp2_with fail
              refine (insert_calls HP4.out p (n.toNat + 1) (n + 1) (by omega) (v1) (by omega) g2 hsz (by omega)).mono ?_
              rintro e w5 ⟨rfl, hp5⟩
              have HP5 := Aside0.mk hp5
              clear hp5
              go_wp2_with fail
              go_roundw
              case rel => exact ⟨p + (n.toNat + 1), p + 1, _, HP5, Aside0.mk g4⟩
              case measure => rw [hpos, HPOS3.out _ _ _ HP5.out]; omega
            · have hnb : decide ((0 : Int) < n) = false := decide_eq_false hn
              have ho3 : o = none := by have := HO2.out; rw [if_neg hn] at this; exact (Option.some.inj this).symm
              go_wp2_with fail
              go_roundw
              case rel => exact ⟨f, p + 1, acc, HP3, Aside0.mk (HN.out ho3)⟩
              case measure => rw [hpos, HPOS3.out _ _ _ HP3.out]; omega
          · have n36 : (bt a1 p == 36) = false := beq_eq_false_iff_ne.2 h36
            by_cases h92 : bt a1 p = 92
            · have n92 : (bt a1 p != 92) = false := bne_eq_false_iff_eq.2 h92
              have hrl : (a1.extract (p + 1) a1.size).size = a1.size - (p + 1) := by rw [ByteArray.size_extract]; omega
              by_cases hne : p + 1 < a1.size
              · have q0 : ¬ (a1.extract (p + 1) a1.size).toList = [] := by
                  rw [Lib.toList_data]; intro h; have := congrArg List.length h; simp at this; omega
                have q1 : ((a1.extract (p + 1) a1.size).toList == ([] : List UInt8)) = false := beq_eq_false_iff_ne.2 q0
                have q2 : (a1.extract (p + 1) a1.size).toList.isEmpty = false := by cases h : (a1.extract (p + 1) a1.size).toList with | nil => exact absurd h q0 | cons _ _ => rfl
                have q3 : 0 < (a1.extract (p + 1) a1.size).size := by omega
                clear q0
                have hidx : (((a1.extract (p + 1) a1.size)[0]'q3).toNat : Int) = bt a1 ((p + 1 : Nat) : Int) := by
                  rw [← bt_at a1 ((p + 1 : Nat) : Int) (by omega)]
                  have e : (a1.extract (p + 1) a1.size)[0]'q3 = a1[((p + 1 : Nat) : Int).toNat]'(by omega) := by
                    rw [ByteArray.getElem_extract]; congr 1
                  rw [e]
                have HI := Aside0.mk hidx
                clear hidx
                go_upto_block 2 with (fail)
                clear q1 q2 n36 n92
                by_cases d119 : bt a1 ((p + 1 : Nat) : Int) = 119
                · have k119 : ((((a1.extract (p + 1) a1.size)[0]'q3).toNat : Int) == 119) = true := by rw [HI.out]; exact beq_iff_eq.2 d119
                  have ho3 := HO.out; rw [exStep, if_neg h36, if_pos h92, if_pos hne, if_pos d119] at ho3
                  obtain ⟨g1, g2, g3, g4⟩ := HS.out _ _ (Option.some.inj ho3).symm
                  have he := HP2.out.he
                  rw [← HECS.out] at he
                  have e10 : w2.cell? ⟨w.heap.size, 10, none⟩ = some (.string a0_10) := by rw [Lib.cell_of_heap he]; rfl
                  clear he ho3
                  go_wp2_with fail
                  refine (insert_calls HP2.out p (2) (2) (by rfl) (a0_10) (by omega) g2 hsz (by omega)).mono ?_
                  rintro e w5 ⟨rfl, hp5⟩
                  have HP5 := Aside0.mk hp5
                  clear hp5
                  go_wp2_with fail
                  go_roundw
                  case rel => exact ⟨p + (2), p + 1, _, HP5, Aside0.mk g4⟩
                  case measure => rw [hpos, HPOS3.out _ _ _ HP5.out]; omega
                have k119 : ((((a1.extract (p + 1) a1.size)[0]'q3).toNat : Int) == 119) = false := by rw [HI.out]; exact beq_eq_false_iff_ne.2 d119
                by_cases d36 : bt a1 ((p + 1 : Nat) : Int) = 36
                · have k36 : ((((a1.extract (p + 1) a1.size)[0]'q3).toNat : Int) == 36) = true := by rw [HI.out]; exact beq_iff_eq.2 d36
                  have ho3 := HO.out; rw [exStep, if_neg h36, if_pos h92, if_pos hne, if_neg d119, if_pos d36] at ho3
                  obtain ⟨g1, g2, g3, g4⟩ := HS.out _ _ (Option.some.inj ho3).symm
                  clear ho3
                  go_wp2_with fail
                  refine (insert_calls HP2.out p (2) (2) (by rfl) ((a1.extract (p + 1) a1.size).extract 0 1) (by omega) g2 hsz (by omega)).mono ?_
                  rintro e w5 ⟨rfl, hp5⟩
                  have HP5 := Aside0.mk hp5
                  clear hp5
                  go_wp2_with fail
                  go_roundw
                  case rel => exact ⟨p + (2), p + 1, _, HP5, Aside0.mk g4⟩
                  case measure => rw [hpos, HPOS3.out _ _ _ HP5.out]; omega
                have k36 : ((((a1.extract (p + 1) a1.size)[0]'q3).toNat : Int) == 36) = false := by rw [HI.out]; exact beq_eq_false_iff_ne.2 d36
                by_cases d92 : bt a1 ((p + 1 : Nat) : Int) = 92
                · have k92 : ((((a1.extract (p + 1) a1.size)[0]'q3).toNat : Int) == 92) = true := by rw [HI.out]; exact beq_iff_eq.2 d92
                  have ho3 := HO.out; rw [exStep, if_neg h36, if_pos h92, if_pos hne, if_neg d119, if_neg d36, if_pos d92] at ho3
                  obtain ⟨g1, g2, g3, g4⟩ := HS.out _ _ (Option.some.inj ho3).symm
                  clear ho3
                  go_wp2_with fail
                  refine (insert_calls HP2.out p (2) (2) (by rfl) ((a1.extract (p + 1) a1.size).extract 0 1) (by omega) g2 hsz (by omega)).mono ?_
                  rintro e w5 ⟨rfl, hp5⟩
                  have HP5 := Aside0.mk hp5
                  clear hp5
                  go_wp2_with fail
                  go_roundw
                  case rel => exact ⟨p + (2), p + 1, _, HP5, Aside0.mk g4⟩
                  case measure => rw [hpos, HPOS3.out _ _ _ HP5.out]; omega
                have k92 : ((((a1.extract (p + 1) a1.size)[0]'q3).toNat : Int) == 92) = false := by rw [HI.out]; exact beq_eq_false_iff_ne.2 d92
                by_cases d117 : bt a1 ((p + 1 : Nat) : Int) = 117
                · have k117 : ((((a1.extract (p + 1) a1.size)[0]'q3).toNat : Int) == 117) = true := by rw [HI.out]; exact beq_iff_eq.2 d117
                  have ho3 := HO.out; rw [exStep, if_neg h36, if_pos h92, if_pos hne, if_neg d119, if_neg d36, if_neg d92, if_pos d117] at ho3
                  obtain ⟨v, hv, ho4⟩ := Option.bind_eq_some_iff.1 ho3
                  rw [← HV.out] at hv
                  obtain ⟨v1, v2⟩ := v
                  have HVV := Aside0.mk hv
                  obtain ⟨g1, g2, g3, g4⟩ := HS.out _ _ (Option.some.inj ho4).symm
                  clear hv ho3 ho4
                  have he := HP2.out.he
                  rw [← HECS.out] at he
                  have e0 : w2.cell? ⟨w.heap.size, 0, none⟩ = some (.string a0_0) := by rw [Lib.cell_of_heap he]; rfl
                  have e1 : w2.cell? ⟨w.heap.size, 1, none⟩ = some (.slice A0_1 l0_1.length c0_1) := by rw [Lib.cell_of_heap he]; rfl
                  have e2 : w2.cell? ⟨w.heap.size, 2, none⟩ = some (.slice A0_2 l0_2.length c0_2) := by rw [Lib.cell_of_heap he]; rfl
                  have e3 : w2.cell? ⟨w.heap.size, 3, none⟩ = some (.slice (a0_3).A (a0_3).n (a0_3).c) := by rw [Lib.cell_of_heap he]; rfl
                  have e4 : w2.cell? ⟨w.heap.size, 4, none⟩ = some (.slice A0_4 l0_4.length c0_4) := by rw [Lib.cell_of_heap he]; rfl
                  have e5 : w2.cell? ⟨w.heap.size, 5, none⟩ = some (.slice A0_5 l0_5.length c0_5) := by rw [Lib.cell_of_heap he]; rfl
                  have e6 : w2.cell? ⟨w.heap.size, 6, none⟩ = some (.int .i64 a0_6) := by rw [Lib.cell_of_heap he]; rfl
                  have e7 : w2.cell? ⟨w.heap.size, 7, none⟩ = some (.int .i64 a0_7) := by rw [Lib.cell_of_heap he]; rfl
                  have e8 : w2.cell? ⟨w.heap.size, 8, none⟩ = some (.int .i64 a0_8) := by rw [Lib.cell_of_heap he]; rfl
                  have e9 : w2.cell? ⟨w.heap.size, 9, none⟩ = some (.int .i64 a0_9) := by rw [Lib.cell_of_heap he]; rfl
                  have e10 : w2.cell? ⟨w.heap.size, 10, none⟩ = some (.string a0_10) := by rw [Lib.cell_of_heap he]; rfl
                  have e11 : w2.cell? ⟨w.heap.size, 11, none⟩ = some (.int .i64 a0_11) := by rw [Lib.cell_of_heap he]; rfl
                  have e12 : w2.cell? ⟨w.heap.size, 12, none⟩ = some (.int .i64 a0_12) := by rw [Lib.cell_of_heap he]; rfl
                  have e13 : w2.cell? ⟨w.heap.size, 13, none⟩ = some (.int .i64 a0_13) := by rw [Lib.cell_of_heap he]; rfl
                  have e14 : w2.cell? ⟨w.heap.size, 14, none⟩ = some (.bool a0_14) := by rw [Lib.cell_of_heap he]; rfl
                  clear he
                  go_wp2_with fail
                  refine (param_Value.calls k a0_0 A0_1 c0_1 l0_1 A0_2 c0_2 l0_2 a0_3 A0_4 c0_4 l0_4 A0_5 c0_5 l0_5 a0_6 a0_7 a0_8 a0_9 a0_10 a0_11 a0_12 a0_13 a0_14 (⟨#[85, 83, 69, 82]⟩ : ByteArray) v1 v2 w2 (Kd.C_below HR1.out HP2.out.below) HC1.out (Kd.C_below HR2.out HP2.out.below) HC2.out (Kd.C_below HR4.out HP2.out.below) HC4.out (Kd.C_below HR5.out HP2.out.below) HC5.out (AmbC_below HAMB.out HP2.out.below) HVV.out).mono ?_
                  rintro e w4 ⟨rfl, hb⟩
                  have HP4 := Aside0.mk (HP2.out.keep hb)
                  clear hb HVV e0 e1 e2 e3 e4 e5 e6 e7 e8 e9 e10 e11 e12 e13 e14
                  go_wp2_with fail
                  refine (insert_calls HP4.out p (2) (2) (by rfl) (v1) (by omega) g2 hsz (by omega)).mono ?_
                  rintro e w5 ⟨rfl, hp5⟩
                  have HP5 := Aside0.mk hp5
                  clear hp5
                  go_wp2_with fail
                  go_roundw
                  case rel => exact ⟨p + (2), p + 1, _, HP5, Aside0.mk g4⟩
                  case measure => rw [hpos, HPOS3.out _ _ _ HP5.out]; omega
                have k117 : ((((a1.extract (p + 1) a1.size)[0]'q3).toNat : Int) == 117) = false := by rw [HI.out]; exact beq_eq_false_iff_ne.2 d117
                by_cases d106 : bt a1 ((p + 1 : Nat) : Int) = 106
                · have k106 : ((((a1.extract (p + 1) a1.size)[0]'q3).toNat : Int) == 106) = true := by rw [HI.out]; exact beq_iff_eq.2 d106
                  have ho3 := HO.out; rw [exStep, if_neg h36, if_pos h92, if_pos hne, if_neg d119, if_neg d36, if_neg d92, if_neg d117, if_pos d106] at ho3
                  obtain ⟨v1, hv, ho4⟩ := Option.bind_eq_some_iff.1 ho3
                  have HVV := Aside0.mk hv
                  obtain ⟨g1, g2, g3, g4⟩ := HS.out _ _ (Option.some.inj ho4).symm
                  clear hv ho3 ho4
                  go_wp2_with fail
                  refine (strconv_Itoa.calls a2 v1 w2 (AmbC_below HAMB.out HP2.out.below) HVV.out).mono ?_
                  rintro e w4 ⟨rfl, hb⟩
                  have HP4 := Aside0.mk (HP2.out.keep hb)
                  clear hb HVV
                  go_wp2_with fail
                  refine (insert_calls HP4.out p (2) (2) (by rfl) (v1) (by omega) g2 hsz (by omega)).mono ?_
                  rintro e w5 ⟨rfl, hp5⟩
                  have HP5 := Aside0.mk hp5
                  clear hp5
                  go_wp2_with fail
                  go_roundw
                  case rel => exact ⟨p + (2), p + 1, _, HP5, Aside0.mk g4⟩
                  case measure => rw [hpos, HPOS3.out _ _ _ HP5.out]; omega
                have k106 : ((((a1.extract (p + 1) a1.size)[0]'q3).toNat : Int) == 106) = false := by rw [HI.out]; exact beq_eq_false_iff_ne.2 d106
                by_cases d33 : bt a1 ((p + 1 : Nat) : Int) = 33
                · have k33 : ((((a1.extract (p + 1) a1.size)[0]'q3).toNat : Int) == 33) = true := by rw [HI.out]; exact beq_iff_eq.2 d33
                  have ho3 := HO.out; rw [exStep, if_neg h36, if_pos h92, if_pos hne, if_neg d119, if_neg d36, if_neg d92, if_neg d117, if_neg d106, if_pos d33] at ho3
                  obtain ⟨v1, hv, ho4⟩ := Option.bind_eq_some_iff.1 ho3
                  have HVV := Aside0.mk hv
                  obtain ⟨g1, g2, g3, g4⟩ := HS.out _ _ (Option.some.inj ho4).symm
                  clear hv ho3 ho4
                  go_wp2_with fail
                  refine (strconv_Itoa.calls a3 v1 w2 (AmbC_below HAMB.out HP2.out.below) HVV.out).mono ?_
                  rintro e w4 ⟨rfl, hb⟩
                  have HP4 := Aside0.mk (HP2.out.keep hb)
                  clear hb HVV
                  go_wp2_with fail
                  refine (insert_calls HP4.out p (2) (2) (by rfl) (v1) (by omega) g2 hsz (by omega)).mono ?_
                  rintro e w5 ⟨rfl, hp5⟩
                  have HP5 := Aside0.mk hp5
                  clear hp5
                  go_wp2_with fail
                  go_roundw
                  case rel => exact ⟨p + (2), p + 1, _, HP5, Aside0.mk g4⟩
                  case measure => rw [hpos, HPOS3.out _ _ _ HP5.out]; omega
                have k33 : ((((a1.extract (p + 1) a1.size)[0]'q3).toNat : Int) == 33) = false := by rw [HI.out]; exact beq_eq_false_iff_ne.2 d33
                by_cases d110 : bt a1 ((p + 1 : Nat) : Int) = 110
                · have k110 : ((((a1.extract (p + 1) a1.size)[0]'q3).toNat : Int) == 110) = true := by rw [HI.out]; exact beq_iff_eq.2 d110
                  have ho3 := HO.out; rw [exStep, if_neg h36, if_pos h92, if_pos hne, if_neg d119, if_neg d36, if_neg d92, if_neg d117, if_neg d106, if_neg d33, if_pos d110] at ho3
                  obtain ⟨g1, g2, g3, g4⟩ := HS.out _ _ (Option.some.inj ho3).symm
                  clear ho3
                  go_wp2_with fail
                  refine (insert_calls HP2.out p (2) (2) (by rfl) ((⟨#[10]⟩ : ByteArray)) (by omega) g2 hsz (by omega)).mono ?_
                  rintro e w5 ⟨rfl, hp5⟩
                  have HP5 := Aside0.mk hp5
                  clear hp5
                  go_wp2_with fail
                  go_roundw
                  case rel => exact ⟨p + (2), p + 1, _, HP5, Aside0.mk g4⟩
                  case measure => rw [hpos, HPOS3.out _ _ _ HP5.out]; omega
                have k110 : ((((a1.extract (p + 1) a1.size)[0]'q3).toNat : Int) == 110) = false := by rw [HI.out]; exact beq_eq_false_iff_ne.2 d110
                have ho3 : o = none := by have := HO.out; rw [exStep, if_neg h36, if_pos h92, if_pos hne, if_neg d119, if_neg d36, if_neg d92, if_neg d117, if_neg d106, if_neg d33, if_neg d110] at this; exact (Option.some.inj this).symm
                go_wp2_with fail
                go_roundw
                case rel => exact ⟨f, p + 1, acc, HP2, Aside0.mk (HN.out ho3)⟩
                case measure => rw [hpos, HPOS3.out _ _ _ HP2.out]; omega
              · have q0 : (a1.extract (p + 1) a1.size).toList = [] := by
                  rw [Lib.toList_data]; apply List.length_eq_zero_iff.1; simp; omega
                have q1 : ((a1.extract (p + 1) a1.size).toList == ([] : List UInt8)) = true := beq_iff_eq.2 q0
                have q2 : (a1.extract (p + 1) a1.size).toList.isEmpty = true := by rw [q0]; rfl
                clear q0
                have ho3 : o = none := by have := HO.out; rw [exStep, if_neg h36, if_pos h92, if_neg hne] at this; exact (Option.some.inj this).symm
                go_wp2_with fail
                go_roundw
                case rel => exact ⟨f, p + 1, acc, HP2, Aside0.mk (HN.out ho3)⟩
                case measure => rw [hpos, HPOS3.out _ _ _ HP2.out]; omega
            · have n92 : (bt a1 p != 92) = true := bne_iff_ne.2 h92
              have ho3 : o = none := by have := HO.out; rw [exStep_plain p h36 h92] at this; exact (Option.some.inj this).symm
              go_wp2_with fail
              go_roundw
              case rel => exact ⟨f, p + 1, acc, HP2, Aside0.mk (HN.out ho3)⟩
              case measure => rw [hpos, HPOS3.out _ _ _ HP2.out]; omega
    · have hnx0 := fun ty => Lib.run_next_end_at (P := Tryd.prog) wr (w.heap.size + 1 + 1 + 1 + 1 + 1) a1 p ty HP.out.hi hlt
      have hdone := HL.out.done hlt
      have hdl : acc.length + (a1.size - f) = out.length := by
        rw [← hdone, List.length_append, List.length_drop]; simp
      have cs3 : wr.cell? ⟨w.heap.size + 1, 0, none⟩ = some (.string a1) := by rw [Lib.cell_of_heap HP.out.hs]; rfl
      have cf3 : wr.cell? ⟨w.heap.size + 1 + 1 + 1, 0, none⟩ = some (.int .i64 f) := by rw [show (⟨w.heap.size + 1 + 1 + 1, 0, none⟩ : Addr) = ⟨w.heap.size + 3, 0, none⟩ from rfl, Lib.cell_of_heap HP.out.hf]; rfl
      have HD := Aside0.mk hdone
      clear hdone
      go_wp2_with fail
      refine (Bld.write w.heap.size (w.heap.size + 1 + 1) _ (a1.extract f a1.size) _ HP.out.bld (by rw [byteCells_length, ByteArray.size_extract]; omega) HP.out.below.size).mono ?_
      rintro e w3 ⟨rfl, hbd, hwr⟩
      have HB3 : Aside0 (Lib.IsBuilder 47 5 w.heap.size (w.heap.size + 1 + 1) (Lib.byteCells out) w3) := Aside0.mk (.inr (by
        rw [byteCells_str, ← Lib.byteCells_append, Lib.extract_data, List.take_of_length_le (by simp), HD.out] at hbd; exact hbd))
      have HW3 := Aside0.mk (HP.out.below.trans hwr.below)
      clear hbd hwr cs3 cf3
      go_wp2_with fail
      refine (Bld.str w.heap.size (w.heap.size + 1 + 1) out w3 HB3.out HW3.out.size).mono ?_
      rintro e w4 ⟨rfl, hb4⟩
      have HW4 := Aside0.mk (HW3.out.trans hb4)
      clear hb4
      obtain ⟨os, hos⟩ : ∃ os : ByteArray, os = ⟨out.toArray⟩ := ⟨_, rfl⟩
      have hosz : os.size = out.length := by rw [hos]; rfl
      rw [← hos]
      have hr0 : os.extract 0 (min (out.length : Int) 4096).toNat = r := by
        rw [← HRES.out, hos]
        apply ByteArray.ext
        apply Array.toList_inj.1
        rw [Lib.extract_data]
        show (out.drop 0).take ((min (out.length : Int) 4096).toNat - 0) = out.take 4096
        rw [List.drop_zero, Nat.sub_zero]
        rcases Nat.lt_or_ge out.length 4096 with h | h
        · rw [List.take_of_length_le (by omega), List.take_of_length_le (by omega)]
        · rw [show (min (out.length : Int) 4096).toNat = 4096 by omega]
      have HR0 := Aside0.mk hr0
      have hm0 : 0 ≤ min (out.length : Int) 4096 := by omega
      have hm1 : min (out.length : Int) 4096 ≤ (out.length : Int) := by omega
      clear hr0 hos
      go_wp2_with fail
      go_ret
      exact ⟨by rw [← HR0.out]; rfl, HW4.out⟩
end Go.Proofs.YtiacdccnifjcjaaDoor.F
