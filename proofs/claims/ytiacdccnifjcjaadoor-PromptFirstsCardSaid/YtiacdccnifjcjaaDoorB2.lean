/- Texts of this claim, joined. -/
import Derived.ProofKit
import Derived.DataElems
import Derived.OpenShut
import Derived.Test.YtiacdccnifjcjaaDoorB0
import Derived.Test.YtiacdccnifjcjaaDoorB1
import Derived.Test.YtiacdccnifjcjaaDoorBW0
namespace Go.Proofs.YtiacdccnifjcjaaDoor.F
open Go.RowKit Go.Proofs.YtiacdccnifjcjaaDoorW.PrintWords Go.Proofs.YtiacdccnifjcjaaDoorW.PrintLast Go.Proofs.YtiacdccnifjcjaaDoorW.PrintMore
attribute [local go_sem] max2_int min2_int max_two min_two max_three min_three max_four min_four
set_option linter.unusedVariables false
set_option linter.unusedSimpArgs false
def prompt_First.f (k : Nat) (a0_0 : ByteArray) (l0_1 : List (S_Var)) (l0_2 : List ByteArray) (a0_3 : Opq) (l0_4 : List (S_Alias)) (l0_5 : List (S_Trap)) (a0_6 : Int) (a0_7 : Int) (a0_8 : Int) (a0_9 : Int) (a0_10 : ByteArray) (a0_11 : Int) (a0_12 : Int) (a0_13 : Int) (a0_14 : Bool) (a1 : Int) (a2 : Int) : Option (ByteArray) := (vars_Get.f k l0_1 (⟨#[80, 83, 49]⟩ : ByteArray)).bind fun bt249 => (if bt249.2.2.1 = true then ((prompt_Expand.f k a0_0 l0_1 l0_2 a0_3 l0_4 l0_5 a0_6 a0_7 a0_8 a0_9 a0_10 a0_11 a0_12 a0_13 a0_14 bt249.2.1 a1 a2).bind fun t256 => (some t256)) else (some (⟨#[36, 32]⟩ : ByteArray)))
theorem prompt_First.mono : ∀ a0 a1 a2 a3 a4 a5 a6 a7 a8 a9 a10 a11 a12 a13 a14 a15 a16 k, LeO (prompt_First.f k a0 a1 a2 a3 a4 a5 a6 a7 a8 a9 a10 a11 a12 a13 a14 a15 a16) (prompt_First.f (k + 1) a0 a1 a2 a3 a4 a5 a6 a7 a8 a9 a10 a11 a12 a13 a14 a15 a16) := by
 intro a0 a1 a2 a3 a4 a5 a6 a7 a8 a9 a10 a11 a12 a13 a14 a15 a16 k
 unfold prompt_First.f
 repeat' first
   | (with_reducible exact prompt_Expand.mono _ _ _ _ _ _ _ _ _ _ _ _ _ _ _ _ _ _ _)
   | (with_reducible exact vars_Get.mono _ _ _)
   | (with_reducible exact LeO.refl _)
   | (with_reducible exact LeO.none _)
   | (with_reducible refine LeO.ite ?_ ?_)
   | (with_reducible refine LeO.bind ?_ (fun _ => ?_))
   | exact prompt_Expand.mono _ _ _ _ _ _ _ _ _ _ _ _ _ _ _ _ _ _ _
   | exact vars_Get.mono _ _ _
   | exact LeO.none _
   | refine LeO.ite ?_ ?_
   | refine LeO.bind ?_ (fun _ => ?_)
set_option maxHeartbeats 8000000 in
set_option maxRecDepth 100000 in
theorem prompt_First.calls (k : Nat) (a0_0 : ByteArray) (A0_1 : Option Addr) (c0_1 : Nat) (l0_1 : List (S_Var)) (A0_2 : Option Addr) (c0_2 : Nat) (l0_2 : List ByteArray) (a0_3 : Opq) (A0_4 : Option Addr) (c0_4 : Nat) (l0_4 : List (S_Alias)) (A0_5 : Option Addr) (c0_5 : Nat) (l0_5 : List (S_Trap)) (a0_6 : Int) (a0_7 : Int) (a0_8 : Int) (a0_9 : Int) (a0_10 : ByteArray) (a0_11 : Int) (a0_12 : Int) (a0_13 : Int) (a0_14 : Bool) (a1 : Int) (a2 : Int) (r : ByteArray) (w : World) (hr0_1 : Kd.C k_Var w A0_1 l0_1.length l0_1) (hc0_1 : l0_1.length ≤ c0_1) (hr0_2 : Kd.C Kd.string w A0_2 l0_2.length l0_2) (hc0_2 : l0_2.length ≤ c0_2) (hr0_4 : Kd.C k_Alias w A0_4 l0_4.length l0_4) (hc0_4 : l0_4.length ≤ c0_4) (hr0_5 : Kd.C k_Trap w A0_5 l0_5.length l0_5) (hc0_5 : l0_5.length ≤ c0_5) (hamb : AmbC w) (h : prompt_First.f k a0_0 l0_1 l0_2 a0_3 l0_4 l0_5 a0_6 a0_7 a0_8 a0_9 a0_10 a0_11 a0_12 a0_13 a0_14 a1 a2 = some r) :
  Calls Tryd.prog 12 #[.agg #[.string a0_0, .slice A0_1 l0_1.length c0_1, .slice A0_2 l0_2.length c0_2, .slice (a0_3).A (a0_3).n (a0_3).c, .slice A0_4 l0_4.length c0_4, .slice A0_5 l0_5.length c0_5, .int .i64 a0_6, .int .i64 a0_7, .int .i64 a0_8, .int .i64 a0_9, .string a0_10, .int .i64 a0_11, .int .i64 a0_12, .int .i64 a0_13, .bool a0_14], .int .i64 a1, .int .i64 a2] w fun e w' => e = .returned (.string r) ∧ Below w.heap.size w w' := by
 have hu30 := Tryd.underlying30
 have hu42 := Tryd.underlying42
 have HAMB := Aside0.mk hamb
 clear hamb
 have HR0_1 := Aside0.mk hr0_1
 have HC0_1 := Aside0.mk hc0_1
 clear hr0_1 hc0_1
 have HR0_2 := Aside0.mk hr0_2
 have HC0_2 := Aside0.mk hc0_2
 clear hr0_2 hc0_2
 have HR0_4 := Aside0.mk hr0_4
 have HC0_4 := Aside0.mk hc0_4
 clear hr0_4 hc0_4
 have HR0_5 := Aside0.mk hr0_5
 have HC0_5 := Aside0.mk hc0_5
 clear hr0_5 hc0_5
 have HB := Aside0.mk (Below.refl w.heap.size w)
 have H : ((vars_Get.f k l0_1 (⟨#[80, 83, 49]⟩ : ByteArray)).bind fun bt249 => (if bt249.2.2.1 = true then ((prompt_Expand.f k a0_0 l0_1 l0_2 a0_3 l0_4 l0_5 a0_6 a0_7 a0_8 a0_9 a0_10 a0_11 a0_12 a0_13 a0_14 bt249.2.1 a1 a2).bind fun t256 => (some t256)) else (some (⟨#[36, 32]⟩ : ByteArray)))) = some r := h
 clear h
 replace H := Option.bind_eq_some_iff.mp H
 obtain ⟨⟨t249, t250, t251, t252, t253, t254⟩, A40, H⟩ := H
 replace H : (if t251 = true then ((prompt_Expand.f k a0_0 l0_1 l0_2 a0_3 l0_4 l0_5 a0_6 a0_7 a0_8 a0_9 a0_10 a0_11 a0_12 a0_13 a0_14 t250 a1 a2).bind fun t256 => (some t256)) else (some (⟨#[36, 32]⟩ : ByteArray))) = some r := H
 have A4 := Aside0.mk A40
 clear A40
 by_cases c5 : t251 = true
 ·subst c5
  have H1 : ((prompt_Expand.f k a0_0 l0_1 l0_2 a0_3 l0_4 l0_5 a0_6 a0_7 a0_8 a0_9 a0_10 a0_11 a0_12 a0_13 a0_14 t250 a1 a2).bind fun t256 => (some t256)) = some r := by rw [if_pos rfl] at H; exact H
  clear H
  have H := H1
  clear H1
  replace H := Option.bind_eq_some_iff.mp H
  obtain ⟨t256, A60, H⟩ := H
  replace H : (some t256) = some r := H
  have A6 := Aside0.mk A60
  clear A60
  obtain rfl := Option.some.inj H
  go_enter Tryd.func12, Tryd.ntmps12
  go_wp2_with (first | ((with_reducible refine gate_dst (N := 3) rfl ?_); refine box_event ?hg (N := 3) ?hd (cs := #[.string a0_0, .slice A0_1 l0_1.length c0_1, .slice A0_2 l0_2.length c0_2, .slice (a0_3).A (a0_3).n (a0_3).c, .slice A0_4 l0_4.length c0_4, .slice A0_5 l0_5.length c0_5, .int .i64 a0_6, .int .i64 a0_7, .int .i64 a0_8, .int .i64 a0_9, .string a0_10, .int .i64 a0_11, .int .i64 a0_12, .int .i64 a0_13, .bool a0_14]) (t := 30) ?hr ?_; (case hd => rfl); (case hg => rfl); (case hr => first | (go_simp; done) | (go_simp; rfl)); intro gb248 hg w7 hbox hb; have n0_ := Aside0.mk (below_step (by repeat (first | (with_reducible first | exact HB.out | apply below_alloc | apply pw_below_drewN | apply below_drew1) | exact HB.out)) hb); have n1_ := Aside0.mk (hbox); have n2_ := Aside0.mk ((by rw [hg]; exact (below_size (by repeat (first | (with_reducible first | exact HB.out | apply below_alloc | apply pw_below_drewN | apply below_drew1) | exact HB.out))) : w.heap.size ≤ gb248)); have n3_ := Aside0.mk ((by rw [hg]; exact (below_size (by repeat (first | (with_reducible first | exact HB.out | apply below_alloc | apply pw_below_drewN | apply below_drew1) | exact HB.out))) : w.heap.size ≤ gb248)); clear HB; have HB := n0_; have BK248 := n1_; have GW248 := n2_; have GE248 := n3_; clear n0_ n1_ n2_ n3_; clear hb hbox hg; have hcz8_0 : w7.cell? ⟨gb248, 0, none⟩ = some (.string a0_0) := (blk_cell BK248.out 0).trans rfl; have hcz8_1 : w7.cell? ⟨gb248, 1, none⟩ = some (.slice A0_1 l0_1.length c0_1) := (blk_cell BK248.out 1).trans rfl; have hcz8_2 : w7.cell? ⟨gb248, 2, none⟩ = some (.slice A0_2 l0_2.length c0_2) := (blk_cell BK248.out 2).trans rfl; have hcz8_3 : w7.cell? ⟨gb248, 3, none⟩ = some (.slice (a0_3).A (a0_3).n (a0_3).c) := (blk_cell BK248.out 3).trans rfl; have hcz8_4 : w7.cell? ⟨gb248, 4, none⟩ = some (.slice A0_4 l0_4.length c0_4) := (blk_cell BK248.out 4).trans rfl; have hcz8_5 : w7.cell? ⟨gb248, 5, none⟩ = some (.slice A0_5 l0_5.length c0_5) := (blk_cell BK248.out 5).trans rfl; have hcz8_6 : w7.cell? ⟨gb248, 6, none⟩ = some (.int .i64 a0_6) := (blk_cell BK248.out 6).trans rfl; have hcz8_7 : w7.cell? ⟨gb248, 7, none⟩ = some (.int .i64 a0_7) := (blk_cell BK248.out 7).trans rfl; have hcz8_8 : w7.cell? ⟨gb248, 8, none⟩ = some (.int .i64 a0_8) := (blk_cell BK248.out 8).trans rfl; have hcz8_9 : w7.cell? ⟨gb248, 9, none⟩ = some (.int .i64 a0_9) := (blk_cell BK248.out 9).trans rfl; have hcz8_10 : w7.cell? ⟨gb248, 10, none⟩ = some (.string a0_10) := (blk_cell BK248.out 10).trans rfl; have hcz8_11 : w7.cell? ⟨gb248, 11, none⟩ = some (.int .i64 a0_11) := (blk_cell BK248.out 11).trans rfl; have hcz8_12 : w7.cell? ⟨gb248, 12, none⟩ = some (.int .i64 a0_12) := (blk_cell BK248.out 12).trans rfl; have hcz8_13 : w7.cell? ⟨gb248, 13, none⟩ = some (.int .i64 a0_13) := (blk_cell BK248.out 13).trans rfl; have hcz8_14 : w7.cell? ⟨gb248, 14, none⟩ = some (.bool a0_14) := (blk_cell BK248.out 14).trans rfl; have hfz8_0 := blk_frozen BK248.out 0; have hfz8_1 := blk_frozen BK248.out 1; have hfz8_2 := blk_frozen BK248.out 2; have hfz8_3 := blk_frozen BK248.out 3; have hfz8_4 := blk_frozen BK248.out 4; have hfz8_5 := blk_frozen BK248.out 5; have hfz8_6 := blk_frozen BK248.out 6; have hfz8_7 := blk_frozen BK248.out 7; have hfz8_8 := blk_frozen BK248.out 8; have hfz8_9 := blk_frozen BK248.out 9; have hfz8_10 := blk_frozen BK248.out 10; have hfz8_11 := blk_frozen BK248.out 11; have hfz8_12 := blk_frozen BK248.out 12; have hfz8_13 := blk_frozen BK248.out 13; have hfz8_14 := blk_frozen BK248.out 14) | ((with_reducible refine gate_callee (f := 26) rfl ?_); refine goesL_ (some 12) rfl rfl Tryd.func26 (by kernel_rfl) rfl #[.slice A0_1 l0_1.length c0_1, .string (⟨#[80, 83, 49]⟩ : ByteArray)] rfl (by (try simp only [List.map_toArray, List.map_cons, List.map_nil]); first | done | rfl | (simp only [List.length_drop, List.length_take]; rfl)) ?_; (with_reducible refine (vars_Get.calls k _ _ l0_1 (⟨#[80, 83, 49]⟩ : ByteArray) t249 t250 true t252 t253 t254 _ ?side1 ?side2 A4.out).mono ?_); (case side1 => repeat (first | exact (Kd.C_below HR0_1.out HB.out) | (with_reducible refine Kd.C_alloc ?_ _) | (with_reducible refine Kd.C_drewN ?_ _) | (with_reducible refine Kd.C_drew ?_))); (case side2 => exact HC0_1.out); rintro e w9 ⟨rfl, hb⟩; refine ⟨_, rfl, ?_⟩; have n0_ := Aside0.mk (blk_below (g := gb248) (o := .cells #[.string a0_0, .slice A0_1 l0_1.length c0_1, .slice A0_2 l0_2.length c0_2, .slice (a0_3).A (a0_3).n (a0_3).c, .slice A0_4 l0_4.length c0_4, .slice A0_5 l0_5.length c0_5, .int .i64 a0_6, .int .i64 a0_7, .int .i64 a0_8, .int .i64 a0_9, .string a0_10, .int .i64 a0_11, .int .i64 a0_12, .int .i64 a0_13, .bool a0_14] 30 (0, 0)) (by (with_reducible repeat (first | refine blk_drewN ?_ _ | refine blk_drew ?_ | refine blk_alloc ?_ _)); exact BK248.out) hb); have n1_ := Aside0.mk (below_step (by repeat (first | (with_reducible first | exact HB.out | apply below_alloc | apply pw_below_drewN | apply below_drew1 | refine below_set ?_ GE248.out) | exact HB.out)) hb); clear BK248; clear HB; have BK248 := n0_; have HB := n1_; clear n0_ n1_; (try clear hb); (try clear hb2); (try clear hk); (try clear hi)) | ((with_reducible refine gate_dst (N := 7) rfl ?_); refine box_event ?hg (N := 7) ?hd (cs := #[.string (⟨#[]⟩ : ByteArray), .string (⟨#[]⟩ : ByteArray), .bool false, .bool false, .bool false]) (t := 42) ?hr ?_; (case hd => rfl); (case hg => rfl); (case hr => first | (go_simp; done) | (go_simp; rfl)); intro gb255 hg w10 hbox hb; have n0_ := Aside0.mk (blk_below (g := gb248) (o := .cells #[.string a0_0, .slice A0_1 l0_1.length c0_1, .slice A0_2 l0_2.length c0_2, .slice (a0_3).A (a0_3).n (a0_3).c, .slice A0_4 l0_4.length c0_4, .slice A0_5 l0_5.length c0_5, .int .i64 a0_6, .int .i64 a0_7, .int .i64 a0_8, .int .i64 a0_9, .string a0_10, .int .i64 a0_11, .int .i64 a0_12, .int .i64 a0_13, .bool a0_14] 30 (0, 0)) (by (with_reducible repeat (first | refine blk_drewN ?_ _ | refine blk_drew ?_ | refine blk_alloc ?_ _)); exact BK248.out) hb); have n1_ := Aside0.mk (below_step (by repeat (first | (with_reducible first | exact HB.out | apply below_alloc | apply pw_below_drewN | apply below_drew1 | refine below_set ?_ GE248.out) | exact HB.out)) hb); have n2_ := Aside0.mk (hbox); have n3_ := Aside0.mk ((by rw [hg]; exact (below_size (by repeat (first | (with_reducible first | exact HB.out | apply below_alloc | apply pw_below_drewN | apply below_drew1 | refine below_set ?_ GE248.out) | exact HB.out))) : w.heap.size ≤ gb255)); have n4_ := Aside0.mk ((by rw [hg]; exact (below_size (by repeat (first | (with_reducible first | exact HB.out | apply below_alloc | apply pw_below_drewN | apply below_drew1 | refine below_set ?_ GE248.out) | exact HB.out))) : w.heap.size ≤ gb255)); have n5_ := Aside0.mk ((by rw [hg]; exact Nat.ne_of_lt (blk_lt (g := gb248) (o := .cells #[.string a0_0, .slice A0_1 l0_1.length c0_1, .slice A0_2 l0_2.length c0_2, .slice (a0_3).A (a0_3).n (a0_3).c, .slice A0_4 l0_4.length c0_4, .slice A0_5 l0_5.length c0_5, .int .i64 a0_6, .int .i64 a0_7, .int .i64 a0_8, .int .i64 a0_9, .string a0_10, .int .i64 a0_11, .int .i64 a0_12, .int .i64 a0_13, .bool a0_14] 30 (0, 0)) (by (with_reducible repeat (first | refine blk_drewN ?_ _ | refine blk_drew ?_ | refine blk_alloc ?_ _)); exact BK248.out)) : gb248 ≠ gb255)); have n6_ := Aside0.mk ((by rw [hg]; exact Nat.ne_of_gt (blk_lt (g := gb248) (o := .cells #[.string a0_0, .slice A0_1 l0_1.length c0_1, .slice A0_2 l0_2.length c0_2, .slice (a0_3).A (a0_3).n (a0_3).c, .slice A0_4 l0_4.length c0_4, .slice A0_5 l0_5.length c0_5, .int .i64 a0_6, .int .i64 a0_7, .int .i64 a0_8, .int .i64 a0_9, .string a0_10, .int .i64 a0_11, .int .i64 a0_12, .int .i64 a0_13, .bool a0_14] 30 (0, 0)) (by (with_reducible repeat (first | refine blk_drewN ?_ _ | refine blk_drew ?_ | refine blk_alloc ?_ _)); exact BK248.out)) : gb255 ≠ gb248)); clear BK248; clear HB; have BK248 := n0_; have HB := n1_; have BK255 := n2_; have GW255 := n3_; have GE255 := n4_; have NB248_255 := n5_; have NB255_248 := n6_; clear n0_ n1_ n2_ n3_ n4_ n5_ n6_; clear hb hbox hg; have hnb11 := NB255_248.out; have hnc11 := NB248_255.out; have hcz12_0 : w10.cell? ⟨gb255, 0, none⟩ = some (.string (⟨#[]⟩ : ByteArray)) := (blk_cell BK255.out 0).trans rfl; have hcz12_1 : w10.cell? ⟨gb255, 1, none⟩ = some (.string (⟨#[]⟩ : ByteArray)) := (blk_cell BK255.out 1).trans rfl; have hcz12_2 : w10.cell? ⟨gb255, 2, none⟩ = some (.bool false) := (blk_cell BK255.out 2).trans rfl; have hcz12_3 : w10.cell? ⟨gb255, 3, none⟩ = some (.bool false) := (blk_cell BK255.out 3).trans rfl; have hcz12_4 : w10.cell? ⟨gb255, 4, none⟩ = some (.bool false) := (blk_cell BK255.out 4).trans rfl; have hfz12_0 := blk_frozen BK255.out 0; have hfz12_1 := blk_frozen BK255.out 1; have hfz12_2 := blk_frozen BK255.out 2; have hfz12_3 := blk_frozen BK255.out 3; have hfz12_4 := blk_frozen BK255.out 4; have hcz13_0 : w10.cell? ⟨gb248, 0, none⟩ = some (.string a0_0) := (blk_cell BK248.out 0).trans rfl; have hcz13_1 : w10.cell? ⟨gb248, 1, none⟩ = some (.slice A0_1 l0_1.length c0_1) := (blk_cell BK248.out 1).trans rfl; have hcz13_2 : w10.cell? ⟨gb248, 2, none⟩ = some (.slice A0_2 l0_2.length c0_2) := (blk_cell BK248.out 2).trans rfl; have hcz13_3 : w10.cell? ⟨gb248, 3, none⟩ = some (.slice (a0_3).A (a0_3).n (a0_3).c) := (blk_cell BK248.out 3).trans rfl; have hcz13_4 : w10.cell? ⟨gb248, 4, none⟩ = some (.slice A0_4 l0_4.length c0_4) := (blk_cell BK248.out 4).trans rfl; have hcz13_5 : w10.cell? ⟨gb248, 5, none⟩ = some (.slice A0_5 l0_5.length c0_5) := (blk_cell BK248.out 5).trans rfl; have hcz13_6 : w10.cell? ⟨gb248, 6, none⟩ = some (.int .i64 a0_6) := (blk_cell BK248.out 6).trans rfl; have hcz13_7 : w10.cell? ⟨gb248, 7, none⟩ = some (.int .i64 a0_7) := (blk_cell BK248.out 7).trans rfl; have hcz13_8 : w10.cell? ⟨gb248, 8, none⟩ = some (.int .i64 a0_8) := (blk_cell BK248.out 8).trans rfl; have hcz13_9 : w10.cell? ⟨gb248, 9, none⟩ = some (.int .i64 a0_9) := (blk_cell BK248.out 9).trans rfl; have hcz13_10 : w10.cell? ⟨gb248, 10, none⟩ = some (.string a0_10) := (blk_cell BK248.out 10).trans rfl; have hcz13_11 : w10.cell? ⟨gb248, 11, none⟩ = some (.int .i64 a0_11) := (blk_cell BK248.out 11).trans rfl; have hcz13_12 : w10.cell? ⟨gb248, 12, none⟩ = some (.int .i64 a0_12) := (blk_cell BK248.out 12).trans rfl; have hcz13_13 : w10.cell? ⟨gb248, 13, none⟩ = some (.int .i64 a0_13) := (blk_cell BK248.out 13).trans rfl; have hcz13_14 : w10.cell? ⟨gb248, 14, none⟩ = some (.bool a0_14) := (blk_cell BK248.out 14).trans rfl; have hfz13_0 := blk_frozen BK248.out 0; have hfz13_1 := blk_frozen BK248.out 1; have hfz13_2 := blk_frozen BK248.out 2; have hfz13_3 := blk_frozen BK248.out 3; have hfz13_4 := blk_frozen BK248.out 4; have hfz13_5 := blk_frozen BK248.out 5; have hfz13_6 := blk_frozen BK248.out 6; have hfz13_7 := blk_frozen BK248.out 7; have hfz13_8 := blk_frozen BK248.out 8; have hfz13_9 := blk_frozen BK248.out 9; have hfz13_10 := blk_frozen BK248.out 10; have hfz13_11 := blk_frozen BK248.out 11; have hfz13_12 := blk_frozen BK248.out 12; have hfz13_13 := blk_frozen BK248.out 13; have hfz13_14 := blk_frozen BK248.out 14) | ((with_reducible refine gate_callee (f := 9) rfl ?_); refine goesL_ (some 22) rfl rfl Tryd.func9 (by kernel_rfl) rfl #[.agg #[.string a0_0, .slice A0_1 l0_1.length c0_1, .slice A0_2 l0_2.length c0_2, .slice (a0_3).A (a0_3).n (a0_3).c, .slice A0_4 l0_4.length c0_4, .slice A0_5 l0_5.length c0_5, .int .i64 a0_6, .int .i64 a0_7, .int .i64 a0_8, .int .i64 a0_9, .string a0_10, .int .i64 a0_11, .int .i64 a0_12, .int .i64 a0_13, .bool a0_14], .string t250, .int .i64 a1, .int .i64 a2] rfl (by (try simp only [List.map_toArray, List.map_cons, List.map_nil]); first | done | rfl | (simp only [List.length_drop, List.length_take]; rfl)) ?_; (with_reducible refine (prompt_Expand.calls k a0_0 _ _ l0_1 _ _ l0_2 a0_3 _ _ l0_4 _ _ l0_5 a0_6 a0_7 a0_8 a0_9 a0_10 a0_11 a0_12 a0_13 a0_14 t250 a1 a2 t256 _ ?side1 ?side2 ?side3 ?side4 ?side5 ?side6 ?side7 ?side8 ?side9 A6.out).mono ?_); (case side1 => exact Kd.C_below HR0_1.out (by repeat (first | (with_reducible first | exact HB.out | apply below_alloc | apply pw_below_drewN | apply below_drew1 | refine below_set ?_ GE248.out | refine below_set ?_ GE255.out) | exact HB.out))); (case side2 => exact HC0_1.out); (case side3 => exact Kd.C_below HR0_2.out (by repeat (first | (with_reducible first | exact HB.out | apply below_alloc | apply pw_below_drewN | apply below_drew1 | refine below_set ?_ GE248.out | refine below_set ?_ GE255.out) | exact HB.out))); (case side4 => exact HC0_2.out); (case side5 => exact Kd.C_below HR0_4.out (by repeat (first | (with_reducible first | exact HB.out | apply below_alloc | apply pw_below_drewN | apply below_drew1 | refine below_set ?_ GE248.out | refine below_set ?_ GE255.out) | exact HB.out))); (case side6 => exact HC0_4.out); (case side7 => exact Kd.C_below HR0_5.out (by repeat (first | (with_reducible first | exact HB.out | apply below_alloc | apply pw_below_drewN | apply below_drew1 | refine below_set ?_ GE248.out | refine below_set ?_ GE255.out) | exact HB.out))); (case side8 => exact HC0_5.out); (case side9 => exact AmbC_below HAMB.out (by repeat (first | (with_reducible first | exact HB.out | apply below_alloc | apply pw_below_drewN | apply below_drew1 | refine below_set ?_ GE248.out | refine below_set ?_ GE255.out) | exact HB.out))); rintro e w14 ⟨rfl, hb⟩; refine ⟨_, rfl, ?_⟩; have n0_ := Aside0.mk (blk_below (g := gb248) (o := .cells #[.string a0_0, .slice A0_1 l0_1.length c0_1, .slice A0_2 l0_2.length c0_2, .slice (a0_3).A (a0_3).n (a0_3).c, .slice A0_4 l0_4.length c0_4, .slice A0_5 l0_5.length c0_5, .int .i64 a0_6, .int .i64 a0_7, .int .i64 a0_8, .int .i64 a0_9, .string a0_10, .int .i64 a0_11, .int .i64 a0_12, .int .i64 a0_13, .bool a0_14] 30 (0, 0)) (by (with_reducible repeat (first | refine blk_drewN ?_ _ | refine blk_drew ?_ | refine blk_alloc ?_ _)); refine blk_far ?_ NB248_255.out _; (with_reducible repeat (first | refine blk_drewN ?_ _ | refine blk_drew ?_ | refine blk_alloc ?_ _)); refine blk_far ?_ NB248_255.out _; (with_reducible repeat (first | refine blk_drewN ?_ _ | refine blk_drew ?_ | refine blk_alloc ?_ _)); refine blk_far ?_ NB248_255.out _; (with_reducible repeat (first | refine blk_drewN ?_ _ | refine blk_drew ?_ | refine blk_alloc ?_ _)); refine blk_far ?_ NB248_255.out _; (with_reducible repeat (first | refine blk_drewN ?_ _ | refine blk_drew ?_ | refine blk_alloc ?_ _)); refine blk_far ?_ NB248_255.out _; (with_reducible repeat (first | refine blk_drewN ?_ _ | refine blk_drew ?_ | refine blk_alloc ?_ _)); exact BK248.out) hb); have n1_ := Aside0.mk (blk_below (g := gb255) (o := .cells #[.string t249, .string t250, .bool true, .bool t252, .bool t253] 42 (0, 0)) (by (with_reducible repeat (first | refine blk_drewN ?_ _ | refine blk_drew ?_ | refine blk_alloc ?_ _)); refine blk_put (cs := #[.string t249, .string t250, .bool true, .bool t252, .bool false]) ?_ 4 _ rfl; (with_reducible repeat (first | refine blk_drewN ?_ _ | refine blk_drew ?_ | refine blk_alloc ?_ _)); refine blk_put (cs := #[.string t249, .string t250, .bool true, .bool false, .bool false]) ?_ 3 _ rfl; (with_reducible repeat (first | refine blk_drewN ?_ _ | refine blk_drew ?_ | refine blk_alloc ?_ _)); refine blk_put (cs := #[.string t249, .string t250, .bool false, .bool false, .bool false]) ?_ 2 _ rfl; (with_reducible repeat (first | refine blk_drewN ?_ _ | refine blk_drew ?_ | refine blk_alloc ?_ _)); refine blk_put (cs := #[.string t249, .string (⟨#[]⟩ : ByteArray), .bool false, .bool false, .bool false]) ?_ 1 _ rfl; (with_reducible repeat (first | refine blk_drewN ?_ _ | refine blk_drew ?_ | refine blk_alloc ?_ _)); refine blk_put (cs := #[.string (⟨#[]⟩ : ByteArray), .string (⟨#[]⟩ : ByteArray), .bool false, .bool false, .bool false]) ?_ 0 _ rfl; (with_reducible repeat (first | refine blk_drewN ?_ _ | refine blk_drew ?_ | refine blk_alloc ?_ _)); exact BK255.out) hb); have n2_ := Aside0.mk (below_step (by repeat (first | (with_reducible first | exact HB.out | apply below_alloc | apply pw_below_drewN | apply below_drew1 | refine below_set ?_ GE248.out | refine below_set ?_ GE255.out) | exact HB.out)) hb); clear BK248; clear BK255; clear HB; have BK248 := n0_; have BK255 := n1_; have HB := n2_; clear n0_ n1_ n2_; (try clear hb); (try clear hb2); (try clear hk); (try clear hi)))
  go_ret
  exact ⟨by first | rfl | (simp [errW_none, errW_some] <;> rfl) | (simp [*, errW_none, errW_some] <;> rfl), by repeat (first | (with_reducible first | exact HB.out | apply below_alloc | apply pw_below_drewN | apply below_drew1 | refine below_set ?_ GE248.out | refine below_set ?_ GE255.out) | exact HB.out)⟩
 ·replace c5 := Bool.eq_false_iff.mpr c5
  subst c5
  have H1 : (some (⟨#[36, 32]⟩ : ByteArray)) = some r := by rw [if_neg (show ¬ (false = true) by decide)] at H; exact H
  clear H
  have H := H1
  clear H1
  obtain rfl := Option.some.inj H
  go_enter Tryd.func12, Tryd.ntmps12
  go_wp2_with (first | ((with_reducible refine gate_dst (N := 3) rfl ?_); refine box_event ?hg (N := 3) ?hd (cs := #[.string a0_0, .slice A0_1 l0_1.length c0_1, .slice A0_2 l0_2.length c0_2, .slice (a0_3).A (a0_3).n (a0_3).c, .slice A0_4 l0_4.length c0_4, .slice A0_5 l0_5.length c0_5, .int .i64 a0_6, .int .i64 a0_7, .int .i64 a0_8, .int .i64 a0_9, .string a0_10, .int .i64 a0_11, .int .i64 a0_12, .int .i64 a0_13, .bool a0_14]) (t := 30) ?hr ?_; (case hd => rfl); (case hg => rfl); (case hr => first | (go_simp; done) | (go_simp; rfl)); intro gb248 hg w15 hbox hb; have n0_ := Aside0.mk (below_step (by repeat (first | (with_reducible first | exact HB.out | apply below_alloc | apply pw_below_drewN | apply below_drew1) | exact HB.out)) hb); have n1_ := Aside0.mk (hbox); have n2_ := Aside0.mk ((by rw [hg]; exact (below_size (by repeat (first | (with_reducible first | exact HB.out | apply below_alloc | apply pw_below_drewN | apply below_drew1) | exact HB.out))) : w.heap.size ≤ gb248)); have n3_ := Aside0.mk ((by rw [hg]; exact (below_size (by repeat (first | (with_reducible first | exact HB.out | apply below_alloc | apply pw_below_drewN | apply below_drew1) | exact HB.out))) : w.heap.size ≤ gb248)); clear HB; have HB := n0_; have BK248 := n1_; have GW248 := n2_; have GE248 := n3_; clear n0_ n1_ n2_ n3_; clear hb hbox hg; have hcz16_0 : w15.cell? ⟨gb248, 0, none⟩ = some (.string a0_0) := (blk_cell BK248.out 0).trans rfl; have hcz16_1 : w15.cell? ⟨gb248, 1, none⟩ = some (.slice A0_1 l0_1.length c0_1) := (blk_cell BK248.out 1).trans rfl; have hcz16_2 : w15.cell? ⟨gb248, 2, none⟩ = some (.slice A0_2 l0_2.length c0_2) := (blk_cell BK248.out 2).trans rfl; have hcz16_3 : w15.cell? ⟨gb248, 3, none⟩ = some (.slice (a0_3).A (a0_3).n (a0_3).c) := (blk_cell BK248.out 3).trans rfl; have hcz16_4 : w15.cell? ⟨gb248, 4, none⟩ = some (.slice A0_4 l0_4.length c0_4) := (blk_cell BK248.out 4).trans rfl; have hcz16_5 : w15.cell? ⟨gb248, 5, none⟩ = some (.slice A0_5 l0_5.length c0_5) := (blk_cell BK248.out 5).trans rfl; have hcz16_6 : w15.cell? ⟨gb248, 6, none⟩ = some (.int .i64 a0_6) := (blk_cell BK248.out 6).trans rfl; have hcz16_7 : w15.cell? ⟨gb248, 7, none⟩ = some (.int .i64 a0_7) := (blk_cell BK248.out 7).trans rfl; have hcz16_8 : w15.cell? ⟨gb248, 8, none⟩ = some (.int .i64 a0_8) := (blk_cell BK248.out 8).trans rfl; have hcz16_9 : w15.cell? ⟨gb248, 9, none⟩ = some (.int .i64 a0_9) := (blk_cell BK248.out 9).trans rfl; have hcz16_10 : w15.cell? ⟨gb248, 10, none⟩ = some (.string a0_10) := (blk_cell BK248.out 10).trans rfl; have hcz16_11 : w15.cell? ⟨gb248, 11, none⟩ = some (.int .i64 a0_11) := (blk_cell BK248.out 11).trans rfl; have hcz16_12 : w15.cell? ⟨gb248, 12, none⟩ = some (.int .i64 a0_12) := (blk_cell BK248.out 12).trans rfl; have hcz16_13 : w15.cell? ⟨gb248, 13, none⟩ = some (.int .i64 a0_13) := (blk_cell BK248.out 13).trans rfl; have hcz16_14 : w15.cell? ⟨gb248, 14, none⟩ = some (.bool a0_14) := (blk_cell BK248.out 14).trans rfl; have hfz16_0 := blk_frozen BK248.out 0; have hfz16_1 := blk_frozen BK248.out 1; have hfz16_2 := blk_frozen BK248.out 2; have hfz16_3 := blk_frozen BK248.out 3; have hfz16_4 := blk_frozen BK248.out 4; have hfz16_5 := blk_frozen BK248.out 5; have hfz16_6 := blk_frozen BK248.out 6; have hfz16_7 := blk_frozen BK248.out 7; have hfz16_8 := blk_frozen BK248.out 8; have hfz16_9 := blk_frozen BK248.out 9; have hfz16_10 := blk_frozen BK248.out 10; have hfz16_11 := blk_frozen BK248.out 11; have hfz16_12 := blk_frozen BK248.out 12; have hfz16_13 := blk_frozen BK248.out 13; have hfz16_14 := blk_frozen BK248.out 14) | ((with_reducible refine gate_callee (f := 26) rfl ?_); refine goesL_ (some 12) rfl rfl Tryd.func26 (by kernel_rfl) rfl #[.slice A0_1 l0_1.length c0_1, .string (⟨#[80, 83, 49]⟩ : ByteArray)] rfl (by (try simp only [List.map_toArray, List.map_cons, List.map_nil]); first | done | rfl | (simp only [List.length_drop, List.length_take]; rfl)) ?_; (with_reducible refine (vars_Get.calls k _ _ l0_1 (⟨#[80, 83, 49]⟩ : ByteArray) t249 t250 false t252 t253 t254 _ ?side1 ?side2 A4.out).mono ?_); (case side1 => repeat (first | exact (Kd.C_below HR0_1.out HB.out) | (with_reducible refine Kd.C_alloc ?_ _) | (with_reducible refine Kd.C_drewN ?_ _) | (with_reducible refine Kd.C_drew ?_))); (case side2 => exact HC0_1.out); rintro e w17 ⟨rfl, hb⟩; refine ⟨_, rfl, ?_⟩; have n0_ := Aside0.mk (blk_below (g := gb248) (o := .cells #[.string a0_0, .slice A0_1 l0_1.length c0_1, .slice A0_2 l0_2.length c0_2, .slice (a0_3).A (a0_3).n (a0_3).c, .slice A0_4 l0_4.length c0_4, .slice A0_5 l0_5.length c0_5, .int .i64 a0_6, .int .i64 a0_7, .int .i64 a0_8, .int .i64 a0_9, .string a0_10, .int .i64 a0_11, .int .i64 a0_12, .int .i64 a0_13, .bool a0_14] 30 (0, 0)) (by (with_reducible repeat (first | refine blk_drewN ?_ _ | refine blk_drew ?_ | refine blk_alloc ?_ _)); exact BK248.out) hb); have n1_ := Aside0.mk (below_step (by repeat (first | (with_reducible first | exact HB.out | apply below_alloc | apply pw_below_drewN | apply below_drew1 | refine below_set ?_ GE248.out) | exact HB.out)) hb); clear BK248; clear HB; have BK248 := n0_; have HB := n1_; clear n0_ n1_; (try clear hb); (try clear hb2); (try clear hk); (try clear hi)) | ((with_reducible refine gate_dst (N := 7) rfl ?_); refine box_event ?hg (N := 7) ?hd (cs := #[.string (⟨#[]⟩ : ByteArray), .string (⟨#[]⟩ : ByteArray), .bool false, .bool false, .bool false]) (t := 42) ?hr ?_; (case hd => rfl); (case hg => rfl); (case hr => first | (go_simp; done) | (go_simp; rfl)); intro gb255 hg w18 hbox hb; have n0_ := Aside0.mk (blk_below (g := gb248) (o := .cells #[.string a0_0, .slice A0_1 l0_1.length c0_1, .slice A0_2 l0_2.length c0_2, .slice (a0_3).A (a0_3).n (a0_3).c, .slice A0_4 l0_4.length c0_4, .slice A0_5 l0_5.length c0_5, .int .i64 a0_6, .int .i64 a0_7, .int .i64 a0_8, .int .i64 a0_9, .string a0_10, .int .i64 a0_11, .int .i64 a0_12, .int .i64 a0_13, .bool a0_14] 30 (0, 0)) (by (with_reducible repeat (first | refine blk_drewN ?_ _ | refine blk_drew ?_ | refine blk_alloc ?_ _)); exact BK248.out) hb); have n1_ := Aside0.mk (below_step (by repeat (first | (with_reducible first | exact HB.out | apply below_alloc | apply pw_below_drewN | apply below_drew1 | refine below_set ?_ GE248.out) | exact HB.out)) hb); have n2_ := Aside0.mk (hbox); have n3_ := Aside0.mk ((by rw [hg]; exact (below_size (by repeat (first | (with_reducible first | exact HB.out | apply below_alloc | apply pw_below_drewN | apply below_drew1 | refine below_set ?_ GE248.out) | exact HB.out))) : w.heap.size ≤ gb255)); have n4_ := Aside0.mk ((by rw [hg]; exact (below_size (by repeat (first | (with_reducible first | exact HB.out | apply below_alloc | apply pw_below_drewN | apply below_drew1 | refine below_set ?_ GE248.out) | exact HB.out))) : w.heap.size ≤ gb255)); have n5_ := Aside0.mk ((by rw [hg]; exact Nat.ne_of_lt (blk_lt (g := gb248) (o := .cells #[.string a0_0, .slice A0_1 l0_1.length c0_1, .slice A0_2 l0_2.length c0_2, .slice (a0_3).A (a0_3).n (a0_3).c, .slice A0_4 l0_4.length c0_4, .slice A0_5 l0_5.length c0_5, .int .i64 a0_6, .int .i64 a0_7, .int .i64 a0_8, .int .i64 a0_9, .string a0_10, .int .i64 a0_11, .int .i64 a0_12, .int .i64 a0_13, .bool a0_14] 30 (0, 0)) (by (with_reducible repeat (first | refine blk_drewN ?_ _ | refine blk_drew ?_ | refine blk_alloc ?_ _)); exact BK248.out)) : gb248 ≠ gb255)); have n6_ := Aside0.mk ((by rw [hg]; exact Nat.ne_of_gt (blk_lt (g := gb248) (o := .cells #[.string a0_0, .slice A0_1 l0_1.length c0_1, .slice A0_2 l0_2.length c0_2, .slice (a0_3).A (a0_3).n (a0_3).c, .slice A0_4 l0_4.length c0_4, .slice A0_5 l0_5.length c0_5, .int .i64 a0_6, .int .i64 a0_7, .int .i64 a0_8, .int .i64 a0_9, .string a0_10, .int .i64 a0_11, .int .i64 a0_12, .int .i64 a0_13, .bool a0_14] 30 (0, 0)) (by (with_reducible repeat (first | refine blk_drewN ?_ _ | refine blk_drew ?_ | refine blk_alloc ?_ _)); exact BK248.out)) : gb255 ≠ gb248)); clear BK248; clear HB; have BK248 := n0_; have HB := n1_; have BK255 := n2_; have GW255 := n3_; have GE255 := n4_; have NB248_255 := n5_; have NB255_248 := n6_; clear n0_ n1_ n2_ n3_ n4_ n5_ n6_; clear hb hbox hg; have hnb19 := NB255_248.out; have hnc19 := NB248_255.out; have hcz20_0 : w18.cell? ⟨gb255, 0, none⟩ = some (.string (⟨#[]⟩ : ByteArray)) := (blk_cell BK255.out 0).trans rfl; have hcz20_1 : w18.cell? ⟨gb255, 1, none⟩ = some (.string (⟨#[]⟩ : ByteArray)) := (blk_cell BK255.out 1).trans rfl; have hcz20_2 : w18.cell? ⟨gb255, 2, none⟩ = some (.bool false) := (blk_cell BK255.out 2).trans rfl; have hcz20_3 : w18.cell? ⟨gb255, 3, none⟩ = some (.bool false) := (blk_cell BK255.out 3).trans rfl; have hcz20_4 : w18.cell? ⟨gb255, 4, none⟩ = some (.bool false) := (blk_cell BK255.out 4).trans rfl; have hfz20_0 := blk_frozen BK255.out 0; have hfz20_1 := blk_frozen BK255.out 1; have hfz20_2 := blk_frozen BK255.out 2; have hfz20_3 := blk_frozen BK255.out 3; have hfz20_4 := blk_frozen BK255.out 4))
  go_ret
  exact ⟨by first | rfl | (simp [errW_none, errW_some] <;> rfl) | (simp [*, errW_none, errW_some] <;> rfl), by repeat (first | (with_reducible first | exact HB.out | apply below_alloc | apply pw_below_drewN | apply below_drew1 | refine below_set ?_ GE248.out | refine below_set ?_ GE255.out) | exact HB.out)⟩
end Go.Proofs.YtiacdccnifjcjaaDoor.F
namespace Go.Proofs.YtiacdccnifjcjaaDoor.F
open Go.RowKit Go.Proofs.YtiacdccnifjcjaaDoorW.PrintWords Go.Proofs.YtiacdccnifjcjaaDoorW.PrintLast Go.Proofs.YtiacdccnifjcjaaDoorW.PrintMore
attribute [local go_sem] max2_int min2_int max_two min_two max_three min_three max_four min_four
set_option linter.unusedVariables false
set_option linter.unusedSimpArgs false
def prompt_Second.f (k : Nat) (a0_0 : ByteArray) (l0_1 : List (S_Var)) (l0_2 : List ByteArray) (a0_3 : Opq) (l0_4 : List (S_Alias)) (l0_5 : List (S_Trap)) (a0_6 : Int) (a0_7 : Int) (a0_8 : Int) (a0_9 : Int) (a0_10 : ByteArray) (a0_11 : Int) (a0_12 : Int) (a0_13 : Int) (a0_14 : Bool) : Option (ByteArray) := (vars_Get.f k l0_1 (⟨#[80, 83, 50]⟩ : ByteArray)).bind fun bt258 => (if bt258.2.2.1 = true then ((prompt_Expand.f k a0_0 l0_1 l0_2 a0_3 l0_4 l0_5 a0_6 a0_7 a0_8 a0_9 a0_10 a0_11 a0_12 a0_13 a0_14 bt258.2.1 0 0).bind fun t265 => (some t265)) else (some (⟨#[62, 32]⟩ : ByteArray)))
theorem prompt_Second.mono : ∀ a0 a1 a2 a3 a4 a5 a6 a7 a8 a9 a10 a11 a12 a13 a14 k, LeO (prompt_Second.f k a0 a1 a2 a3 a4 a5 a6 a7 a8 a9 a10 a11 a12 a13 a14) (prompt_Second.f (k + 1) a0 a1 a2 a3 a4 a5 a6 a7 a8 a9 a10 a11 a12 a13 a14) := by
 intro a0 a1 a2 a3 a4 a5 a6 a7 a8 a9 a10 a11 a12 a13 a14 k
 unfold prompt_Second.f
 repeat' first
   | (with_reducible exact prompt_Expand.mono _ _ _ _ _ _ _ _ _ _ _ _ _ _ _ _ _ _ _)
   | (with_reducible exact vars_Get.mono _ _ _)
   | (with_reducible exact LeO.refl _)
   | (with_reducible exact LeO.none _)
   | (with_reducible refine LeO.ite ?_ ?_)
   | (with_reducible refine LeO.bind ?_ (fun _ => ?_))
   | exact prompt_Expand.mono _ _ _ _ _ _ _ _ _ _ _ _ _ _ _ _ _ _ _
   | exact vars_Get.mono _ _ _
   | exact LeO.none _
   | refine LeO.ite ?_ ?_
   | refine LeO.bind ?_ (fun _ => ?_)
set_option maxHeartbeats 8000000 in
set_option maxRecDepth 100000 in
theorem prompt_Second.calls (k : Nat) (a0_0 : ByteArray) (A0_1 : Option Addr) (c0_1 : Nat) (l0_1 : List (S_Var)) (A0_2 : Option Addr) (c0_2 : Nat) (l0_2 : List ByteArray) (a0_3 : Opq) (A0_4 : Option Addr) (c0_4 : Nat) (l0_4 : List (S_Alias)) (A0_5 : Option Addr) (c0_5 : Nat) (l0_5 : List (S_Trap)) (a0_6 : Int) (a0_7 : Int) (a0_8 : Int) (a0_9 : Int) (a0_10 : ByteArray) (a0_11 : Int) (a0_12 : Int) (a0_13 : Int) (a0_14 : Bool) (r : ByteArray) (w : World) (hr0_1 : Kd.C k_Var w A0_1 l0_1.length l0_1) (hc0_1 : l0_1.length ≤ c0_1) (hr0_2 : Kd.C Kd.string w A0_2 l0_2.length l0_2) (hc0_2 : l0_2.length ≤ c0_2) (hr0_4 : Kd.C k_Alias w A0_4 l0_4.length l0_4) (hc0_4 : l0_4.length ≤ c0_4) (hr0_5 : Kd.C k_Trap w A0_5 l0_5.length l0_5) (hc0_5 : l0_5.length ≤ c0_5) (hamb : AmbC w) (h : prompt_Second.f k a0_0 l0_1 l0_2 a0_3 l0_4 l0_5 a0_6 a0_7 a0_8 a0_9 a0_10 a0_11 a0_12 a0_13 a0_14 = some r) :
  Calls Tryd.prog 14 #[.agg #[.string a0_0, .slice A0_1 l0_1.length c0_1, .slice A0_2 l0_2.length c0_2, .slice (a0_3).A (a0_3).n (a0_3).c, .slice A0_4 l0_4.length c0_4, .slice A0_5 l0_5.length c0_5, .int .i64 a0_6, .int .i64 a0_7, .int .i64 a0_8, .int .i64 a0_9, .string a0_10, .int .i64 a0_11, .int .i64 a0_12, .int .i64 a0_13, .bool a0_14]] w fun e w' => e = .returned (.string r) ∧ Below w.heap.size w w' := by
 have hu30 := Tryd.underlying30
 have hu42 := Tryd.underlying42
 have HAMB := Aside0.mk hamb
 clear hamb
 have HR0_1 := Aside0.mk hr0_1
 have HC0_1 := Aside0.mk hc0_1
 clear hr0_1 hc0_1
 have HR0_2 := Aside0.mk hr0_2
 have HC0_2 := Aside0.mk hc0_2
 clear hr0_2 hc0_2
 have HR0_4 := Aside0.mk hr0_4
 have HC0_4 := Aside0.mk hc0_4
 clear hr0_4 hc0_4
 have HR0_5 := Aside0.mk hr0_5
 have HC0_5 := Aside0.mk hc0_5
 clear hr0_5 hc0_5
 have HB := Aside0.mk (Below.refl w.heap.size w)
 have H : ((vars_Get.f k l0_1 (⟨#[80, 83, 50]⟩ : ByteArray)).bind fun bt258 => (if bt258.2.2.1 = true then ((prompt_Expand.f k a0_0 l0_1 l0_2 a0_3 l0_4 l0_5 a0_6 a0_7 a0_8 a0_9 a0_10 a0_11 a0_12 a0_13 a0_14 bt258.2.1 0 0).bind fun t265 => (some t265)) else (some (⟨#[62, 32]⟩ : ByteArray)))) = some r := h
 clear h
 replace H := Option.bind_eq_some_iff.mp H
 obtain ⟨⟨t258, t259, t260, t261, t262, t263⟩, A20, H⟩ := H
 replace H : (if t260 = true then ((prompt_Expand.f k a0_0 l0_1 l0_2 a0_3 l0_4 l0_5 a0_6 a0_7 a0_8 a0_9 a0_10 a0_11 a0_12 a0_13 a0_14 t259 0 0).bind fun t265 => (some t265)) else (some (⟨#[62, 32]⟩ : ByteArray))) = some r := H
 have A2 := Aside0.mk A20
 clear A20
 by_cases c3 : t260 = true
 ·subst c3
  have H1 : ((prompt_Expand.f k a0_0 l0_1 l0_2 a0_3 l0_4 l0_5 a0_6 a0_7 a0_8 a0_9 a0_10 a0_11 a0_12 a0_13 a0_14 t259 0 0).bind fun t265 => (some t265)) = some r := by rw [if_pos rfl] at H; exact H
  clear H
  have H := H1
  clear H1
  replace H := Option.bind_eq_some_iff.mp H
  obtain ⟨t265, A40, H⟩ := H
  replace H : (some t265) = some r := H
  have A4 := Aside0.mk A40
  clear A40
  obtain rfl := Option.some.inj H
  go_enter Tryd.func14, Tryd.ntmps14
  go_wp2_with (first | ((with_reducible refine gate_dst (N := 1) rfl ?_); refine box_event ?hg (N := 1) ?hd (cs := #[.string a0_0, .slice A0_1 l0_1.length c0_1, .slice A0_2 l0_2.length c0_2, .slice (a0_3).A (a0_3).n (a0_3).c, .slice A0_4 l0_4.length c0_4, .slice A0_5 l0_5.length c0_5, .int .i64 a0_6, .int .i64 a0_7, .int .i64 a0_8, .int .i64 a0_9, .string a0_10, .int .i64 a0_11, .int .i64 a0_12, .int .i64 a0_13, .bool a0_14]) (t := 30) ?hr ?_; (case hd => rfl); (case hg => rfl); (case hr => first | (go_simp; done) | (go_simp; rfl)); intro gb257 hg w5 hbox hb; have n0_ := Aside0.mk (below_step (by repeat (first | (with_reducible first | exact HB.out | apply below_alloc | apply pw_below_drewN | apply below_drew1) | exact HB.out)) hb); have n1_ := Aside0.mk (hbox); have n2_ := Aside0.mk ((by rw [hg]; exact (below_size (by repeat (first | (with_reducible first | exact HB.out | apply below_alloc | apply pw_below_drewN | apply below_drew1) | exact HB.out))) : w.heap.size ≤ gb257)); have n3_ := Aside0.mk ((by rw [hg]; exact (below_size (by repeat (first | (with_reducible first | exact HB.out | apply below_alloc | apply pw_below_drewN | apply below_drew1) | exact HB.out))) : w.heap.size ≤ gb257)); clear HB; have HB := n0_; have BK257 := n1_; have GW257 := n2_; have GE257 := n3_; clear n0_ n1_ n2_ n3_; clear hb hbox hg; have hcz6_0 : w5.cell? ⟨gb257, 0, none⟩ = some (.string a0_0) := (blk_cell BK257.out 0).trans rfl; have hcz6_1 : w5.cell? ⟨gb257, 1, none⟩ = some (.slice A0_1 l0_1.length c0_1) := (blk_cell BK257.out 1).trans rfl; have hcz6_2 : w5.cell? ⟨gb257, 2, none⟩ = some (.slice A0_2 l0_2.length c0_2) := (blk_cell BK257.out 2).trans rfl; have hcz6_3 : w5.cell? ⟨gb257, 3, none⟩ = some (.slice (a0_3).A (a0_3).n (a0_3).c) := (blk_cell BK257.out 3).trans rfl; have hcz6_4 : w5.cell? ⟨gb257, 4, none⟩ = some (.slice A0_4 l0_4.length c0_4) := (blk_cell BK257.out 4).trans rfl; have hcz6_5 : w5.cell? ⟨gb257, 5, none⟩ = some (.slice A0_5 l0_5.length c0_5) := (blk_cell BK257.out 5).trans rfl; have hcz6_6 : w5.cell? ⟨gb257, 6, none⟩ = some (.int .i64 a0_6) := (blk_cell BK257.out 6).trans rfl; have hcz6_7 : w5.cell? ⟨gb257, 7, none⟩ = some (.int .i64 a0_7) := (blk_cell BK257.out 7).trans rfl; have hcz6_8 : w5.cell? ⟨gb257, 8, none⟩ = some (.int .i64 a0_8) := (blk_cell BK257.out 8).trans rfl; have hcz6_9 : w5.cell? ⟨gb257, 9, none⟩ = some (.int .i64 a0_9) := (blk_cell BK257.out 9).trans rfl; have hcz6_10 : w5.cell? ⟨gb257, 10, none⟩ = some (.string a0_10) := (blk_cell BK257.out 10).trans rfl; have hcz6_11 : w5.cell? ⟨gb257, 11, none⟩ = some (.int .i64 a0_11) := (blk_cell BK257.out 11).trans rfl; have hcz6_12 : w5.cell? ⟨gb257, 12, none⟩ = some (.int .i64 a0_12) := (blk_cell BK257.out 12).trans rfl; have hcz6_13 : w5.cell? ⟨gb257, 13, none⟩ = some (.int .i64 a0_13) := (blk_cell BK257.out 13).trans rfl; have hcz6_14 : w5.cell? ⟨gb257, 14, none⟩ = some (.bool a0_14) := (blk_cell BK257.out 14).trans rfl; have hfz6_0 := blk_frozen BK257.out 0; have hfz6_1 := blk_frozen BK257.out 1; have hfz6_2 := blk_frozen BK257.out 2; have hfz6_3 := blk_frozen BK257.out 3; have hfz6_4 := blk_frozen BK257.out 4; have hfz6_5 := blk_frozen BK257.out 5; have hfz6_6 := blk_frozen BK257.out 6; have hfz6_7 := blk_frozen BK257.out 7; have hfz6_8 := blk_frozen BK257.out 8; have hfz6_9 := blk_frozen BK257.out 9; have hfz6_10 := blk_frozen BK257.out 10; have hfz6_11 := blk_frozen BK257.out 11; have hfz6_12 := blk_frozen BK257.out 12; have hfz6_13 := blk_frozen BK257.out 13; have hfz6_14 := blk_frozen BK257.out 14) | ((with_reducible refine gate_callee (f := 26) rfl ?_); refine goesL_ (some 8) rfl rfl Tryd.func26 (by kernel_rfl) rfl #[.slice A0_1 l0_1.length c0_1, .string (⟨#[80, 83, 50]⟩ : ByteArray)] rfl (by (try simp only [List.map_toArray, List.map_cons, List.map_nil]); first | done | rfl | (simp only [List.length_drop, List.length_take]; rfl)) ?_; (with_reducible refine (vars_Get.calls k _ _ l0_1 (⟨#[80, 83, 50]⟩ : ByteArray) t258 t259 true t261 t262 t263 _ ?side1 ?side2 A2.out).mono ?_); (case side1 => repeat (first | exact (Kd.C_below HR0_1.out HB.out) | (with_reducible refine Kd.C_alloc ?_ _) | (with_reducible refine Kd.C_drewN ?_ _) | (with_reducible refine Kd.C_drew ?_))); (case side2 => exact HC0_1.out); rintro e w7 ⟨rfl, hb⟩; refine ⟨_, rfl, ?_⟩; have n0_ := Aside0.mk (blk_below (g := gb257) (o := .cells #[.string a0_0, .slice A0_1 l0_1.length c0_1, .slice A0_2 l0_2.length c0_2, .slice (a0_3).A (a0_3).n (a0_3).c, .slice A0_4 l0_4.length c0_4, .slice A0_5 l0_5.length c0_5, .int .i64 a0_6, .int .i64 a0_7, .int .i64 a0_8, .int .i64 a0_9, .string a0_10, .int .i64 a0_11, .int .i64 a0_12, .int .i64 a0_13, .bool a0_14] 30 (0, 0)) (by (with_reducible repeat (first | refine blk_drewN ?_ _ | refine blk_drew ?_ | refine blk_alloc ?_ _)); exact BK257.out) hb); have n1_ := Aside0.mk (below_step (by repeat (first | (with_reducible first | exact HB.out | apply below_alloc | apply pw_below_drewN | apply below_drew1 | refine below_set ?_ GE257.out) | exact HB.out)) hb); clear BK257; clear HB; have BK257 := n0_; have HB := n1_; clear n0_ n1_; (try clear hb); (try clear hb2); (try clear hk); (try clear hi)) | ((with_reducible refine gate_dst (N := 3) rfl ?_); refine box_event ?hg (N := 3) ?hd (cs := #[.string (⟨#[]⟩ : ByteArray), .string (⟨#[]⟩ : ByteArray), .bool false, .bool false, .bool false]) (t := 42) ?hr ?_; (case hd => rfl); (case hg => rfl); (case hr => first | (go_simp; done) | (go_simp; rfl)); intro gb264 hg w8 hbox hb; have n0_ := Aside0.mk (blk_below (g := gb257) (o := .cells #[.string a0_0, .slice A0_1 l0_1.length c0_1, .slice A0_2 l0_2.length c0_2, .slice (a0_3).A (a0_3).n (a0_3).c, .slice A0_4 l0_4.length c0_4, .slice A0_5 l0_5.length c0_5, .int .i64 a0_6, .int .i64 a0_7, .int .i64 a0_8, .int .i64 a0_9, .string a0_10, .int .i64 a0_11, .int .i64 a0_12, .int .i64 a0_13, .bool a0_14] 30 (0, 0)) (by (with_reducible repeat (first | refine blk_drewN ?_ _ | refine blk_drew ?_ | refine blk_alloc ?_ _)); exact BK257.out) hb); have n1_ := Aside0.mk (below_step (by repeat (first | (with_reducible first | exact HB.out | apply below_alloc | apply pw_below_drewN | apply below_drew1 | refine below_set ?_ GE257.out) | exact HB.out)) hb); have n2_ := Aside0.mk (hbox); have n3_ := Aside0.mk ((by rw [hg]; exact (below_size (by repeat (first | (with_reducible first | exact HB.out | apply below_alloc | apply pw_below_drewN | apply below_drew1 | refine below_set ?_ GE257.out) | exact HB.out))) : w.heap.size ≤ gb264)); have n4_ := Aside0.mk ((by rw [hg]; exact (below_size (by repeat (first | (with_reducible first | exact HB.out | apply below_alloc | apply pw_below_drewN | apply below_drew1 | refine below_set ?_ GE257.out) | exact HB.out))) : w.heap.size ≤ gb264)); have n5_ := Aside0.mk ((by rw [hg]; exact Nat.ne_of_lt (blk_lt (g := gb257) (o := .cells #[.string a0_0, .slice A0_1 l0_1.length c0_1, .slice A0_2 l0_2.length c0_2, .slice (a0_3).A (a0_3).n (a0_3).c, .slice A0_4 l0_4.length c0_4, .slice A0_5 l0_5.length c0_5, .int .i64 a0_6, .int .i64 a0_7, .int .i64 a0_8, .int .i64 a0_9, .string a0_10, .int .i64 a0_11, .int .i64 a0_12, .int .i64 a0_13, .bool a0_14] 30 (0, 0)) (by (with_reducible repeat (first | refine blk_drewN ?_ _ | refine blk_drew ?_ | refine blk_alloc ?_ _)); exact BK257.out)) : gb257 ≠ gb264)); have n6_ := Aside0.mk ((by rw [hg]; exact Nat.ne_of_gt (blk_lt (g := gb257) (o := .cells #[.string a0_0, .slice A0_1 l0_1.length c0_1, .slice A0_2 l0_2.length c0_2, .slice (a0_3).A (a0_3).n (a0_3).c, .slice A0_4 l0_4.length c0_4, .slice A0_5 l0_5.length c0_5, .int .i64 a0_6, .int .i64 a0_7, .int .i64 a0_8, .int .i64 a0_9, .string a0_10, .int .i64 a0_11, .int .i64 a0_12, .int .i64 a0_13, .bool a0_14] 30 (0, 0)) (by (with_reducible repeat (first | refine blk_drewN ?_ _ | refine blk_drew ?_ | refine blk_alloc ?_ _)); exact BK257.out)) : gb264 ≠ gb257)); clear BK257; clear HB; have BK257 := n0_; have HB := n1_; have BK264 := n2_; have GW264 := n3_; have GE264 := n4_; have NB257_264 := n5_; have NB264_257 := n6_; clear n0_ n1_ n2_ n3_ n4_ n5_ n6_; clear hb hbox hg; have hnb9 := NB264_257.out; have hnc9 := NB257_264.out; have hcz10_0 : w8.cell? ⟨gb264, 0, none⟩ = some (.string (⟨#[]⟩ : ByteArray)) := (blk_cell BK264.out 0).trans rfl; have hcz10_1 : w8.cell? ⟨gb264, 1, none⟩ = some (.string (⟨#[]⟩ : ByteArray)) := (blk_cell BK264.out 1).trans rfl; have hcz10_2 : w8.cell? ⟨gb264, 2, none⟩ = some (.bool false) := (blk_cell BK264.out 2).trans rfl; have hcz10_3 : w8.cell? ⟨gb264, 3, none⟩ = some (.bool false) := (blk_cell BK264.out 3).trans rfl; have hcz10_4 : w8.cell? ⟨gb264, 4, none⟩ = some (.bool false) := (blk_cell BK264.out 4).trans rfl; have hfz10_0 := blk_frozen BK264.out 0; have hfz10_1 := blk_frozen BK264.out 1; have hfz10_2 := blk_frozen BK264.out 2; have hfz10_3 := blk_frozen BK264.out 3; have hfz10_4 := blk_frozen BK264.out 4; have hcz11_0 : w8.cell? ⟨gb257, 0, none⟩ = some (.string a0_0) := (blk_cell BK257.out 0).trans rfl; have hcz11_1 : w8.cell? ⟨gb257, 1, none⟩ = some (.slice A0_1 l0_1.length c0_1) := (blk_cell BK257.out 1).trans rfl; have hcz11_2 : w8.cell? ⟨gb257, 2, none⟩ = some (.slice A0_2 l0_2.length c0_2) := (blk_cell BK257.out 2).trans rfl; have hcz11_3 : w8.cell? ⟨gb257, 3, none⟩ = some (.slice (a0_3).A (a0_3).n (a0_3).c) := (blk_cell BK257.out 3).trans rfl; have hcz11_4 : w8.cell? ⟨gb257, 4, none⟩ = some (.slice A0_4 l0_4.length c0_4) := (blk_cell BK257.out 4).trans rfl; have hcz11_5 : w8.cell? ⟨gb257, 5, none⟩ = some (.slice A0_5 l0_5.length c0_5) := (blk_cell BK257.out 5).trans rfl; have hcz11_6 : w8.cell? ⟨gb257, 6, none⟩ = some (.int .i64 a0_6) := (blk_cell BK257.out 6).trans rfl; have hcz11_7 : w8.cell? ⟨gb257, 7, none⟩ = some (.int .i64 a0_7) := (blk_cell BK257.out 7).trans rfl; have hcz11_8 : w8.cell? ⟨gb257, 8, none⟩ = some (.int .i64 a0_8) := (blk_cell BK257.out 8).trans rfl; have hcz11_9 : w8.cell? ⟨gb257, 9, none⟩ = some (.int .i64 a0_9) := (blk_cell BK257.out 9).trans rfl; have hcz11_10 : w8.cell? ⟨gb257, 10, none⟩ = some (.string a0_10) := (blk_cell BK257.out 10).trans rfl; have hcz11_11 : w8.cell? ⟨gb257, 11, none⟩ = some (.int .i64 a0_11) := (blk_cell BK257.out 11).trans rfl; have hcz11_12 : w8.cell? ⟨gb257, 12, none⟩ = some (.int .i64 a0_12) := (blk_cell BK257.out 12).trans rfl; have hcz11_13 : w8.cell? ⟨gb257, 13, none⟩ = some (.int .i64 a0_13) := (blk_cell BK257.out 13).trans rfl; have hcz11_14 : w8.cell? ⟨gb257, 14, none⟩ = some (.bool a0_14) := (blk_cell BK257.out 14).trans rfl; have hfz11_0 := blk_frozen BK257.out 0; have hfz11_1 := blk_frozen BK257.out 1; have hfz11_2 := blk_frozen BK257.out 2; have hfz11_3 := blk_frozen BK257.out 3; have hfz11_4 := blk_frozen BK257.out 4; have hfz11_5 := blk_frozen BK257.out 5; have hfz11_6 := blk_frozen BK257.out 6; have hfz11_7 := blk_frozen BK257.out 7; have hfz11_8 := blk_frozen BK257.out 8; have hfz11_9 := blk_frozen BK257.out 9; have hfz11_10 := blk_frozen BK257.out 10; have hfz11_11 := blk_frozen BK257.out 11; have hfz11_12 := blk_frozen BK257.out 12; have hfz11_13 := blk_frozen BK257.out 13; have hfz11_14 := blk_frozen BK257.out 14) | ((with_reducible refine gate_callee (f := 9) rfl ?_); refine goesL_ (some 16) rfl rfl Tryd.func9 (by kernel_rfl) rfl #[.agg #[.string a0_0, .slice A0_1 l0_1.length c0_1, .slice A0_2 l0_2.length c0_2, .slice (a0_3).A (a0_3).n (a0_3).c, .slice A0_4 l0_4.length c0_4, .slice A0_5 l0_5.length c0_5, .int .i64 a0_6, .int .i64 a0_7, .int .i64 a0_8, .int .i64 a0_9, .string a0_10, .int .i64 a0_11, .int .i64 a0_12, .int .i64 a0_13, .bool a0_14], .string t259, .int .i64 0, .int .i64 0] rfl (by (try simp only [List.map_toArray, List.map_cons, List.map_nil]); first | done | rfl | (simp only [List.length_drop, List.length_take]; rfl)) ?_; (with_reducible refine (prompt_Expand.calls k a0_0 _ _ l0_1 _ _ l0_2 a0_3 _ _ l0_4 _ _ l0_5 a0_6 a0_7 a0_8 a0_9 a0_10 a0_11 a0_12 a0_13 a0_14 t259 0 0 t265 _ ?side1 ?side2 ?side3 ?side4 ?side5 ?side6 ?side7 ?side8 ?side9 A4.out).mono ?_); (case side1 => exact Kd.C_below HR0_1.out (by repeat (first | (with_reducible first | exact HB.out | apply below_alloc | apply pw_below_drewN | apply below_drew1 | refine below_set ?_ GE257.out | refine below_set ?_ GE264.out) | exact HB.out))); (case side2 => exact HC0_1.out); (case side3 => exact Kd.C_below HR0_2.out (by repeat (first | (with_reducible first | exact HB.out | apply below_alloc | apply pw_below_drewN | apply below_drew1 | refine below_set ?_ GE257.out | refine below_set ?_ GE264.out) | exact HB.out))); (case side4 => exact HC0_2.out); (case side5 => exact Kd.C_below HR0_4.out (by repeat (first | (with_reducible first | exact HB.out | apply below_alloc | apply pw_below_drewN | apply below_drew1 | refine below_set ?_ GE257.out | refine below_set ?_ GE264.out) | exact HB.out))); (case side6 => exact HC0_4.out); (case side7 => exact Kd.C_below HR0_5.out (by repeat (first | (with_reducible first | exact HB.out | apply below_alloc | apply pw_below_drewN | apply below_drew1 | refine below_set ?_ GE257.out | refine below_set ?_ GE264.out) | exact HB.out))); (case side8 => exact HC0_5.out); (case side9 => exact AmbC_below HAMB.out (by repeat (first | (with_reducible first | exact HB.out | apply below_alloc | apply pw_below_drewN | apply below_drew1 | refine below_set ?_ GE257.out | refine below_set ?_ GE264.out) | exact HB.out))); rintro e w12 ⟨rfl, hb⟩; refine ⟨_, rfl, ?_⟩; have n0_ := Aside0.mk (blk_below (g := gb257) (o := .cells #[.string a0_0, .slice A0_1 l0_1.length c0_1, .slice A0_2 l0_2.length c0_2, .slice (a0_3).A (a0_3).n (a0_3).c, .slice A0_4 l0_4.length c0_4, .slice A0_5 l0_5.length c0_5, .int .i64 a0_6, .int .i64 a0_7, .int .i64 a0_8, .int .i64 a0_9, .string a0_10, .int .i64 a0_11, .int .i64 a0_12, .int .i64 a0_13, .bool a0_14] 30 (0, 0)) (by (with_reducible repeat (first | refine blk_drewN ?_ _ | refine blk_drew ?_ | refine blk_alloc ?_ _)); refine blk_far ?_ NB257_264.out _; (with_reducible repeat (first | refine blk_drewN ?_ _ | refine blk_drew ?_ | refine blk_alloc ?_ _)); refine blk_far ?_ NB257_264.out _; (with_reducible repeat (first | refine blk_drewN ?_ _ | refine blk_drew ?_ | refine blk_alloc ?_ _)); refine blk_far ?_ NB257_264.out _; (with_reducible repeat (first | refine blk_drewN ?_ _ | refine blk_drew ?_ | refine blk_alloc ?_ _)); refine blk_far ?_ NB257_264.out _; (with_reducible repeat (first | refine blk_drewN ?_ _ | refine blk_drew ?_ | refine blk_alloc ?_ _)); refine blk_far ?_ NB257_264.out _; (with_reducible repeat (first | refine blk_drewN ?_ _ | refine blk_drew ?_ | refine blk_alloc ?_ _)); exact BK257.out) hb); have n1_ := Aside0.mk (blk_below (g := gb264) (o := .cells #[.string t258, .string t259, .bool true, .bool t261, .bool t262] 42 (0, 0)) (by (with_reducible repeat (first | refine blk_drewN ?_ _ | refine blk_drew ?_ | refine blk_alloc ?_ _)); refine blk_put (cs := #[.string t258, .string t259, .bool true, .bool t261, .bool false]) ?_ 4 _ rfl; (with_reducible repeat (first | refine blk_drewN ?_ _ | refine blk_drew ?_ | refine blk_alloc ?_ _)); refine blk_put (cs := #[.string t258, .string t259, .bool true, .bool false, .bool false]) ?_ 3 _ rfl; (with_reducible repeat (first | refine blk_drewN ?_ _ | refine blk_drew ?_ | refine blk_alloc ?_ _)); refine blk_put (cs := #[.string t258, .string t259, .bool false, .bool false, .bool false]) ?_ 2 _ rfl; (with_reducible repeat (first | refine blk_drewN ?_ _ | refine blk_drew ?_ | refine blk_alloc ?_ _)); refine blk_put (cs := #[.string t258, .string (⟨#[]⟩ : ByteArray), .bool false, .bool false, .bool false]) ?_ 1 _ rfl; (with_reducible repeat (first | refine blk_drewN ?_ _ | refine blk_drew ?_ | refine blk_alloc ?_ _)); refine blk_put (cs := #[.string (⟨#[]⟩ : ByteArray), .string (⟨#[]⟩ : ByteArray), .bool false, .bool false, .bool false]) ?_ 0 _ rfl; (with_reducible repeat (first | refine blk_drewN ?_ _ | refine blk_drew ?_ | refine blk_alloc ?_ _)); exact BK264.out) hb); have n2_ := Aside0.mk (below_step (by repeat (first | (with_reducible first | exact HB.out | apply below_alloc | apply pw_below_drewN | apply below_drew1 | refine below_set ?_ GE257.out | refine below_set ?_ GE264.out) | exact HB.out)) hb); clear BK257; clear BK264; clear HB; have BK257 := n0_; have BK264 := n1_; have HB := n2_; clear n0_ n1_ n2_; (try clear hb); (try clear hb2); (try clear hk); (try clear hi)))
  go_ret
  exact ⟨by first | rfl | (simp [errW_none, errW_some] <;> rfl) | (simp [*, errW_none, errW_some] <;> rfl), by repeat (first | (with_reducible first | exact HB.out | apply below_alloc | apply pw_below_drewN | apply below_drew1 | refine below_set ?_ GE257.out | refine below_set ?_ GE264.out) | exact HB.out)⟩
 ·replace c3 := Bool.eq_false_iff.mpr c3
  subst c3
  have H1 : (some (⟨#[62, 32]⟩ : ByteArray)) = some r := by rw [if_neg (show ¬ (false = true) by decide)] at H; exact H
  clear H
  have H := H1
  clear H1
  obtain rfl := Option.some.inj H
  go_enter Tryd.func14, Tryd.ntmps14
  go_wp2_with (first | ((with_reducible refine gate_dst (N := 1) rfl ?_); refine box_event ?hg (N := 1) ?hd (cs := #[.string a0_0, .slice A0_1 l0_1.length c0_1, .slice A0_2 l0_2.length c0_2, .slice (a0_3).A (a0_3).n (a0_3).c, .slice A0_4 l0_4.length c0_4, .slice A0_5 l0_5.length c0_5, .int .i64 a0_6, .int .i64 a0_7, .int .i64 a0_8, .int .i64 a0_9, .string a0_10, .int .i64 a0_11, .int .i64 a0_12, .int .i64 a0_13, .bool a0_14]) (t := 30) ?hr ?_; (case hd => rfl); (case hg => rfl); (case hr => first | (go_simp; done) | (go_simp; rfl)); intro gb257 hg w13 hbox hb; have n0_ := Aside0.mk (below_step (by repeat (first | (with_reducible first | exact HB.out | apply below_alloc | apply pw_below_drewN | apply below_drew1) | exact HB.out)) hb); have n1_ := Aside0.mk (hbox); have n2_ := Aside0.mk ((by rw [hg]; exact (below_size (by repeat (first | (with_reducible first | exact HB.out | apply below_alloc | apply pw_below_drewN | apply below_drew1) | exact HB.out))) : w.heap.size ≤ gb257)); have n3_ := Aside0.mk ((by rw [hg]; exact (below_size (by repeat (first | (with_reducible first | exact HB.out | apply below_alloc | apply pw_below_drewN | apply below_drew1) | exact HB.out))) : w.heap.size ≤ gb257)); clear HB; have HB := n0_; have BK257 := n1_; have GW257 := n2_; have GE257 := n3_; clear n0_ n1_ n2_ n3_; clear hb hbox hg; have hcz14_0 : w13.cell? ⟨gb257, 0, none⟩ = some (.string a0_0) := (blk_cell BK257.out 0).trans rfl; have hcz14_1 : w13.cell? ⟨gb257, 1, none⟩ = some (.slice A0_1 l0_1.length c0_1) := (blk_cell BK257.out 1).trans rfl; have hcz14_2 : w13.cell? ⟨gb257, 2, none⟩ = some (.slice A0_2 l0_2.length c0_2) := (blk_cell BK257.out 2).trans rfl; have hcz14_3 : w13.cell? ⟨gb257, 3, none⟩ = some (.slice (a0_3).A (a0_3).n (a0_3).c) := (blk_cell BK257.out 3).trans rfl; have hcz14_4 : w13.cell? ⟨gb257, 4, none⟩ = some (.slice A0_4 l0_4.length c0_4) := (blk_cell BK257.out 4).trans rfl; have hcz14_5 : w13.cell? ⟨gb257, 5, none⟩ = some (.slice A0_5 l0_5.length c0_5) := (blk_cell BK257.out 5).trans rfl; have hcz14_6 : w13.cell? ⟨gb257, 6, none⟩ = some (.int .i64 a0_6) := (blk_cell BK257.out 6).trans rfl; have hcz14_7 : w13.cell? ⟨gb257, 7, none⟩ = some (.int .i64 a0_7) := (blk_cell BK257.out 7).trans rfl; have hcz14_8 : w13.cell? ⟨gb257, 8, none⟩ = some (.int .i64 a0_8) := (blk_cell BK257.out 8).trans rfl; have hcz14_9 : w13.cell? ⟨gb257, 9, none⟩ = some (.int .i64 a0_9) := (blk_cell BK257.out 9).trans rfl; have hcz14_10 : w13.cell? ⟨gb257, 10, none⟩ = some (.string a0_10) := (blk_cell BK257.out 10).trans rfl; have hcz14_11 : w13.cell? ⟨gb257, 11, none⟩ = some (.int .i64 a0_11) := (blk_cell BK257.out 11).trans rfl; have hcz14_12 : w13.cell? ⟨gb257, 12, none⟩ = some (.int .i64 a0_12) := (blk_cell BK257.out 12).trans rfl; have hcz14_13 : w13.cell? ⟨gb257, 13, none⟩ = some (.int .i64 a0_13) := (blk_cell BK257.out 13).trans rfl; have hcz14_14 : w13.cell? ⟨gb257, 14, none⟩ = some (.bool a0_14) := (blk_cell BK257.out 14).trans rfl; have hfz14_0 := blk_frozen BK257.out 0; have hfz14_1 := blk_frozen BK257.out 1; have hfz14_2 := blk_frozen BK257.out 2; have hfz14_3 := blk_frozen BK257.out 3; have hfz14_4 := blk_frozen BK257.out 4; have hfz14_5 := blk_frozen BK257.out 5; have hfz14_6 := blk_frozen BK257.out 6; have hfz14_7 := blk_frozen BK257.out 7; have hfz14_8 := blk_frozen BK257.out 8; have hfz14_9 := blk_frozen BK257.out 9; have hfz14_10 := blk_frozen BK257.out 10; have hfz14_11 := blk_frozen BK257.out 11; have hfz14_12 := blk_frozen BK257.out 12; have hfz14_13 := blk_frozen BK257.out 13; have hfz14_14 := blk_frozen BK257.out 14) | ((with_reducible refine gate_callee (f := 26) rfl ?_); refine goesL_ (some 8) rfl rfl Tryd.func26 (by kernel_rfl) rfl #[.slice A0_1 l0_1.length c0_1, .string (⟨#[80, 83, 50]⟩ : ByteArray)] rfl (by (try simp only [List.map_toArray, List.map_cons, List.map_nil]); first | done | rfl | (simp only [List.length_drop, List.length_take]; rfl)) ?_; (with_reducible refine (vars_Get.calls k _ _ l0_1 (⟨#[80, 83, 50]⟩ : ByteArray) t258 t259 false t261 t262 t263 _ ?side1 ?side2 A2.out).mono ?_); (case side1 => repeat (first | exact (Kd.C_below HR0_1.out HB.out) | (with_reducible refine Kd.C_alloc ?_ _) | (with_reducible refine Kd.C_drewN ?_ _) | (with_reducible refine Kd.C_drew ?_))); (case side2 => exact HC0_1.out); rintro e w15 ⟨rfl, hb⟩; refine ⟨_, rfl, ?_⟩; have n0_ := Aside0.mk (blk_below (g := gb257) (o := .cells #[.string a0_0, .slice A0_1 l0_1.length c0_1, .slice A0_2 l0_2.length c0_2, .slice (a0_3).A (a0_3).n (a0_3).c, .slice A0_4 l0_4.length c0_4, .slice A0_5 l0_5.length c0_5, .int .i64 a0_6, .int .i64 a0_7, .int .i64 a0_8, .int .i64 a0_9, .string a0_10, .int .i64 a0_11, .int .i64 a0_12, .int .i64 a0_13, .bool a0_14] 30 (0, 0)) (by (with_reducible repeat (first | refine blk_drewN ?_ _ | refine blk_drew ?_ | refine blk_alloc ?_ _)); exact BK257.out) hb); have n1_ := Aside0.mk (below_step (by repeat (first | (with_reducible first | exact HB.out | apply below_alloc | apply pw_below_drewN | apply below_drew1 | refine below_set ?_ GE257.out) | exact HB.out)) hb); clear BK257; clear HB; have BK257 := n0_; have HB := n1_; clear n0_ n1_; (try clear hb); (try clear hb2); (try clear hk); (try clear hi)) | ((with_reducible refine gate_dst (N := 3) rfl ?_); refine box_event ?hg (N := 3) ?hd (cs := #[.string (⟨#[]⟩ : ByteArray), .string (⟨#[]⟩ : ByteArray), .bool false, .bool false, .bool false]) (t := 42) ?hr ?_; (case hd => rfl); (case hg => rfl); (case hr => first | (go_simp; done) | (go_simp; rfl)); intro gb264 hg w16 hbox hb; have n0_ := Aside0.mk (blk_below (g := gb257) (o := .cells #[.string a0_0, .slice A0_1 l0_1.length c0_1, .slice A0_2 l0_2.length c0_2, .slice (a0_3).A (a0_3).n (a0_3).c, .slice A0_4 l0_4.length c0_4, .slice A0_5 l0_5.length c0_5, .int .i64 a0_6, .int .i64 a0_7, .int .i64 a0_8, .int .i64 a0_9, .string a0_10, .int .i64 a0_11, .int .i64 a0_12, .int .i64 a0_13, .bool a0_14] 30 (0, 0)) (by (with_reducible repeat (first | refine blk_drewN ?_ _ | refine blk_drew ?_ | refine blk_alloc ?_ _)); exact BK257.out) hb); have n1_ := Aside0.mk (below_step (by repeat (first | (with_reducible first | exact HB.out | apply below_alloc | apply pw_below_drewN | apply below_drew1 | refine below_set ?_ GE257.out) | exact HB.out)) hb); have n2_ := Aside0.mk (hbox); have n3_ := Aside0.mk ((by rw [hg]; exact (below_size (by repeat (first | (with_reducible first | exact HB.out | apply below_alloc | apply pw_below_drewN | apply below_drew1 | refine below_set ?_ GE257.out) | exact HB.out))) : w.heap.size ≤ gb264)); have n4_ := Aside0.mk ((by rw [hg]; exact (below_size (by repeat (first | (with_reducible first | exact HB.out | apply below_alloc | apply pw_below_drewN | apply below_drew1 | refine below_set ?_ GE257.out) | exact HB.out))) : w.heap.size ≤ gb264)); have n5_ := Aside0.mk ((by rw [hg]; exact Nat.ne_of_lt (blk_lt (g := gb257) (o := .cells #[.string a0_0, .slice A0_1 l0_1.length c0_1, .slice A0_2 l0_2.length c0_2, .slice (a0_3).A (a0_3).n (a0_3).c, .slice A0_4 l0_4.length c0_4, .slice A0_5 l0_5.length c0_5, .int .i64 a0_6, .int .i64 a0_7, .int .i64 a0_8, .int .i64 a0_9, .string a0_10, .int .i64 a0_11, .int .i64 a0_12, .int .i64 a0_13, .bool a0_14] 30 (0, 0)) (by (with_reducible repeat (first | refine blk_drewN ?_ _ | refine blk_drew ?_ | refine blk_alloc ?_ _)); exact BK257.out)) : gb257 ≠ gb264)); have n6_ := Aside0.mk ((by rw [hg]; exact Nat.ne_of_gt (blk_lt (g := gb257) (o := .cells #[.string a0_0, .slice A0_1 l0_1.length c0_1, .slice A0_2 l0_2.length c0_2, .slice (a0_3).A (a0_3).n (a0_3).c, .slice A0_4 l0_4.length c0_4, .slice A0_5 l0_5.length c0_5, .int .i64 a0_6, .int .i64 a0_7, .int .i64 a0_8, .int .i64 a0_9, .string a0_10, .int .i64 a0_11, .int .i64 a0_12, .int .i64 a0_13, .bool a0_14] 30 (0, 0)) (by (with_reducible repeat (first | refine blk_drewN ?_ _ | refine blk_drew ?_ | refine blk_alloc ?_ _)); exact BK257.out)) : gb264 ≠ gb257)); clear BK257; clear HB; have BK257 := n0_; have HB := n1_; have BK264 := n2_; have GW264 := n3_; have GE264 := n4_; have NB257_264 := n5_; have NB264_257 := n6_; clear n0_ n1_ n2_ n3_ n4_ n5_ n6_; clear hb hbox hg; have hnb17 := NB264_257.out; have hnc17 := NB257_264.out; have hcz18_0 : w16.cell? ⟨gb264, 0, none⟩ = some (.string (⟨#[]⟩ : ByteArray)) := (blk_cell BK264.out 0).trans rfl; have hcz18_1 : w16.cell? ⟨gb264, 1, none⟩ = some (.string (⟨#[]⟩ : ByteArray)) := (blk_cell BK264.out 1).trans rfl; have hcz18_2 : w16.cell? ⟨gb264, 2, none⟩ = some (.bool false) := (blk_cell BK264.out 2).trans rfl; have hcz18_3 : w16.cell? ⟨gb264, 3, none⟩ = some (.bool false) := (blk_cell BK264.out 3).trans rfl; have hcz18_4 : w16.cell? ⟨gb264, 4, none⟩ = some (.bool false) := (blk_cell BK264.out 4).trans rfl; have hfz18_0 := blk_frozen BK264.out 0; have hfz18_1 := blk_frozen BK264.out 1; have hfz18_2 := blk_frozen BK264.out 2; have hfz18_3 := blk_frozen BK264.out 3; have hfz18_4 := blk_frozen BK264.out 4))
  go_ret
  exact ⟨by first | rfl | (simp [errW_none, errW_some] <;> rfl) | (simp [*, errW_none, errW_some] <;> rfl), by repeat (first | (with_reducible first | exact HB.out | apply below_alloc | apply pw_below_drewN | apply below_drew1 | refine below_set ?_ GE257.out | refine below_set ?_ GE264.out) | exact HB.out)⟩
end Go.Proofs.YtiacdccnifjcjaaDoor.F
set_option linter.unusedVariables false
namespace Go.Proofs.YtiacdccnifjcjaaDoor.F
open Go.RowKit Go.Proofs.YtiacdccnifjcjaaDoorW.PrintWords Go.Proofs.YtiacdccnifjcjaaDoorW.PrintLast Go.Proofs.YtiacdccnifjcjaaDoorW.PrintMore
theorem prompt_Expand.calls0 (k : Nat) (a0_0 : ByteArray) (A0_1 : Option Addr) (c0_1 : Nat) (l0_1 : List (S_Var)) (A0_2 : Option Addr) (c0_2 : Nat) (l0_2 : List ByteArray) (a0_6 : Int) (a0_7 : Int) (a0_8 : Int) (a0_9 : Int) (a0_10 : ByteArray) (a0_11 : Int) (a0_12 : Int) (a0_13 : Int) (a0_14 : Bool) (a1 : ByteArray) (a2 : Int) (a3 : Int) (r : ByteArray) (w : World) (hr0_1 : Kd.C k_Var w A0_1 l0_1.length l0_1) (hc0_1 : l0_1.length ≤ c0_1) (hr0_2 : Kd.C Kd.string w A0_2 l0_2.length l0_2) (hc0_2 : l0_2.length ≤ c0_2) (hamb : AmbC w) (h : prompt_Expand.f k a0_0 l0_1 l0_2 zopq [] [] a0_6 a0_7 a0_8 a0_9 a0_10 a0_11 a0_12 a0_13 a0_14 a1 a2 a3 = some r) :
    Calls Tryd.prog 9 #[.agg #[.string a0_0, .slice A0_1 l0_1.length c0_1, .slice A0_2 l0_2.length c0_2, .slice none 0 0, .slice none 0 0, .slice none 0 0, .int .i64 a0_6, .int .i64 a0_7, .int .i64 a0_8, .int .i64 a0_9, .string a0_10, .int .i64 a0_11, .int .i64 a0_12, .int .i64 a0_13, .bool a0_14], .string a1, .int .i64 a2, .int .i64 a3] w fun e w' => e = .returned (.string r) ∧ Below w.heap.size w w' :=
  prompt_Expand.calls k a0_0 A0_1 c0_1 l0_1 A0_2 c0_2 l0_2 zopq none 0 [] none 0 [] a0_6 a0_7 a0_8 a0_9 a0_10 a0_11 a0_12 a0_13 a0_14 a1 a2 a3 r w hr0_1 hc0_1 hr0_2 hc0_2 (Kd.C_nil _ _) (Nat.le_refl _) (Kd.C_nil _ _) (Nat.le_refl _) hamb h
theorem prompt_First.calls0 (k : Nat) (a0_0 : ByteArray) (A0_1 : Option Addr) (c0_1 : Nat) (l0_1 : List (S_Var)) (A0_2 : Option Addr) (c0_2 : Nat) (l0_2 : List ByteArray) (a0_6 : Int) (a0_7 : Int) (a0_8 : Int) (a0_9 : Int) (a0_10 : ByteArray) (a0_11 : Int) (a0_12 : Int) (a0_13 : Int) (a0_14 : Bool) (a2 : Int) (a3 : Int) (r : ByteArray) (w : World) (hr0_1 : Kd.C k_Var w A0_1 l0_1.length l0_1) (hc0_1 : l0_1.length ≤ c0_1) (hr0_2 : Kd.C Kd.string w A0_2 l0_2.length l0_2) (hc0_2 : l0_2.length ≤ c0_2) (hamb : AmbC w) (h : prompt_First.f k a0_0 l0_1 l0_2 zopq [] [] a0_6 a0_7 a0_8 a0_9 a0_10 a0_11 a0_12 a0_13 a0_14 a2 a3 = some r) :
    Calls Tryd.prog 12 #[.agg #[.string a0_0, .slice A0_1 l0_1.length c0_1, .slice A0_2 l0_2.length c0_2, .slice none 0 0, .slice none 0 0, .slice none 0 0, .int .i64 a0_6, .int .i64 a0_7, .int .i64 a0_8, .int .i64 a0_9, .string a0_10, .int .i64 a0_11, .int .i64 a0_12, .int .i64 a0_13, .bool a0_14], .int .i64 a2, .int .i64 a3] w fun e w' => e = .returned (.string r) ∧ Below w.heap.size w w' :=
  prompt_First.calls k a0_0 A0_1 c0_1 l0_1 A0_2 c0_2 l0_2 zopq none 0 [] none 0 [] a0_6 a0_7 a0_8 a0_9 a0_10 a0_11 a0_12 a0_13 a0_14 a2 a3 r w hr0_1 hc0_1 hr0_2 hc0_2 (Kd.C_nil _ _) (Nat.le_refl _) (Kd.C_nil _ _) (Nat.le_refl _) hamb h
theorem prompt_Second.calls0 (k : Nat) (a0_0 : ByteArray) (A0_1 : Option Addr) (c0_1 : Nat) (l0_1 : List (S_Var)) (A0_2 : Option Addr) (c0_2 : Nat) (l0_2 : List ByteArray) (a0_6 : Int) (a0_7 : Int) (a0_8 : Int) (a0_9 : Int) (a0_10 : ByteArray) (a0_11 : Int) (a0_12 : Int) (a0_13 : Int) (a0_14 : Bool) (r : ByteArray) (w : World) (hr0_1 : Kd.C k_Var w A0_1 l0_1.length l0_1) (hc0_1 : l0_1.length ≤ c0_1) (hr0_2 : Kd.C Kd.string w A0_2 l0_2.length l0_2) (hc0_2 : l0_2.length ≤ c0_2) (hamb : AmbC w) (h : prompt_Second.f k a0_0 l0_1 l0_2 zopq [] [] a0_6 a0_7 a0_8 a0_9 a0_10 a0_11 a0_12 a0_13 a0_14 = some r) :
    Calls Tryd.prog 14 #[.agg #[.string a0_0, .slice A0_1 l0_1.length c0_1, .slice A0_2 l0_2.length c0_2, .slice none 0 0, .slice none 0 0, .slice none 0 0, .int .i64 a0_6, .int .i64 a0_7, .int .i64 a0_8, .int .i64 a0_9, .string a0_10, .int .i64 a0_11, .int .i64 a0_12, .int .i64 a0_13, .bool a0_14]] w fun e w' => e = .returned (.string r) ∧ Below w.heap.size w w' :=
  prompt_Second.calls k a0_0 A0_1 c0_1 l0_1 A0_2 c0_2 l0_2 zopq none 0 [] none 0 [] a0_6 a0_7 a0_8 a0_9 a0_10 a0_11 a0_12 a0_13 a0_14 r w hr0_1 hc0_1 hr0_2 hc0_2 (Kd.C_nil _ _) (Nat.le_refl _) (Kd.C_nil _ _) (Nat.le_refl _) hamb h
end Go.Proofs.YtiacdccnifjcjaaDoor.F
namespace Go.Proofs.YtiacdccnifjcjaaDoor.F
open Go.RowKit Go.Proofs.YtiacdccnifjcjaaDoorW.PrintWords Go.Proofs.YtiacdccnifjcjaaDoorW.PrintLast Go.Proofs.YtiacdccnifjcjaaDoorW.PrintMore
attribute [local go_sem] max2_int min2_int max_two min_two max_three min_three max_four min_four
set_option linter.unusedVariables false
set_option linter.unusedSimpArgs false
def jobshelllaw48_awake.f (k : Nat)  : Option (Bool) := (some (([(⟨#[112]⟩ : ByteArray)] : List ByteArray) : List ByteArray)).bind fun y266 => ((some (([(⟨(⟨#[85, 83, 69, 82]⟩ : ByteArray), (⟨#[97, 110, 110]⟩ : ByteArray), true, false, false⟩ : S_Var)] : List (S_Var)) : List (S_Var))).bind fun y269 => ((prompt_Expand.f k (⟨#[]⟩ : ByteArray) y269 y266 zopq ([] : List (S_Alias)) ([] : List (S_Trap)) 0 3 0 0 (⟨#[47, 97]⟩ : ByteArray) 0 0 0 false (⟨#[92, 117, 58, 92, 119, 32, 92, 106, 32, 92, 33, 92, 36, 32]⟩ : ByteArray) 2 7).bind fun t273 => (if t273.toList = ([97, 110, 110, 58, 47, 97, 32, 50, 32, 55, 36, 32] : List UInt8) then ((prompt_Expand.f k (⟨#[]⟩ : ByteArray) y269 y266 zopq ([] : List (S_Alias)) ([] : List (S_Trap)) 0 3 0 0 (⟨#[47, 97]⟩ : ByteArray) 0 0 0 false (⟨#[92, 120, 92]⟩ : ByteArray) 0 0).bind fun t274 => (if t274.toList = ([92, 120, 92] : List UInt8) then ((prompt_Expand.f k (⟨#[]⟩ : ByteArray) y269 y266 zopq ([] : List (S_Alias)) ([] : List (S_Trap)) 0 3 0 0 (⟨#[47, 97]⟩ : ByteArray) 0 0 0 false (⟨#[91, 36, 63, 93, 32, 36, 49, 32, 36, 123, 49, 125, 120, 32, 36, 121, 46]⟩ : ByteArray) 0 0).bind fun t275 => (if t275.toList = ([91, 51, 93, 32, 112, 32, 112, 120, 32, 46] : List UInt8) then ((prompt_Expand.f k (⟨#[]⟩ : ByteArray) y269 y266 zopq ([] : List (S_Alias)) ([] : List (S_Trap)) 0 3 0 0 (⟨#[47, 97]⟩ : ByteArray) 0 0 0 false (⟨#[36, 123, 97, 45, 98, 125, 32, 36, 123]⟩ : ByteArray) 0 0).bind fun t276 => (if t276.toList = ([36, 123, 97, 45, 98, 125, 32, 36, 123] : List UInt8) then ((prompt_First.f k (⟨#[]⟩ : ByteArray) y269 y266 zopq ([] : List (S_Alias)) ([] : List (S_Trap)) 0 3 0 0 (⟨#[47, 97]⟩ : ByteArray) 0 0 0 false 0 0).bind fun t277 => (if t277.toList = ([36, 32] : List UInt8) then ((prompt_Second.f k (⟨#[]⟩ : ByteArray) y269 y266 zopq ([] : List (S_Alias)) ([] : List (S_Trap)) 0 3 0 0 (⟨#[47, 97]⟩ : ByteArray) 0 0 0 false).bind fun t278 => (some (t278.toList == ([62, 32] : List UInt8)))) else (some false))) else (some false))) else (some false))) else (some false))) else (some false))))
theorem jobshelllaw48_awake.mono : ∀ k, LeO (jobshelllaw48_awake.f k ) (jobshelllaw48_awake.f (k + 1) ) := by
 intro  k
 unfold jobshelllaw48_awake.f
 repeat' first
   | (with_reducible exact prompt_Expand.mono _ _ _ _ _ _ _ _ _ _ _ _ _ _ _ _ _ _ _)
   | (with_reducible exact prompt_First.mono _ _ _ _ _ _ _ _ _ _ _ _ _ _ _ _ _ _)
   | (with_reducible exact prompt_Second.mono _ _ _ _ _ _ _ _ _ _ _ _ _ _ _ _)
   | (with_reducible exact LeO.refl _)
   | (with_reducible exact LeO.none _)
   | (with_reducible refine LeO.ite ?_ ?_)
   | (with_reducible refine LeO.bind ?_ (fun _ => ?_))
   | exact prompt_Expand.mono _ _ _ _ _ _ _ _ _ _ _ _ _ _ _ _ _ _ _
   | exact prompt_First.mono _ _ _ _ _ _ _ _ _ _ _ _ _ _ _ _ _ _
   | exact prompt_Second.mono _ _ _ _ _ _ _ _ _ _ _ _ _ _ _ _
   | exact LeO.none _
   | refine LeO.ite ?_ ?_
   | refine LeO.bind ?_ (fun _ => ?_)
set_option maxHeartbeats 60000000 in
set_option maxRecDepth 100000 in
theorem jobshelllaw48_awake.calls (k : Nat)  (r : Bool) (w : World) (hamb : AmbC w) (h : jobshelllaw48_awake.f k  = some r) :
  Calls Tryd.prog 11 #[] w fun e w' => e = .returned (.bool r) ∧ Below w.heap.size w w' := by
 have hu42 := Tryd.underlying42
 have hu30 := Tryd.underlying30
 have HAMB := Aside0.mk hamb
 clear hamb
 have HB := Aside0.mk (Below.refl w.heap.size w)
 have hT : r = true := by
  have h1 := at_rounds (g := fun k => jobshelllaw48_awake.f k) (fun k => jobshelllaw48_awake.mono k) (Nat.le_max_left k 60) h
  have h2 := at_rounds (g := fun k => jobshelllaw48_awake.f k) (fun k => jobshelllaw48_awake.mono k) (Nat.le_max_right k 60) (r := true) (by decide +kernel)
  rw [h1] at h2; exact Option.some.inj h2
 subst hT
 have H : ((some (([(⟨#[112]⟩ : ByteArray)] : List ByteArray) : List ByteArray)).bind fun y266 => ((some (([(⟨(⟨#[85, 83, 69, 82]⟩ : ByteArray), (⟨#[97, 110, 110]⟩ : ByteArray), true, false, false⟩ : S_Var)] : List (S_Var)) : List (S_Var))).bind fun y269 => ((prompt_Expand.f k (⟨#[]⟩ : ByteArray) y269 y266 zopq ([] : List (S_Alias)) ([] : List (S_Trap)) 0 3 0 0 (⟨#[47, 97]⟩ : ByteArray) 0 0 0 false (⟨#[92, 117, 58, 92, 119, 32, 92, 106, 32, 92, 33, 92, 36, 32]⟩ : ByteArray) 2 7).bind fun t273 => (if t273.toList = ([97, 110, 110, 58, 47, 97, 32, 50, 32, 55, 36, 32] : List UInt8) then ((prompt_Expand.f k (⟨#[]⟩ : ByteArray) y269 y266 zopq ([] : List (S_Alias)) ([] : List (S_Trap)) 0 3 0 0 (⟨#[47, 97]⟩ : ByteArray) 0 0 0 false (⟨#[92, 120, 92]⟩ : ByteArray) 0 0).bind fun t274 => (if t274.toList = ([92, 120, 92] : List UInt8) then ((prompt_Expand.f k (⟨#[]⟩ : ByteArray) y269 y266 zopq ([] : List (S_Alias)) ([] : List (S_Trap)) 0 3 0 0 (⟨#[47, 97]⟩ : ByteArray) 0 0 0 false (⟨#[91, 36, 63, 93, 32, 36, 49, 32, 36, 123, 49, 125, 120, 32, 36, 121, 46]⟩ : ByteArray) 0 0).bind fun t275 => (if t275.toList = ([91, 51, 93, 32, 112, 32, 112, 120, 32, 46] : List UInt8) then ((prompt_Expand.f k (⟨#[]⟩ : ByteArray) y269 y266 zopq ([] : List (S_Alias)) ([] : List (S_Trap)) 0 3 0 0 (⟨#[47, 97]⟩ : ByteArray) 0 0 0 false (⟨#[36, 123, 97, 45, 98, 125, 32, 36, 123]⟩ : ByteArray) 0 0).bind fun t276 => (if t276.toList = ([36, 123, 97, 45, 98, 125, 32, 36, 123] : List UInt8) then ((prompt_First.f k (⟨#[]⟩ : ByteArray) y269 y266 zopq ([] : List (S_Alias)) ([] : List (S_Trap)) 0 3 0 0 (⟨#[47, 97]⟩ : ByteArray) 0 0 0 false 0 0).bind fun t277 => (if t277.toList = ([36, 32] : List UInt8) then ((prompt_Second.f k (⟨#[]⟩ : ByteArray) y269 y266 zopq ([] : List (S_Alias)) ([] : List (S_Trap)) 0 3 0 0 (⟨#[47, 97]⟩ : ByteArray) 0 0 0 false).bind fun t278 => (some (t278.toList == ([62, 32] : List UInt8)))) else (some false))) else (some false))) else (some false))) else (some false))) else (some false))))) = some true := h
 clear h
 obtain ⟨y266, hy266⟩ : ∃ y_ : List ByteArray, y_ = (([(⟨#[112]⟩ : ByteArray)] : List ByteArray)) := ⟨_, rfl⟩
 replace H : ((some (([(⟨(⟨#[85, 83, 69, 82]⟩ : ByteArray), (⟨#[97, 110, 110]⟩ : ByteArray), true, false, false⟩ : S_Var)] : List (S_Var)) : List (S_Var))).bind fun y269 => ((prompt_Expand.f k (⟨#[]⟩ : ByteArray) y269 y266 zopq ([] : List (S_Alias)) ([] : List (S_Trap)) 0 3 0 0 (⟨#[47, 97]⟩ : ByteArray) 0 0 0 false (⟨#[92, 117, 58, 92, 119, 32, 92, 106, 32, 92, 33, 92, 36, 32]⟩ : ByteArray) 2 7).bind fun t273 => (if t273.toList = ([97, 110, 110, 58, 47, 97, 32, 50, 32, 55, 36, 32] : List UInt8) then ((prompt_Expand.f k (⟨#[]⟩ : ByteArray) y269 y266 zopq ([] : List (S_Alias)) ([] : List (S_Trap)) 0 3 0 0 (⟨#[47, 97]⟩ : ByteArray) 0 0 0 false (⟨#[92, 120, 92]⟩ : ByteArray) 0 0).bind fun t274 => (if t274.toList = ([92, 120, 92] : List UInt8) then ((prompt_Expand.f k (⟨#[]⟩ : ByteArray) y269 y266 zopq ([] : List (S_Alias)) ([] : List (S_Trap)) 0 3 0 0 (⟨#[47, 97]⟩ : ByteArray) 0 0 0 false (⟨#[91, 36, 63, 93, 32, 36, 49, 32, 36, 123, 49, 125, 120, 32, 36, 121, 46]⟩ : ByteArray) 0 0).bind fun t275 => (if t275.toList = ([91, 51, 93, 32, 112, 32, 112, 120, 32, 46] : List UInt8) then ((prompt_Expand.f k (⟨#[]⟩ : ByteArray) y269 y266 zopq ([] : List (S_Alias)) ([] : List (S_Trap)) 0 3 0 0 (⟨#[47, 97]⟩ : ByteArray) 0 0 0 false (⟨#[36, 123, 97, 45, 98, 125, 32, 36, 123]⟩ : ByteArray) 0 0).bind fun t276 => (if t276.toList = ([36, 123, 97, 45, 98, 125, 32, 36, 123] : List UInt8) then ((prompt_First.f k (⟨#[]⟩ : ByteArray) y269 y266 zopq ([] : List (S_Alias)) ([] : List (S_Trap)) 0 3 0 0 (⟨#[47, 97]⟩ : ByteArray) 0 0 0 false 0 0).bind fun t277 => (if t277.toList = ([36, 32] : List UInt8) then ((prompt_Second.f k (⟨#[]⟩ : ByteArray) y269 y266 zopq ([] : List (S_Alias)) ([] : List (S_Trap)) 0 3 0 0 (⟨#[47, 97]⟩ : ByteArray) 0 0 0 false).bind fun t278 => (some (t278.toList == ([62, 32] : List UInt8)))) else (some false))) else (some false))) else (some false))) else (some false))) else (some false)))) = some true := by first | (rw [hy266]; with_reducible exact H) | (have H2_ := (Option.bind_some _ _).symm.trans H; rw [hy266]; with_reducible exact H2_) | (have H2_ := (Option.bind_some _ _).symm.trans H; with_reducible exact H2_) | with_reducible exact H | (rw [hy266]; exact H) | exact H
 have Ny266 := Aside0.mk hy266
 clear hy266
 obtain ⟨y269, hy269⟩ : ∃ y_ : List (S_Var), y_ = (([(⟨(⟨#[85, 83, 69, 82]⟩ : ByteArray), (⟨#[97, 110, 110]⟩ : ByteArray), true, false, false⟩ : S_Var)] : List (S_Var))) := ⟨_, rfl⟩
 replace H : ((prompt_Expand.f k (⟨#[]⟩ : ByteArray) y269 y266 zopq ([] : List (S_Alias)) ([] : List (S_Trap)) 0 3 0 0 (⟨#[47, 97]⟩ : ByteArray) 0 0 0 false (⟨#[92, 117, 58, 92, 119, 32, 92, 106, 32, 92, 33, 92, 36, 32]⟩ : ByteArray) 2 7).bind fun t273 => (if t273.toList = ([97, 110, 110, 58, 47, 97, 32, 50, 32, 55, 36, 32] : List UInt8) then ((prompt_Expand.f k (⟨#[]⟩ : ByteArray) y269 y266 zopq ([] : List (S_Alias)) ([] : List (S_Trap)) 0 3 0 0 (⟨#[47, 97]⟩ : ByteArray) 0 0 0 false (⟨#[92, 120, 92]⟩ : ByteArray) 0 0).bind fun t274 => (if t274.toList = ([92, 120, 92] : List UInt8) then ((prompt_Expand.f k (⟨#[]⟩ : ByteArray) y269 y266 zopq ([] : List (S_Alias)) ([] : List (S_Trap)) 0 3 0 0 (⟨#[47, 97]⟩ : ByteArray) 0 0 0 false (⟨#[91, 36, 63, 93, 32, 36, 49, 32, 36, 123, 49, 125, 120, 32, 36, 121, 46]⟩ : ByteArray) 0 0).bind fun t275 => (if t275.toList = ([91, 51, 93, 32, 112, 32, 112, 120, 32, 46] : List UInt8) then ((prompt_Expand.f k (⟨#[]⟩ : ByteArray) y269 y266 zopq ([] : List (S_Alias)) ([] : List (S_Trap)) 0 3 0 0 (⟨#[47, 97]⟩ : ByteArray) 0 0 0 false (⟨#[36, 123, 97, 45, 98, 125, 32, 36, 123]⟩ : ByteArray) 0 0).bind fun t276 => (if t276.toList = ([36, 123, 97, 45, 98, 125, 32, 36, 123] : List UInt8) then ((prompt_First.f k (⟨#[]⟩ : ByteArray) y269 y266 zopq ([] : List (S_Alias)) ([] : List (S_Trap)) 0 3 0 0 (⟨#[47, 97]⟩ : ByteArray) 0 0 0 false 0 0).bind fun t277 => (if t277.toList = ([36, 32] : List UInt8) then ((prompt_Second.f k (⟨#[]⟩ : ByteArray) y269 y266 zopq ([] : List (S_Alias)) ([] : List (S_Trap)) 0 3 0 0 (⟨#[47, 97]⟩ : ByteArray) 0 0 0 false).bind fun t278 => (some (t278.toList == ([62, 32] : List UInt8)))) else (some false))) else (some false))) else (some false))) else (some false))) else (some false))) = some true := by first | (rw [hy269]; with_reducible exact H) | (have H2_ := (Option.bind_some _ _).symm.trans H; rw [hy269]; with_reducible exact H2_) | (have H2_ := (Option.bind_some _ _).symm.trans H; with_reducible exact H2_) | with_reducible exact H | (rw [hy269]; exact H) | exact H
 have Ny269 := Aside0.mk hy269
 clear hy269
 replace H := Option.bind_eq_some_iff.mp H
 obtain ⟨t273, A10, H⟩ := H
 replace H : (if t273.toList = ([97, 110, 110, 58, 47, 97, 32, 50, 32, 55, 36, 32] : List UInt8) then ((prompt_Expand.f k (⟨#[]⟩ : ByteArray) y269 y266 zopq ([] : List (S_Alias)) ([] : List (S_Trap)) 0 3 0 0 (⟨#[47, 97]⟩ : ByteArray) 0 0 0 false (⟨#[92, 120, 92]⟩ : ByteArray) 0 0).bind fun t274 => (if t274.toList = ([92, 120, 92] : List UInt8) then ((prompt_Expand.f k (⟨#[]⟩ : ByteArray) y269 y266 zopq ([] : List (S_Alias)) ([] : List (S_Trap)) 0 3 0 0 (⟨#[47, 97]⟩ : ByteArray) 0 0 0 false (⟨#[91, 36, 63, 93, 32, 36, 49, 32, 36, 123, 49, 125, 120, 32, 36, 121, 46]⟩ : ByteArray) 0 0).bind fun t275 => (if t275.toList = ([91, 51, 93, 32, 112, 32, 112, 120, 32, 46] : List UInt8) then ((prompt_Expand.f k (⟨#[]⟩ : ByteArray) y269 y266 zopq ([] : List (S_Alias)) ([] : List (S_Trap)) 0 3 0 0 (⟨#[47, 97]⟩ : ByteArray) 0 0 0 false (⟨#[36, 123, 97, 45, 98, 125, 32, 36, 123]⟩ : ByteArray) 0 0).bind fun t276 => (if t276.toList = ([36, 123, 97, 45, 98, 125, 32, 36, 123] : List UInt8) then ((prompt_First.f k (⟨#[]⟩ : ByteArray) y269 y266 zopq ([] : List (S_Alias)) ([] : List (S_Trap)) 0 3 0 0 (⟨#[47, 97]⟩ : ByteArray) 0 0 0 false 0 0).bind fun t277 => (if t277.toList = ([36, 32] : List UInt8) then ((prompt_Second.f k (⟨#[]⟩ : ByteArray) y269 y266 zopq ([] : List (S_Alias)) ([] : List (S_Trap)) 0 3 0 0 (⟨#[47, 97]⟩ : ByteArray) 0 0 0 false).bind fun t278 => (some (t278.toList == ([62, 32] : List UInt8)))) else (some false))) else (some false))) else (some false))) else (some false))) else (some false)) = some true := H
 have A1 := Aside0.mk A10
 clear A10
 have c2 : t273.toList = ([97, 110, 110, 58, 47, 97, 32, 50, 32, 55, 36, 32] : List UInt8) := by
  refine Classical.byContradiction fun e => ?_
  rw [if_neg e] at H
  exact absurd (Option.some.inj H) (by decide)
 rw [if_pos c2] at H
 have c2b0 : (t273.toList == ([97, 110, 110, 58, 47, 97, 32, 50, 32, 55, 36, 32] : List UInt8)) = true := beq_iff_eq.mpr c2
 have c2b1 : (t273.toList != ([97, 110, 110, 58, 47, 97, 32, 50, 32, 55, 36, 32] : List UInt8)) = false := bne_eq_false_iff_eq.mpr c2
 clear c2
 replace H := Option.bind_eq_some_iff.mp H
 obtain ⟨t274, A30, H⟩ := H
 replace H : (if t274.toList = ([92, 120, 92] : List UInt8) then ((prompt_Expand.f k (⟨#[]⟩ : ByteArray) y269 y266 zopq ([] : List (S_Alias)) ([] : List (S_Trap)) 0 3 0 0 (⟨#[47, 97]⟩ : ByteArray) 0 0 0 false (⟨#[91, 36, 63, 93, 32, 36, 49, 32, 36, 123, 49, 125, 120, 32, 36, 121, 46]⟩ : ByteArray) 0 0).bind fun t275 => (if t275.toList = ([91, 51, 93, 32, 112, 32, 112, 120, 32, 46] : List UInt8) then ((prompt_Expand.f k (⟨#[]⟩ : ByteArray) y269 y266 zopq ([] : List (S_Alias)) ([] : List (S_Trap)) 0 3 0 0 (⟨#[47, 97]⟩ : ByteArray) 0 0 0 false (⟨#[36, 123, 97, 45, 98, 125, 32, 36, 123]⟩ : ByteArray) 0 0).bind fun t276 => (if t276.toList = ([36, 123, 97, 45, 98, 125, 32, 36, 123] : List UInt8) then ((prompt_First.f k (⟨#[]⟩ : ByteArray) y269 y266 zopq ([] : List (S_Alias)) ([] : List (S_Trap)) 0 3 0 0 (⟨#[47, 97]⟩ : ByteArray) 0 0 0 false 0 0).bind fun t277 => (if t277.toList = ([36, 32] : List UInt8) then ((prompt_Second.f k (⟨#[]⟩ : ByteArray) y269 y266 zopq ([] : List (S_Alias)) ([] : List (S_Trap)) 0 3 0 0 (⟨#[47, 97]⟩ : ByteArray) 0 0 0 false).bind fun t278 => (some (t278.toList == ([62, 32] : List UInt8)))) else (some false))) else (some false))) else (some false))) else (some false)) = some true := H
 have A3 := Aside0.mk A30
 clear A30
 have c4 : t274.toList = ([92, 120, 92] : List UInt8) := by
  refine Classical.byContradiction fun e => ?_
  rw [if_neg e] at H
  exact absurd (Option.some.inj H) (by decide)
 rw [if_pos c4] at H
 have c4b0 : (t274.toList == ([92, 120, 92] : List UInt8)) = true := beq_iff_eq.mpr c4
 have c4b1 : (t274.toList != ([92, 120, 92] : List UInt8)) = false := bne_eq_false_iff_eq.mpr c4
 clear c4
 replace H := Option.bind_eq_some_iff.mp H
 obtain ⟨t275, A50, H⟩ := H
 replace H : (if t275.toList = ([91, 51, 93, 32, 112, 32, 112, 120, 32, 46] : List UInt8) then ((prompt_Expand.f k (⟨#[]⟩ : ByteArray) y269 y266 zopq ([] : List (S_Alias)) ([] : List (S_Trap)) 0 3 0 0 (⟨#[47, 97]⟩ : ByteArray) 0 0 0 false (⟨#[36, 123, 97, 45, 98, 125, 32, 36, 123]⟩ : ByteArray) 0 0).bind fun t276 => (if t276.toList = ([36, 123, 97, 45, 98, 125, 32, 36, 123] : List UInt8) then ((prompt_First.f k (⟨#[]⟩ : ByteArray) y269 y266 zopq ([] : List (S_Alias)) ([] : List (S_Trap)) 0 3 0 0 (⟨#[47, 97]⟩ : ByteArray) 0 0 0 false 0 0).bind fun t277 => (if t277.toList = ([36, 32] : List UInt8) then ((prompt_Second.f k (⟨#[]⟩ : ByteArray) y269 y266 zopq ([] : List (S_Alias)) ([] : List (S_Trap)) 0 3 0 0 (⟨#[47, 97]⟩ : ByteArray) 0 0 0 false).bind fun t278 => (some (t278.toList == ([62, 32] : List UInt8)))) else (some false))) else (some false))) else (some false)) = some true := H
 have A5 := Aside0.mk A50
 clear A50
 have c6 : t275.toList = ([91, 51, 93, 32, 112, 32, 112, 120, 32, 46] : List UInt8) := by
  refine Classical.byContradiction fun e => ?_
  rw [if_neg e] at H
  exact absurd (Option.some.inj H) (by decide)
 rw [if_pos c6] at H
 have c6b0 : (t275.toList == ([91, 51, 93, 32, 112, 32, 112, 120, 32, 46] : List UInt8)) = true := beq_iff_eq.mpr c6
 have c6b1 : (t275.toList != ([91, 51, 93, 32, 112, 32, 112, 120, 32, 46] : List UInt8)) = false := bne_eq_false_iff_eq.mpr c6
 clear c6
 replace H := Option.bind_eq_some_iff.mp H
 obtain ⟨t276, A70, H⟩ := H
 replace H : (if t276.toList = ([36, 123, 97, 45, 98, 125, 32, 36, 123] : List UInt8) then ((prompt_First.f k (⟨#[]⟩ : ByteArray) y269 y266 zopq ([] : List (S_Alias)) ([] : List (S_Trap)) 0 3 0 0 (⟨#[47, 97]⟩ : ByteArray) 0 0 0 false 0 0).bind fun t277 => (if t277.toList = ([36, 32] : List UInt8) then ((prompt_Second.f k (⟨#[]⟩ : ByteArray) y269 y266 zopq ([] : List (S_Alias)) ([] : List (S_Trap)) 0 3 0 0 (⟨#[47, 97]⟩ : ByteArray) 0 0 0 false).bind fun t278 => (some (t278.toList == ([62, 32] : List UInt8)))) else (some false))) else (some false)) = some true := H
 have A7 := Aside0.mk A70
 clear A70
 have c8 : t276.toList = ([36, 123, 97, 45, 98, 125, 32, 36, 123] : List UInt8) := by
  refine Classical.byContradiction fun e => ?_
  rw [if_neg e] at H
  exact absurd (Option.some.inj H) (by decide)
 rw [if_pos c8] at H
 have c8b0 : (t276.toList == ([36, 123, 97, 45, 98, 125, 32, 36, 123] : List UInt8)) = true := beq_iff_eq.mpr c8
 have c8b1 : (t276.toList != ([36, 123, 97, 45, 98, 125, 32, 36, 123] : List UInt8)) = false := bne_eq_false_iff_eq.mpr c8
 clear c8
 replace H := Option.bind_eq_some_iff.mp H
 obtain ⟨t277, A90, H⟩ := H
 replace H : (if t277.toList = ([36, 32] : List UInt8) then ((prompt_Second.f k (⟨#[]⟩ : ByteArray) y269 y266 zopq ([] : List (S_Alias)) ([] : List (S_Trap)) 0 3 0 0 (⟨#[47, 97]⟩ : ByteArray) 0 0 0 false).bind fun t278 => (some (t278.toList == ([62, 32] : List UInt8)))) else (some false)) = some true := H
 have A9 := Aside0.mk A90
 clear A90
 have c10 : t277.toList = ([36, 32] : List UInt8) := by
  refine Classical.byContradiction fun e => ?_
  rw [if_neg e] at H
  exact absurd (Option.some.inj H) (by decide)
 rw [if_pos c10] at H
 have c10b0 : (t277.toList == ([36, 32] : List UInt8)) = true := beq_iff_eq.mpr c10
 have c10b1 : (t277.toList != ([36, 32] : List UInt8)) = false := bne_eq_false_iff_eq.mpr c10
 clear c10
 replace H := Option.bind_eq_some_iff.mp H
 obtain ⟨t278, A110, H⟩ := H
 replace H : (some (t278.toList == ([62, 32] : List UInt8))) = some true := H
 have A11 := Aside0.mk A110
 clear A110
 have c12 := Option.some.inj H
 clear H
 go_enter Tryd.func11, Tryd.ntmps11
 go_wp2_with (first | ((with_reducible refine gate_dst (N := 2) rfl ?_); refine Kd.R_lit Kd.string _ 9 ?hg (N := 2) ?hd (xs := ([(⟨#[112]⟩ : ByteArray)] : List ByteArray)) (inner := [.string (⟨#[112]⟩ : ByteArray)]) (ok := fun _ => True) (okp := fun _ => True) ?hr ?hp (fun _ hk => hk) trivial (Below.refl _ _) (Nat.le_refl _) (by simp) ?_; (case hd => rfl); (case hg => rfl); (case hr => first | (go_simp; done) | (go_simp; rfl)); (case hp => exact (Reps.one (show Kd.M Kd.string _ _ _ (⟨#[112]⟩ : ByteArray) [.string (⟨#[112]⟩ : ByteArray)] from rfl) (Reps.none _ _))); intro v267 w12 ho13 hb hg_ hnew_; clear hg_ hnew_; (first | rw [← Ny266.out] at ho13 | (simp only [Int.reduceToNat] at ho13; rw [← Ny266.out] at ho13)); have n0_ := Aside0.mk (Kd.R_lower ho13 (below_size (by repeat (first | (with_reducible first | exact HB.out | apply below_alloc | apply pw_below_drewN | apply below_drew1) | exact HB.out)))); have n1_ := Aside0.mk (below_step (by repeat (first | (with_reducible first | exact HB.out | apply below_alloc | apply pw_below_drewN | apply below_drew1) | exact HB.out)) hb); clear HB; have HO268 := n0_; have HB := n1_; clear n0_ n1_; clear hb ho13) | ((with_reducible refine gate_dst (N := 4) rfl ?_); refine Kd.R_lit k_Var _ 42 ?hg (N := 4) ?hd (xs := ([(⟨(⟨#[85, 83, 69, 82]⟩ : ByteArray), (⟨#[97, 110, 110]⟩ : ByteArray), true, false, false⟩ : S_Var)] : List (S_Var))) (inner := [.string (⟨#[85, 83, 69, 82]⟩ : ByteArray), .string (⟨#[97, 110, 110]⟩ : ByteArray), .bool true, .bool false, .bool false]) (ok := fun _ => True) (okp := fun _ => True) ?hr ?hp (fun _ hk => hk) trivial (Below.refl _ _) (Nat.le_refl _) (by simp) ?_; (case hd => rfl); (case hg => rfl); (case hr => first | (go_simp; done) | (go_simp; rfl)); (case hp => exact (Reps.c5 (show Kd.M k_Var _ _ _ (⟨(⟨#[85, 83, 69, 82]⟩ : ByteArray), (⟨#[97, 110, 110]⟩ : ByteArray), true, false, false⟩ : S_Var) [.string (⟨#[85, 83, 69, 82]⟩ : ByteArray), .string (⟨#[97, 110, 110]⟩ : ByteArray), .bool true, .bool false, .bool false] from (k_Var_mkM _ _ _ (⟨(⟨#[85, 83, 69, 82]⟩ : ByteArray), (⟨#[97, 110, 110]⟩ : ByteArray), true, false, false⟩ : S_Var) )) (Reps.none _ _))); intro v270 w14 ho15 hb hg_ hnew_; clear hg_ hnew_; (first | rw [← Ny269.out] at ho15 | (simp only [Int.reduceToNat] at ho15; rw [← Ny269.out] at ho15)); have n0_ := Aside0.mk (Kd.R_below (by (with_reducible repeat (first | apply Kd.R_alloc | apply Kd.R_drewN | apply Kd.R_drew)); exact HO268.out) hb); have n1_ := Aside0.mk (Kd.R_lower ho15 (below_size (by repeat (first | (with_reducible first | exact HB.out | apply below_alloc | apply pw_below_drewN | apply below_drew1) | exact HB.out)))); have n2_ := Aside0.mk (below_step (by repeat (first | (with_reducible first | exact HB.out | apply below_alloc | apply pw_below_drewN | apply below_drew1) | exact HB.out)) hb); clear HO268; clear HB; have HO268 := n0_; have HO271 := n1_; have HB := n2_; clear n0_ n1_ n2_; clear hb ho15; obtain ⟨Ao16, co16, eo16⟩ := Kd.R_slice HO268.out; subst eo16; obtain ⟨Ao17, co17, eo17⟩ := Kd.R_slice HO271.out; subst eo17) | ((with_reducible refine gate_dst (N := 1) rfl ?_); refine box_event ?hg (N := 1) ?hd (cs := #[.string (⟨#[]⟩ : ByteArray), .slice none 0 0, .slice none 0 0, .slice none 0 0, .slice none 0 0, .slice none 0 0, .int .i64 0, .int .i64 0, .int .i64 0, .int .i64 0, .string (⟨#[]⟩ : ByteArray), .int .i64 0, .int .i64 0, .int .i64 0, .bool false]) (t := 30) ?hr ?_; (case hd => rfl); (case hg => rfl); (case hr => first | (go_simp; done) | (go_simp; rfl)); intro gb272 hg w18 hbox hb; have n0_ := Aside0.mk (Kd.R_below (by (with_reducible repeat (first | apply Kd.R_alloc | apply Kd.R_drewN | apply Kd.R_drew)); exact HO268.out) hb); have n1_ := Aside0.mk (Kd.R_below (by (with_reducible repeat (first | apply Kd.R_alloc | apply Kd.R_drewN | apply Kd.R_drew)); exact HO271.out) hb); have n2_ := Aside0.mk (below_step (by repeat (first | (with_reducible first | exact HB.out | apply below_alloc | apply pw_below_drewN | apply below_drew1) | exact HB.out)) hb); have n3_ := Aside0.mk (hbox); have n4_ := Aside0.mk ((by rw [hg]; exact (below_size (by repeat (first | (with_reducible first | exact HB.out | apply below_alloc | apply pw_below_drewN | apply below_drew1) | exact HB.out))) : w.heap.size ≤ gb272)); have n5_ := Aside0.mk ((by rw [hg]; exact (below_size (by repeat (first | (with_reducible first | exact HB.out | apply below_alloc | apply pw_below_drewN | apply below_drew1) | exact HB.out))) : w.heap.size ≤ gb272)); clear HO268; clear HO271; clear HB; have HO268 := n0_; have HO271 := n1_; have HB := n2_; have BK272 := n3_; have GW272 := n4_; have GE272 := n5_; clear n0_ n1_ n2_ n3_ n4_ n5_; clear hb hbox hg; have hcz19_0 : w18.cell? ⟨gb272, 0, none⟩ = some (.string (⟨#[]⟩ : ByteArray)) := (blk_cell BK272.out 0).trans rfl; have hcz19_1 : w18.cell? ⟨gb272, 1, none⟩ = some (.slice none 0 0) := (blk_cell BK272.out 1).trans rfl; have hcz19_2 : w18.cell? ⟨gb272, 2, none⟩ = some (.slice none 0 0) := (blk_cell BK272.out 2).trans rfl; have hcz19_3 : w18.cell? ⟨gb272, 3, none⟩ = some (.slice none 0 0) := (blk_cell BK272.out 3).trans rfl; have hcz19_4 : w18.cell? ⟨gb272, 4, none⟩ = some (.slice none 0 0) := (blk_cell BK272.out 4).trans rfl; have hcz19_5 : w18.cell? ⟨gb272, 5, none⟩ = some (.slice none 0 0) := (blk_cell BK272.out 5).trans rfl; have hcz19_6 : w18.cell? ⟨gb272, 6, none⟩ = some (.int .i64 0) := (blk_cell BK272.out 6).trans rfl; have hcz19_7 : w18.cell? ⟨gb272, 7, none⟩ = some (.int .i64 0) := (blk_cell BK272.out 7).trans rfl; have hcz19_8 : w18.cell? ⟨gb272, 8, none⟩ = some (.int .i64 0) := (blk_cell BK272.out 8).trans rfl; have hcz19_9 : w18.cell? ⟨gb272, 9, none⟩ = some (.int .i64 0) := (blk_cell BK272.out 9).trans rfl; have hcz19_10 : w18.cell? ⟨gb272, 10, none⟩ = some (.string (⟨#[]⟩ : ByteArray)) := (blk_cell BK272.out 10).trans rfl; have hcz19_11 : w18.cell? ⟨gb272, 11, none⟩ = some (.int .i64 0) := (blk_cell BK272.out 11).trans rfl; have hcz19_12 : w18.cell? ⟨gb272, 12, none⟩ = some (.int .i64 0) := (blk_cell BK272.out 12).trans rfl; have hcz19_13 : w18.cell? ⟨gb272, 13, none⟩ = some (.int .i64 0) := (blk_cell BK272.out 13).trans rfl; have hcz19_14 : w18.cell? ⟨gb272, 14, none⟩ = some (.bool false) := (blk_cell BK272.out 14).trans rfl; have hfz19_0 := blk_frozen BK272.out 0; have hfz19_1 := blk_frozen BK272.out 1; have hfz19_2 := blk_frozen BK272.out 2; have hfz19_3 := blk_frozen BK272.out 3; have hfz19_4 := blk_frozen BK272.out 4; have hfz19_5 := blk_frozen BK272.out 5; have hfz19_6 := blk_frozen BK272.out 6; have hfz19_7 := blk_frozen BK272.out 7; have hfz19_8 := blk_frozen BK272.out 8; have hfz19_9 := blk_frozen BK272.out 9; have hfz19_10 := blk_frozen BK272.out 10; have hfz19_11 := blk_frozen BK272.out 11; have hfz19_12 := blk_frozen BK272.out 12; have hfz19_13 := blk_frozen BK272.out 13; have hfz19_14 := blk_frozen BK272.out 14) | ((with_reducible refine gate_callee (f := 9) rfl ?_); refine goesL_ (some 7) rfl rfl Tryd.func9 (by kernel_rfl) rfl #[.agg #[.string (⟨#[]⟩ : ByteArray), .slice Ao17 y269.length co17, .slice Ao16 y266.length co16, .slice none 0 0, .slice none 0 0, .slice none 0 0, .int .i64 0, .int .i64 3, .int .i64 0, .int .i64 0, .string (⟨#[47, 97]⟩ : ByteArray), .int .i64 0, .int .i64 0, .int .i64 0, .bool false], .string (⟨#[92, 117, 58, 92, 119, 32, 92, 106, 32, 92, 33, 92, 36, 32]⟩ : ByteArray), .int .i64 2, .int .i64 7] rfl (by (try simp only [List.map_toArray, List.map_cons, List.map_nil]); first | done | rfl | (simp only [List.length_drop, List.length_take]; rfl)) ?_; (with_reducible refine (prompt_Expand.calls0 k (⟨#[]⟩ : ByteArray) _ _ y269 _ _ y266 0 3 0 0 (⟨#[47, 97]⟩ : ByteArray) 0 0 0 false (⟨#[92, 117, 58, 92, 119, 32, 92, 106, 32, 92, 33, 92, 36, 32]⟩ : ByteArray) 2 7 t273 _ ?side1 ?side2 ?side3 ?side4 ?side9 A1.out).mono ?_); (case side1 => refine (Kd.R_reads' (e := 42) (base := w.heap.size) (ok := fun k_ => True) (n := y269.length) (c := co17) ?_).2.2; exact (by (with_reducible repeat (first | apply Kd.R_alloc | apply Kd.R_drewN | apply Kd.R_drew)); exact (Kd.R_mono (Kd.R_far (p := ⟨gb272, 14, none⟩) (Kd.R_far (p := ⟨gb272, 13, none⟩) (Kd.R_far (p := ⟨gb272, 12, none⟩) (Kd.R_far (p := ⟨gb272, 11, none⟩) (Kd.R_far (p := ⟨gb272, 10, none⟩) (Kd.R_far (p := ⟨gb272, 9, none⟩) (Kd.R_far (p := ⟨gb272, 8, none⟩) (Kd.R_far (p := ⟨gb272, 7, none⟩) (Kd.R_far (p := ⟨gb272, 6, none⟩) (Kd.R_far (p := ⟨gb272, 5, none⟩) (Kd.R_far (p := ⟨gb272, 4, none⟩) (Kd.R_far (p := ⟨gb272, 3, none⟩) (Kd.R_far (p := ⟨gb272, 2, none⟩) (Kd.R_far (p := ⟨gb272, 1, none⟩) (Kd.R_far (p := ⟨gb272, 0, none⟩) (Kd.R_types HO271.out BK272.out (by decide)) (fun _ hk => hk.2) (.string (⟨#[]⟩ : ByteArray))) (fun _ hk => hk.2) (.slice Ao17 y269.length co17)) (fun _ hk => hk.2) (.slice Ao16 y266.length co16)) (fun _ hk => hk.2) (.slice none 0 0)) (fun _ hk => hk.2) (.slice none 0 0)) (fun _ hk => hk.2) (.slice none 0 0)) (fun _ hk => hk.2) (.int .i64 0)) (fun _ hk => hk.2) (.int .i64 3)) (fun _ hk => hk.2) (.int .i64 0)) (fun _ hk => hk.2) (.int .i64 0)) (fun _ hk => hk.2) (.string (⟨#[47, 97]⟩ : ByteArray))) (fun _ hk => hk.2) (.int .i64 0)) (fun _ hk => hk.2) (.int .i64 0)) (fun _ hk => hk.2) (.int .i64 0)) (fun _ hk => hk.2) (.bool false)) (fun _ h_ => h_.1)))); (case side2 => exact (Kd.R_reads' HO271.out).2.1); (case side3 => refine (Kd.R_reads' (e := 9) (base := w.heap.size) (ok := fun k_ => True) (n := y266.length) (c := co16) ?_).2.2; exact (by (with_reducible repeat (first | apply Kd.R_alloc | apply Kd.R_drewN | apply Kd.R_drew)); exact (Kd.R_mono (Kd.R_far (p := ⟨gb272, 14, none⟩) (Kd.R_far (p := ⟨gb272, 13, none⟩) (Kd.R_far (p := ⟨gb272, 12, none⟩) (Kd.R_far (p := ⟨gb272, 11, none⟩) (Kd.R_far (p := ⟨gb272, 10, none⟩) (Kd.R_far (p := ⟨gb272, 9, none⟩) (Kd.R_far (p := ⟨gb272, 8, none⟩) (Kd.R_far (p := ⟨gb272, 7, none⟩) (Kd.R_far (p := ⟨gb272, 6, none⟩) (Kd.R_far (p := ⟨gb272, 5, none⟩) (Kd.R_far (p := ⟨gb272, 4, none⟩) (Kd.R_far (p := ⟨gb272, 3, none⟩) (Kd.R_far (p := ⟨gb272, 2, none⟩) (Kd.R_far (p := ⟨gb272, 1, none⟩) (Kd.R_far (p := ⟨gb272, 0, none⟩) (Kd.R_types HO268.out BK272.out (by decide)) (fun _ hk => hk.2) (.string (⟨#[]⟩ : ByteArray))) (fun _ hk => hk.2) (.slice Ao17 y269.length co17)) (fun _ hk => hk.2) (.slice Ao16 y266.length co16)) (fun _ hk => hk.2) (.slice none 0 0)) (fun _ hk => hk.2) (.slice none 0 0)) (fun _ hk => hk.2) (.slice none 0 0)) (fun _ hk => hk.2) (.int .i64 0)) (fun _ hk => hk.2) (.int .i64 3)) (fun _ hk => hk.2) (.int .i64 0)) (fun _ hk => hk.2) (.int .i64 0)) (fun _ hk => hk.2) (.string (⟨#[47, 97]⟩ : ByteArray))) (fun _ hk => hk.2) (.int .i64 0)) (fun _ hk => hk.2) (.int .i64 0)) (fun _ hk => hk.2) (.int .i64 0)) (fun _ hk => hk.2) (.bool false)) (fun _ h_ => h_.1)))); (case side4 => exact (Kd.R_reads' HO268.out).2.1); (case side9 => exact AmbC_below HAMB.out (by repeat (first | (with_reducible first | exact HB.out | apply below_alloc | apply pw_below_drewN | apply below_drew1 | refine below_set ?_ GE272.out) | exact HB.out))); rintro e w20 ⟨rfl, hb⟩; refine ⟨_, rfl, ?_⟩; have n0_ := Aside0.mk (Kd.R_below (by (with_reducible repeat (first | apply Kd.R_alloc | apply Kd.R_drewN | apply Kd.R_drew)); exact (Kd.R_mono (Kd.R_far (p := ⟨gb272, 14, none⟩) (Kd.R_far (p := ⟨gb272, 13, none⟩) (Kd.R_far (p := ⟨gb272, 12, none⟩) (Kd.R_far (p := ⟨gb272, 11, none⟩) (Kd.R_far (p := ⟨gb272, 10, none⟩) (Kd.R_far (p := ⟨gb272, 9, none⟩) (Kd.R_far (p := ⟨gb272, 8, none⟩) (Kd.R_far (p := ⟨gb272, 7, none⟩) (Kd.R_far (p := ⟨gb272, 6, none⟩) (Kd.R_far (p := ⟨gb272, 5, none⟩) (Kd.R_far (p := ⟨gb272, 4, none⟩) (Kd.R_far (p := ⟨gb272, 3, none⟩) (Kd.R_far (p := ⟨gb272, 2, none⟩) (Kd.R_far (p := ⟨gb272, 1, none⟩) (Kd.R_far (p := ⟨gb272, 0, none⟩) (Kd.R_types HO268.out BK272.out (by decide)) (fun _ hk => hk.2) (.string (⟨#[]⟩ : ByteArray))) (fun _ hk => hk.2) (.slice Ao17 y269.length co17)) (fun _ hk => hk.2) (.slice Ao16 y266.length co16)) (fun _ hk => hk.2) (.slice none 0 0)) (fun _ hk => hk.2) (.slice none 0 0)) (fun _ hk => hk.2) (.slice none 0 0)) (fun _ hk => hk.2) (.int .i64 0)) (fun _ hk => hk.2) (.int .i64 3)) (fun _ hk => hk.2) (.int .i64 0)) (fun _ hk => hk.2) (.int .i64 0)) (fun _ hk => hk.2) (.string (⟨#[47, 97]⟩ : ByteArray))) (fun _ hk => hk.2) (.int .i64 0)) (fun _ hk => hk.2) (.int .i64 0)) (fun _ hk => hk.2) (.int .i64 0)) (fun _ hk => hk.2) (.bool false)) (fun _ h_ => h_.1))) hb); have n1_ := Aside0.mk (Kd.R_below (by (with_reducible repeat (first | apply Kd.R_alloc | apply Kd.R_drewN | apply Kd.R_drew)); exact (Kd.R_mono (Kd.R_far (p := ⟨gb272, 14, none⟩) (Kd.R_far (p := ⟨gb272, 13, none⟩) (Kd.R_far (p := ⟨gb272, 12, none⟩) (Kd.R_far (p := ⟨gb272, 11, none⟩) (Kd.R_far (p := ⟨gb272, 10, none⟩) (Kd.R_far (p := ⟨gb272, 9, none⟩) (Kd.R_far (p := ⟨gb272, 8, none⟩) (Kd.R_far (p := ⟨gb272, 7, none⟩) (Kd.R_far (p := ⟨gb272, 6, none⟩) (Kd.R_far (p := ⟨gb272, 5, none⟩) (Kd.R_far (p := ⟨gb272, 4, none⟩) (Kd.R_far (p := ⟨gb272, 3, none⟩) (Kd.R_far (p := ⟨gb272, 2, none⟩) (Kd.R_far (p := ⟨gb272, 1, none⟩) (Kd.R_far (p := ⟨gb272, 0, none⟩) (Kd.R_types HO271.out BK272.out (by decide)) (fun _ hk => hk.2) (.string (⟨#[]⟩ : ByteArray))) (fun _ hk => hk.2) (.slice Ao17 y269.length co17)) (fun _ hk => hk.2) (.slice Ao16 y266.length co16)) (fun _ hk => hk.2) (.slice none 0 0)) (fun _ hk => hk.2) (.slice none 0 0)) (fun _ hk => hk.2) (.slice none 0 0)) (fun _ hk => hk.2) (.int .i64 0)) (fun _ hk => hk.2) (.int .i64 3)) (fun _ hk => hk.2) (.int .i64 0)) (fun _ hk => hk.2) (.int .i64 0)) (fun _ hk => hk.2) (.string (⟨#[47, 97]⟩ : ByteArray))) (fun _ hk => hk.2) (.int .i64 0)) (fun _ hk => hk.2) (.int .i64 0)) (fun _ hk => hk.2) (.int .i64 0)) (fun _ hk => hk.2) (.bool false)) (fun _ h_ => h_.1))) hb); have n2_ := Aside0.mk (blk_below (g := gb272) (o := .cells #[.string (⟨#[]⟩ : ByteArray), .slice Ao17 y269.length co17, .slice Ao16 y266.length co16, .slice none 0 0, .slice none 0 0, .slice none 0 0, .int .i64 0, .int .i64 3, .int .i64 0, .int .i64 0, .string (⟨#[47, 97]⟩ : ByteArray), .int .i64 0, .int .i64 0, .int .i64 0, .bool false] 30 (0, 0)) (by (with_reducible repeat (first | refine blk_drewN ?_ _ | refine blk_drew ?_ | refine blk_alloc ?_ _)); refine blk_put (cs := #[.string (⟨#[]⟩ : ByteArray), .slice Ao17 y269.length co17, .slice Ao16 y266.length co16, .slice none 0 0, .slice none 0 0, .slice none 0 0, .int .i64 0, .int .i64 3, .int .i64 0, .int .i64 0, .string (⟨#[47, 97]⟩ : ByteArray), .int .i64 0, .int .i64 0, .int .i64 0, .bool false]) ?_ 14 _ rfl; (with_reducible repeat (first | refine blk_drewN ?_ _ | refine blk_drew ?_ | refine blk_alloc ?_ _)); refine blk_put (cs := #[.string (⟨#[]⟩ : ByteArray), .slice Ao17 y269.length co17, .slice Ao16 y266.length co16, .slice none 0 0, .slice none 0 0, .slice none 0 0, .int .i64 0, .int .i64 3, .int .i64 0, .int .i64 0, .string (⟨#[47, 97]⟩ : ByteArray), .int .i64 0, .int .i64 0, .int .i64 0, .bool false]) ?_ 13 _ rfl; (with_reducible repeat (first | refine blk_drewN ?_ _ | refine blk_drew ?_ | refine blk_alloc ?_ _)); refine blk_put (cs := #[.string (⟨#[]⟩ : ByteArray), .slice Ao17 y269.length co17, .slice Ao16 y266.length co16, .slice none 0 0, .slice none 0 0, .slice none 0 0, .int .i64 0, .int .i64 3, .int .i64 0, .int .i64 0, .string (⟨#[47, 97]⟩ : ByteArray), .int .i64 0, .int .i64 0, .int .i64 0, .bool false]) ?_ 12 _ rfl; (with_reducible repeat (first | refine blk_drewN ?_ _ | refine blk_drew ?_ | refine blk_alloc ?_ _)); refine blk_put (cs := #[.string (⟨#[]⟩ : ByteArray), .slice Ao17 y269.length co17, .slice Ao16 y266.length co16, .slice none 0 0, .slice none 0 0, .slice none 0 0, .int .i64 0, .int .i64 3, .int .i64 0, .int .i64 0, .string (⟨#[47, 97]⟩ : ByteArray), .int .i64 0, .int .i64 0, .int .i64 0, .bool false]) ?_ 11 _ rfl; (with_reducible repeat (first | refine blk_drewN ?_ _ | refine blk_drew ?_ | refine blk_alloc ?_ _)); refine blk_put (cs := #[.string (⟨#[]⟩ : ByteArray), .slice Ao17 y269.length co17, .slice Ao16 y266.length co16, .slice none 0 0, .slice none 0 0, .slice none 0 0, .int .i64 0, .int .i64 3, .int .i64 0, .int .i64 0, .string (⟨#[]⟩ : ByteArray), .int .i64 0, .int .i64 0, .int .i64 0, .bool false]) ?_ 10 _ rfl; (with_reducible repeat (first | refine blk_drewN ?_ _ | refine blk_drew ?_ | refine blk_alloc ?_ _)); refine blk_put (cs := #[.string (⟨#[]⟩ : ByteArray), .slice Ao17 y269.length co17, .slice Ao16 y266.length co16, .slice none 0 0, .slice none 0 0, .slice none 0 0, .int .i64 0, .int .i64 3, .int .i64 0, .int .i64 0, .string (⟨#[]⟩ : ByteArray), .int .i64 0, .int .i64 0, .int .i64 0, .bool false]) ?_ 9 _ rfl; (with_reducible repeat (first | refine blk_drewN ?_ _ | refine blk_drew ?_ | refine blk_alloc ?_ _)); refine blk_put (cs := #[.string (⟨#[]⟩ : ByteArray), .slice Ao17 y269.length co17, .slice Ao16 y266.length co16, .slice none 0 0, .slice none 0 0, .slice none 0 0, .int .i64 0, .int .i64 3, .int .i64 0, .int .i64 0, .string (⟨#[]⟩ : ByteArray), .int .i64 0, .int .i64 0, .int .i64 0, .bool false]) ?_ 8 _ rfl; (with_reducible repeat (first | refine blk_drewN ?_ _ | refine blk_drew ?_ | refine blk_alloc ?_ _)); refine blk_put (cs := #[.string (⟨#[]⟩ : ByteArray), .slice Ao17 y269.length co17, .slice Ao16 y266.length co16, .slice none 0 0, .slice none 0 0, .slice none 0 0, .int .i64 0, .int .i64 0, .int .i64 0, .int .i64 0, .string (⟨#[]⟩ : ByteArray), .int .i64 0, .int .i64 0, .int .i64 0, .bool false]) ?_ 7 _ rfl; (with_reducible repeat (first | refine blk_drewN ?_ _ | refine blk_drew ?_ | refine blk_alloc ?_ _)); refine blk_put (cs := #[.string (⟨#[]⟩ : ByteArray), .slice Ao17 y269.length co17, .slice Ao16 y266.length co16, .slice none 0 0, .slice none 0 0, .slice none 0 0, .int .i64 0, .int .i64 0, .int .i64 0, .int .i64 0, .string (⟨#[]⟩ : ByteArray), .int .i64 0, .int .i64 0, .int .i64 0, .bool false]) ?_ 6 _ rfl; (with_reducible repeat (first | refine blk_drewN ?_ _ | refine blk_drew ?_ | refine blk_alloc ?_ _)); refine blk_put (cs := #[.string (⟨#[]⟩ : ByteArray), .slice Ao17 y269.length co17, .slice Ao16 y266.length co16, .slice none 0 0, .slice none 0 0, .slice none 0 0, .int .i64 0, .int .i64 0, .int .i64 0, .int .i64 0, .string (⟨#[]⟩ : ByteArray), .int .i64 0, .int .i64 0, .int .i64 0, .bool false]) ?_ 5 _ rfl; (with_reducible repeat (first | refine blk_drewN ?_ _ | refine blk_drew ?_ | refine blk_alloc ?_ _)); refine blk_put (cs := #[.string (⟨#[]⟩ : ByteArray), .slice Ao17 y269.length co17, .slice Ao16 y266.length co16, .slice none 0 0, .slice none 0 0, .slice none 0 0, .int .i64 0, .int .i64 0, .int .i64 0, .int .i64 0, .string (⟨#[]⟩ : ByteArray), .int .i64 0, .int .i64 0, .int .i64 0, .bool false]) ?_ 4 _ rfl; (with_reducible repeat (first | refine blk_drewN ?_ _ | refine blk_drew ?_ | refine blk_alloc ?_ _)); refine blk_put (cs := #[.string (⟨#[]⟩ : ByteArray), .slice Ao17 y269.length co17, .slice Ao16 y266.length co16, .slice none 0 0, .slice none 0 0, .slice none 0 0, .int .i64 0, .int .i64 0, .int .i64 0, .int .i64 0, .string (⟨#[]⟩ : ByteArray), .int .i64 0, .int .i64 0, .int .i64 0, .bool false]) ?_ 3 _ rfl; (with_reducible repeat (first | refine blk_drewN ?_ _ | refine blk_drew ?_ | refine blk_alloc ?_ _)); refine blk_put (cs := #[.string (⟨#[]⟩ : ByteArray), .slice Ao17 y269.length co17, .slice none 0 0, .slice none 0 0, .slice none 0 0, .slice none 0 0, .int .i64 0, .int .i64 0, .int .i64 0, .int .i64 0, .string (⟨#[]⟩ : ByteArray), .int .i64 0, .int .i64 0, .int .i64 0, .bool false]) ?_ 2 _ rfl; (with_reducible repeat (first | refine blk_drewN ?_ _ | refine blk_drew ?_ | refine blk_alloc ?_ _)); refine blk_put (cs := #[.string (⟨#[]⟩ : ByteArray), .slice none 0 0, .slice none 0 0, .slice none 0 0, .slice none 0 0, .slice none 0 0, .int .i64 0, .int .i64 0, .int .i64 0, .int .i64 0, .string (⟨#[]⟩ : ByteArray), .int .i64 0, .int .i64 0, .int .i64 0, .bool false]) ?_ 1 _ rfl; (with_reducible repeat (first | refine blk_drewN ?_ _ | refine blk_drew ?_ | refine blk_alloc ?_ _)); refine blk_put (cs := #[.string (⟨#[]⟩ : ByteArray), .slice none 0 0, .slice none 0 0, .slice none 0 0, .slice none 0 0, .slice none 0 0, .int .i64 0, .int .i64 0, .int .i64 0, .int .i64 0, .string (⟨#[]⟩ : ByteArray), .int .i64 0, .int .i64 0, .int .i64 0, .bool false]) ?_ 0 _ rfl; (with_reducible repeat (first | refine blk_drewN ?_ _ | refine blk_drew ?_ | refine blk_alloc ?_ _)); exact BK272.out) hb); have n3_ := Aside0.mk (below_step (by repeat (first | (with_reducible first | exact HB.out | apply below_alloc | apply pw_below_drewN | apply below_drew1 | refine below_set ?_ GE272.out) | exact HB.out)) hb); clear HO268; clear HO271; clear BK272; clear HB; have HO268 := n0_; have HO271 := n1_; have BK272 := n2_; have HB := n3_; clear n0_ n1_ n2_ n3_; (try clear hb); (try clear hb2); (try clear hk); (try clear hi); have hcz21_0 : w20.cell? ⟨gb272, 0, none⟩ = some (.string (⟨#[]⟩ : ByteArray)) := (blk_cell BK272.out 0).trans rfl; have hcz21_1 : w20.cell? ⟨gb272, 1, none⟩ = some (.slice Ao17 y269.length co17) := (blk_cell BK272.out 1).trans rfl; have hcz21_2 : w20.cell? ⟨gb272, 2, none⟩ = some (.slice Ao16 y266.length co16) := (blk_cell BK272.out 2).trans rfl; have hcz21_3 : w20.cell? ⟨gb272, 3, none⟩ = some (.slice none 0 0) := (blk_cell BK272.out 3).trans rfl; have hcz21_4 : w20.cell? ⟨gb272, 4, none⟩ = some (.slice none 0 0) := (blk_cell BK272.out 4).trans rfl; have hcz21_5 : w20.cell? ⟨gb272, 5, none⟩ = some (.slice none 0 0) := (blk_cell BK272.out 5).trans rfl; have hcz21_6 : w20.cell? ⟨gb272, 6, none⟩ = some (.int .i64 0) := (blk_cell BK272.out 6).trans rfl; have hcz21_7 : w20.cell? ⟨gb272, 7, none⟩ = some (.int .i64 3) := (blk_cell BK272.out 7).trans rfl; have hcz21_8 : w20.cell? ⟨gb272, 8, none⟩ = some (.int .i64 0) := (blk_cell BK272.out 8).trans rfl; have hcz21_9 : w20.cell? ⟨gb272, 9, none⟩ = some (.int .i64 0) := (blk_cell BK272.out 9).trans rfl; have hcz21_10 : w20.cell? ⟨gb272, 10, none⟩ = some (.string (⟨#[47, 97]⟩ : ByteArray)) := (blk_cell BK272.out 10).trans rfl; have hcz21_11 : w20.cell? ⟨gb272, 11, none⟩ = some (.int .i64 0) := (blk_cell BK272.out 11).trans rfl; have hcz21_12 : w20.cell? ⟨gb272, 12, none⟩ = some (.int .i64 0) := (blk_cell BK272.out 12).trans rfl; have hcz21_13 : w20.cell? ⟨gb272, 13, none⟩ = some (.int .i64 0) := (blk_cell BK272.out 13).trans rfl; have hcz21_14 : w20.cell? ⟨gb272, 14, none⟩ = some (.bool false) := (blk_cell BK272.out 14).trans rfl; have hfz21_0 := blk_frozen BK272.out 0; have hfz21_1 := blk_frozen BK272.out 1; have hfz21_2 := blk_frozen BK272.out 2; have hfz21_3 := blk_frozen BK272.out 3; have hfz21_4 := blk_frozen BK272.out 4; have hfz21_5 := blk_frozen BK272.out 5; have hfz21_6 := blk_frozen BK272.out 6; have hfz21_7 := blk_frozen BK272.out 7; have hfz21_8 := blk_frozen BK272.out 8; have hfz21_9 := blk_frozen BK272.out 9; have hfz21_10 := blk_frozen BK272.out 10; have hfz21_11 := blk_frozen BK272.out 11; have hfz21_12 := blk_frozen BK272.out 12; have hfz21_13 := blk_frozen BK272.out 13; have hfz21_14 := blk_frozen BK272.out 14) | (go_at_call 9; (with_reducible refine (prompt_Expand.calls0 k (⟨#[]⟩ : ByteArray) _ _ y269 _ _ y266 0 3 0 0 (⟨#[47, 97]⟩ : ByteArray) 0 0 0 false (⟨#[92, 120, 92]⟩ : ByteArray) 0 0 t274 _ ?side1 ?side2 ?side3 ?side4 ?side9 A3.out).mono ?_); (case side1 => repeat (first | exact (Kd.R_reads' HO271.out).2.2 | (with_reducible refine Kd.C_alloc ?_ _) | (with_reducible refine Kd.C_drewN ?_ _) | (with_reducible refine Kd.C_drew ?_))); (case side2 => exact (Kd.R_reads' HO271.out).2.1); (case side3 => repeat (first | exact (Kd.R_reads' HO268.out).2.2 | (with_reducible refine Kd.C_alloc ?_ _) | (with_reducible refine Kd.C_drewN ?_ _) | (with_reducible refine Kd.C_drew ?_))); (case side4 => exact (Kd.R_reads' HO268.out).2.1); (case side9 => repeat (first | exact (AmbC_below HAMB.out HB.out) | (with_reducible refine AmbC_alloc ?_ _) | (with_reducible refine AmbC_drewN ?_ _) | (with_reducible refine AmbC_drew ?_))); rintro e w22 ⟨rfl, hb⟩; have n0_ := Aside0.mk (Kd.R_below (by (with_reducible repeat (first | apply Kd.R_alloc | apply Kd.R_drewN | apply Kd.R_drew)); exact HO268.out) hb); have n1_ := Aside0.mk (Kd.R_below (by (with_reducible repeat (first | apply Kd.R_alloc | apply Kd.R_drewN | apply Kd.R_drew)); exact HO271.out) hb); have n2_ := Aside0.mk (blk_below (g := gb272) (o := .cells #[.string (⟨#[]⟩ : ByteArray), .slice Ao17 y269.length co17, .slice Ao16 y266.length co16, .slice none 0 0, .slice none 0 0, .slice none 0 0, .int .i64 0, .int .i64 3, .int .i64 0, .int .i64 0, .string (⟨#[47, 97]⟩ : ByteArray), .int .i64 0, .int .i64 0, .int .i64 0, .bool false] 30 (0, 0)) (by (with_reducible repeat (first | refine blk_drewN ?_ _ | refine blk_drew ?_ | refine blk_alloc ?_ _)); exact BK272.out) hb); have n3_ := Aside0.mk (below_step (by repeat (first | (with_reducible first | exact HB.out | apply below_alloc | apply pw_below_drewN | apply below_drew1 | refine below_set ?_ GE272.out) | exact HB.out)) hb); clear HO268; clear HO271; clear BK272; clear HB; have HO268 := n0_; have HO271 := n1_; have BK272 := n2_; have HB := n3_; clear n0_ n1_ n2_ n3_; (try clear hb); (try clear hb2); (try clear hk); (try clear hi); have hcz23_0 : w22.cell? ⟨gb272, 0, none⟩ = some (.string (⟨#[]⟩ : ByteArray)) := (blk_cell BK272.out 0).trans rfl; have hcz23_1 : w22.cell? ⟨gb272, 1, none⟩ = some (.slice Ao17 y269.length co17) := (blk_cell BK272.out 1).trans rfl; have hcz23_2 : w22.cell? ⟨gb272, 2, none⟩ = some (.slice Ao16 y266.length co16) := (blk_cell BK272.out 2).trans rfl; have hcz23_3 : w22.cell? ⟨gb272, 3, none⟩ = some (.slice none 0 0) := (blk_cell BK272.out 3).trans rfl; have hcz23_4 : w22.cell? ⟨gb272, 4, none⟩ = some (.slice none 0 0) := (blk_cell BK272.out 4).trans rfl; have hcz23_5 : w22.cell? ⟨gb272, 5, none⟩ = some (.slice none 0 0) := (blk_cell BK272.out 5).trans rfl; have hcz23_6 : w22.cell? ⟨gb272, 6, none⟩ = some (.int .i64 0) := (blk_cell BK272.out 6).trans rfl; have hcz23_7 : w22.cell? ⟨gb272, 7, none⟩ = some (.int .i64 3) := (blk_cell BK272.out 7).trans rfl; have hcz23_8 : w22.cell? ⟨gb272, 8, none⟩ = some (.int .i64 0) := (blk_cell BK272.out 8).trans rfl; have hcz23_9 : w22.cell? ⟨gb272, 9, none⟩ = some (.int .i64 0) := (blk_cell BK272.out 9).trans rfl; have hcz23_10 : w22.cell? ⟨gb272, 10, none⟩ = some (.string (⟨#[47, 97]⟩ : ByteArray)) := (blk_cell BK272.out 10).trans rfl; have hcz23_11 : w22.cell? ⟨gb272, 11, none⟩ = some (.int .i64 0) := (blk_cell BK272.out 11).trans rfl; have hcz23_12 : w22.cell? ⟨gb272, 12, none⟩ = some (.int .i64 0) := (blk_cell BK272.out 12).trans rfl; have hcz23_13 : w22.cell? ⟨gb272, 13, none⟩ = some (.int .i64 0) := (blk_cell BK272.out 13).trans rfl; have hcz23_14 : w22.cell? ⟨gb272, 14, none⟩ = some (.bool false) := (blk_cell BK272.out 14).trans rfl; have hfz23_0 := blk_frozen BK272.out 0; have hfz23_1 := blk_frozen BK272.out 1; have hfz23_2 := blk_frozen BK272.out 2; have hfz23_3 := blk_frozen BK272.out 3; have hfz23_4 := blk_frozen BK272.out 4; have hfz23_5 := blk_frozen BK272.out 5; have hfz23_6 := blk_frozen BK272.out 6; have hfz23_7 := blk_frozen BK272.out 7; have hfz23_8 := blk_frozen BK272.out 8; have hfz23_9 := blk_frozen BK272.out 9; have hfz23_10 := blk_frozen BK272.out 10; have hfz23_11 := blk_frozen BK272.out 11; have hfz23_12 := blk_frozen BK272.out 12; have hfz23_13 := blk_frozen BK272.out 13; have hfz23_14 := blk_frozen BK272.out 14) | (go_at_call 9; (with_reducible refine (prompt_Expand.calls0 k (⟨#[]⟩ : ByteArray) _ _ y269 _ _ y266 0 3 0 0 (⟨#[47, 97]⟩ : ByteArray) 0 0 0 false (⟨#[91, 36, 63, 93, 32, 36, 49, 32, 36, 123, 49, 125, 120, 32, 36, 121, 46]⟩ : ByteArray) 0 0 t275 _ ?side1 ?side2 ?side3 ?side4 ?side9 A5.out).mono ?_); (case side1 => repeat (first | exact (Kd.R_reads' HO271.out).2.2 | (with_reducible refine Kd.C_alloc ?_ _) | (with_reducible refine Kd.C_drewN ?_ _) | (with_reducible refine Kd.C_drew ?_))); (case side2 => exact (Kd.R_reads' HO271.out).2.1); (case side3 => repeat (first | exact (Kd.R_reads' HO268.out).2.2 | (with_reducible refine Kd.C_alloc ?_ _) | (with_reducible refine Kd.C_drewN ?_ _) | (with_reducible refine Kd.C_drew ?_))); (case side4 => exact (Kd.R_reads' HO268.out).2.1); (case side9 => repeat (first | exact (AmbC_below HAMB.out HB.out) | (with_reducible refine AmbC_alloc ?_ _) | (with_reducible refine AmbC_drewN ?_ _) | (with_reducible refine AmbC_drew ?_))); rintro e w24 ⟨rfl, hb⟩; have n0_ := Aside0.mk (Kd.R_below (by (with_reducible repeat (first | apply Kd.R_alloc | apply Kd.R_drewN | apply Kd.R_drew)); exact HO268.out) hb); have n1_ := Aside0.mk (Kd.R_below (by (with_reducible repeat (first | apply Kd.R_alloc | apply Kd.R_drewN | apply Kd.R_drew)); exact HO271.out) hb); have n2_ := Aside0.mk (blk_below (g := gb272) (o := .cells #[.string (⟨#[]⟩ : ByteArray), .slice Ao17 y269.length co17, .slice Ao16 y266.length co16, .slice none 0 0, .slice none 0 0, .slice none 0 0, .int .i64 0, .int .i64 3, .int .i64 0, .int .i64 0, .string (⟨#[47, 97]⟩ : ByteArray), .int .i64 0, .int .i64 0, .int .i64 0, .bool false] 30 (0, 0)) (by (with_reducible repeat (first | refine blk_drewN ?_ _ | refine blk_drew ?_ | refine blk_alloc ?_ _)); exact BK272.out) hb); have n3_ := Aside0.mk (below_step (by repeat (first | (with_reducible first | exact HB.out | apply below_alloc | apply pw_below_drewN | apply below_drew1 | refine below_set ?_ GE272.out) | exact HB.out)) hb); clear HO268; clear HO271; clear BK272; clear HB; have HO268 := n0_; have HO271 := n1_; have BK272 := n2_; have HB := n3_; clear n0_ n1_ n2_ n3_; (try clear hb); (try clear hb2); (try clear hk); (try clear hi); have hcz25_0 : w24.cell? ⟨gb272, 0, none⟩ = some (.string (⟨#[]⟩ : ByteArray)) := (blk_cell BK272.out 0).trans rfl; have hcz25_1 : w24.cell? ⟨gb272, 1, none⟩ = some (.slice Ao17 y269.length co17) := (blk_cell BK272.out 1).trans rfl; have hcz25_2 : w24.cell? ⟨gb272, 2, none⟩ = some (.slice Ao16 y266.length co16) := (blk_cell BK272.out 2).trans rfl; have hcz25_3 : w24.cell? ⟨gb272, 3, none⟩ = some (.slice none 0 0) := (blk_cell BK272.out 3).trans rfl; have hcz25_4 : w24.cell? ⟨gb272, 4, none⟩ = some (.slice none 0 0) := (blk_cell BK272.out 4).trans rfl; have hcz25_5 : w24.cell? ⟨gb272, 5, none⟩ = some (.slice none 0 0) := (blk_cell BK272.out 5).trans rfl; have hcz25_6 : w24.cell? ⟨gb272, 6, none⟩ = some (.int .i64 0) := (blk_cell BK272.out 6).trans rfl; have hcz25_7 : w24.cell? ⟨gb272, 7, none⟩ = some (.int .i64 3) := (blk_cell BK272.out 7).trans rfl; have hcz25_8 : w24.cell? ⟨gb272, 8, none⟩ = some (.int .i64 0) := (blk_cell BK272.out 8).trans rfl; have hcz25_9 : w24.cell? ⟨gb272, 9, none⟩ = some (.int .i64 0) := (blk_cell BK272.out 9).trans rfl; have hcz25_10 : w24.cell? ⟨gb272, 10, none⟩ = some (.string (⟨#[47, 97]⟩ : ByteArray)) := (blk_cell BK272.out 10).trans rfl; have hcz25_11 : w24.cell? ⟨gb272, 11, none⟩ = some (.int .i64 0) := (blk_cell BK272.out 11).trans rfl; have hcz25_12 : w24.cell? ⟨gb272, 12, none⟩ = some (.int .i64 0) := (blk_cell BK272.out 12).trans rfl; have hcz25_13 : w24.cell? ⟨gb272, 13, none⟩ = some (.int .i64 0) := (blk_cell BK272.out 13).trans rfl; have hcz25_14 : w24.cell? ⟨gb272, 14, none⟩ = some (.bool false) := (blk_cell BK272.out 14).trans rfl; have hfz25_0 := blk_frozen BK272.out 0; have hfz25_1 := blk_frozen BK272.out 1; have hfz25_2 := blk_frozen BK272.out 2; have hfz25_3 := blk_frozen BK272.out 3; have hfz25_4 := blk_frozen BK272.out 4; have hfz25_5 := blk_frozen BK272.out 5; have hfz25_6 := blk_frozen BK272.out 6; have hfz25_7 := blk_frozen BK272.out 7; have hfz25_8 := blk_frozen BK272.out 8; have hfz25_9 := blk_frozen BK272.out 9; have hfz25_10 := blk_frozen BK272.out 10; have hfz25_11 := blk_frozen BK272.out 11; have hfz25_12 := blk_frozen BK272.out 12; have hfz25_13 := blk_frozen BK272.out 13; have hfz25_14 := blk_frozen BK272.out 14) | (go_at_call 9; (with_reducible refine (prompt_Expand.calls0 k (⟨#[]⟩ : ByteArray) _ _ y269 _ _ y266 0 3 0 0 (⟨#[47, 97]⟩ : ByteArray) 0 0 0 false (⟨#[36, 123, 97, 45, 98, 125, 32, 36, 123]⟩ : ByteArray) 0 0 t276 _ ?side1 ?side2 ?side3 ?side4 ?side9 A7.out).mono ?_); (case side1 => repeat (first | exact (Kd.R_reads' HO271.out).2.2 | (with_reducible refine Kd.C_alloc ?_ _) | (with_reducible refine Kd.C_drewN ?_ _) | (with_reducible refine Kd.C_drew ?_))); (case side2 => exact (Kd.R_reads' HO271.out).2.1); (case side3 => repeat (first | exact (Kd.R_reads' HO268.out).2.2 | (with_reducible refine Kd.C_alloc ?_ _) | (with_reducible refine Kd.C_drewN ?_ _) | (with_reducible refine Kd.C_drew ?_))); (case side4 => exact (Kd.R_reads' HO268.out).2.1); (case side9 => repeat (first | exact (AmbC_below HAMB.out HB.out) | (with_reducible refine AmbC_alloc ?_ _) | (with_reducible refine AmbC_drewN ?_ _) | (with_reducible refine AmbC_drew ?_))); rintro e w26 ⟨rfl, hb⟩; have n0_ := Aside0.mk (Kd.R_below (by (with_reducible repeat (first | apply Kd.R_alloc | apply Kd.R_drewN | apply Kd.R_drew)); exact HO268.out) hb); have n1_ := Aside0.mk (Kd.R_below (by (with_reducible repeat (first | apply Kd.R_alloc | apply Kd.R_drewN | apply Kd.R_drew)); exact HO271.out) hb); have n2_ := Aside0.mk (blk_below (g := gb272) (o := .cells #[.string (⟨#[]⟩ : ByteArray), .slice Ao17 y269.length co17, .slice Ao16 y266.length co16, .slice none 0 0, .slice none 0 0, .slice none 0 0, .int .i64 0, .int .i64 3, .int .i64 0, .int .i64 0, .string (⟨#[47, 97]⟩ : ByteArray), .int .i64 0, .int .i64 0, .int .i64 0, .bool false] 30 (0, 0)) (by (with_reducible repeat (first | refine blk_drewN ?_ _ | refine blk_drew ?_ | refine blk_alloc ?_ _)); exact BK272.out) hb); have n3_ := Aside0.mk (below_step (by repeat (first | (with_reducible first | exact HB.out | apply below_alloc | apply pw_below_drewN | apply below_drew1 | refine below_set ?_ GE272.out) | exact HB.out)) hb); clear HO268; clear HO271; clear BK272; clear HB; have HO268 := n0_; have HO271 := n1_; have BK272 := n2_; have HB := n3_; clear n0_ n1_ n2_ n3_; (try clear hb); (try clear hb2); (try clear hk); (try clear hi); have hcz27_0 : w26.cell? ⟨gb272, 0, none⟩ = some (.string (⟨#[]⟩ : ByteArray)) := (blk_cell BK272.out 0).trans rfl; have hcz27_1 : w26.cell? ⟨gb272, 1, none⟩ = some (.slice Ao17 y269.length co17) := (blk_cell BK272.out 1).trans rfl; have hcz27_2 : w26.cell? ⟨gb272, 2, none⟩ = some (.slice Ao16 y266.length co16) := (blk_cell BK272.out 2).trans rfl; have hcz27_3 : w26.cell? ⟨gb272, 3, none⟩ = some (.slice none 0 0) := (blk_cell BK272.out 3).trans rfl; have hcz27_4 : w26.cell? ⟨gb272, 4, none⟩ = some (.slice none 0 0) := (blk_cell BK272.out 4).trans rfl; have hcz27_5 : w26.cell? ⟨gb272, 5, none⟩ = some (.slice none 0 0) := (blk_cell BK272.out 5).trans rfl; have hcz27_6 : w26.cell? ⟨gb272, 6, none⟩ = some (.int .i64 0) := (blk_cell BK272.out 6).trans rfl; have hcz27_7 : w26.cell? ⟨gb272, 7, none⟩ = some (.int .i64 3) := (blk_cell BK272.out 7).trans rfl; have hcz27_8 : w26.cell? ⟨gb272, 8, none⟩ = some (.int .i64 0) := (blk_cell BK272.out 8).trans rfl; have hcz27_9 : w26.cell? ⟨gb272, 9, none⟩ = some (.int .i64 0) := (blk_cell BK272.out 9).trans rfl; have hcz27_10 : w26.cell? ⟨gb272, 10, none⟩ = some (.string (⟨#[47, 97]⟩ : ByteArray)) := (blk_cell BK272.out 10).trans rfl; have hcz27_11 : w26.cell? ⟨gb272, 11, none⟩ = some (.int .i64 0) := (blk_cell BK272.out 11).trans rfl; have hcz27_12 : w26.cell? ⟨gb272, 12, none⟩ = some (.int .i64 0) := (blk_cell BK272.out 12).trans rfl; have hcz27_13 : w26.cell? ⟨gb272, 13, none⟩ = some (.int .i64 0) := (blk_cell BK272.out 13).trans rfl; have hcz27_14 : w26.cell? ⟨gb272, 14, none⟩ = some (.bool false) := (blk_cell BK272.out 14).trans rfl; have hfz27_0 := blk_frozen BK272.out 0; have hfz27_1 := blk_frozen BK272.out 1; have hfz27_2 := blk_frozen BK272.out 2; have hfz27_3 := blk_frozen BK272.out 3; have hfz27_4 := blk_frozen BK272.out 4; have hfz27_5 := blk_frozen BK272.out 5; have hfz27_6 := blk_frozen BK272.out 6; have hfz27_7 := blk_frozen BK272.out 7; have hfz27_8 := blk_frozen BK272.out 8; have hfz27_9 := blk_frozen BK272.out 9; have hfz27_10 := blk_frozen BK272.out 10; have hfz27_11 := blk_frozen BK272.out 11; have hfz27_12 := blk_frozen BK272.out 12; have hfz27_13 := blk_frozen BK272.out 13; have hfz27_14 := blk_frozen BK272.out 14) | (go_at_call 12; (with_reducible refine (prompt_First.calls0 k (⟨#[]⟩ : ByteArray) _ _ y269 _ _ y266 0 3 0 0 (⟨#[47, 97]⟩ : ByteArray) 0 0 0 false 0 0 t277 _ ?side1 ?side2 ?side3 ?side4 ?side9 A9.out).mono ?_); (case side1 => repeat (first | exact (Kd.R_reads' HO271.out).2.2 | (with_reducible refine Kd.C_alloc ?_ _) | (with_reducible refine Kd.C_drewN ?_ _) | (with_reducible refine Kd.C_drew ?_))); (case side2 => exact (Kd.R_reads' HO271.out).2.1); (case side3 => repeat (first | exact (Kd.R_reads' HO268.out).2.2 | (with_reducible refine Kd.C_alloc ?_ _) | (with_reducible refine Kd.C_drewN ?_ _) | (with_reducible refine Kd.C_drew ?_))); (case side4 => exact (Kd.R_reads' HO268.out).2.1); (case side9 => repeat (first | exact (AmbC_below HAMB.out HB.out) | (with_reducible refine AmbC_alloc ?_ _) | (with_reducible refine AmbC_drewN ?_ _) | (with_reducible refine AmbC_drew ?_))); rintro e w28 ⟨rfl, hb⟩; have n0_ := Aside0.mk (Kd.R_below (by (with_reducible repeat (first | apply Kd.R_alloc | apply Kd.R_drewN | apply Kd.R_drew)); exact HO268.out) hb); have n1_ := Aside0.mk (Kd.R_below (by (with_reducible repeat (first | apply Kd.R_alloc | apply Kd.R_drewN | apply Kd.R_drew)); exact HO271.out) hb); have n2_ := Aside0.mk (blk_below (g := gb272) (o := .cells #[.string (⟨#[]⟩ : ByteArray), .slice Ao17 y269.length co17, .slice Ao16 y266.length co16, .slice none 0 0, .slice none 0 0, .slice none 0 0, .int .i64 0, .int .i64 3, .int .i64 0, .int .i64 0, .string (⟨#[47, 97]⟩ : ByteArray), .int .i64 0, .int .i64 0, .int .i64 0, .bool false] 30 (0, 0)) (by (with_reducible repeat (first | refine blk_drewN ?_ _ | refine blk_drew ?_ | refine blk_alloc ?_ _)); exact BK272.out) hb); have n3_ := Aside0.mk (below_step (by repeat (first | (with_reducible first | exact HB.out | apply below_alloc | apply pw_below_drewN | apply below_drew1 | refine below_set ?_ GE272.out) | exact HB.out)) hb); clear HO268; clear HO271; clear BK272; clear HB; have HO268 := n0_; have HO271 := n1_; have BK272 := n2_; have HB := n3_; clear n0_ n1_ n2_ n3_; (try clear hb); (try clear hb2); (try clear hk); (try clear hi); have hcz29_0 : w28.cell? ⟨gb272, 0, none⟩ = some (.string (⟨#[]⟩ : ByteArray)) := (blk_cell BK272.out 0).trans rfl; have hcz29_1 : w28.cell? ⟨gb272, 1, none⟩ = some (.slice Ao17 y269.length co17) := (blk_cell BK272.out 1).trans rfl; have hcz29_2 : w28.cell? ⟨gb272, 2, none⟩ = some (.slice Ao16 y266.length co16) := (blk_cell BK272.out 2).trans rfl; have hcz29_3 : w28.cell? ⟨gb272, 3, none⟩ = some (.slice none 0 0) := (blk_cell BK272.out 3).trans rfl; have hcz29_4 : w28.cell? ⟨gb272, 4, none⟩ = some (.slice none 0 0) := (blk_cell BK272.out 4).trans rfl; have hcz29_5 : w28.cell? ⟨gb272, 5, none⟩ = some (.slice none 0 0) := (blk_cell BK272.out 5).trans rfl; have hcz29_6 : w28.cell? ⟨gb272, 6, none⟩ = some (.int .i64 0) := (blk_cell BK272.out 6).trans rfl; have hcz29_7 : w28.cell? ⟨gb272, 7, none⟩ = some (.int .i64 3) := (blk_cell BK272.out 7).trans rfl; have hcz29_8 : w28.cell? ⟨gb272, 8, none⟩ = some (.int .i64 0) := (blk_cell BK272.out 8).trans rfl; have hcz29_9 : w28.cell? ⟨gb272, 9, none⟩ = some (.int .i64 0) := (blk_cell BK272.out 9).trans rfl; have hcz29_10 : w28.cell? ⟨gb272, 10, none⟩ = some (.string (⟨#[47, 97]⟩ : ByteArray)) := (blk_cell BK272.out 10).trans rfl; have hcz29_11 : w28.cell? ⟨gb272, 11, none⟩ = some (.int .i64 0) := (blk_cell BK272.out 11).trans rfl; have hcz29_12 : w28.cell? ⟨gb272, 12, none⟩ = some (.int .i64 0) := (blk_cell BK272.out 12).trans rfl; have hcz29_13 : w28.cell? ⟨gb272, 13, none⟩ = some (.int .i64 0) := (blk_cell BK272.out 13).trans rfl; have hcz29_14 : w28.cell? ⟨gb272, 14, none⟩ = some (.bool false) := (blk_cell BK272.out 14).trans rfl; have hfz29_0 := blk_frozen BK272.out 0; have hfz29_1 := blk_frozen BK272.out 1; have hfz29_2 := blk_frozen BK272.out 2; have hfz29_3 := blk_frozen BK272.out 3; have hfz29_4 := blk_frozen BK272.out 4; have hfz29_5 := blk_frozen BK272.out 5; have hfz29_6 := blk_frozen BK272.out 6; have hfz29_7 := blk_frozen BK272.out 7; have hfz29_8 := blk_frozen BK272.out 8; have hfz29_9 := blk_frozen BK272.out 9; have hfz29_10 := blk_frozen BK272.out 10; have hfz29_11 := blk_frozen BK272.out 11; have hfz29_12 := blk_frozen BK272.out 12; have hfz29_13 := blk_frozen BK272.out 13; have hfz29_14 := blk_frozen BK272.out 14) | (go_at_call 14; (with_reducible refine (prompt_Second.calls0 k (⟨#[]⟩ : ByteArray) _ _ y269 _ _ y266 0 3 0 0 (⟨#[47, 97]⟩ : ByteArray) 0 0 0 false t278 _ ?side1 ?side2 ?side3 ?side4 ?side9 A11.out).mono ?_); (case side1 => repeat (first | exact (Kd.R_reads' HO271.out).2.2 | (with_reducible refine Kd.C_alloc ?_ _) | (with_reducible refine Kd.C_drewN ?_ _) | (with_reducible refine Kd.C_drew ?_))); (case side2 => exact (Kd.R_reads' HO271.out).2.1); (case side3 => repeat (first | exact (Kd.R_reads' HO268.out).2.2 | (with_reducible refine Kd.C_alloc ?_ _) | (with_reducible refine Kd.C_drewN ?_ _) | (with_reducible refine Kd.C_drew ?_))); (case side4 => exact (Kd.R_reads' HO268.out).2.1); (case side9 => repeat (first | exact (AmbC_below HAMB.out HB.out) | (with_reducible refine AmbC_alloc ?_ _) | (with_reducible refine AmbC_drewN ?_ _) | (with_reducible refine AmbC_drew ?_))); rintro e w30 ⟨rfl, hb⟩; have n0_ := Aside0.mk (Kd.R_below (by (with_reducible repeat (first | apply Kd.R_alloc | apply Kd.R_drewN | apply Kd.R_drew)); exact HO268.out) hb); have n1_ := Aside0.mk (Kd.R_below (by (with_reducible repeat (first | apply Kd.R_alloc | apply Kd.R_drewN | apply Kd.R_drew)); exact HO271.out) hb); have n2_ := Aside0.mk (blk_below (g := gb272) (o := .cells #[.string (⟨#[]⟩ : ByteArray), .slice Ao17 y269.length co17, .slice Ao16 y266.length co16, .slice none 0 0, .slice none 0 0, .slice none 0 0, .int .i64 0, .int .i64 3, .int .i64 0, .int .i64 0, .string (⟨#[47, 97]⟩ : ByteArray), .int .i64 0, .int .i64 0, .int .i64 0, .bool false] 30 (0, 0)) (by (with_reducible repeat (first | refine blk_drewN ?_ _ | refine blk_drew ?_ | refine blk_alloc ?_ _)); exact BK272.out) hb); have n3_ := Aside0.mk (below_step (by repeat (first | (with_reducible first | exact HB.out | apply below_alloc | apply pw_below_drewN | apply below_drew1 | refine below_set ?_ GE272.out) | exact HB.out)) hb); clear HO268; clear HO271; clear BK272; clear HB; have HO268 := n0_; have HO271 := n1_; have BK272 := n2_; have HB := n3_; clear n0_ n1_ n2_ n3_; (try clear hb); (try clear hb2); (try clear hk); (try clear hi)))
 go_ret
 exact ⟨by first | rfl | (simp [errW_none, errW_some] <;> rfl) | (simp [*, errW_none, errW_some] <;> rfl), by repeat (first | (with_reducible first | exact HB.out | apply below_alloc | apply pw_below_drewN | apply below_drew1 | refine below_set ?_ GE272.out) | exact HB.out)⟩
end Go.Proofs.YtiacdccnifjcjaaDoor.F
set_option linter.unusedVariables false
set_option linter.unusedSimpArgs false
namespace Go.Proofs.YtiacdccnifjcjaaDoor.Opn
open Go.RowKit Go.Proofs.YtiacdccnifjcjaaDoorW.PrintWords
variable {P : Program}
def Opens {α : Type} (P : Program) (t : TypeId) (d : Kd α) (ok : α → Prop) : Prop :=
  ∀ (H : Type) (enc : TypeId × Value → H) (W : World) (sp : Nat → Bool) (held : Bool) (fuel : Nat) (cs : List Value) (x : DataW H × List MemPlace),
    DataW.trod enc P W 0 sp held fuel t cs = some x → ∃ y : α, d.K W y cs ∧ ok y
theorem opens_int {t : TypeId} {k : IntKind} (ht : P.underlying t = some (.int k)) : Opens P t (Kd.int k) (fun n => (Lit.int k n).wf = true) := by
  intro H enc W sp held fuel cs x h
  obtain ⟨n, rfl, _, hw⟩ := DataW.trod_int ht h
  exact ⟨n, rfl, hw⟩
theorem opens_bool {t : TypeId} (ht : P.underlying t = some .bool) : Opens P t Kd.bool (fun _ => True) := by
  intro H enc W sp held fuel cs x h
  obtain ⟨b, rfl, _⟩ := DataW.trod_bool ht h
  exact ⟨b, rfl, trivial⟩
theorem opens_string {t : TypeId} (ht : P.underlying t = some .string) : Opens P t Kd.string (fun s => s.size ≤ maxLen) := by
  intro H enc W sp held fuel cs x h
  obtain ⟨s, rfl, _, hs⟩ := DataW.trod_string ht h
  exact ⟨s, rfl, hs⟩
theorem mapM_length {α β : Type} {f : α → Option β} : ∀ {l : List α} {xs : List β}, l.mapM f = some xs → xs.length = l.length
  | [], xs, h => by simp at h; simp [← h]
  | a :: r, xs, h => by
    rw [List.mapM_cons] at h
    cases h1 : f a with
    | none => simp [h1] at h
    | some y =>
      cases h2 : r.mapM f with
      | none => simp [h1, h2] at h
      | some ys =>
        simp [h1, h2] at h
        rw [← h]
        simp [mapM_length h2]
theorem cells_get {w : World} {a : Addr} {n : Nat} {cs : List Value} (h : w.cells? 0 a n = some cs) : cs.length = n ∧ ∀ i u, cs[i]? = some u → w.cell? (a.add i) = some u := by
  unfold World.cells? at h
  rw [if_pos (Nat.zero_le _)] at h
  have hl := mapM_length h
  rw [List.length_range] at hl
  refine ⟨hl, fun i u hu => ?_⟩
  have hi : i < n := by have := (List.getElem?_eq_some_iff.1 hu).1; omega
  have key : ∀ {l : List Nat} {xs : List Value}, l.mapM (fun i => w.cell? (a.add i)) = some xs → ∀ (j : Nat) (k : Nat), l[j]? = some k → xs[j]? = w.cell? (a.add k) := by
    intro l
    induction l with
    | nil => intro xs _ j k hk; simp at hk
    | cons b r ih =>
      intro xs hx j k hk
      rw [List.mapM_cons] at hx
      cases h1 : w.cell? (a.add b) with
      | none => simp [h1] at hx
      | some y =>
        cases h2 : r.mapM (fun i => w.cell? (a.add i)) with
        | none => simp [h1, h2] at hx
        | some ys =>
          simp [h1, h2] at hx
          subst hx
          cases j with
          | zero => simp at hk; subst hk; simp [h1]
          | succ j => simp at hk ⊢; exact ih h2 j k hk
  have := key h i i (by simp [hi])
  rw [← this]; exact hu
theorem choose_list {α : Type} {Q : Nat → α → Prop} : ∀ n : Nat, (∀ i, i < n → ∃ y, Q i y) → ∃ ys : List α, ys.length = n ∧ ∀ i y, ys[i]? = some y → Q i y
  | 0, _ => ⟨[], rfl, fun i y h => by simp at h⟩
  | n + 1, h => by
    obtain ⟨ys, hl, hy⟩ := choose_list n (fun i hi => h i (by omega))
    obtain ⟨z, hz⟩ := h n (by omega)
    refine ⟨ys ++ [z], by simp [hl], fun i y hi => ?_⟩
    rcases Nat.lt_or_ge i ys.length with hlt | hge
    · rw [List.getElem?_append_left hlt] at hi; exact hy i y hi
    · have hlt := (List.getElem?_eq_some_iff.1 hi).1
      simp at hlt
      have : i = ys.length := by omega
      subst this
      simp at hi
      subst hi
      rw [hl]; exact hz
theorem opens_slice {α : Type} {t e : TypeId} {d : Kd α} {ok : α → Prop} (ht : P.underlying t = some (.slice e)) (hd : Opens P e d ok) (hs : P.cellsOf e = d.sz) : Opens P t (Kd.slice e d) (fun xs => xs.length ≤ maxLen ∧ ∀ x ∈ xs, ok x) := by
  intro H enc W sp held fuel cs x h
  rcases DataW.trod_slice ht h with ⟨rfl, _⟩ | ⟨a, len, cap, els, rest, n, _, rfl, _, _, hb1, hb2, hl0, hel, _⟩
  · exact ⟨[], ⟨none, 0, rfl, Nat.le_refl _, rfl, by simp, fun h => absurd h (by simp)⟩, by simp, fun x hx => by cases hx⟩
  · have hgot : ∀ i, i < len → ∃ y : α, ok y ∧ ∃ c : List Value, c.length = d.sz ∧ d.K W y c ∧ ∀ j u, c[j]? = some u → W.cell? (a.add (i * d.sz + j)) = some u := by
      intro i hi
      have hz := hel i hi
      rw [List.getElem?_eq_getElem (by omega)] at hz
      cases hc : W.cells? 0 (a.add (i * P.cellsOf e)) (P.cellsOf e) with
      | none => rw [hc] at hz; simp at hz
      | some c =>
        rw [hc] at hz
        simp only [Option.bind_some] at hz
        obtain ⟨y, hK, hok⟩ := hd H enc W sp held n c _ hz
        obtain ⟨hcl, hcc⟩ := cells_get hc
        refine ⟨y, hok, c, by rw [hcl, hs], hK, fun j u hu => ?_⟩
        have := hcc j u hu
        rw [Addr.add_add, hs] at this
        exact this
    obtain ⟨ys, hl, hy⟩ := choose_list len hgot
    refine ⟨ys, ⟨some a, cap, by rw [hl], by rw [hl]; exact hb1, rfl, ?_, fun _ => ⟨a, rfl, fun j p hp => ?_⟩⟩, by rw [hl]; exact Nat.le_trans hb1 hb2, fun x hx => ?_⟩
    · rw [hl]; simp only [maxLen] at hb2; omega
    · obtain ⟨_, c, h1, h2, h3⟩ := hy j p hp
      exact ⟨c, h1, h2, h3⟩
    · obtain ⟨i, hi, rfl⟩ := List.getElem_of_mem hx
      exact (hy i _ (List.getElem?_eq_getElem hi)).1
theorem opens_opq {α : Type} {t e : TypeId} {d : Kd α} (g : Option Addr → Nat → Nat → α) (hd : ∀ W A n c, d.K W (g A n c) [.slice A n c]) (ht : P.underlying t = some (.slice e)) : Opens P t d (fun _ => True) := by
  intro H enc W sp held fuel cs x h
  rcases DataW.trod_slice ht h with ⟨rfl, _⟩ | ⟨a, len, cap, els, rest, n, _, rfl, _⟩
  · exact ⟨g none 0 0, hd _ _ _ _, trivial⟩
  · exact ⟨g (some a) len cap, hd _ _ _ _, trivial⟩
def OpensFields {α : Type} (P : Program) (fs : List Field) (off : Nat) (d : Kd α) (ok : α → Prop) : Prop :=
  ∀ (H : Type) (enc : TypeId × Value → H) (W : World) (sp : Nat → Bool) (held : Bool) (fuel : Nat) (cs : List Value),
    cs.length = off + d.sz → (∀ f ∈ fs, ∃ z, DataW.trod enc P W 0 sp held fuel f.type ((cs.drop f.offset).take (P.cellsOf f.type)) = some z) → ∃ y : α, d.K W y (cs.drop off) ∧ ok y
theorem fields_one {α : Type} {f : Field} {off : Nat} {d : Kd α} {ok : α → Prop} (ho : f.offset = off) (hd : Opens P f.type d ok) (hs : P.cellsOf f.type = d.sz) : OpensFields P [f] off d ok := by
  intro H enc W sp held fuel cs hl h
  obtain ⟨z, hz⟩ := h f (List.mem_singleton.2 rfl)
  rw [ho, hs, List.take_of_length_le (by simp; omega)] at hz
  exact hd H enc W sp held fuel _ z hz
theorem fields_cons {α β : Type} {f : Field} {fs : List Field} {off : Nat} {d : Kd α} {d' : Kd β} {ok : α → Prop} {ok' : β → Prop} (ho : f.offset = off) (hd : Opens P f.type d ok) (hs : P.cellsOf f.type = d.sz) (hr : OpensFields P fs (off + d.sz) d' ok') :
    OpensFields P (f :: fs) off (Kd.pair d d') (fun y => ok y.1 ∧ ok' y.2) := by
  intro H enc W sp held fuel cs hl h
  obtain ⟨z, hz⟩ := h f List.mem_cons_self
  rw [ho, hs] at hz
  obtain ⟨y, hy, oy⟩ := hd H enc W sp held fuel _ z hz
  obtain ⟨y', hy', oy'⟩ := hr H enc W sp held fuel cs (by rw [hl]; show off + (d.sz + d'.sz) = _; omega) (fun g hg => h g (List.mem_cons_of_mem _ hg))
  refine ⟨(y, y'), ⟨(cs.drop off).take d.sz, cs.drop (off + d.sz), ?_, hy, hy'⟩, oy, oy'⟩
  rw [← List.drop_drop, List.take_append_drop]
theorem opens_struct {α β : Type} {t : TypeId} {fs : Array Field} {d : Kd α} {ok : α → Prop} {f : β → α} (ht : P.underlying t = some (.struct fs)) (hr : OpensFields P fs.toList 0 d ok) (hs : P.cellsOf t = d.sz) (g : α → β) (hg : ∀ a, f (g a) = a) :
    Opens P t (Kd.iso d f) (fun y => ok (f y)) := by
  intro H enc W sp held fuel cs x h
  obtain ⟨xs, n, _, _, hl, hlen, hf⟩ := DataW.trod_struct ht h
  obtain ⟨y, hy, oy⟩ := hr H enc W sp held n cs (by rw [hl, hs]; omega) (fun q hq => by
    obtain ⟨i, hi, rfl⟩ := List.getElem_of_mem hq
    have := hf i _ (by simpa using Array.getElem?_eq_getElem (xs := fs) (i := i) (by simpa using hi))
    rw [List.getElem?_eq_getElem (by rw [hlen]; simpa using hi)] at this
    exact ⟨_, by simpa using this⟩)
  exact ⟨g y, by show d.K W (f (g y)) cs; rw [hg]; exact hy, by show ok (f (g y)); rw [hg]; exact oy⟩
theorem opens_imp {α : Type} {t : TypeId} {d : Kd α} {ok ok' : α → Prop} (h : Opens P t d ok) (hi : ∀ x, ok x → ok' x) : Opens P t d ok' :=
  fun H enc W sp held fuel cs x hx => let ⟨y, hy, oy⟩ := h H enc W sp held fuel cs x hx; ⟨y, hy, hi y oy⟩
theorem arg_struct {α : Type} {H : Type} {enc : TypeId × Value → H} {W : World} {sp : Nat → Bool} {held : Bool} {t : TypeId} {v : Value} {d : DataW H} {p : List MemPlace} {k : Kd α} {ok : α → Prop} (ho : Opens P t k ok) (hv : ∃ cs : Array Value, v = .agg cs) (h : DataW.Trod enc P W 0 sp held t v d p) :
    ∃ (cs : List Value) (x : α), v = .agg cs.toArray ∧ k.K W x cs ∧ ok x := by
  obtain ⟨cs, rfl⟩ := hv
  obtain ⟨fuel, hf⟩ := h
  obtain ⟨x, h1, oy⟩ := ho H enc W sp held fuel _ _ hf
  exact ⟨cs.toList, x, by simp, by simpa [Value.cells] using h1, oy⟩
end Go.Proofs.YtiacdccnifjcjaaDoor.Opn
set_option linter.unusedVariables false
namespace Go.Proofs.YtiacdccnifjcjaaDoor.Opn
open Go.RowKit Go.Proofs.YtiacdccnifjcjaaDoorW.PrintWords Go.Proofs.YtiacdccnifjcjaaDoor.F
def ok42 (x : S_Var) : Prop := (fun s => s.size ≤ maxLen) x.f0 ∧ (fun s => s.size ≤ maxLen) x.f1 ∧ (fun _ => True) x.f2 ∧ (fun _ => True) x.f3 ∧ (fun _ => True) x.f4
theorem opens42 : Opens Tryd.prog 42 k_Var ok42 := opens_imp (opens_struct Tryd.underlying42 (fields_cons rfl (opens_string Tryd.underlying9) (by kernel_rfl) (fields_cons rfl (opens_string Tryd.underlying9) (by kernel_rfl) (fields_cons rfl (opens_bool Tryd.underlying4) (by kernel_rfl) (fields_cons rfl (opens_bool Tryd.underlying4) (by kernel_rfl) (fields_one rfl (opens_bool Tryd.underlying4) (by kernel_rfl)))))) (by kernel_rfl) (fun x => (⟨x.1, x.2.1, x.2.2.1, x.2.2.2.1, x.2.2.2.2⟩ : S_Var)) (fun _ => rfl)) (fun x h => h)
def ok126 (x : S_Alias) : Prop := (fun s => s.size ≤ maxLen) x.f0 ∧ (fun s => s.size ≤ maxLen) x.f1
theorem opens126 : Opens Tryd.prog 126 k_Alias ok126 := opens_imp (opens_struct Tryd.underlying126 (fields_cons rfl (opens_string Tryd.underlying9) (by kernel_rfl) (fields_one rfl (opens_string Tryd.underlying9) (by kernel_rfl))) (by kernel_rfl) (fun x => (⟨x.1, x.2⟩ : S_Alias)) (fun _ => rfl)) (fun x h => h)
def ok128 (x : S_Trap) : Prop := (fun n => (Lit.int .i64 n).wf = true) x.f0 ∧ (fun s => s.size ≤ maxLen) x.f1
theorem opens128 : Opens Tryd.prog 128 k_Trap ok128 := opens_imp (opens_struct Tryd.underlying128 (fields_cons rfl (opens_int Tryd.underlying3) (by kernel_rfl) (fields_one rfl (opens_string Tryd.underlying9) (by kernel_rfl))) (by kernel_rfl) (fun x => (⟨x.1, x.2⟩ : S_Trap)) (fun _ => rfl)) (fun x h => h)
def ok28 (x : S_OptState) : Prop := (fun n => (Lit.int .i64 n).wf = true) x.f0 ∧ (fun n => (Lit.int .i64 n).wf = true) x.f1
theorem opens28 : Opens Tryd.prog 28 k_OptState ok28 := opens_imp (opens_struct Tryd.underlying28 (fields_cons rfl (opens_int Tryd.underlying3) (by kernel_rfl) (fields_one rfl (opens_int Tryd.underlying3) (by kernel_rfl))) (by kernel_rfl) (fun x => (⟨x.1, x.2⟩ : S_OptState)) (fun _ => rfl)) (fun x h => h)
def ok30 (x : S_Env) : Prop := (fun s => s.size ≤ maxLen) x.f0 ∧ (fun xs => xs.length ≤ maxLen ∧ ∀ x ∈ xs, ok42 x) x.f1 ∧ (fun xs => xs.length ≤ maxLen ∧ ∀ x ∈ xs, (fun s => s.size ≤ maxLen) x) x.f2 ∧ (fun _ => True) x.f3 ∧ (fun xs => xs.length ≤ maxLen ∧ ∀ x ∈ xs, ok126 x) x.f4 ∧ (fun xs => xs.length ≤ maxLen ∧ ∀ x ∈ xs, ok128 x) x.f5 ∧ (fun n => (Lit.int .i64 n).wf = true) x.f6 ∧ (fun n => (Lit.int .i64 n).wf = true) x.f7 ∧ (fun n => (Lit.int .i64 n).wf = true) x.f8 ∧ (fun n => (Lit.int .i64 n).wf = true) x.f9 ∧ (fun s => s.size ≤ maxLen) x.f10 ∧ ok28 x.f11 ∧ (fun n => (Lit.int .i64 n).wf = true) x.f12 ∧ (fun _ => True) x.f13
theorem opens30 : Opens Tryd.prog 30 k_Env ok30 := opens_imp (opens_struct Tryd.underlying30 (fields_cons rfl (opens_string Tryd.underlying9) (by kernel_rfl) (fields_cons rfl (opens_slice Tryd.underlying22 opens42 (by kernel_rfl)) (by kernel_rfl) (fields_cons rfl (opens_slice Tryd.underlying23 (opens_string Tryd.underlying9) (by kernel_rfl)) (by kernel_rfl) (fields_cons rfl (opens_opq (fun A n c => (⟨A, n, c⟩ : Opq)) (fun _ _ _ _ => rfl) Tryd.underlying24) (by kernel_rfl) (fields_cons rfl (opens_slice Tryd.underlying25 opens126 (by kernel_rfl)) (by kernel_rfl) (fields_cons rfl (opens_slice Tryd.underlying26 opens128 (by kernel_rfl)) (by kernel_rfl) (fields_cons rfl (opens_int Tryd.underlying3) (by kernel_rfl) (fields_cons rfl (opens_int Tryd.underlying3) (by kernel_rfl) (fields_cons rfl (opens_int Tryd.underlying3) (by kernel_rfl) (fields_cons rfl (opens_int Tryd.underlying3) (by kernel_rfl) (fields_cons rfl (opens_string Tryd.underlying9) (by kernel_rfl) (fields_cons rfl opens28 (by kernel_rfl) (fields_cons rfl (opens_int Tryd.underlying3) (by kernel_rfl) (fields_one rfl (opens_bool Tryd.underlying4) (by kernel_rfl))))))))))))))) (by kernel_rfl) (fun x => (⟨x.1, x.2.1, x.2.2.1, x.2.2.2.1, x.2.2.2.2.1, x.2.2.2.2.2.1, x.2.2.2.2.2.2.1, x.2.2.2.2.2.2.2.1, x.2.2.2.2.2.2.2.2.1, x.2.2.2.2.2.2.2.2.2.1, x.2.2.2.2.2.2.2.2.2.2.1, x.2.2.2.2.2.2.2.2.2.2.2.1, x.2.2.2.2.2.2.2.2.2.2.2.2.1, x.2.2.2.2.2.2.2.2.2.2.2.2.2⟩ : S_Env)) (fun _ => rfl)) (fun x h => h)
end Go.Proofs.YtiacdccnifjcjaaDoor.Opn
namespace Go.Proofs.YtiacdccnifjcjaaDoor.F
open Go.RowKit Go.Proofs.YtiacdccnifjcjaaDoorW.PrintWords Go.Proofs.YtiacdccnifjcjaaDoorW.PrintLast Go.Proofs.YtiacdccnifjcjaaDoorW.PrintMore
attribute [local go_sem] max2_int min2_int max_two min_two max_three min_three max_four min_four
set_option linter.unusedVariables false
set_option linter.unusedSimpArgs false
def jobshellref01_Digit.f (a0 : Int) : Option (Bool) := if a0 ≥ 48 then (some (decide (a0 ≤ 57))) else (some false)
set_option maxHeartbeats 8000000 in
set_option maxRecDepth 100000 in
theorem jobshellref01_Digit.calls (a0 : Int) (r : Bool) (w : World) (h : jobshellref01_Digit.f a0 = some r) :
  Calls Tryd.prog 49 #[.int .u8 a0] w fun e w' => e = .returned (.bool r) ∧ Drawn0 w w' := by
 have H : (if a0 ≥ 48 then (some (decide (a0 ≤ 57))) else (some false)) = some r := h
 clear h
 by_cases c2 : a0 ≥ 48
 ·rw [if_pos c2] at H
  have c2b0 : decide (48 ≤ a0) = true := decide_eq_true c2
  clear c2
  obtain rfl := Option.some.inj H
  go_enter Tryd.func49, Tryd.ntmps49
  go_wp2
  go_ret
  exact ⟨by first | rfl | (simp; done) | (simp [*]; done), by repeat (first | exact Drawn0.refl _ | apply Drawn0.step)⟩
 ·rw [if_neg c2] at H
  have c2b0 : decide (48 ≤ a0) = false := decide_eq_false c2
  clear c2
  obtain rfl := Option.some.inj H
  go_enter Tryd.func49, Tryd.ntmps49
  go_wp2
  go_ret
  exact ⟨by first | rfl | (simp; done) | (simp [*]; done), by repeat (first | exact Drawn0.refl _ | apply Drawn0.step)⟩
end Go.Proofs.YtiacdccnifjcjaaDoor.F
namespace Go.Proofs.YtiacdccnifjcjaaDoor.F
open Go.RowKit Go.Proofs.YtiacdccnifjcjaaDoorW.PrintWords Go.Proofs.YtiacdccnifjcjaaDoorW.PrintLast Go.Proofs.YtiacdccnifjcjaaDoorW.PrintMore
attribute [local go_sem] max2_int min2_int max_two min_two max_three min_three max_four min_four
set_option linter.unusedVariables false
set_option linter.unusedSimpArgs false
def jobshellref01_Letter.f (a0 : Int) : Option (Bool) := if a0 ≥ 97 then (if a0 ≤ 122 then (some true) else (if a0 ≥ 65 then (some (decide (a0 ≤ 90))) else (some false))) else (if a0 ≥ 65 then (some (decide (a0 ≤ 90))) else (some false))
set_option maxHeartbeats 8000000 in
set_option maxRecDepth 100000 in
theorem jobshellref01_Letter.calls (a0 : Int) (r : Bool) (w : World) (h : jobshellref01_Letter.f a0 = some r) :
  Calls Tryd.prog 62 #[.int .u8 a0] w fun e w' => e = .returned (.bool r) ∧ Drawn0 w w' := by
 have H : (if a0 ≥ 97 then (if a0 ≤ 122 then (some true) else (if a0 ≥ 65 then (some (decide (a0 ≤ 90))) else (some false))) else (if a0 ≥ 65 then (some (decide (a0 ≤ 90))) else (some false))) = some r := h
 clear h
 by_cases c2 : a0 ≥ 97
 ·rw [if_pos c2] at H
  have c2b0 : decide (97 ≤ a0) = true := decide_eq_true c2
  clear c2
  by_cases c3 : a0 ≤ 122
  ·rw [if_pos c3] at H
   have c3b0 : decide (a0 ≤ 122) = true := decide_eq_true c3
   clear c3
   obtain rfl := Option.some.inj H
   go_enter Tryd.func62, Tryd.ntmps62
   go_wp2
   go_ret
   exact ⟨by first | rfl | (simp; done) | (simp [*]; done), by repeat (first | exact Drawn0.refl _ | apply Drawn0.step)⟩
  ·rw [if_neg c3] at H
   have c3b0 : decide (a0 ≤ 122) = false := decide_eq_false c3
   clear c3
   by_cases c4 : a0 ≥ 65
   ·rw [if_pos c4] at H
    have c4b0 : decide (65 ≤ a0) = true := decide_eq_true c4
    clear c4
    obtain rfl := Option.some.inj H
    go_enter Tryd.func62, Tryd.ntmps62
    go_wp2
    go_ret
    exact ⟨by first | rfl | (simp; done) | (simp [*]; done), by repeat (first | exact Drawn0.refl _ | apply Drawn0.step)⟩
   ·rw [if_neg c4] at H
    have c4b0 : decide (65 ≤ a0) = false := decide_eq_false c4
    clear c4
    obtain rfl := Option.some.inj H
    go_enter Tryd.func62, Tryd.ntmps62
    go_wp2
    go_ret
    exact ⟨by first | rfl | (simp; done) | (simp [*]; done), by repeat (first | exact Drawn0.refl _ | apply Drawn0.step)⟩
 ·rw [if_neg c2] at H
  have c2b0 : decide (97 ≤ a0) = false := decide_eq_false c2
  clear c2
  by_cases c5 : a0 ≥ 65
  ·rw [if_pos c5] at H
   have c5b0 : decide (65 ≤ a0) = true := decide_eq_true c5
   clear c5
   obtain rfl := Option.some.inj H
   go_enter Tryd.func62, Tryd.ntmps62
   go_wp2
   go_ret
   exact ⟨by first | rfl | (simp; done) | (simp [*]; done), by repeat (first | exact Drawn0.refl _ | apply Drawn0.step)⟩
  ·rw [if_neg c5] at H
   have c5b0 : decide (65 ≤ a0) = false := decide_eq_false c5
   clear c5
   obtain rfl := Option.some.inj H
   go_enter Tryd.func62, Tryd.ntmps62
   go_wp2
   go_ret
   exact ⟨by first | rfl | (simp; done) | (simp [*]; done), by repeat (first | exact Drawn0.refl _ | apply Drawn0.step)⟩
end Go.Proofs.YtiacdccnifjcjaaDoor.F
namespace Go.Proofs.YtiacdccnifjcjaaDoor.F
open Go.RowKit Go.Proofs.YtiacdccnifjcjaaDoorW.PrintWords Go.Proofs.YtiacdccnifjcjaaDoorW.PrintLast Go.Proofs.YtiacdccnifjcjaaDoorW.PrintMore
attribute [local go_sem] max2_int min2_int max_two min_two max_three min_three max_four min_four
set_option linter.unusedVariables false
set_option linter.unusedSimpArgs false
def jobshellref01_Word.f (a0 : Int) : Option (Bool) := (jobshellref01_Letter.f a0).bind fun t101 => (if t101 = true then (some true) else ((jobshellref01_Digit.f a0).bind fun t102 => (if t102 = true then (some true) else (some (a0 == 95)))))
set_option maxHeartbeats 8000000 in
set_option maxRecDepth 100000 in
theorem jobshellref01_Word.calls (a0 : Int) (r : Bool) (w : World) (h : jobshellref01_Word.f a0 = some r) :
  Calls Tryd.prog 50 #[.int .u8 a0] w fun e w' => e = .returned (.bool r) ∧ Drawn0 w w' := by
 have H : ((jobshellref01_Letter.f a0).bind fun t101 => (if t101 = true then (some true) else ((jobshellref01_Digit.f a0).bind fun t102 => (if t102 = true then (some true) else (some (a0 == 95)))))) = some r := h
 clear h
 replace H := Option.bind_eq_some_iff.mp H
 obtain ⟨t101, A20, H⟩ := H
 replace H : (if t101 = true then (some true) else ((jobshellref01_Digit.f a0).bind fun t102 => (if t102 = true then (some true) else (some (a0 == 95))))) = some r := H
 have A2 := Aside0.mk A20
 clear A20
 by_cases c3 : t101 = true
 ·subst c3
  have H1 : (some true) = some r := by rw [if_pos rfl] at H; exact H
  clear H
  have H := H1
  clear H1
  obtain rfl := Option.some.inj H
  go_enter Tryd.func50, Tryd.ntmps50
  go_wp2_with (first | ((with_reducible refine gate_callee (f := 62) rfl ?_); refine goesL_ (some 4) rfl rfl Tryd.func62 (by kernel_rfl) rfl #[.int .u8 a0] rfl (by (try simp only [List.map_toArray, List.map_cons, List.map_nil]); first | done | rfl | (simp only [List.length_drop, List.length_take]; rfl)) ?_; (with_reducible refine (jobshellref01_Letter.calls a0 true _ A2.out).mono ?_); rintro e w' ⟨rfl, ⟨nd, rfl⟩⟩; refine ⟨_, rfl, ?_⟩))
  go_ret
  exact ⟨by first | rfl | (simp; done) | (simp [*]; done), by repeat (first | exact Drawn0.refl _ | apply Drawn0.step)⟩
 ·replace c3 := Bool.eq_false_iff.mpr c3
  subst c3
  have H1 : ((jobshellref01_Digit.f a0).bind fun t102 => (if t102 = true then (some true) else (some (a0 == 95)))) = some r := by rw [if_neg (show ¬ (false = true) by decide)] at H; exact H
  clear H
  have H := H1
  clear H1
  replace H := Option.bind_eq_some_iff.mp H
  obtain ⟨t102, A40, H⟩ := H
  replace H : (if t102 = true then (some true) else (some (a0 == 95))) = some r := H
  have A4 := Aside0.mk A40
  clear A40
  by_cases c5 : t102 = true
  ·subst c5
   have H1 : (some true) = some r := by rw [if_pos rfl] at H; exact H
   clear H
   have H := H1
   clear H1
   obtain rfl := Option.some.inj H
   go_enter Tryd.func50, Tryd.ntmps50
   go_wp2_with (first | ((with_reducible refine gate_callee (f := 62) rfl ?_); refine goesL_ (some 4) rfl rfl Tryd.func62 (by kernel_rfl) rfl #[.int .u8 a0] rfl (by (try simp only [List.map_toArray, List.map_cons, List.map_nil]); first | done | rfl | (simp only [List.length_drop, List.length_take]; rfl)) ?_; (with_reducible refine (jobshellref01_Letter.calls a0 false _ A2.out).mono ?_); rintro e w' ⟨rfl, ⟨nd, rfl⟩⟩; refine ⟨_, rfl, ?_⟩) | (go_at_call 49; (with_reducible refine (jobshellref01_Digit.calls a0 true _ A4.out).mono ?_); rintro e w' ⟨rfl, ⟨nd, rfl⟩⟩))
   go_ret
   exact ⟨by first | rfl | (simp; done) | (simp [*]; done), by repeat (first | exact Drawn0.refl _ | apply Drawn0.step)⟩
  ·replace c5 := Bool.eq_false_iff.mpr c5
   subst c5
   have H1 : (some (a0 == 95)) = some r := by rw [if_neg (show ¬ (false = true) by decide)] at H; exact H
   clear H
   have H := H1
   clear H1
   obtain rfl := Option.some.inj H
   go_enter Tryd.func50, Tryd.ntmps50
   go_wp2_with (first | ((with_reducible refine gate_callee (f := 62) rfl ?_); refine goesL_ (some 4) rfl rfl Tryd.func62 (by kernel_rfl) rfl #[.int .u8 a0] rfl (by (try simp only [List.map_toArray, List.map_cons, List.map_nil]); first | done | rfl | (simp only [List.length_drop, List.length_take]; rfl)) ?_; (with_reducible refine (jobshellref01_Letter.calls a0 false _ A2.out).mono ?_); rintro e w' ⟨rfl, ⟨nd, rfl⟩⟩; refine ⟨_, rfl, ?_⟩) | (go_at_call 49; (with_reducible refine (jobshellref01_Digit.calls a0 false _ A4.out).mono ?_); rintro e w' ⟨rfl, ⟨nd, rfl⟩⟩))
   go_ret
   exact ⟨by first | rfl | (simp; done) | (simp [*]; done), by repeat (first | exact Drawn0.refl _ | apply Drawn0.step)⟩
end Go.Proofs.YtiacdccnifjcjaaDoor.F
namespace Go.Proofs.YtiacdccnifjcjaaDoor.F
open Go.RowKit Go.Proofs.YtiacdccnifjcjaaDoorW.PrintWords Go.Proofs.YtiacdccnifjcjaaDoorW.PrintLast Go.Proofs.YtiacdccnifjcjaaDoorW.PrintMore
attribute [local go_sem] max2_int min2_int max_two min_two max_three min_three max_four min_four
set_option linter.unusedVariables false
set_option linter.unusedSimpArgs false
mutual
def jobshellref01_Name.j0 : Nat → ByteArray → Bool → Option (Bool)
 | 0, _, _ => none
 | k + 1, x0, x15 => if x15 = true then (some false) else (jobshellref01_Name.l0 k x0 0)
def jobshellref01_Name.l0 : Nat → ByteArray → Int → Option (Bool)
 | 0, _, _ => none
 | k + 1, x0, x3 => if x3 < (x0.size : Int) then (if 0 ≤ x3 then ((jobshellref01_Word.f (bt x0 x3)).bind fun t104 => (if t104 = true then (jobshellref01_Name.l0 k x0 (wrap64 (x3 + 1))) else (some false))) else (none)) else (some true)
end
def jobshellref01_Name.f (k : Nat) (a0 : ByteArray) : Option (Bool) := if a0.toList = ([] : List UInt8) then (jobshellref01_Name.j0 k a0 true) else (if (a0.size : Int) > 32 then (jobshellref01_Name.j0 k a0 true) else (if 0 < (a0.size : Int) then ((jobshellref01_Digit.f (bt a0 0)).bind fun t103 => (jobshellref01_Name.j0 k a0 t103)) else (none)))
set_option maxHeartbeats 8000000 in
set_option maxRecDepth 100000 in
theorem jobshellref01_Name.calls (k : Nat) (a0 : ByteArray) (r : Bool) (w : World) (h : jobshellref01_Name.f k a0 = some r) :
  Calls Tryd.prog 28 #[.string a0] w fun e w' => e = .returned (.bool r) ∧ Drawn0 w w' := by
 have H : (if a0.toList = ([] : List UInt8) then (jobshellref01_Name.j0 k a0 true) else (if (a0.size : Int) > 32 then (jobshellref01_Name.j0 k a0 true) else (if 0 < (a0.size : Int) then ((jobshellref01_Digit.f (bt a0 0)).bind fun t103 => (jobshellref01_Name.j0 k a0 t103)) else (none)))) = some r := h
 clear h
 have HC2 := Aside0.mk H
 clear H
 go_enter Tryd.func28, Tryd.ntmps28
 go_upto_region 1 with (fail)
 go_cut [15] (fun v15 wc => ∃ (kq : Nat) (x15_1 : Bool), v15 = .bool x15_1 ∧ Aside0 (jobshellref01_Name.j0 kq a0 x15_1 = some r) ∧ Aside0 (kq ≤ k) ∧ Drawn0 w wc)
 case first =>
  have H := HC2.out
  clear HC2
  by_cases c3 : a0.toList = ([] : List UInt8)
  ·rw [if_pos c3] at H
   have c3b0 : (a0.toList == ([] : List UInt8)) = true := beq_iff_eq.mpr c3
   have c3b1 : (a0.toList != ([] : List UInt8)) = false := bne_eq_false_iff_eq.mpr c3
   clear c3
   (first | rw [c3b0] | (simp only [i64_w, i32_w]; rw [c3b0]) | skip)
   have H' := Aside0.mk H
   clear H
   go_wp2
   go_meet
   case rel => exact ⟨_, (true), (by first | rfl | (simp; done) | (simp [*]; done) | (simp [isE_ne]; done)), H', ⟨by first | omega | exact Nat.le_refl _⟩, by repeat (first | exact Drawn0.refl _ | apply Drawn0.step)⟩
  ·rw [if_neg c3] at H
   have c3b0 : (a0.toList == ([] : List UInt8)) = false := beq_eq_false_iff_ne.mpr c3
   have c3b1 : (a0.toList != ([] : List UInt8)) = true := bne_iff_ne.mpr c3
   (first | rw [c3b0] | (simp only [i64_w, i32_w]; rw [c3b0]) | skip)
   by_cases c4 : (a0.size : Int) > 32
   ·rw [if_pos c4] at H
    have c4b0 : decide (32 < (a0.size : Int)) = true := decide_eq_true c4
    have c4b1 : decide (32 < a0.size) = true := decide_eq_true (by omega)
    clear c4
    have H' := Aside0.mk H
    clear H
    go_wp2
    go_meet
    case rel => exact ⟨_, (true), (by first | rfl | (simp; done) | (simp [*]; done) | (simp [isE_ne]; done)), H', ⟨by first | omega | exact Nat.le_refl _⟩, by repeat (first | exact Drawn0.refl _ | apply Drawn0.step)⟩
   ·rw [if_neg c4] at H
    have c4b0 : decide (32 < (a0.size : Int)) = false := decide_eq_false c4
    have c4b1 : decide (32 < a0.size) = false := decide_eq_false (by omega)
    clear c4
    by_cases c5 : 0 < (a0.size : Int)
    ·rw [if_pos c5] at H
     have c5b0 : decide (0 < (a0.size : Int)) = true := decide_eq_true c5
     have c5b1 : decide (0 < a0.size) = true := decide_eq_true (by omega)
     clear c5
     replace H := Option.bind_eq_some_iff.mp H
     obtain ⟨t103, A70, H⟩ := H
     replace H : (jobshellref01_Name.j0 k a0 t103) = some r := H
     have A7 := Aside0.mk A70
     clear A70
     have H' := Aside0.mk H
     clear H
     have p6 : 0 ≤ (0 : Int) := (by omega)
     have q6 : 0 < a0.size := (by have : (0 : Int) < (a0.size : Int) := of_decide_eq_true (by first | (with_reducible assumption) | assumption); omega)
     have hx6 : ∀ h : 0 < a0.size, ((a0[0]'h).toNat : Int) = bt a0 0 := bt_at a0 0
     clear p6
     have qi6 : (0 < (a0.size : Int)) = True := eq_true (of_decide_eq_true (by first | (with_reducible assumption) | assumption))
     replace q6 := eq_true q6
     go_wp2_with (first | (go_at_call 49; (with_reducible refine (jobshellref01_Digit.calls (bt a0 0) t103 _ A7.out).mono ?_); rintro e w' ⟨rfl, ⟨nd, rfl⟩⟩))
     go_meet
     case rel => exact ⟨_, (t103), (by first | rfl | (simp; done) | (simp [*]; done) | (simp [isE_ne]; done)), H', ⟨by first | omega | exact Nat.le_refl _⟩, by repeat (first | exact Drawn0.refl _ | apply Drawn0.step)⟩
    ·rw [if_neg c5] at H
     exact absurd H (by simp)
 case rest =>
  clear HC2
  try clear c2
  try clear p2
  try clear c3
  try clear c3b0
  try clear c3b1
  try clear c4
  try clear c4b0
  try clear c4b1
  try clear c5
  try clear c5b0
  try clear c5b1
  try clear p6
  try clear q6
  try clear hx6
  try clear qi6
  try clear p6
  try clear q6
  obtain ⟨kq, x15_1, rfl, HA, HJ1, ⟨mc1, rfl⟩⟩ := hcut
  cases kq with
  | zero => exact absurd HA.out (by simp [jobshellref01_Name.j0])
  | succ kj1 =>
   have H := HA.out
   clear HA
   simp only [jobshellref01_Name.j0] at H
   by_cases c8 : x15_1 = true
   ·subst c8
    have H1 : (some false) = some r := by rw [if_pos rfl] at H; exact H
    clear H
    have H := H1
    clear H1
    obtain rfl := Option.some.inj H
    go_wp2
    go_ret
    exact ⟨by first | rfl | (simp; done) | (simp [*]; done), by repeat (first | exact Drawn0.refl _ | apply Drawn0.step)⟩
   ·replace c8 := Bool.eq_false_iff.mpr c8
    subst c8
    have H1 : (jobshellref01_Name.l0 kj1 a0 0) = some r := by rw [if_neg (show ¬ (false = true) by decide)] at H; exact H
    clear H
    have H := H1
    clear H1
    have H' := Aside0.mk H
    clear H
    go_wp2
    go_loopg [3] kj1 (fun kq v3 w' => ∃ (x3_2 : Int), v3 = .int .i64 x3_2 ∧ Aside0 (jobshellref01_Name.l0 kq a0 x3_2 = some r) ∧ Aside0 (kq ≤ kj1) ∧ Drawn0 w w')
    case atStart => exact ⟨(0), (by first | rfl | (simp; done) | (simp [*]; done) | (simp [isE_ne]; done)), H', ⟨Nat.le_refl _⟩, by repeat (first | exact Drawn0.refl _ | apply Drawn0.step)⟩
    case round =>
     clear H'
     try clear c1
     try clear c2
     try clear p2
     try clear c3
     try clear c3b0
     try clear c3b1
     try clear c4
     try clear c4b0
     try clear c4b1
     try clear c5
     try clear c5b0
     try clear c5b1
     try clear p6
     try clear q6
     try clear hx6
     try clear qi6
     try clear c8
     try clear p2
     try clear p6
     try clear q6
     obtain ⟨x3_2, rfl, HA, HK2, ⟨m2, rfl⟩⟩ := hrel
     cases gk with
     | zero => exact absurd HA.out (by simp [jobshellref01_Name.l0])
     | succ k2 =>
      have H := HA.out
      clear HA
      simp only [jobshellref01_Name.l0] at H
      by_cases c9 : x3_2 < (a0.size : Int)
      ·rw [if_pos c9] at H
       have c9b0 : decide (x3_2 < (a0.size : Int)) = true := decide_eq_true c9
       clear c9
       by_cases c10 : 0 ≤ x3_2
       ·rw [if_pos c10] at H
        have c10b0 : decide (0 ≤ x3_2) = true := decide_eq_true c10
        clear c10
        replace H := Option.bind_eq_some_iff.mp H
        obtain ⟨t104, A120, H⟩ := H
        replace H : (if t104 = true then (jobshellref01_Name.l0 k2 a0 (wrap64 (x3_2 + 1))) else (some false)) = some r := H
        have A12 := Aside0.mk A120
        clear A120
        by_cases c13 : t104 = true
        ·subst c13
         have H1 : (jobshellref01_Name.l0 k2 a0 (wrap64 (x3_2 + 1))) = some r := by rw [if_pos rfl] at H; exact H
         clear H
         have H := H1
         clear H1
         have H' := Aside0.mk H
         clear H
         have p11 : 0 ≤ (x3_2 : Int) := of_decide_eq_true (by first | (with_reducible assumption) | assumption)
         have q11 : x3_2 < (a0.size : Int) := of_decide_eq_true (by first | (with_reducible assumption) | assumption)
         have hx11 := bt_at a0 x3_2
         replace p11 := eq_true p11
         replace q11 := eq_true q11
         go_wp2_with (first | ((with_reducible refine gate_callee (f := 50) rfl ?_); refine goesL_ (some 25) rfl rfl Tryd.func50 (by kernel_rfl) rfl #[.int .u8 (bt a0 x3_2)] rfl (by (try simp only [List.map_toArray, List.map_cons, List.map_nil]); first | done | rfl | (simp only [List.length_drop, List.length_take]; rfl)) ?_; (with_reducible refine (jobshellref01_Word.calls (bt a0 x3_2) true _ A12.out).mono ?_); rintro e w' ⟨rfl, ⟨nd, rfl⟩⟩; refine ⟨_, rfl, ?_⟩))
         go_roundg k2
         case measure => have := HJ1.out; have := HK2.out; omega
         case rel => exact ⟨(wrap64 (x3_2 + 1)), (by first | rfl | (simp; done) | (simp [*]; done) | (simp [isE_ne]; done)), H', ⟨by have := HJ1.out; have := HK2.out; omega⟩, by repeat (first | exact Drawn0.refl _ | apply Drawn0.step)⟩
        ·replace c13 := Bool.eq_false_iff.mpr c13
         subst c13
         have H1 : (some false) = some r := by rw [if_neg (show ¬ (false = true) by decide)] at H; exact H
         clear H
         have H := H1
         clear H1
         obtain rfl := Option.some.inj H
         have p11 : 0 ≤ (x3_2 : Int) := of_decide_eq_true (by first | (with_reducible assumption) | assumption)
         have q11 : x3_2 < (a0.size : Int) := of_decide_eq_true (by first | (with_reducible assumption) | assumption)
         have hx11 := bt_at a0 x3_2
         replace p11 := eq_true p11
         replace q11 := eq_true q11
         go_wp2_with (first | ((with_reducible refine gate_callee (f := 50) rfl ?_); refine goesL_ (some 25) rfl rfl Tryd.func50 (by kernel_rfl) rfl #[.int .u8 (bt a0 x3_2)] rfl (by (try simp only [List.map_toArray, List.map_cons, List.map_nil]); first | done | rfl | (simp only [List.length_drop, List.length_take]; rfl)) ?_; (with_reducible refine (jobshellref01_Word.calls (bt a0 x3_2) false _ A12.out).mono ?_); rintro e w' ⟨rfl, ⟨nd, rfl⟩⟩; refine ⟨_, rfl, ?_⟩))
         go_ret
         exact ⟨by first | rfl | (simp; done) | (simp [*]; done), by repeat (first | exact Drawn0.refl _ | apply Drawn0.step)⟩
       ·rw [if_neg c10] at H
        exact absurd H (by simp)
      ·rw [if_neg c9] at H
       have c9b0 : decide (x3_2 < (a0.size : Int)) = false := decide_eq_false c9
       clear c9
       obtain rfl := Option.some.inj H
       go_wp2
       go_ret
       exact ⟨by first | rfl | (simp; done) | (simp [*]; done), by repeat (first | exact Drawn0.refl _ | apply Drawn0.step)⟩
end Go.Proofs.YtiacdccnifjcjaaDoor.F
namespace Go.Proofs.YtiacdccnifjcjaaDoor.F
open Go.RowKit Go.Proofs.YtiacdccnifjcjaaDoorW.PrintWords Go.Proofs.YtiacdccnifjcjaaDoorW.PrintLast Go.Proofs.YtiacdccnifjcjaaDoorW.PrintMore
attribute [local go_sem] max2_int min2_int max_two min_two max_three min_three max_four min_four
set_option linter.unusedVariables false
set_option linter.unusedSimpArgs false
mutual
def jobshellref01_Digits.j0 : Nat → ByteArray → Bool → Option (Int × Bool)
 | 0, _, _ => none
 | k + 1, x0, x22 => if x22 = true then (some (0, false)) else (jobshellref01_Digits.l0 k x0 0 0)
def jobshellref01_Digits.l0 : Nat → ByteArray → Int → Int → Option (Int × Bool)
 | 0, _, _, _ => none
 | k + 1, x0, x4, x5 => if x5 < (x0.size : Int) then (if 0 ≤ x5 then ((jobshellref01_Digit.f (bt x0 x5)).bind fun t178 => (if t178 = true then (jobshellref01_Digits.l0 k x0 (wrap64 ((wrap64 (10 * x4)) + (((bt x0 x5) - 48) % 256))) (wrap64 (x5 + 1))) else (some (0, false)))) else (none)) else (if x4 > 2147483647 then (some (0, false)) else (some (x4, true)))
end
def jobshellref01_Digits.f (k : Nat) (a0 : ByteArray) : Option (Int × Bool) := if a0.toList = ([] : List UInt8) then (jobshellref01_Digits.j0 k a0 true) else (if (a0.size : Int) > 10 then (jobshellref01_Digits.j0 k a0 true) else (if 0 < (a0.size : Int) then (if (bt a0 0) = 48 then (jobshellref01_Digits.j0 k a0 (decide ((a0.size : Int) > 1))) else (jobshellref01_Digits.j0 k a0 false)) else (none)))
set_option maxHeartbeats 8000000 in
set_option maxRecDepth 100000 in
theorem jobshellref01_Digits.calls (k : Nat) (a0 : ByteArray) (r1 : Int) (r2 : Bool) (w : World) (h : jobshellref01_Digits.f k a0 = some (r1, r2)) :
  Calls Tryd.prog 60 #[.string a0] w fun e w' => e = .returned (.tuple #[.int .i64 r1, .bool r2]) ∧ Drawn0 w w' := by
 have H : (if a0.toList = ([] : List UInt8) then (jobshellref01_Digits.j0 k a0 true) else (if (a0.size : Int) > 10 then (jobshellref01_Digits.j0 k a0 true) else (if 0 < (a0.size : Int) then (if (bt a0 0) = 48 then (jobshellref01_Digits.j0 k a0 (decide ((a0.size : Int) > 1))) else (jobshellref01_Digits.j0 k a0 false)) else (none)))) = some (r1, r2) := h
 clear h
 have HC2 := Aside0.mk H
 clear H
 go_enter Tryd.func60, Tryd.ntmps60
 go_upto_region 1 with (fail)
 go_cut [22] (fun v22 wc => ∃ (kq : Nat) (x22_1 : Bool), v22 = .bool x22_1 ∧ Aside0 (jobshellref01_Digits.j0 kq a0 x22_1 = some (r1, r2)) ∧ Aside0 (kq ≤ k) ∧ Drawn0 w wc)
 case first =>
  have H := HC2.out
  clear HC2
  by_cases c3 : a0.toList = ([] : List UInt8)
  ·rw [if_pos c3] at H
   have c3b0 : (a0.toList == ([] : List UInt8)) = true := beq_iff_eq.mpr c3
   have c3b1 : (a0.toList != ([] : List UInt8)) = false := bne_eq_false_iff_eq.mpr c3
   clear c3
   (first | rw [c3b0] | (simp only [i64_w, i32_w]; rw [c3b0]) | skip)
   have H' := Aside0.mk H
   clear H
   go_wp2
   go_meet
   case rel => exact ⟨_, (true), (by first | rfl | (simp; done) | (simp [*]; done) | (simp [isE_ne]; done)), H', ⟨by first | omega | exact Nat.le_refl _⟩, by repeat (first | exact Drawn0.refl _ | apply Drawn0.step)⟩
  ·rw [if_neg c3] at H
   have c3b0 : (a0.toList == ([] : List UInt8)) = false := beq_eq_false_iff_ne.mpr c3
   have c3b1 : (a0.toList != ([] : List UInt8)) = true := bne_iff_ne.mpr c3
   (first | rw [c3b0] | (simp only [i64_w, i32_w]; rw [c3b0]) | skip)
   by_cases c4 : (a0.size : Int) > 10
   ·rw [if_pos c4] at H
    have c4b0 : decide (10 < (a0.size : Int)) = true := decide_eq_true c4
    have c4b1 : decide (10 < a0.size) = true := decide_eq_true (by omega)
    clear c4
    have H' := Aside0.mk H
    clear H
    go_wp2
    go_meet
    case rel => exact ⟨_, (true), (by first | rfl | (simp; done) | (simp [*]; done) | (simp [isE_ne]; done)), H', ⟨by first | omega | exact Nat.le_refl _⟩, by repeat (first | exact Drawn0.refl _ | apply Drawn0.step)⟩
   ·rw [if_neg c4] at H
    have c4b0 : decide (10 < (a0.size : Int)) = false := decide_eq_false c4
    have c4b1 : decide (10 < a0.size) = false := decide_eq_false (by omega)
    clear c4
    by_cases c5 : 0 < (a0.size : Int)
    ·rw [if_pos c5] at H
     have c5b0 : decide (0 < (a0.size : Int)) = true := decide_eq_true c5
     have c5b1 : decide (0 < a0.size) = true := decide_eq_true (by omega)
     clear c5
     by_cases c7 : (bt a0 0) = 48
     ·rw [if_pos c7] at H
      have c7b0 : ((bt a0 0) == 48) = true := beq_iff_eq.mpr c7
      have c7b1 : ((bt a0 0) != 48) = false := bne_eq_false_iff_eq.mpr c7
      clear c7
      have H' := Aside0.mk H
      clear H
      have p6 : 0 ≤ (0 : Int) := (by omega)
      have q6 : 0 < a0.size := (by have : (0 : Int) < (a0.size : Int) := of_decide_eq_true (by first | (with_reducible assumption) | assumption); omega)
      have hx6 : ∀ h : 0 < a0.size, ((a0[0]'h).toNat : Int) = bt a0 0 := bt_at a0 0
      clear p6
      have qi6 : (0 < (a0.size : Int)) = True := eq_true (of_decide_eq_true (by first | (with_reducible assumption) | assumption))
      replace q6 := eq_true q6
      go_wp2
      go_meet
      case rel => exact ⟨_, (decide ((a0.size : Int) > 1)), (by first | rfl | (simp; done) | (simp [*]; done) | (simp [isE_ne]; done)), H', ⟨by first | omega | exact Nat.le_refl _⟩, by repeat (first | exact Drawn0.refl _ | apply Drawn0.step)⟩
     ·rw [if_neg c7] at H
      have c7b0 : ((bt a0 0) == 48) = false := beq_eq_false_iff_ne.mpr c7
      have c7b1 : ((bt a0 0) != 48) = true := bne_iff_ne.mpr c7
      have H' := Aside0.mk H
      clear H
      have p6 : 0 ≤ (0 : Int) := (by omega)
      have q6 : 0 < a0.size := (by have : (0 : Int) < (a0.size : Int) := of_decide_eq_true (by first | (with_reducible assumption) | assumption); omega)
      have hx6 : ∀ h : 0 < a0.size, ((a0[0]'h).toNat : Int) = bt a0 0 := bt_at a0 0
      clear p6
      have qi6 : (0 < (a0.size : Int)) = True := eq_true (of_decide_eq_true (by first | (with_reducible assumption) | assumption))
      replace q6 := eq_true q6
      go_wp2
      go_meet
      case rel => exact ⟨_, (false), (by first | rfl | (simp; done) | (simp [*]; done) | (simp [isE_ne]; done)), H', ⟨by first | omega | exact Nat.le_refl _⟩, by repeat (first | exact Drawn0.refl _ | apply Drawn0.step)⟩
    ·rw [if_neg c5] at H
     exact absurd H (by simp)
 case rest =>
  clear HC2
  try clear p2
  try clear c3
  try clear c3b0
  try clear c3b1
  try clear c4
  try clear c4b0
  try clear c4b1
  try clear c5
  try clear c5b0
  try clear c5b1
  try clear c6
  try clear p6
  try clear q6
  try clear hx6
  try clear qi6
  try clear c7
  try clear c7b0
  try clear c7b1
  try clear p6
  try clear q6
  obtain ⟨kq, x22_1, rfl, HA, HJ1, ⟨mc1, rfl⟩⟩ := hcut
  cases kq with
  | zero => exact absurd HA.out (by simp [jobshellref01_Digits.j0])
  | succ kj1 =>
   have H := HA.out
   clear HA
   simp only [jobshellref01_Digits.j0] at H
   by_cases c8 : x22_1 = true
   ·subst c8
    have H1 : (some (0, false)) = some (r1, r2) := by rw [if_pos rfl] at H; exact H
    clear H
    have H := H1
    clear H1
    simp only [Option.some.injEq, Prod.mk.injEq] at H
    obtain ⟨rfl, rfl⟩ := H
    go_wp2
    go_ret2
    exact ⟨by first | rfl | (simp; done) | (simp [*]; done), by repeat (first | exact Drawn0.refl _ | apply Drawn0.step)⟩
   ·replace c8 := Bool.eq_false_iff.mpr c8
    subst c8
    have H1 : (jobshellref01_Digits.l0 kj1 a0 0 0) = some (r1, r2) := by rw [if_neg (show ¬ (false = true) by decide)] at H; exact H
    clear H
    have H := H1
    clear H1
    have H' := Aside0.mk H
    clear H
    go_wp2
    go_loopg [4, 5] kj1 (fun kq v4 v5 w' => ∃ (x4_2 : Int) (x5_2 : Int), v4 = .int .i64 x4_2 ∧ v5 = .int .i64 x5_2 ∧ Aside0 (jobshellref01_Digits.l0 kq a0 x4_2 x5_2 = some (r1, r2)) ∧ Aside0 (kq ≤ kj1) ∧ Drawn0 w w')
    case atStart => exact ⟨(0), (0), (by first | rfl | (simp; done) | (simp [*]; done) | (simp [isE_ne]; done)), (by first | rfl | (simp; done) | (simp [*]; done) | (simp [isE_ne]; done)), H', ⟨Nat.le_refl _⟩, by repeat (first | exact Drawn0.refl _ | apply Drawn0.step)⟩
    case round =>
     clear H'
     try clear c1
     try clear p2
     try clear c3
     try clear c3b0
     try clear c3b1
     try clear c4
     try clear c4b0
     try clear c4b1
     try clear c5
     try clear c5b0
     try clear c5b1
     try clear c6
     try clear p6
     try clear q6
     try clear hx6
     try clear qi6
     try clear c7
     try clear c7b0
     try clear c7b1
     try clear c8
     try clear p2
     try clear p6
     try clear q6
     obtain ⟨x4_2, x5_2, rfl, rfl, HA, HK2, ⟨m2, rfl⟩⟩ := hrel
     cases gk with
     | zero => exact absurd HA.out (by simp [jobshellref01_Digits.l0])
     | succ k2 =>
      have H := HA.out
      clear HA
      simp only [jobshellref01_Digits.l0] at H
      by_cases c9 : x5_2 < (a0.size : Int)
      ·rw [if_pos c9] at H
       have c9b0 : decide (x5_2 < (a0.size : Int)) = true := decide_eq_true c9
       clear c9
       by_cases c10 : 0 ≤ x5_2
       ·rw [if_pos c10] at H
        have c10b0 : decide (0 ≤ x5_2) = true := decide_eq_true c10
        clear c10
        replace H := Option.bind_eq_some_iff.mp H
        obtain ⟨t178, A120, H⟩ := H
        replace H : (if t178 = true then (jobshellref01_Digits.l0 k2 a0 (wrap64 ((wrap64 (10 * x4_2)) + (((bt a0 x5_2) - 48) % 256))) (wrap64 (x5_2 + 1))) else (some (0, false))) = some (r1, r2) := H
        have A12 := Aside0.mk A120
        clear A120
        by_cases c13 : t178 = true
        ·subst c13
         have H1 : (jobshellref01_Digits.l0 k2 a0 (wrap64 ((wrap64 (10 * x4_2)) + (((bt a0 x5_2) - 48) % 256))) (wrap64 (x5_2 + 1))) = some (r1, r2) := by rw [if_pos rfl] at H; exact H
         clear H
         have H := H1
         clear H1
         have H' := Aside0.mk H
         clear H
         have p11 : 0 ≤ (x5_2 : Int) := of_decide_eq_true (by first | (with_reducible assumption) | assumption)
         have q11 : x5_2 < (a0.size : Int) := of_decide_eq_true (by first | (with_reducible assumption) | assumption)
         have hx11 := bt_at a0 x5_2
         replace p11 := eq_true p11
         replace q11 := eq_true q11
         go_wp2_with (first | ((with_reducible refine gate_callee (f := 49) rfl ?_); refine goesL_ (some 32) rfl rfl Tryd.func49 (by kernel_rfl) rfl #[.int .u8 (bt a0 x5_2)] rfl (by (try simp only [List.map_toArray, List.map_cons, List.map_nil]); first | done | rfl | (simp only [List.length_drop, List.length_take]; rfl)) ?_; (with_reducible refine (jobshellref01_Digit.calls (bt a0 x5_2) true _ A12.out).mono ?_); rintro e w' ⟨rfl, ⟨nd, rfl⟩⟩; refine ⟨_, rfl, ?_⟩; have p14 : 0 ≤ (x5_2 : Int) := of_decide_eq_true (by first | (with_reducible assumption) | assumption); have q14 : x5_2 < (a0.size : Int) := of_decide_eq_true (by first | (with_reducible assumption) | assumption); have hx14 := bt_at a0 x5_2; replace p14 := eq_true p14; replace q14 := eq_true q14))
         go_roundg k2
         case measure => have := HJ1.out; have := HK2.out; omega
         case rel => exact ⟨(wrap64 ((wrap64 (10 * x4_2)) + (((bt a0 x5_2) - 48) % 256))), (wrap64 (x5_2 + 1)), (by first | rfl | (simp; done) | (simp [*]; done) | (simp [isE_ne]; done)), (by first | rfl | (simp; done) | (simp [*]; done) | (simp [isE_ne]; done)), H', ⟨by have := HJ1.out; have := HK2.out; omega⟩, by repeat (first | exact Drawn0.refl _ | apply Drawn0.step)⟩
        ·replace c13 := Bool.eq_false_iff.mpr c13
         subst c13
         have H1 : (some (0, false)) = some (r1, r2) := by rw [if_neg (show ¬ (false = true) by decide)] at H; exact H
         clear H
         have H := H1
         clear H1
         simp only [Option.some.injEq, Prod.mk.injEq] at H
         obtain ⟨rfl, rfl⟩ := H
         have p11 : 0 ≤ (x5_2 : Int) := of_decide_eq_true (by first | (with_reducible assumption) | assumption)
         have q11 : x5_2 < (a0.size : Int) := of_decide_eq_true (by first | (with_reducible assumption) | assumption)
         have hx11 := bt_at a0 x5_2
         replace p11 := eq_true p11
         replace q11 := eq_true q11
         go_wp2_with (first | ((with_reducible refine gate_callee (f := 49) rfl ?_); refine goesL_ (some 32) rfl rfl Tryd.func49 (by kernel_rfl) rfl #[.int .u8 (bt a0 x5_2)] rfl (by (try simp only [List.map_toArray, List.map_cons, List.map_nil]); first | done | rfl | (simp only [List.length_drop, List.length_take]; rfl)) ?_; (with_reducible refine (jobshellref01_Digit.calls (bt a0 x5_2) false _ A12.out).mono ?_); rintro e w' ⟨rfl, ⟨nd, rfl⟩⟩; refine ⟨_, rfl, ?_⟩))
         go_ret2
         exact ⟨by first | rfl | (simp; done) | (simp [*]; done), by repeat (first | exact Drawn0.refl _ | apply Drawn0.step)⟩
       ·rw [if_neg c10] at H
        exact absurd H (by simp)
      ·rw [if_neg c9] at H
       have c9b0 : decide (x5_2 < (a0.size : Int)) = false := decide_eq_false c9
       clear c9
       by_cases c15 : x4_2 > 2147483647
       ·rw [if_pos c15] at H
        have c15b0 : decide (2147483647 < x4_2) = true := decide_eq_true c15
        clear c15
        simp only [Option.some.injEq, Prod.mk.injEq] at H
        obtain ⟨rfl, rfl⟩ := H
        go_wp2
        go_ret2
        exact ⟨by first | rfl | (simp; done) | (simp [*]; done), by repeat (first | exact Drawn0.refl _ | apply Drawn0.step)⟩
       ·rw [if_neg c15] at H
        have c15b0 : decide (2147483647 < x4_2) = false := decide_eq_false c15
        clear c15
        simp only [Option.some.injEq, Prod.mk.injEq] at H
        obtain ⟨rfl, rfl⟩ := H
        go_wp2
        go_ret2
        exact ⟨by first | rfl | (simp; done) | (simp [*]; done), by repeat (first | exact Drawn0.refl _ | apply Drawn0.step)⟩
end Go.Proofs.YtiacdccnifjcjaaDoor.F
namespace Go.Proofs.YtiacdccnifjcjaaDoor.F
open Go.RowKit Go.Proofs.YtiacdccnifjcjaaDoorW.PrintWords Go.Proofs.YtiacdccnifjcjaaDoorW.PrintLast Go.Proofs.YtiacdccnifjcjaaDoorW.PrintMore
attribute [local go_sem] max2_int min2_int max_two min_two max_three min_three max_four min_four
set_option linter.unusedVariables false
set_option linter.unusedSimpArgs false
def jobshellref17_positional.f (k : Nat) (a0 : ByteArray) : Option (Int) := (jobshellref01_Digits.f k a0).bind fun bt179 => (if bt179.2 = true then (if bt179.1 < 1 then (some 0) else (if bt179.1 > 2147483647 then (some 0) else (if 0 < (a0.size : Int) then (if (bt a0 0) = 48 then (some 0) else (some bt179.1)) else (none)))) else (some 0))
set_option maxHeartbeats 8000000 in
set_option maxRecDepth 100000 in
theorem jobshellref17_positional.calls (k : Nat) (a0 : ByteArray) (r : Int) (w : World) (h : jobshellref17_positional.f k a0 = some r) :
  Calls Tryd.prog 43 #[.string a0] w fun e w' => e = .returned (.int .i64 r) ∧ Drawn0 w w' := by
 have H : ((jobshellref01_Digits.f k a0).bind fun bt179 => (if bt179.2 = true then (if bt179.1 < 1 then (some 0) else (if bt179.1 > 2147483647 then (some 0) else (if 0 < (a0.size : Int) then (if (bt a0 0) = 48 then (some 0) else (some bt179.1)) else (none)))) else (some 0))) = some r := h
 clear h
 replace H := Option.bind_eq_some_iff.mp H
 obtain ⟨⟨t179, t180⟩, A20, H⟩ := H
 replace H : (if t180 = true then (if t179 < 1 then (some 0) else (if t179 > 2147483647 then (some 0) else (if 0 < (a0.size : Int) then (if (bt a0 0) = 48 then (some 0) else (some t179)) else (none)))) else (some 0)) = some r := H
 have A2 := Aside0.mk A20
 clear A20
 by_cases c3 : t180 = true
 ·subst c3
  have H1 : (if t179 < 1 then (some 0) else (if t179 > 2147483647 then (some 0) else (if 0 < (a0.size : Int) then (if (bt a0 0) = 48 then (some 0) else (some t179)) else (none)))) = some r := by rw [if_pos rfl] at H; exact H
  clear H
  have H := H1
  clear H1
  by_cases c4 : t179 < 1
  ·rw [if_pos c4] at H
   have c4b0 : decide (t179 < 1) = true := decide_eq_true c4
   clear c4
   obtain rfl := Option.some.inj H
   go_enter Tryd.func43, Tryd.ntmps43
   go_wp2_with (first | ((with_reducible refine gate_callee (f := 60) rfl ?_); refine goesL_ (some 7) rfl rfl Tryd.func60 (by kernel_rfl) rfl #[.string a0] rfl (by (try simp only [List.map_toArray, List.map_cons, List.map_nil]); first | done | rfl | (simp only [List.length_drop, List.length_take]; rfl)) ?_; (with_reducible refine (jobshellref01_Digits.calls k a0 t179 true _ A2.out).mono ?_); rintro e w' ⟨rfl, ⟨nd, rfl⟩⟩; refine ⟨_, rfl, ?_⟩))
   go_ret
   exact ⟨by first | rfl | (simp; done) | (simp [*]; done), by repeat (first | exact Drawn0.refl _ | apply Drawn0.step)⟩
  ·rw [if_neg c4] at H
   have c4b0 : decide (t179 < 1) = false := decide_eq_false c4
   clear c4
   by_cases c5 : t179 > 2147483647
   ·rw [if_pos c5] at H
    have c5b0 : decide (2147483647 < t179) = true := decide_eq_true c5
    clear c5
    obtain rfl := Option.some.inj H
    go_enter Tryd.func43, Tryd.ntmps43
    go_wp2_with (first | ((with_reducible refine gate_callee (f := 60) rfl ?_); refine goesL_ (some 7) rfl rfl Tryd.func60 (by kernel_rfl) rfl #[.string a0] rfl (by (try simp only [List.map_toArray, List.map_cons, List.map_nil]); first | done | rfl | (simp only [List.length_drop, List.length_take]; rfl)) ?_; (with_reducible refine (jobshellref01_Digits.calls k a0 t179 true _ A2.out).mono ?_); rintro e w' ⟨rfl, ⟨nd, rfl⟩⟩; refine ⟨_, rfl, ?_⟩))
    go_ret
    exact ⟨by first | rfl | (simp; done) | (simp [*]; done), by repeat (first | exact Drawn0.refl _ | apply Drawn0.step)⟩
   ·rw [if_neg c5] at H
    have c5b0 : decide (2147483647 < t179) = false := decide_eq_false c5
    clear c5
    by_cases c6 : 0 < (a0.size : Int)
    ·rw [if_pos c6] at H
     have c6b0 : decide (0 < (a0.size : Int)) = true := decide_eq_true c6
     have c6b1 : decide (0 < a0.size) = true := decide_eq_true (by omega)
     clear c6
     by_cases c8 : (bt a0 0) = 48
     ·rw [if_pos c8] at H
      have c8b0 : ((bt a0 0) == 48) = true := beq_iff_eq.mpr c8
      have c8b1 : ((bt a0 0) != 48) = false := bne_eq_false_iff_eq.mpr c8
      clear c8
      obtain rfl := Option.some.inj H
      go_enter Tryd.func43, Tryd.ntmps43
      go_wp2_with (first | ((with_reducible refine gate_callee (f := 60) rfl ?_); refine goesL_ (some 7) rfl rfl Tryd.func60 (by kernel_rfl) rfl #[.string a0] rfl (by (try simp only [List.map_toArray, List.map_cons, List.map_nil]); first | done | rfl | (simp only [List.length_drop, List.length_take]; rfl)) ?_; (with_reducible refine (jobshellref01_Digits.calls k a0 t179 true _ A2.out).mono ?_); rintro e w' ⟨rfl, ⟨nd, rfl⟩⟩; refine ⟨_, rfl, ?_⟩; have p7 : 0 ≤ (0 : Int) := (by omega); have q7 : 0 < a0.size := (by have : (0 : Int) < (a0.size : Int) := of_decide_eq_true (by first | (with_reducible assumption) | assumption); omega); have hx7 : ∀ h : 0 < a0.size, ((a0[0]'h).toNat : Int) = bt a0 0 := bt_at a0 0; clear p7; have qi7 : (0 < (a0.size : Int)) = True := eq_true (of_decide_eq_true (by first | (with_reducible assumption) | assumption)); replace q7 := eq_true q7))
      go_ret
      exact ⟨by first | rfl | (simp; done) | (simp [*]; done), by repeat (first | exact Drawn0.refl _ | apply Drawn0.step)⟩
     ·rw [if_neg c8] at H
      have c8b0 : ((bt a0 0) == 48) = false := beq_eq_false_iff_ne.mpr c8
      have c8b1 : ((bt a0 0) != 48) = true := bne_iff_ne.mpr c8
      obtain rfl := Option.some.inj H
      go_enter Tryd.func43, Tryd.ntmps43
      go_wp2_with (first | ((with_reducible refine gate_callee (f := 60) rfl ?_); refine goesL_ (some 7) rfl rfl Tryd.func60 (by kernel_rfl) rfl #[.string a0] rfl (by (try simp only [List.map_toArray, List.map_cons, List.map_nil]); first | done | rfl | (simp only [List.length_drop, List.length_take]; rfl)) ?_; (with_reducible refine (jobshellref01_Digits.calls k a0 t179 true _ A2.out).mono ?_); rintro e w' ⟨rfl, ⟨nd, rfl⟩⟩; refine ⟨_, rfl, ?_⟩; have p7 : 0 ≤ (0 : Int) := (by omega); have q7 : 0 < a0.size := (by have : (0 : Int) < (a0.size : Int) := of_decide_eq_true (by first | (with_reducible assumption) | assumption); omega); have hx7 : ∀ h : 0 < a0.size, ((a0[0]'h).toNat : Int) = bt a0 0 := bt_at a0 0; clear p7; have qi7 : (0 < (a0.size : Int)) = True := eq_true (of_decide_eq_true (by first | (with_reducible assumption) | assumption)); replace q7 := eq_true q7))
      go_ret
      exact ⟨by first | rfl | (simp; done) | (simp [*]; done), by repeat (first | exact Drawn0.refl _ | apply Drawn0.step)⟩
    ·rw [if_neg c6] at H
     exact absurd H (by simp)
 ·replace c3 := Bool.eq_false_iff.mpr c3
  subst c3
  have H1 : (some 0) = some r := by rw [if_neg (show ¬ (false = true) by decide)] at H; exact H
  clear H
  have H := H1
  clear H1
  obtain rfl := Option.some.inj H
  go_enter Tryd.func43, Tryd.ntmps43
  go_wp2_with (first | ((with_reducible refine gate_callee (f := 60) rfl ?_); refine goesL_ (some 7) rfl rfl Tryd.func60 (by kernel_rfl) rfl #[.string a0] rfl (by (try simp only [List.map_toArray, List.map_cons, List.map_nil]); first | done | rfl | (simp only [List.length_drop, List.length_take]; rfl)) ?_; (with_reducible refine (jobshellref01_Digits.calls k a0 t179 false _ A2.out).mono ?_); rintro e w' ⟨rfl, ⟨nd, rfl⟩⟩; refine ⟨_, rfl, ?_⟩))
  go_ret
  exact ⟨by first | rfl | (simp; done) | (simp [*]; done), by repeat (first | exact Drawn0.refl _ | apply Drawn0.step)⟩
end Go.Proofs.YtiacdccnifjcjaaDoor.F
namespace Go.Proofs.YtiacdccnifjcjaaDoor.F
open Go.RowKit Go.Proofs.YtiacdccnifjcjaaDoorW.PrintWords Go.Proofs.YtiacdccnifjcjaaDoorW.PrintLast Go.Proofs.YtiacdccnifjcjaaDoorW.PrintMore
attribute [local go_sem] max2_int min2_int max_two min_two max_three min_three max_four min_four
set_option linter.unusedVariables false
set_option linter.unusedSimpArgs false
def jobshellref15_Get.l0 : Nat → List (S_Var) → ByteArray → Int → Option (ByteArray × ByteArray × Bool × Bool × Bool × Bool)
 | 0, _, _, _ => none
 | k + 1, x0, x1, x6 => if x6 < (x0.length : Int) then (if 0 ≤ x6 then (if ((rd_Var x0 x6).f0).toList = x1.toList then (some ((rd_Var x0 x6).f0, (rd_Var x0 x6).f1, (rd_Var x0 x6).f2, (rd_Var x0 x6).f3, (rd_Var x0 x6).f4, true)) else (jobshellref15_Get.l0 k x0 x1 (wrap64 (x6 + 1)))) else (none)) else (some ((⟨#[]⟩ : ByteArray), (⟨#[]⟩ : ByteArray), false, false, false, false))
def jobshellref15_Get.f (k : Nat) (l0 : List (S_Var)) (a1 : ByteArray) : Option (ByteArray × ByteArray × Bool × Bool × Bool × Bool) := jobshellref15_Get.l0 k l0 a1 0
set_option maxHeartbeats 8000000 in
set_option maxRecDepth 100000 in
theorem jobshellref15_Get.calls (k : Nat) (A0 : Option Addr) (c0 : Nat) (l0 : List (S_Var)) (a1 : ByteArray) (r1 : ByteArray) (r2 : ByteArray) (r3 : Bool) (r4 : Bool) (r5 : Bool) (r6 : Bool) (w : World) (hr0 : Kd.C k_Var w A0 l0.length l0) (hc0 : l0.length ≤ c0) (h : jobshellref15_Get.f k l0 a1 = some (r1, r2, r3, r4, r5, r6)) :
  Calls Tryd.prog 44 #[.slice A0 l0.length c0, .string a1] w fun e w' => e = .returned (.tuple #[.agg #[.string r1, .string r2, .bool r3, .bool r4, .bool r5], .bool r6]) ∧ Below w.heap.size w w' := by
 have hu42 := Tryd.underlying42
 have HR0 := Aside0.mk hr0
 have HC0 := Aside0.mk hc0
 clear hr0 hc0
 have HB := Aside0.mk (Below.refl w.heap.size w)
 have H : (jobshellref15_Get.l0 k l0 a1 0) = some (r1, r2, r3, r4, r5, r6) := h
 clear h
 have H' := Aside0.mk H
 clear H
 go_enter Tryd.func44, Tryd.ntmps44
 go_wp2_with (first | ((with_reducible refine gate_dst (N := 4) rfl ?_); refine box_event ?hg (N := 4) ?hd (cs := #[.string (⟨#[]⟩ : ByteArray), .string (⟨#[]⟩ : ByteArray), .bool false, .bool false, .bool false]) (t := 42) ?hr ?_; (case hd => rfl); (case hg => rfl); (case hr => first | (go_simp; done) | (go_simp; rfl)); intro gb181 hg w3 hbox hb; have n0_ := Aside0.mk (below_step (by repeat (first | (with_reducible first | exact HB.out | apply below_alloc | apply pw_below_drewN | apply below_drew1) | exact HB.out)) hb); have n1_ := Aside0.mk (hbox); have n2_ := Aside0.mk ((by rw [hg]; exact (below_size (by repeat (first | (with_reducible first | exact HB.out | apply below_alloc | apply pw_below_drewN | apply below_drew1) | exact HB.out))) : w.heap.size ≤ gb181)); have n3_ := Aside0.mk ((by rw [hg]; exact (below_size (by repeat (first | (with_reducible first | exact HB.out | apply below_alloc | apply pw_below_drewN | apply below_drew1) | exact HB.out))) : w.heap.size ≤ gb181)); clear HB; have HB := n0_; have BK181 := n1_; have GW181 := n2_; have GE181 := n3_; clear n0_ n1_ n2_ n3_; clear hb hbox hg))
 go_loopg [6] k (fun kq v6 w' => ∃ (x6_1 : Int) (x182000_1 : ByteArray) (x182001_1 : ByteArray) (x182002_1 : Bool) (x182003_1 : Bool) (x182004_1 : Bool), v6 = .int .i64 x6_1 ∧ Aside0 (jobshellref15_Get.l0 kq l0 a1 x6_1 = some (r1, r2, r3, r4, r5, r6)) ∧ Aside0 (kq ≤ k) ∧ Aside0 (w'.heap[gb181]? = some (.cells #[.string x182000_1, .string x182001_1, .bool x182002_1, .bool x182003_1, .bool x182004_1] 42 (0, 0))) ∧ Aside0 (Below w.heap.size w w'))
 case atStart => exact ⟨(0), ((⟨#[]⟩ : ByteArray)), ((⟨#[]⟩ : ByteArray)), (false), (false), (false), (by first | rfl | (simp; done) | (simp [*]; done) | (simp [isE_ne]; done)), H', ⟨Nat.le_refl _⟩, ⟨by (with_reducible repeat (first | refine blk_drewN ?_ _ | refine blk_drew ?_ | refine blk_alloc ?_ _)); exact BK181.out⟩, ⟨by repeat (first | (with_reducible first | exact HB.out | apply below_alloc | apply pw_below_drewN | apply below_drew1 | refine below_set ?_ GE181.out) | exact HB.out)⟩⟩
 case round =>
  clear H'
  try clear p2
  obtain ⟨x6_1, x182000_1, x182001_1, x182002_1, x182003_1, x182004_1, rfl, HA, HK1, BK181, HB⟩ := hrel
  cases gk with
  | zero => exact absurd HA.out (by simp [jobshellref15_Get.l0])
  | succ k1 =>
   have H := HA.out
   clear HA
   simp only [jobshellref15_Get.l0] at H
   by_cases c4 : x6_1 < (l0.length : Int)
   ·rw [if_pos c4] at H
    have c4b0 : decide (x6_1 < (l0.length : Int)) = true := decide_eq_true c4
    clear c4
    by_cases c5 : 0 ≤ x6_1
    ·rw [if_pos c5] at H
     have c5b0 : decide (0 ≤ x6_1) = true := decide_eq_true c5
     clear c5
     by_cases c6 : ((rd_Var l0 x6_1).f0).toList = a1.toList
     ·rw [if_pos c6] at H
      have c6b0 : (((rd_Var l0 x6_1).f0).toList == a1.toList) = true := beq_iff_eq.mpr c6
      have c6b1 : (((rd_Var l0 x6_1).f0).toList != a1.toList) = false := bne_eq_false_iff_eq.mpr c6
      clear c6
      simp only [Option.some.injEq, Prod.mk.injEq] at H
      obtain ⟨rfl, rfl, rfl, rfl, rfl, rfl⟩ := H
      have p182 : 0 ≤ (x6_1 : Int) := of_decide_eq_true (by first | (with_reducible assumption) | assumption)
      have q182 : x6_1 < (l0.length : Int) := of_decide_eq_true (by first | (with_reducible assumption) | assumption)
      obtain ⟨ad182, e182, hx182_0, hx182_1, hx182_2, hx182_3, hx182_4⟩ := at_Var HR0.out x6_1 p182 q182
      cases e182
      replace hx182_0 := (HB.out.cell (World.block_lt_of_cell? w _ hx182_0)).trans hx182_0
      replace hx182_1 := (HB.out.cell (World.block_lt_of_cell? w _ hx182_1)).trans hx182_1
      replace hx182_2 := (HB.out.cell (World.block_lt_of_cell? w _ hx182_2)).trans hx182_2
      replace hx182_3 := (HB.out.cell (World.block_lt_of_cell? w _ hx182_3)).trans hx182_3
      replace hx182_4 := (HB.out.cell (World.block_lt_of_cell? w _ hx182_4)).trans hx182_4
      replace p182 := eq_true p182
      replace q182 := eq_true q182
      have p183 : 0 ≤ (x6_1 : Int) := of_decide_eq_true (by first | (with_reducible assumption) | assumption)
      have q183 : x6_1 < (l0.length : Int) := of_decide_eq_true (by first | (with_reducible assumption) | assumption)
      obtain ⟨ad183, e183, hx183_0, hx183_1, hx183_2, hx183_3, hx183_4⟩ := at_Var HR0.out x6_1 p183 q183
      obtain rfl : ad182 = ad183 := (by injection e183)
      replace hx183_0 := (HB.out.cell (World.block_lt_of_cell? w _ hx183_0)).trans hx183_0
      replace hx183_1 := (HB.out.cell (World.block_lt_of_cell? w _ hx183_1)).trans hx183_1
      replace hx183_2 := (HB.out.cell (World.block_lt_of_cell? w _ hx183_2)).trans hx183_2
      replace hx183_3 := (HB.out.cell (World.block_lt_of_cell? w _ hx183_3)).trans hx183_3
      replace hx183_4 := (HB.out.cell (World.block_lt_of_cell? w _ hx183_4)).trans hx183_4
      replace p183 := eq_true p183
      replace q183 := eq_true q183
      have hcz7_0 : wr.cell? ⟨gb181, 0, none⟩ = some (.string x182000_1) := (blk_cell BK181.out 0).trans rfl
      have hcz7_1 : wr.cell? ⟨gb181, 1, none⟩ = some (.string x182001_1) := (blk_cell BK181.out 1).trans rfl
      have hcz7_2 : wr.cell? ⟨gb181, 2, none⟩ = some (.bool x182002_1) := (blk_cell BK181.out 2).trans rfl
      have hcz7_3 : wr.cell? ⟨gb181, 3, none⟩ = some (.bool x182003_1) := (blk_cell BK181.out 3).trans rfl
      have hcz7_4 : wr.cell? ⟨gb181, 4, none⟩ = some (.bool x182004_1) := (blk_cell BK181.out 4).trans rfl
      have hfz7_0 := blk_frozen BK181.out 0
      have hfz7_1 := blk_frozen BK181.out 1
      have hfz7_2 := blk_frozen BK181.out 2
      have hfz7_3 := blk_frozen BK181.out 3
      have hfz7_4 := blk_frozen BK181.out 4
      go_wp2
      refine bodyPost_ret (results_ct rfl _ _ gb181 42 #[.string ((rd_Var l0 x6_1).f0), .string ((rd_Var l0 x6_1).f1), .bool ((rd_Var l0 x6_1).f2), .bool ((rd_Var l0 x6_1).f3), .bool ((rd_Var l0 x6_1).f4)] (0, 0) _ rfl (by (with_reducible repeat (first | refine blk_drewN ?_ _ | refine blk_drew ?_ | refine blk_alloc ?_ _)); refine blk_put (cs := #[.string ((rd_Var l0 x6_1).f0), .string ((rd_Var l0 x6_1).f1), .bool ((rd_Var l0 x6_1).f2), .bool ((rd_Var l0 x6_1).f3), .bool x182004_1]) ?_ 4 _ rfl; (with_reducible repeat (first | refine blk_drewN ?_ _ | refine blk_drew ?_ | refine blk_alloc ?_ _)); refine blk_put (cs := #[.string ((rd_Var l0 x6_1).f0), .string ((rd_Var l0 x6_1).f1), .bool ((rd_Var l0 x6_1).f2), .bool x182003_1, .bool x182004_1]) ?_ 3 _ rfl; (with_reducible repeat (first | refine blk_drewN ?_ _ | refine blk_drew ?_ | refine blk_alloc ?_ _)); refine blk_put (cs := #[.string ((rd_Var l0 x6_1).f0), .string ((rd_Var l0 x6_1).f1), .bool x182002_1, .bool x182003_1, .bool x182004_1]) ?_ 2 _ rfl; (with_reducible repeat (first | refine blk_drewN ?_ _ | refine blk_drew ?_ | refine blk_alloc ?_ _)); refine blk_put (cs := #[.string ((rd_Var l0 x6_1).f0), .string x182001_1, .bool x182002_1, .bool x182003_1, .bool x182004_1]) ?_ 1 _ rfl; (with_reducible repeat (first | refine blk_drewN ?_ _ | refine blk_drew ?_ | refine blk_alloc ?_ _)); refine blk_put (cs := #[.string x182000_1, .string x182001_1, .bool x182002_1, .bool x182003_1, .bool x182004_1]) ?_ 0 _ rfl; (with_reducible repeat (first | refine blk_drewN ?_ _ | refine blk_drew ?_ | refine blk_alloc ?_ _)); exact BK181.out) Tryd.underlying42 rfl (by kernel_rfl)) rfl ?_
      exact ⟨by first | rfl | (simp [errW_none, errW_some] <;> rfl) | (simp [*, errW_none, errW_some] <;> rfl), by repeat (first | (with_reducible first | exact HB.out | apply below_alloc | apply pw_below_drewN | apply below_drew1 | refine below_set ?_ GE181.out) | exact HB.out)⟩
     ·rw [if_neg c6] at H
      have c6b0 : (((rd_Var l0 x6_1).f0).toList == a1.toList) = false := beq_eq_false_iff_ne.mpr c6
      have c6b1 : (((rd_Var l0 x6_1).f0).toList != a1.toList) = true := bne_iff_ne.mpr c6
      have H' := Aside0.mk H
      clear H
      have p182 : 0 ≤ (x6_1 : Int) := of_decide_eq_true (by first | (with_reducible assumption) | assumption)
      have q182 : x6_1 < (l0.length : Int) := of_decide_eq_true (by first | (with_reducible assumption) | assumption)
      obtain ⟨ad182, e182, hx182_0, hx182_1, hx182_2, hx182_3, hx182_4⟩ := at_Var HR0.out x6_1 p182 q182
      cases e182
      replace hx182_0 := (HB.out.cell (World.block_lt_of_cell? w _ hx182_0)).trans hx182_0
      replace hx182_1 := (HB.out.cell (World.block_lt_of_cell? w _ hx182_1)).trans hx182_1
      replace hx182_2 := (HB.out.cell (World.block_lt_of_cell? w _ hx182_2)).trans hx182_2
      replace hx182_3 := (HB.out.cell (World.block_lt_of_cell? w _ hx182_3)).trans hx182_3
      replace hx182_4 := (HB.out.cell (World.block_lt_of_cell? w _ hx182_4)).trans hx182_4
      replace p182 := eq_true p182
      replace q182 := eq_true q182
      go_wp2
      go_roundg k1
      case measure => have := HK1.out; omega
      case rel => exact ⟨(wrap64 (x6_1 + 1)), (x182000_1), (x182001_1), (x182002_1), (x182003_1), (x182004_1), (by first | rfl | (simp; done) | (simp [*]; done) | (simp [isE_ne]; done)), H', ⟨by have := HK1.out; omega⟩, ⟨by (with_reducible repeat (first | refine blk_drewN ?_ _ | refine blk_drew ?_ | refine blk_alloc ?_ _)); exact BK181.out⟩, ⟨by repeat (first | (with_reducible first | exact HB.out | apply below_alloc | apply pw_below_drewN | apply below_drew1 | refine below_set ?_ GE181.out) | exact HB.out)⟩⟩
    ·rw [if_neg c5] at H
     exact absurd H (by simp)
   ·rw [if_neg c4] at H
    have c4b0 : decide (x6_1 < (l0.length : Int)) = false := decide_eq_false c4
    clear c4
    simp only [Option.some.injEq, Prod.mk.injEq] at H
    obtain ⟨rfl, rfl, rfl, rfl, rfl, rfl⟩ := H
    have hcz8_0 : wr.cell? ⟨gb181, 0, none⟩ = some (.string x182000_1) := (blk_cell BK181.out 0).trans rfl
    have hcz8_1 : wr.cell? ⟨gb181, 1, none⟩ = some (.string x182001_1) := (blk_cell BK181.out 1).trans rfl
    have hcz8_2 : wr.cell? ⟨gb181, 2, none⟩ = some (.bool x182002_1) := (blk_cell BK181.out 2).trans rfl
    have hcz8_3 : wr.cell? ⟨gb181, 3, none⟩ = some (.bool x182003_1) := (blk_cell BK181.out 3).trans rfl
    have hcz8_4 : wr.cell? ⟨gb181, 4, none⟩ = some (.bool x182004_1) := (blk_cell BK181.out 4).trans rfl
    have hfz8_0 := blk_frozen BK181.out 0
    have hfz8_1 := blk_frozen BK181.out 1
    have hfz8_2 := blk_frozen BK181.out 2
    have hfz8_3 := blk_frozen BK181.out 3
    have hfz8_4 := blk_frozen BK181.out 4
    go_wp2
    refine bodyPost_ret (results_ct rfl _ _ gb181 42 #[.string (⟨#[]⟩ : ByteArray), .string (⟨#[]⟩ : ByteArray), .bool false, .bool false, .bool false] (0, 0) _ rfl (by (with_reducible repeat (first | refine blk_drewN ?_ _ | refine blk_drew ?_ | refine blk_alloc ?_ _)); refine blk_put (cs := #[.string (⟨#[]⟩ : ByteArray), .string (⟨#[]⟩ : ByteArray), .bool false, .bool false, .bool x182004_1]) ?_ 4 _ rfl; (with_reducible repeat (first | refine blk_drewN ?_ _ | refine blk_drew ?_ | refine blk_alloc ?_ _)); refine blk_put (cs := #[.string (⟨#[]⟩ : ByteArray), .string (⟨#[]⟩ : ByteArray), .bool false, .bool x182003_1, .bool x182004_1]) ?_ 3 _ rfl; (with_reducible repeat (first | refine blk_drewN ?_ _ | refine blk_drew ?_ | refine blk_alloc ?_ _)); refine blk_put (cs := #[.string (⟨#[]⟩ : ByteArray), .string (⟨#[]⟩ : ByteArray), .bool x182002_1, .bool x182003_1, .bool x182004_1]) ?_ 2 _ rfl; (with_reducible repeat (first | refine blk_drewN ?_ _ | refine blk_drew ?_ | refine blk_alloc ?_ _)); refine blk_put (cs := #[.string (⟨#[]⟩ : ByteArray), .string x182001_1, .bool x182002_1, .bool x182003_1, .bool x182004_1]) ?_ 1 _ rfl; (with_reducible repeat (first | refine blk_drewN ?_ _ | refine blk_drew ?_ | refine blk_alloc ?_ _)); refine blk_put (cs := #[.string x182000_1, .string x182001_1, .bool x182002_1, .bool x182003_1, .bool x182004_1]) ?_ 0 _ rfl; (with_reducible repeat (first | refine blk_drewN ?_ _ | refine blk_drew ?_ | refine blk_alloc ?_ _)); exact BK181.out) Tryd.underlying42 rfl (by kernel_rfl)) rfl ?_
    exact ⟨by first | rfl | (simp [errW_none, errW_some] <;> rfl) | (simp [*, errW_none, errW_some] <;> rfl), by repeat (first | (with_reducible first | exact HB.out | apply below_alloc | apply pw_below_drewN | apply below_drew1 | refine below_set ?_ GE181.out) | exact HB.out)⟩
end Go.Proofs.YtiacdccnifjcjaaDoor.F
