/- Texts of this claim, joined. -/
import Derived.Lib.ItoaLen
import Derived.Test.YtiacdccnifjcjaaDoorB0
import Derived.Test.YtiacdccnifjcjaaDoorB2
import Derived.Test.YtiacdccnifjcjaaDoorMVc0
import Derived.Test.YtiacdccnifjcjaaDoorB1
import Derived.Test.YtiacdccnifjcjaaDoorB3
namespace Go.Proofs.YtiacdccnifjcjaaDoor.F
open Go.RowKit Go.Proofs.YtiacdccnifjcjaaDoorW.PrintWords Go.Proofs.YtiacdccnifjcjaaDoorW.PrintLast Go.Proofs.YtiacdccnifjcjaaDoorW.PrintMore
attribute [local go_sem] max2_int min2_int max_two min_two max_three min_three max_four min_four
set_option linter.unusedVariables false
set_option linter.unusedSimpArgs false
def jobshelllaw48_PromptParts.j0 : Nat → ByteArray → ByteArray → Int → Bool → ByteArray → List (S_Var) → List ByteArray → Opq → List (S_Alias) → List (S_Trap) → Int → Int → Int → Int → ByteArray → Int → Int → Int → Bool → Option (Bool)
 | 0, _, _, _, _, _, _, _, _, _, _, _, _, _, _, _, _, _, _, _ => none
 | k + 1, x1, x2, x3, x23, x311000, x311001, x311002, x311003, x311004, x311005, x311006, x311007, x311008, x311009, x311010, x311011, x311012, x311013, x311014 => if x23 = true then ((jobshelllaw48_awake.f k).bind fun t312 => (some t312)) else (if x1.size + 1 ≤ 9223372036854775807 then ((prompt_Expand.f k x311000 x311001 x311002 x311003 x311004 x311005 x311006 x311007 x311008 x311009 x311010 x311011 x311012 x311013 x311014 (x1 ++ (⟨#[32]⟩ : ByteArray)) x3 x3).bind fun t313 => ((prompt_Expand.f k x311000 x311001 x311002 x311003 x311004 x311005 x311006 x311007 x311008 x311009 x311010 x311011 x311012 x311013 x311014 x2 x3 x3).bind fun t314 => (if (wrap64 ((t313.size : Int) + (t314.size : Int))) ≥ 4096 then ((jobshelllaw48_awake.f k).bind fun t315 => (some t315)) else (if (x1 ++ (⟨#[32]⟩ : ByteArray)).size + x2.size ≤ 9223372036854775807 then ((prompt_Expand.f k x311000 x311001 x311002 x311003 x311004 x311005 x311006 x311007 x311008 x311009 x311010 x311011 x311012 x311013 x311014 ((x1 ++ (⟨#[32]⟩ : ByteArray)) ++ x2) x3 x3).bind fun t316 => (if t313.size + t314.size ≤ 9223372036854775807 then (if t316.toList = (t313 ++ t314).toList then ((jobshelllaw48_awake.f k).bind fun t317 => (some t317)) else (some false)) else (none))) else (none))))) else (none))
def jobshelllaw48_PromptParts.f (k : Nat) (a0_0 : ByteArray) (l0_1 : List (S_Var)) (l0_2 : List ByteArray) (a0_3 : Opq) (l0_4 : List (S_Alias)) (l0_5 : List (S_Trap)) (a0_6 : Int) (a0_7 : Int) (a0_8 : Int) (a0_9 : Int) (a0_10 : ByteArray) (a0_11 : Int) (a0_12 : Int) (a0_13 : Int) (a0_14 : Bool) (a1 : ByteArray) (a2 : ByteArray) (a3 : Int) : Option (Bool) := (jobshelllaw48_small.f k a0_0 l0_1 l0_2 a0_3 l0_4 l0_5 a0_6 a0_7 a0_8 a0_9 a0_10 a0_11 a0_12 a0_13 a0_14).bind fun t311 => (if t311 = true then (if (a1.size : Int) > 500 then (jobshelllaw48_PromptParts.j0 k a1 a2 a3 true a0_0 l0_1 l0_2 a0_3 l0_4 l0_5 a0_6 a0_7 a0_8 a0_9 a0_10 a0_11 a0_12 a0_13 a0_14) else (jobshelllaw48_PromptParts.j0 k a1 a2 a3 (decide ((a2.size : Int) > 500)) a0_0 l0_1 l0_2 a0_3 l0_4 l0_5 a0_6 a0_7 a0_8 a0_9 a0_10 a0_11 a0_12 a0_13 a0_14)) else (jobshelllaw48_PromptParts.j0 k a1 a2 a3 true a0_0 l0_1 l0_2 a0_3 l0_4 l0_5 a0_6 a0_7 a0_8 a0_9 a0_10 a0_11 a0_12 a0_13 a0_14))
theorem jobshelllaw48_PromptParts.mono_l : ∀ k, (∀ y0 y1 y2 y3 y4 y5 y6 y7 y8 y9 y10 y11 y12 y13 y14 y15 y16 y17 y18, LeO (jobshelllaw48_PromptParts.j0 k y0 y1 y2 y3 y4 y5 y6 y7 y8 y9 y10 y11 y12 y13 y14 y15 y16 y17 y18) (jobshelllaw48_PromptParts.j0 (k + 1) y0 y1 y2 y3 y4 y5 y6 y7 y8 y9 y10 y11 y12 y13 y14 y15 y16 y17 y18))
 | 0 => fun _ _ _ _ _ _ _ _ _ _ _ _ _ _ _ _ _ _ _ r h => by simp [jobshelllaw48_PromptParts.j0] at h
 | k + 1 => by
  have ih0 := jobshelllaw48_PromptParts.mono_l k
  ·intro y0 y1 y2 y3 y4 y5 y6 y7 y8 y9 y10 y11 y12 y13 y14 y15 y16 y17 y18
   unfold jobshelllaw48_PromptParts.j0
   repeat' first
   | (with_reducible exact ih0 _ _ _ _ _ _ _ _ _ _ _ _ _ _ _ _ _ _ _)
   | (with_reducible exact jobshelllaw48_awake.mono _)
   | (with_reducible exact jobshelllaw48_small.mono _ _ _ _ _ _ _ _ _ _ _ _ _ _ _ _)
   | (with_reducible exact prompt_Expand.mono _ _ _ _ _ _ _ _ _ _ _ _ _ _ _ _ _ _ _)
   | (with_reducible exact LeO.refl _)
   | (with_reducible exact LeO.none _)
   | (with_reducible refine LeO.ite ?_ ?_)
   | (with_reducible refine LeO.bind ?_ (fun _ => ?_))
   | exact ih0 _ _ _ _ _ _ _ _ _ _ _ _ _ _ _ _ _ _ _
   | exact jobshelllaw48_awake.mono _
   | exact jobshelllaw48_small.mono _ _ _ _ _ _ _ _ _ _ _ _ _ _ _ _
   | exact prompt_Expand.mono _ _ _ _ _ _ _ _ _ _ _ _ _ _ _ _ _ _ _
   | exact LeO.none _
   | refine LeO.ite ?_ ?_
   | refine LeO.bind ?_ (fun _ => ?_)
theorem jobshelllaw48_PromptParts.mono : ∀ a0 a1 a2 a3 a4 a5 a6 a7 a8 a9 a10 a11 a12 a13 a14 a15 a16 a17 k, LeO (jobshelllaw48_PromptParts.f k a0 a1 a2 a3 a4 a5 a6 a7 a8 a9 a10 a11 a12 a13 a14 a15 a16 a17) (jobshelllaw48_PromptParts.f (k + 1) a0 a1 a2 a3 a4 a5 a6 a7 a8 a9 a10 a11 a12 a13 a14 a15 a16 a17) := by
 intro a0 a1 a2 a3 a4 a5 a6 a7 a8 a9 a10 a11 a12 a13 a14 a15 a16 a17 k
 have ih0 := jobshelllaw48_PromptParts.mono_l k
 unfold jobshelllaw48_PromptParts.f
 repeat' first
   | (with_reducible exact ih0 _ _ _ _ _ _ _ _ _ _ _ _ _ _ _ _ _ _ _)
   | (with_reducible exact jobshelllaw48_awake.mono _)
   | (with_reducible exact jobshelllaw48_small.mono _ _ _ _ _ _ _ _ _ _ _ _ _ _ _ _)
   | (with_reducible exact prompt_Expand.mono _ _ _ _ _ _ _ _ _ _ _ _ _ _ _ _ _ _ _)
   | (with_reducible exact LeO.refl _)
   | (with_reducible exact LeO.none _)
   | (with_reducible refine LeO.ite ?_ ?_)
   | (with_reducible refine LeO.bind ?_ (fun _ => ?_))
   | exact ih0 _ _ _ _ _ _ _ _ _ _ _ _ _ _ _ _ _ _ _
   | exact jobshelllaw48_awake.mono _
   | exact jobshelllaw48_small.mono _ _ _ _ _ _ _ _ _ _ _ _ _ _ _ _
   | exact prompt_Expand.mono _ _ _ _ _ _ _ _ _ _ _ _ _ _ _ _ _ _ _
   | exact LeO.none _
   | refine LeO.ite ?_ ?_
   | refine LeO.bind ?_ (fun _ => ?_)
def jobshelllaw48_PromptParts.T3 : Bool × List (List Nat × List Nat) := (true, [([], []), ([], []), ([1], [1]), ([], []), ([], []), ([0, 2, 3, 4], [0, 2, 3, 4]), ([], []), ([], []), ([], []), ([], []), ([6, 7, 8, 9, 5], [6, 7, 8, 9]), ([5, 10, 0, 1, 2, 3, 4, 5], [5]), ([10, 11, 0, 1, 2, 3, 4, 5, 6, 7, 8, 9, 10, 11], [10])])
def jobshelllaw48_PromptParts.B3 : List Nat := [0, 0, 2, 0, 0, 31, 0, 0, 0, 0, 1023, 2047, 4095]
theorem jobshelllaw48_PromptParts.tab3 : rtab .any (opsOf Tryd.f6 3) = jobshelllaw48_PromptParts.T3 := by kernel_rfl
theorem jobshelllaw48_PromptParts.bits3 : waitsOk jobshelllaw48_PromptParts.T3.2 jobshelllaw48_PromptParts.B3 = true := by kernel_rfl
set_option maxHeartbeats 60000000 in
set_option maxRecDepth 100000 in
theorem jobshelllaw48_PromptParts.calls (k : Nat) (a0_0 : ByteArray) (A0_1 : Option Addr) (c0_1 : Nat) (l0_1 : List (S_Var)) (A0_2 : Option Addr) (c0_2 : Nat) (l0_2 : List ByteArray) (a0_3 : Opq) (A0_4 : Option Addr) (c0_4 : Nat) (l0_4 : List (S_Alias)) (A0_5 : Option Addr) (c0_5 : Nat) (l0_5 : List (S_Trap)) (a0_6 : Int) (a0_7 : Int) (a0_8 : Int) (a0_9 : Int) (a0_10 : ByteArray) (a0_11 : Int) (a0_12 : Int) (a0_13 : Int) (a0_14 : Bool) (a1 : ByteArray) (a2 : ByteArray) (a3 : Int) (r : Bool) (w : World) (hr0_1 : Kd.C k_Var w A0_1 l0_1.length l0_1) (hc0_1 : l0_1.length ≤ c0_1) (hr0_2 : Kd.C Kd.string w A0_2 l0_2.length l0_2) (hc0_2 : l0_2.length ≤ c0_2) (hr0_4 : Kd.C k_Alias w A0_4 l0_4.length l0_4) (hc0_4 : l0_4.length ≤ c0_4) (hr0_5 : Kd.C k_Trap w A0_5 l0_5.length l0_5) (hc0_5 : l0_5.length ≤ c0_5) (hamb : AmbC w) (h : jobshelllaw48_PromptParts.f k a0_0 l0_1 l0_2 a0_3 l0_4 l0_5 a0_6 a0_7 a0_8 a0_9 a0_10 a0_11 a0_12 a0_13 a0_14 a1 a2 a3 = some r) :
  Calls Tryd.prog 6 #[.agg #[.string a0_0, .slice A0_1 l0_1.length c0_1, .slice A0_2 l0_2.length c0_2, .slice (a0_3).A (a0_3).n (a0_3).c, .slice A0_4 l0_4.length c0_4, .slice A0_5 l0_5.length c0_5, .int .i64 a0_6, .int .i64 a0_7, .int .i64 a0_8, .int .i64 a0_9, .string a0_10, .int .i64 a0_11, .int .i64 a0_12, .int .i64 a0_13, .bool a0_14], .string a1, .string a2, .int .i64 a3] w fun e w' => e = .returned (.bool r) ∧ Below w.heap.size w w' := by
 have hu30 := Tryd.underlying30
 have HAMB := Aside0.mk hamb
 clear hamb
 have HR0_1 := Aside0.mk hr0_1
 have HC0_1 := Aside0.mk hc0_1
 clear hr0_1 hc0_1
 have HR0_2 := Aside0.mk hr0_2
 have HC0_2 := Aside0.mk hc0_2
 clear hr0_2 hc0_2
 have HR0_4 := Aside0.mk hr0_4
 have HC0_4 := Aside0.mk hc0_4
 clear hr0_4 hc0_4
 have HR0_5 := Aside0.mk hr0_5
 have HC0_5 := Aside0.mk hc0_5
 clear hr0_5 hc0_5
 have HB := Aside0.mk (Below.refl w.heap.size w)
 have H : ((jobshelllaw48_small.f k a0_0 l0_1 l0_2 a0_3 l0_4 l0_5 a0_6 a0_7 a0_8 a0_9 a0_10 a0_11 a0_12 a0_13 a0_14).bind fun t311 => (if t311 = true then (if (a1.size : Int) > 500 then (jobshelllaw48_PromptParts.j0 k a1 a2 a3 true a0_0 l0_1 l0_2 a0_3 l0_4 l0_5 a0_6 a0_7 a0_8 a0_9 a0_10 a0_11 a0_12 a0_13 a0_14) else (jobshelllaw48_PromptParts.j0 k a1 a2 a3 (decide ((a2.size : Int) > 500)) a0_0 l0_1 l0_2 a0_3 l0_4 l0_5 a0_6 a0_7 a0_8 a0_9 a0_10 a0_11 a0_12 a0_13 a0_14)) else (jobshelllaw48_PromptParts.j0 k a1 a2 a3 true a0_0 l0_1 l0_2 a0_3 l0_4 l0_5 a0_6 a0_7 a0_8 a0_9 a0_10 a0_11 a0_12 a0_13 a0_14))) = some r := h
 clear h
 have HC5 := Aside0.mk H
 clear H
 go_enter Tryd.func6, Tryd.ntmps6
 go_upto_region 1 with (first | ((with_reducible refine gate_dst (N := 4) rfl ?_); (try (refine gate_guard (by rfl) ?_; dsimp only)); refine box_event ?hg (N := 4) ?hd (cs := #[.string a0_0, .slice A0_1 l0_1.length c0_1, .slice A0_2 l0_2.length c0_2, .slice (a0_3).A (a0_3).n (a0_3).c, .slice A0_4 l0_4.length c0_4, .slice A0_5 l0_5.length c0_5, .int .i64 a0_6, .int .i64 a0_7, .int .i64 a0_8, .int .i64 a0_9, .string a0_10, .int .i64 a0_11, .int .i64 a0_12, .int .i64 a0_13, .bool a0_14]) (t := 30) ?hr ?_; (case hd => rfl); (case hg => rfl); (case hr => first | (go_simp; done) | (go_simp; rfl)); intro gb310 hg w6 hbox hb; have n0_ := Aside0.mk (below_step (by repeat (first | (with_reducible first | exact HB.out | apply below_alloc | apply pw_below_drewN | apply below_drew1) | exact HB.out)) hb); have n1_ := Aside0.mk (hbox); have n2_ := Aside0.mk ((by rw [hg]; exact (below_size (by repeat (first | (with_reducible first | exact HB.out | apply below_alloc | apply pw_below_drewN | apply below_drew1) | exact HB.out))) : w.heap.size ≤ gb310)); have n3_ := Aside0.mk ((by rw [hg]; exact (below_size (by repeat (first | (with_reducible first | exact HB.out | apply below_alloc | apply pw_below_drewN | apply below_drew1) | exact HB.out))) : w.heap.size ≤ gb310)); clear HB; have HB := n0_; have BK310 := n1_; have GW310 := n2_; have GE310 := n3_; clear n0_ n1_ n2_ n3_; clear hb hbox hg))
 (try simp only [Act.put, List.setIfInBounds_toArray, List.set_cons_zero, List.set_cons_succ])
 go_cut [23] (fun v23 wc => ∃ (kq : Nat) (x23_4 : Bool), v23 = .bool x23_4 ∧ Aside0 (jobshelllaw48_PromptParts.j0 kq a1 a2 a3 x23_4 a0_0 l0_1 l0_2 a0_3 l0_4 l0_5 a0_6 a0_7 a0_8 a0_9 a0_10 a0_11 a0_12 a0_13 a0_14 = some r) ∧ Aside0 (kq ≤ k) ∧ Aside0 (wc.heap[gb310]? = some (.cells #[.string a0_0, (.slice A0_1 l0_1.length c0_1), (.slice A0_2 l0_2.length c0_2), .slice (a0_3).A (a0_3).n (a0_3).c, (.slice A0_4 l0_4.length c0_4), (.slice A0_5 l0_5.length c0_5), .int .i64 a0_6, .int .i64 a0_7, .int .i64 a0_8, .int .i64 a0_9, .string a0_10, .int .i64 a0_11, .int .i64 a0_12, .int .i64 a0_13, .bool a0_14] 30 (0, 0))) ∧ Aside0 (Below w.heap.size w wc))
 case first =>
  have H := HC5.out
  clear HC5
  replace H := Option.bind_eq_some_iff.mp H
  obtain ⟨t311, A70, H⟩ := H
  replace H : (if t311 = true then (if (a1.size : Int) > 500 then (jobshelllaw48_PromptParts.j0 k a1 a2 a3 true a0_0 l0_1 l0_2 a0_3 l0_4 l0_5 a0_6 a0_7 a0_8 a0_9 a0_10 a0_11 a0_12 a0_13 a0_14) else (jobshelllaw48_PromptParts.j0 k a1 a2 a3 (decide ((a2.size : Int) > 500)) a0_0 l0_1 l0_2 a0_3 l0_4 l0_5 a0_6 a0_7 a0_8 a0_9 a0_10 a0_11 a0_12 a0_13 a0_14)) else (jobshelllaw48_PromptParts.j0 k a1 a2 a3 true a0_0 l0_1 l0_2 a0_3 l0_4 l0_5 a0_6 a0_7 a0_8 a0_9 a0_10 a0_11 a0_12 a0_13 a0_14)) = some r := H
  have A7 := Aside0.mk A70
  clear A70
  by_cases c8 : t311 = true
  ·subst c8
   have H1 : (if (a1.size : Int) > 500 then (jobshelllaw48_PromptParts.j0 k a1 a2 a3 true a0_0 l0_1 l0_2 a0_3 l0_4 l0_5 a0_6 a0_7 a0_8 a0_9 a0_10 a0_11 a0_12 a0_13 a0_14) else (jobshelllaw48_PromptParts.j0 k a1 a2 a3 (decide ((a2.size : Int) > 500)) a0_0 l0_1 l0_2 a0_3 l0_4 l0_5 a0_6 a0_7 a0_8 a0_9 a0_10 a0_11 a0_12 a0_13 a0_14)) = some r := by rw [if_pos rfl] at H; exact H
   clear H
   have H := H1
   clear H1
   by_cases c9 : (a1.size : Int) > 500
   ·as_aux_lemma =>
    rw [if_pos c9] at H
    have c9b0 : decide (500 < (a1.size : Int)) = true := decide_eq_true c9
    have c9b1 : decide (500 < a1.size) = true := decide_eq_true (by omega)
    clear c9
    (first | rw [c9b0] | (simp only [i64_w, i32_w]; rw [c9b0]) | skip)
    have H' := Aside0.mk H
    clear H
    have hcz10_0 : w6.cell? ⟨gb310, 0, none⟩ = some (.string a0_0) := (blk_cell BK310.out 0).trans rfl
    have hcz10_1 : w6.cell? ⟨gb310, 1, none⟩ = some (.slice A0_1 l0_1.length c0_1) := (blk_cell BK310.out 1).trans rfl
    have hcz10_2 : w6.cell? ⟨gb310, 2, none⟩ = some (.slice A0_2 l0_2.length c0_2) := (blk_cell BK310.out 2).trans rfl
    have hcz10_3 : w6.cell? ⟨gb310, 3, none⟩ = some (.slice (a0_3).A (a0_3).n (a0_3).c) := (blk_cell BK310.out 3).trans rfl
    have hcz10_4 : w6.cell? ⟨gb310, 4, none⟩ = some (.slice A0_4 l0_4.length c0_4) := (blk_cell BK310.out 4).trans rfl
    have hcz10_5 : w6.cell? ⟨gb310, 5, none⟩ = some (.slice A0_5 l0_5.length c0_5) := (blk_cell BK310.out 5).trans rfl
    have hcz10_6 : w6.cell? ⟨gb310, 6, none⟩ = some (.int .i64 a0_6) := (blk_cell BK310.out 6).trans rfl
    have hcz10_7 : w6.cell? ⟨gb310, 7, none⟩ = some (.int .i64 a0_7) := (blk_cell BK310.out 7).trans rfl
    have hcz10_8 : w6.cell? ⟨gb310, 8, none⟩ = some (.int .i64 a0_8) := (blk_cell BK310.out 8).trans rfl
    have hcz10_9 : w6.cell? ⟨gb310, 9, none⟩ = some (.int .i64 a0_9) := (blk_cell BK310.out 9).trans rfl
    have hcz10_10 : w6.cell? ⟨gb310, 10, none⟩ = some (.string a0_10) := (blk_cell BK310.out 10).trans rfl
    have hcz10_11 : w6.cell? ⟨gb310, 11, none⟩ = some (.int .i64 a0_11) := (blk_cell BK310.out 11).trans rfl
    have hcz10_12 : w6.cell? ⟨gb310, 12, none⟩ = some (.int .i64 a0_12) := (blk_cell BK310.out 12).trans rfl
    have hcz10_13 : w6.cell? ⟨gb310, 13, none⟩ = some (.int .i64 a0_13) := (blk_cell BK310.out 13).trans rfl
    have hcz10_14 : w6.cell? ⟨gb310, 14, none⟩ = some (.bool a0_14) := (blk_cell BK310.out 14).trans rfl
    have hfz10_0 := blk_frozen BK310.out 0
    have hfz10_1 := blk_frozen BK310.out 1
    have hfz10_2 := blk_frozen BK310.out 2
    have hfz10_3 := blk_frozen BK310.out 3
    have hfz10_4 := blk_frozen BK310.out 4
    have hfz10_5 := blk_frozen BK310.out 5
    have hfz10_6 := blk_frozen BK310.out 6
    have hfz10_7 := blk_frozen BK310.out 7
    have hfz10_8 := blk_frozen BK310.out 8
    have hfz10_9 := blk_frozen BK310.out 9
    have hfz10_10 := blk_frozen BK310.out 10
    have hfz10_11 := blk_frozen BK310.out 11
    have hfz10_12 := blk_frozen BK310.out 12
    have hfz10_13 := blk_frozen BK310.out 13
    have hfz10_14 := blk_frozen BK310.out 14
    go_wp2_with (first | ((with_reducible refine gate_callee (f := 8) rfl ?_); refine goesL_ (some 12) rfl rfl Tryd.func8 (by kernel_rfl) rfl #[.agg #[.string a0_0, .slice A0_1 l0_1.length c0_1, .slice A0_2 l0_2.length c0_2, .slice (a0_3).A (a0_3).n (a0_3).c, .slice A0_4 l0_4.length c0_4, .slice A0_5 l0_5.length c0_5, .int .i64 a0_6, .int .i64 a0_7, .int .i64 a0_8, .int .i64 a0_9, .string a0_10, .int .i64 a0_11, .int .i64 a0_12, .int .i64 a0_13, .bool a0_14]] rfl (by (try simp only [List.map_toArray, List.map_cons, List.map_nil]); first | done | rfl | (simp only [List.length_drop, List.length_take]; rfl)) ?_; (with_reducible refine (jobshelllaw48_small.calls k a0_0 _ _ l0_1 _ _ l0_2 a0_3 _ _ l0_4 _ _ l0_5 a0_6 a0_7 a0_8 a0_9 a0_10 a0_11 a0_12 a0_13 a0_14 true _ ?side1 ?side2 ?side3 ?side4 ?side5 ?side6 ?side7 ?side8 A7.out).mono ?_); (case side1 => repeat (first | exact (Kd.C_below HR0_1.out HB.out) | (with_reducible refine Kd.C_alloc ?_ _) | (with_reducible refine Kd.C_drewN ?_ _) | (with_reducible refine Kd.C_drew ?_))); (case side2 => exact HC0_1.out); (case side3 => repeat (first | exact (Kd.C_below HR0_2.out HB.out) | (with_reducible refine Kd.C_alloc ?_ _) | (with_reducible refine Kd.C_drewN ?_ _) | (with_reducible refine Kd.C_drew ?_))); (case side4 => exact HC0_2.out); (case side5 => repeat (first | exact (Kd.C_below HR0_4.out HB.out) | (with_reducible refine Kd.C_alloc ?_ _) | (with_reducible refine Kd.C_drewN ?_ _) | (with_reducible refine Kd.C_drew ?_))); (case side6 => exact HC0_4.out); (case side7 => repeat (first | exact (Kd.C_below HR0_5.out HB.out) | (with_reducible refine Kd.C_alloc ?_ _) | (with_reducible refine Kd.C_drewN ?_ _) | (with_reducible refine Kd.C_drew ?_))); (case side8 => exact HC0_5.out); rintro e w11 ⟨rfl, hb⟩; refine ⟨_, rfl, ?_⟩; have n0_ := Aside0.mk (blk_below (g := gb310) (o := .cells #[.string a0_0, .slice A0_1 l0_1.length c0_1, .slice A0_2 l0_2.length c0_2, .slice (a0_3).A (a0_3).n (a0_3).c, .slice A0_4 l0_4.length c0_4, .slice A0_5 l0_5.length c0_5, .int .i64 a0_6, .int .i64 a0_7, .int .i64 a0_8, .int .i64 a0_9, .string a0_10, .int .i64 a0_11, .int .i64 a0_12, .int .i64 a0_13, .bool a0_14] 30 (0, 0)) (by (with_reducible repeat (first | refine blk_drewN ?_ _ | refine blk_drew ?_ | refine blk_alloc ?_ _)); exact BK310.out) hb); have n1_ := Aside0.mk (below_step (by repeat (first | (with_reducible first | exact HB.out | apply below_alloc | apply pw_below_drewN | apply below_drew1 | refine below_set ?_ GE310.out) | exact HB.out)) hb); clear BK310; clear HB; have BK310 := n0_; have HB := n1_; clear n0_ n1_; (try clear hb); (try clear hb2); (try clear hk); (try clear hi)))
    go_meet
    case rel => exact ⟨_, (true), (by first | rfl | (simp; done) | (simp [*]; done) | (simp [isE_ne]; done)), H', ⟨by first | omega | exact Nat.le_refl _⟩, ⟨by (with_reducible repeat (first | refine blk_drewN ?_ _ | refine blk_drew ?_ | refine blk_alloc ?_ _)); exact BK310.out⟩, ⟨by repeat (first | (with_reducible first | exact HB.out | apply below_alloc | apply pw_below_drewN | apply below_drew1 | refine below_set ?_ GE310.out) | exact HB.out)⟩⟩
   ·as_aux_lemma =>
    rw [if_neg c9] at H
    have c9b0 : decide (500 < (a1.size : Int)) = false := decide_eq_false c9
    have c9b1 : decide (500 < a1.size) = false := decide_eq_false (by omega)
    clear c9
    (first | rw [c9b0] | (simp only [i64_w, i32_w]; rw [c9b0]) | skip)
    have H' := Aside0.mk H
    clear H
    have hcz12_0 : w6.cell? ⟨gb310, 0, none⟩ = some (.string a0_0) := (blk_cell BK310.out 0).trans rfl
    have hcz12_1 : w6.cell? ⟨gb310, 1, none⟩ = some (.slice A0_1 l0_1.length c0_1) := (blk_cell BK310.out 1).trans rfl
    have hcz12_2 : w6.cell? ⟨gb310, 2, none⟩ = some (.slice A0_2 l0_2.length c0_2) := (blk_cell BK310.out 2).trans rfl
    have hcz12_3 : w6.cell? ⟨gb310, 3, none⟩ = some (.slice (a0_3).A (a0_3).n (a0_3).c) := (blk_cell BK310.out 3).trans rfl
    have hcz12_4 : w6.cell? ⟨gb310, 4, none⟩ = some (.slice A0_4 l0_4.length c0_4) := (blk_cell BK310.out 4).trans rfl
    have hcz12_5 : w6.cell? ⟨gb310, 5, none⟩ = some (.slice A0_5 l0_5.length c0_5) := (blk_cell BK310.out 5).trans rfl
    have hcz12_6 : w6.cell? ⟨gb310, 6, none⟩ = some (.int .i64 a0_6) := (blk_cell BK310.out 6).trans rfl
    have hcz12_7 : w6.cell? ⟨gb310, 7, none⟩ = some (.int .i64 a0_7) := (blk_cell BK310.out 7).trans rfl
    have hcz12_8 : w6.cell? ⟨gb310, 8, none⟩ = some (.int .i64 a0_8) := (blk_cell BK310.out 8).trans rfl
    have hcz12_9 : w6.cell? ⟨gb310, 9, none⟩ = some (.int .i64 a0_9) := (blk_cell BK310.out 9).trans rfl
    have hcz12_10 : w6.cell? ⟨gb310, 10, none⟩ = some (.string a0_10) := (blk_cell BK310.out 10).trans rfl
    have hcz12_11 : w6.cell? ⟨gb310, 11, none⟩ = some (.int .i64 a0_11) := (blk_cell BK310.out 11).trans rfl
    have hcz12_12 : w6.cell? ⟨gb310, 12, none⟩ = some (.int .i64 a0_12) := (blk_cell BK310.out 12).trans rfl
    have hcz12_13 : w6.cell? ⟨gb310, 13, none⟩ = some (.int .i64 a0_13) := (blk_cell BK310.out 13).trans rfl
    have hcz12_14 : w6.cell? ⟨gb310, 14, none⟩ = some (.bool a0_14) := (blk_cell BK310.out 14).trans rfl
    have hfz12_0 := blk_frozen BK310.out 0
    have hfz12_1 := blk_frozen BK310.out 1
    have hfz12_2 := blk_frozen BK310.out 2
    have hfz12_3 := blk_frozen BK310.out 3
    have hfz12_4 := blk_frozen BK310.out 4
    have hfz12_5 := blk_frozen BK310.out 5
    have hfz12_6 := blk_frozen BK310.out 6
    have hfz12_7 := blk_frozen BK310.out 7
    have hfz12_8 := blk_frozen BK310.out 8
    have hfz12_9 := blk_frozen BK310.out 9
    have hfz12_10 := blk_frozen BK310.out 10
    have hfz12_11 := blk_frozen BK310.out 11
    have hfz12_12 := blk_frozen BK310.out 12
    have hfz12_13 := blk_frozen BK310.out 13
    have hfz12_14 := blk_frozen BK310.out 14
    go_wp2_with (first | ((with_reducible refine gate_callee (f := 8) rfl ?_); refine goesL_ (some 12) rfl rfl Tryd.func8 (by kernel_rfl) rfl #[.agg #[.string a0_0, .slice A0_1 l0_1.length c0_1, .slice A0_2 l0_2.length c0_2, .slice (a0_3).A (a0_3).n (a0_3).c, .slice A0_4 l0_4.length c0_4, .slice A0_5 l0_5.length c0_5, .int .i64 a0_6, .int .i64 a0_7, .int .i64 a0_8, .int .i64 a0_9, .string a0_10, .int .i64 a0_11, .int .i64 a0_12, .int .i64 a0_13, .bool a0_14]] rfl (by (try simp only [List.map_toArray, List.map_cons, List.map_nil]); first | done | rfl | (simp only [List.length_drop, List.length_take]; rfl)) ?_; (with_reducible refine (jobshelllaw48_small.calls k a0_0 _ _ l0_1 _ _ l0_2 a0_3 _ _ l0_4 _ _ l0_5 a0_6 a0_7 a0_8 a0_9 a0_10 a0_11 a0_12 a0_13 a0_14 true _ ?side1 ?side2 ?side3 ?side4 ?side5 ?side6 ?side7 ?side8 A7.out).mono ?_); (case side1 => repeat (first | exact (Kd.C_below HR0_1.out HB.out) | (with_reducible refine Kd.C_alloc ?_ _) | (with_reducible refine Kd.C_drewN ?_ _) | (with_reducible refine Kd.C_drew ?_))); (case side2 => exact HC0_1.out); (case side3 => repeat (first | exact (Kd.C_below HR0_2.out HB.out) | (with_reducible refine Kd.C_alloc ?_ _) | (with_reducible refine Kd.C_drewN ?_ _) | (with_reducible refine Kd.C_drew ?_))); (case side4 => exact HC0_2.out); (case side5 => repeat (first | exact (Kd.C_below HR0_4.out HB.out) | (with_reducible refine Kd.C_alloc ?_ _) | (with_reducible refine Kd.C_drewN ?_ _) | (with_reducible refine Kd.C_drew ?_))); (case side6 => exact HC0_4.out); (case side7 => repeat (first | exact (Kd.C_below HR0_5.out HB.out) | (with_reducible refine Kd.C_alloc ?_ _) | (with_reducible refine Kd.C_drewN ?_ _) | (with_reducible refine Kd.C_drew ?_))); (case side8 => exact HC0_5.out); rintro e w13 ⟨rfl, hb⟩; refine ⟨_, rfl, ?_⟩; have n0_ := Aside0.mk (blk_below (g := gb310) (o := .cells #[.string a0_0, .slice A0_1 l0_1.length c0_1, .slice A0_2 l0_2.length c0_2, .slice (a0_3).A (a0_3).n (a0_3).c, .slice A0_4 l0_4.length c0_4, .slice A0_5 l0_5.length c0_5, .int .i64 a0_6, .int .i64 a0_7, .int .i64 a0_8, .int .i64 a0_9, .string a0_10, .int .i64 a0_11, .int .i64 a0_12, .int .i64 a0_13, .bool a0_14] 30 (0, 0)) (by (with_reducible repeat (first | refine blk_drewN ?_ _ | refine blk_drew ?_ | refine blk_alloc ?_ _)); exact BK310.out) hb); have n1_ := Aside0.mk (below_step (by repeat (first | (with_reducible first | exact HB.out | apply below_alloc | apply pw_below_drewN | apply below_drew1 | refine below_set ?_ GE310.out) | exact HB.out)) hb); clear BK310; clear HB; have BK310 := n0_; have HB := n1_; clear n0_ n1_; (try clear hb); (try clear hb2); (try clear hk); (try clear hi)))
    go_meet
    case rel => exact ⟨_, (decide ((a2.size : Int) > 500)), (by first | rfl | (simp; done) | (simp [*]; done) | (simp [isE_ne]; done)), H', ⟨by first | omega | exact Nat.le_refl _⟩, ⟨by (with_reducible repeat (first | refine blk_drewN ?_ _ | refine blk_drew ?_ | refine blk_alloc ?_ _)); exact BK310.out⟩, ⟨by repeat (first | (with_reducible first | exact HB.out | apply below_alloc | apply pw_below_drewN | apply below_drew1 | refine below_set ?_ GE310.out) | exact HB.out)⟩⟩
  ·replace c8 := Bool.eq_false_iff.mpr c8
   subst c8
   have H1 : (jobshelllaw48_PromptParts.j0 k a1 a2 a3 true a0_0 l0_1 l0_2 a0_3 l0_4 l0_5 a0_6 a0_7 a0_8 a0_9 a0_10 a0_11 a0_12 a0_13 a0_14) = some r := by rw [if_neg (show ¬ (false = true) by decide)] at H; exact H
   clear H
   have H := H1
   clear H1
   have H' := Aside0.mk H
   clear H
   have hcz14_0 : w6.cell? ⟨gb310, 0, none⟩ = some (.string a0_0) := (blk_cell BK310.out 0).trans rfl
   have hcz14_1 : w6.cell? ⟨gb310, 1, none⟩ = some (.slice A0_1 l0_1.length c0_1) := (blk_cell BK310.out 1).trans rfl
   have hcz14_2 : w6.cell? ⟨gb310, 2, none⟩ = some (.slice A0_2 l0_2.length c0_2) := (blk_cell BK310.out 2).trans rfl
   have hcz14_3 : w6.cell? ⟨gb310, 3, none⟩ = some (.slice (a0_3).A (a0_3).n (a0_3).c) := (blk_cell BK310.out 3).trans rfl
   have hcz14_4 : w6.cell? ⟨gb310, 4, none⟩ = some (.slice A0_4 l0_4.length c0_4) := (blk_cell BK310.out 4).trans rfl
   have hcz14_5 : w6.cell? ⟨gb310, 5, none⟩ = some (.slice A0_5 l0_5.length c0_5) := (blk_cell BK310.out 5).trans rfl
   have hcz14_6 : w6.cell? ⟨gb310, 6, none⟩ = some (.int .i64 a0_6) := (blk_cell BK310.out 6).trans rfl
   have hcz14_7 : w6.cell? ⟨gb310, 7, none⟩ = some (.int .i64 a0_7) := (blk_cell BK310.out 7).trans rfl
   have hcz14_8 : w6.cell? ⟨gb310, 8, none⟩ = some (.int .i64 a0_8) := (blk_cell BK310.out 8).trans rfl
   have hcz14_9 : w6.cell? ⟨gb310, 9, none⟩ = some (.int .i64 a0_9) := (blk_cell BK310.out 9).trans rfl
   have hcz14_10 : w6.cell? ⟨gb310, 10, none⟩ = some (.string a0_10) := (blk_cell BK310.out 10).trans rfl
   have hcz14_11 : w6.cell? ⟨gb310, 11, none⟩ = some (.int .i64 a0_11) := (blk_cell BK310.out 11).trans rfl
   have hcz14_12 : w6.cell? ⟨gb310, 12, none⟩ = some (.int .i64 a0_12) := (blk_cell BK310.out 12).trans rfl
   have hcz14_13 : w6.cell? ⟨gb310, 13, none⟩ = some (.int .i64 a0_13) := (blk_cell BK310.out 13).trans rfl
   have hcz14_14 : w6.cell? ⟨gb310, 14, none⟩ = some (.bool a0_14) := (blk_cell BK310.out 14).trans rfl
   have hfz14_0 := blk_frozen BK310.out 0
   have hfz14_1 := blk_frozen BK310.out 1
   have hfz14_2 := blk_frozen BK310.out 2
   have hfz14_3 := blk_frozen BK310.out 3
   have hfz14_4 := blk_frozen BK310.out 4
   have hfz14_5 := blk_frozen BK310.out 5
   have hfz14_6 := blk_frozen BK310.out 6
   have hfz14_7 := blk_frozen BK310.out 7
   have hfz14_8 := blk_frozen BK310.out 8
   have hfz14_9 := blk_frozen BK310.out 9
   have hfz14_10 := blk_frozen BK310.out 10
   have hfz14_11 := blk_frozen BK310.out 11
   have hfz14_12 := blk_frozen BK310.out 12
   have hfz14_13 := blk_frozen BK310.out 13
   have hfz14_14 := blk_frozen BK310.out 14
   go_wp2_with (first | ((with_reducible refine gate_callee (f := 8) rfl ?_); refine goesL_ (some 12) rfl rfl Tryd.func8 (by kernel_rfl) rfl #[.agg #[.string a0_0, .slice A0_1 l0_1.length c0_1, .slice A0_2 l0_2.length c0_2, .slice (a0_3).A (a0_3).n (a0_3).c, .slice A0_4 l0_4.length c0_4, .slice A0_5 l0_5.length c0_5, .int .i64 a0_6, .int .i64 a0_7, .int .i64 a0_8, .int .i64 a0_9, .string a0_10, .int .i64 a0_11, .int .i64 a0_12, .int .i64 a0_13, .bool a0_14]] rfl (by (try simp only [List.map_toArray, List.map_cons, List.map_nil]); first | done | rfl | (simp only [List.length_drop, List.length_take]; rfl)) ?_; (with_reducible refine (jobshelllaw48_small.calls k a0_0 _ _ l0_1 _ _ l0_2 a0_3 _ _ l0_4 _ _ l0_5 a0_6 a0_7 a0_8 a0_9 a0_10 a0_11 a0_12 a0_13 a0_14 false _ ?side1 ?side2 ?side3 ?side4 ?side5 ?side6 ?side7 ?side8 A7.out).mono ?_); (case side1 => repeat (first | exact (Kd.C_below HR0_1.out HB.out) | (with_reducible refine Kd.C_alloc ?_ _) | (with_reducible refine Kd.C_drewN ?_ _) | (with_reducible refine Kd.C_drew ?_))); (case side2 => exact HC0_1.out); (case side3 => repeat (first | exact (Kd.C_below HR0_2.out HB.out) | (with_reducible refine Kd.C_alloc ?_ _) | (with_reducible refine Kd.C_drewN ?_ _) | (with_reducible refine Kd.C_drew ?_))); (case side4 => exact HC0_2.out); (case side5 => repeat (first | exact (Kd.C_below HR0_4.out HB.out) | (with_reducible refine Kd.C_alloc ?_ _) | (with_reducible refine Kd.C_drewN ?_ _) | (with_reducible refine Kd.C_drew ?_))); (case side6 => exact HC0_4.out); (case side7 => repeat (first | exact (Kd.C_below HR0_5.out HB.out) | (with_reducible refine Kd.C_alloc ?_ _) | (with_reducible refine Kd.C_drewN ?_ _) | (with_reducible refine Kd.C_drew ?_))); (case side8 => exact HC0_5.out); rintro e w15 ⟨rfl, hb⟩; refine ⟨_, rfl, ?_⟩; have n0_ := Aside0.mk (blk_below (g := gb310) (o := .cells #[.string a0_0, .slice A0_1 l0_1.length c0_1, .slice A0_2 l0_2.length c0_2, .slice (a0_3).A (a0_3).n (a0_3).c, .slice A0_4 l0_4.length c0_4, .slice A0_5 l0_5.length c0_5, .int .i64 a0_6, .int .i64 a0_7, .int .i64 a0_8, .int .i64 a0_9, .string a0_10, .int .i64 a0_11, .int .i64 a0_12, .int .i64 a0_13, .bool a0_14] 30 (0, 0)) (by (with_reducible repeat (first | refine blk_drewN ?_ _ | refine blk_drew ?_ | refine blk_alloc ?_ _)); exact BK310.out) hb); have n1_ := Aside0.mk (below_step (by repeat (first | (with_reducible first | exact HB.out | apply below_alloc | apply pw_below_drewN | apply below_drew1 | refine below_set ?_ GE310.out) | exact HB.out)) hb); clear BK310; clear HB; have BK310 := n0_; have HB := n1_; clear n0_ n1_; (try clear hb); (try clear hb2); (try clear hk); (try clear hi)))
   go_meet
   case rel => exact ⟨_, (true), (by first | rfl | (simp; done) | (simp [*]; done) | (simp [isE_ne]; done)), H', ⟨by first | omega | exact Nat.le_refl _⟩, ⟨by (with_reducible repeat (first | refine blk_drewN ?_ _ | refine blk_drew ?_ | refine blk_alloc ?_ _)); exact BK310.out⟩, ⟨by repeat (first | (with_reducible first | exact HB.out | apply below_alloc | apply pw_below_drewN | apply below_drew1 | refine below_set ?_ GE310.out) | exact HB.out)⟩⟩
 case rest =>
  clear HC5
  try clear p2
  try clear c6
  try clear c8
  try clear c9
  try clear c9b0
  try clear c9b1
  try clear hcz10_0
  try clear hcz10_1
  try clear hcz10_10
  try clear hcz10_11
  try clear hcz10_12
  try clear hcz10_13
  try clear hcz10_14
  try clear hcz10_2
  try clear hcz10_3
  try clear hcz10_4
  try clear hcz10_5
  try clear hcz10_6
  try clear hcz10_7
  try clear hcz10_8
  try clear hcz10_9
  try clear hcz12_0
  try clear hcz12_1
  try clear hcz12_10
  try clear hcz12_11
  try clear hcz12_12
  try clear hcz12_13
  try clear hcz12_14
  try clear hcz12_2
  try clear hcz12_3
  try clear hcz12_4
  try clear hcz12_5
  try clear hcz12_6
  try clear hcz12_7
  try clear hcz12_8
  try clear hcz12_9
  try clear hcz14_0
  try clear hcz14_1
  try clear hcz14_10
  try clear hcz14_11
  try clear hcz14_12
  try clear hcz14_13
  try clear hcz14_14
  try clear hcz14_2
  try clear hcz14_3
  try clear hcz14_4
  try clear hcz14_5
  try clear hcz14_6
  try clear hcz14_7
  try clear hcz14_8
  try clear hcz14_9
  try clear hfz10_0
  try clear hfz10_1
  try clear hfz10_10
  try clear hfz10_11
  try clear hfz10_12
  try clear hfz10_13
  try clear hfz10_14
  try clear hfz10_2
  try clear hfz10_3
  try clear hfz10_4
  try clear hfz10_5
  try clear hfz10_6
  try clear hfz10_7
  try clear hfz10_8
  try clear hfz10_9
  try clear hfz12_0
  try clear hfz12_1
  try clear hfz12_10
  try clear hfz12_11
  try clear hfz12_12
  try clear hfz12_13
  try clear hfz12_14
  try clear hfz12_2
  try clear hfz12_3
  try clear hfz12_4
  try clear hfz12_5
  try clear hfz12_6
  try clear hfz12_7
  try clear hfz12_8
  try clear hfz12_9
  try clear hfz14_0
  try clear hfz14_1
  try clear hfz14_10
  try clear hfz14_11
  try clear hfz14_12
  try clear hfz14_13
  try clear hfz14_14
  try clear hfz14_2
  try clear hfz14_3
  try clear hfz14_4
  try clear hfz14_5
  try clear hfz14_6
  try clear hfz14_7
  try clear hfz14_8
  try clear hfz14_9
  obtain ⟨kq, x23_4, rfl, HA, HJ4, BK310, HB⟩ := hcut
  cases kq with
  | zero => exact absurd HA.out (by simp [jobshelllaw48_PromptParts.j0])
  | succ kj4 =>
   have H := HA.out
   clear HA
   simp only [jobshelllaw48_PromptParts.j0] at H
   by_cases c16 : x23_4 = true
   ·subst c16
    have H1 : ((jobshelllaw48_awake.f kj4).bind fun t312 => (some t312)) = some r := by rw [if_pos rfl] at H; exact H
    clear H
    have H := H1
    clear H1
    replace H := Option.bind_eq_some_iff.mp H
    obtain ⟨t312, A170, H⟩ := H
    replace H : (some t312) = some r := H
    have A17 := Aside0.mk A170
    clear A170
    obtain rfl := Option.some.inj H
    go_wp2_with (first | ((with_reducible refine gate_callee (f := 11) rfl ?_); refine goesL_ (some 24) rfl rfl Tryd.func11 (by kernel_rfl) rfl #[] rfl (by (try simp only [List.map_toArray, List.map_cons, List.map_nil]); first | done | rfl | (simp only [List.length_drop, List.length_take]; rfl)) ?_; (with_reducible refine (jobshelllaw48_awake.calls kj4  t312 _ ?side1 A17.out).mono ?_); (case side1 => repeat (first | exact (AmbC_below HAMB.out HB.out) | (with_reducible refine AmbC_alloc ?_ _) | (with_reducible refine AmbC_drewN ?_ _) | (with_reducible refine AmbC_drew ?_))); rintro e w18 ⟨rfl, hb⟩; refine ⟨_, rfl, ?_⟩; have n0_ := Aside0.mk (blk_below (g := gb310) (o := .cells #[.string a0_0, .slice A0_1 l0_1.length c0_1, .slice A0_2 l0_2.length c0_2, .slice (a0_3).A (a0_3).n (a0_3).c, .slice A0_4 l0_4.length c0_4, .slice A0_5 l0_5.length c0_5, .int .i64 a0_6, .int .i64 a0_7, .int .i64 a0_8, .int .i64 a0_9, .string a0_10, .int .i64 a0_11, .int .i64 a0_12, .int .i64 a0_13, .bool a0_14] 30 (0, 0)) (by (with_reducible repeat (first | refine blk_drewN ?_ _ | refine blk_drew ?_ | refine blk_alloc ?_ _)); exact BK310.out) hb); have n1_ := Aside0.mk (below_step (by repeat (first | (with_reducible first | exact HB.out | apply below_alloc | apply pw_below_drewN | apply below_drew1 | refine below_set ?_ GE310.out) | exact HB.out)) hb); clear BK310; clear HB; have BK310 := n0_; have HB := n1_; clear n0_ n1_; (try clear hb); (try clear hb2); (try clear hk); (try clear hi)))
    go_ret
    exact ⟨by first | rfl | (simp [errW_none, errW_some] <;> rfl) | (simp [*, errW_none, errW_some] <;> rfl), by repeat (first | (with_reducible first | exact HB.out | apply below_alloc | apply pw_below_drewN | apply below_drew1 | refine below_set ?_ GE310.out) | exact HB.out)⟩
   ·replace c16 := Bool.eq_false_iff.mpr c16
    subst c16
    have H1 : (if a1.size + 1 ≤ 9223372036854775807 then ((prompt_Expand.f kj4 a0_0 l0_1 l0_2 a0_3 l0_4 l0_5 a0_6 a0_7 a0_8 a0_9 a0_10 a0_11 a0_12 a0_13 a0_14 (a1 ++ (⟨#[32]⟩ : ByteArray)) a3 a3).bind fun t313 => ((prompt_Expand.f kj4 a0_0 l0_1 l0_2 a0_3 l0_4 l0_5 a0_6 a0_7 a0_8 a0_9 a0_10 a0_11 a0_12 a0_13 a0_14 a2 a3 a3).bind fun t314 => (if (wrap64 ((t313.size : Int) + (t314.size : Int))) ≥ 4096 then ((jobshelllaw48_awake.f kj4).bind fun t315 => (some t315)) else (if (a1 ++ (⟨#[32]⟩ : ByteArray)).size + a2.size ≤ 9223372036854775807 then ((prompt_Expand.f kj4 a0_0 l0_1 l0_2 a0_3 l0_4 l0_5 a0_6 a0_7 a0_8 a0_9 a0_10 a0_11 a0_12 a0_13 a0_14 ((a1 ++ (⟨#[32]⟩ : ByteArray)) ++ a2) a3 a3).bind fun t316 => (if t313.size + t314.size ≤ 9223372036854775807 then (if t316.toList = (t313 ++ t314).toList then ((jobshelllaw48_awake.f kj4).bind fun t317 => (some t317)) else (some false)) else (none))) else (none))))) else (none)) = some r := by rw [if_neg (show ¬ (false = true) by decide)] at H; exact H
    clear H
    have H := H1
    clear H1
    by_cases c19 : a1.size + 1 ≤ 9223372036854775807
    ·as_aux_lemma =>
     rw [if_pos c19] at H
     have c19b0 := eq_true c19
     have c19b1 : decide (a1.size + 1 ≤ 9223372036854775807) = true := decide_eq_true c19
     try have c19b2 : (9223372036854775807 < a1.size + 1) = False := eq_false (Nat.not_lt.2 c19)
     replace H := Option.bind_eq_some_iff.mp H
     obtain ⟨t313, A200, H⟩ := H
     replace H : ((prompt_Expand.f kj4 a0_0 l0_1 l0_2 a0_3 l0_4 l0_5 a0_6 a0_7 a0_8 a0_9 a0_10 a0_11 a0_12 a0_13 a0_14 a2 a3 a3).bind fun t314 => (if (wrap64 ((t313.size : Int) + (t314.size : Int))) ≥ 4096 then ((jobshelllaw48_awake.f kj4).bind fun t315 => (some t315)) else (if (a1 ++ (⟨#[32]⟩ : ByteArray)).size + a2.size ≤ 9223372036854775807 then ((prompt_Expand.f kj4 a0_0 l0_1 l0_2 a0_3 l0_4 l0_5 a0_6 a0_7 a0_8 a0_9 a0_10 a0_11 a0_12 a0_13 a0_14 ((a1 ++ (⟨#[32]⟩ : ByteArray)) ++ a2) a3 a3).bind fun t316 => (if t313.size + t314.size ≤ 9223372036854775807 then (if t316.toList = (t313 ++ t314).toList then ((jobshelllaw48_awake.f kj4).bind fun t317 => (some t317)) else (some false)) else (none))) else (none)))) = some r := H
     have A20 := Aside0.mk A200
     clear A200
     replace H := Option.bind_eq_some_iff.mp H
     obtain ⟨t314, A210, H⟩ := H
     replace H : (if (wrap64 ((t313.size : Int) + (t314.size : Int))) ≥ 4096 then ((jobshelllaw48_awake.f kj4).bind fun t315 => (some t315)) else (if (a1 ++ (⟨#[32]⟩ : ByteArray)).size + a2.size ≤ 9223372036854775807 then ((prompt_Expand.f kj4 a0_0 l0_1 l0_2 a0_3 l0_4 l0_5 a0_6 a0_7 a0_8 a0_9 a0_10 a0_11 a0_12 a0_13 a0_14 ((a1 ++ (⟨#[32]⟩ : ByteArray)) ++ a2) a3 a3).bind fun t316 => (if t313.size + t314.size ≤ 9223372036854775807 then (if t316.toList = (t313 ++ t314).toList then ((jobshelllaw48_awake.f kj4).bind fun t317 => (some t317)) else (some false)) else (none))) else (none))) = some r := H
     have A21 := Aside0.mk A210
     clear A210
     by_cases c22 : (wrap64 ((t313.size : Int) + (t314.size : Int))) ≥ 4096
     ·as_aux_lemma =>
      rw [if_pos c22] at H
      have c22b0 : decide (4096 ≤ (wrap64 ((t313.size : Int) + (t314.size : Int)))) = true := decide_eq_true c22
      clear c22
      replace H := Option.bind_eq_some_iff.mp H
      obtain ⟨t315, A230, H⟩ := H
      replace H : (some t315) = some r := H
      have A23 := Aside0.mk A230
      clear A230
      obtain rfl := Option.some.inj H
      try go_wp2
      have n0_ := Aside0.mk (blk_drew BK310.out)
      have n1_ := Aside0.mk (below_drew1 HB.out)
      clear BK310
      clear HB
      have BK310 := n0_
      have HB := n1_
      clear n0_ n1_
      refine start_ (n := 13) (S := fun w' => w'.cell? ⟨gb310, 0, none⟩ = some (.string a0_0) ∧ w'.cell? ⟨gb310, 1, none⟩ = some (.slice A0_1 l0_1.length c0_1) ∧ w'.cell? ⟨gb310, 2, none⟩ = some (.slice A0_2 l0_2.length c0_2) ∧ w'.cell? ⟨gb310, 3, none⟩ = some (.slice (a0_3).A (a0_3).n (a0_3).c) ∧ w'.cell? ⟨gb310, 4, none⟩ = some (.slice A0_4 l0_4.length c0_4) ∧ w'.cell? ⟨gb310, 5, none⟩ = some (.slice A0_5 l0_5.length c0_5) ∧ w'.cell? ⟨gb310, 6, none⟩ = some (.int .i64 a0_6) ∧ w'.cell? ⟨gb310, 7, none⟩ = some (.int .i64 a0_7) ∧ w'.cell? ⟨gb310, 8, none⟩ = some (.int .i64 a0_8) ∧ w'.cell? ⟨gb310, 9, none⟩ = some (.int .i64 a0_9) ∧ w'.cell? ⟨gb310, 10, none⟩ = some (.string a0_10) ∧ w'.cell? ⟨gb310, 11, none⟩ = some (.int .i64 a0_11) ∧ w'.cell? ⟨gb310, 12, none⟩ = some (.int .i64 a0_12) ∧ w'.cell? ⟨gb310, 13, none⟩ = some (.int .i64 a0_13) ∧ w'.cell? ⟨gb310, 14, none⟩ = some (.bool a0_14)) (ds := []) #[false, false, false, false, false, false, false, false, false, false, false, false, false] (by kernel_rfl) rfl rfl ⟨(blk_cell BK310.out 0).trans rfl, (blk_cell BK310.out 1).trans rfl, (blk_cell BK310.out 2).trans rfl, (blk_cell BK310.out 3).trans rfl, (blk_cell BK310.out 4).trans rfl, (blk_cell BK310.out 5).trans rfl, (blk_cell BK310.out 6).trans rfl, (blk_cell BK310.out 7).trans rfl, (blk_cell BK310.out 8).trans rfl, (blk_cell BK310.out 9).trans rfl, (blk_cell BK310.out 10).trans rfl, (blk_cell BK310.out 11).trans rfl, (blk_cell BK310.out 12).trans rfl, (blk_cell BK310.out 13).trans rfl, (blk_cell BK310.out 14).trans rfl⟩ (fun hHeld => ?_); refine with_tabW jobshelllaw48_PromptParts.tab3 jobshelllaw48_PromptParts.bits3 (fun HT_ HW_ => ?_)
      generalize wc.drew = w24 at BK310 HB hHeld ⊢
      refine pure_ (i := 1) (N := some 26) (v := ?_) (a' := ?_) #[false, true, false, false, false, false, false, false, false, false, false, false, false] rfl rfl (any_of HT_.out (by kernel_rfl)) (fun _ _ _ h => h) (Or.inl ⟨by rfl, ?_⟩) ?_ ?_
      rotate_left
      ·intro w'
       go_simp
       with_reducible rfl
      rotate_left
      ·simp only [Act.put, List.setIfInBounds_toArray, List.set_cons_zero, List.set_cons_succ, i64_w, i32_w]
       rfl
      refine pure_ (i := 2) (N := some 27) (v := ?_) (a' := ?_) #[false, true, true, false, false, false, false, false, false, false, false, false, false] rfl rfl (any_of HT_.out (by kernel_rfl)) (fun _ _ _ h => h) (Or.inl ⟨by rfl, ?_⟩) ?_ ?_
      rotate_left
      ·intro w'
       go_simp
       with_reducible rfl
      rotate_left
      ·simp only [Act.put, List.setIfInBounds_toArray, List.set_cons_zero, List.set_cons_succ, i64_w, i32_w]
       rfl
      refine pure_ (i := 3) (N := some 28) (v := ?_) (a' := ?_) #[false, true, true, true, false, false, false, false, false, false, false, false, false] rfl rfl (any_of HT_.out (by kernel_rfl)) (fun _ _ _ h => h) (Or.inl ⟨by rfl, ?_⟩) ?_ ?_
      rotate_left
      ·intro w'
       go_simp
       with_reducible rfl
      rotate_left
      ·simp only [Act.put, List.setIfInBounds_toArray, List.set_cons_zero, List.set_cons_succ, i64_w, i32_w]
       rfl
      refine pure_ (i := 4) (N := some 29) (v := ?_) (a' := ?_) #[false, true, true, true, true, false, false, false, false, false, false, false, false] rfl rfl (any_of HT_.out (by kernel_rfl)) (fun _ _ _ h => h) (Or.inl ⟨by rfl, ?_⟩) ?_ ?_
      rotate_left
      ·intro w'
       go_simp
       with_reducible rfl
      rotate_left
      ·simp only [Act.put, List.setIfInBounds_toArray, List.set_cons_zero, List.set_cons_succ, i64_w, i32_w]
       rfl
      refine pure_ (i := 7) (N := some 32) (v := ?_) (a' := ?_) #[false, true, true, true, true, false, false, true, false, false, false, false, false] rfl rfl (any_of HT_.out (by kernel_rfl)) (fun _ _ _ h => h) (Or.inl ⟨by rfl, ?_⟩) ?_ ?_
      rotate_left
      ·intro w'
       go_simp
       with_reducible rfl
      rotate_left
      ·simp only [Act.put, List.setIfInBounds_toArray, List.set_cons_zero, List.set_cons_succ, i64_w, i32_w]
       rfl
      refine pure_ (i := 8) (N := some 33) (v := ?_) (a' := ?_) #[false, true, true, true, true, false, false, true, true, false, false, false, false] rfl rfl (any_of HT_.out (by kernel_rfl)) (fun _ _ _ h => h) (Or.inl ⟨by rfl, ?_⟩) ?_ ?_
      rotate_left
      ·intro w'
       go_simp
       with_reducible rfl
      rotate_left
      ·simp only [Act.put, List.setIfInBounds_toArray, List.set_cons_zero, List.set_cons_succ, i64_w, i32_w]
       rfl
      refine pure_ (i := 9) (N := some 34) (v := ?_) (a' := ?_) #[false, true, true, true, true, false, false, true, true, true, false, false, false] rfl rfl (any_of HT_.out (by kernel_rfl)) (fun _ _ _ h => h) (Or.inl ⟨by rfl, ?_⟩) ?_ ?_
      rotate_left
      ·intro w'
       go_simp
       with_reducible rfl
      rotate_left
      ·simp only [Act.put, List.setIfInBounds_toArray, List.set_cons_zero, List.set_cons_succ, i64_w, i32_w]
       rfl
      refine take_ (i := 0) (N := some 25) (v := ?_) (a' := ?_) #[true, true, true, true, true, false, false, true, true, true, false, false, false] rfl rfl (take_ofW HT_.out HW_.out (by kernel_rfl)) (fun _ _ _ h => h) (Or.inl ⟨by rfl, ?_⟩) hHeld ?_ ?_
      rotate_left
      ·rintro w' ⟨s0, s1, s2, s3, s4, s5, s6, s7, s8, s9, s10, s11, s12, s13, s14⟩
       go_simp
       with_reducible rfl
      rotate_left
      ·simp only [Act.put, List.setIfInBounds_toArray, List.set_cons_zero, List.set_cons_succ, i64_w, i32_w]
       rfl
      refine take_ (i := 6) (N := some 31) (v := ?_) (a' := ?_) #[true, true, true, true, true, false, true, true, true, true, false, false, false] rfl rfl (take_ofW HT_.out HW_.out (by kernel_rfl)) (fun _ _ _ h => h) (Or.inl ⟨by rfl, ?_⟩) hHeld ?_ ?_
      rotate_left
      ·rintro w' ⟨s0, s1, s2, s3, s4, s5, s6, s7, s8, s9, s10, s11, s12, s13, s14⟩
       go_simp
       with_reducible rfl
      rotate_left
      ·simp only [Act.put, List.setIfInBounds_toArray, List.set_cons_zero, List.set_cons_succ, i64_w, i32_w]
       rfl
      refine one_ (i := 5) (N := some 30) #[true, true, true, true, true, true, true, true, true, true, false, false, false] rfl rfl (one_of HT_.out (by kernel_rfl)) (by decide) (fun K hK => ?_)
      refine goes_ Tryd.func9 (by kernel_rfl) rfl #[.agg #[.string a0_0, .slice A0_1 l0_1.length c0_1, .slice A0_2 l0_2.length c0_2, .slice (a0_3).A (a0_3).n (a0_3).c, .slice A0_4 l0_4.length c0_4, .slice A0_5 l0_5.length c0_5, .int .i64 a0_6, .int .i64 a0_7, .int .i64 a0_8, .int .i64 a0_9, .string a0_10, .int .i64 a0_11, .int .i64 a0_12, .int .i64 a0_13, .bool a0_14], .string (a1 ++ (⟨#[32]⟩ : ByteArray)), .int .i64 a3, .int .i64 a3] (by rfl) rfl rfl (by (try simp only [List.map_toArray, List.map_cons, List.map_nil]); first | done | rfl | (simp only [List.length_drop, List.length_take]; rfl)) ?_
      with_reducible refine (prompt_Expand.calls kj4 a0_0 _ _ l0_1 _ _ l0_2 a0_3 _ _ l0_4 _ _ l0_5 a0_6 a0_7 a0_8 a0_9 a0_10 a0_11 a0_12 a0_13 a0_14 (a1 ++ (⟨#[32]⟩ : ByteArray)) a3 a3 t313 _ ?side1 ?side2 ?side3 ?side4 ?side5 ?side6 ?side7 ?side8 ?side9 A20.out).mono ?_
      (case side1 => repeat (first | exact (Kd.C_below HR0_1.out HB.out) | (with_reducible refine Kd.C_alloc ?_ _) | (with_reducible refine Kd.C_drewN ?_ _) | (with_reducible refine Kd.C_drew ?_)))
      (case side2 => exact HC0_1.out)
      (case side3 => repeat (first | exact (Kd.C_below HR0_2.out HB.out) | (with_reducible refine Kd.C_alloc ?_ _) | (with_reducible refine Kd.C_drewN ?_ _) | (with_reducible refine Kd.C_drew ?_)))
      (case side4 => exact HC0_2.out)
      (case side5 => repeat (first | exact (Kd.C_below HR0_4.out HB.out) | (with_reducible refine Kd.C_alloc ?_ _) | (with_reducible refine Kd.C_drewN ?_ _) | (with_reducible refine Kd.C_drew ?_)))
      (case side6 => exact HC0_4.out)
      (case side7 => repeat (first | exact (Kd.C_below HR0_5.out HB.out) | (with_reducible refine Kd.C_alloc ?_ _) | (with_reducible refine Kd.C_drewN ?_ _) | (with_reducible refine Kd.C_drew ?_)))
      (case side8 => exact HC0_5.out)
      (case side9 => repeat (first | exact (AmbC_below HAMB.out HB.out) | (with_reducible refine AmbC_alloc ?_ _) | (with_reducible refine AmbC_drewN ?_ _) | (with_reducible refine AmbC_drew ?_)))
      rintro e w25 ⟨rfl, hb⟩
      refine ⟨_, rfl, ?_⟩
      have n0_ := Aside0.mk (blk_below (g := gb310) (o := .cells #[.string a0_0, .slice A0_1 l0_1.length c0_1, .slice A0_2 l0_2.length c0_2, .slice (a0_3).A (a0_3).n (a0_3).c, .slice A0_4 l0_4.length c0_4, .slice A0_5 l0_5.length c0_5, .int .i64 a0_6, .int .i64 a0_7, .int .i64 a0_8, .int .i64 a0_9, .string a0_10, .int .i64 a0_11, .int .i64 a0_12, .int .i64 a0_13, .bool a0_14] 30 (0, 0)) (by (with_reducible repeat (first | refine blk_drewN ?_ _ | refine blk_drew ?_ | refine blk_alloc ?_ _)); exact BK310.out) hb)
      have n1_ := Aside0.mk (below_step (by repeat (first | (with_reducible first | exact HB.out | apply below_alloc | apply pw_below_drewN | apply below_drew1 | refine below_set ?_ GE310.out) | exact HB.out)) hb)
      clear BK310
      clear HB
      have BK310 := n0_
      have HB := n1_
      clear n0_ n1_
      (try clear hb)
      (try clear hb2)
      (try clear hk)
      (try clear hi)
      refine hK.out _ _ ⟨(blk_cell BK310.out 0).trans rfl, (blk_cell BK310.out 1).trans rfl, (blk_cell BK310.out 2).trans rfl, (blk_cell BK310.out 3).trans rfl, (blk_cell BK310.out 4).trans rfl, (blk_cell BK310.out 5).trans rfl, (blk_cell BK310.out 6).trans rfl, (blk_cell BK310.out 7).trans rfl, (blk_cell BK310.out 8).trans rfl, (blk_cell BK310.out 9).trans rfl, (blk_cell BK310.out 10).trans rfl, (blk_cell BK310.out 11).trans rfl, (blk_cell BK310.out 12).trans rfl, (blk_cell BK310.out 13).trans rfl, (blk_cell BK310.out 14).trans rfl⟩ (fun hHeld => ?_)
      clear hK K
      refine norm_ (a' := ?_) ?_ ?_
      rotate_left
      ·show Act.put _ (some 30) _ = _
       simp only [Act.put, List.setIfInBounds_toArray, List.set_cons_zero, List.set_cons_succ, i64_w, i32_w]
       rfl
      refine one_ (i := 10) (N := some 35) #[true, true, true, true, true, true, true, true, true, true, true, false, false] rfl rfl (one_of HT_.out (by kernel_rfl)) (by decide) (fun K hK => ?_)
      refine goes_ Tryd.func9 (by kernel_rfl) rfl #[.agg #[.string a0_0, .slice A0_1 l0_1.length c0_1, .slice A0_2 l0_2.length c0_2, .slice (a0_3).A (a0_3).n (a0_3).c, .slice A0_4 l0_4.length c0_4, .slice A0_5 l0_5.length c0_5, .int .i64 a0_6, .int .i64 a0_7, .int .i64 a0_8, .int .i64 a0_9, .string a0_10, .int .i64 a0_11, .int .i64 a0_12, .int .i64 a0_13, .bool a0_14], .string a2, .int .i64 a3, .int .i64 a3] (by rfl) rfl rfl (by (try simp only [List.map_toArray, List.map_cons, List.map_nil]); first | done | rfl | (simp only [List.length_drop, List.length_take]; rfl)) ?_
      with_reducible refine (prompt_Expand.calls kj4 a0_0 _ _ l0_1 _ _ l0_2 a0_3 _ _ l0_4 _ _ l0_5 a0_6 a0_7 a0_8 a0_9 a0_10 a0_11 a0_12 a0_13 a0_14 a2 a3 a3 t314 _ ?side1 ?side2 ?side3 ?side4 ?side5 ?side6 ?side7 ?side8 ?side9 A21.out).mono ?_
      (case side1 => repeat (first | exact (Kd.C_below HR0_1.out HB.out) | (with_reducible refine Kd.C_alloc ?_ _) | (with_reducible refine Kd.C_drewN ?_ _) | (with_reducible refine Kd.C_drew ?_)))
      (case side2 => exact HC0_1.out)
      (case side3 => repeat (first | exact (Kd.C_below HR0_2.out HB.out) | (with_reducible refine Kd.C_alloc ?_ _) | (with_reducible refine Kd.C_drewN ?_ _) | (with_reducible refine Kd.C_drew ?_)))
      (case side4 => exact HC0_2.out)
      (case side5 => repeat (first | exact (Kd.C_below HR0_4.out HB.out) | (with_reducible refine Kd.C_alloc ?_ _) | (with_reducible refine Kd.C_drewN ?_ _) | (with_reducible refine Kd.C_drew ?_)))
      (case side6 => exact HC0_4.out)
      (case side7 => repeat (first | exact (Kd.C_below HR0_5.out HB.out) | (with_reducible refine Kd.C_alloc ?_ _) | (with_reducible refine Kd.C_drewN ?_ _) | (with_reducible refine Kd.C_drew ?_)))
      (case side8 => exact HC0_5.out)
      (case side9 => repeat (first | exact (AmbC_below HAMB.out HB.out) | (with_reducible refine AmbC_alloc ?_ _) | (with_reducible refine AmbC_drewN ?_ _) | (with_reducible refine AmbC_drew ?_)))
      rintro e w26 ⟨rfl, hb⟩
      refine ⟨_, rfl, ?_⟩
      have n0_ := Aside0.mk (blk_below (g := gb310) (o := .cells #[.string a0_0, .slice A0_1 l0_1.length c0_1, .slice A0_2 l0_2.length c0_2, .slice (a0_3).A (a0_3).n (a0_3).c, .slice A0_4 l0_4.length c0_4, .slice A0_5 l0_5.length c0_5, .int .i64 a0_6, .int .i64 a0_7, .int .i64 a0_8, .int .i64 a0_9, .string a0_10, .int .i64 a0_11, .int .i64 a0_12, .int .i64 a0_13, .bool a0_14] 30 (0, 0)) (by (with_reducible repeat (first | refine blk_drewN ?_ _ | refine blk_drew ?_ | refine blk_alloc ?_ _)); exact BK310.out) hb)
      have n1_ := Aside0.mk (below_step (by repeat (first | (with_reducible first | exact HB.out | apply below_alloc | apply pw_below_drewN | apply below_drew1 | refine below_set ?_ GE310.out) | exact HB.out)) hb)
      clear BK310
      clear HB
      have BK310 := n0_
      have HB := n1_
      clear n0_ n1_
      (try clear hb)
      (try clear hb2)
      (try clear hk)
      (try clear hi)
      refine hK.out _ _ ⟨(blk_cell BK310.out 0).trans rfl, (blk_cell BK310.out 1).trans rfl, (blk_cell BK310.out 2).trans rfl, (blk_cell BK310.out 3).trans rfl, (blk_cell BK310.out 4).trans rfl, (blk_cell BK310.out 5).trans rfl, (blk_cell BK310.out 6).trans rfl, (blk_cell BK310.out 7).trans rfl, (blk_cell BK310.out 8).trans rfl, (blk_cell BK310.out 9).trans rfl, (blk_cell BK310.out 10).trans rfl, (blk_cell BK310.out 11).trans rfl, (blk_cell BK310.out 12).trans rfl, (blk_cell BK310.out 13).trans rfl, (blk_cell BK310.out 14).trans rfl⟩ (fun hHeld => ?_)
      clear hK K
      refine norm_ (a' := ?_) ?_ ?_
      rotate_left
      ·show Act.put _ (some 35) _ = _
       simp only [Act.put, List.setIfInBounds_toArray, List.set_cons_zero, List.set_cons_succ, i64_w, i32_w]
       rfl
      refine pure_ (i := 11) (N := some 9) (v := ?_) (a' := ?_) #[true, true, true, true, true, true, true, true, true, true, true, true, false] rfl rfl (any_of HT_.out (by kernel_rfl)) (fun _ _ _ h => h) (Or.inl ⟨by rfl, ?_⟩) ?_ ?_
      rotate_left
      ·intro w'
       go_simp
       with_reducible rfl
      rotate_left
      ·simp only [Act.put, List.setIfInBounds_toArray, List.set_cons_zero, List.set_cons_succ, i64_w, i32_w]
       rfl
      refine pure_ (i := 12) (N := some 10) (v := ?_) (a' := ?_) #[true, true, true, true, true, true, true, true, true, true, true, true, true] rfl rfl (any_of HT_.out (by kernel_rfl)) (fun _ _ _ h => h) (Or.inl ⟨by rfl, ?_⟩) ?_ ?_
      rotate_left
      ·intro w'
       go_simp
       with_reducible rfl
      rotate_left
      ·simp only [Act.put, List.setIfInBounds_toArray, List.set_cons_zero, List.set_cons_succ, i64_w, i32_w]
       rfl
      refine done_ (done_of HT_.out (by kernel_rfl)) ?_
      try go_wp2_with (first | ((with_reducible refine gate_callee (f := 11) rfl ?_); refine goesL_ (some 42) rfl rfl Tryd.func11 (by kernel_rfl) rfl #[] rfl (by (try simp only [List.map_toArray, List.map_cons, List.map_nil]); first | done | rfl | (simp only [List.length_drop, List.length_take]; rfl)) ?_; (with_reducible refine (jobshelllaw48_awake.calls kj4  t315 _ ?side1 A23.out).mono ?_); (case side1 => repeat (first | exact (AmbC_below HAMB.out HB.out) | (with_reducible refine AmbC_alloc ?_ _) | (with_reducible refine AmbC_drewN ?_ _) | (with_reducible refine AmbC_drew ?_))); rintro e w27 ⟨rfl, hb⟩; refine ⟨_, rfl, ?_⟩; have n0_ := Aside0.mk (blk_below (g := gb310) (o := .cells #[.string a0_0, .slice A0_1 l0_1.length c0_1, .slice A0_2 l0_2.length c0_2, .slice (a0_3).A (a0_3).n (a0_3).c, .slice A0_4 l0_4.length c0_4, .slice A0_5 l0_5.length c0_5, .int .i64 a0_6, .int .i64 a0_7, .int .i64 a0_8, .int .i64 a0_9, .string a0_10, .int .i64 a0_11, .int .i64 a0_12, .int .i64 a0_13, .bool a0_14] 30 (0, 0)) (by (with_reducible repeat (first | refine blk_drewN ?_ _ | refine blk_drew ?_ | refine blk_alloc ?_ _)); exact BK310.out) hb); have n1_ := Aside0.mk (below_step (by repeat (first | (with_reducible first | exact HB.out | apply below_alloc | apply pw_below_drewN | apply below_drew1 | refine below_set ?_ GE310.out) | exact HB.out)) hb); clear BK310; clear HB; have BK310 := n0_; have HB := n1_; clear n0_ n1_; (try clear hb); (try clear hb2); (try clear hk); (try clear hi)))
      go_ret
      exact ⟨by first | rfl | (simp [errW_none, errW_some] <;> rfl) | (simp [*, errW_none, errW_some] <;> rfl), by repeat (first | (with_reducible first | exact HB.out | apply below_alloc | apply pw_below_drewN | apply below_drew1 | refine below_set ?_ GE310.out) | exact HB.out)⟩
     ·as_aux_lemma =>
      rw [if_neg c22] at H
      have c22b0 : decide (4096 ≤ (wrap64 ((t313.size : Int) + (t314.size : Int)))) = false := decide_eq_false c22
      clear c22
      by_cases c28 : (a1 ++ (⟨#[32]⟩ : ByteArray)).size + a2.size ≤ 9223372036854775807
      ·as_aux_lemma =>
       rw [if_pos c28] at H
       have c28b0 := eq_true c28
       have c28b1 : decide ((a1 ++ (⟨#[32]⟩ : ByteArray)).size + a2.size ≤ 9223372036854775807) = true := decide_eq_true c28
       try have c28b2 : (9223372036854775807 < (a1 ++ (⟨#[32]⟩ : ByteArray)).size + a2.size) = False := eq_false (Nat.not_lt.2 c28)
       replace H := Option.bind_eq_some_iff.mp H
       obtain ⟨t316, A290, H⟩ := H
       replace H : (if t313.size + t314.size ≤ 9223372036854775807 then (if t316.toList = (t313 ++ t314).toList then ((jobshelllaw48_awake.f kj4).bind fun t317 => (some t317)) else (some false)) else (none)) = some r := H
       have A29 := Aside0.mk A290
       clear A290
       by_cases c30 : t313.size + t314.size ≤ 9223372036854775807
       ·as_aux_lemma =>
        rw [if_pos c30] at H
        have c30b0 := eq_true c30
        have c22b9 : decide (4096 ≤ ((t313.size : Int) + (t314.size : Int))) = false := by rw [← c22b0, show wrap64 ((t313.size : Int) + (t314.size : Int)) = (t313.size : Int) + (t314.size : Int) by unfold wrap64; omega]
        have c30b1 : decide (t313.size + t314.size ≤ 9223372036854775807) = true := decide_eq_true c30
        try have c30b2 : (9223372036854775807 < t313.size + t314.size) = False := eq_false (Nat.not_lt.2 c30)
        by_cases c31 : t316.toList = (t313 ++ t314).toList
        ·as_aux_lemma =>
         rw [if_pos c31] at H
         have c31b0 : (t316.toList == (t313 ++ t314).toList) = true := beq_iff_eq.mpr c31
         have c31b1 : (t316.toList != (t313 ++ t314).toList) = false := bne_eq_false_iff_eq.mpr c31
         clear c31
         replace H := Option.bind_eq_some_iff.mp H
         obtain ⟨t317, A320, H⟩ := H
         replace H : (some t317) = some r := H
         have A32 := Aside0.mk A320
         clear A320
         obtain rfl := Option.some.inj H
         try go_wp2
         have n0_ := Aside0.mk (blk_drew BK310.out)
         have n1_ := Aside0.mk (below_drew1 HB.out)
         clear BK310
         clear HB
         have BK310 := n0_
         have HB := n1_
         clear n0_ n1_
         refine start_ (n := 13) (S := fun w' => w'.cell? ⟨gb310, 0, none⟩ = some (.string a0_0) ∧ w'.cell? ⟨gb310, 1, none⟩ = some (.slice A0_1 l0_1.length c0_1) ∧ w'.cell? ⟨gb310, 2, none⟩ = some (.slice A0_2 l0_2.length c0_2) ∧ w'.cell? ⟨gb310, 3, none⟩ = some (.slice (a0_3).A (a0_3).n (a0_3).c) ∧ w'.cell? ⟨gb310, 4, none⟩ = some (.slice A0_4 l0_4.length c0_4) ∧ w'.cell? ⟨gb310, 5, none⟩ = some (.slice A0_5 l0_5.length c0_5) ∧ w'.cell? ⟨gb310, 6, none⟩ = some (.int .i64 a0_6) ∧ w'.cell? ⟨gb310, 7, none⟩ = some (.int .i64 a0_7) ∧ w'.cell? ⟨gb310, 8, none⟩ = some (.int .i64 a0_8) ∧ w'.cell? ⟨gb310, 9, none⟩ = some (.int .i64 a0_9) ∧ w'.cell? ⟨gb310, 10, none⟩ = some (.string a0_10) ∧ w'.cell? ⟨gb310, 11, none⟩ = some (.int .i64 a0_11) ∧ w'.cell? ⟨gb310, 12, none⟩ = some (.int .i64 a0_12) ∧ w'.cell? ⟨gb310, 13, none⟩ = some (.int .i64 a0_13) ∧ w'.cell? ⟨gb310, 14, none⟩ = some (.bool a0_14)) (ds := []) #[false, false, false, false, false, false, false, false, false, false, false, false, false] (by kernel_rfl) rfl rfl ⟨(blk_cell BK310.out 0).trans rfl, (blk_cell BK310.out 1).trans rfl, (blk_cell BK310.out 2).trans rfl, (blk_cell BK310.out 3).trans rfl, (blk_cell BK310.out 4).trans rfl, (blk_cell BK310.out 5).trans rfl, (blk_cell BK310.out 6).trans rfl, (blk_cell BK310.out 7).trans rfl, (blk_cell BK310.out 8).trans rfl, (blk_cell BK310.out 9).trans rfl, (blk_cell BK310.out 10).trans rfl, (blk_cell BK310.out 11).trans rfl, (blk_cell BK310.out 12).trans rfl, (blk_cell BK310.out 13).trans rfl, (blk_cell BK310.out 14).trans rfl⟩ (fun hHeld => ?_); refine with_tabW jobshelllaw48_PromptParts.tab3 jobshelllaw48_PromptParts.bits3 (fun HT_ HW_ => ?_)
         generalize wc.drew = w33 at BK310 HB hHeld ⊢
         refine pure_ (i := 1) (N := some 26) (v := ?_) (a' := ?_) #[false, true, false, false, false, false, false, false, false, false, false, false, false] rfl rfl (any_of HT_.out (by kernel_rfl)) (fun _ _ _ h => h) (Or.inl ⟨by rfl, ?_⟩) ?_ ?_
         rotate_left
         ·intro w'
          go_simp
          with_reducible rfl
         rotate_left
         ·simp only [Act.put, List.setIfInBounds_toArray, List.set_cons_zero, List.set_cons_succ, i64_w, i32_w]
          rfl
         refine pure_ (i := 2) (N := some 27) (v := ?_) (a' := ?_) #[false, true, true, false, false, false, false, false, false, false, false, false, false] rfl rfl (any_of HT_.out (by kernel_rfl)) (fun _ _ _ h => h) (Or.inl ⟨by rfl, ?_⟩) ?_ ?_
         rotate_left
         ·intro w'
          go_simp
          with_reducible rfl
         rotate_left
         ·simp only [Act.put, List.setIfInBounds_toArray, List.set_cons_zero, List.set_cons_succ, i64_w, i32_w]
          rfl
         refine pure_ (i := 3) (N := some 28) (v := ?_) (a' := ?_) #[false, true, true, true, false, false, false, false, false, false, false, false, false] rfl rfl (any_of HT_.out (by kernel_rfl)) (fun _ _ _ h => h) (Or.inl ⟨by rfl, ?_⟩) ?_ ?_
         rotate_left
         ·intro w'
          go_simp
          with_reducible rfl
         rotate_left
         ·simp only [Act.put, List.setIfInBounds_toArray, List.set_cons_zero, List.set_cons_succ, i64_w, i32_w]
          rfl
         refine pure_ (i := 4) (N := some 29) (v := ?_) (a' := ?_) #[false, true, true, true, true, false, false, false, false, false, false, false, false] rfl rfl (any_of HT_.out (by kernel_rfl)) (fun _ _ _ h => h) (Or.inl ⟨by rfl, ?_⟩) ?_ ?_
         rotate_left
         ·intro w'
          go_simp
          with_reducible rfl
         rotate_left
         ·simp only [Act.put, List.setIfInBounds_toArray, List.set_cons_zero, List.set_cons_succ, i64_w, i32_w]
          rfl
         refine pure_ (i := 7) (N := some 32) (v := ?_) (a' := ?_) #[false, true, true, true, true, false, false, true, false, false, false, false, false] rfl rfl (any_of HT_.out (by kernel_rfl)) (fun _ _ _ h => h) (Or.inl ⟨by rfl, ?_⟩) ?_ ?_
         rotate_left
         ·intro w'
          go_simp
          with_reducible rfl
         rotate_left
         ·simp only [Act.put, List.setIfInBounds_toArray, List.set_cons_zero, List.set_cons_succ, i64_w, i32_w]
          rfl
         refine pure_ (i := 8) (N := some 33) (v := ?_) (a' := ?_) #[false, true, true, true, true, false, false, true, true, false, false, false, false] rfl rfl (any_of HT_.out (by kernel_rfl)) (fun _ _ _ h => h) (Or.inl ⟨by rfl, ?_⟩) ?_ ?_
         rotate_left
         ·intro w'
          go_simp
          with_reducible rfl
         rotate_left
         ·simp only [Act.put, List.setIfInBounds_toArray, List.set_cons_zero, List.set_cons_succ, i64_w, i32_w]
          rfl
         refine pure_ (i := 9) (N := some 34) (v := ?_) (a' := ?_) #[false, true, true, true, true, false, false, true, true, true, false, false, false] rfl rfl (any_of HT_.out (by kernel_rfl)) (fun _ _ _ h => h) (Or.inl ⟨by rfl, ?_⟩) ?_ ?_
         rotate_left
         ·intro w'
          go_simp
          with_reducible rfl
         rotate_left
         ·simp only [Act.put, List.setIfInBounds_toArray, List.set_cons_zero, List.set_cons_succ, i64_w, i32_w]
          rfl
         refine take_ (i := 0) (N := some 25) (v := ?_) (a' := ?_) #[true, true, true, true, true, false, false, true, true, true, false, false, false] rfl rfl (take_ofW HT_.out HW_.out (by kernel_rfl)) (fun _ _ _ h => h) (Or.inl ⟨by rfl, ?_⟩) hHeld ?_ ?_
         rotate_left
         ·rintro w' ⟨s0, s1, s2, s3, s4, s5, s6, s7, s8, s9, s10, s11, s12, s13, s14⟩
          go_simp
          with_reducible rfl
         rotate_left
         ·simp only [Act.put, List.setIfInBounds_toArray, List.set_cons_zero, List.set_cons_succ, i64_w, i32_w]
          rfl
         refine take_ (i := 6) (N := some 31) (v := ?_) (a' := ?_) #[true, true, true, true, true, false, true, true, true, true, false, false, false] rfl rfl (take_ofW HT_.out HW_.out (by kernel_rfl)) (fun _ _ _ h => h) (Or.inl ⟨by rfl, ?_⟩) hHeld ?_ ?_
         rotate_left
         ·rintro w' ⟨s0, s1, s2, s3, s4, s5, s6, s7, s8, s9, s10, s11, s12, s13, s14⟩
          go_simp
          with_reducible rfl
         rotate_left
         ·simp only [Act.put, List.setIfInBounds_toArray, List.set_cons_zero, List.set_cons_succ, i64_w, i32_w]
          rfl
         refine one_ (i := 5) (N := some 30) #[true, true, true, true, true, true, true, true, true, true, false, false, false] rfl rfl (one_of HT_.out (by kernel_rfl)) (by decide) (fun K hK => ?_)
         refine goes_ Tryd.func9 (by kernel_rfl) rfl #[.agg #[.string a0_0, .slice A0_1 l0_1.length c0_1, .slice A0_2 l0_2.length c0_2, .slice (a0_3).A (a0_3).n (a0_3).c, .slice A0_4 l0_4.length c0_4, .slice A0_5 l0_5.length c0_5, .int .i64 a0_6, .int .i64 a0_7, .int .i64 a0_8, .int .i64 a0_9, .string a0_10, .int .i64 a0_11, .int .i64 a0_12, .int .i64 a0_13, .bool a0_14], .string (a1 ++ (⟨#[32]⟩ : ByteArray)), .int .i64 a3, .int .i64 a3] (by rfl) rfl rfl (by (try simp only [List.map_toArray, List.map_cons, List.map_nil]); first | done | rfl | (simp only [List.length_drop, List.length_take]; rfl)) ?_
         with_reducible refine (prompt_Expand.calls kj4 a0_0 _ _ l0_1 _ _ l0_2 a0_3 _ _ l0_4 _ _ l0_5 a0_6 a0_7 a0_8 a0_9 a0_10 a0_11 a0_12 a0_13 a0_14 (a1 ++ (⟨#[32]⟩ : ByteArray)) a3 a3 t313 _ ?side1 ?side2 ?side3 ?side4 ?side5 ?side6 ?side7 ?side8 ?side9 A20.out).mono ?_
         (case side1 => repeat (first | exact (Kd.C_below HR0_1.out HB.out) | (with_reducible refine Kd.C_alloc ?_ _) | (with_reducible refine Kd.C_drewN ?_ _) | (with_reducible refine Kd.C_drew ?_)))
         (case side2 => exact HC0_1.out)
         (case side3 => repeat (first | exact (Kd.C_below HR0_2.out HB.out) | (with_reducible refine Kd.C_alloc ?_ _) | (with_reducible refine Kd.C_drewN ?_ _) | (with_reducible refine Kd.C_drew ?_)))
         (case side4 => exact HC0_2.out)
         (case side5 => repeat (first | exact (Kd.C_below HR0_4.out HB.out) | (with_reducible refine Kd.C_alloc ?_ _) | (with_reducible refine Kd.C_drewN ?_ _) | (with_reducible refine Kd.C_drew ?_)))
         (case side6 => exact HC0_4.out)
         (case side7 => repeat (first | exact (Kd.C_below HR0_5.out HB.out) | (with_reducible refine Kd.C_alloc ?_ _) | (with_reducible refine Kd.C_drewN ?_ _) | (with_reducible refine Kd.C_drew ?_)))
         (case side8 => exact HC0_5.out)
         (case side9 => repeat (first | exact (AmbC_below HAMB.out HB.out) | (with_reducible refine AmbC_alloc ?_ _) | (with_reducible refine AmbC_drewN ?_ _) | (with_reducible refine AmbC_drew ?_)))
         rintro e w34 ⟨rfl, hb⟩
         refine ⟨_, rfl, ?_⟩
         have n0_ := Aside0.mk (blk_below (g := gb310) (o := .cells #[.string a0_0, .slice A0_1 l0_1.length c0_1, .slice A0_2 l0_2.length c0_2, .slice (a0_3).A (a0_3).n (a0_3).c, .slice A0_4 l0_4.length c0_4, .slice A0_5 l0_5.length c0_5, .int .i64 a0_6, .int .i64 a0_7, .int .i64 a0_8, .int .i64 a0_9, .string a0_10, .int .i64 a0_11, .int .i64 a0_12, .int .i64 a0_13, .bool a0_14] 30 (0, 0)) (by (with_reducible repeat (first | refine blk_drewN ?_ _ | refine blk_drew ?_ | refine blk_alloc ?_ _)); exact BK310.out) hb)
         have n1_ := Aside0.mk (below_step (by repeat (first | (with_reducible first | exact HB.out | apply below_alloc | apply pw_below_drewN | apply below_drew1 | refine below_set ?_ GE310.out) | exact HB.out)) hb)
         clear BK310
         clear HB
         have BK310 := n0_
         have HB := n1_
         clear n0_ n1_
         (try clear hb)
         (try clear hb2)
         (try clear hk)
         (try clear hi)
         refine hK.out _ _ ⟨(blk_cell BK310.out 0).trans rfl, (blk_cell BK310.out 1).trans rfl, (blk_cell BK310.out 2).trans rfl, (blk_cell BK310.out 3).trans rfl, (blk_cell BK310.out 4).trans rfl, (blk_cell BK310.out 5).trans rfl, (blk_cell BK310.out 6).trans rfl, (blk_cell BK310.out 7).trans rfl, (blk_cell BK310.out 8).trans rfl, (blk_cell BK310.out 9).trans rfl, (blk_cell BK310.out 10).trans rfl, (blk_cell BK310.out 11).trans rfl, (blk_cell BK310.out 12).trans rfl, (blk_cell BK310.out 13).trans rfl, (blk_cell BK310.out 14).trans rfl⟩ (fun hHeld => ?_)
         clear hK K
         refine norm_ (a' := ?_) ?_ ?_
         rotate_left
         ·show Act.put _ (some 30) _ = _
          simp only [Act.put, List.setIfInBounds_toArray, List.set_cons_zero, List.set_cons_succ, i64_w, i32_w]
          rfl
         refine one_ (i := 10) (N := some 35) #[true, true, true, true, true, true, true, true, true, true, true, false, false] rfl rfl (one_of HT_.out (by kernel_rfl)) (by decide) (fun K hK => ?_)
         refine goes_ Tryd.func9 (by kernel_rfl) rfl #[.agg #[.string a0_0, .slice A0_1 l0_1.length c0_1, .slice A0_2 l0_2.length c0_2, .slice (a0_3).A (a0_3).n (a0_3).c, .slice A0_4 l0_4.length c0_4, .slice A0_5 l0_5.length c0_5, .int .i64 a0_6, .int .i64 a0_7, .int .i64 a0_8, .int .i64 a0_9, .string a0_10, .int .i64 a0_11, .int .i64 a0_12, .int .i64 a0_13, .bool a0_14], .string a2, .int .i64 a3, .int .i64 a3] (by rfl) rfl rfl (by (try simp only [List.map_toArray, List.map_cons, List.map_nil]); first | done | rfl | (simp only [List.length_drop, List.length_take]; rfl)) ?_
         with_reducible refine (prompt_Expand.calls kj4 a0_0 _ _ l0_1 _ _ l0_2 a0_3 _ _ l0_4 _ _ l0_5 a0_6 a0_7 a0_8 a0_9 a0_10 a0_11 a0_12 a0_13 a0_14 a2 a3 a3 t314 _ ?side1 ?side2 ?side3 ?side4 ?side5 ?side6 ?side7 ?side8 ?side9 A21.out).mono ?_
         (case side1 => repeat (first | exact (Kd.C_below HR0_1.out HB.out) | (with_reducible refine Kd.C_alloc ?_ _) | (with_reducible refine Kd.C_drewN ?_ _) | (with_reducible refine Kd.C_drew ?_)))
         (case side2 => exact HC0_1.out)
         (case side3 => repeat (first | exact (Kd.C_below HR0_2.out HB.out) | (with_reducible refine Kd.C_alloc ?_ _) | (with_reducible refine Kd.C_drewN ?_ _) | (with_reducible refine Kd.C_drew ?_)))
         (case side4 => exact HC0_2.out)
         (case side5 => repeat (first | exact (Kd.C_below HR0_4.out HB.out) | (with_reducible refine Kd.C_alloc ?_ _) | (with_reducible refine Kd.C_drewN ?_ _) | (with_reducible refine Kd.C_drew ?_)))
         (case side6 => exact HC0_4.out)
         (case side7 => repeat (first | exact (Kd.C_below HR0_5.out HB.out) | (with_reducible refine Kd.C_alloc ?_ _) | (with_reducible refine Kd.C_drewN ?_ _) | (with_reducible refine Kd.C_drew ?_)))
         (case side8 => exact HC0_5.out)
         (case side9 => repeat (first | exact (AmbC_below HAMB.out HB.out) | (with_reducible refine AmbC_alloc ?_ _) | (with_reducible refine AmbC_drewN ?_ _) | (with_reducible refine AmbC_drew ?_)))
         rintro e w35 ⟨rfl, hb⟩
         refine ⟨_, rfl, ?_⟩
         have n0_ := Aside0.mk (blk_below (g := gb310) (o := .cells #[.string a0_0, .slice A0_1 l0_1.length c0_1, .slice A0_2 l0_2.length c0_2, .slice (a0_3).A (a0_3).n (a0_3).c, .slice A0_4 l0_4.length c0_4, .slice A0_5 l0_5.length c0_5, .int .i64 a0_6, .int .i64 a0_7, .int .i64 a0_8, .int .i64 a0_9, .string a0_10, .int .i64 a0_11, .int .i64 a0_12, .int .i64 a0_13, .bool a0_14] 30 (0, 0)) (by (with_reducible repeat (first | refine blk_drewN ?_ _ | refine blk_drew ?_ | refine blk_alloc ?_ _)); exact BK310.out) hb)
         have n1_ := Aside0.mk (below_step (by repeat (first | (with_reducible first | exact HB.out | apply below_alloc | apply pw_below_drewN | apply below_drew1 | refine below_set ?_ GE310.out) | exact HB.out)) hb)
         clear BK310
         clear HB
         have BK310 := n0_
         have HB := n1_
         clear n0_ n1_
         (try clear hb)
         (try clear hb2)
         (try clear hk)
         (try clear hi)
         refine hK.out _ _ ⟨(blk_cell BK310.out 0).trans rfl, (blk_cell BK310.out 1).trans rfl, (blk_cell BK310.out 2).trans rfl, (blk_cell BK310.out 3).trans rfl, (blk_cell BK310.out 4).trans rfl, (blk_cell BK310.out 5).trans rfl, (blk_cell BK310.out 6).trans rfl, (blk_cell BK310.out 7).trans rfl, (blk_cell BK310.out 8).trans rfl, (blk_cell BK310.out 9).trans rfl, (blk_cell BK310.out 10).trans rfl, (blk_cell BK310.out 11).trans rfl, (blk_cell BK310.out 12).trans rfl, (blk_cell BK310.out 13).trans rfl, (blk_cell BK310.out 14).trans rfl⟩ (fun hHeld => ?_)
         clear hK K
         refine norm_ (a' := ?_) ?_ ?_
         rotate_left
         ·show Act.put _ (some 35) _ = _
          simp only [Act.put, List.setIfInBounds_toArray, List.set_cons_zero, List.set_cons_succ, i64_w, i32_w]
          rfl
         refine pure_ (i := 11) (N := some 9) (v := ?_) (a' := ?_) #[true, true, true, true, true, true, true, true, true, true, true, true, false] rfl rfl (any_of HT_.out (by kernel_rfl)) (fun _ _ _ h => h) (Or.inl ⟨by rfl, ?_⟩) ?_ ?_
         rotate_left
         ·intro w'
          go_simp
          with_reducible rfl
         rotate_left
         ·simp only [Act.put, List.setIfInBounds_toArray, List.set_cons_zero, List.set_cons_succ, i64_w, i32_w]
          rfl
         refine pure_ (i := 12) (N := some 10) (v := ?_) (a' := ?_) #[true, true, true, true, true, true, true, true, true, true, true, true, true] rfl rfl (any_of HT_.out (by kernel_rfl)) (fun _ _ _ h => h) (Or.inl ⟨by rfl, ?_⟩) ?_ ?_
         rotate_left
         ·intro w'
          go_simp
          with_reducible rfl
         rotate_left
         ·simp only [Act.put, List.setIfInBounds_toArray, List.set_cons_zero, List.set_cons_succ, i64_w, i32_w]
          rfl
         refine done_ (done_of HT_.out (by kernel_rfl)) ?_
         have hcz36_0 : w35.cell? ⟨gb310, 0, none⟩ = some (.string a0_0) := (blk_cell BK310.out 0).trans rfl
         have hcz36_1 : w35.cell? ⟨gb310, 1, none⟩ = some (.slice A0_1 l0_1.length c0_1) := (blk_cell BK310.out 1).trans rfl
         have hcz36_2 : w35.cell? ⟨gb310, 2, none⟩ = some (.slice A0_2 l0_2.length c0_2) := (blk_cell BK310.out 2).trans rfl
         have hcz36_3 : w35.cell? ⟨gb310, 3, none⟩ = some (.slice (a0_3).A (a0_3).n (a0_3).c) := (blk_cell BK310.out 3).trans rfl
         have hcz36_4 : w35.cell? ⟨gb310, 4, none⟩ = some (.slice A0_4 l0_4.length c0_4) := (blk_cell BK310.out 4).trans rfl
         have hcz36_5 : w35.cell? ⟨gb310, 5, none⟩ = some (.slice A0_5 l0_5.length c0_5) := (blk_cell BK310.out 5).trans rfl
         have hcz36_6 : w35.cell? ⟨gb310, 6, none⟩ = some (.int .i64 a0_6) := (blk_cell BK310.out 6).trans rfl
         have hcz36_7 : w35.cell? ⟨gb310, 7, none⟩ = some (.int .i64 a0_7) := (blk_cell BK310.out 7).trans rfl
         have hcz36_8 : w35.cell? ⟨gb310, 8, none⟩ = some (.int .i64 a0_8) := (blk_cell BK310.out 8).trans rfl
         have hcz36_9 : w35.cell? ⟨gb310, 9, none⟩ = some (.int .i64 a0_9) := (blk_cell BK310.out 9).trans rfl
         have hcz36_10 : w35.cell? ⟨gb310, 10, none⟩ = some (.string a0_10) := (blk_cell BK310.out 10).trans rfl
         have hcz36_11 : w35.cell? ⟨gb310, 11, none⟩ = some (.int .i64 a0_11) := (blk_cell BK310.out 11).trans rfl
         have hcz36_12 : w35.cell? ⟨gb310, 12, none⟩ = some (.int .i64 a0_12) := (blk_cell BK310.out 12).trans rfl
         have hcz36_13 : w35.cell? ⟨gb310, 13, none⟩ = some (.int .i64 a0_13) := (blk_cell BK310.out 13).trans rfl
         have hcz36_14 : w35.cell? ⟨gb310, 14, none⟩ = some (.bool a0_14) := (blk_cell BK310.out 14).trans rfl
         have hfz36_0 := blk_frozen BK310.out 0
         have hfz36_1 := blk_frozen BK310.out 1
         have hfz36_2 := blk_frozen BK310.out 2
         have hfz36_3 := blk_frozen BK310.out 3
         have hfz36_4 := blk_frozen BK310.out 4
         have hfz36_5 := blk_frozen BK310.out 5
         have hfz36_6 := blk_frozen BK310.out 6
         have hfz36_7 := blk_frozen BK310.out 7
         have hfz36_8 := blk_frozen BK310.out 8
         have hfz36_9 := blk_frozen BK310.out 9
         have hfz36_10 := blk_frozen BK310.out 10
         have hfz36_11 := blk_frozen BK310.out 11
         have hfz36_12 := blk_frozen BK310.out 12
         have hfz36_13 := blk_frozen BK310.out 13
         have hfz36_14 := blk_frozen BK310.out 14
         try go_wp2_with (first | ((with_reducible refine gate_callee (f := 9) rfl ?_); refine goesL_ (some 50) rfl rfl Tryd.func9 (by kernel_rfl) rfl #[.agg #[.string a0_0, .slice A0_1 l0_1.length c0_1, .slice A0_2 l0_2.length c0_2, .slice (a0_3).A (a0_3).n (a0_3).c, .slice A0_4 l0_4.length c0_4, .slice A0_5 l0_5.length c0_5, .int .i64 a0_6, .int .i64 a0_7, .int .i64 a0_8, .int .i64 a0_9, .string a0_10, .int .i64 a0_11, .int .i64 a0_12, .int .i64 a0_13, .bool a0_14], .string ((a1 ++ (⟨#[32]⟩ : ByteArray)) ++ a2), .int .i64 a3, .int .i64 a3] rfl (by (try simp only [List.map_toArray, List.map_cons, List.map_nil]); first | done | rfl | (simp only [List.length_drop, List.length_take]; rfl)) ?_; (with_reducible refine (prompt_Expand.calls kj4 a0_0 _ _ l0_1 _ _ l0_2 a0_3 _ _ l0_4 _ _ l0_5 a0_6 a0_7 a0_8 a0_9 a0_10 a0_11 a0_12 a0_13 a0_14 ((a1 ++ (⟨#[32]⟩ : ByteArray)) ++ a2) a3 a3 t316 _ ?side1 ?side2 ?side3 ?side4 ?side5 ?side6 ?side7 ?side8 ?side9 A29.out).mono ?_); (case side1 => repeat (first | exact (Kd.C_below HR0_1.out HB.out) | (with_reducible refine Kd.C_alloc ?_ _) | (with_reducible refine Kd.C_drewN ?_ _) | (with_reducible refine Kd.C_drew ?_))); (case side2 => exact HC0_1.out); (case side3 => repeat (first | exact (Kd.C_below HR0_2.out HB.out) | (with_reducible refine Kd.C_alloc ?_ _) | (with_reducible refine Kd.C_drewN ?_ _) | (with_reducible refine Kd.C_drew ?_))); (case side4 => exact HC0_2.out); (case side5 => repeat (first | exact (Kd.C_below HR0_4.out HB.out) | (with_reducible refine Kd.C_alloc ?_ _) | (with_reducible refine Kd.C_drewN ?_ _) | (with_reducible refine Kd.C_drew ?_))); (case side6 => exact HC0_4.out); (case side7 => repeat (first | exact (Kd.C_below HR0_5.out HB.out) | (with_reducible refine Kd.C_alloc ?_ _) | (with_reducible refine Kd.C_drewN ?_ _) | (with_reducible refine Kd.C_drew ?_))); (case side8 => exact HC0_5.out); (case side9 => repeat (first | exact (AmbC_below HAMB.out HB.out) | (with_reducible refine AmbC_alloc ?_ _) | (with_reducible refine AmbC_drewN ?_ _) | (with_reducible refine AmbC_drew ?_))); rintro e w37 ⟨rfl, hb⟩; refine ⟨_, rfl, ?_⟩; have n0_ := Aside0.mk (blk_below (g := gb310) (o := .cells #[.string a0_0, .slice A0_1 l0_1.length c0_1, .slice A0_2 l0_2.length c0_2, .slice (a0_3).A (a0_3).n (a0_3).c, .slice A0_4 l0_4.length c0_4, .slice A0_5 l0_5.length c0_5, .int .i64 a0_6, .int .i64 a0_7, .int .i64 a0_8, .int .i64 a0_9, .string a0_10, .int .i64 a0_11, .int .i64 a0_12, .int .i64 a0_13, .bool a0_14] 30 (0, 0)) (by (with_reducible repeat (first | refine blk_drewN ?_ _ | refine blk_drew ?_ | refine blk_alloc ?_ _)); exact BK310.out) hb); have n1_ := Aside0.mk (below_step (by repeat (first | (with_reducible first | exact HB.out | apply below_alloc | apply pw_below_drewN | apply below_drew1 | refine below_set ?_ GE310.out) | exact HB.out)) hb); clear BK310; clear HB; have BK310 := n0_; have HB := n1_; clear n0_ n1_; (try clear hb); (try clear hb2); (try clear hk); (try clear hi)) | (go_at_call 11; (with_reducible refine (jobshelllaw48_awake.calls kj4  t317 _ ?side1 A32.out).mono ?_); (case side1 => repeat (first | exact (AmbC_below HAMB.out HB.out) | (with_reducible refine AmbC_alloc ?_ _) | (with_reducible refine AmbC_drewN ?_ _) | (with_reducible refine AmbC_drew ?_))); rintro e w38 ⟨rfl, hb⟩; have n0_ := Aside0.mk (blk_below (g := gb310) (o := .cells #[.string a0_0, .slice A0_1 l0_1.length c0_1, .slice A0_2 l0_2.length c0_2, .slice (a0_3).A (a0_3).n (a0_3).c, .slice A0_4 l0_4.length c0_4, .slice A0_5 l0_5.length c0_5, .int .i64 a0_6, .int .i64 a0_7, .int .i64 a0_8, .int .i64 a0_9, .string a0_10, .int .i64 a0_11, .int .i64 a0_12, .int .i64 a0_13, .bool a0_14] 30 (0, 0)) (by (with_reducible repeat (first | refine blk_drewN ?_ _ | refine blk_drew ?_ | refine blk_alloc ?_ _)); exact BK310.out) hb); have n1_ := Aside0.mk (below_step (by repeat (first | (with_reducible first | exact HB.out | apply below_alloc | apply pw_below_drewN | apply below_drew1 | refine below_set ?_ GE310.out) | exact HB.out)) hb); clear BK310; clear HB; have BK310 := n0_; have HB := n1_; clear n0_ n1_; (try clear hb); (try clear hb2); (try clear hk); (try clear hi)))
         go_ret
         exact ⟨by first | rfl | (simp [errW_none, errW_some] <;> rfl) | (simp [*, errW_none, errW_some] <;> rfl), by repeat (first | (with_reducible first | exact HB.out | apply below_alloc | apply pw_below_drewN | apply below_drew1 | refine below_set ?_ GE310.out) | exact HB.out)⟩
        ·as_aux_lemma =>
         rw [if_neg c31] at H
         have c31b0 : (t316.toList == (t313 ++ t314).toList) = false := beq_eq_false_iff_ne.mpr c31
         have c31b1 : (t316.toList != (t313 ++ t314).toList) = true := bne_iff_ne.mpr c31
         obtain rfl := Option.some.inj H
         try go_wp2
         have n0_ := Aside0.mk (blk_drew BK310.out)
         have n1_ := Aside0.mk (below_drew1 HB.out)
         clear BK310
         clear HB
         have BK310 := n0_
         have HB := n1_
         clear n0_ n1_
         refine start_ (n := 13) (S := fun w' => w'.cell? ⟨gb310, 0, none⟩ = some (.string a0_0) ∧ w'.cell? ⟨gb310, 1, none⟩ = some (.slice A0_1 l0_1.length c0_1) ∧ w'.cell? ⟨gb310, 2, none⟩ = some (.slice A0_2 l0_2.length c0_2) ∧ w'.cell? ⟨gb310, 3, none⟩ = some (.slice (a0_3).A (a0_3).n (a0_3).c) ∧ w'.cell? ⟨gb310, 4, none⟩ = some (.slice A0_4 l0_4.length c0_4) ∧ w'.cell? ⟨gb310, 5, none⟩ = some (.slice A0_5 l0_5.length c0_5) ∧ w'.cell? ⟨gb310, 6, none⟩ = some (.int .i64 a0_6) ∧ w'.cell? ⟨gb310, 7, none⟩ = some (.int .i64 a0_7) ∧ w'.cell? ⟨gb310, 8, none⟩ = some (.int .i64 a0_8) ∧ w'.cell? ⟨gb310, 9, none⟩ = some (.int .i64 a0_9) ∧ w'.cell? ⟨gb310, 10, none⟩ = some (.string a0_10) ∧ w'.cell? ⟨gb310, 11, none⟩ = some (.int .i64 a0_11) ∧ w'.cell? ⟨gb310, 12, none⟩ = some (.int .i64 a0_12) ∧ w'.cell? ⟨gb310, 13, none⟩ = some (.int .i64 a0_13) ∧ w'.cell? ⟨gb310, 14, none⟩ = some (.bool a0_14)) (ds := []) #[false, false, false, false, false, false, false, false, false, false, false, false, false] (by kernel_rfl) rfl rfl ⟨(blk_cell BK310.out 0).trans rfl, (blk_cell BK310.out 1).trans rfl, (blk_cell BK310.out 2).trans rfl, (blk_cell BK310.out 3).trans rfl, (blk_cell BK310.out 4).trans rfl, (blk_cell BK310.out 5).trans rfl, (blk_cell BK310.out 6).trans rfl, (blk_cell BK310.out 7).trans rfl, (blk_cell BK310.out 8).trans rfl, (blk_cell BK310.out 9).trans rfl, (blk_cell BK310.out 10).trans rfl, (blk_cell BK310.out 11).trans rfl, (blk_cell BK310.out 12).trans rfl, (blk_cell BK310.out 13).trans rfl, (blk_cell BK310.out 14).trans rfl⟩ (fun hHeld => ?_); refine with_tabW jobshelllaw48_PromptParts.tab3 jobshelllaw48_PromptParts.bits3 (fun HT_ HW_ => ?_)
         generalize wc.drew = w39 at BK310 HB hHeld ⊢
         refine pure_ (i := 1) (N := some 26) (v := ?_) (a' := ?_) #[false, true, false, false, false, false, false, false, false, false, false, false, false] rfl rfl (any_of HT_.out (by kernel_rfl)) (fun _ _ _ h => h) (Or.inl ⟨by rfl, ?_⟩) ?_ ?_
         rotate_left
         ·intro w'
          go_simp
          with_reducible rfl
         rotate_left
         ·simp only [Act.put, List.setIfInBounds_toArray, List.set_cons_zero, List.set_cons_succ, i64_w, i32_w]
          rfl
         refine pure_ (i := 2) (N := some 27) (v := ?_) (a' := ?_) #[false, true, true, false, false, false, false, false, false, false, false, false, false] rfl rfl (any_of HT_.out (by kernel_rfl)) (fun _ _ _ h => h) (Or.inl ⟨by rfl, ?_⟩) ?_ ?_
         rotate_left
         ·intro w'
          go_simp
          with_reducible rfl
         rotate_left
         ·simp only [Act.put, List.setIfInBounds_toArray, List.set_cons_zero, List.set_cons_succ, i64_w, i32_w]
          rfl
         refine pure_ (i := 3) (N := some 28) (v := ?_) (a' := ?_) #[false, true, true, true, false, false, false, false, false, false, false, false, false] rfl rfl (any_of HT_.out (by kernel_rfl)) (fun _ _ _ h => h) (Or.inl ⟨by rfl, ?_⟩) ?_ ?_
         rotate_left
         ·intro w'
          go_simp
          with_reducible rfl
         rotate_left
         ·simp only [Act.put, List.setIfInBounds_toArray, List.set_cons_zero, List.set_cons_succ, i64_w, i32_w]
          rfl
         refine pure_ (i := 4) (N := some 29) (v := ?_) (a' := ?_) #[false, true, true, true, true, false, false, false, false, false, false, false, false] rfl rfl (any_of HT_.out (by kernel_rfl)) (fun _ _ _ h => h) (Or.inl ⟨by rfl, ?_⟩) ?_ ?_
         rotate_left
         ·intro w'
          go_simp
          with_reducible rfl
         rotate_left
         ·simp only [Act.put, List.setIfInBounds_toArray, List.set_cons_zero, List.set_cons_succ, i64_w, i32_w]
          rfl
         refine pure_ (i := 7) (N := some 32) (v := ?_) (a' := ?_) #[false, true, true, true, true, false, false, true, false, false, false, false, false] rfl rfl (any_of HT_.out (by kernel_rfl)) (fun _ _ _ h => h) (Or.inl ⟨by rfl, ?_⟩) ?_ ?_
         rotate_left
         ·intro w'
          go_simp
          with_reducible rfl
         rotate_left
         ·simp only [Act.put, List.setIfInBounds_toArray, List.set_cons_zero, List.set_cons_succ, i64_w, i32_w]
          rfl
         refine pure_ (i := 8) (N := some 33) (v := ?_) (a' := ?_) #[false, true, true, true, true, false, false, true, true, false, false, false, false] rfl rfl (any_of HT_.out (by kernel_rfl)) (fun _ _ _ h => h) (Or.inl ⟨by rfl, ?_⟩) ?_ ?_
         rotate_left
         ·intro w'
          go_simp
          with_reducible rfl
         rotate_left
         ·simp only [Act.put, List.setIfInBounds_toArray, List.set_cons_zero, List.set_cons_succ, i64_w, i32_w]
          rfl
         refine pure_ (i := 9) (N := some 34) (v := ?_) (a' := ?_) #[false, true, true, true, true, false, false, true, true, true, false, false, false] rfl rfl (any_of HT_.out (by kernel_rfl)) (fun _ _ _ h => h) (Or.inl ⟨by rfl, ?_⟩) ?_ ?_
         rotate_left
         ·intro w'
          go_simp
          with_reducible rfl
         rotate_left
         ·simp only [Act.put, List.setIfInBounds_toArray, List.set_cons_zero, List.set_cons_succ, i64_w, i32_w]
          rfl
         refine take_ (i := 0) (N := some 25) (v := ?_) (a' := ?_) #[true, true, true, true, true, false, false, true, true, true, false, false, false] rfl rfl (take_ofW HT_.out HW_.out (by kernel_rfl)) (fun _ _ _ h => h) (Or.inl ⟨by rfl, ?_⟩) hHeld ?_ ?_
         rotate_left
         ·rintro w' ⟨s0, s1, s2, s3, s4, s5, s6, s7, s8, s9, s10, s11, s12, s13, s14⟩
          go_simp
          with_reducible rfl
         rotate_left
         ·simp only [Act.put, List.setIfInBounds_toArray, List.set_cons_zero, List.set_cons_succ, i64_w, i32_w]
          rfl
         refine take_ (i := 6) (N := some 31) (v := ?_) (a' := ?_) #[true, true, true, true, true, false, true, true, true, true, false, false, false] rfl rfl (take_ofW HT_.out HW_.out (by kernel_rfl)) (fun _ _ _ h => h) (Or.inl ⟨by rfl, ?_⟩) hHeld ?_ ?_
         rotate_left
         ·rintro w' ⟨s0, s1, s2, s3, s4, s5, s6, s7, s8, s9, s10, s11, s12, s13, s14⟩
          go_simp
          with_reducible rfl
         rotate_left
         ·simp only [Act.put, List.setIfInBounds_toArray, List.set_cons_zero, List.set_cons_succ, i64_w, i32_w]
          rfl
         refine one_ (i := 5) (N := some 30) #[true, true, true, true, true, true, true, true, true, true, false, false, false] rfl rfl (one_of HT_.out (by kernel_rfl)) (by decide) (fun K hK => ?_)
         refine goes_ Tryd.func9 (by kernel_rfl) rfl #[.agg #[.string a0_0, .slice A0_1 l0_1.length c0_1, .slice A0_2 l0_2.length c0_2, .slice (a0_3).A (a0_3).n (a0_3).c, .slice A0_4 l0_4.length c0_4, .slice A0_5 l0_5.length c0_5, .int .i64 a0_6, .int .i64 a0_7, .int .i64 a0_8, .int .i64 a0_9, .string a0_10, .int .i64 a0_11, .int .i64 a0_12, .int .i64 a0_13, .bool a0_14], .string (a1 ++ (⟨#[32]⟩ : ByteArray)), .int .i64 a3, .int .i64 a3] (by rfl) rfl rfl (by (try simp only [List.map_toArray, List.map_cons, List.map_nil]); first | done | rfl | (simp only [List.length_drop, List.length_take]; rfl)) ?_
         with_reducible refine (prompt_Expand.calls kj4 a0_0 _ _ l0_1 _ _ l0_2 a0_3 _ _ l0_4 _ _ l0_5 a0_6 a0_7 a0_8 a0_9 a0_10 a0_11 a0_12 a0_13 a0_14 (a1 ++ (⟨#[32]⟩ : ByteArray)) a3 a3 t313 _ ?side1 ?side2 ?side3 ?side4 ?side5 ?side6 ?side7 ?side8 ?side9 A20.out).mono ?_
         (case side1 => repeat (first | exact (Kd.C_below HR0_1.out HB.out) | (with_reducible refine Kd.C_alloc ?_ _) | (with_reducible refine Kd.C_drewN ?_ _) | (with_reducible refine Kd.C_drew ?_)))
         (case side2 => exact HC0_1.out)
         (case side3 => repeat (first | exact (Kd.C_below HR0_2.out HB.out) | (with_reducible refine Kd.C_alloc ?_ _) | (with_reducible refine Kd.C_drewN ?_ _) | (with_reducible refine Kd.C_drew ?_)))
         (case side4 => exact HC0_2.out)
         (case side5 => repeat (first | exact (Kd.C_below HR0_4.out HB.out) | (with_reducible refine Kd.C_alloc ?_ _) | (with_reducible refine Kd.C_drewN ?_ _) | (with_reducible refine Kd.C_drew ?_)))
         (case side6 => exact HC0_4.out)
         (case side7 => repeat (first | exact (Kd.C_below HR0_5.out HB.out) | (with_reducible refine Kd.C_alloc ?_ _) | (with_reducible refine Kd.C_drewN ?_ _) | (with_reducible refine Kd.C_drew ?_)))
         (case side8 => exact HC0_5.out)
         (case side9 => repeat (first | exact (AmbC_below HAMB.out HB.out) | (with_reducible refine AmbC_alloc ?_ _) | (with_reducible refine AmbC_drewN ?_ _) | (with_reducible refine AmbC_drew ?_)))
         rintro e w40 ⟨rfl, hb⟩
         refine ⟨_, rfl, ?_⟩
         have n0_ := Aside0.mk (blk_below (g := gb310) (o := .cells #[.string a0_0, .slice A0_1 l0_1.length c0_1, .slice A0_2 l0_2.length c0_2, .slice (a0_3).A (a0_3).n (a0_3).c, .slice A0_4 l0_4.length c0_4, .slice A0_5 l0_5.length c0_5, .int .i64 a0_6, .int .i64 a0_7, .int .i64 a0_8, .int .i64 a0_9, .string a0_10, .int .i64 a0_11, .int .i64 a0_12, .int .i64 a0_13, .bool a0_14] 30 (0, 0)) (by (with_reducible repeat (first | refine blk_drewN ?_ _ | refine blk_drew ?_ | refine blk_alloc ?_ _)); exact BK310.out) hb)
         have n1_ := Aside0.mk (below_step (by repeat (first | (with_reducible first | exact HB.out | apply below_alloc | apply pw_below_drewN | apply below_drew1 | refine below_set ?_ GE310.out) | exact HB.out)) hb)
         clear BK310
         clear HB
         have BK310 := n0_
         have HB := n1_
         clear n0_ n1_
         (try clear hb)
         (try clear hb2)
         (try clear hk)
         (try clear hi)
         refine hK.out _ _ ⟨(blk_cell BK310.out 0).trans rfl, (blk_cell BK310.out 1).trans rfl, (blk_cell BK310.out 2).trans rfl, (blk_cell BK310.out 3).trans rfl, (blk_cell BK310.out 4).trans rfl, (blk_cell BK310.out 5).trans rfl, (blk_cell BK310.out 6).trans rfl, (blk_cell BK310.out 7).trans rfl, (blk_cell BK310.out 8).trans rfl, (blk_cell BK310.out 9).trans rfl, (blk_cell BK310.out 10).trans rfl, (blk_cell BK310.out 11).trans rfl, (blk_cell BK310.out 12).trans rfl, (blk_cell BK310.out 13).trans rfl, (blk_cell BK310.out 14).trans rfl⟩ (fun hHeld => ?_)
         clear hK K
         refine norm_ (a' := ?_) ?_ ?_
         rotate_left
         ·show Act.put _ (some 30) _ = _
          simp only [Act.put, List.setIfInBounds_toArray, List.set_cons_zero, List.set_cons_succ, i64_w, i32_w]
          rfl
         refine one_ (i := 10) (N := some 35) #[true, true, true, true, true, true, true, true, true, true, true, false, false] rfl rfl (one_of HT_.out (by kernel_rfl)) (by decide) (fun K hK => ?_)
         refine goes_ Tryd.func9 (by kernel_rfl) rfl #[.agg #[.string a0_0, .slice A0_1 l0_1.length c0_1, .slice A0_2 l0_2.length c0_2, .slice (a0_3).A (a0_3).n (a0_3).c, .slice A0_4 l0_4.length c0_4, .slice A0_5 l0_5.length c0_5, .int .i64 a0_6, .int .i64 a0_7, .int .i64 a0_8, .int .i64 a0_9, .string a0_10, .int .i64 a0_11, .int .i64 a0_12, .int .i64 a0_13, .bool a0_14], .string a2, .int .i64 a3, .int .i64 a3] (by rfl) rfl rfl (by (try simp only [List.map_toArray, List.map_cons, List.map_nil]); first | done | rfl | (simp only [List.length_drop, List.length_take]; rfl)) ?_
         with_reducible refine (prompt_Expand.calls kj4 a0_0 _ _ l0_1 _ _ l0_2 a0_3 _ _ l0_4 _ _ l0_5 a0_6 a0_7 a0_8 a0_9 a0_10 a0_11 a0_12 a0_13 a0_14 a2 a3 a3 t314 _ ?side1 ?side2 ?side3 ?side4 ?side5 ?side6 ?side7 ?side8 ?side9 A21.out).mono ?_
         (case side1 => repeat (first | exact (Kd.C_below HR0_1.out HB.out) | (with_reducible refine Kd.C_alloc ?_ _) | (with_reducible refine Kd.C_drewN ?_ _) | (with_reducible refine Kd.C_drew ?_)))
         (case side2 => exact HC0_1.out)
         (case side3 => repeat (first | exact (Kd.C_below HR0_2.out HB.out) | (with_reducible refine Kd.C_alloc ?_ _) | (with_reducible refine Kd.C_drewN ?_ _) | (with_reducible refine Kd.C_drew ?_)))
         (case side4 => exact HC0_2.out)
         (case side5 => repeat (first | exact (Kd.C_below HR0_4.out HB.out) | (with_reducible refine Kd.C_alloc ?_ _) | (with_reducible refine Kd.C_drewN ?_ _) | (with_reducible refine Kd.C_drew ?_)))
         (case side6 => exact HC0_4.out)
         (case side7 => repeat (first | exact (Kd.C_below HR0_5.out HB.out) | (with_reducible refine Kd.C_alloc ?_ _) | (with_reducible refine Kd.C_drewN ?_ _) | (with_reducible refine Kd.C_drew ?_)))
         (case side8 => exact HC0_5.out)
         (case side9 => repeat (first | exact (AmbC_below HAMB.out HB.out) | (with_reducible refine AmbC_alloc ?_ _) | (with_reducible refine AmbC_drewN ?_ _) | (with_reducible refine AmbC_drew ?_)))
         rintro e w41 ⟨rfl, hb⟩
         refine ⟨_, rfl, ?_⟩
         have n0_ := Aside0.mk (blk_below (g := gb310) (o := .cells #[.string a0_0, .slice A0_1 l0_1.length c0_1, .slice A0_2 l0_2.length c0_2, .slice (a0_3).A (a0_3).n (a0_3).c, .slice A0_4 l0_4.length c0_4, .slice A0_5 l0_5.length c0_5, .int .i64 a0_6, .int .i64 a0_7, .int .i64 a0_8, .int .i64 a0_9, .string a0_10, .int .i64 a0_11, .int .i64 a0_12, .int .i64 a0_13, .bool a0_14] 30 (0, 0)) (by (with_reducible repeat (first | refine blk_drewN ?_ _ | refine blk_drew ?_ | refine blk_alloc ?_ _)); exact BK310.out) hb)
         have n1_ := Aside0.mk (below_step (by repeat (first | (with_reducible first | exact HB.out | apply below_alloc | apply pw_below_drewN | apply below_drew1 | refine below_set ?_ GE310.out) | exact HB.out)) hb)
         clear BK310
         clear HB
         have BK310 := n0_
         have HB := n1_
         clear n0_ n1_
         (try clear hb)
         (try clear hb2)
         (try clear hk)
         (try clear hi)
         refine hK.out _ _ ⟨(blk_cell BK310.out 0).trans rfl, (blk_cell BK310.out 1).trans rfl, (blk_cell BK310.out 2).trans rfl, (blk_cell BK310.out 3).trans rfl, (blk_cell BK310.out 4).trans rfl, (blk_cell BK310.out 5).trans rfl, (blk_cell BK310.out 6).trans rfl, (blk_cell BK310.out 7).trans rfl, (blk_cell BK310.out 8).trans rfl, (blk_cell BK310.out 9).trans rfl, (blk_cell BK310.out 10).trans rfl, (blk_cell BK310.out 11).trans rfl, (blk_cell BK310.out 12).trans rfl, (blk_cell BK310.out 13).trans rfl, (blk_cell BK310.out 14).trans rfl⟩ (fun hHeld => ?_)
         clear hK K
         refine norm_ (a' := ?_) ?_ ?_
         rotate_left
         ·show Act.put _ (some 35) _ = _
          simp only [Act.put, List.setIfInBounds_toArray, List.set_cons_zero, List.set_cons_succ, i64_w, i32_w]
          rfl
         refine pure_ (i := 11) (N := some 9) (v := ?_) (a' := ?_) #[true, true, true, true, true, true, true, true, true, true, true, true, false] rfl rfl (any_of HT_.out (by kernel_rfl)) (fun _ _ _ h => h) (Or.inl ⟨by rfl, ?_⟩) ?_ ?_
         rotate_left
         ·intro w'
          go_simp
          with_reducible rfl
         rotate_left
         ·simp only [Act.put, List.setIfInBounds_toArray, List.set_cons_zero, List.set_cons_succ, i64_w, i32_w]
          rfl
         refine pure_ (i := 12) (N := some 10) (v := ?_) (a' := ?_) #[true, true, true, true, true, true, true, true, true, true, true, true, true] rfl rfl (any_of HT_.out (by kernel_rfl)) (fun _ _ _ h => h) (Or.inl ⟨by rfl, ?_⟩) ?_ ?_
         rotate_left
         ·intro w'
          go_simp
          with_reducible rfl
         rotate_left
         ·simp only [Act.put, List.setIfInBounds_toArray, List.set_cons_zero, List.set_cons_succ, i64_w, i32_w]
          rfl
         refine done_ (done_of HT_.out (by kernel_rfl)) ?_
         have hcz42_0 : w41.cell? ⟨gb310, 0, none⟩ = some (.string a0_0) := (blk_cell BK310.out 0).trans rfl
         have hcz42_1 : w41.cell? ⟨gb310, 1, none⟩ = some (.slice A0_1 l0_1.length c0_1) := (blk_cell BK310.out 1).trans rfl
         have hcz42_2 : w41.cell? ⟨gb310, 2, none⟩ = some (.slice A0_2 l0_2.length c0_2) := (blk_cell BK310.out 2).trans rfl
         have hcz42_3 : w41.cell? ⟨gb310, 3, none⟩ = some (.slice (a0_3).A (a0_3).n (a0_3).c) := (blk_cell BK310.out 3).trans rfl
         have hcz42_4 : w41.cell? ⟨gb310, 4, none⟩ = some (.slice A0_4 l0_4.length c0_4) := (blk_cell BK310.out 4).trans rfl
         have hcz42_5 : w41.cell? ⟨gb310, 5, none⟩ = some (.slice A0_5 l0_5.length c0_5) := (blk_cell BK310.out 5).trans rfl
         have hcz42_6 : w41.cell? ⟨gb310, 6, none⟩ = some (.int .i64 a0_6) := (blk_cell BK310.out 6).trans rfl
         have hcz42_7 : w41.cell? ⟨gb310, 7, none⟩ = some (.int .i64 a0_7) := (blk_cell BK310.out 7).trans rfl
         have hcz42_8 : w41.cell? ⟨gb310, 8, none⟩ = some (.int .i64 a0_8) := (blk_cell BK310.out 8).trans rfl
         have hcz42_9 : w41.cell? ⟨gb310, 9, none⟩ = some (.int .i64 a0_9) := (blk_cell BK310.out 9).trans rfl
         have hcz42_10 : w41.cell? ⟨gb310, 10, none⟩ = some (.string a0_10) := (blk_cell BK310.out 10).trans rfl
         have hcz42_11 : w41.cell? ⟨gb310, 11, none⟩ = some (.int .i64 a0_11) := (blk_cell BK310.out 11).trans rfl
         have hcz42_12 : w41.cell? ⟨gb310, 12, none⟩ = some (.int .i64 a0_12) := (blk_cell BK310.out 12).trans rfl
         have hcz42_13 : w41.cell? ⟨gb310, 13, none⟩ = some (.int .i64 a0_13) := (blk_cell BK310.out 13).trans rfl
         have hcz42_14 : w41.cell? ⟨gb310, 14, none⟩ = some (.bool a0_14) := (blk_cell BK310.out 14).trans rfl
         have hfz42_0 := blk_frozen BK310.out 0
         have hfz42_1 := blk_frozen BK310.out 1
         have hfz42_2 := blk_frozen BK310.out 2
         have hfz42_3 := blk_frozen BK310.out 3
         have hfz42_4 := blk_frozen BK310.out 4
         have hfz42_5 := blk_frozen BK310.out 5
         have hfz42_6 := blk_frozen BK310.out 6
         have hfz42_7 := blk_frozen BK310.out 7
         have hfz42_8 := blk_frozen BK310.out 8
         have hfz42_9 := blk_frozen BK310.out 9
         have hfz42_10 := blk_frozen BK310.out 10
         have hfz42_11 := blk_frozen BK310.out 11
         have hfz42_12 := blk_frozen BK310.out 12
         have hfz42_13 := blk_frozen BK310.out 13
         have hfz42_14 := blk_frozen BK310.out 14
         try go_wp2_with (first | ((with_reducible refine gate_callee (f := 9) rfl ?_); refine goesL_ (some 50) rfl rfl Tryd.func9 (by kernel_rfl) rfl #[.agg #[.string a0_0, .slice A0_1 l0_1.length c0_1, .slice A0_2 l0_2.length c0_2, .slice (a0_3).A (a0_3).n (a0_3).c, .slice A0_4 l0_4.length c0_4, .slice A0_5 l0_5.length c0_5, .int .i64 a0_6, .int .i64 a0_7, .int .i64 a0_8, .int .i64 a0_9, .string a0_10, .int .i64 a0_11, .int .i64 a0_12, .int .i64 a0_13, .bool a0_14], .string ((a1 ++ (⟨#[32]⟩ : ByteArray)) ++ a2), .int .i64 a3, .int .i64 a3] rfl (by (try simp only [List.map_toArray, List.map_cons, List.map_nil]); first | done | rfl | (simp only [List.length_drop, List.length_take]; rfl)) ?_; (with_reducible refine (prompt_Expand.calls kj4 a0_0 _ _ l0_1 _ _ l0_2 a0_3 _ _ l0_4 _ _ l0_5 a0_6 a0_7 a0_8 a0_9 a0_10 a0_11 a0_12 a0_13 a0_14 ((a1 ++ (⟨#[32]⟩ : ByteArray)) ++ a2) a3 a3 t316 _ ?side1 ?side2 ?side3 ?side4 ?side5 ?side6 ?side7 ?side8 ?side9 A29.out).mono ?_); (case side1 => repeat (first | exact (Kd.C_below HR0_1.out HB.out) | (with_reducible refine Kd.C_alloc ?_ _) | (with_reducible refine Kd.C_drewN ?_ _) | (with_reducible refine Kd.C_drew ?_))); (case side2 => exact HC0_1.out); (case side3 => repeat (first | exact (Kd.C_below HR0_2.out HB.out) | (with_reducible refine Kd.C_alloc ?_ _) | (with_reducible refine Kd.C_drewN ?_ _) | (with_reducible refine Kd.C_drew ?_))); (case side4 => exact HC0_2.out); (case side5 => repeat (first | exact (Kd.C_below HR0_4.out HB.out) | (with_reducible refine Kd.C_alloc ?_ _) | (with_reducible refine Kd.C_drewN ?_ _) | (with_reducible refine Kd.C_drew ?_))); (case side6 => exact HC0_4.out); (case side7 => repeat (first | exact (Kd.C_below HR0_5.out HB.out) | (with_reducible refine Kd.C_alloc ?_ _) | (with_reducible refine Kd.C_drewN ?_ _) | (with_reducible refine Kd.C_drew ?_))); (case side8 => exact HC0_5.out); (case side9 => repeat (first | exact (AmbC_below HAMB.out HB.out) | (with_reducible refine AmbC_alloc ?_ _) | (with_reducible refine AmbC_drewN ?_ _) | (with_reducible refine AmbC_drew ?_))); rintro e w43 ⟨rfl, hb⟩; refine ⟨_, rfl, ?_⟩; have n0_ := Aside0.mk (blk_below (g := gb310) (o := .cells #[.string a0_0, .slice A0_1 l0_1.length c0_1, .slice A0_2 l0_2.length c0_2, .slice (a0_3).A (a0_3).n (a0_3).c, .slice A0_4 l0_4.length c0_4, .slice A0_5 l0_5.length c0_5, .int .i64 a0_6, .int .i64 a0_7, .int .i64 a0_8, .int .i64 a0_9, .string a0_10, .int .i64 a0_11, .int .i64 a0_12, .int .i64 a0_13, .bool a0_14] 30 (0, 0)) (by (with_reducible repeat (first | refine blk_drewN ?_ _ | refine blk_drew ?_ | refine blk_alloc ?_ _)); exact BK310.out) hb); have n1_ := Aside0.mk (below_step (by repeat (first | (with_reducible first | exact HB.out | apply below_alloc | apply pw_below_drewN | apply below_drew1 | refine below_set ?_ GE310.out) | exact HB.out)) hb); clear BK310; clear HB; have BK310 := n0_; have HB := n1_; clear n0_ n1_; (try clear hb); (try clear hb2); (try clear hk); (try clear hi)))
         go_ret
         exact ⟨by first | rfl | (simp [errW_none, errW_some] <;> rfl) | (simp [*, errW_none, errW_some] <;> rfl), by repeat (first | (with_reducible first | exact HB.out | apply below_alloc | apply pw_below_drewN | apply below_drew1 | refine below_set ?_ GE310.out) | exact HB.out)⟩
       ·as_aux_lemma =>
        rw [if_neg c30] at H
        exact absurd H (by simp)
      ·as_aux_lemma =>
       rw [if_neg c28] at H
       exact absurd H (by simp)
    ·as_aux_lemma =>
     rw [if_neg c19] at H
     exact absurd H (by simp)
end Go.Proofs.YtiacdccnifjcjaaDoor.F
set_option linter.unusedVariables false
set_option linter.unusedSimpArgs false
namespace Go.Proofs.YtiacdccnifjcjaaDoor.Pure
open Go.RowKit Go.Proofs.YtiacdccnifjcjaaDoor.F Go.Proofs.YtiacdccnifjcjaaDoorW.PrintWords
abbrev Got := ByteArray × ByteArray × Bool × Bool × Bool × Bool
def getGo (nm : ByteArray) : List S_Var → Got
  | [] => (⟨#[]⟩, ⟨#[]⟩, false, false, false, false)
  | v :: r => if v.f0.toList = nm.toList then (v.f0, v.f1, v.f2, v.f3, v.f4, true) else getGo nm r
theorem ref_get_go (nm : ByteArray) (xs : List S_Var) (hl : xs.length < 1000) : ∀ (k i : Nat), i ≤ xs.length → xs.length - i < k → jobshellref15_Get.l0 k xs nm i = some (getGo nm (xs.drop i)) := by
  intro k
  induction k with
  | zero => intro i _ h; omega
  | succ k ih =>
    intro i hi hk
    rw [jobshellref15_Get.l0]
    by_cases h : i < xs.length
    · rw [if_pos (by omega), if_pos (by omega), wrap_succ (by omega), ih (i + 1) (by omega) (by omega), (show xs.drop i = rd_Var xs i :: xs.drop (i + 1) from getD_drop z_Var xs i h)]
      simp only [getGo]
      by_cases hc : (rd_Var xs (i : Int)).f0.toList = nm.toList
      · rw [if_pos hc, if_pos hc]
      · rw [if_neg hc, if_neg hc]
    · rw [if_neg (by omega), List.drop_eq_nil_of_le (by omega)]; rfl
theorem vars_get_go (nm : ByteArray) (xs : List S_Var) (hl : xs.length < 1000) : ∀ (k i : Nat), i ≤ xs.length → xs.length - i < k → vars_Get.l0 k nm xs (xs.length : Int) i = some (getGo nm (xs.drop i)) := by
  intro k
  induction k with
  | zero => intro i _ h; omega
  | succ k ih =>
    intro i hi hk
    rw [vars_Get.l0]
    by_cases h : i < xs.length
    · rw [if_pos (by omega), if_pos (by omega), if_pos (by omega), wrap_succ (by omega), ih (i + 1) (by omega) (by omega), (show xs.drop i = rd_Var xs i :: xs.drop (i + 1) from getD_drop z_Var xs i h)]
      simp only [getGo]
      by_cases hc : (rd_Var xs (i : Int)).f0.toList = nm.toList
      · rw [if_pos hc, if_pos hc]
      · rw [if_neg hc, if_neg hc]
    · rw [if_neg (by omega), List.drop_eq_nil_of_le (by omega)]; rfl
theorem ref_get (nm : ByteArray) (xs : List S_Var) (hl : xs.length < 1000) {k : Nat} (hk : 1000 ≤ k) : jobshellref15_Get.f k xs nm = some (getGo nm xs) :=
  ref_get_go nm xs hl k 0 (by omega) (by omega)
theorem vars_get (nm : ByteArray) (xs : List S_Var) (hl : xs.length < 1000) {k : Nat} (hk : 1000 ≤ k) : vars_Get.f k xs nm = some (getGo nm xs) :=
  vars_get_go nm xs hl k 0 (by omega) (by omega)
theorem digit_eq (x : Int) : jobshellref01_Digit.f x = some (isDig x) := by
  unfold jobshellref01_Digit.f isDig
  by_cases h : x ≥ 48
  · rw [if_pos h, decide_eq_true (show 48 ≤ x from h), Bool.true_and]
  · rw [if_neg h, decide_eq_false (show ¬ 48 ≤ x from h), Bool.false_and]
theorem letter_eq (x : Int) : jobshellref01_Letter.f x = some (isLet x) := by
  unfold jobshellref01_Letter.f isLet
  by_cases h1 : x ≥ 97 <;> by_cases h2 : x ≤ 122 <;> by_cases h3 : x ≥ 65 <;> by_cases h4 : x ≤ 90 <;> simp [h1, h2, h3, h4] <;> omega
theorem word_eq (x : Int) : jobshellref01_Word.f x = some (nameCh false x) := by
  unfold jobshellref01_Word.f nameCh
  rw [letter_eq, digit_eq]
  cases isLet x <;> cases isDig x <;> cases h : x == 95 <;> simp [h]
theorem name_go (s : ByteArray) (hl : s.size < 1000) : ∀ (k i : Nat), i ≤ s.size → s.size - i < k → jobshellref01_Name.l0 k s i = some (nameGo (s.data.toList.drop i) false) := by
  intro k
  induction k with
  | zero => intro i _ h; omega
  | succ k ih =>
    intro i hi hk
    rw [jobshellref01_Name.l0]
    by_cases h : i < s.size
    · obtain ⟨c, hc, hb⟩ := bt_drop s i h
      rw [if_pos (by omega), if_pos (by omega), wrap_succ (by omega), ih (i + 1) (by omega) (by omega), hc, hb, word_eq]
      simp only [Option.bind_some, nameGo]
      split <;> rfl
    · rw [if_neg (by omega), List.drop_eq_nil_of_le (by simp; omega)]; rfl
theorem name_eq (s : ByteArray) {k : Nat} (hk : 1000 ≤ k) : jobshellref01_Name.f k s = chars_Name.f s := by
  unfold jobshellref01_Name.f chars_Name.f
  obtain ⟨m, rfl⟩ := succ_of (show 0 < k by omega)
  by_cases h0 : s.size = 0
  · rw [if_pos ((nil_iff s).2 h0), if_pos h0]; rfl
  · rw [if_neg (fun h => h0 ((nil_iff s).1 h)), if_neg h0]
    by_cases h1 : 32 < s.size
    · rw [if_pos (by omega), if_pos h1]; rfl
    · rw [if_neg (by omega), if_neg h1, if_pos (by omega), digit_eq, Option.bind_some]
      obtain ⟨c, hc, hb⟩ := bt_drop s 0 (by omega)
      have hb' : bt s 0 = (c.toNat : Int) := hb
      rw [List.drop_zero] at hc
      obtain ⟨r, hr⟩ : ∃ r, s.data.toList = c :: r := ⟨_, hc⟩
      clear hc
      rw [jobshellref01_Name.j0, hb', hr]
      by_cases hd : isDig (c.toNat : Int) = true
      · rw [if_pos hd]
        have hl : isLet (c.toNat : Int) = false := by unfold isDig at hd; unfold isLet; simp at hd ⊢; omega
        have h95 : ((c.toNat : Int) == 95) = false := by unfold isDig at hd; simp at hd ⊢; omega
        simp only [nameGo, nameCh, hl, h95, Bool.not_true, Bool.false_and, Bool.or_false, Bool.false_eq_true, if_false]
      · rw [if_neg hd, show (0 : Int) = ((0 : Nat) : Int) from rfl, name_go s (by omega) m 0 (by omega) (by omega), List.drop_zero, hr]
        have hd' : isDig (c.toNat : Int) = false := by simpa using hd
        simp only [nameGo, nameCh, hd', Bool.and_false, Bool.or_false]
theorem dig_none : ∀ (l : List UInt8) (n : Int), digGo l n = none ∨ ∃ m, digGo l n = some m := by
  intro l n; cases digGo l n with
  | none => exact .inl rfl
  | some m => exact .inr ⟨m, rfl⟩
theorem dig_go (s : ByteArray) (hl : s.size ≤ 10) : ∀ (k i : Nat) (n : Int), i ≤ s.size → s.size - i < k → 0 ≤ n → n < 10 ^ i → jobshellref01_Digits.l0 k s n i = some (match digGo (s.data.toList.drop i) n with | none => (0, false) | some n => if n > 2147483647 then (0, false) else (n, true)) := by
  intro k
  induction k with
  | zero => intro i n _ h; omega
  | succ k ih =>
    intro i n hi hk hn0 hn1
    rw [jobshellref01_Digits.l0]
    by_cases h : i < s.size
    · obtain ⟨c, hc, hb⟩ := bt_drop s i h
      have hp : n < 10000000000 := by
        have : (10 : Int) ^ i ≤ 10 ^ 10 := by
          have := Nat.pow_le_pow_right (show 0 < 10 by omega) (show i ≤ 10 by omega)
          exact_mod_cast this
        omega
      have hc255 : c.toNat < 256 := c.toNat_lt
      rw [if_pos (by omega), if_pos (by omega), wrap_succ (by omega), hc, hb, digit_eq, Option.bind_some]
      by_cases hd : isDig (c.toNat : Int) = true
      · have hd2 : 48 ≤ (c.toNat : Int) ∧ (c.toNat : Int) ≤ 57 := by unfold isDig at hd; simpa using hd
        rw [if_pos hd, wrap_id (i := 10 * n) (by omega) (by omega), Int.emod_eq_of_lt (by omega) (by omega), wrap_id (by omega) (by omega)]
        rw [ih (i + 1) _ (by omega) (by omega) (by omega) (by rw [Int.pow_succ]; omega)]
        simp only [digGo, if_pos hd2]
      · rw [if_neg hd]
        have hd2 : ¬ (48 ≤ (c.toNat : Int) ∧ (c.toNat : Int) ≤ 57) := by unfold isDig at hd; simpa using hd
        simp only [digGo, if_neg hd2]
    · rw [if_neg (by omega), List.drop_eq_nil_of_le (by simp; omega)]
      simp only [digGo]
      split <;> rfl
theorem digits_eq (s : ByteArray) {k : Nat} (hk : 1000 ≤ k) : jobshellref01_Digits.f k s = chars_Digits.f s := by
  unfold jobshellref01_Digits.f chars_Digits.f
  obtain ⟨m, rfl⟩ := succ_of (show 0 < k by omega)
  by_cases h0 : s.size = 0
  · rw [if_pos ((nil_iff s).2 h0), if_pos h0]; rfl
  · rw [if_neg (fun h => h0 ((nil_iff s).1 h)), if_neg h0]
    by_cases h1 : 10 < s.size
    · rw [if_pos (by omega), if_pos h1]; rfl
    · have hgo := dig_go s (by omega) m 0 0 (by omega) (by omega) (by omega) (by simp)
      rw [List.drop_zero] at hgo
      rw [if_neg (by omega), if_neg h1, if_pos (by omega)]
      by_cases h2 : bt s 0 = 48
      · by_cases h3 : 1 < s.size
        · rw [if_pos h2, if_pos ⟨h3, h2⟩, decide_eq_true (by omega)]; rfl
        · rw [if_pos h2, if_neg (fun h => h3 h.1), decide_eq_false (by omega), jobshellref01_Digits.j0, if_neg (by simp)]
          exact hgo
      · rw [if_neg h2, if_neg (fun h => h2 h.2), jobshellref01_Digits.j0, if_neg (by simp)]
        exact hgo
def posOf (s : ByteArray) : Int := match chars_Digits.f s with | some (n, true) => n | _ => 0
theorem digits_some (s : ByteArray) : ∃ p, chars_Digits.f s = some p ∧ (p.2 = true → 0 ≤ p.1 ∧ p.1 ≤ 2147483647 ∧ 0 < s.size ∧ (bt s 0 = 48 → p.1 = 0)) := by
  unfold chars_Digits.f
  split
  · exact ⟨_, rfl, fun h => by cases h⟩
  split
  · exact ⟨_, rfl, fun h => by cases h⟩
  split
  · exact ⟨_, rfl, fun h => by cases h⟩
  rename_i h0 h1 h2
  cases hg : digGo s.data.toList 0 with
  | none => exact ⟨_, rfl, fun h => by cases h⟩
  | some n =>
    simp only
    split
    · exact ⟨_, rfl, fun h => by cases h⟩
    · refine ⟨_, rfl, fun _ => ⟨?_, by omega, by omega, fun hz => ?_⟩⟩
      · have : ∀ (l : List UInt8) (a b : Int), 0 ≤ a → digGo l a = some b → 0 ≤ b := by
          intro l
          induction l with
          | nil => intro a b h e; obtain rfl := Option.some.inj e; exact h
          | cons c r ih =>
            intro a b h e
            simp only [digGo] at e
            split at e
            · exact ih _ _ (by omega) e
            · cases e
        exact this _ _ _ (by omega) hg
      · have h3 : s.size = 1 := by omega
        obtain ⟨c, hc, hb⟩ := bt_drop s 0 (by omega)
        rw [List.drop_zero, List.drop_eq_nil_of_le (i := 0 + 1) (by simp; omega)] at hc
        have hb' : bt s 0 = (c.toNat : Int) := hb
        rw [hc] at hg
        simp only [digGo] at hg
        split at hg
        · have := Option.some.inj hg; omega
        · cases hg
theorem positional_eq (s : ByteArray) {k : Nat} (hk : 1000 ≤ k) : jobshellref17_positional.f k s = some (posOf s) := by
  unfold jobshellref17_positional.f posOf
  rw [digits_eq s hk]
  obtain ⟨⟨n, b⟩, hp, hh⟩ := digits_some s
  rw [hp, Option.bind_some]
  cases b with
  | false => rfl
  | true =>
    obtain ⟨h0, h1, h2, h3⟩ := hh rfl
    simp only [if_true]
    simp only at h0 h1 h3
    by_cases h4 : n < 1
    · rw [if_pos h4]; congr 1; omega
    · rw [if_neg h4, if_neg (by omega), if_pos (by omega), if_neg (fun h => by have := h3 h; omega)]
theorem position_eq (s : ByteArray) : ∃ n b, param_position.f s = some (n, b) ∧ (b = true → n = posOf s ∧ 0 < n ∧ n ≤ 2147483647) ∧ (b = false → posOf s = 0) := by
  unfold param_position.f posOf
  obtain ⟨⟨n, b⟩, hp, hh⟩ := digits_some s
  rw [hp, Option.bind_some]
  cases b with
  | false => exact ⟨_, _, rfl, (fun h => by cases h), fun _ => rfl⟩
  | true =>
    obtain ⟨h0, h1, h2, h3⟩ := hh rfl
    simp only at h0 h1
    refine ⟨n, decide (n > 0), rfl, fun h => ⟨rfl, of_decide_eq_true h, h1⟩, fun h => ?_⟩
    have := of_decide_eq_false h
    show n = 0
    omega
theorem pos_range (s : ByteArray) : 0 ≤ posOf s ∧ posOf s ≤ 2147483647 := by
  obtain ⟨n, b, _, h1, h2⟩ := position_eq s
  cases b with
  | false => rw [h2 rfl]; omega
  | true => obtain ⟨e, h3, h4⟩ := h1 rfl; omega
end Go.Proofs.YtiacdccnifjcjaaDoor.Pure
set_option linter.unusedVariables false
set_option linter.unusedSimpArgs false
namespace Go.Proofs.YtiacdccnifjcjaaDoor.Pure
open Go.RowKit Go.Proofs.YtiacdccnifjcjaaDoor.F Go.Proofs.YtiacdccnifjcjaaDoorW.PrintWords
theorem one_num (d : Nat) (h : d < 10) : strOfNums [(IntKind.u64.wrap (48 + (d : Int))) % 256] = ba [UInt8.ofNat (48 + d)] := by
  rw [IntWalk.u64_in _ ⟨by omega, by omega⟩, Int.emod_eq_of_lt (by omega) (by omega)]
  unfold strOfNums ba
  simp only [List.map_cons, List.map_nil]
  rw [show (48 + (d : Int)).toNat = 48 + d by omega]
theorem digits_go : ∀ (n : Nat) (f k : Nat) (acc : List UInt8), n < 10 ^ f → f < 21 → acc.length + f ≤ 100 → n ≤ 18446744073709551615 → f + 1 ≤ k → jobshellref05_digits.l0 k (n : Int) (ba acc) = some (ba (Lib.decDigits n ++ acc)) := by
  intro n
  induction n using Nat.strongRecOn with
  | _ n ih =>
    intro f k acc hf hf2 ha hn hk
    obtain ⟨m, rfl⟩ : ∃ m, k = m + 1 := ⟨k - 1, by omega⟩
    rw [jobshellref05_digits.l0]
    by_cases h : n < 10
    · rw [if_neg (by omega), Option.bind_some, one_num n h, ba_append, ba_size, ba_size, if_pos (by simp; omega), Lib.decDigits_one h]
    · obtain ⟨g, rfl⟩ : ∃ g, f = g + 1 := by
        cases f with
        | zero => simp at hf; omega
        | succ g => exact ⟨g, rfl⟩
      have hg : n / 10 < 10 ^ g := by rw [Nat.pow_succ] at hf; omega
      rw [if_pos (by omega), Option.bind_some, Int.tmod_eq_emod_of_nonneg (by omega), Int.tdiv_eq_ediv_of_nonneg (by omega)]
      rw [show ((n : Int) % 10) = ((n % 10 : Nat) : Int) by omega, show ((n : Int) / 10) = ((n / 10 : Nat) : Int) by omega]
      rw [one_num (n % 10) (by omega), ba_append, ba_size, ba_size, if_pos (by simp; omega), IntWalk.u64_in _ ⟨by omega, by omega⟩]
      rw [ih (n / 10) (by omega) g m _ hg (by omega) (by simp; omega) (by omega) (by omega)]
      have e : Lib.decDigits n = Lib.decDigits (n / 10) ++ [UInt8.ofNat (48 + n % 10)] := by rw [Lib.decDigits, dif_neg h]
      rw [e, List.append_assoc]
theorem digits05 (n : Nat) (hn : n ≤ 18446744073709551615) {k : Nat} (hk : 100 ≤ k) : jobshellref05_digits.f k (n : Int) = some (ba (Lib.decDigits n)) := by
  have := digits_go n 20 k [] (by omega) (by omega) (by simp) hn (by omega)
  rw [List.append_nil] at this
  exact this
theorem decimal_eq (n : Int) (h0 : -9223372036854775808 ≤ n) (h1 : n ≤ 9223372036854775807) {k : Nat} (hk : 100 ≤ k) : jobshellref05_Decimal.f k n = some (ba (Lib.itoa n)) := by
  unfold jobshellref05_Decimal.f
  by_cases h : n < 0
  · rw [if_pos h]
    have e1 : wrap64 (-(wrap64 (n + 1))) = -(n + 1) := by rw [wrap_id (i := n + 1) (by omega) (by omega), wrap_id (by omega) (by omega)]
    have e2 : IntKind.u64.wrap (IntKind.u64.wrap (-(n + 1)) + 1) = (n.natAbs : Int) := by
      rw [IntWalk.u64_in (-(n + 1)) ⟨by omega, by omega⟩, IntWalk.u64_in _ ⟨by omega, by omega⟩]; omega
    have hl := Lib.decDigits_length n.natAbs
    have hl2 : Lib.nDigits n.natAbs ≤ 100 := by
      have := Lib.nDigits_unique
      have h3 : ∀ (f u : Nat), u < 10 ^ f → 1 ≤ f → Lib.nDigits u ≤ f := by
        intro f
        induction f with
        | zero => intro u _ h; omega
        | succ f ihf =>
          intro u hu _
          by_cases h10 : u < 10
          · rw [Lib.nDigits_small h10]; omega
          · rw [Lib.nDigits_big h10]
            have hf0 : 1 ≤ f := by
              cases f with
              | zero => simp at hu; omega
              | succ f => omega
            have := ihf (u / 10) (by rw [Nat.pow_succ] at hu; omega) hf0
            omega
      have := h3 20 n.natAbs (by omega) (by omega)
      omega
    rw [e1, e2, digits05 n.natAbs (by omega) hk, Option.bind_some, ba_size, if_pos (by omega)]
    have e3 : Lib.itoa n = 45 :: Lib.decDigits n.natAbs := by unfold Lib.itoa; rw [if_pos h]
    rw [e3]
    exact congrArg some (ba_append [45] (Lib.decDigits n.natAbs))
  · rw [if_neg h]
    obtain ⟨m, rfl⟩ : ∃ m : Nat, n = m := ⟨n.toNat, by omega⟩
    rw [IntWalk.u64_in _ ⟨by omega, by omega⟩, digits05 m (by omega) hk, Option.bind_some, Lib.itoa_nonneg]
theorem itoa_eq (n : Int) (h0 : -9223372036854775808 ≤ n) (h1 : n ≤ 9223372036854775807) : strconv_Itoa.f n = some (ba (Lib.itoa n)) := by
  unfold strconv_Itoa.f; rw [if_pos ⟨h0, h1⟩]; rfl
theorem flags_eq (o : Int) {k : Nat} (hk : 20 ≤ k) : jobshellref17_Flags.f k o = param_flags.f o := by
  obtain ⟨m, rfl⟩ : ∃ m, k = m + 9 := ⟨k - 9, by omega⟩
  unfold jobshellref17_Flags.f param_flags.f
  have step : ∀ (i : Nat) (b : Int) (c : UInt8) (q : Nat) (acc : List UInt8), i < 8 → acc.length ≤ 100 → rd [32, 128, 1, 8, 64, 16, 2, 4] (i : Int) = b → (⟨#[97, 67, 101, 102, 109, 110, 117, 120]⟩ : ByteArray).extract i (i + 1) = ba [c] →
      jobshellref17_Flags.l0 (q + 1) o (⟨#[97, 67, 101, 102, 109, 110, 117, 120]⟩ : ByteArray) [32, 128, 1, 8, 64, 16, 2, 4] (ba acc) (i : Int) =
      jobshellref17_Flags.l0 q o (⟨#[97, 67, 101, 102, 109, 110, 117, 120]⟩ : ByteArray) [32, 128, 1, 8, 64, 16, 2, 4] (ba (acc ++ if Go.bits .and .i64 o b = 0 then [] else [c])) ((i + 1 : Nat) : Int) := by
    intro i b c q acc hi ha hb hc
    have hsz : ((⟨#[97, 67, 101, 102, 109, 110, 117, 120]⟩ : ByteArray).size : Int) = 8 := rfl
    rw [jobshellref17_Flags.l0, if_pos (by simp; omega), if_pos (by omega), hb, wrap_succ (by omega)]
    by_cases h : Go.bits .and .i64 o b = 0
    · rw [if_pos h, if_pos h, List.append_nil]
    · rw [if_neg h, if_neg h, if_pos (by omega), if_pos (by omega), Int.toNat_natCast, Int.toNat_natCast, hc, ba_size, ba_size, if_pos (by simp; omega), ba_append]
  have e0 : (⟨#[]⟩ : ByteArray) = ba [] := rfl
  have len1 : ∀ (c : UInt8) (b : Int), (if Go.bits .and .i64 o b = 0 then [] else [c]).length ≤ 1 := by intro c b; split <;> simp
  rw [e0, show (0 : Int) = ((0 : Nat) : Int) from rfl]
  rw [step 0 32 97 _ _ (by omega) (by simp) rfl (by decide +kernel)]
  rw [step 1 128 67 _ _ (by omega) (by have := len1 97 32; simp only [List.length_append, List.length_nil]; omega) rfl (by decide +kernel)]
  rw [step 2 1 101 _ _ (by omega) (by have := len1 97 32; have := len1 67 128; simp only [List.length_append, List.length_nil]; omega) rfl (by decide +kernel)]
  rw [step 3 8 102 _ _ (by omega) (by have := len1 97 32; have := len1 67 128; have := len1 101 1; simp only [List.length_append, List.length_nil]; omega) rfl (by decide +kernel)]
  rw [step 4 64 109 _ _ (by omega) (by have := len1 97 32; have := len1 67 128; have := len1 101 1; have := len1 102 8; simp only [List.length_append, List.length_nil]; omega) rfl (by decide +kernel)]
  rw [step 5 16 110 _ _ (by omega) (by have := len1 97 32; have := len1 67 128; have := len1 101 1; have := len1 102 8; have := len1 109 64; simp only [List.length_append, List.length_nil]; omega) rfl (by decide +kernel)]
  rw [step 6 2 117 _ _ (by omega) (by have := len1 97 32; have := len1 67 128; have := len1 101 1; have := len1 102 8; have := len1 109 64; have := len1 110 16; simp only [List.length_append, List.length_nil]; omega) rfl (by decide +kernel)]
  rw [step 7 4 120 _ _ (by omega) (by have := len1 97 32; have := len1 67 128; have := len1 101 1; have := len1 102 8; have := len1 109 64; have := len1 110 16; have := len1 117 2; simp only [List.length_append, List.length_nil]; omega) rfl (by decide +kernel)]
  rw [jobshellref17_Flags.l0, if_neg (by simp)]
  have fl : ∀ (x : Int × UInt8) (r : List (Int × UInt8)), flagsOf o (x :: r) = (if Go.bits .and .i64 o x.1 = 0 then [] else [x.2]) ++ flagsOf o r := by
    intro x r; simp only [flagsOf]; split <;> rfl
  show some (ba _) = some (ba (flagsOf o flagTab))
  unfold flagTab
  rw [fl, fl, fl, fl, fl, fl, fl, fl]
  simp only [List.nil_append, List.append_assoc, flagsOf, List.append_nil]
theorem ba_add (a : List UInt8) (s : ByteArray) : ba a ++ s = ba (a ++ s.data.toList) := by
  rw [← ba_append, ba_of]
theorem join_go (sep : ByteArray) (xs : List ByteArray) (hl : xs.length ≤ 20) (hx : ∀ x ∈ xs, x.size ≤ 500) (hsep : sep.size ≤ 1) :
    ∀ (d i k : Nat) (acc : List UInt8), i + d = xs.length → 0 < i → acc.length ≤ i * 501 → d < k → jobshellref17_Join.l0 k xs sep (ba acc) i = some (ba (acc ++ joinTail sep (xs.drop i))) := by
  intro d
  induction d with
  | zero =>
    intro i k acc hi h0 ha hk
    obtain ⟨m, rfl⟩ : ∃ m, k = m + 1 := ⟨k - 1, by omega⟩
    rw [jobshellref17_Join.l0, if_neg (by omega), List.drop_eq_nil_of_le (by omega)]
    simp [joinTail]
  | succ d ih =>
    intro i k acc hi h0 ha hk
    obtain ⟨m, rfl⟩ : ∃ m, k = m + 1 := ⟨k - 1, by omega⟩
    have hd : xs.drop i = rdOf ByteArray.empty xs (i : Int) :: xs.drop (i + 1) := getD_drop _ xs i (by omega)
    have hm := hx _ (List.mem_of_mem_drop (hd ▸ List.mem_cons_self) : rdOf ByteArray.empty xs (i : Int) ∈ xs)
    have hsd := size_data sep
    have hxd := size_data (rdOf ByteArray.empty xs (i : Int))
    rw [jobshellref17_Join.l0, if_pos (by omega), if_pos (by omega), ba_size, if_pos (by omega), if_pos (by omega), ba_add, ba_size, List.length_append, if_pos (by omega), ba_add, wrap_succ (by omega)]
    rw [ih (i + 1) m _ (by omega) (by omega) (by simp only [List.length_append]; omega) (by omega), hd]
    simp only [joinTail, List.append_assoc]
theorem join_len (sep : ByteArray) (xs : List ByteArray) (hl : xs.length ≤ 20) (hx : ∀ x ∈ xs, x.size ≤ 500) (hsep : sep.size ≤ 1) : (joinGo sep xs).length ≤ 20000 := by
  have key : ∀ ys : List ByteArray, (∀ x ∈ ys, x.size ≤ 500) → (joinTail sep ys).length ≤ ys.length * 501 := by
    intro ys
    induction ys with
    | nil => intro _; simp [joinTail]
    | cons y r ih =>
      intro h
      have h1 := h y List.mem_cons_self
      have h2 := ih (fun x hx => h x (List.mem_cons_of_mem _ hx))
      simp only [joinTail, List.length_append, List.length_cons, size_data]
      omega
  cases xs with
  | nil => simp [joinGo]
  | cons x r =>
    have h1 := hx x List.mem_cons_self
    have h2 := key r (fun y hy => hx y (List.mem_cons_of_mem _ hy))
    simp only [joinGo, List.length_append, size_data]
    simp only [List.length_cons] at hl
    omega
theorem join_eq (sep : ByteArray) (xs : List ByteArray) (hl : xs.length ≤ 20) (hx : ∀ x ∈ xs, x.size ≤ 500) (hsep : sep.size ≤ 1) {k : Nat} (hk : 100 ≤ k) :
    strings_Join.f xs sep = some (ba (joinGo sep xs)) ∧ jobshellref17_Join.f k xs sep = some (ba (joinGo sep xs)) := by
  refine ⟨by unfold strings_Join.f; rw [if_pos (by have := join_len sep xs hl hx hsep; omega)]; rfl, ?_⟩
  obtain ⟨m, rfl⟩ : ∃ m, k = m + 1 := ⟨k - 1, by omega⟩
  unfold jobshellref17_Join.f
  rw [jobshellref17_Join.l0]
  cases xs with
  | nil => rw [if_neg (by simp)]; rfl
  | cons x r =>
    have h1 := hx x List.mem_cons_self
    have e0 : rdOf ByteArray.empty (x :: r) 0 = x := rfl
    have hxd := size_data x
    rw [if_pos (by simp), if_neg (by omega), if_pos (by omega), e0, show (⟨#[]⟩ : ByteArray) = ba [] from rfl, ba_size, if_pos (by simp; omega), ba_add, show wrap64 (0 + 1) = ((1 : Nat) : Int) by rw [wrap_id (by omega) (by omega)]; rfl]
    rw [join_go sep (x :: r) hl hx hsep r.length 1 m _ (by simp; omega) (by omega) (by simp; omega) (by simp at hl; omega)]
    simp [joinGo]
theorem sep_eq (vs : List S_Var) (hl : vs.length ≤ 20) {k : Nat} (hk : 1000 ≤ k) : ∃ s, param_separator.f k vs = some s ∧ jobshellref17_Glue.f k vs = some s ∧ s.size ≤ 1 := by
  unfold param_separator.f jobshellref17_Glue.f
  simp only [vars_get _ vs (show vs.length < 1000 by omega) hk, ref_get _ vs (show vs.length < 1000 by omega) hk, Option.bind_some]
  generalize getGo (⟨#[73, 70, 83]⟩ : ByteArray) vs = g
  by_cases h1 : g.2.2.1 = true
  · rw [if_pos h1]
    by_cases h2 : g.2.1.size = 0
    · rw [if_pos ((nil_iff _).2 h2)]; exact ⟨_, rfl, rfl, by decide⟩
    · have h2' : ¬ g.2.1.toList = ([] : List UInt8) := fun e => h2 ((nil_iff _).1 e)
      rw [if_neg h2', if_pos (by omega), if_pos (by omega)]
      exact ⟨_, rfl, rfl, by rw [ByteArray.size_extract]; omega⟩
  · rw [if_neg h1]; exact ⟨_, rfl, rfl, by decide⟩
end Go.Proofs.YtiacdccnifjcjaaDoor.Pure
set_option linter.unusedVariables false
set_option linter.unusedSimpArgs false
namespace Go.Proofs.YtiacdccnifjcjaaDoor.Pure
open Go.RowKit Go.Proofs.YtiacdccnifjcjaaDoor.F Go.Proofs.YtiacdccnifjcjaaDoorW.PrintWords
structure Few (vs : List S_Var) (ps : List ByteArray) : Prop where
  vars : vs.length ≤ 20
  params : ps.length ≤ 20
  sizes : ∀ x ∈ ps, x.size ≤ 500
theorem wf_i64 {a : Int} (h : (Lit.int .i64 a).wf = true) : -9223372036854775808 ≤ a ∧ a ≤ 9223372036854775807 := by
  simp only [Lit.wf, Bool.and_eq_true, decide_eq_true_eq] at h
  exact ⟨h.1, h.2⟩
theorem of_bytes {s : ByteArray} {l : List UInt8} (h : s.toList = l) : s = ba l := by
  rw [Lib.toList_data] at h; rw [← h, ba_of]
theorem getGo_ok (nm : ByteArray) (vs : List S_Var) : (getGo nm vs).2.2.2.2.2 = false → (getGo nm vs).2.2.1 = false := by
  induction vs with
  | nil => intro _; rfl
  | cons v r ih =>
    intro h
    by_cases hn : v.f0.toList = nm.toList
    · rw [getGo, if_pos hn] at h; cases h
    · rw [getGo, if_neg hn] at h ⊢; exact ih h
theorem pos_name (s : ByteArray) (h : posOf s ≠ 0) : chars_Name.f s = some false := by
  obtain ⟨⟨n, b⟩, hp, hh⟩ := digits_some s
  unfold posOf at h
  rw [hp] at h
  cases b with
  | false => exact absurd rfl h
  | true =>
    obtain ⟨_, _, h2, _⟩ := hh rfl
    unfold chars_Name.f
    rw [if_neg (by omega)]
    split
    · rfl
    · unfold chars_Digits.f at hp
      obtain ⟨c, hc, _⟩ := bt_drop s 0 h2
      rw [List.drop_zero] at hc
      obtain ⟨r, hr⟩ : ∃ r, s.data.toList = c :: r := ⟨_, hc⟩
      rw [if_neg (by omega)] at hp
      split at hp
      · cases hp
      split at hp
      · cases hp
      rw [hr] at hp ⊢
      simp only [digGo] at hp
      split at hp
      · cases hp
      · rename_i m hm
        split at hm
        · rename_i hd
          have hl : isLet (c.toNat : Int) = false := by unfold isLet; simp; omega
          have h95 : ((c.toNat : Int) == 95) = false := beq_eq_false_iff_ne.2 (by omega)
          simp only [nameGo, nameCh, hl, h95, Bool.not_true, Bool.false_and, Bool.or_false, Bool.false_eq_true, if_false]
        · cases hm
theorem spec_off (c : UInt8) (h : chars_Name.f (ba [c]) = some false) (hd : chars_Digits.f (ba [c]) = some (0, false) ∨ chars_Digits.f (ba [c]) = some (0, true)) : posOf (ba [c]) = 0 := by
  unfold posOf
  rcases hd with h | h <;> rw [h]
set_option maxHeartbeats 1000000 in
theorem value_eq (n0 : ByteArray) (vs : List S_Var) (ps : List ByteArray) (o3 : Opq) (al : List S_Alias) (tr : List S_Trap) (i6 i7 i8 i9 : Int) (s10 : ByteArray) (i11 i12 i13 : Int) (b14 : Bool) (nm : ByteArray)
    (hF : Few vs ps) (h7 : (Lit.int .i64 i7).wf = true) (h8 : (Lit.int .i64 i8).wf = true) (h9 : (Lit.int .i64 i9).wf = true) {k : Nat} (hk : 2000 ≤ k) :
    ∃ r, param_Value.f k n0 vs ps o3 al tr i6 i7 i8 i9 s10 i11 i12 i13 b14 nm = some r ∧ jobshellref17_Value.f k n0 vs ps o3 al tr i6 i7 i8 i9 s10 i11 i12 i13 b14 nm = some r := by
  obtain ⟨hv, hp, hsz⟩ := hF
  have nf : ¬ (false = true) := by decide
  obtain ⟨h7a, h7b⟩ := wf_i64 h7
  obtain ⟨h8a, h8b⟩ := wf_i64 h8
  obtain ⟨h9a, h9b⟩ := wf_i64 h9
  obtain ⟨m, rfl⟩ : ∃ m, k = m + 2 := ⟨k - 2, by omega⟩
  have R : jobshellref17_Value.f (m + 2) n0 vs ps o3 al tr i6 i7 i8 i9 s10 i11 i12 i13 b14 nm = ((chars_Name.f nm).bind fun t240 => (if t240 = true then (if (getGo nm vs).2.2.1 = true then (some ((getGo nm vs).2.1, true)) else (some ((⟨#[]⟩ : ByteArray), false))) else (jobshellref17_Value.j0 (m + 2) nm (posOf nm) (decide (0 < posOf nm) && decide (posOf nm ≤ (ps.length : Int))) n0 vs ps o3 al tr i6 i7 i8 i9 s10 i11 i12 i13 b14))) := by
    unfold jobshellref17_Value.f
    rw [positional_eq nm (by omega), Option.bind_some, name_eq nm (by omega), ref_get nm vs (by omega) (by omega)]
    congr 1; funext t
    simp only [Option.bind_some]
    cases t with
    | true => rfl
    | false =>
      simp only [Bool.false_eq_true, if_false]
      by_cases h : posOf nm > 0
      · rw [if_pos h, decide_eq_true (show 0 < posOf nm from h), Bool.true_and]
      · rw [if_neg h, decide_eq_false (show ¬ 0 < posOf nm from h), Bool.false_and]
  rw [R]
  clear R
  unfold param_Value.f
  have P : ∀ c : UInt8, chars_Name.f (ba [c]) = some false → posOf (ba [c]) = 0 → ((chars_Name.f (ba [c])).bind fun t240 => (if t240 = true then (if (getGo (ba [c]) vs).2.2.1 = true then (some ((getGo (ba [c]) vs).2.1, true)) else (some ((⟨#[]⟩ : ByteArray), false))) else (jobshellref17_Value.j0 (m + 2) (ba [c]) (posOf (ba [c])) (decide (0 < posOf (ba [c])) && decide (posOf (ba [c]) ≤ (ps.length : Int))) n0 vs ps o3 al tr i6 i7 i8 i9 s10 i11 i12 i13 b14)))
      = jobshellref17_Value.j0 (m + 2) (ba [c]) 0 false n0 vs ps o3 al tr i6 i7 i8 i9 s10 i11 i12 i13 b14 := by
    intro c h1 h2
    rw [h1, h2, Option.bind_some, if_neg nf]; rfl
  by_cases c0 : nm.toList = ([48] : List UInt8)
  · obtain rfl := of_bytes c0
    rw [if_pos c0, P 48 (by decide +kernel) (by decide +kernel), jobshellref17_Value.j0, if_neg nf, if_pos c0]
    exact ⟨_, rfl, rfl⟩
  by_cases c1 : nm.toList = ([35] : List UInt8)
  · obtain rfl := of_bytes c1
    rw [if_neg c0, if_pos c1, P 35 (by decide +kernel) (by decide +kernel), jobshellref17_Value.j0, if_neg nf, if_neg c0, if_pos c1, decimal_eq _ (by omega) (by omega) (by omega), itoa_eq _ (by omega) (by omega)]
    exact ⟨_, rfl, rfl⟩
  by_cases c2 : nm.toList = ([63] : List UInt8)
  · obtain rfl := of_bytes c2
    rw [if_neg c0, if_neg c1, if_pos c2, P 63 (by decide +kernel) (by decide +kernel), jobshellref17_Value.j0, if_neg nf, if_neg c0, if_neg c1, if_pos c2, decimal_eq _ (by omega) (by omega) (by omega), itoa_eq _ (by omega) (by omega)]
    exact ⟨_, rfl, rfl⟩
  by_cases c3 : nm.toList = ([45] : List UInt8)
  · obtain rfl := of_bytes c3
    rw [if_neg c0, if_neg c1, if_neg c2, if_pos c3, P 45 (by decide +kernel) (by decide +kernel), jobshellref17_Value.j0, if_neg nf, if_neg c0, if_neg c1, if_neg c2, if_pos c3, flags_eq _ (by omega)]
    exact ⟨_, rfl, rfl⟩
  by_cases c4 : nm.toList = ([36] : List UInt8)
  · obtain rfl := of_bytes c4
    rw [if_neg c0, if_neg c1, if_neg c2, if_neg c3, if_pos c4, P 36 (by decide +kernel) (by decide +kernel), jobshellref17_Value.j0, if_neg nf, if_neg c0, if_neg c1, if_neg c2, if_neg c3, if_pos c4, decimal_eq _ (by omega) (by omega) (by omega), itoa_eq _ (by omega) (by omega)]
    exact ⟨_, rfl, rfl⟩
  by_cases c5 : nm.toList = ([33] : List UInt8)
  · obtain rfl := of_bytes c5
    rw [if_neg c0, if_neg c1, if_neg c2, if_neg c3, if_neg c4, if_pos c5, P 33 (by decide +kernel) (by decide +kernel), jobshellref17_Value.j0, if_neg nf, if_neg c0, if_neg c1, if_neg c2, if_neg c3, if_neg c4, if_pos c5, jobshellref17_Value.j1]
    by_cases h : i9 = 0
    · rw [if_pos h, h, if_neg (show ¬ ((0 : Int) != 0) = true by decide), if_neg (show ¬ (ba [33]).toList = ([64] : List UInt8) by decide +kernel), if_neg (show ¬ (ba [33]).toList = ([42] : List UInt8) by decide +kernel)]; exact ⟨_, rfl, rfl⟩
    · rw [if_neg h, bne_iff_ne.2 h, if_pos rfl, decimal_eq _ (by omega) (by omega) (by omega), itoa_eq _ (by omega) (by omega)]; exact ⟨_, rfl, rfl⟩
  by_cases c6 : nm.toList = ([64] : List UInt8)
  · obtain rfl := of_bytes c6
    obtain ⟨j1, j2⟩ := join_eq (⟨#[32]⟩ : ByteArray) ps hp hsz (by decide) (k := m) (by omega)
    rw [if_neg c0, if_neg c1, if_neg c2, if_neg c3, if_neg c4, if_neg c5, if_pos c6, P 64 (by decide +kernel) (by decide +kernel), jobshellref17_Value.j0, if_neg nf, if_neg c0, if_neg c1, if_neg c2, if_neg c3, if_neg c4, if_neg c5, jobshellref17_Value.j1, if_neg nf, if_pos c6, j1, j2]
    exact ⟨_, rfl, rfl⟩
  by_cases c7 : nm.toList = ([42] : List UInt8)
  · obtain rfl := of_bytes c7
    obtain ⟨s, s1, _, s3⟩ := sep_eq vs hv (k := m + 2) (by omega)
    obtain ⟨s', _, s2', s3'⟩ := sep_eq vs hv (k := m) (by omega)
    have : s' = s := by
      have e1 := s1
      have e2 : param_separator.f m vs = some s' := by
        obtain ⟨u, u1, u2, _⟩ := sep_eq vs hv (k := m) (by omega)
        rw [u1]; rw [u2] at s2'; exact s2'
      have e3 := at_rounds (g := fun k => param_separator.f k vs) (fun k => param_separator.mono _ k) (show m ≤ m + 2 by omega) e2
      exact Option.some.inj (e3.symm.trans e1)
    subst this
    obtain ⟨j1, j2⟩ := join_eq s' ps hp hsz s3 (k := m) (by omega)
    rw [if_neg c0, if_neg c1, if_neg c2, if_neg c3, if_neg c4, if_neg c5, if_neg c6, if_pos c7, P 42 (by decide +kernel) (by decide +kernel), jobshellref17_Value.j0, if_neg nf, if_neg c0, if_neg c1, if_neg c2, if_neg c3, if_neg c4, if_neg c5, jobshellref17_Value.j1, if_neg nf, if_neg c6, if_pos c7, s1, s2', Option.bind_some, Option.bind_some, j1, j2]
    exact ⟨_, rfl, rfl⟩
  have last : ∀ n, jobshellref17_Value.j0 (m + 2) nm n false n0 vs ps o3 al tr i6 i7 i8 i9 s10 i11 i12 i13 b14 = some ((⟨#[]⟩ : ByteArray), false) := by
    intro n
    rw [jobshellref17_Value.j0, if_neg nf, if_neg c0, if_neg c1, if_neg c2, if_neg c3, if_neg c4, if_neg c5, jobshellref17_Value.j1, if_neg nf, if_neg c6, if_neg c7]
  rw [if_neg c0, if_neg c1, if_neg c2, if_neg c3, if_neg c4, if_neg c5, if_neg c6, if_neg c7]
  obtain ⟨n, b, e, e1, e2⟩ := position_eq nm
  rw [e, Option.bind_some]
  simp only
  cases b with
  | true =>
    obtain ⟨rfl, g1, g2⟩ := e1 rfl
    rw [if_pos (rfl : true = true), pos_name nm (by omega), Option.bind_some, if_neg nf, decide_eq_true g1, Bool.true_and]
    by_cases h : posOf nm > (ps.length : Int)
    · rw [if_pos h, decide_eq_false (by omega), last]; exact ⟨_, rfl, rfl⟩
    · rw [if_neg h, decide_eq_true (by omega), jobshellref17_Value.j0, if_pos rfl, wrap_id (by omega) (by omega), if_pos (by omega), if_pos (by omega)]
      exact ⟨_, rfl, rfl⟩
  | false =>
    rw [e2 rfl, if_neg nf, vars_get nm vs (by omega) (by omega), Option.bind_some]
    have hd : (decide ((0 : Int) < 0) && decide ((0 : Int) ≤ (ps.length : Int))) = false := rfl
    rw [hd, last]
    obtain ⟨t, ht⟩ : ∃ t, chars_Name.f nm = some t := by
      unfold chars_Name.f; split
      · exact ⟨_, rfl⟩
      split <;> exact ⟨_, rfl⟩
    rw [ht]
    simp only [Option.bind_some]
    have hok := getGo_ok nm vs
    generalize getGo nm vs = g at hok ⊢
    obtain ⟨g1, g2, g3, g4, g5, g6⟩ := g
    simp only at hok ⊢
    cases g6 <;> cases g3 <;> cases t <;> simp at hok ⊢
end Go.Proofs.YtiacdccnifjcjaaDoor.Pure
namespace Go.Proofs.YtiacdccnifjcjaaDoor.F
open Go.RowKit Go.Proofs.YtiacdccnifjcjaaDoorW.PrintWords Go.Proofs.YtiacdccnifjcjaaDoorW.PrintLast Go.Proofs.YtiacdccnifjcjaaDoorW.PrintMore
attribute [local go_sem] max2_int min2_int max_two min_two max_three min_three max_four min_four
set_option linter.unusedVariables false
set_option linter.unusedSimpArgs false
def jobshellref48_digit.f (a0 : Int) : Option (Bool) := if a0 ≥ 48 then (some (decide (a0 ≤ 57))) else (some false)
set_option maxHeartbeats 8000000 in
set_option maxRecDepth 100000 in
theorem jobshellref48_digit.calls (a0 : Int) (r : Bool) (w : World) (h : jobshellref48_digit.f a0 = some r) :
  Calls Tryd.prog 39 #[.int .u8 a0] w fun e w' => e = .returned (.bool r) ∧ Drawn0 w w' := by
 have H : (if a0 ≥ 48 then (some (decide (a0 ≤ 57))) else (some false)) = some r := h
 clear h
 by_cases c2 : a0 ≥ 48
 ·rw [if_pos c2] at H
  have c2b0 : decide (48 ≤ a0) = true := decide_eq_true c2
  clear c2
  obtain rfl := Option.some.inj H
  go_enter Tryd.func39, Tryd.ntmps39
  go_wp2
  go_ret
  exact ⟨by first | rfl | (simp; done) | (simp [*]; done), by repeat (first | exact Drawn0.refl _ | apply Drawn0.step)⟩
 ·rw [if_neg c2] at H
  have c2b0 : decide (48 ≤ a0) = false := decide_eq_false c2
  clear c2
  obtain rfl := Option.some.inj H
  go_enter Tryd.func39, Tryd.ntmps39
  go_wp2
  go_ret
  exact ⟨by first | rfl | (simp; done) | (simp [*]; done), by repeat (first | exact Drawn0.refl _ | apply Drawn0.step)⟩
end Go.Proofs.YtiacdccnifjcjaaDoor.F
namespace Go.Proofs.YtiacdccnifjcjaaDoor.F
open Go.RowKit Go.Proofs.YtiacdccnifjcjaaDoorW.PrintWords Go.Proofs.YtiacdccnifjcjaaDoorW.PrintLast Go.Proofs.YtiacdccnifjcjaaDoorW.PrintMore
attribute [local go_sem] max2_int min2_int max_two min_two max_three min_three max_four min_four
set_option linter.unusedVariables false
set_option linter.unusedSimpArgs false
def jobshellref48_special.f (a0 : Int) : Option (Bool) := if a0 = 64 then (some true) else (if a0 = 42 then (some true) else (if a0 = 35 then (some true) else (if a0 = 63 then (some true) else (if a0 = 45 then (some true) else (if a0 = 36 then (some true) else (some (a0 == 33)))))))
set_option maxHeartbeats 8000000 in
set_option maxRecDepth 100000 in
theorem jobshellref48_special.calls (a0 : Int) (r : Bool) (w : World) (h : jobshellref48_special.f a0 = some r) :
  Calls Tryd.prog 40 #[.int .u8 a0] w fun e w' => e = .returned (.bool r) ∧ Drawn0 w w' := by
 have H : (if a0 = 64 then (some true) else (if a0 = 42 then (some true) else (if a0 = 35 then (some true) else (if a0 = 63 then (some true) else (if a0 = 45 then (some true) else (if a0 = 36 then (some true) else (some (a0 == 33)))))))) = some r := h
 clear h
 by_cases c2 : a0 = 64
 ·rw [if_pos c2] at H
  have c2b0 : (a0 == 64) = true := beq_iff_eq.mpr c2
  have c2b1 : (a0 != 64) = false := bne_eq_false_iff_eq.mpr c2
  clear c2
  obtain rfl := Option.some.inj H
  go_enter Tryd.func40, Tryd.ntmps40
  go_wp2
  go_ret
  exact ⟨by first | rfl | (simp; done) | (simp [*]; done), by repeat (first | exact Drawn0.refl _ | apply Drawn0.step)⟩
 ·rw [if_neg c2] at H
  have c2b0 : (a0 == 64) = false := beq_eq_false_iff_ne.mpr c2
  have c2b1 : (a0 != 64) = true := bne_iff_ne.mpr c2
  by_cases c3 : a0 = 42
  ·rw [if_pos c3] at H
   have c3b0 : (a0 == 42) = true := beq_iff_eq.mpr c3
   have c3b1 : (a0 != 42) = false := bne_eq_false_iff_eq.mpr c3
   clear c3
   obtain rfl := Option.some.inj H
   go_enter Tryd.func40, Tryd.ntmps40
   go_wp2
   go_ret
   exact ⟨by first | rfl | (simp; done) | (simp [*]; done), by repeat (first | exact Drawn0.refl _ | apply Drawn0.step)⟩
  ·rw [if_neg c3] at H
   have c3b0 : (a0 == 42) = false := beq_eq_false_iff_ne.mpr c3
   have c3b1 : (a0 != 42) = true := bne_iff_ne.mpr c3
   by_cases c4 : a0 = 35
   ·rw [if_pos c4] at H
    have c4b0 : (a0 == 35) = true := beq_iff_eq.mpr c4
    have c4b1 : (a0 != 35) = false := bne_eq_false_iff_eq.mpr c4
    clear c4
    obtain rfl := Option.some.inj H
    go_enter Tryd.func40, Tryd.ntmps40
    go_wp2
    go_ret
    exact ⟨by first | rfl | (simp; done) | (simp [*]; done), by repeat (first | exact Drawn0.refl _ | apply Drawn0.step)⟩
   ·rw [if_neg c4] at H
    have c4b0 : (a0 == 35) = false := beq_eq_false_iff_ne.mpr c4
    have c4b1 : (a0 != 35) = true := bne_iff_ne.mpr c4
    by_cases c5 : a0 = 63
    ·rw [if_pos c5] at H
     have c5b0 : (a0 == 63) = true := beq_iff_eq.mpr c5
     have c5b1 : (a0 != 63) = false := bne_eq_false_iff_eq.mpr c5
     clear c5
     obtain rfl := Option.some.inj H
     go_enter Tryd.func40, Tryd.ntmps40
     go_wp2
     go_ret
     exact ⟨by first | rfl | (simp; done) | (simp [*]; done), by repeat (first | exact Drawn0.refl _ | apply Drawn0.step)⟩
    ·rw [if_neg c5] at H
     have c5b0 : (a0 == 63) = false := beq_eq_false_iff_ne.mpr c5
     have c5b1 : (a0 != 63) = true := bne_iff_ne.mpr c5
     by_cases c6 : a0 = 45
     ·rw [if_pos c6] at H
      have c6b0 : (a0 == 45) = true := beq_iff_eq.mpr c6
      have c6b1 : (a0 != 45) = false := bne_eq_false_iff_eq.mpr c6
      clear c6
      obtain rfl := Option.some.inj H
      go_enter Tryd.func40, Tryd.ntmps40
      go_wp2
      go_ret
      exact ⟨by first | rfl | (simp; done) | (simp [*]; done), by repeat (first | exact Drawn0.refl _ | apply Drawn0.step)⟩
     ·rw [if_neg c6] at H
      have c6b0 : (a0 == 45) = false := beq_eq_false_iff_ne.mpr c6
      have c6b1 : (a0 != 45) = true := bne_iff_ne.mpr c6
      by_cases c7 : a0 = 36
      ·rw [if_pos c7] at H
       have c7b0 : (a0 == 36) = true := beq_iff_eq.mpr c7
       have c7b1 : (a0 != 36) = false := bne_eq_false_iff_eq.mpr c7
       clear c7
       obtain rfl := Option.some.inj H
       go_enter Tryd.func40, Tryd.ntmps40
       go_wp2
       go_ret
       exact ⟨by first | rfl | (simp; done) | (simp [*]; done), by repeat (first | exact Drawn0.refl _ | apply Drawn0.step)⟩
      ·rw [if_neg c7] at H
       have c7b0 : (a0 == 36) = false := beq_eq_false_iff_ne.mpr c7
       have c7b1 : (a0 != 36) = true := bne_iff_ne.mpr c7
       obtain rfl := Option.some.inj H
       go_enter Tryd.func40, Tryd.ntmps40
       go_wp2
       go_ret
       exact ⟨by first | rfl | (simp; done) | (simp [*]; done), by repeat (first | exact Drawn0.refl _ | apply Drawn0.step)⟩
end Go.Proofs.YtiacdccnifjcjaaDoor.F
namespace Go.Proofs.YtiacdccnifjcjaaDoor.F
open Go.RowKit Go.Proofs.YtiacdccnifjcjaaDoorW.PrintWords Go.Proofs.YtiacdccnifjcjaaDoorW.PrintLast Go.Proofs.YtiacdccnifjcjaaDoorW.PrintMore
attribute [local go_sem] max2_int min2_int max_two min_two max_three min_three max_four min_four
set_option linter.unusedVariables false
set_option linter.unusedSimpArgs false
def jobshellref48_letter.f (a0 : Int) : Option (Bool) := if a0 ≥ 97 then (if a0 ≤ 122 then (some true) else (if a0 ≥ 65 then (if a0 ≤ 90 then (some true) else (if a0 = 95 then (some true) else ((jobshellref48_digit.f a0).bind fun t231 => (some t231)))) else (if a0 = 95 then (some true) else ((jobshellref48_digit.f a0).bind fun t232 => (some t232))))) else (if a0 ≥ 65 then (if a0 ≤ 90 then (some true) else (if a0 = 95 then (some true) else ((jobshellref48_digit.f a0).bind fun t233 => (some t233)))) else (if a0 = 95 then (some true) else ((jobshellref48_digit.f a0).bind fun t234 => (some t234))))
set_option maxHeartbeats 8000000 in
set_option maxRecDepth 100000 in
theorem jobshellref48_letter.calls (a0 : Int) (r : Bool) (w : World) (h : jobshellref48_letter.f a0 = some r) :
  Calls Tryd.prog 41 #[.int .u8 a0] w fun e w' => e = .returned (.bool r) ∧ Drawn0 w w' := by
 have H : (if a0 ≥ 97 then (if a0 ≤ 122 then (some true) else (if a0 ≥ 65 then (if a0 ≤ 90 then (some true) else (if a0 = 95 then (some true) else ((jobshellref48_digit.f a0).bind fun t231 => (some t231)))) else (if a0 = 95 then (some true) else ((jobshellref48_digit.f a0).bind fun t232 => (some t232))))) else (if a0 ≥ 65 then (if a0 ≤ 90 then (some true) else (if a0 = 95 then (some true) else ((jobshellref48_digit.f a0).bind fun t233 => (some t233)))) else (if a0 = 95 then (some true) else ((jobshellref48_digit.f a0).bind fun t234 => (some t234))))) = some r := h
 clear h
 by_cases c2 : a0 ≥ 97
 ·rw [if_pos c2] at H
  have c2b0 : decide (97 ≤ a0) = true := decide_eq_true c2
  clear c2
  by_cases c3 : a0 ≤ 122
  ·rw [if_pos c3] at H
   have c3b0 : decide (a0 ≤ 122) = true := decide_eq_true c3
   clear c3
   obtain rfl := Option.some.inj H
   go_enter Tryd.func41, Tryd.ntmps41
   go_wp2
   go_ret
   exact ⟨by first | rfl | (simp; done) | (simp [*]; done), by repeat (first | exact Drawn0.refl _ | apply Drawn0.step)⟩
  ·rw [if_neg c3] at H
   have c3b0 : decide (a0 ≤ 122) = false := decide_eq_false c3
   clear c3
   by_cases c4 : a0 ≥ 65
   ·rw [if_pos c4] at H
    have c4b0 : decide (65 ≤ a0) = true := decide_eq_true c4
    clear c4
    by_cases c5 : a0 ≤ 90
    ·rw [if_pos c5] at H
     have c5b0 : decide (a0 ≤ 90) = true := decide_eq_true c5
     clear c5
     obtain rfl := Option.some.inj H
     go_enter Tryd.func41, Tryd.ntmps41
     go_wp2
     go_ret
     exact ⟨by first | rfl | (simp; done) | (simp [*]; done), by repeat (first | exact Drawn0.refl _ | apply Drawn0.step)⟩
    ·rw [if_neg c5] at H
     have c5b0 : decide (a0 ≤ 90) = false := decide_eq_false c5
     clear c5
     by_cases c6 : a0 = 95
     ·rw [if_pos c6] at H
      have c6b0 : (a0 == 95) = true := beq_iff_eq.mpr c6
      have c6b1 : (a0 != 95) = false := bne_eq_false_iff_eq.mpr c6
      clear c6
      obtain rfl := Option.some.inj H
      go_enter Tryd.func41, Tryd.ntmps41
      go_wp2
      go_ret
      exact ⟨by first | rfl | (simp; done) | (simp [*]; done), by repeat (first | exact Drawn0.refl _ | apply Drawn0.step)⟩
     ·rw [if_neg c6] at H
      have c6b0 : (a0 == 95) = false := beq_eq_false_iff_ne.mpr c6
      have c6b1 : (a0 != 95) = true := bne_iff_ne.mpr c6
      replace H := Option.bind_eq_some_iff.mp H
      obtain ⟨t231, A70, H⟩ := H
      replace H : (some t231) = some r := H
      have A7 := Aside0.mk A70
      clear A70
      obtain rfl := Option.some.inj H
      go_enter Tryd.func41, Tryd.ntmps41
      go_wp2_with (first | (go_at_call 39; (with_reducible refine (jobshellref48_digit.calls a0 t231 _ A7.out).mono ?_); rintro e w' ⟨rfl, ⟨nd, rfl⟩⟩))
      go_ret
      exact ⟨by first | rfl | (simp; done) | (simp [*]; done), by repeat (first | exact Drawn0.refl _ | apply Drawn0.step)⟩
   ·rw [if_neg c4] at H
    have c4b0 : decide (65 ≤ a0) = false := decide_eq_false c4
    clear c4
    by_cases c8 : a0 = 95
    ·rw [if_pos c8] at H
     have c8b0 : (a0 == 95) = true := beq_iff_eq.mpr c8
     have c8b1 : (a0 != 95) = false := bne_eq_false_iff_eq.mpr c8
     clear c8
     obtain rfl := Option.some.inj H
     go_enter Tryd.func41, Tryd.ntmps41
     go_wp2
     go_ret
     exact ⟨by first | rfl | (simp; done) | (simp [*]; done), by repeat (first | exact Drawn0.refl _ | apply Drawn0.step)⟩
    ·rw [if_neg c8] at H
     have c8b0 : (a0 == 95) = false := beq_eq_false_iff_ne.mpr c8
     have c8b1 : (a0 != 95) = true := bne_iff_ne.mpr c8
     replace H := Option.bind_eq_some_iff.mp H
     obtain ⟨t232, A90, H⟩ := H
     replace H : (some t232) = some r := H
     have A9 := Aside0.mk A90
     clear A90
     obtain rfl := Option.some.inj H
     go_enter Tryd.func41, Tryd.ntmps41
     go_wp2_with (first | (go_at_call 39; (with_reducible refine (jobshellref48_digit.calls a0 t232 _ A9.out).mono ?_); rintro e w' ⟨rfl, ⟨nd, rfl⟩⟩))
     go_ret
     exact ⟨by first | rfl | (simp; done) | (simp [*]; done), by repeat (first | exact Drawn0.refl _ | apply Drawn0.step)⟩
 ·rw [if_neg c2] at H
  have c2b0 : decide (97 ≤ a0) = false := decide_eq_false c2
  clear c2
  by_cases c10 : a0 ≥ 65
  ·rw [if_pos c10] at H
   have c10b0 : decide (65 ≤ a0) = true := decide_eq_true c10
   clear c10
   by_cases c11 : a0 ≤ 90
   ·rw [if_pos c11] at H
    have c11b0 : decide (a0 ≤ 90) = true := decide_eq_true c11
    clear c11
    obtain rfl := Option.some.inj H
    go_enter Tryd.func41, Tryd.ntmps41
    go_wp2
    go_ret
    exact ⟨by first | rfl | (simp; done) | (simp [*]; done), by repeat (first | exact Drawn0.refl _ | apply Drawn0.step)⟩
   ·rw [if_neg c11] at H
    have c11b0 : decide (a0 ≤ 90) = false := decide_eq_false c11
    clear c11
    by_cases c12 : a0 = 95
    ·rw [if_pos c12] at H
     have c12b0 : (a0 == 95) = true := beq_iff_eq.mpr c12
     have c12b1 : (a0 != 95) = false := bne_eq_false_iff_eq.mpr c12
     clear c12
     obtain rfl := Option.some.inj H
     go_enter Tryd.func41, Tryd.ntmps41
     go_wp2
     go_ret
     exact ⟨by first | rfl | (simp; done) | (simp [*]; done), by repeat (first | exact Drawn0.refl _ | apply Drawn0.step)⟩
    ·rw [if_neg c12] at H
     have c12b0 : (a0 == 95) = false := beq_eq_false_iff_ne.mpr c12
     have c12b1 : (a0 != 95) = true := bne_iff_ne.mpr c12
     replace H := Option.bind_eq_some_iff.mp H
     obtain ⟨t233, A130, H⟩ := H
     replace H : (some t233) = some r := H
     have A13 := Aside0.mk A130
     clear A130
     obtain rfl := Option.some.inj H
     go_enter Tryd.func41, Tryd.ntmps41
     go_wp2_with (first | (go_at_call 39; (with_reducible refine (jobshellref48_digit.calls a0 t233 _ A13.out).mono ?_); rintro e w' ⟨rfl, ⟨nd, rfl⟩⟩))
     go_ret
     exact ⟨by first | rfl | (simp; done) | (simp [*]; done), by repeat (first | exact Drawn0.refl _ | apply Drawn0.step)⟩
  ·rw [if_neg c10] at H
   have c10b0 : decide (65 ≤ a0) = false := decide_eq_false c10
   clear c10
   by_cases c14 : a0 = 95
   ·rw [if_pos c14] at H
    have c14b0 : (a0 == 95) = true := beq_iff_eq.mpr c14
    have c14b1 : (a0 != 95) = false := bne_eq_false_iff_eq.mpr c14
    clear c14
    obtain rfl := Option.some.inj H
    go_enter Tryd.func41, Tryd.ntmps41
    go_wp2
    go_ret
    exact ⟨by first | rfl | (simp; done) | (simp [*]; done), by repeat (first | exact Drawn0.refl _ | apply Drawn0.step)⟩
   ·rw [if_neg c14] at H
    have c14b0 : (a0 == 95) = false := beq_eq_false_iff_ne.mpr c14
    have c14b1 : (a0 != 95) = true := bne_iff_ne.mpr c14
    replace H := Option.bind_eq_some_iff.mp H
    obtain ⟨t234, A150, H⟩ := H
    replace H : (some t234) = some r := H
    have A15 := Aside0.mk A150
    clear A150
    obtain rfl := Option.some.inj H
    go_enter Tryd.func41, Tryd.ntmps41
    go_wp2_with (first | (go_at_call 39; (with_reducible refine (jobshellref48_digit.calls a0 t234 _ A15.out).mono ?_); rintro e w' ⟨rfl, ⟨nd, rfl⟩⟩))
    go_ret
    exact ⟨by first | rfl | (simp; done) | (simp [*]; done), by repeat (first | exact Drawn0.refl _ | apply Drawn0.step)⟩
end Go.Proofs.YtiacdccnifjcjaaDoor.F
namespace Go.Proofs.YtiacdccnifjcjaaDoor.F
open Go.RowKit Go.Proofs.YtiacdccnifjcjaaDoorW.PrintWords Go.Proofs.YtiacdccnifjcjaaDoorW.PrintLast Go.Proofs.YtiacdccnifjcjaaDoorW.PrintMore
attribute [local go_sem] max2_int min2_int max_two min_two max_three min_three max_four min_four
set_option linter.unusedVariables false
set_option linter.unusedSimpArgs false
def jobshellref48_name.l0 : Nat → ByteArray → Int → Option (Int)
 | 0, _, _ => none
 | k + 1, x0, x1 => if x1 < (x0.size : Int) then (if 0 ≤ x1 then ((jobshellref48_letter.f (bt x0 x1)).bind fun t235 => (if t235 = true then (jobshellref48_name.l0 k x0 (wrap64 (x1 + 1))) else (some x1))) else (none)) else (some x1)
def jobshellref48_name.f (k : Nat) (a0 : ByteArray) (a1 : Int) : Option (Int) := jobshellref48_name.l0 k a0 a1
theorem jobshellref48_name.mono_l : ∀ k, (∀ y0 y1, LeO (jobshellref48_name.l0 k y0 y1) (jobshellref48_name.l0 (k + 1) y0 y1))
 | 0 => fun _ _ r h => by simp [jobshellref48_name.l0] at h
 | k + 1 => by
  have ih0 := jobshellref48_name.mono_l k
  ·intro y0 y1
   unfold jobshellref48_name.l0
   repeat' first
   | (with_reducible exact ih0 _ _)
   | (with_reducible exact LeO.refl _)
   | (with_reducible exact LeO.none _)
   | (with_reducible refine LeO.ite ?_ ?_)
   | (with_reducible refine LeO.bind ?_ (fun _ => ?_))
   | exact ih0 _ _
   | exact LeO.none _
   | refine LeO.ite ?_ ?_
   | refine LeO.bind ?_ (fun _ => ?_)
theorem jobshellref48_name.mono : ∀ a0 a1 k, LeO (jobshellref48_name.f k a0 a1) (jobshellref48_name.f (k + 1) a0 a1) := by
 intro a0 a1 k
 have ih0 := jobshellref48_name.mono_l k
 unfold jobshellref48_name.f
 repeat' first
   | (with_reducible exact ih0 _ _)
   | (with_reducible exact LeO.refl _)
   | (with_reducible exact LeO.none _)
   | (with_reducible refine LeO.ite ?_ ?_)
   | (with_reducible refine LeO.bind ?_ (fun _ => ?_))
   | exact ih0 _ _
   | exact LeO.none _
   | refine LeO.ite ?_ ?_
   | refine LeO.bind ?_ (fun _ => ?_)
set_option maxHeartbeats 8000000 in
set_option maxRecDepth 100000 in
theorem jobshellref48_name.calls (k : Nat) (a0 : ByteArray) (a1 : Int) (r : Int) (w : World) (h : jobshellref48_name.f k a0 a1 = some r) :
  Calls Tryd.prog 42 #[.string a0, .int .i64 a1] w fun e w' => e = .returned (.int .i64 r) ∧ Drawn0 w w' := by
 have H : (jobshellref48_name.l0 k a0 a1) = some r := h
 clear h
 have H' := Aside0.mk H
 clear H
 go_enter Tryd.func42, Tryd.ntmps42
 go_wp2
 go_loopg [1] k (fun kq v1 w' => ∃ (x1_1 : Int), v1 = .int .i64 x1_1 ∧ Aside0 (jobshellref48_name.l0 kq a0 x1_1 = some r) ∧ Aside0 (kq ≤ k) ∧ Drawn0 w w')
 case atStart => exact ⟨(a1), (by first | rfl | (simp; done) | (simp [*]; done) | (simp [isE_ne]; done)), H', ⟨Nat.le_refl _⟩, by repeat (first | exact Drawn0.refl _ | apply Drawn0.step)⟩
 case round =>
  clear H'
  try clear p2
  obtain ⟨x1_1, rfl, HA, HK1, ⟨m1, rfl⟩⟩ := hrel
  cases gk with
  | zero => exact absurd HA.out (by simp [jobshellref48_name.l0])
  | succ k1 =>
   have H := HA.out
   clear HA
   simp only [jobshellref48_name.l0] at H
   by_cases c3 : x1_1 < (a0.size : Int)
   ·rw [if_pos c3] at H
    have c3b0 : decide (x1_1 < (a0.size : Int)) = true := decide_eq_true c3
    clear c3
    by_cases c4 : 0 ≤ x1_1
    ·rw [if_pos c4] at H
     have c4b0 : decide (0 ≤ x1_1) = true := decide_eq_true c4
     clear c4
     replace H := Option.bind_eq_some_iff.mp H
     obtain ⟨t235, A60, H⟩ := H
     replace H : (if t235 = true then (jobshellref48_name.l0 k1 a0 (wrap64 (x1_1 + 1))) else (some x1_1)) = some r := H
     have A6 := Aside0.mk A60
     clear A60
     by_cases c7 : t235 = true
     ·subst c7
      have H1 : (jobshellref48_name.l0 k1 a0 (wrap64 (x1_1 + 1))) = some r := by rw [if_pos rfl] at H; exact H
      clear H
      have H := H1
      clear H1
      have H' := Aside0.mk H
      clear H
      have p5 : 0 ≤ (x1_1 : Int) := of_decide_eq_true (by first | (with_reducible assumption) | assumption)
      have q5 : x1_1 < (a0.size : Int) := of_decide_eq_true (by first | (with_reducible assumption) | assumption)
      have hx5 := bt_at a0 x1_1
      replace p5 := eq_true p5
      replace q5 := eq_true q5
      go_wp2_with (first | (go_at_call 41; (with_reducible refine (jobshellref48_letter.calls (bt a0 x1_1) true _ A6.out).mono ?_); rintro e w' ⟨rfl, ⟨nd, rfl⟩⟩))
      go_roundg k1
      case measure => have := HK1.out; omega
      case rel => exact ⟨(wrap64 (x1_1 + 1)), (by first | rfl | (simp; done) | (simp [*]; done) | (simp [isE_ne]; done)), H', ⟨by have := HK1.out; omega⟩, by repeat (first | exact Drawn0.refl _ | apply Drawn0.step)⟩
     ·replace c7 := Bool.eq_false_iff.mpr c7
      subst c7
      have H1 : (some x1_1) = some r := by rw [if_neg (show ¬ (false = true) by decide)] at H; exact H
      clear H
      have H := H1
      clear H1
      obtain rfl := Option.some.inj H
      have p5 : 0 ≤ (x1_1 : Int) := of_decide_eq_true (by first | (with_reducible assumption) | assumption)
      have q5 : x1_1 < (a0.size : Int) := of_decide_eq_true (by first | (with_reducible assumption) | assumption)
      have hx5 := bt_at a0 x1_1
      replace p5 := eq_true p5
      replace q5 := eq_true q5
      go_wp2_with (first | (go_at_call 41; (with_reducible refine (jobshellref48_letter.calls (bt a0 x1_1) false _ A6.out).mono ?_); rintro e w' ⟨rfl, ⟨nd, rfl⟩⟩))
      go_ret
      exact ⟨by first | rfl | (simp; done) | (simp [*]; done), by repeat (first | exact Drawn0.refl _ | apply Drawn0.step)⟩
    ·rw [if_neg c4] at H
     exact absurd H (by simp)
   ·rw [if_neg c3] at H
    have c3b0 : decide (x1_1 < (a0.size : Int)) = false := decide_eq_false c3
    clear c3
    obtain rfl := Option.some.inj H
    go_wp2
    go_ret
    exact ⟨by first | rfl | (simp; done) | (simp [*]; done), by repeat (first | exact Drawn0.refl _ | apply Drawn0.step)⟩
end Go.Proofs.YtiacdccnifjcjaaDoor.F
