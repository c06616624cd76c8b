/- Texts of this claim, joined. -/
import Derived.Lib.ItoaLen
import Derived.Test.YtiacdccnifjcjaaDoorB0
import Derived.Test.YtiacdccnifjcjaaDoorB2
import Derived.Test.YtiacdccnifjcjaaDoorMVf1
import Derived.Test.YtiacdccnifjcjaaDoorB3
import Derived.Test.YtiacdccnifjcjaaDoorMVf0
import Derived.Test.YtiacdccnifjcjaaDoorB1
namespace Go.Proofs.YtiacdccnifjcjaaDoor.F
open Go.RowKit Go.Proofs.YtiacdccnifjcjaaDoorW.PrintWords Go.Proofs.YtiacdccnifjcjaaDoorW.PrintLast Go.Proofs.YtiacdccnifjcjaaDoorW.PrintMore
attribute [local go_sem] max2_int min2_int max_two min_two max_three min_three max_four min_four
set_option linter.unusedVariables false
set_option linter.unusedSimpArgs false
def jobshelllaw48_PromptFirsts.f (k : Nat) (a0_0 : ByteArray) (l0_1 : List (S_Var)) (l0_2 : List ByteArray) (a0_3 : Opq) (l0_4 : List (S_Alias)) (l0_5 : List (S_Trap)) (a0_6 : Int) (a0_7 : Int) (a0_8 : Int) (a0_9 : Int) (a0_10 : ByteArray) (a0_11 : Int) (a0_12 : Int) (a0_13 : Int) (a0_14 : Bool) (a1 : Int) (a2 : Int) : Option (Bool) := (jobshelllaw48_small.f k a0_0 l0_1 l0_2 a0_3 l0_4 l0_5 a0_6 a0_7 a0_8 a0_9 a0_10 a0_11 a0_12 a0_13 a0_14).bind fun t295 => (if t295 = true then ((prompt_First.f k a0_0 l0_1 l0_2 a0_3 l0_4 l0_5 a0_6 a0_7 a0_8 a0_9 a0_10 a0_11 a0_12 a0_13 a0_14 a1 a2).bind fun t296 => ((jobshellref48_First.f k a0_0 l0_1 l0_2 a0_3 l0_4 l0_5 a0_6 a0_7 a0_8 a0_9 a0_10 a0_11 a0_12 a0_13 a0_14 a1 a2).bind fun t297 => (if t296.toList = t297.toList then ((prompt_Second.f k a0_0 l0_1 l0_2 a0_3 l0_4 l0_5 a0_6 a0_7 a0_8 a0_9 a0_10 a0_11 a0_12 a0_13 a0_14).bind fun t298 => ((jobshellref48_Second.f k a0_0 l0_1 l0_2 a0_3 l0_4 l0_5 a0_6 a0_7 a0_8 a0_9 a0_10 a0_11 a0_12 a0_13 a0_14).bind fun t299 => (if t298.toList = t299.toList then ((jobshelllaw48_awake.f k).bind fun t300 => (some t300)) else (some false)))) else (some false)))) else ((jobshelllaw48_awake.f k).bind fun t301 => (some t301)))
def jobshelllaw48_PromptFirsts.T1 : Bool × List (List Nat × List Nat) := (true, [([], []), ([0], [0]), ([1], [1]), ([2, 1], [2]), ([3], [3]), ([3], [3]), ([3], [3]), ([4, 5, 6, 3, 3], [3, 4, 5, 6]), ([3], [3]), ([3], [3]), ([3], [3]), ([8, 9, 10, 7, 3], [3, 8, 9, 10]), ([7, 11, 3], [3, 7, 11]), ([12, 11, 3], [3, 12]), ([13], [13]), ([14, 13, 13], [13, 14]), ([13], [13]), ([16, 15, 13], [13, 16]), ([15, 17, 13], [13, 15, 17]), ([13, 18, 3], [3, 13, 18]), ([3, 19], [3, 19]), ([20, 17], [20]), ([21, 21], [21]), ([21, 22], [21, 22]), ([23, 22, 0, 1, 2, 3, 4, 5, 6, 7, 8, 9, 10, 11, 12, 13, 14, 15, 16, 17, 18, 19, 20, 21, 22, 23], [23])])
def jobshelllaw48_PromptFirsts.B1 : List Nat := [0, 1, 3, 7, 15, 15, 15, 127, 15, 15, 15, 2047, 4095, 8191, 16383, 32767, 16383, 131071, 262143, 524287, 1048575, 2097151, 4194303, 8388607, 16777215]
theorem jobshelllaw48_PromptFirsts.tab1 : rtab .any (opsOf Tryd.f4 1) = jobshelllaw48_PromptFirsts.T1 := by kernel_rfl
theorem jobshelllaw48_PromptFirsts.bits1 : waitsOk jobshelllaw48_PromptFirsts.T1.2 jobshelllaw48_PromptFirsts.B1 = true := by kernel_rfl
set_option maxHeartbeats 60000000 in
set_option maxRecDepth 100000 in
theorem jobshelllaw48_PromptFirsts.calls (k : Nat) (a0_0 : ByteArray) (A0_1 : Option Addr) (c0_1 : Nat) (l0_1 : List (S_Var)) (A0_2 : Option Addr) (c0_2 : Nat) (l0_2 : List ByteArray) (a0_3 : Opq) (A0_4 : Option Addr) (c0_4 : Nat) (l0_4 : List (S_Alias)) (A0_5 : Option Addr) (c0_5 : Nat) (l0_5 : List (S_Trap)) (a0_6 : Int) (a0_7 : Int) (a0_8 : Int) (a0_9 : Int) (a0_10 : ByteArray) (a0_11 : Int) (a0_12 : Int) (a0_13 : Int) (a0_14 : Bool) (a1 : Int) (a2 : Int) (r : Bool) (w : World) (hr0_1 : Kd.C k_Var w A0_1 l0_1.length l0_1) (hc0_1 : l0_1.length ≤ c0_1) (hr0_2 : Kd.C Kd.string w A0_2 l0_2.length l0_2) (hc0_2 : l0_2.length ≤ c0_2) (hr0_4 : Kd.C k_Alias w A0_4 l0_4.length l0_4) (hc0_4 : l0_4.length ≤ c0_4) (hr0_5 : Kd.C k_Trap w A0_5 l0_5.length l0_5) (hc0_5 : l0_5.length ≤ c0_5) (hamb : AmbC w) (h : jobshelllaw48_PromptFirsts.f k a0_0 l0_1 l0_2 a0_3 l0_4 l0_5 a0_6 a0_7 a0_8 a0_9 a0_10 a0_11 a0_12 a0_13 a0_14 a1 a2 = some r) :
  Calls Tryd.prog 4 #[.agg #[.string a0_0, .slice A0_1 l0_1.length c0_1, .slice A0_2 l0_2.length c0_2, .slice (a0_3).A (a0_3).n (a0_3).c, .slice A0_4 l0_4.length c0_4, .slice A0_5 l0_5.length c0_5, .int .i64 a0_6, .int .i64 a0_7, .int .i64 a0_8, .int .i64 a0_9, .string a0_10, .int .i64 a0_11, .int .i64 a0_12, .int .i64 a0_13, .bool a0_14], .int .i64 a1, .int .i64 a2] w fun e w' => e = .returned (.bool r) ∧ Below w.heap.size w w' := by
 have hu30 := Tryd.underlying30
 have HAMB := Aside0.mk hamb
 clear hamb
 have HR0_1 := Aside0.mk hr0_1
 have HC0_1 := Aside0.mk hc0_1
 clear hr0_1 hc0_1
 have HR0_2 := Aside0.mk hr0_2
 have HC0_2 := Aside0.mk hc0_2
 clear hr0_2 hc0_2
 have HR0_4 := Aside0.mk hr0_4
 have HC0_4 := Aside0.mk hc0_4
 clear hr0_4 hc0_4
 have HR0_5 := Aside0.mk hr0_5
 have HC0_5 := Aside0.mk hc0_5
 clear hr0_5 hc0_5
 have HB := Aside0.mk (Below.refl w.heap.size w)
 have H : ((jobshelllaw48_small.f k a0_0 l0_1 l0_2 a0_3 l0_4 l0_5 a0_6 a0_7 a0_8 a0_9 a0_10 a0_11 a0_12 a0_13 a0_14).bind fun t295 => (if t295 = true then ((prompt_First.f k a0_0 l0_1 l0_2 a0_3 l0_4 l0_5 a0_6 a0_7 a0_8 a0_9 a0_10 a0_11 a0_12 a0_13 a0_14 a1 a2).bind fun t296 => ((jobshellref48_First.f k a0_0 l0_1 l0_2 a0_3 l0_4 l0_5 a0_6 a0_7 a0_8 a0_9 a0_10 a0_11 a0_12 a0_13 a0_14 a1 a2).bind fun t297 => (if t296.toList = t297.toList then ((prompt_Second.f k a0_0 l0_1 l0_2 a0_3 l0_4 l0_5 a0_6 a0_7 a0_8 a0_9 a0_10 a0_11 a0_12 a0_13 a0_14).bind fun t298 => ((jobshellref48_Second.f k a0_0 l0_1 l0_2 a0_3 l0_4 l0_5 a0_6 a0_7 a0_8 a0_9 a0_10 a0_11 a0_12 a0_13 a0_14).bind fun t299 => (if t298.toList = t299.toList then ((jobshelllaw48_awake.f k).bind fun t300 => (some t300)) else (some false)))) else (some false)))) else ((jobshelllaw48_awake.f k).bind fun t301 => (some t301)))) = some r := h
 clear h
 replace H := Option.bind_eq_some_iff.mp H
 obtain ⟨t295, A40, H⟩ := H
 replace H : (if t295 = true then ((prompt_First.f k a0_0 l0_1 l0_2 a0_3 l0_4 l0_5 a0_6 a0_7 a0_8 a0_9 a0_10 a0_11 a0_12 a0_13 a0_14 a1 a2).bind fun t296 => ((jobshellref48_First.f k a0_0 l0_1 l0_2 a0_3 l0_4 l0_5 a0_6 a0_7 a0_8 a0_9 a0_10 a0_11 a0_12 a0_13 a0_14 a1 a2).bind fun t297 => (if t296.toList = t297.toList then ((prompt_Second.f k a0_0 l0_1 l0_2 a0_3 l0_4 l0_5 a0_6 a0_7 a0_8 a0_9 a0_10 a0_11 a0_12 a0_13 a0_14).bind fun t298 => ((jobshellref48_Second.f k a0_0 l0_1 l0_2 a0_3 l0_4 l0_5 a0_6 a0_7 a0_8 a0_9 a0_10 a0_11 a0_12 a0_13 a0_14).bind fun t299 => (if t298.toList = t299.toList then ((jobshelllaw48_awake.f k).bind fun t300 => (some t300)) else (some false)))) else (some false)))) else ((jobshelllaw48_awake.f k).bind fun t301 => (some t301))) = some r := H
 have A4 := Aside0.mk A40
 clear A40
 by_cases c5 : t295 = true
 ·subst c5
  have H1 : ((prompt_First.f k a0_0 l0_1 l0_2 a0_3 l0_4 l0_5 a0_6 a0_7 a0_8 a0_9 a0_10 a0_11 a0_12 a0_13 a0_14 a1 a2).bind fun t296 => ((jobshellref48_First.f k a0_0 l0_1 l0_2 a0_3 l0_4 l0_5 a0_6 a0_7 a0_8 a0_9 a0_10 a0_11 a0_12 a0_13 a0_14 a1 a2).bind fun t297 => (if t296.toList = t297.toList then ((prompt_Second.f k a0_0 l0_1 l0_2 a0_3 l0_4 l0_5 a0_6 a0_7 a0_8 a0_9 a0_10 a0_11 a0_12 a0_13 a0_14).bind fun t298 => ((jobshellref48_Second.f k a0_0 l0_1 l0_2 a0_3 l0_4 l0_5 a0_6 a0_7 a0_8 a0_9 a0_10 a0_11 a0_12 a0_13 a0_14).bind fun t299 => (if t298.toList = t299.toList then ((jobshelllaw48_awake.f k).bind fun t300 => (some t300)) else (some false)))) else (some false)))) = some r := by rw [if_pos rfl] at H; exact H
  clear H
  have H := H1
  clear H1
  replace H := Option.bind_eq_some_iff.mp H
  obtain ⟨t296, A60, H⟩ := H
  replace H : ((jobshellref48_First.f k a0_0 l0_1 l0_2 a0_3 l0_4 l0_5 a0_6 a0_7 a0_8 a0_9 a0_10 a0_11 a0_12 a0_13 a0_14 a1 a2).bind fun t297 => (if t296.toList = t297.toList then ((prompt_Second.f k a0_0 l0_1 l0_2 a0_3 l0_4 l0_5 a0_6 a0_7 a0_8 a0_9 a0_10 a0_11 a0_12 a0_13 a0_14).bind fun t298 => ((jobshellref48_Second.f k a0_0 l0_1 l0_2 a0_3 l0_4 l0_5 a0_6 a0_7 a0_8 a0_9 a0_10 a0_11 a0_12 a0_13 a0_14).bind fun t299 => (if t298.toList = t299.toList then ((jobshelllaw48_awake.f k).bind fun t300 => (some t300)) else (some false)))) else (some false))) = some r := H
  have A6 := Aside0.mk A60
  clear A60
  replace H := Option.bind_eq_some_iff.mp H
  obtain ⟨t297, A70, H⟩ := H
  replace H : (if t296.toList = t297.toList then ((prompt_Second.f k a0_0 l0_1 l0_2 a0_3 l0_4 l0_5 a0_6 a0_7 a0_8 a0_9 a0_10 a0_11 a0_12 a0_13 a0_14).bind fun t298 => ((jobshellref48_Second.f k a0_0 l0_1 l0_2 a0_3 l0_4 l0_5 a0_6 a0_7 a0_8 a0_9 a0_10 a0_11 a0_12 a0_13 a0_14).bind fun t299 => (if t298.toList = t299.toList then ((jobshelllaw48_awake.f k).bind fun t300 => (some t300)) else (some false)))) else (some false)) = some r := H
  have A7 := Aside0.mk A70
  clear A70
  by_cases c8 : t296.toList = t297.toList
  ·as_aux_lemma =>
   rw [if_pos c8] at H
   have c8b0 : (t296.toList == t297.toList) = true := beq_iff_eq.mpr c8
   have c8b1 : (t296.toList != t297.toList) = false := bne_eq_false_iff_eq.mpr c8
   clear c8
   replace H := Option.bind_eq_some_iff.mp H
   obtain ⟨t298, A90, H⟩ := H
   replace H : ((jobshellref48_Second.f k a0_0 l0_1 l0_2 a0_3 l0_4 l0_5 a0_6 a0_7 a0_8 a0_9 a0_10 a0_11 a0_12 a0_13 a0_14).bind fun t299 => (if t298.toList = t299.toList then ((jobshelllaw48_awake.f k).bind fun t300 => (some t300)) else (some false))) = some r := H
   have A9 := Aside0.mk A90
   clear A90
   replace H := Option.bind_eq_some_iff.mp H
   obtain ⟨t299, A100, H⟩ := H
   replace H : (if t298.toList = t299.toList then ((jobshelllaw48_awake.f k).bind fun t300 => (some t300)) else (some false)) = some r := H
   have A10 := Aside0.mk A100
   clear A100
   by_cases c11 : t298.toList = t299.toList
   ·as_aux_lemma =>
    rw [if_pos c11] at H
    have c11b0 : (t298.toList == t299.toList) = true := beq_iff_eq.mpr c11
    have c11b1 : (t298.toList != t299.toList) = false := bne_eq_false_iff_eq.mpr c11
    clear c11
    replace H := Option.bind_eq_some_iff.mp H
    obtain ⟨t300, A120, H⟩ := H
    replace H : (some t300) = some r := H
    have A12 := Aside0.mk A120
    clear A120
    obtain rfl := Option.some.inj H
    go_enter Tryd.func4, Tryd.ntmps4
    try go_wp2_with (first | ((with_reducible refine gate_dst (N := 3) rfl ?_); refine box_event ?hg (N := 3) ?hd (cs := #[.string a0_0, .slice A0_1 l0_1.length c0_1, .slice A0_2 l0_2.length c0_2, .slice (a0_3).A (a0_3).n (a0_3).c, .slice A0_4 l0_4.length c0_4, .slice A0_5 l0_5.length c0_5, .int .i64 a0_6, .int .i64 a0_7, .int .i64 a0_8, .int .i64 a0_9, .string a0_10, .int .i64 a0_11, .int .i64 a0_12, .int .i64 a0_13, .bool a0_14]) (t := 30) ?hr ?_; (case hd => rfl); (case hg => rfl); (case hr => first | (go_simp; done) | (go_simp; rfl)); intro gb294 hg w13 hbox hb; have n0_ := Aside0.mk (below_step (by repeat (first | (with_reducible first | exact HB.out | apply below_alloc | apply pw_below_drewN | apply below_drew1) | exact HB.out)) hb); have n1_ := Aside0.mk (hbox); have n2_ := Aside0.mk ((by rw [hg]; exact (below_size (by repeat (first | (with_reducible first | exact HB.out | apply below_alloc | apply pw_below_drewN | apply below_drew1) | exact HB.out))) : w.heap.size ≤ gb294)); have n3_ := Aside0.mk ((by rw [hg]; exact (below_size (by repeat (first | (with_reducible first | exact HB.out | apply below_alloc | apply pw_below_drewN | apply below_drew1) | exact HB.out))) : w.heap.size ≤ gb294)); clear HB; have HB := n0_; have BK294 := n1_; have GW294 := n2_; have GE294 := n3_; clear n0_ n1_ n2_ n3_; clear hb hbox hg))
    have n0_ := Aside0.mk (blk_drew BK294.out)
    have n1_ := Aside0.mk (below_drew1 HB.out)
    clear BK294
    clear HB
    have BK294 := n0_
    have HB := n1_
    clear n0_ n1_
    refine start_ (n := 25) (S := fun w' => w'.cell? ⟨gb294, 0, none⟩ = some (.string a0_0) ∧ w'.cell? ⟨gb294, 1, none⟩ = some (.slice A0_1 l0_1.length c0_1) ∧ w'.cell? ⟨gb294, 2, none⟩ = some (.slice A0_2 l0_2.length c0_2) ∧ w'.cell? ⟨gb294, 3, none⟩ = some (.slice (a0_3).A (a0_3).n (a0_3).c) ∧ w'.cell? ⟨gb294, 4, none⟩ = some (.slice A0_4 l0_4.length c0_4) ∧ w'.cell? ⟨gb294, 5, none⟩ = some (.slice A0_5 l0_5.length c0_5) ∧ w'.cell? ⟨gb294, 6, none⟩ = some (.int .i64 a0_6) ∧ w'.cell? ⟨gb294, 7, none⟩ = some (.int .i64 a0_7) ∧ w'.cell? ⟨gb294, 8, none⟩ = some (.int .i64 a0_8) ∧ w'.cell? ⟨gb294, 9, none⟩ = some (.int .i64 a0_9) ∧ w'.cell? ⟨gb294, 10, none⟩ = some (.string a0_10) ∧ w'.cell? ⟨gb294, 11, none⟩ = some (.int .i64 a0_11) ∧ w'.cell? ⟨gb294, 12, none⟩ = some (.int .i64 a0_12) ∧ w'.cell? ⟨gb294, 13, none⟩ = some (.int .i64 a0_13) ∧ w'.cell? ⟨gb294, 14, none⟩ = some (.bool a0_14)) (ds := []) #[false, false, false, false, false, false, false, false, false, false, false, false, false, false, false, false, false, false, false, false, false, false, false, false, false] (by kernel_rfl) rfl rfl ⟨(blk_cell BK294.out 0).trans rfl, (blk_cell BK294.out 1).trans rfl, (blk_cell BK294.out 2).trans rfl, (blk_cell BK294.out 3).trans rfl, (blk_cell BK294.out 4).trans rfl, (blk_cell BK294.out 5).trans rfl, (blk_cell BK294.out 6).trans rfl, (blk_cell BK294.out 7).trans rfl, (blk_cell BK294.out 8).trans rfl, (blk_cell BK294.out 9).trans rfl, (blk_cell BK294.out 10).trans rfl, (blk_cell BK294.out 11).trans rfl, (blk_cell BK294.out 12).trans rfl, (blk_cell BK294.out 13).trans rfl, (blk_cell BK294.out 14).trans rfl⟩ (fun hHeld => ?_); refine with_tabW jobshelllaw48_PromptFirsts.tab1 jobshelllaw48_PromptFirsts.bits1 (fun HT_ HW_ => ?_)
    generalize w13.drew = w14 at BK294 HB hHeld ⊢
    refine take_ (i := 0) (N := some 7) (v := ?_) (a' := ?_) #[true, false, false, false, false, false, false, false, false, false, false, false, false, false, false, false, false, false, false, false, false, false, false, false, false] rfl rfl (take_ofW HT_.out HW_.out (by kernel_rfl)) (fun _ _ _ h => h) (Or.inl ⟨by rfl, ?_⟩) hHeld ?_ ?_
    rotate_left
    ·rintro w' ⟨s0, s1, s2, s3, s4, s5, s6, s7, s8, s9, s10, s11, s12, s13, s14⟩
     go_simp
     with_reducible rfl
    rotate_left
    ·simp only [Act.put, List.setIfInBounds_toArray, List.set_cons_zero, List.set_cons_succ, i64_w, i32_w]
     rfl
    refine one_ (i := 1) (N := some 8) #[true, true, false, false, false, false, false, false, false, false, false, false, false, false, false, false, false, false, false, false, false, false, false, false, false] rfl rfl (one_of HT_.out (by kernel_rfl)) (by decide) (fun K hK => ?_)
    refine goes_ Tryd.func8 (by kernel_rfl) rfl #[.agg #[.string a0_0, .slice A0_1 l0_1.length c0_1, .slice A0_2 l0_2.length c0_2, .slice (a0_3).A (a0_3).n (a0_3).c, .slice A0_4 l0_4.length c0_4, .slice A0_5 l0_5.length c0_5, .int .i64 a0_6, .int .i64 a0_7, .int .i64 a0_8, .int .i64 a0_9, .string a0_10, .int .i64 a0_11, .int .i64 a0_12, .int .i64 a0_13, .bool a0_14]] (by rfl) rfl rfl (by (try simp only [List.map_toArray, List.map_cons, List.map_nil]); first | done | rfl | (simp only [List.length_drop, List.length_take]; rfl)) ?_
    with_reducible refine (jobshelllaw48_small.calls k a0_0 _ _ l0_1 _ _ l0_2 a0_3 _ _ l0_4 _ _ l0_5 a0_6 a0_7 a0_8 a0_9 a0_10 a0_11 a0_12 a0_13 a0_14 true _ ?side1 ?side2 ?side3 ?side4 ?side5 ?side6 ?side7 ?side8 A4.out).mono ?_
    (case side1 => repeat (first | exact (Kd.C_below HR0_1.out HB.out) | (with_reducible refine Kd.C_alloc ?_ _) | (with_reducible refine Kd.C_drewN ?_ _) | (with_reducible refine Kd.C_drew ?_)))
    (case side2 => exact HC0_1.out)
    (case side3 => repeat (first | exact (Kd.C_below HR0_2.out HB.out) | (with_reducible refine Kd.C_alloc ?_ _) | (with_reducible refine Kd.C_drewN ?_ _) | (with_reducible refine Kd.C_drew ?_)))
    (case side4 => exact HC0_2.out)
    (case side5 => repeat (first | exact (Kd.C_below HR0_4.out HB.out) | (with_reducible refine Kd.C_alloc ?_ _) | (with_reducible refine Kd.C_drewN ?_ _) | (with_reducible refine Kd.C_drew ?_)))
    (case side6 => exact HC0_4.out)
    (case side7 => repeat (first | exact (Kd.C_below HR0_5.out HB.out) | (with_reducible refine Kd.C_alloc ?_ _) | (with_reducible refine Kd.C_drewN ?_ _) | (with_reducible refine Kd.C_drew ?_)))
    (case side8 => exact HC0_5.out)
    rintro e w15 ⟨rfl, hb⟩
    refine ⟨_, rfl, ?_⟩
    have n0_ := Aside0.mk (blk_below (g := gb294) (o := .cells #[.string a0_0, .slice A0_1 l0_1.length c0_1, .slice A0_2 l0_2.length c0_2, .slice (a0_3).A (a0_3).n (a0_3).c, .slice A0_4 l0_4.length c0_4, .slice A0_5 l0_5.length c0_5, .int .i64 a0_6, .int .i64 a0_7, .int .i64 a0_8, .int .i64 a0_9, .string a0_10, .int .i64 a0_11, .int .i64 a0_12, .int .i64 a0_13, .bool a0_14] 30 (0, 0)) (by (with_reducible repeat (first | refine blk_drewN ?_ _ | refine blk_drew ?_ | refine blk_alloc ?_ _)); exact BK294.out) hb)
    have n1_ := Aside0.mk (below_step (by repeat (first | (with_reducible first | exact HB.out | apply below_alloc | apply pw_below_drewN | apply below_drew1 | refine below_set ?_ GE294.out) | exact HB.out)) hb)
    clear BK294
    clear HB
    have BK294 := n0_
    have HB := n1_
    clear n0_ n1_
    (try clear hb)
    (try clear hb2)
    (try clear hk)
    (try clear hi)
    refine hK.out _ _ ⟨(blk_cell BK294.out 0).trans rfl, (blk_cell BK294.out 1).trans rfl, (blk_cell BK294.out 2).trans rfl, (blk_cell BK294.out 3).trans rfl, (blk_cell BK294.out 4).trans rfl, (blk_cell BK294.out 5).trans rfl, (blk_cell BK294.out 6).trans rfl, (blk_cell BK294.out 7).trans rfl, (blk_cell BK294.out 8).trans rfl, (blk_cell BK294.out 9).trans rfl, (blk_cell BK294.out 10).trans rfl, (blk_cell BK294.out 11).trans rfl, (blk_cell BK294.out 12).trans rfl, (blk_cell BK294.out 13).trans rfl, (blk_cell BK294.out 14).trans rfl⟩ (fun hHeld => ?_)
    clear hK K
    refine norm_ (a' := ?_) ?_ ?_
    rotate_left
    ·show Act.put _ (some 8) _ = _
     simp only [Act.put, List.setIfInBounds_toArray, List.set_cons_zero, List.set_cons_succ, i64_w, i32_w]
     rfl
    refine pure_ (i := 2) (N := some 9) (v := ?_) (a' := ?_) #[true, true, true, false, false, false, false, false, false, false, false, false, false, false, false, false, false, false, false, false, false, false, false, false, false] rfl rfl (any_of HT_.out (by kernel_rfl)) (fun _ _ _ h => h) (Or.inl ⟨by rfl, ?_⟩) ?_ ?_
    rotate_left
    ·intro w'
     go_simp
     with_reducible rfl
    rotate_left
    ·simp only [Act.put, List.setIfInBounds_toArray, List.set_cons_zero, List.set_cons_succ, i64_w, i32_w]
     rfl
    refine pure_ (i := 3) (N := some 10) (v := ?_) (a' := ?_) #[true, true, true, true, false, false, false, false, false, false, false, false, false, false, false, false, false, false, false, false, false, false, false, false, false] rfl rfl (any_of HT_.out (by kernel_rfl)) (fun _ _ _ h => h) (Or.inl ⟨by rfl, ?_⟩) ?_ ?_
    rotate_left
    ·intro w'
     go_simp
     with_reducible rfl
    rotate_left
    ·simp only [Act.put, List.setIfInBounds_toArray, List.set_cons_zero, List.set_cons_succ, i64_w, i32_w]
     rfl
    refine pure_ (i := 5) (N := some 12) (v := ?_) (a' := ?_) #[true, true, true, true, false, true, false, false, false, false, false, false, false, false, false, false, false, false, false, false, false, false, false, false, false] rfl rfl (any_of HT_.out (by kernel_rfl)) (fun _ _ _ h => h) (Or.inl ⟨by rfl, ?_⟩) ?_ ?_
    rotate_left
    ·intro w'
     go_simp
     with_reducible rfl
    rotate_left
    ·simp only [Act.put, List.setIfInBounds_toArray, List.set_cons_zero, List.set_cons_succ, i64_w, i32_w]
     rfl
    refine pure_ (i := 6) (N := some 13) (v := ?_) (a' := ?_) #[true, true, true, true, false, true, true, false, false, false, false, false, false, false, false, false, false, false, false, false, false, false, false, false, false] rfl rfl (any_of HT_.out (by kernel_rfl)) (fun _ _ _ h => h) (Or.inl ⟨by rfl, ?_⟩) ?_ ?_
    rotate_left
    ·intro w'
     go_simp
     with_reducible rfl
    rotate_left
    ·simp only [Act.put, List.setIfInBounds_toArray, List.set_cons_zero, List.set_cons_succ, i64_w, i32_w]
     rfl
    refine pure_ (i := 9) (N := some 16) (v := ?_) (a' := ?_) #[true, true, true, true, false, true, true, false, false, true, false, false, false, false, false, false, false, false, false, false, false, false, false, false, false] rfl rfl (any_of HT_.out (by kernel_rfl)) (fun _ _ _ h => h) (Or.inl ⟨by rfl, ?_⟩) ?_ ?_
    rotate_left
    ·intro w'
     go_simp
     with_reducible rfl
    rotate_left
    ·simp only [Act.put, List.setIfInBounds_toArray, List.set_cons_zero, List.set_cons_succ, i64_w, i32_w]
     rfl
    refine pure_ (i := 10) (N := some 17) (v := ?_) (a' := ?_) #[true, true, true, true, false, true, true, false, false, true, true, false, false, false, false, false, false, false, false, false, false, false, false, false, false] rfl rfl (any_of HT_.out (by kernel_rfl)) (fun _ _ _ h => h) (Or.inl ⟨by rfl, ?_⟩) ?_ ?_
    rotate_left
    ·intro w'
     go_simp
     with_reducible rfl
    rotate_left
    ·simp only [Act.put, List.setIfInBounds_toArray, List.set_cons_zero, List.set_cons_succ, i64_w, i32_w]
     rfl
    refine take_ (i := 4) (N := some 11) (v := ?_) (a' := ?_) #[true, true, true, true, true, true, true, false, false, true, true, false, false, false, false, false, false, false, false, false, false, false, false, false, false] rfl rfl (take_ofW HT_.out HW_.out (by kernel_rfl)) (fun _ _ _ h => h) (Or.inl ⟨by rfl, ?_⟩) hHeld ?_ ?_
    rotate_left
    ·rintro w' ⟨s0, s1, s2, s3, s4, s5, s6, s7, s8, s9, s10, s11, s12, s13, s14⟩
     go_simp
     with_reducible rfl
    rotate_left
    ·simp only [Act.put, List.setIfInBounds_toArray, List.set_cons_zero, List.set_cons_succ, i64_w, i32_w]
     rfl
    refine take_ (i := 8) (N := some 15) (v := ?_) (a' := ?_) #[true, true, true, true, true, true, true, false, true, true, true, false, false, false, false, false, false, false, false, false, false, false, false, false, false] rfl rfl (take_ofW HT_.out HW_.out (by kernel_rfl)) (fun _ _ _ h => h) (Or.inl ⟨by rfl, ?_⟩) hHeld ?_ ?_
    rotate_left
    ·rintro w' ⟨s0, s1, s2, s3, s4, s5, s6, s7, s8, s9, s10, s11, s12, s13, s14⟩
     go_simp
     with_reducible rfl
    rotate_left
    ·simp only [Act.put, List.setIfInBounds_toArray, List.set_cons_zero, List.set_cons_succ, i64_w, i32_w]
     rfl
    refine one_ (i := 7) (N := some 14) #[true, true, true, true, true, true, true, true, true, true, true, false, false, false, false, false, false, false, false, false, false, false, false, false, false] rfl rfl (one_of HT_.out (by kernel_rfl)) (by decide) (fun K hK => ?_)
    refine goes_ Tryd.func12 (by kernel_rfl) rfl #[.agg #[.string a0_0, .slice A0_1 l0_1.length c0_1, .slice A0_2 l0_2.length c0_2, .slice (a0_3).A (a0_3).n (a0_3).c, .slice A0_4 l0_4.length c0_4, .slice A0_5 l0_5.length c0_5, .int .i64 a0_6, .int .i64 a0_7, .int .i64 a0_8, .int .i64 a0_9, .string a0_10, .int .i64 a0_11, .int .i64 a0_12, .int .i64 a0_13, .bool a0_14], .int .i64 a1, .int .i64 a2] (by rfl) rfl rfl (by (try simp only [List.map_toArray, List.map_cons, List.map_nil]); first | done | rfl | (simp only [List.length_drop, List.length_take]; rfl)) ?_
    with_reducible refine (prompt_First.calls k a0_0 _ _ l0_1 _ _ l0_2 a0_3 _ _ l0_4 _ _ l0_5 a0_6 a0_7 a0_8 a0_9 a0_10 a0_11 a0_12 a0_13 a0_14 a1 a2 t296 _ ?side1 ?side2 ?side3 ?side4 ?side5 ?side6 ?side7 ?side8 ?side9 A6.out).mono ?_
    (case side1 => repeat (first | exact (Kd.C_below HR0_1.out HB.out) | (with_reducible refine Kd.C_alloc ?_ _) | (with_reducible refine Kd.C_drewN ?_ _) | (with_reducible refine Kd.C_drew ?_)))
    (case side2 => exact HC0_1.out)
    (case side3 => repeat (first | exact (Kd.C_below HR0_2.out HB.out) | (with_reducible refine Kd.C_alloc ?_ _) | (with_reducible refine Kd.C_drewN ?_ _) | (with_reducible refine Kd.C_drew ?_)))
    (case side4 => exact HC0_2.out)
    (case side5 => repeat (first | exact (Kd.C_below HR0_4.out HB.out) | (with_reducible refine Kd.C_alloc ?_ _) | (with_reducible refine Kd.C_drewN ?_ _) | (with_reducible refine Kd.C_drew ?_)))
    (case side6 => exact HC0_4.out)
    (case side7 => repeat (first | exact (Kd.C_below HR0_5.out HB.out) | (with_reducible refine Kd.C_alloc ?_ _) | (with_reducible refine Kd.C_drewN ?_ _) | (with_reducible refine Kd.C_drew ?_)))
    (case side8 => exact HC0_5.out)
    (case side9 => repeat (first | exact (AmbC_below HAMB.out HB.out) | (with_reducible refine AmbC_alloc ?_ _) | (with_reducible refine AmbC_drewN ?_ _) | (with_reducible refine AmbC_drew ?_)))
    rintro e w16 ⟨rfl, hb⟩
    refine ⟨_, rfl, ?_⟩
    have n0_ := Aside0.mk (blk_below (g := gb294) (o := .cells #[.string a0_0, .slice A0_1 l0_1.length c0_1, .slice A0_2 l0_2.length c0_2, .slice (a0_3).A (a0_3).n (a0_3).c, .slice A0_4 l0_4.length c0_4, .slice A0_5 l0_5.length c0_5, .int .i64 a0_6, .int .i64 a0_7, .int .i64 a0_8, .int .i64 a0_9, .string a0_10, .int .i64 a0_11, .int .i64 a0_12, .int .i64 a0_13, .bool a0_14] 30 (0, 0)) (by (with_reducible repeat (first | refine blk_drewN ?_ _ | refine blk_drew ?_ | refine blk_alloc ?_ _)); exact BK294.out) hb)
    have n1_ := Aside0.mk (below_step (by repeat (first | (with_reducible first | exact HB.out | apply below_alloc | apply pw_below_drewN | apply below_drew1 | refine below_set ?_ GE294.out) | exact HB.out)) hb)
    clear BK294
    clear HB
    have BK294 := n0_
    have HB := n1_
    clear n0_ n1_
    (try clear hb)
    (try clear hb2)
    (try clear hk)
    (try clear hi)
    refine hK.out _ _ ⟨(blk_cell BK294.out 0).trans rfl, (blk_cell BK294.out 1).trans rfl, (blk_cell BK294.out 2).trans rfl, (blk_cell BK294.out 3).trans rfl, (blk_cell BK294.out 4).trans rfl, (blk_cell BK294.out 5).trans rfl, (blk_cell BK294.out 6).trans rfl, (blk_cell BK294.out 7).trans rfl, (blk_cell BK294.out 8).trans rfl, (blk_cell BK294.out 9).trans rfl, (blk_cell BK294.out 10).trans rfl, (blk_cell BK294.out 11).trans rfl, (blk_cell BK294.out 12).trans rfl, (blk_cell BK294.out 13).trans rfl, (blk_cell BK294.out 14).trans rfl⟩ (fun hHeld => ?_)
    clear hK K
    refine norm_ (a' := ?_) ?_ ?_
    rotate_left
    ·show Act.put _ (some 14) _ = _
     simp only [Act.put, List.setIfInBounds_toArray, List.set_cons_zero, List.set_cons_succ, i64_w, i32_w]
     rfl
    refine one_ (i := 11) (N := some 18) #[true, true, true, true, true, true, true, true, true, true, true, true, false, false, false, false, false, false, false, false, false, false, false, false, false] rfl rfl (one_of HT_.out (by kernel_rfl)) (by decide) (fun K hK => ?_)
    refine goes_ Tryd.func13 (by kernel_rfl) rfl #[.agg #[.string a0_0, .slice A0_1 l0_1.length c0_1, .slice A0_2 l0_2.length c0_2, .slice (a0_3).A (a0_3).n (a0_3).c, .slice A0_4 l0_4.length c0_4, .slice A0_5 l0_5.length c0_5, .int .i64 a0_6, .int .i64 a0_7, .int .i64 a0_8, .int .i64 a0_9, .string a0_10, .int .i64 a0_11, .int .i64 a0_12, .int .i64 a0_13, .bool a0_14], .int .i64 a1, .int .i64 a2] (by rfl) rfl rfl (by (try simp only [List.map_toArray, List.map_cons, List.map_nil]); first | done | rfl | (simp only [List.length_drop, List.length_take]; rfl)) ?_
    with_reducible refine (jobshellref48_First.calls k a0_0 _ _ l0_1 _ _ l0_2 a0_3 _ _ l0_4 _ _ l0_5 a0_6 a0_7 a0_8 a0_9 a0_10 a0_11 a0_12 a0_13 a0_14 a1 a2 t297 _ ?side1 ?side2 ?side3 ?side4 ?side5 ?side6 ?side7 ?side8 ?side9 A7.out).mono ?_
    (case side1 => repeat (first | exact (Kd.C_below HR0_1.out HB.out) | (with_reducible refine Kd.C_alloc ?_ _) | (with_reducible refine Kd.C_drewN ?_ _) | (with_reducible refine Kd.C_drew ?_)))
    (case side2 => exact HC0_1.out)
    (case side3 => repeat (first | exact (Kd.C_below HR0_2.out HB.out) | (with_reducible refine Kd.C_alloc ?_ _) | (with_reducible refine Kd.C_drewN ?_ _) | (with_reducible refine Kd.C_drew ?_)))
    (case side4 => exact HC0_2.out)
    (case side5 => repeat (first | exact (Kd.C_below HR0_4.out HB.out) | (with_reducible refine Kd.C_alloc ?_ _) | (with_reducible refine Kd.C_drewN ?_ _) | (with_reducible refine Kd.C_drew ?_)))
    (case side6 => exact HC0_4.out)
    (case side7 => repeat (first | exact (Kd.C_below HR0_5.out HB.out) | (with_reducible refine Kd.C_alloc ?_ _) | (with_reducible refine Kd.C_drewN ?_ _) | (with_reducible refine Kd.C_drew ?_)))
    (case side8 => exact HC0_5.out)
    (case side9 => repeat (first | exact (AmbC_below HAMB.out HB.out) | (with_reducible refine AmbC_alloc ?_ _) | (with_reducible refine AmbC_drewN ?_ _) | (with_reducible refine AmbC_drew ?_)))
    rintro e w17 ⟨rfl, hb⟩
    refine ⟨_, rfl, ?_⟩
    have n0_ := Aside0.mk (blk_below (g := gb294) (o := .cells #[.string a0_0, .slice A0_1 l0_1.length c0_1, .slice A0_2 l0_2.length c0_2, .slice (a0_3).A (a0_3).n (a0_3).c, .slice A0_4 l0_4.length c0_4, .slice A0_5 l0_5.length c0_5, .int .i64 a0_6, .int .i64 a0_7, .int .i64 a0_8, .int .i64 a0_9, .string a0_10, .int .i64 a0_11, .int .i64 a0_12, .int .i64 a0_13, .bool a0_14] 30 (0, 0)) (by (with_reducible repeat (first | refine blk_drewN ?_ _ | refine blk_drew ?_ | refine blk_alloc ?_ _)); exact BK294.out) hb)
    have n1_ := Aside0.mk (below_step (by repeat (first | (with_reducible first | exact HB.out | apply below_alloc | apply pw_below_drewN | apply below_drew1 | refine below_set ?_ GE294.out) | exact HB.out)) hb)
    clear BK294
    clear HB
    have BK294 := n0_
    have HB := n1_
    clear n0_ n1_
    (try clear hb)
    (try clear hb2)
    (try clear hk)
    (try clear hi)
    refine hK.out _ _ ⟨(blk_cell BK294.out 0).trans rfl, (blk_cell BK294.out 1).trans rfl, (blk_cell BK294.out 2).trans rfl, (blk_cell BK294.out 3).trans rfl, (blk_cell BK294.out 4).trans rfl, (blk_cell BK294.out 5).trans rfl, (blk_cell BK294.out 6).trans rfl, (blk_cell BK294.out 7).trans rfl, (blk_cell BK294.out 8).trans rfl, (blk_cell BK294.out 9).trans rfl, (blk_cell BK294.out 10).trans rfl, (blk_cell BK294.out 11).trans rfl, (blk_cell BK294.out 12).trans rfl, (blk_cell BK294.out 13).trans rfl, (blk_cell BK294.out 14).trans rfl⟩ (fun hHeld => ?_)
    clear hK K
    refine norm_ (a' := ?_) ?_ ?_
    rotate_left
    ·show Act.put _ (some 18) _ = _
     simp only [Act.put, List.setIfInBounds_toArray, List.set_cons_zero, List.set_cons_succ, i64_w, i32_w]
     rfl
    refine pure_ (i := 12) (N := some 19) (v := ?_) (a' := ?_) #[true, true, true, true, true, true, true, true, true, true, true, true, true, false, false, false, false, false, false, false, false, false, false, false, false] rfl rfl (any_of HT_.out (by kernel_rfl)) (fun _ _ _ h => h) (Or.inl ⟨by rfl, ?_⟩) ?_ ?_
    rotate_left
    ·intro w'
     go_simp
     with_reducible rfl
    rotate_left
    ·simp only [Act.put, List.setIfInBounds_toArray, List.set_cons_zero, List.set_cons_succ, i64_w, i32_w]
     rfl
    refine pure_ (i := 13) (N := some 20) (v := ?_) (a' := ?_) #[true, true, true, true, true, true, true, true, true, true, true, true, true, true, false, false, false, false, false, false, false, false, false, false, false] rfl rfl (any_of HT_.out (by kernel_rfl)) (fun _ _ _ h => h) (Or.inl ⟨by rfl, ?_⟩) ?_ ?_
    rotate_left
    ·intro w'
     go_simp
     with_reducible rfl
    rotate_left
    ·simp only [Act.put, List.setIfInBounds_toArray, List.set_cons_zero, List.set_cons_succ, i64_w, i32_w]
     rfl
    refine take_ (i := 14) (N := some 21) (v := ?_) (a' := ?_) #[true, true, true, true, true, true, true, true, true, true, true, true, true, true, true, false, false, false, false, false, false, false, false, false, false] rfl rfl (take_ofW HT_.out HW_.out (by kernel_rfl)) (fun _ _ _ h => h) (Or.inl ⟨by rfl, ?_⟩) hHeld ?_ ?_
    rotate_left
    ·rintro w' ⟨s0, s1, s2, s3, s4, s5, s6, s7, s8, s9, s10, s11, s12, s13, s14⟩
     go_simp
     with_reducible rfl
    rotate_left
    ·simp only [Act.put, List.setIfInBounds_toArray, List.set_cons_zero, List.set_cons_succ, i64_w, i32_w]
     rfl
    refine take_ (i := 16) (N := some 23) (v := ?_) (a' := ?_) #[true, true, true, true, true, true, true, true, true, true, true, true, true, true, true, false, true, false, false, false, false, false, false, false, false] rfl rfl (take_ofW HT_.out HW_.out (by kernel_rfl)) (fun _ _ _ h => h) (Or.inl ⟨by rfl, ?_⟩) hHeld ?_ ?_
    rotate_left
    ·rintro w' ⟨s0, s1, s2, s3, s4, s5, s6, s7, s8, s9, s10, s11, s12, s13, s14⟩
     go_simp
     with_reducible rfl
    rotate_left
    ·simp only [Act.put, List.setIfInBounds_toArray, List.set_cons_zero, List.set_cons_succ, i64_w, i32_w]
     rfl
    refine one_ (i := 15) (N := some 22) #[true, true, true, true, true, true, true, true, true, true, true, true, true, true, true, true, true, false, false, false, false, false, false, false, false] rfl rfl (one_of HT_.out (by kernel_rfl)) (by decide) (fun K hK => ?_)
    refine goes_ Tryd.func14 (by kernel_rfl) rfl #[.agg #[.string a0_0, .slice A0_1 l0_1.length c0_1, .slice A0_2 l0_2.length c0_2, .slice (a0_3).A (a0_3).n (a0_3).c, .slice A0_4 l0_4.length c0_4, .slice A0_5 l0_5.length c0_5, .int .i64 a0_6, .int .i64 a0_7, .int .i64 a0_8, .int .i64 a0_9, .string a0_10, .int .i64 a0_11, .int .i64 a0_12, .int .i64 a0_13, .bool a0_14]] (by rfl) rfl rfl (by (try simp only [List.map_toArray, List.map_cons, List.map_nil]); first | done | rfl | (simp only [List.length_drop, List.length_take]; rfl)) ?_
    with_reducible refine (prompt_Second.calls k a0_0 _ _ l0_1 _ _ l0_2 a0_3 _ _ l0_4 _ _ l0_5 a0_6 a0_7 a0_8 a0_9 a0_10 a0_11 a0_12 a0_13 a0_14 t298 _ ?side1 ?side2 ?side3 ?side4 ?side5 ?side6 ?side7 ?side8 ?side9 A9.out).mono ?_
    (case side1 => repeat (first | exact (Kd.C_below HR0_1.out HB.out) | (with_reducible refine Kd.C_alloc ?_ _) | (with_reducible refine Kd.C_drewN ?_ _) | (with_reducible refine Kd.C_drew ?_)))
    (case side2 => exact HC0_1.out)
    (case side3 => repeat (first | exact (Kd.C_below HR0_2.out HB.out) | (with_reducible refine Kd.C_alloc ?_ _) | (with_reducible refine Kd.C_drewN ?_ _) | (with_reducible refine Kd.C_drew ?_)))
    (case side4 => exact HC0_2.out)
    (case side5 => repeat (first | exact (Kd.C_below HR0_4.out HB.out) | (with_reducible refine Kd.C_alloc ?_ _) | (with_reducible refine Kd.C_drewN ?_ _) | (with_reducible refine Kd.C_drew ?_)))
    (case side6 => exact HC0_4.out)
    (case side7 => repeat (first | exact (Kd.C_below HR0_5.out HB.out) | (with_reducible refine Kd.C_alloc ?_ _) | (with_reducible refine Kd.C_drewN ?_ _) | (with_reducible refine Kd.C_drew ?_)))
    (case side8 => exact HC0_5.out)
    (case side9 => repeat (first | exact (AmbC_below HAMB.out HB.out) | (with_reducible refine AmbC_alloc ?_ _) | (with_reducible refine AmbC_drewN ?_ _) | (with_reducible refine AmbC_drew ?_)))
    rintro e w18 ⟨rfl, hb⟩
    refine ⟨_, rfl, ?_⟩
    have n0_ := Aside0.mk (blk_below (g := gb294) (o := .cells #[.string a0_0, .slice A0_1 l0_1.length c0_1, .slice A0_2 l0_2.length c0_2, .slice (a0_3).A (a0_3).n (a0_3).c, .slice A0_4 l0_4.length c0_4, .slice A0_5 l0_5.length c0_5, .int .i64 a0_6, .int .i64 a0_7, .int .i64 a0_8, .int .i64 a0_9, .string a0_10, .int .i64 a0_11, .int .i64 a0_12, .int .i64 a0_13, .bool a0_14] 30 (0, 0)) (by (with_reducible repeat (first | refine blk_drewN ?_ _ | refine blk_drew ?_ | refine blk_alloc ?_ _)); exact BK294.out) hb)
    have n1_ := Aside0.mk (below_step (by repeat (first | (with_reducible first | exact HB.out | apply below_alloc | apply pw_below_drewN | apply below_drew1 | refine below_set ?_ GE294.out) | exact HB.out)) hb)
    clear BK294
    clear HB
    have BK294 := n0_
    have HB := n1_
    clear n0_ n1_
    (try clear hb)
    (try clear hb2)
    (try clear hk)
    (try clear hi)
    refine hK.out _ _ ⟨(blk_cell BK294.out 0).trans rfl, (blk_cell BK294.out 1).trans rfl, (blk_cell BK294.out 2).trans rfl, (blk_cell BK294.out 3).trans rfl, (blk_cell BK294.out 4).trans rfl, (blk_cell BK294.out 5).trans rfl, (blk_cell BK294.out 6).trans rfl, (blk_cell BK294.out 7).trans rfl, (blk_cell BK294.out 8).trans rfl, (blk_cell BK294.out 9).trans rfl, (blk_cell BK294.out 10).trans rfl, (blk_cell BK294.out 11).trans rfl, (blk_cell BK294.out 12).trans rfl, (blk_cell BK294.out 13).trans rfl, (blk_cell BK294.out 14).trans rfl⟩ (fun hHeld => ?_)
    clear hK K
    refine norm_ (a' := ?_) ?_ ?_
    rotate_left
    ·show Act.put _ (some 22) _ = _
     simp only [Act.put, List.setIfInBounds_toArray, List.set_cons_zero, List.set_cons_succ, i64_w, i32_w]
     rfl
    refine one_ (i := 17) (N := some 24) #[true, true, true, true, true, true, true, true, true, true, true, true, true, true, true, true, true, true, false, false, false, false, false, false, false] rfl rfl (one_of HT_.out (by kernel_rfl)) (by decide) (fun K hK => ?_)
    refine goes_ Tryd.func15 (by kernel_rfl) rfl #[.agg #[.string a0_0, .slice A0_1 l0_1.length c0_1, .slice A0_2 l0_2.length c0_2, .slice (a0_3).A (a0_3).n (a0_3).c, .slice A0_4 l0_4.length c0_4, .slice A0_5 l0_5.length c0_5, .int .i64 a0_6, .int .i64 a0_7, .int .i64 a0_8, .int .i64 a0_9, .string a0_10, .int .i64 a0_11, .int .i64 a0_12, .int .i64 a0_13, .bool a0_14]] (by rfl) rfl rfl (by (try simp only [List.map_toArray, List.map_cons, List.map_nil]); first | done | rfl | (simp only [List.length_drop, List.length_take]; rfl)) ?_
    with_reducible refine (jobshellref48_Second.calls k a0_0 _ _ l0_1 _ _ l0_2 a0_3 _ _ l0_4 _ _ l0_5 a0_6 a0_7 a0_8 a0_9 a0_10 a0_11 a0_12 a0_13 a0_14 t299 _ ?side1 ?side2 ?side3 ?side4 ?side5 ?side6 ?side7 ?side8 ?side9 A10.out).mono ?_
    (case side1 => repeat (first | exact (Kd.C_below HR0_1.out HB.out) | (with_reducible refine Kd.C_alloc ?_ _) | (with_reducible refine Kd.C_drewN ?_ _) | (with_reducible refine Kd.C_drew ?_)))
    (case side2 => exact HC0_1.out)
    (case side3 => repeat (first | exact (Kd.C_below HR0_2.out HB.out) | (with_reducible refine Kd.C_alloc ?_ _) | (with_reducible refine Kd.C_drewN ?_ _) | (with_reducible refine Kd.C_drew ?_)))
    (case side4 => exact HC0_2.out)
    (case side5 => repeat (first | exact (Kd.C_below HR0_4.out HB.out) | (with_reducible refine Kd.C_alloc ?_ _) | (with_reducible refine Kd.C_drewN ?_ _) | (with_reducible refine Kd.C_drew ?_)))
    (case side6 => exact HC0_4.out)
    (case side7 => repeat (first | exact (Kd.C_below HR0_5.out HB.out) | (with_reducible refine Kd.C_alloc ?_ _) | (with_reducible refine Kd.C_drewN ?_ _) | (with_reducible refine Kd.C_drew ?_)))
    (case side8 => exact HC0_5.out)
    (case side9 => repeat (first | exact (AmbC_below HAMB.out HB.out) | (with_reducible refine AmbC_alloc ?_ _) | (with_reducible refine AmbC_drewN ?_ _) | (with_reducible refine AmbC_drew ?_)))
    rintro e w19 ⟨rfl, hb⟩
    refine ⟨_, rfl, ?_⟩
    have n0_ := Aside0.mk (blk_below (g := gb294) (o := .cells #[.string a0_0, .slice A0_1 l0_1.length c0_1, .slice A0_2 l0_2.length c0_2, .slice (a0_3).A (a0_3).n (a0_3).c, .slice A0_4 l0_4.length c0_4, .slice A0_5 l0_5.length c0_5, .int .i64 a0_6, .int .i64 a0_7, .int .i64 a0_8, .int .i64 a0_9, .string a0_10, .int .i64 a0_11, .int .i64 a0_12, .int .i64 a0_13, .bool a0_14] 30 (0, 0)) (by (with_reducible repeat (first | refine blk_drewN ?_ _ | refine blk_drew ?_ | refine blk_alloc ?_ _)); exact BK294.out) hb)
    have n1_ := Aside0.mk (below_step (by repeat (first | (with_reducible first | exact HB.out | apply below_alloc | apply pw_below_drewN | apply below_drew1 | refine below_set ?_ GE294.out) | exact HB.out)) hb)
    clear BK294
    clear HB
    have BK294 := n0_
    have HB := n1_
    clear n0_ n1_
    (try clear hb)
    (try clear hb2)
    (try clear hk)
    (try clear hi)
    refine hK.out _ _ ⟨(blk_cell BK294.out 0).trans rfl, (blk_cell BK294.out 1).trans rfl, (blk_cell BK294.out 2).trans rfl, (blk_cell BK294.out 3).trans rfl, (blk_cell BK294.out 4).trans rfl, (blk_cell BK294.out 5).trans rfl, (blk_cell BK294.out 6).trans rfl, (blk_cell BK294.out 7).trans rfl, (blk_cell BK294.out 8).trans rfl, (blk_cell BK294.out 9).trans rfl, (blk_cell BK294.out 10).trans rfl, (blk_cell BK294.out 11).trans rfl, (blk_cell BK294.out 12).trans rfl, (blk_cell BK294.out 13).trans rfl, (blk_cell BK294.out 14).trans rfl⟩ (fun hHeld => ?_)
    clear hK K
    refine norm_ (a' := ?_) ?_ ?_
    rotate_left
    ·show Act.put _ (some 24) _ = _
     simp only [Act.put, List.setIfInBounds_toArray, List.set_cons_zero, List.set_cons_succ, i64_w, i32_w]
     rfl
    refine pure_ (i := 18) (N := some 25) (v := ?_) (a' := ?_) #[true, true, true, true, true, true, true, true, true, true, true, true, true, true, true, true, true, true, true, false, false, false, false, false, false] rfl rfl (any_of HT_.out (by kernel_rfl)) (fun _ _ _ h => h) (Or.inl ⟨by rfl, ?_⟩) ?_ ?_
    rotate_left
    ·intro w'
     go_simp
     with_reducible rfl
    rotate_left
    ·simp only [Act.put, List.setIfInBounds_toArray, List.set_cons_zero, List.set_cons_succ, i64_w, i32_w]
     rfl
    refine pure_ (i := 19) (N := some 26) (v := ?_) (a' := ?_) #[true, true, true, true, true, true, true, true, true, true, true, true, true, true, true, true, true, true, true, true, false, false, false, false, false] rfl rfl (any_of HT_.out (by kernel_rfl)) (fun _ _ _ h => h) (Or.inl ⟨by rfl, ?_⟩) ?_ ?_
    rotate_left
    ·intro w'
     go_simp
     with_reducible rfl
    rotate_left
    ·simp only [Act.put, List.setIfInBounds_toArray, List.set_cons_zero, List.set_cons_succ, i64_w, i32_w]
     rfl
    refine pure_ (i := 20) (N := some 27) (v := ?_) (a' := ?_) #[true, true, true, true, true, true, true, true, true, true, true, true, true, true, true, true, true, true, true, true, true, false, false, false, false] rfl rfl (any_of HT_.out (by kernel_rfl)) (fun _ _ _ h => h) (Or.inl ⟨by rfl, ?_⟩) ?_ ?_
    rotate_left
    ·intro w'
     go_simp
     with_reducible rfl
    rotate_left
    ·simp only [Act.put, List.setIfInBounds_toArray, List.set_cons_zero, List.set_cons_succ, i64_w, i32_w]
     rfl
    refine pure_ (i := 21) (N := some 28) (v := ?_) (a' := ?_) #[true, true, true, true, true, true, true, true, true, true, true, true, true, true, true, true, true, true, true, true, true, true, false, false, false] rfl rfl (any_of HT_.out (by kernel_rfl)) (fun _ _ _ h => h) (Or.inl ⟨by rfl, ?_⟩) ?_ ?_
    rotate_left
    ·intro w'
     go_simp
     with_reducible rfl
    rotate_left
    ·simp only [Act.put, List.setIfInBounds_toArray, List.set_cons_zero, List.set_cons_succ, i64_w, i32_w]
     rfl
    refine one_ (i := 22) (N := some 29) #[true, true, true, true, true, true, true, true, true, true, true, true, true, true, true, true, true, true, true, true, true, true, true, false, false] rfl rfl (one_of HT_.out (by kernel_rfl)) (by decide) (fun K hK => ?_)
    refine goes_ Tryd.func11 (by kernel_rfl) rfl #[] (by rfl) rfl rfl (by (try simp only [List.map_toArray, List.map_cons, List.map_nil]); first | done | rfl | (simp only [List.length_drop, List.length_take]; rfl)) ?_
    with_reducible refine (jobshelllaw48_awake.calls k  t300 _ ?side1 A12.out).mono ?_
    (case side1 => repeat (first | exact (AmbC_below HAMB.out HB.out) | (with_reducible refine AmbC_alloc ?_ _) | (with_reducible refine AmbC_drewN ?_ _) | (with_reducible refine AmbC_drew ?_)))
    rintro e w20 ⟨rfl, hb⟩
    refine ⟨_, rfl, ?_⟩
    have n0_ := Aside0.mk (blk_below (g := gb294) (o := .cells #[.string a0_0, .slice A0_1 l0_1.length c0_1, .slice A0_2 l0_2.length c0_2, .slice (a0_3).A (a0_3).n (a0_3).c, .slice A0_4 l0_4.length c0_4, .slice A0_5 l0_5.length c0_5, .int .i64 a0_6, .int .i64 a0_7, .int .i64 a0_8, .int .i64 a0_9, .string a0_10, .int .i64 a0_11, .int .i64 a0_12, .int .i64 a0_13, .bool a0_14] 30 (0, 0)) (by (with_reducible repeat (first | refine blk_drewN ?_ _ | refine blk_drew ?_ | refine blk_alloc ?_ _)); exact BK294.out) hb)
    have n1_ := Aside0.mk (below_step (by repeat (first | (with_reducible first | exact HB.out | apply below_alloc | apply pw_below_drewN | apply below_drew1 | refine below_set ?_ GE294.out) | exact HB.out)) hb)
    clear BK294
    clear HB
    have BK294 := n0_
    have HB := n1_
    clear n0_ n1_
    (try clear hb)
    (try clear hb2)
    (try clear hk)
    (try clear hi)
    refine hK.out _ _ ⟨(blk_cell BK294.out 0).trans rfl, (blk_cell BK294.out 1).trans rfl, (blk_cell BK294.out 2).trans rfl, (blk_cell BK294.out 3).trans rfl, (blk_cell BK294.out 4).trans rfl, (blk_cell BK294.out 5).trans rfl, (blk_cell BK294.out 6).trans rfl, (blk_cell BK294.out 7).trans rfl, (blk_cell BK294.out 8).trans rfl, (blk_cell BK294.out 9).trans rfl, (blk_cell BK294.out 10).trans rfl, (blk_cell BK294.out 11).trans rfl, (blk_cell BK294.out 12).trans rfl, (blk_cell BK294.out 13).trans rfl, (blk_cell BK294.out 14).trans rfl⟩ (fun hHeld => ?_)
    clear hK K
    refine norm_ (a' := ?_) ?_ ?_
    rotate_left
    ·show Act.put _ (some 29) _ = _
     simp only [Act.put, List.setIfInBounds_toArray, List.set_cons_zero, List.set_cons_succ, i64_w, i32_w]
     rfl
    refine pure_ (i := 23) (N := some 30) (v := ?_) (a' := ?_) #[true, true, true, true, true, true, true, true, true, true, true, true, true, true, true, true, true, true, true, true, true, true, true, true, false] rfl rfl (any_of HT_.out (by kernel_rfl)) (fun _ _ _ h => h) (Or.inl ⟨by rfl, ?_⟩) ?_ ?_
    rotate_left
    ·intro w'
     go_simp
     with_reducible rfl
    rotate_left
    ·simp only [Act.put, List.setIfInBounds_toArray, List.set_cons_zero, List.set_cons_succ, i64_w, i32_w]
     rfl
    refine pure_ (i := 24) (N := some 6) (v := ?_) (a' := ?_) #[true, true, true, true, true, true, true, true, true, true, true, true, true, true, true, true, true, true, true, true, true, true, true, true, true] rfl rfl (any_of HT_.out (by kernel_rfl)) (fun _ _ _ h => h) (Or.inl ⟨by rfl, ?_⟩) ?_ ?_
    rotate_left
    ·intro w'
     go_simp
     with_reducible rfl
    rotate_left
    ·simp only [Act.put, List.setIfInBounds_toArray, List.set_cons_zero, List.set_cons_succ, i64_w, i32_w]
     rfl
    refine done_ (done_of HT_.out (by kernel_rfl)) ?_
    try go_wp2
    go_ret
    exact ⟨by first | rfl | (simp [errW_none, errW_some] <;> rfl) | (simp [*, errW_none, errW_some] <;> rfl), by repeat (first | (with_reducible first | exact HB.out | apply below_alloc | apply pw_below_drewN | apply below_drew1 | refine below_set ?_ GE294.out) | exact HB.out)⟩
   ·as_aux_lemma =>
    rw [if_neg c11] at H
    have c11b0 : (t298.toList == t299.toList) = false := beq_eq_false_iff_ne.mpr c11
    have c11b1 : (t298.toList != t299.toList) = true := bne_iff_ne.mpr c11
    obtain rfl := Option.some.inj H
    go_enter Tryd.func4, Tryd.ntmps4
    try go_wp2_with (first | ((with_reducible refine gate_dst (N := 3) rfl ?_); refine box_event ?hg (N := 3) ?hd (cs := #[.string a0_0, .slice A0_1 l0_1.length c0_1, .slice A0_2 l0_2.length c0_2, .slice (a0_3).A (a0_3).n (a0_3).c, .slice A0_4 l0_4.length c0_4, .slice A0_5 l0_5.length c0_5, .int .i64 a0_6, .int .i64 a0_7, .int .i64 a0_8, .int .i64 a0_9, .string a0_10, .int .i64 a0_11, .int .i64 a0_12, .int .i64 a0_13, .bool a0_14]) (t := 30) ?hr ?_; (case hd => rfl); (case hg => rfl); (case hr => first | (go_simp; done) | (go_simp; rfl)); intro gb294 hg w21 hbox hb; have n0_ := Aside0.mk (below_step (by repeat (first | (with_reducible first | exact HB.out | apply below_alloc | apply pw_below_drewN | apply below_drew1) | exact HB.out)) hb); have n1_ := Aside0.mk (hbox); have n2_ := Aside0.mk ((by rw [hg]; exact (below_size (by repeat (first | (with_reducible first | exact HB.out | apply below_alloc | apply pw_below_drewN | apply below_drew1) | exact HB.out))) : w.heap.size ≤ gb294)); have n3_ := Aside0.mk ((by rw [hg]; exact (below_size (by repeat (first | (with_reducible first | exact HB.out | apply below_alloc | apply pw_below_drewN | apply below_drew1) | exact HB.out))) : w.heap.size ≤ gb294)); clear HB; have HB := n0_; have BK294 := n1_; have GW294 := n2_; have GE294 := n3_; clear n0_ n1_ n2_ n3_; clear hb hbox hg))
    have n0_ := Aside0.mk (blk_drew BK294.out)
    have n1_ := Aside0.mk (below_drew1 HB.out)
    clear BK294
    clear HB
    have BK294 := n0_
    have HB := n1_
    clear n0_ n1_
    refine start_ (n := 25) (S := fun w' => w'.cell? ⟨gb294, 0, none⟩ = some (.string a0_0) ∧ w'.cell? ⟨gb294, 1, none⟩ = some (.slice A0_1 l0_1.length c0_1) ∧ w'.cell? ⟨gb294, 2, none⟩ = some (.slice A0_2 l0_2.length c0_2) ∧ w'.cell? ⟨gb294, 3, none⟩ = some (.slice (a0_3).A (a0_3).n (a0_3).c) ∧ w'.cell? ⟨gb294, 4, none⟩ = some (.slice A0_4 l0_4.length c0_4) ∧ w'.cell? ⟨gb294, 5, none⟩ = some (.slice A0_5 l0_5.length c0_5) ∧ w'.cell? ⟨gb294, 6, none⟩ = some (.int .i64 a0_6) ∧ w'.cell? ⟨gb294, 7, none⟩ = some (.int .i64 a0_7) ∧ w'.cell? ⟨gb294, 8, none⟩ = some (.int .i64 a0_8) ∧ w'.cell? ⟨gb294, 9, none⟩ = some (.int .i64 a0_9) ∧ w'.cell? ⟨gb294, 10, none⟩ = some (.string a0_10) ∧ w'.cell? ⟨gb294, 11, none⟩ = some (.int .i64 a0_11) ∧ w'.cell? ⟨gb294, 12, none⟩ = some (.int .i64 a0_12) ∧ w'.cell? ⟨gb294, 13, none⟩ = some (.int .i64 a0_13) ∧ w'.cell? ⟨gb294, 14, none⟩ = some (.bool a0_14)) (ds := []) #[false, false, false, false, false, false, false, false, false, false, false, false, false, false, false, false, false, false, false, false, false, false, false, false, false] (by kernel_rfl) rfl rfl ⟨(blk_cell BK294.out 0).trans rfl, (blk_cell BK294.out 1).trans rfl, (blk_cell BK294.out 2).trans rfl, (blk_cell BK294.out 3).trans rfl, (blk_cell BK294.out 4).trans rfl, (blk_cell BK294.out 5).trans rfl, (blk_cell BK294.out 6).trans rfl, (blk_cell BK294.out 7).trans rfl, (blk_cell BK294.out 8).trans rfl, (blk_cell BK294.out 9).trans rfl, (blk_cell BK294.out 10).trans rfl, (blk_cell BK294.out 11).trans rfl, (blk_cell BK294.out 12).trans rfl, (blk_cell BK294.out 13).trans rfl, (blk_cell BK294.out 14).trans rfl⟩ (fun hHeld => ?_); refine with_tabW jobshelllaw48_PromptFirsts.tab1 jobshelllaw48_PromptFirsts.bits1 (fun HT_ HW_ => ?_)
    generalize w21.drew = w22 at BK294 HB hHeld ⊢
    refine take_ (i := 0) (N := some 7) (v := ?_) (a' := ?_) #[true, false, false, false, false, false, false, false, false, false, false, false, false, false, false, false, false, false, false, false, false, false, false, false, false] rfl rfl (take_ofW HT_.out HW_.out (by kernel_rfl)) (fun _ _ _ h => h) (Or.inl ⟨by rfl, ?_⟩) hHeld ?_ ?_
    rotate_left
    ·rintro w' ⟨s0, s1, s2, s3, s4, s5, s6, s7, s8, s9, s10, s11, s12, s13, s14⟩
     go_simp
     with_reducible rfl
    rotate_left
    ·simp only [Act.put, List.setIfInBounds_toArray, List.set_cons_zero, List.set_cons_succ, i64_w, i32_w]
     rfl
    refine one_ (i := 1) (N := some 8) #[true, true, false, false, false, false, false, false, false, false, false, false, false, false, false, false, false, false, false, false, false, false, false, false, false] rfl rfl (one_of HT_.out (by kernel_rfl)) (by decide) (fun K hK => ?_)
    refine goes_ Tryd.func8 (by kernel_rfl) rfl #[.agg #[.string a0_0, .slice A0_1 l0_1.length c0_1, .slice A0_2 l0_2.length c0_2, .slice (a0_3).A (a0_3).n (a0_3).c, .slice A0_4 l0_4.length c0_4, .slice A0_5 l0_5.length c0_5, .int .i64 a0_6, .int .i64 a0_7, .int .i64 a0_8, .int .i64 a0_9, .string a0_10, .int .i64 a0_11, .int .i64 a0_12, .int .i64 a0_13, .bool a0_14]] (by rfl) rfl rfl (by (try simp only [List.map_toArray, List.map_cons, List.map_nil]); first | done | rfl | (simp only [List.length_drop, List.length_take]; rfl)) ?_
    with_reducible refine (jobshelllaw48_small.calls k a0_0 _ _ l0_1 _ _ l0_2 a0_3 _ _ l0_4 _ _ l0_5 a0_6 a0_7 a0_8 a0_9 a0_10 a0_11 a0_12 a0_13 a0_14 true _ ?side1 ?side2 ?side3 ?side4 ?side5 ?side6 ?side7 ?side8 A4.out).mono ?_
    (case side1 => repeat (first | exact (Kd.C_below HR0_1.out HB.out) | (with_reducible refine Kd.C_alloc ?_ _) | (with_reducible refine Kd.C_drewN ?_ _) | (with_reducible refine Kd.C_drew ?_)))
    (case side2 => exact HC0_1.out)
    (case side3 => repeat (first | exact (Kd.C_below HR0_2.out HB.out) | (with_reducible refine Kd.C_alloc ?_ _) | (with_reducible refine Kd.C_drewN ?_ _) | (with_reducible refine Kd.C_drew ?_)))
    (case side4 => exact HC0_2.out)
    (case side5 => repeat (first | exact (Kd.C_below HR0_4.out HB.out) | (with_reducible refine Kd.C_alloc ?_ _) | (with_reducible refine Kd.C_drewN ?_ _) | (with_reducible refine Kd.C_drew ?_)))
    (case side6 => exact HC0_4.out)
    (case side7 => repeat (first | exact (Kd.C_below HR0_5.out HB.out) | (with_reducible refine Kd.C_alloc ?_ _) | (with_reducible refine Kd.C_drewN ?_ _) | (with_reducible refine Kd.C_drew ?_)))
    (case side8 => exact HC0_5.out)
    rintro e w23 ⟨rfl, hb⟩
    refine ⟨_, rfl, ?_⟩
    have n0_ := Aside0.mk (blk_below (g := gb294) (o := .cells #[.string a0_0, .slice A0_1 l0_1.length c0_1, .slice A0_2 l0_2.length c0_2, .slice (a0_3).A (a0_3).n (a0_3).c, .slice A0_4 l0_4.length c0_4, .slice A0_5 l0_5.length c0_5, .int .i64 a0_6, .int .i64 a0_7, .int .i64 a0_8, .int .i64 a0_9, .string a0_10, .int .i64 a0_11, .int .i64 a0_12, .int .i64 a0_13, .bool a0_14] 30 (0, 0)) (by (with_reducible repeat (first | refine blk_drewN ?_ _ | refine blk_drew ?_ | refine blk_alloc ?_ _)); exact BK294.out) hb)
    have n1_ := Aside0.mk (below_step (by repeat (first | (with_reducible first | exact HB.out | apply below_alloc | apply pw_below_drewN | apply below_drew1 | refine below_set ?_ GE294.out) | exact HB.out)) hb)
    clear BK294
    clear HB
    have BK294 := n0_
    have HB := n1_
    clear n0_ n1_
    (try clear hb)
    (try clear hb2)
    (try clear hk)
    (try clear hi)
    refine hK.out _ _ ⟨(blk_cell BK294.out 0).trans rfl, (blk_cell BK294.out 1).trans rfl, (blk_cell BK294.out 2).trans rfl, (blk_cell BK294.out 3).trans rfl, (blk_cell BK294.out 4).trans rfl, (blk_cell BK294.out 5).trans rfl, (blk_cell BK294.out 6).trans rfl, (blk_cell BK294.out 7).trans rfl, (blk_cell BK294.out 8).trans rfl, (blk_cell BK294.out 9).trans rfl, (blk_cell BK294.out 10).trans rfl, (blk_cell BK294.out 11).trans rfl, (blk_cell BK294.out 12).trans rfl, (blk_cell BK294.out 13).trans rfl, (blk_cell BK294.out 14).trans rfl⟩ (fun hHeld => ?_)
    clear hK K
    refine norm_ (a' := ?_) ?_ ?_
    rotate_left
    ·show Act.put _ (some 8) _ = _
     simp only [Act.put, List.setIfInBounds_toArray, List.set_cons_zero, List.set_cons_succ, i64_w, i32_w]
     rfl
    refine pure_ (i := 2) (N := some 9) (v := ?_) (a' := ?_) #[true, true, true, false, false, false, false, false, false, false, false, false, false, false, false, false, false, false, false, false, false, false, false, false, false] rfl rfl (any_of HT_.out (by kernel_rfl)) (fun _ _ _ h => h) (Or.inl ⟨by rfl, ?_⟩) ?_ ?_
    rotate_left
    ·intro w'
     go_simp
     with_reducible rfl
    rotate_left
    ·simp only [Act.put, List.setIfInBounds_toArray, List.set_cons_zero, List.set_cons_succ, i64_w, i32_w]
     rfl
    refine pure_ (i := 3) (N := some 10) (v := ?_) (a' := ?_) #[true, true, true, true, false, false, false, false, false, false, false, false, false, false, false, false, false, false, false, false, false, false, false, false, false] rfl rfl (any_of HT_.out (by kernel_rfl)) (fun _ _ _ h => h) (Or.inl ⟨by rfl, ?_⟩) ?_ ?_
    rotate_left
    ·intro w'
     go_simp
     with_reducible rfl
    rotate_left
    ·simp only [Act.put, List.setIfInBounds_toArray, List.set_cons_zero, List.set_cons_succ, i64_w, i32_w]
     rfl
    refine pure_ (i := 5) (N := some 12) (v := ?_) (a' := ?_) #[true, true, true, true, false, true, false, false, false, false, false, false, false, false, false, false, false, false, false, false, false, false, false, false, false] rfl rfl (any_of HT_.out (by kernel_rfl)) (fun _ _ _ h => h) (Or.inl ⟨by rfl, ?_⟩) ?_ ?_
    rotate_left
    ·intro w'
     go_simp
     with_reducible rfl
    rotate_left
    ·simp only [Act.put, List.setIfInBounds_toArray, List.set_cons_zero, List.set_cons_succ, i64_w, i32_w]
     rfl
    refine pure_ (i := 6) (N := some 13) (v := ?_) (a' := ?_) #[true, true, true, true, false, true, true, false, false, false, false, false, false, false, false, false, false, false, false, false, false, false, false, false, false] rfl rfl (any_of HT_.out (by kernel_rfl)) (fun _ _ _ h => h) (Or.inl ⟨by rfl, ?_⟩) ?_ ?_
    rotate_left
    ·intro w'
     go_simp
     with_reducible rfl
    rotate_left
    ·simp only [Act.put, List.setIfInBounds_toArray, List.set_cons_zero, List.set_cons_succ, i64_w, i32_w]
     rfl
    refine pure_ (i := 9) (N := some 16) (v := ?_) (a' := ?_) #[true, true, true, true, false, true, true, false, false, true, false, false, false, false, false, false, false, false, false, false, false, false, false, false, false] rfl rfl (any_of HT_.out (by kernel_rfl)) (fun _ _ _ h => h) (Or.inl ⟨by rfl, ?_⟩) ?_ ?_
    rotate_left
    ·intro w'
     go_simp
     with_reducible rfl
    rotate_left
    ·simp only [Act.put, List.setIfInBounds_toArray, List.set_cons_zero, List.set_cons_succ, i64_w, i32_w]
     rfl
    refine pure_ (i := 10) (N := some 17) (v := ?_) (a' := ?_) #[true, true, true, true, false, true, true, false, false, true, true, false, false, false, false, false, false, false, false, false, false, false, false, false, false] rfl rfl (any_of HT_.out (by kernel_rfl)) (fun _ _ _ h => h) (Or.inl ⟨by rfl, ?_⟩) ?_ ?_
    rotate_left
    ·intro w'
     go_simp
     with_reducible rfl
    rotate_left
    ·simp only [Act.put, List.setIfInBounds_toArray, List.set_cons_zero, List.set_cons_succ, i64_w, i32_w]
     rfl
    refine take_ (i := 4) (N := some 11) (v := ?_) (a' := ?_) #[true, true, true, true, true, true, true, false, false, true, true, false, false, false, false, false, false, false, false, false, false, false, false, false, false] rfl rfl (take_ofW HT_.out HW_.out (by kernel_rfl)) (fun _ _ _ h => h) (Or.inl ⟨by rfl, ?_⟩) hHeld ?_ ?_
    rotate_left
    ·rintro w' ⟨s0, s1, s2, s3, s4, s5, s6, s7, s8, s9, s10, s11, s12, s13, s14⟩
     go_simp
     with_reducible rfl
    rotate_left
    ·simp only [Act.put, List.setIfInBounds_toArray, List.set_cons_zero, List.set_cons_succ, i64_w, i32_w]
     rfl
    refine take_ (i := 8) (N := some 15) (v := ?_) (a' := ?_) #[true, true, true, true, true, true, true, false, true, true, true, false, false, false, false, false, false, false, false, false, false, false, false, false, false] rfl rfl (take_ofW HT_.out HW_.out (by kernel_rfl)) (fun _ _ _ h => h) (Or.inl ⟨by rfl, ?_⟩) hHeld ?_ ?_
    rotate_left
    ·rintro w' ⟨s0, s1, s2, s3, s4, s5, s6, s7, s8, s9, s10, s11, s12, s13, s14⟩
     go_simp
     with_reducible rfl
    rotate_left
    ·simp only [Act.put, List.setIfInBounds_toArray, List.set_cons_zero, List.set_cons_succ, i64_w, i32_w]
     rfl
    refine one_ (i := 7) (N := some 14) #[true, true, true, true, true, true, true, true, true, true, true, false, false, false, false, false, false, false, false, false, false, false, false, false, false] rfl rfl (one_of HT_.out (by kernel_rfl)) (by decide) (fun K hK => ?_)
    refine goes_ Tryd.func12 (by kernel_rfl) rfl #[.agg #[.string a0_0, .slice A0_1 l0_1.length c0_1, .slice A0_2 l0_2.length c0_2, .slice (a0_3).A (a0_3).n (a0_3).c, .slice A0_4 l0_4.length c0_4, .slice A0_5 l0_5.length c0_5, .int .i64 a0_6, .int .i64 a0_7, .int .i64 a0_8, .int .i64 a0_9, .string a0_10, .int .i64 a0_11, .int .i64 a0_12, .int .i64 a0_13, .bool a0_14], .int .i64 a1, .int .i64 a2] (by rfl) rfl rfl (by (try simp only [List.map_toArray, List.map_cons, List.map_nil]); first | done | rfl | (simp only [List.length_drop, List.length_take]; rfl)) ?_
    with_reducible refine (prompt_First.calls k a0_0 _ _ l0_1 _ _ l0_2 a0_3 _ _ l0_4 _ _ l0_5 a0_6 a0_7 a0_8 a0_9 a0_10 a0_11 a0_12 a0_13 a0_14 a1 a2 t296 _ ?side1 ?side2 ?side3 ?side4 ?side5 ?side6 ?side7 ?side8 ?side9 A6.out).mono ?_
    (case side1 => repeat (first | exact (Kd.C_below HR0_1.out HB.out) | (with_reducible refine Kd.C_alloc ?_ _) | (with_reducible refine Kd.C_drewN ?_ _) | (with_reducible refine Kd.C_drew ?_)))
    (case side2 => exact HC0_1.out)
    (case side3 => repeat (first | exact (Kd.C_below HR0_2.out HB.out) | (with_reducible refine Kd.C_alloc ?_ _) | (with_reducible refine Kd.C_drewN ?_ _) | (with_reducible refine Kd.C_drew ?_)))
    (case side4 => exact HC0_2.out)
    (case side5 => repeat (first | exact (Kd.C_below HR0_4.out HB.out) | (with_reducible refine Kd.C_alloc ?_ _) | (with_reducible refine Kd.C_drewN ?_ _) | (with_reducible refine Kd.C_drew ?_)))
    (case side6 => exact HC0_4.out)
    (case side7 => repeat (first | exact (Kd.C_below HR0_5.out HB.out) | (with_reducible refine Kd.C_alloc ?_ _) | (with_reducible refine Kd.C_drewN ?_ _) | (with_reducible refine Kd.C_drew ?_)))
    (case side8 => exact HC0_5.out)
    (case side9 => repeat (first | exact (AmbC_below HAMB.out HB.out) | (with_reducible refine AmbC_alloc ?_ _) | (with_reducible refine AmbC_drewN ?_ _) | (with_reducible refine AmbC_drew ?_)))
    rintro e w24 ⟨rfl, hb⟩
    refine ⟨_, rfl, ?_⟩
    have n0_ := Aside0.mk (blk_below (g := gb294) (o := .cells #[.string a0_0, .slice A0_1 l0_1.length c0_1, .slice A0_2 l0_2.length c0_2, .slice (a0_3).A (a0_3).n (a0_3).c, .slice A0_4 l0_4.length c0_4, .slice A0_5 l0_5.length c0_5, .int .i64 a0_6, .int .i64 a0_7, .int .i64 a0_8, .int .i64 a0_9, .string a0_10, .int .i64 a0_11, .int .i64 a0_12, .int .i64 a0_13, .bool a0_14] 30 (0, 0)) (by (with_reducible repeat (first | refine blk_drewN ?_ _ | refine blk_drew ?_ | refine blk_alloc ?_ _)); exact BK294.out) hb)
    have n1_ := Aside0.mk (below_step (by repeat (first | (with_reducible first | exact HB.out | apply below_alloc | apply pw_below_drewN | apply below_drew1 | refine below_set ?_ GE294.out) | exact HB.out)) hb)
    clear BK294
    clear HB
    have BK294 := n0_
    have HB := n1_
    clear n0_ n1_
    (try clear hb)
    (try clear hb2)
    (try clear hk)
    (try clear hi)
    refine hK.out _ _ ⟨(blk_cell BK294.out 0).trans rfl, (blk_cell BK294.out 1).trans rfl, (blk_cell BK294.out 2).trans rfl, (blk_cell BK294.out 3).trans rfl, (blk_cell BK294.out 4).trans rfl, (blk_cell BK294.out 5).trans rfl, (blk_cell BK294.out 6).trans rfl, (blk_cell BK294.out 7).trans rfl, (blk_cell BK294.out 8).trans rfl, (blk_cell BK294.out 9).trans rfl, (blk_cell BK294.out 10).trans rfl, (blk_cell BK294.out 11).trans rfl, (blk_cell BK294.out 12).trans rfl, (blk_cell BK294.out 13).trans rfl, (blk_cell BK294.out 14).trans rfl⟩ (fun hHeld => ?_)
    clear hK K
    refine norm_ (a' := ?_) ?_ ?_
    rotate_left
    ·show Act.put _ (some 14) _ = _
     simp only [Act.put, List.setIfInBounds_toArray, List.set_cons_zero, List.set_cons_succ, i64_w, i32_w]
     rfl
    refine one_ (i := 11) (N := some 18) #[true, true, true, true, true, true, true, true, true, true, true, true, false, false, false, false, false, false, false, false, false, false, false, false, false] rfl rfl (one_of HT_.out (by kernel_rfl)) (by decide) (fun K hK => ?_)
    refine goes_ Tryd.func13 (by kernel_rfl) rfl #[.agg #[.string a0_0, .slice A0_1 l0_1.length c0_1, .slice A0_2 l0_2.length c0_2, .slice (a0_3).A (a0_3).n (a0_3).c, .slice A0_4 l0_4.length c0_4, .slice A0_5 l0_5.length c0_5, .int .i64 a0_6, .int .i64 a0_7, .int .i64 a0_8, .int .i64 a0_9, .string a0_10, .int .i64 a0_11, .int .i64 a0_12, .int .i64 a0_13, .bool a0_14], .int .i64 a1, .int .i64 a2] (by rfl) rfl rfl (by (try simp only [List.map_toArray, List.map_cons, List.map_nil]); first | done | rfl | (simp only [List.length_drop, List.length_take]; rfl)) ?_
    with_reducible refine (jobshellref48_First.calls k a0_0 _ _ l0_1 _ _ l0_2 a0_3 _ _ l0_4 _ _ l0_5 a0_6 a0_7 a0_8 a0_9 a0_10 a0_11 a0_12 a0_13 a0_14 a1 a2 t297 _ ?side1 ?side2 ?side3 ?side4 ?side5 ?side6 ?side7 ?side8 ?side9 A7.out).mono ?_
    (case side1 => repeat (first | exact (Kd.C_below HR0_1.out HB.out) | (with_reducible refine Kd.C_alloc ?_ _) | (with_reducible refine Kd.C_drewN ?_ _) | (with_reducible refine Kd.C_drew ?_)))
    (case side2 => exact HC0_1.out)
    (case side3 => repeat (first | exact (Kd.C_below HR0_2.out HB.out) | (with_reducible refine Kd.C_alloc ?_ _) | (with_reducible refine Kd.C_drewN ?_ _) | (with_reducible refine Kd.C_drew ?_)))
    (case side4 => exact HC0_2.out)
    (case side5 => repeat (first | exact (Kd.C_below HR0_4.out HB.out) | (with_reducible refine Kd.C_alloc ?_ _) | (with_reducible refine Kd.C_drewN ?_ _) | (with_reducible refine Kd.C_drew ?_)))
    (case side6 => exact HC0_4.out)
    (case side7 => repeat (first | exact (Kd.C_below HR0_5.out HB.out) | (with_reducible refine Kd.C_alloc ?_ _) | (with_reducible refine Kd.C_drewN ?_ _) | (with_reducible refine Kd.C_drew ?_)))
    (case side8 => exact HC0_5.out)
    (case side9 => repeat (first | exact (AmbC_below HAMB.out HB.out) | (with_reducible refine AmbC_alloc ?_ _) | (with_reducible refine AmbC_drewN ?_ _) | (with_reducible refine AmbC_drew ?_)))
    rintro e w25 ⟨rfl, hb⟩
    refine ⟨_, rfl, ?_⟩
    have n0_ := Aside0.mk (blk_below (g := gb294) (o := .cells #[.string a0_0, .slice A0_1 l0_1.length c0_1, .slice A0_2 l0_2.length c0_2, .slice (a0_3).A (a0_3).n (a0_3).c, .slice A0_4 l0_4.length c0_4, .slice A0_5 l0_5.length c0_5, .int .i64 a0_6, .int .i64 a0_7, .int .i64 a0_8, .int .i64 a0_9, .string a0_10, .int .i64 a0_11, .int .i64 a0_12, .int .i64 a0_13, .bool a0_14] 30 (0, 0)) (by (with_reducible repeat (first | refine blk_drewN ?_ _ | refine blk_drew ?_ | refine blk_alloc ?_ _)); exact BK294.out) hb)
    have n1_ := Aside0.mk (below_step (by repeat (first | (with_reducible first | exact HB.out | apply below_alloc | apply pw_below_drewN | apply below_drew1 | refine below_set ?_ GE294.out) | exact HB.out)) hb)
    clear BK294
    clear HB
    have BK294 := n0_
    have HB := n1_
    clear n0_ n1_
    (try clear hb)
    (try clear hb2)
    (try clear hk)
    (try clear hi)
    refine hK.out _ _ ⟨(blk_cell BK294.out 0).trans rfl, (blk_cell BK294.out 1).trans rfl, (blk_cell BK294.out 2).trans rfl, (blk_cell BK294.out 3).trans rfl, (blk_cell BK294.out 4).trans rfl, (blk_cell BK294.out 5).trans rfl, (blk_cell BK294.out 6).trans rfl, (blk_cell BK294.out 7).trans rfl, (blk_cell BK294.out 8).trans rfl, (blk_cell BK294.out 9).trans rfl, (blk_cell BK294.out 10).trans rfl, (blk_cell BK294.out 11).trans rfl, (blk_cell BK294.out 12).trans rfl, (blk_cell BK294.out 13).trans rfl, (blk_cell BK294.out 14).trans rfl⟩ (fun hHeld => ?_)
    clear hK K
    refine norm_ (a' := ?_) ?_ ?_
    rotate_left
    ·show Act.put _ (some 18) _ = _
     simp only [Act.put, List.setIfInBounds_toArray, List.set_cons_zero, List.set_cons_succ, i64_w, i32_w]
     rfl
    refine pure_ (i := 12) (N := some 19) (v := ?_) (a' := ?_) #[true, true, true, true, true, true, true, true, true, true, true, true, true, false, false, false, false, false, false, false, false, false, false, false, false] rfl rfl (any_of HT_.out (by kernel_rfl)) (fun _ _ _ h => h) (Or.inl ⟨by rfl, ?_⟩) ?_ ?_
    rotate_left
    ·intro w'
     go_simp
     with_reducible rfl
    rotate_left
    ·simp only [Act.put, List.setIfInBounds_toArray, List.set_cons_zero, List.set_cons_succ, i64_w, i32_w]
     rfl
    refine pure_ (i := 13) (N := some 20) (v := ?_) (a' := ?_) #[true, true, true, true, true, true, true, true, true, true, true, true, true, true, false, false, false, false, false, false, false, false, false, false, false] rfl rfl (any_of HT_.out (by kernel_rfl)) (fun _ _ _ h => h) (Or.inl ⟨by rfl, ?_⟩) ?_ ?_
    rotate_left
    ·intro w'
     go_simp
     with_reducible rfl
    rotate_left
    ·simp only [Act.put, List.setIfInBounds_toArray, List.set_cons_zero, List.set_cons_succ, i64_w, i32_w]
     rfl
    refine take_ (i := 14) (N := some 21) (v := ?_) (a' := ?_) #[true, true, true, true, true, true, true, true, true, true, true, true, true, true, true, false, false, false, false, false, false, false, false, false, false] rfl rfl (take_ofW HT_.out HW_.out (by kernel_rfl)) (fun _ _ _ h => h) (Or.inl ⟨by rfl, ?_⟩) hHeld ?_ ?_
    rotate_left
    ·rintro w' ⟨s0, s1, s2, s3, s4, s5, s6, s7, s8, s9, s10, s11, s12, s13, s14⟩
     go_simp
     with_reducible rfl
    rotate_left
    ·simp only [Act.put, List.setIfInBounds_toArray, List.set_cons_zero, List.set_cons_succ, i64_w, i32_w]
     rfl
    refine take_ (i := 16) (N := some 23) (v := ?_) (a' := ?_) #[true, true, true, true, true, true, true, true, true, true, true, true, true, true, true, false, true, false, false, false, false, false, false, false, false] rfl rfl (take_ofW HT_.out HW_.out (by kernel_rfl)) (fun _ _ _ h => h) (Or.inl ⟨by rfl, ?_⟩) hHeld ?_ ?_
    rotate_left
    ·rintro w' ⟨s0, s1, s2, s3, s4, s5, s6, s7, s8, s9, s10, s11, s12, s13, s14⟩
     go_simp
     with_reducible rfl
    rotate_left
    ·simp only [Act.put, List.setIfInBounds_toArray, List.set_cons_zero, List.set_cons_succ, i64_w, i32_w]
     rfl
    refine one_ (i := 15) (N := some 22) #[true, true, true, true, true, true, true, true, true, true, true, true, true, true, true, true, true, false, false, false, false, false, false, false, false] rfl rfl (one_of HT_.out (by kernel_rfl)) (by decide) (fun K hK => ?_)
    refine goes_ Tryd.func14 (by kernel_rfl) rfl #[.agg #[.string a0_0, .slice A0_1 l0_1.length c0_1, .slice A0_2 l0_2.length c0_2, .slice (a0_3).A (a0_3).n (a0_3).c, .slice A0_4 l0_4.length c0_4, .slice A0_5 l0_5.length c0_5, .int .i64 a0_6, .int .i64 a0_7, .int .i64 a0_8, .int .i64 a0_9, .string a0_10, .int .i64 a0_11, .int .i64 a0_12, .int .i64 a0_13, .bool a0_14]] (by rfl) rfl rfl (by (try simp only [List.map_toArray, List.map_cons, List.map_nil]); first | done | rfl | (simp only [List.length_drop, List.length_take]; rfl)) ?_
    with_reducible refine (prompt_Second.calls k a0_0 _ _ l0_1 _ _ l0_2 a0_3 _ _ l0_4 _ _ l0_5 a0_6 a0_7 a0_8 a0_9 a0_10 a0_11 a0_12 a0_13 a0_14 t298 _ ?side1 ?side2 ?side3 ?side4 ?side5 ?side6 ?side7 ?side8 ?side9 A9.out).mono ?_
    (case side1 => repeat (first | exact (Kd.C_below HR0_1.out HB.out) | (with_reducible refine Kd.C_alloc ?_ _) | (with_reducible refine Kd.C_drewN ?_ _) | (with_reducible refine Kd.C_drew ?_)))
    (case side2 => exact HC0_1.out)
    (case side3 => repeat (first | exact (Kd.C_below HR0_2.out HB.out) | (with_reducible refine Kd.C_alloc ?_ _) | (with_reducible refine Kd.C_drewN ?_ _) | (with_reducible refine Kd.C_drew ?_)))
    (case side4 => exact HC0_2.out)
    (case side5 => repeat (first | exact (Kd.C_below HR0_4.out HB.out) | (with_reducible refine Kd.C_alloc ?_ _) | (with_reducible refine Kd.C_drewN ?_ _) | (with_reducible refine Kd.C_drew ?_)))
    (case side6 => exact HC0_4.out)
    (case side7 => repeat (first | exact (Kd.C_below HR0_5.out HB.out) | (with_reducible refine Kd.C_alloc ?_ _) | (with_reducible refine Kd.C_drewN ?_ _) | (with_reducible refine Kd.C_drew ?_)))
    (case side8 => exact HC0_5.out)
    (case side9 => repeat (first | exact (AmbC_below HAMB.out HB.out) | (with_reducible refine AmbC_alloc ?_ _) | (with_reducible refine AmbC_drewN ?_ _) | (with_reducible refine AmbC_drew ?_)))
    rintro e w26 ⟨rfl, hb⟩
    refine ⟨_, rfl, ?_⟩
    have n0_ := Aside0.mk (blk_below (g := gb294) (o := .cells #[.string a0_0, .slice A0_1 l0_1.length c0_1, .slice A0_2 l0_2.length c0_2, .slice (a0_3).A (a0_3).n (a0_3).c, .slice A0_4 l0_4.length c0_4, .slice A0_5 l0_5.length c0_5, .int .i64 a0_6, .int .i64 a0_7, .int .i64 a0_8, .int .i64 a0_9, .string a0_10, .int .i64 a0_11, .int .i64 a0_12, .int .i64 a0_13, .bool a0_14] 30 (0, 0)) (by (with_reducible repeat (first | refine blk_drewN ?_ _ | refine blk_drew ?_ | refine blk_alloc ?_ _)); exact BK294.out) hb)
    have n1_ := Aside0.mk (below_step (by repeat (first | (with_reducible first | exact HB.out | apply below_alloc | apply pw_below_drewN | apply below_drew1 | refine below_set ?_ GE294.out) | exact HB.out)) hb)
    clear BK294
    clear HB
    have BK294 := n0_
    have HB := n1_
    clear n0_ n1_
    (try clear hb)
    (try clear hb2)
    (try clear hk)
    (try clear hi)
    refine hK.out _ _ ⟨(blk_cell BK294.out 0).trans rfl, (blk_cell BK294.out 1).trans rfl, (blk_cell BK294.out 2).trans rfl, (blk_cell BK294.out 3).trans rfl, (blk_cell BK294.out 4).trans rfl, (blk_cell BK294.out 5).trans rfl, (blk_cell BK294.out 6).trans rfl, (blk_cell BK294.out 7).trans rfl, (blk_cell BK294.out 8).trans rfl, (blk_cell BK294.out 9).trans rfl, (blk_cell BK294.out 10).trans rfl, (blk_cell BK294.out 11).trans rfl, (blk_cell BK294.out 12).trans rfl, (blk_cell BK294.out 13).trans rfl, (blk_cell BK294.out 14).trans rfl⟩ (fun hHeld => ?_)
    clear hK K
    refine norm_ (a' := ?_) ?_ ?_
    rotate_left
    ·show Act.put _ (some 22) _ = _
     simp only [Act.put, List.setIfInBounds_toArray, List.set_cons_zero, List.set_cons_succ, i64_w, i32_w]
     rfl
    refine one_ (i := 17) (N := some 24) #[true, true, true, true, true, true, true, true, true, true, true, true, true, true, true, true, true, true, false, false, false, false, false, false, false] rfl rfl (one_of HT_.out (by kernel_rfl)) (by decide) (fun K hK => ?_)
    refine goes_ Tryd.func15 (by kernel_rfl) rfl #[.agg #[.string a0_0, .slice A0_1 l0_1.length c0_1, .slice A0_2 l0_2.length c0_2, .slice (a0_3).A (a0_3).n (a0_3).c, .slice A0_4 l0_4.length c0_4, .slice A0_5 l0_5.length c0_5, .int .i64 a0_6, .int .i64 a0_7, .int .i64 a0_8, .int .i64 a0_9, .string a0_10, .int .i64 a0_11, .int .i64 a0_12, .int .i64 a0_13, .bool a0_14]] (by rfl) rfl rfl (by (try simp only [List.map_toArray, List.map_cons, List.map_nil]); first | done | rfl | (simp only [List.length_drop, List.length_take]; rfl)) ?_
    with_reducible refine (jobshellref48_Second.calls k a0_0 _ _ l0_1 _ _ l0_2 a0_3 _ _ l0_4 _ _ l0_5 a0_6 a0_7 a0_8 a0_9 a0_10 a0_11 a0_12 a0_13 a0_14 t299 _ ?side1 ?side2 ?side3 ?side4 ?side5 ?side6 ?side7 ?side8 ?side9 A10.out).mono ?_
    (case side1 => repeat (first | exact (Kd.C_below HR0_1.out HB.out) | (with_reducible refine Kd.C_alloc ?_ _) | (with_reducible refine Kd.C_drewN ?_ _) | (with_reducible refine Kd.C_drew ?_)))
    (case side2 => exact HC0_1.out)
    (case side3 => repeat (first | exact (Kd.C_below HR0_2.out HB.out) | (with_reducible refine Kd.C_alloc ?_ _) | (with_reducible refine Kd.C_drewN ?_ _) | (with_reducible refine Kd.C_drew ?_)))
    (case side4 => exact HC0_2.out)
    (case side5 => repeat (first | exact (Kd.C_below HR0_4.out HB.out) | (with_reducible refine Kd.C_alloc ?_ _) | (with_reducible refine Kd.C_drewN ?_ _) | (with_reducible refine Kd.C_drew ?_)))
    (case side6 => exact HC0_4.out)
    (case side7 => repeat (first | exact (Kd.C_below HR0_5.out HB.out) | (with_reducible refine Kd.C_alloc ?_ _) | (with_reducible refine Kd.C_drewN ?_ _) | (with_reducible refine Kd.C_drew ?_)))
    (case side8 => exact HC0_5.out)
    (case side9 => repeat (first | exact (AmbC_below HAMB.out HB.out) | (with_reducible refine AmbC_alloc ?_ _) | (with_reducible refine AmbC_drewN ?_ _) | (with_reducible refine AmbC_drew ?_)))
    rintro e w27 ⟨rfl, hb⟩
    refine ⟨_, rfl, ?_⟩
    have n0_ := Aside0.mk (blk_below (g := gb294) (o := .cells #[.string a0_0, .slice A0_1 l0_1.length c0_1, .slice A0_2 l0_2.length c0_2, .slice (a0_3).A (a0_3).n (a0_3).c, .slice A0_4 l0_4.length c0_4, .slice A0_5 l0_5.length c0_5, .int .i64 a0_6, .int .i64 a0_7, .int .i64 a0_8, .int .i64 a0_9, .string a0_10, .int .i64 a0_11, .int .i64 a0_12, .int .i64 a0_13, .bool a0_14] 30 (0, 0)) (by (with_reducible repeat (first | refine blk_drewN ?_ _ | refine blk_drew ?_ | refine blk_alloc ?_ _)); exact BK294.out) hb)
    have n1_ := Aside0.mk (below_step (by repeat (first | (with_reducible first | exact HB.out | apply below_alloc | apply pw_below_drewN | apply below_drew1 | refine below_set ?_ GE294.out) | exact HB.out)) hb)
    clear BK294
    clear HB
    have BK294 := n0_
    have HB := n1_
    clear n0_ n1_
    (try clear hb)
    (try clear hb2)
    (try clear hk)
    (try clear hi)
    refine hK.out _ _ ⟨(blk_cell BK294.out 0).trans rfl, (blk_cell BK294.out 1).trans rfl, (blk_cell BK294.out 2).trans rfl, (blk_cell BK294.out 3).trans rfl, (blk_cell BK294.out 4).trans rfl, (blk_cell BK294.out 5).trans rfl, (blk_cell BK294.out 6).trans rfl, (blk_cell BK294.out 7).trans rfl, (blk_cell BK294.out 8).trans rfl, (blk_cell BK294.out 9).trans rfl, (blk_cell BK294.out 10).trans rfl, (blk_cell BK294.out 11).trans rfl, (blk_cell BK294.out 12).trans rfl, (blk_cell BK294.out 13).trans rfl, (blk_cell BK294.out 14).trans rfl⟩ (fun hHeld => ?_)
    clear hK K
    refine norm_ (a' := ?_) ?_ ?_
    rotate_left
    ·show Act.put _ (some 24) _ = _
     simp only [Act.put, List.setIfInBounds_toArray, List.set_cons_zero, List.set_cons_succ, i64_w, i32_w]
     rfl
    refine pure_ (i := 18) (N := some 25) (v := ?_) (a' := ?_) #[true, true, true, true, true, true, true, true, true, true, true, true, true, true, true, true, true, true, true, false, false, false, false, false, false] rfl rfl (any_of HT_.out (by kernel_rfl)) (fun _ _ _ h => h) (Or.inl ⟨by rfl, ?_⟩) ?_ ?_
    rotate_left
    ·intro w'
     go_simp
     with_reducible rfl
    rotate_left
    ·simp only [Act.put, List.setIfInBounds_toArray, List.set_cons_zero, List.set_cons_succ, i64_w, i32_w]
     rfl
    refine pure_ (i := 19) (N := some 26) (v := ?_) (a' := ?_) #[true, true, true, true, true, true, true, true, true, true, true, true, true, true, true, true, true, true, true, true, false, false, false, false, false] rfl rfl (any_of HT_.out (by kernel_rfl)) (fun _ _ _ h => h) (Or.inl ⟨by rfl, ?_⟩) ?_ ?_
    rotate_left
    ·intro w'
     go_simp
     with_reducible rfl
    rotate_left
    ·simp only [Act.put, List.setIfInBounds_toArray, List.set_cons_zero, List.set_cons_succ, i64_w, i32_w]
     rfl
    refine pure_ (i := 20) (N := some 27) (v := ?_) (a' := ?_) #[true, true, true, true, true, true, true, true, true, true, true, true, true, true, true, true, true, true, true, true, true, false, false, false, false] rfl rfl (any_of HT_.out (by kernel_rfl)) (fun _ _ _ h => h) (Or.inl ⟨by rfl, ?_⟩) ?_ ?_
    rotate_left
    ·intro w'
     go_simp
     with_reducible rfl
    rotate_left
    ·simp only [Act.put, List.setIfInBounds_toArray, List.set_cons_zero, List.set_cons_succ, i64_w, i32_w]
     rfl
    refine pure_ (i := 21) (N := some 28) (v := ?_) (a' := ?_) #[true, true, true, true, true, true, true, true, true, true, true, true, true, true, true, true, true, true, true, true, true, true, false, false, false] rfl rfl (any_of HT_.out (by kernel_rfl)) (fun _ _ _ h => h) (Or.inl ⟨by rfl, ?_⟩) ?_ ?_
    rotate_left
    ·intro w'
     go_simp
     with_reducible rfl
    rotate_left
    ·simp only [Act.put, List.setIfInBounds_toArray, List.set_cons_zero, List.set_cons_succ, i64_w, i32_w]
     rfl
    refine pure_ (i := 22) (N := some 29) (v := undef) (a' := ?_) #[true, true, true, true, true, true, true, true, true, true, true, true, true, true, true, true, true, true, true, true, true, true, true, false, false] rfl rfl (any_of HT_.out (by kernel_rfl)) (fun _ _ _ h => h) (Or.inr ⟨by rfl, rfl⟩) ?_ ?_
    rotate_left
    ·simp only [Act.put, List.setIfInBounds_toArray, List.set_cons_zero, List.set_cons_succ, i64_w, i32_w]
     rfl
    refine pure_ (i := 23) (N := some 30) (v := ?_) (a' := ?_) #[true, true, true, true, true, true, true, true, true, true, true, true, true, true, true, true, true, true, true, true, true, true, true, true, false] rfl rfl (any_of HT_.out (by kernel_rfl)) (fun _ _ _ h => h) (Or.inl ⟨by rfl, ?_⟩) ?_ ?_
    rotate_left
    ·intro w'
     go_simp
     with_reducible rfl
    rotate_left
    ·simp only [Act.put, List.setIfInBounds_toArray, List.set_cons_zero, List.set_cons_succ, i64_w, i32_w]
     rfl
    refine pure_ (i := 24) (N := some 6) (v := ?_) (a' := ?_) #[true, true, true, true, true, true, true, true, true, true, true, true, true, true, true, true, true, true, true, true, true, true, true, true, true] rfl rfl (any_of HT_.out (by kernel_rfl)) (fun _ _ _ h => h) (Or.inl ⟨by rfl, ?_⟩) ?_ ?_
    rotate_left
    ·intro w'
     go_simp
     with_reducible rfl
    rotate_left
    ·simp only [Act.put, List.setIfInBounds_toArray, List.set_cons_zero, List.set_cons_succ, i64_w, i32_w]
     rfl
    refine done_ (done_of HT_.out (by kernel_rfl)) ?_
    try go_wp2
    go_ret
    exact ⟨by first | rfl | (simp [errW_none, errW_some] <;> rfl) | (simp [*, errW_none, errW_some] <;> rfl), by repeat (first | (with_reducible first | exact HB.out | apply below_alloc | apply pw_below_drewN | apply below_drew1 | refine below_set ?_ GE294.out) | exact HB.out)⟩
  ·as_aux_lemma =>
   rw [if_neg c8] at H
   have c8b0 : (t296.toList == t297.toList) = false := beq_eq_false_iff_ne.mpr c8
   have c8b1 : (t296.toList != t297.toList) = true := bne_iff_ne.mpr c8
   obtain rfl := Option.some.inj H
   go_enter Tryd.func4, Tryd.ntmps4
   try go_wp2_with (first | ((with_reducible refine gate_dst (N := 3) rfl ?_); refine box_event ?hg (N := 3) ?hd (cs := #[.string a0_0, .slice A0_1 l0_1.length c0_1, .slice A0_2 l0_2.length c0_2, .slice (a0_3).A (a0_3).n (a0_3).c, .slice A0_4 l0_4.length c0_4, .slice A0_5 l0_5.length c0_5, .int .i64 a0_6, .int .i64 a0_7, .int .i64 a0_8, .int .i64 a0_9, .string a0_10, .int .i64 a0_11, .int .i64 a0_12, .int .i64 a0_13, .bool a0_14]) (t := 30) ?hr ?_; (case hd => rfl); (case hg => rfl); (case hr => first | (go_simp; done) | (go_simp; rfl)); intro gb294 hg w28 hbox hb; have n0_ := Aside0.mk (below_step (by repeat (first | (with_reducible first | exact HB.out | apply below_alloc | apply pw_below_drewN | apply below_drew1) | exact HB.out)) hb); have n1_ := Aside0.mk (hbox); have n2_ := Aside0.mk ((by rw [hg]; exact (below_size (by repeat (first | (with_reducible first | exact HB.out | apply below_alloc | apply pw_below_drewN | apply below_drew1) | exact HB.out))) : w.heap.size ≤ gb294)); have n3_ := Aside0.mk ((by rw [hg]; exact (below_size (by repeat (first | (with_reducible first | exact HB.out | apply below_alloc | apply pw_below_drewN | apply below_drew1) | exact HB.out))) : w.heap.size ≤ gb294)); clear HB; have HB := n0_; have BK294 := n1_; have GW294 := n2_; have GE294 := n3_; clear n0_ n1_ n2_ n3_; clear hb hbox hg))
   have n0_ := Aside0.mk (blk_drew BK294.out)
   have n1_ := Aside0.mk (below_drew1 HB.out)
   clear BK294
   clear HB
   have BK294 := n0_
   have HB := n1_
   clear n0_ n1_
   refine start_ (n := 25) (S := fun w' => w'.cell? ⟨gb294, 0, none⟩ = some (.string a0_0) ∧ w'.cell? ⟨gb294, 1, none⟩ = some (.slice A0_1 l0_1.length c0_1) ∧ w'.cell? ⟨gb294, 2, none⟩ = some (.slice A0_2 l0_2.length c0_2) ∧ w'.cell? ⟨gb294, 3, none⟩ = some (.slice (a0_3).A (a0_3).n (a0_3).c) ∧ w'.cell? ⟨gb294, 4, none⟩ = some (.slice A0_4 l0_4.length c0_4) ∧ w'.cell? ⟨gb294, 5, none⟩ = some (.slice A0_5 l0_5.length c0_5) ∧ w'.cell? ⟨gb294, 6, none⟩ = some (.int .i64 a0_6) ∧ w'.cell? ⟨gb294, 7, none⟩ = some (.int .i64 a0_7) ∧ w'.cell? ⟨gb294, 8, none⟩ = some (.int .i64 a0_8) ∧ w'.cell? ⟨gb294, 9, none⟩ = some (.int .i64 a0_9) ∧ w'.cell? ⟨gb294, 10, none⟩ = some (.string a0_10) ∧ w'.cell? ⟨gb294, 11, none⟩ = some (.int .i64 a0_11) ∧ w'.cell? ⟨gb294, 12, none⟩ = some (.int .i64 a0_12) ∧ w'.cell? ⟨gb294, 13, none⟩ = some (.int .i64 a0_13) ∧ w'.cell? ⟨gb294, 14, none⟩ = some (.bool a0_14)) (ds := []) #[false, false, false, false, false, false, false, false, false, false, false, false, false, false, false, false, false, false, false, false, false, false, false, false, false] (by kernel_rfl) rfl rfl ⟨(blk_cell BK294.out 0).trans rfl, (blk_cell BK294.out 1).trans rfl, (blk_cell BK294.out 2).trans rfl, (blk_cell BK294.out 3).trans rfl, (blk_cell BK294.out 4).trans rfl, (blk_cell BK294.out 5).trans rfl, (blk_cell BK294.out 6).trans rfl, (blk_cell BK294.out 7).trans rfl, (blk_cell BK294.out 8).trans rfl, (blk_cell BK294.out 9).trans rfl, (blk_cell BK294.out 10).trans rfl, (blk_cell BK294.out 11).trans rfl, (blk_cell BK294.out 12).trans rfl, (blk_cell BK294.out 13).trans rfl, (blk_cell BK294.out 14).trans rfl⟩ (fun hHeld => ?_); refine with_tabW jobshelllaw48_PromptFirsts.tab1 jobshelllaw48_PromptFirsts.bits1 (fun HT_ HW_ => ?_)
   generalize w28.drew = w29 at BK294 HB hHeld ⊢
   refine take_ (i := 0) (N := some 7) (v := ?_) (a' := ?_) #[true, false, false, false, false, false, false, false, false, false, false, false, false, false, false, false, false, false, false, false, false, false, false, false, false] rfl rfl (take_ofW HT_.out HW_.out (by kernel_rfl)) (fun _ _ _ h => h) (Or.inl ⟨by rfl, ?_⟩) hHeld ?_ ?_
   rotate_left
   ·rintro w' ⟨s0, s1, s2, s3, s4, s5, s6, s7, s8, s9, s10, s11, s12, s13, s14⟩
    go_simp
    with_reducible rfl
   rotate_left
   ·simp only [Act.put, List.setIfInBounds_toArray, List.set_cons_zero, List.set_cons_succ, i64_w, i32_w]
    rfl
   refine one_ (i := 1) (N := some 8) #[true, true, false, false, false, false, false, false, false, false, false, false, false, false, false, false, false, false, false, false, false, false, false, false, false] rfl rfl (one_of HT_.out (by kernel_rfl)) (by decide) (fun K hK => ?_)
   refine goes_ Tryd.func8 (by kernel_rfl) rfl #[.agg #[.string a0_0, .slice A0_1 l0_1.length c0_1, .slice A0_2 l0_2.length c0_2, .slice (a0_3).A (a0_3).n (a0_3).c, .slice A0_4 l0_4.length c0_4, .slice A0_5 l0_5.length c0_5, .int .i64 a0_6, .int .i64 a0_7, .int .i64 a0_8, .int .i64 a0_9, .string a0_10, .int .i64 a0_11, .int .i64 a0_12, .int .i64 a0_13, .bool a0_14]] (by rfl) rfl rfl (by (try simp only [List.map_toArray, List.map_cons, List.map_nil]); first | done | rfl | (simp only [List.length_drop, List.length_take]; rfl)) ?_
   with_reducible refine (jobshelllaw48_small.calls k a0_0 _ _ l0_1 _ _ l0_2 a0_3 _ _ l0_4 _ _ l0_5 a0_6 a0_7 a0_8 a0_9 a0_10 a0_11 a0_12 a0_13 a0_14 true _ ?side1 ?side2 ?side3 ?side4 ?side5 ?side6 ?side7 ?side8 A4.out).mono ?_
   (case side1 => repeat (first | exact (Kd.C_below HR0_1.out HB.out) | (with_reducible refine Kd.C_alloc ?_ _) | (with_reducible refine Kd.C_drewN ?_ _) | (with_reducible refine Kd.C_drew ?_)))
   (case side2 => exact HC0_1.out)
   (case side3 => repeat (first | exact (Kd.C_below HR0_2.out HB.out) | (with_reducible refine Kd.C_alloc ?_ _) | (with_reducible refine Kd.C_drewN ?_ _) | (with_reducible refine Kd.C_drew ?_)))
   (case side4 => exact HC0_2.out)
   (case side5 => repeat (first | exact (Kd.C_below HR0_4.out HB.out) | (with_reducible refine Kd.C_alloc ?_ _) | (with_reducible refine Kd.C_drewN ?_ _) | (with_reducible refine Kd.C_drew ?_)))
   (case side6 => exact HC0_4.out)
   (case side7 => repeat (first | exact (Kd.C_below HR0_5.out HB.out) | (with_reducible refine Kd.C_alloc ?_ _) | (with_reducible refine Kd.C_drewN ?_ _) | (with_reducible refine Kd.C_drew ?_)))
   (case side8 => exact HC0_5.out)
   rintro e w30 ⟨rfl, hb⟩
   refine ⟨_, rfl, ?_⟩
   have n0_ := Aside0.mk (blk_below (g := gb294) (o := .cells #[.string a0_0, .slice A0_1 l0_1.length c0_1, .slice A0_2 l0_2.length c0_2, .slice (a0_3).A (a0_3).n (a0_3).c, .slice A0_4 l0_4.length c0_4, .slice A0_5 l0_5.length c0_5, .int .i64 a0_6, .int .i64 a0_7, .int .i64 a0_8, .int .i64 a0_9, .string a0_10, .int .i64 a0_11, .int .i64 a0_12, .int .i64 a0_13, .bool a0_14] 30 (0, 0)) (by (with_reducible repeat (first | refine blk_drewN ?_ _ | refine blk_drew ?_ | refine blk_alloc ?_ _)); exact BK294.out) hb)
   have n1_ := Aside0.mk (below_step (by repeat (first | (with_reducible first | exact HB.out | apply below_alloc | apply pw_below_drewN | apply below_drew1 | refine below_set ?_ GE294.out) | exact HB.out)) hb)
   clear BK294
   clear HB
   have BK294 := n0_
   have HB := n1_
   clear n0_ n1_
   (try clear hb)
   (try clear hb2)
   (try clear hk)
   (try clear hi)
   refine hK.out _ _ ⟨(blk_cell BK294.out 0).trans rfl, (blk_cell BK294.out 1).trans rfl, (blk_cell BK294.out 2).trans rfl, (blk_cell BK294.out 3).trans rfl, (blk_cell BK294.out 4).trans rfl, (blk_cell BK294.out 5).trans rfl, (blk_cell BK294.out 6).trans rfl, (blk_cell BK294.out 7).trans rfl, (blk_cell BK294.out 8).trans rfl, (blk_cell BK294.out 9).trans rfl, (blk_cell BK294.out 10).trans rfl, (blk_cell BK294.out 11).trans rfl, (blk_cell BK294.out 12).trans rfl, (blk_cell BK294.out 13).trans rfl, (blk_cell BK294.out 14).trans rfl⟩ (fun hHeld => ?_)
   clear hK K
   refine norm_ (a' := ?_) ?_ ?_
   rotate_left
   ·show Act.put _ (some 8) _ = _
    simp only [Act.put, List.setIfInBounds_toArray, List.set_cons_zero, List.set_cons_succ, i64_w, i32_w]
    rfl
   refine pure_ (i := 2) (N := some 9) (v := ?_) (a' := ?_) #[true, true, true, false, false, false, false, false, false, false, false, false, false, false, false, false, false, false, false, false, false, false, false, false, false] rfl rfl (any_of HT_.out (by kernel_rfl)) (fun _ _ _ h => h) (Or.inl ⟨by rfl, ?_⟩) ?_ ?_
   rotate_left
   ·intro w'
    go_simp
    with_reducible rfl
   rotate_left
   ·simp only [Act.put, List.setIfInBounds_toArray, List.set_cons_zero, List.set_cons_succ, i64_w, i32_w]
    rfl
   refine pure_ (i := 3) (N := some 10) (v := ?_) (a' := ?_) #[true, true, true, true, false, false, false, false, false, false, false, false, false, false, false, false, false, false, false, false, false, false, false, false, false] rfl rfl (any_of HT_.out (by kernel_rfl)) (fun _ _ _ h => h) (Or.inl ⟨by rfl, ?_⟩) ?_ ?_
   rotate_left
   ·intro w'
    go_simp
    with_reducible rfl
   rotate_left
   ·simp only [Act.put, List.setIfInBounds_toArray, List.set_cons_zero, List.set_cons_succ, i64_w, i32_w]
    rfl
   refine pure_ (i := 5) (N := some 12) (v := ?_) (a' := ?_) #[true, true, true, true, false, true, false, false, false, false, false, false, false, false, false, false, false, false, false, false, false, false, false, false, false] rfl rfl (any_of HT_.out (by kernel_rfl)) (fun _ _ _ h => h) (Or.inl ⟨by rfl, ?_⟩) ?_ ?_
   rotate_left
   ·intro w'
    go_simp
    with_reducible rfl
   rotate_left
   ·simp only [Act.put, List.setIfInBounds_toArray, List.set_cons_zero, List.set_cons_succ, i64_w, i32_w]
    rfl
   refine pure_ (i := 6) (N := some 13) (v := ?_) (a' := ?_) #[true, true, true, true, false, true, true, false, false, false, false, false, false, false, false, false, false, false, false, false, false, false, false, false, false] rfl rfl (any_of HT_.out (by kernel_rfl)) (fun _ _ _ h => h) (Or.inl ⟨by rfl, ?_⟩) ?_ ?_
   rotate_left
   ·intro w'
    go_simp
    with_reducible rfl
   rotate_left
   ·simp only [Act.put, List.setIfInBounds_toArray, List.set_cons_zero, List.set_cons_succ, i64_w, i32_w]
    rfl
   refine pure_ (i := 9) (N := some 16) (v := ?_) (a' := ?_) #[true, true, true, true, false, true, true, false, false, true, false, false, false, false, false, false, false, false, false, false, false, false, false, false, false] rfl rfl (any_of HT_.out (by kernel_rfl)) (fun _ _ _ h => h) (Or.inl ⟨by rfl, ?_⟩) ?_ ?_
   rotate_left
   ·intro w'
    go_simp
    with_reducible rfl
   rotate_left
   ·simp only [Act.put, List.setIfInBounds_toArray, List.set_cons_zero, List.set_cons_succ, i64_w, i32_w]
    rfl
   refine pure_ (i := 10) (N := some 17) (v := ?_) (a' := ?_) #[true, true, true, true, false, true, true, false, false, true, true, false, false, false, false, false, false, false, false, false, false, false, false, false, false] rfl rfl (any_of HT_.out (by kernel_rfl)) (fun _ _ _ h => h) (Or.inl ⟨by rfl, ?_⟩) ?_ ?_
   rotate_left
   ·intro w'
    go_simp
    with_reducible rfl
   rotate_left
   ·simp only [Act.put, List.setIfInBounds_toArray, List.set_cons_zero, List.set_cons_succ, i64_w, i32_w]
    rfl
   refine take_ (i := 4) (N := some 11) (v := ?_) (a' := ?_) #[true, true, true, true, true, true, true, false, false, true, true, false, false, false, false, false, false, false, false, false, false, false, false, false, false] rfl rfl (take_ofW HT_.out HW_.out (by kernel_rfl)) (fun _ _ _ h => h) (Or.inl ⟨by rfl, ?_⟩) hHeld ?_ ?_
   rotate_left
   ·rintro w' ⟨s0, s1, s2, s3, s4, s5, s6, s7, s8, s9, s10, s11, s12, s13, s14⟩
    go_simp
    with_reducible rfl
   rotate_left
   ·simp only [Act.put, List.setIfInBounds_toArray, List.set_cons_zero, List.set_cons_succ, i64_w, i32_w]
    rfl
   refine take_ (i := 8) (N := some 15) (v := ?_) (a' := ?_) #[true, true, true, true, true, true, true, false, true, true, true, false, false, false, false, false, false, false, false, false, false, false, false, false, false] rfl rfl (take_ofW HT_.out HW_.out (by kernel_rfl)) (fun _ _ _ h => h) (Or.inl ⟨by rfl, ?_⟩) hHeld ?_ ?_
   rotate_left
   ·rintro w' ⟨s0, s1, s2, s3, s4, s5, s6, s7, s8, s9, s10, s11, s12, s13, s14⟩
    go_simp
    with_reducible rfl
   rotate_left
   ·simp only [Act.put, List.setIfInBounds_toArray, List.set_cons_zero, List.set_cons_succ, i64_w, i32_w]
    rfl
   refine one_ (i := 7) (N := some 14) #[true, true, true, true, true, true, true, true, true, true, true, false, false, false, false, false, false, false, false, false, false, false, false, false, false] rfl rfl (one_of HT_.out (by kernel_rfl)) (by decide) (fun K hK => ?_)
   refine goes_ Tryd.func12 (by kernel_rfl) rfl #[.agg #[.string a0_0, .slice A0_1 l0_1.length c0_1, .slice A0_2 l0_2.length c0_2, .slice (a0_3).A (a0_3).n (a0_3).c, .slice A0_4 l0_4.length c0_4, .slice A0_5 l0_5.length c0_5, .int .i64 a0_6, .int .i64 a0_7, .int .i64 a0_8, .int .i64 a0_9, .string a0_10, .int .i64 a0_11, .int .i64 a0_12, .int .i64 a0_13, .bool a0_14], .int .i64 a1, .int .i64 a2] (by rfl) rfl rfl (by (try simp only [List.map_toArray, List.map_cons, List.map_nil]); first | done | rfl | (simp only [List.length_drop, List.length_take]; rfl)) ?_
   with_reducible refine (prompt_First.calls k a0_0 _ _ l0_1 _ _ l0_2 a0_3 _ _ l0_4 _ _ l0_5 a0_6 a0_7 a0_8 a0_9 a0_10 a0_11 a0_12 a0_13 a0_14 a1 a2 t296 _ ?side1 ?side2 ?side3 ?side4 ?side5 ?side6 ?side7 ?side8 ?side9 A6.out).mono ?_
   (case side1 => repeat (first | exact (Kd.C_below HR0_1.out HB.out) | (with_reducible refine Kd.C_alloc ?_ _) | (with_reducible refine Kd.C_drewN ?_ _) | (with_reducible refine Kd.C_drew ?_)))
   (case side2 => exact HC0_1.out)
   (case side3 => repeat (first | exact (Kd.C_below HR0_2.out HB.out) | (with_reducible refine Kd.C_alloc ?_ _) | (with_reducible refine Kd.C_drewN ?_ _) | (with_reducible refine Kd.C_drew ?_)))
   (case side4 => exact HC0_2.out)
   (case side5 => repeat (first | exact (Kd.C_below HR0_4.out HB.out) | (with_reducible refine Kd.C_alloc ?_ _) | (with_reducible refine Kd.C_drewN ?_ _) | (with_reducible refine Kd.C_drew ?_)))
   (case side6 => exact HC0_4.out)
   (case side7 => repeat (first | exact (Kd.C_below HR0_5.out HB.out) | (with_reducible refine Kd.C_alloc ?_ _) | (with_reducible refine Kd.C_drewN ?_ _) | (with_reducible refine Kd.C_drew ?_)))
   (case side8 => exact HC0_5.out)
   (case side9 => repeat (first | exact (AmbC_below HAMB.out HB.out) | (with_reducible refine AmbC_alloc ?_ _) | (with_reducible refine AmbC_drewN ?_ _) | (with_reducible refine AmbC_drew ?_)))
   rintro e w31 ⟨rfl, hb⟩
   refine ⟨_, rfl, ?_⟩
   have n0_ := Aside0.mk (blk_below (g := gb294) (o := .cells #[.string a0_0, .slice A0_1 l0_1.length c0_1, .slice A0_2 l0_2.length c0_2, .slice (a0_3).A (a0_3).n (a0_3).c, .slice A0_4 l0_4.length c0_4, .slice A0_5 l0_5.length c0_5, .int .i64 a0_6, .int .i64 a0_7, .int .i64 a0_8, .int .i64 a0_9, .string a0_10, .int .i64 a0_11, .int .i64 a0_12, .int .i64 a0_13, .bool a0_14] 30 (0, 0)) (by (with_reducible repeat (first | refine blk_drewN ?_ _ | refine blk_drew ?_ | refine blk_alloc ?_ _)); exact BK294.out) hb)
   have n1_ := Aside0.mk (below_step (by repeat (first | (with_reducible first | exact HB.out | apply below_alloc | apply pw_below_drewN | apply below_drew1 | refine below_set ?_ GE294.out) | exact HB.out)) hb)
   clear BK294
   clear HB
   have BK294 := n0_
   have HB := n1_
   clear n0_ n1_
   (try clear hb)
   (try clear hb2)
   (try clear hk)
   (try clear hi)
   refine hK.out _ _ ⟨(blk_cell BK294.out 0).trans rfl, (blk_cell BK294.out 1).trans rfl, (blk_cell BK294.out 2).trans rfl, (blk_cell BK294.out 3).trans rfl, (blk_cell BK294.out 4).trans rfl, (blk_cell BK294.out 5).trans rfl, (blk_cell BK294.out 6).trans rfl, (blk_cell BK294.out 7).trans rfl, (blk_cell BK294.out 8).trans rfl, (blk_cell BK294.out 9).trans rfl, (blk_cell BK294.out 10).trans rfl, (blk_cell BK294.out 11).trans rfl, (blk_cell BK294.out 12).trans rfl, (blk_cell BK294.out 13).trans rfl, (blk_cell BK294.out 14).trans rfl⟩ (fun hHeld => ?_)
   clear hK K
   refine norm_ (a' := ?_) ?_ ?_
   rotate_left
   ·show Act.put _ (some 14) _ = _
    simp only [Act.put, List.setIfInBounds_toArray, List.set_cons_zero, List.set_cons_succ, i64_w, i32_w]
    rfl
   refine one_ (i := 11) (N := some 18) #[true, true, true, true, true, true, true, true, true, true, true, true, false, false, false, false, false, false, false, false, false, false, false, false, false] rfl rfl (one_of HT_.out (by kernel_rfl)) (by decide) (fun K hK => ?_)
   refine goes_ Tryd.func13 (by kernel_rfl) rfl #[.agg #[.string a0_0, .slice A0_1 l0_1.length c0_1, .slice A0_2 l0_2.length c0_2, .slice (a0_3).A (a0_3).n (a0_3).c, .slice A0_4 l0_4.length c0_4, .slice A0_5 l0_5.length c0_5, .int .i64 a0_6, .int .i64 a0_7, .int .i64 a0_8, .int .i64 a0_9, .string a0_10, .int .i64 a0_11, .int .i64 a0_12, .int .i64 a0_13, .bool a0_14], .int .i64 a1, .int .i64 a2] (by rfl) rfl rfl (by (try simp only [List.map_toArray, List.map_cons, List.map_nil]); first | done | rfl | (simp only [List.length_drop, List.length_take]; rfl)) ?_
   with_reducible refine (jobshellref48_First.calls k a0_0 _ _ l0_1 _ _ l0_2 a0_3 _ _ l0_4 _ _ l0_5 a0_6 a0_7 a0_8 a0_9 a0_10 a0_11 a0_12 a0_13 a0_14 a1 a2 t297 _ ?side1 ?side2 ?side3 ?side4 ?side5 ?side6 ?side7 ?side8 ?side9 A7.out).mono ?_
   (case side1 => repeat (first | exact (Kd.C_below HR0_1.out HB.out) | (with_reducible refine Kd.C_alloc ?_ _) | (with_reducible refine Kd.C_drewN ?_ _) | (with_reducible refine Kd.C_drew ?_)))
   (case side2 => exact HC0_1.out)
   (case side3 => repeat (first | exact (Kd.C_below HR0_2.out HB.out) | (with_reducible refine Kd.C_alloc ?_ _) | (with_reducible refine Kd.C_drewN ?_ _) | (with_reducible refine Kd.C_drew ?_)))
   (case side4 => exact HC0_2.out)
   (case side5 => repeat (first | exact (Kd.C_below HR0_4.out HB.out) | (with_reducible refine Kd.C_alloc ?_ _) | (with_reducible refine Kd.C_drewN ?_ _) | (with_reducible refine Kd.C_drew ?_)))
   (case side6 => exact HC0_4.out)
   (case side7 => repeat (first | exact (Kd.C_below HR0_5.out HB.out) | (with_reducible refine Kd.C_alloc ?_ _) | (with_reducible refine Kd.C_drewN ?_ _) | (with_reducible refine Kd.C_drew ?_)))
   (case side8 => exact HC0_5.out)
   (case side9 => repeat (first | exact (AmbC_below HAMB.out HB.out) | (with_reducible refine AmbC_alloc ?_ _) | (with_reducible refine AmbC_drewN ?_ _) | (with_reducible refine AmbC_drew ?_)))
   rintro e w32 ⟨rfl, hb⟩
   refine ⟨_, rfl, ?_⟩
   have n0_ := Aside0.mk (blk_below (g := gb294) (o := .cells #[.string a0_0, .slice A0_1 l0_1.length c0_1, .slice A0_2 l0_2.length c0_2, .slice (a0_3).A (a0_3).n (a0_3).c, .slice A0_4 l0_4.length c0_4, .slice A0_5 l0_5.length c0_5, .int .i64 a0_6, .int .i64 a0_7, .int .i64 a0_8, .int .i64 a0_9, .string a0_10, .int .i64 a0_11, .int .i64 a0_12, .int .i64 a0_13, .bool a0_14] 30 (0, 0)) (by (with_reducible repeat (first | refine blk_drewN ?_ _ | refine blk_drew ?_ | refine blk_alloc ?_ _)); exact BK294.out) hb)
   have n1_ := Aside0.mk (below_step (by repeat (first | (with_reducible first | exact HB.out | apply below_alloc | apply pw_below_drewN | apply below_drew1 | refine below_set ?_ GE294.out) | exact HB.out)) hb)
   clear BK294
   clear HB
   have BK294 := n0_
   have HB := n1_
   clear n0_ n1_
   (try clear hb)
   (try clear hb2)
   (try clear hk)
   (try clear hi)
   refine hK.out _ _ ⟨(blk_cell BK294.out 0).trans rfl, (blk_cell BK294.out 1).trans rfl, (blk_cell BK294.out 2).trans rfl, (blk_cell BK294.out 3).trans rfl, (blk_cell BK294.out 4).trans rfl, (blk_cell BK294.out 5).trans rfl, (blk_cell BK294.out 6).trans rfl, (blk_cell BK294.out 7).trans rfl, (blk_cell BK294.out 8).trans rfl, (blk_cell BK294.out 9).trans rfl, (blk_cell BK294.out 10).trans rfl, (blk_cell BK294.out 11).trans rfl, (blk_cell BK294.out 12).trans rfl, (blk_cell BK294.out 13).trans rfl, (blk_cell BK294.out 14).trans rfl⟩ (fun hHeld => ?_)
   clear hK K
   refine norm_ (a' := ?_) ?_ ?_
   rotate_left
   ·show Act.put _ (some 18) _ = _
    simp only [Act.put, List.setIfInBounds_toArray, List.set_cons_zero, List.set_cons_succ, i64_w, i32_w]
    rfl
   refine pure_ (i := 12) (N := some 19) (v := ?_) (a' := ?_) #[true, true, true, true, true, true, true, true, true, true, true, true, true, false, false, false, false, false, false, false, false, false, false, false, false] rfl rfl (any_of HT_.out (by kernel_rfl)) (fun _ _ _ h => h) (Or.inl ⟨by rfl, ?_⟩) ?_ ?_
   rotate_left
   ·intro w'
    go_simp
    with_reducible rfl
   rotate_left
   ·simp only [Act.put, List.setIfInBounds_toArray, List.set_cons_zero, List.set_cons_succ, i64_w, i32_w]
    rfl
   refine pure_ (i := 13) (N := some 20) (v := ?_) (a' := ?_) #[true, true, true, true, true, true, true, true, true, true, true, true, true, true, false, false, false, false, false, false, false, false, false, false, false] rfl rfl (any_of HT_.out (by kernel_rfl)) (fun _ _ _ h => h) (Or.inl ⟨by rfl, ?_⟩) ?_ ?_
   rotate_left
   ·intro w'
    go_simp
    with_reducible rfl
   rotate_left
   ·simp only [Act.put, List.setIfInBounds_toArray, List.set_cons_zero, List.set_cons_succ, i64_w, i32_w]
    rfl
   refine pure_ (i := 14) (N := some 21) (v := undef) (a' := ?_) #[true, true, true, true, true, true, true, true, true, true, true, true, true, true, true, false, false, false, false, false, false, false, false, false, false] rfl rfl (any_of HT_.out (by kernel_rfl)) (fun _ _ _ h => h) (Or.inr ⟨by rfl, rfl⟩) ?_ ?_
   rotate_left
   ·simp only [Act.put, List.setIfInBounds_toArray, List.set_cons_zero, List.set_cons_succ, i64_w, i32_w]
    rfl
   refine pure_ (i := 15) (N := some 22) (v := undef) (a' := ?_) #[true, true, true, true, true, true, true, true, true, true, true, true, true, true, true, true, false, false, false, false, false, false, false, false, false] rfl rfl (any_of HT_.out (by kernel_rfl)) (fun _ _ _ h => h) (Or.inr ⟨by rfl, rfl⟩) ?_ ?_
   rotate_left
   ·simp only [Act.put, List.setIfInBounds_toArray, List.set_cons_zero, List.set_cons_succ, i64_w, i32_w]
    rfl
   refine pure_ (i := 16) (N := some 23) (v := undef) (a' := ?_) #[true, true, true, true, true, true, true, true, true, true, true, true, true, true, true, true, true, false, false, false, false, false, false, false, false] rfl rfl (any_of HT_.out (by kernel_rfl)) (fun _ _ _ h => h) (Or.inr ⟨by rfl, rfl⟩) ?_ ?_
   rotate_left
   ·simp only [Act.put, List.setIfInBounds_toArray, List.set_cons_zero, List.set_cons_succ, i64_w, i32_w]
    rfl
   refine pure_ (i := 17) (N := some 24) (v := undef) (a' := ?_) #[true, true, true, true, true, true, true, true, true, true, true, true, true, true, true, true, true, true, false, false, false, false, false, false, false] rfl rfl (any_of HT_.out (by kernel_rfl)) (fun _ _ _ h => h) (Or.inr ⟨by rfl, rfl⟩) ?_ ?_
   rotate_left
   ·simp only [Act.put, List.setIfInBounds_toArray, List.set_cons_zero, List.set_cons_succ, i64_w, i32_w]
    rfl
   refine pure_ (i := 18) (N := some 25) (v := undef) (a' := ?_) #[true, true, true, true, true, true, true, true, true, true, true, true, true, true, true, true, true, true, true, false, false, false, false, false, false] rfl rfl (any_of HT_.out (by kernel_rfl)) (fun _ _ _ h => h) (Or.inr ⟨by rfl, rfl⟩) ?_ ?_
   rotate_left
   ·simp only [Act.put, List.setIfInBounds_toArray, List.set_cons_zero, List.set_cons_succ, i64_w, i32_w]
    rfl
   refine pure_ (i := 19) (N := some 26) (v := ?_) (a' := ?_) #[true, true, true, true, true, true, true, true, true, true, true, true, true, true, true, true, true, true, true, true, false, false, false, false, false] rfl rfl (any_of HT_.out (by kernel_rfl)) (fun _ _ _ h => h) (Or.inl ⟨by rfl, ?_⟩) ?_ ?_
   rotate_left
   ·intro w'
    go_simp
    with_reducible rfl
   rotate_left
   ·simp only [Act.put, List.setIfInBounds_toArray, List.set_cons_zero, List.set_cons_succ, i64_w, i32_w]
    rfl
   refine pure_ (i := 20) (N := some 27) (v := ?_) (a' := ?_) #[true, true, true, true, true, true, true, true, true, true, true, true, true, true, true, true, true, true, true, true, true, false, false, false, false] rfl rfl (any_of HT_.out (by kernel_rfl)) (fun _ _ _ h => h) (Or.inl ⟨by rfl, ?_⟩) ?_ ?_
   rotate_left
   ·intro w'
    go_simp
    with_reducible rfl
   rotate_left
   ·simp only [Act.put, List.setIfInBounds_toArray, List.set_cons_zero, List.set_cons_succ, i64_w, i32_w]
    rfl
   refine pure_ (i := 21) (N := some 28) (v := ?_) (a' := ?_) #[true, true, true, true, true, true, true, true, true, true, true, true, true, true, true, true, true, true, true, true, true, true, false, false, false] rfl rfl (any_of HT_.out (by kernel_rfl)) (fun _ _ _ h => h) (Or.inl ⟨by rfl, ?_⟩) ?_ ?_
   rotate_left
   ·intro w'
    go_simp
    with_reducible rfl
   rotate_left
   ·simp only [Act.put, List.setIfInBounds_toArray, List.set_cons_zero, List.set_cons_succ, i64_w, i32_w]
    rfl
   refine pure_ (i := 22) (N := some 29) (v := undef) (a' := ?_) #[true, true, true, true, true, true, true, true, true, true, true, true, true, true, true, true, true, true, true, true, true, true, true, false, false] rfl rfl (any_of HT_.out (by kernel_rfl)) (fun _ _ _ h => h) (Or.inr ⟨by rfl, rfl⟩) ?_ ?_
   rotate_left
   ·simp only [Act.put, List.setIfInBounds_toArray, List.set_cons_zero, List.set_cons_succ, i64_w, i32_w]
    rfl
   refine pure_ (i := 23) (N := some 30) (v := ?_) (a' := ?_) #[true, true, true, true, true, true, true, true, true, true, true, true, true, true, true, true, true, true, true, true, true, true, true, true, false] rfl rfl (any_of HT_.out (by kernel_rfl)) (fun _ _ _ h => h) (Or.inl ⟨by rfl, ?_⟩) ?_ ?_
   rotate_left
   ·intro w'
    go_simp
    with_reducible rfl
   rotate_left
   ·simp only [Act.put, List.setIfInBounds_toArray, List.set_cons_zero, List.set_cons_succ, i64_w, i32_w]
    rfl
   refine pure_ (i := 24) (N := some 6) (v := ?_) (a' := ?_) #[true, true, true, true, true, true, true, true, true, true, true, true, true, true, true, true, true, true, true, true, true, true, true, true, true] rfl rfl (any_of HT_.out (by kernel_rfl)) (fun _ _ _ h => h) (Or.inl ⟨by rfl, ?_⟩) ?_ ?_
   rotate_left
   ·intro w'
    go_simp
    with_reducible rfl
   rotate_left
   ·simp only [Act.put, List.setIfInBounds_toArray, List.set_cons_zero, List.set_cons_succ, i64_w, i32_w]
    rfl
   refine done_ (done_of HT_.out (by kernel_rfl)) ?_
   try go_wp2
   go_ret
   exact ⟨by first | rfl | (simp [errW_none, errW_some] <;> rfl) | (simp [*, errW_none, errW_some] <;> rfl), by repeat (first | (with_reducible first | exact HB.out | apply below_alloc | apply pw_below_drewN | apply below_drew1 | refine below_set ?_ GE294.out) | exact HB.out)⟩
 ·replace c5 := Bool.eq_false_iff.mpr c5
  subst c5
  have H1 : ((jobshelllaw48_awake.f k).bind fun t301 => (some t301)) = some r := by rw [if_neg (show ¬ (false = true) by decide)] at H; exact H
  clear H
  have H := H1
  clear H1
  replace H := Option.bind_eq_some_iff.mp H
  obtain ⟨t301, A330, H⟩ := H
  replace H : (some t301) = some r := H
  have A33 := Aside0.mk A330
  clear A330
  obtain rfl := Option.some.inj H
  go_enter Tryd.func4, Tryd.ntmps4
  try go_wp2_with (first | ((with_reducible refine gate_dst (N := 3) rfl ?_); refine box_event ?hg (N := 3) ?hd (cs := #[.string a0_0, .slice A0_1 l0_1.length c0_1, .slice A0_2 l0_2.length c0_2, .slice (a0_3).A (a0_3).n (a0_3).c, .slice A0_4 l0_4.length c0_4, .slice A0_5 l0_5.length c0_5, .int .i64 a0_6, .int .i64 a0_7, .int .i64 a0_8, .int .i64 a0_9, .string a0_10, .int .i64 a0_11, .int .i64 a0_12, .int .i64 a0_13, .bool a0_14]) (t := 30) ?hr ?_; (case hd => rfl); (case hg => rfl); (case hr => first | (go_simp; done) | (go_simp; rfl)); intro gb294 hg w34 hbox hb; have n0_ := Aside0.mk (below_step (by repeat (first | (with_reducible first | exact HB.out | apply below_alloc | apply pw_below_drewN | apply below_drew1) | exact HB.out)) hb); have n1_ := Aside0.mk (hbox); have n2_ := Aside0.mk ((by rw [hg]; exact (below_size (by repeat (first | (with_reducible first | exact HB.out | apply below_alloc | apply pw_below_drewN | apply below_drew1) | exact HB.out))) : w.heap.size ≤ gb294)); have n3_ := Aside0.mk ((by rw [hg]; exact (below_size (by repeat (first | (with_reducible first | exact HB.out | apply below_alloc | apply pw_below_drewN | apply below_drew1) | exact HB.out))) : w.heap.size ≤ gb294)); clear HB; have HB := n0_; have BK294 := n1_; have GW294 := n2_; have GE294 := n3_; clear n0_ n1_ n2_ n3_; clear hb hbox hg))
  have n0_ := Aside0.mk (blk_drew BK294.out)
  have n1_ := Aside0.mk (below_drew1 HB.out)
  clear BK294
  clear HB
  have BK294 := n0_
  have HB := n1_
  clear n0_ n1_
  refine start_ (n := 25) (S := fun w' => w'.cell? ⟨gb294, 0, none⟩ = some (.string a0_0) ∧ w'.cell? ⟨gb294, 1, none⟩ = some (.slice A0_1 l0_1.length c0_1) ∧ w'.cell? ⟨gb294, 2, none⟩ = some (.slice A0_2 l0_2.length c0_2) ∧ w'.cell? ⟨gb294, 3, none⟩ = some (.slice (a0_3).A (a0_3).n (a0_3).c) ∧ w'.cell? ⟨gb294, 4, none⟩ = some (.slice A0_4 l0_4.length c0_4) ∧ w'.cell? ⟨gb294, 5, none⟩ = some (.slice A0_5 l0_5.length c0_5) ∧ w'.cell? ⟨gb294, 6, none⟩ = some (.int .i64 a0_6) ∧ w'.cell? ⟨gb294, 7, none⟩ = some (.int .i64 a0_7) ∧ w'.cell? ⟨gb294, 8, none⟩ = some (.int .i64 a0_8) ∧ w'.cell? ⟨gb294, 9, none⟩ = some (.int .i64 a0_9) ∧ w'.cell? ⟨gb294, 10, none⟩ = some (.string a0_10) ∧ w'.cell? ⟨gb294, 11, none⟩ = some (.int .i64 a0_11) ∧ w'.cell? ⟨gb294, 12, none⟩ = some (.int .i64 a0_12) ∧ w'.cell? ⟨gb294, 13, none⟩ = some (.int .i64 a0_13) ∧ w'.cell? ⟨gb294, 14, none⟩ = some (.bool a0_14)) (ds := []) #[false, false, false, false, false, false, false, false, false, false, false, false, false, false, false, false, false, false, false, false, false, false, false, false, false] (by kernel_rfl) rfl rfl ⟨(blk_cell BK294.out 0).trans rfl, (blk_cell BK294.out 1).trans rfl, (blk_cell BK294.out 2).trans rfl, (blk_cell BK294.out 3).trans rfl, (blk_cell BK294.out 4).trans rfl, (blk_cell BK294.out 5).trans rfl, (blk_cell BK294.out 6).trans rfl, (blk_cell BK294.out 7).trans rfl, (blk_cell BK294.out 8).trans rfl, (blk_cell BK294.out 9).trans rfl, (blk_cell BK294.out 10).trans rfl, (blk_cell BK294.out 11).trans rfl, (blk_cell BK294.out 12).trans rfl, (blk_cell BK294.out 13).trans rfl, (blk_cell BK294.out 14).trans rfl⟩ (fun hHeld => ?_); refine with_tabW jobshelllaw48_PromptFirsts.tab1 jobshelllaw48_PromptFirsts.bits1 (fun HT_ HW_ => ?_)
  generalize w34.drew = w35 at BK294 HB hHeld ⊢
  refine take_ (i := 0) (N := some 7) (v := ?_) (a' := ?_) #[true, false, false, false, false, false, false, false, false, false, false, false, false, false, false, false, false, false, false, false, false, false, false, false, false] rfl rfl (take_ofW HT_.out HW_.out (by kernel_rfl)) (fun _ _ _ h => h) (Or.inl ⟨by rfl, ?_⟩) hHeld ?_ ?_
  rotate_left
  ·rintro w' ⟨s0, s1, s2, s3, s4, s5, s6, s7, s8, s9, s10, s11, s12, s13, s14⟩
   go_simp
   with_reducible rfl
  rotate_left
  ·simp only [Act.put, List.setIfInBounds_toArray, List.set_cons_zero, List.set_cons_succ, i64_w, i32_w]
   rfl
  refine one_ (i := 1) (N := some 8) #[true, true, false, false, false, false, false, false, false, false, false, false, false, false, false, false, false, false, false, false, false, false, false, false, false] rfl rfl (one_of HT_.out (by kernel_rfl)) (by decide) (fun K hK => ?_)
  refine goes_ Tryd.func8 (by kernel_rfl) rfl #[.agg #[.string a0_0, .slice A0_1 l0_1.length c0_1, .slice A0_2 l0_2.length c0_2, .slice (a0_3).A (a0_3).n (a0_3).c, .slice A0_4 l0_4.length c0_4, .slice A0_5 l0_5.length c0_5, .int .i64 a0_6, .int .i64 a0_7, .int .i64 a0_8, .int .i64 a0_9, .string a0_10, .int .i64 a0_11, .int .i64 a0_12, .int .i64 a0_13, .bool a0_14]] (by rfl) rfl rfl (by (try simp only [List.map_toArray, List.map_cons, List.map_nil]); first | done | rfl | (simp only [List.length_drop, List.length_take]; rfl)) ?_
  with_reducible refine (jobshelllaw48_small.calls k a0_0 _ _ l0_1 _ _ l0_2 a0_3 _ _ l0_4 _ _ l0_5 a0_6 a0_7 a0_8 a0_9 a0_10 a0_11 a0_12 a0_13 a0_14 false _ ?side1 ?side2 ?side3 ?side4 ?side5 ?side6 ?side7 ?side8 A4.out).mono ?_
  (case side1 => repeat (first | exact (Kd.C_below HR0_1.out HB.out) | (with_reducible refine Kd.C_alloc ?_ _) | (with_reducible refine Kd.C_drewN ?_ _) | (with_reducible refine Kd.C_drew ?_)))
  (case side2 => exact HC0_1.out)
  (case side3 => repeat (first | exact (Kd.C_below HR0_2.out HB.out) | (with_reducible refine Kd.C_alloc ?_ _) | (with_reducible refine Kd.C_drewN ?_ _) | (with_reducible refine Kd.C_drew ?_)))
  (case side4 => exact HC0_2.out)
  (case side5 => repeat (first | exact (Kd.C_below HR0_4.out HB.out) | (with_reducible refine Kd.C_alloc ?_ _) | (with_reducible refine Kd.C_drewN ?_ _) | (with_reducible refine Kd.C_drew ?_)))
  (case side6 => exact HC0_4.out)
  (case side7 => repeat (first | exact (Kd.C_below HR0_5.out HB.out) | (with_reducible refine Kd.C_alloc ?_ _) | (with_reducible refine Kd.C_drewN ?_ _) | (with_reducible refine Kd.C_drew ?_)))
  (case side8 => exact HC0_5.out)
  rintro e w36 ⟨rfl, hb⟩
  refine ⟨_, rfl, ?_⟩
  have n0_ := Aside0.mk (blk_below (g := gb294) (o := .cells #[.string a0_0, .slice A0_1 l0_1.length c0_1, .slice A0_2 l0_2.length c0_2, .slice (a0_3).A (a0_3).n (a0_3).c, .slice A0_4 l0_4.length c0_4, .slice A0_5 l0_5.length c0_5, .int .i64 a0_6, .int .i64 a0_7, .int .i64 a0_8, .int .i64 a0_9, .string a0_10, .int .i64 a0_11, .int .i64 a0_12, .int .i64 a0_13, .bool a0_14] 30 (0, 0)) (by (with_reducible repeat (first | refine blk_drewN ?_ _ | refine blk_drew ?_ | refine blk_alloc ?_ _)); exact BK294.out) hb)
  have n1_ := Aside0.mk (below_step (by repeat (first | (with_reducible first | exact HB.out | apply below_alloc | apply pw_below_drewN | apply below_drew1 | refine below_set ?_ GE294.out) | exact HB.out)) hb)
  clear BK294
  clear HB
  have BK294 := n0_
  have HB := n1_
  clear n0_ n1_
  (try clear hb)
  (try clear hb2)
  (try clear hk)
  (try clear hi)
  refine hK.out _ _ ⟨(blk_cell BK294.out 0).trans rfl, (blk_cell BK294.out 1).trans rfl, (blk_cell BK294.out 2).trans rfl, (blk_cell BK294.out 3).trans rfl, (blk_cell BK294.out 4).trans rfl, (blk_cell BK294.out 5).trans rfl, (blk_cell BK294.out 6).trans rfl, (blk_cell BK294.out 7).trans rfl, (blk_cell BK294.out 8).trans rfl, (blk_cell BK294.out 9).trans rfl, (blk_cell BK294.out 10).trans rfl, (blk_cell BK294.out 11).trans rfl, (blk_cell BK294.out 12).trans rfl, (blk_cell BK294.out 13).trans rfl, (blk_cell BK294.out 14).trans rfl⟩ (fun hHeld => ?_)
  clear hK K
  refine norm_ (a' := ?_) ?_ ?_
  rotate_left
  ·show Act.put _ (some 8) _ = _
   simp only [Act.put, List.setIfInBounds_toArray, List.set_cons_zero, List.set_cons_succ, i64_w, i32_w]
   rfl
  refine pure_ (i := 2) (N := some 9) (v := ?_) (a' := ?_) #[true, true, true, false, false, false, false, false, false, false, false, false, false, false, false, false, false, false, false, false, false, false, false, false, false] rfl rfl (any_of HT_.out (by kernel_rfl)) (fun _ _ _ h => h) (Or.inl ⟨by rfl, ?_⟩) ?_ ?_
  rotate_left
  ·intro w'
   go_simp
   with_reducible rfl
  rotate_left
  ·simp only [Act.put, List.setIfInBounds_toArray, List.set_cons_zero, List.set_cons_succ, i64_w, i32_w]
   rfl
  refine pure_ (i := 3) (N := some 10) (v := ?_) (a' := ?_) #[true, true, true, true, false, false, false, false, false, false, false, false, false, false, false, false, false, false, false, false, false, false, false, false, false] rfl rfl (any_of HT_.out (by kernel_rfl)) (fun _ _ _ h => h) (Or.inl ⟨by rfl, ?_⟩) ?_ ?_
  rotate_left
  ·intro w'
   go_simp
   with_reducible rfl
  rotate_left
  ·simp only [Act.put, List.setIfInBounds_toArray, List.set_cons_zero, List.set_cons_succ, i64_w, i32_w]
   rfl
  refine pure_ (i := 4) (N := some 11) (v := undef) (a' := ?_) #[true, true, true, true, true, false, false, false, false, false, false, false, false, false, false, false, false, false, false, false, false, false, false, false, false] rfl rfl (any_of HT_.out (by kernel_rfl)) (fun _ _ _ h => h) (Or.inr ⟨by rfl, rfl⟩) ?_ ?_
  rotate_left
  ·simp only [Act.put, List.setIfInBounds_toArray, List.set_cons_zero, List.set_cons_succ, i64_w, i32_w]
   rfl
  refine pure_ (i := 5) (N := some 12) (v := undef) (a' := ?_) #[true, true, true, true, true, true, false, false, false, false, false, false, false, false, false, false, false, false, false, false, false, false, false, false, false] rfl rfl (any_of HT_.out (by kernel_rfl)) (fun _ _ _ h => h) (Or.inr ⟨by rfl, rfl⟩) ?_ ?_
  rotate_left
  ·simp only [Act.put, List.setIfInBounds_toArray, List.set_cons_zero, List.set_cons_succ, i64_w, i32_w]
   rfl
  refine pure_ (i := 6) (N := some 13) (v := undef) (a' := ?_) #[true, true, true, true, true, true, true, false, false, false, false, false, false, false, false, false, false, false, false, false, false, false, false, false, false] rfl rfl (any_of HT_.out (by kernel_rfl)) (fun _ _ _ h => h) (Or.inr ⟨by rfl, rfl⟩) ?_ ?_
  rotate_left
  ·simp only [Act.put, List.setIfInBounds_toArray, List.set_cons_zero, List.set_cons_succ, i64_w, i32_w]
   rfl
  refine pure_ (i := 7) (N := some 14) (v := undef) (a' := ?_) #[true, true, true, true, true, true, true, true, false, false, false, false, false, false, false, false, false, false, false, false, false, false, false, false, false] rfl rfl (any_of HT_.out (by kernel_rfl)) (fun _ _ _ h => h) (Or.inr ⟨by rfl, rfl⟩) ?_ ?_
  rotate_left
  ·simp only [Act.put, List.setIfInBounds_toArray, List.set_cons_zero, List.set_cons_succ, i64_w, i32_w]
   rfl
  refine pure_ (i := 8) (N := some 15) (v := undef) (a' := ?_) #[true, true, true, true, true, true, true, true, true, false, false, false, false, false, false, false, false, false, false, false, false, false, false, false, false] rfl rfl (any_of HT_.out (by kernel_rfl)) (fun _ _ _ h => h) (Or.inr ⟨by rfl, rfl⟩) ?_ ?_
  rotate_left
  ·simp only [Act.put, List.setIfInBounds_toArray, List.set_cons_zero, List.set_cons_succ, i64_w, i32_w]
   rfl
  refine pure_ (i := 9) (N := some 16) (v := undef) (a' := ?_) #[true, true, true, true, true, true, true, true, true, true, false, false, false, false, false, false, false, false, false, false, false, false, false, false, false] rfl rfl (any_of HT_.out (by kernel_rfl)) (fun _ _ _ h => h) (Or.inr ⟨by rfl, rfl⟩) ?_ ?_
  rotate_left
  ·simp only [Act.put, List.setIfInBounds_toArray, List.set_cons_zero, List.set_cons_succ, i64_w, i32_w]
   rfl
  refine pure_ (i := 10) (N := some 17) (v := undef) (a' := ?_) #[true, true, true, true, true, true, true, true, true, true, true, false, false, false, false, false, false, false, false, false, false, false, false, false, false] rfl rfl (any_of HT_.out (by kernel_rfl)) (fun _ _ _ h => h) (Or.inr ⟨by rfl, rfl⟩) ?_ ?_
  rotate_left
  ·simp only [Act.put, List.setIfInBounds_toArray, List.set_cons_zero, List.set_cons_succ, i64_w, i32_w]
   rfl
  refine pure_ (i := 11) (N := some 18) (v := undef) (a' := ?_) #[true, true, true, true, true, true, true, true, true, true, true, true, false, false, false, false, false, false, false, false, false, false, false, false, false] rfl rfl (any_of HT_.out (by kernel_rfl)) (fun _ _ _ h => h) (Or.inr ⟨by rfl, rfl⟩) ?_ ?_
  rotate_left
  ·simp only [Act.put, List.setIfInBounds_toArray, List.set_cons_zero, List.set_cons_succ, i64_w, i32_w]
   rfl
  refine pure_ (i := 12) (N := some 19) (v := undef) (a' := ?_) #[true, true, true, true, true, true, true, true, true, true, true, true, true, false, false, false, false, false, false, false, false, false, false, false, false] rfl rfl (any_of HT_.out (by kernel_rfl)) (fun _ _ _ h => h) (Or.inr ⟨by rfl, rfl⟩) ?_ ?_
  rotate_left
  ·simp only [Act.put, List.setIfInBounds_toArray, List.set_cons_zero, List.set_cons_succ, i64_w, i32_w]
   rfl
  refine pure_ (i := 13) (N := some 20) (v := undef) (a' := ?_) #[true, true, true, true, true, true, true, true, true, true, true, true, true, true, false, false, false, false, false, false, false, false, false, false, false] rfl rfl (any_of HT_.out (by kernel_rfl)) (fun _ _ _ h => h) (Or.inr ⟨by rfl, rfl⟩) ?_ ?_
  rotate_left
  ·simp only [Act.put, List.setIfInBounds_toArray, List.set_cons_zero, List.set_cons_succ, i64_w, i32_w]
   rfl
  refine pure_ (i := 14) (N := some 21) (v := undef) (a' := ?_) #[true, true, true, true, true, true, true, true, true, true, true, true, true, true, true, false, false, false, false, false, false, false, false, false, false] rfl rfl (any_of HT_.out (by kernel_rfl)) (fun _ _ _ h => h) (Or.inr ⟨by rfl, rfl⟩) ?_ ?_
  rotate_left
  ·simp only [Act.put, List.setIfInBounds_toArray, List.set_cons_zero, List.set_cons_succ, i64_w, i32_w]
   rfl
  refine pure_ (i := 15) (N := some 22) (v := undef) (a' := ?_) #[true, true, true, true, true, true, true, true, true, true, true, true, true, true, true, true, false, false, false, false, false, false, false, false, false] rfl rfl (any_of HT_.out (by kernel_rfl)) (fun _ _ _ h => h) (Or.inr ⟨by rfl, rfl⟩) ?_ ?_
  rotate_left
  ·simp only [Act.put, List.setIfInBounds_toArray, List.set_cons_zero, List.set_cons_succ, i64_w, i32_w]
   rfl
  refine pure_ (i := 16) (N := some 23) (v := undef) (a' := ?_) #[true, true, true, true, true, true, true, true, true, true, true, true, true, true, true, true, true, false, false, false, false, false, false, false, false] rfl rfl (any_of HT_.out (by kernel_rfl)) (fun _ _ _ h => h) (Or.inr ⟨by rfl, rfl⟩) ?_ ?_
  rotate_left
  ·simp only [Act.put, List.setIfInBounds_toArray, List.set_cons_zero, List.set_cons_succ, i64_w, i32_w]
   rfl
  refine pure_ (i := 17) (N := some 24) (v := undef) (a' := ?_) #[true, true, true, true, true, true, true, true, true, true, true, true, true, true, true, true, true, true, false, false, false, false, false, false, false] rfl rfl (any_of HT_.out (by kernel_rfl)) (fun _ _ _ h => h) (Or.inr ⟨by rfl, rfl⟩) ?_ ?_
  rotate_left
  ·simp only [Act.put, List.setIfInBounds_toArray, List.set_cons_zero, List.set_cons_succ, i64_w, i32_w]
   rfl
  refine pure_ (i := 18) (N := some 25) (v := undef) (a' := ?_) #[true, true, true, true, true, true, true, true, true, true, true, true, true, true, true, true, true, true, true, false, false, false, false, false, false] rfl rfl (any_of HT_.out (by kernel_rfl)) (fun _ _ _ h => h) (Or.inr ⟨by rfl, rfl⟩) ?_ ?_
  rotate_left
  ·simp only [Act.put, List.setIfInBounds_toArray, List.set_cons_zero, List.set_cons_succ, i64_w, i32_w]
   rfl
  refine pure_ (i := 19) (N := some 26) (v := undef) (a' := ?_) #[true, true, true, true, true, true, true, true, true, true, true, true, true, true, true, true, true, true, true, true, false, false, false, false, false] rfl rfl (any_of HT_.out (by kernel_rfl)) (fun _ _ _ h => h) (Or.inr ⟨by rfl, rfl⟩) ?_ ?_
  rotate_left
  ·simp only [Act.put, List.setIfInBounds_toArray, List.set_cons_zero, List.set_cons_succ, i64_w, i32_w]
   rfl
  refine pure_ (i := 20) (N := some 27) (v := ?_) (a' := ?_) #[true, true, true, true, true, true, true, true, true, true, true, true, true, true, true, true, true, true, true, true, true, false, false, false, false] rfl rfl (any_of HT_.out (by kernel_rfl)) (fun _ _ _ h => h) (Or.inl ⟨by rfl, ?_⟩) ?_ ?_
  rotate_left
  ·intro w'
   go_simp
   with_reducible rfl
  rotate_left
  ·simp only [Act.put, List.setIfInBounds_toArray, List.set_cons_zero, List.set_cons_succ, i64_w, i32_w]
   rfl
  refine pure_ (i := 21) (N := some 28) (v := ?_) (a' := ?_) #[true, true, true, true, true, true, true, true, true, true, true, true, true, true, true, true, true, true, true, true, true, true, false, false, false] rfl rfl (any_of HT_.out (by kernel_rfl)) (fun _ _ _ h => h) (Or.inl ⟨by rfl, ?_⟩) ?_ ?_
  rotate_left
  ·intro w'
   go_simp
   with_reducible rfl
  rotate_left
  ·simp only [Act.put, List.setIfInBounds_toArray, List.set_cons_zero, List.set_cons_succ, i64_w, i32_w]
   rfl
  refine one_ (i := 22) (N := some 29) #[true, true, true, true, true, true, true, true, true, true, true, true, true, true, true, true, true, true, true, true, true, true, true, false, false] rfl rfl (one_of HT_.out (by kernel_rfl)) (by decide) (fun K hK => ?_)
  refine goes_ Tryd.func11 (by kernel_rfl) rfl #[] (by rfl) rfl rfl (by (try simp only [List.map_toArray, List.map_cons, List.map_nil]); first | done | rfl | (simp only [List.length_drop, List.length_take]; rfl)) ?_
  with_reducible refine (jobshelllaw48_awake.calls k  t301 _ ?side1 A33.out).mono ?_
  (case side1 => repeat (first | exact (AmbC_below HAMB.out HB.out) | (with_reducible refine AmbC_alloc ?_ _) | (with_reducible refine AmbC_drewN ?_ _) | (with_reducible refine AmbC_drew ?_)))
  rintro e w37 ⟨rfl, hb⟩
  refine ⟨_, rfl, ?_⟩
  have n0_ := Aside0.mk (blk_below (g := gb294) (o := .cells #[.string a0_0, .slice A0_1 l0_1.length c0_1, .slice A0_2 l0_2.length c0_2, .slice (a0_3).A (a0_3).n (a0_3).c, .slice A0_4 l0_4.length c0_4, .slice A0_5 l0_5.length c0_5, .int .i64 a0_6, .int .i64 a0_7, .int .i64 a0_8, .int .i64 a0_9, .string a0_10, .int .i64 a0_11, .int .i64 a0_12, .int .i64 a0_13, .bool a0_14] 30 (0, 0)) (by (with_reducible repeat (first | refine blk_drewN ?_ _ | refine blk_drew ?_ | refine blk_alloc ?_ _)); exact BK294.out) hb)
  have n1_ := Aside0.mk (below_step (by repeat (first | (with_reducible first | exact HB.out | apply below_alloc | apply pw_below_drewN | apply below_drew1 | refine below_set ?_ GE294.out) | exact HB.out)) hb)
  clear BK294
  clear HB
  have BK294 := n0_
  have HB := n1_
  clear n0_ n1_
  (try clear hb)
  (try clear hb2)
  (try clear hk)
  (try clear hi)
  refine hK.out _ _ ⟨(blk_cell BK294.out 0).trans rfl, (blk_cell BK294.out 1).trans rfl, (blk_cell BK294.out 2).trans rfl, (blk_cell BK294.out 3).trans rfl, (blk_cell BK294.out 4).trans rfl, (blk_cell BK294.out 5).trans rfl, (blk_cell BK294.out 6).trans rfl, (blk_cell BK294.out 7).trans rfl, (blk_cell BK294.out 8).trans rfl, (blk_cell BK294.out 9).trans rfl, (blk_cell BK294.out 10).trans rfl, (blk_cell BK294.out 11).trans rfl, (blk_cell BK294.out 12).trans rfl, (blk_cell BK294.out 13).trans rfl, (blk_cell BK294.out 14).trans rfl⟩ (fun hHeld => ?_)
  clear hK K
  refine norm_ (a' := ?_) ?_ ?_
  rotate_left
  ·show Act.put _ (some 29) _ = _
   simp only [Act.put, List.setIfInBounds_toArray, List.set_cons_zero, List.set_cons_succ, i64_w, i32_w]
   rfl
  refine pure_ (i := 23) (N := some 30) (v := ?_) (a' := ?_) #[true, true, true, true, true, true, true, true, true, true, true, true, true, true, true, true, true, true, true, true, true, true, true, true, false] rfl rfl (any_of HT_.out (by kernel_rfl)) (fun _ _ _ h => h) (Or.inl ⟨by rfl, ?_⟩) ?_ ?_
  rotate_left
  ·intro w'
   go_simp
   with_reducible rfl
  rotate_left
  ·simp only [Act.put, List.setIfInBounds_toArray, List.set_cons_zero, List.set_cons_succ, i64_w, i32_w]
   rfl
  refine pure_ (i := 24) (N := some 6) (v := ?_) (a' := ?_) #[true, true, true, true, true, true, true, true, true, true, true, true, true, true, true, true, true, true, true, true, true, true, true, true, true] rfl rfl (any_of HT_.out (by kernel_rfl)) (fun _ _ _ h => h) (Or.inl ⟨by rfl, ?_⟩) ?_ ?_
  rotate_left
  ·intro w'
   go_simp
   with_reducible rfl
  rotate_left
  ·simp only [Act.put, List.setIfInBounds_toArray, List.set_cons_zero, List.set_cons_succ, i64_w, i32_w]
   rfl
  refine done_ (done_of HT_.out (by kernel_rfl)) ?_
  try go_wp2
  go_ret
  exact ⟨by first | rfl | (simp [errW_none, errW_some] <;> rfl) | (simp [*, errW_none, errW_some] <;> rfl), by repeat (first | (with_reducible first | exact HB.out | apply below_alloc | apply pw_below_drewN | apply below_drew1 | refine below_set ?_ GE294.out) | exact HB.out)⟩
end Go.Proofs.YtiacdccnifjcjaaDoor.F
set_option linter.unusedVariables false
set_option linter.unusedSimpArgs false
namespace Go.Proofs.YtiacdccnifjcjaaDoor.Pure
open Go.RowKit Go.Proofs.YtiacdccnifjcjaaDoor.F Go.Proofs.YtiacdccnifjcjaaDoorW.PrintWords
abbrev Got := ByteArray × ByteArray × Bool × Bool × Bool × Bool
def getGo (nm : ByteArray) : List S_Var → Got
  | [] => (⟨#[]⟩, ⟨#[]⟩, false, false, false, false)
  | v :: r => if v.f0.toList = nm.toList then (v.f0, v.f1, v.f2, v.f3, v.f4, true) else getGo nm r
theorem ref_get_go (nm : ByteArray) (xs : List S_Var) (hl : xs.length < 1000) : ∀ (k i : Nat), i ≤ xs.length → xs.length - i < k → jobshellref15_Get.l0 k xs nm i = some (getGo nm (xs.drop i)) := by
  intro k
  induction k with
  | zero => intro i _ h; omega
  | succ k ih =>
    intro i hi hk
    rw [jobshellref15_Get.l0]
    by_cases h : i < xs.length
    · rw [if_pos (by omega), if_pos (by omega), wrap_succ (by omega), ih (i + 1) (by omega) (by omega), (show xs.drop i = rd_Var xs i :: xs.drop (i + 1) from getD_drop z_Var xs i h)]
      simp only [getGo]
      by_cases hc : (rd_Var xs (i : Int)).f0.toList = nm.toList
      · rw [if_pos hc, if_pos hc]
      · rw [if_neg hc, if_neg hc]
    · rw [if_neg (by omega), List.drop_eq_nil_of_le (by omega)]; rfl
theorem vars_get_go (nm : ByteArray) (xs : List S_Var) (hl : xs.length < 1000) : ∀ (k i : Nat), i ≤ xs.length → xs.length - i < k → vars_Get.l0 k nm xs (xs.length : Int) i = some (getGo nm (xs.drop i)) := by
  intro k
  induction k with
  | zero => intro i _ h; omega
  | succ k ih =>
    intro i hi hk
    rw [vars_Get.l0]
    by_cases h : i < xs.length
    · rw [if_pos (by omega), if_pos (by omega), if_pos (by omega), wrap_succ (by omega), ih (i + 1) (by omega) (by omega), (show xs.drop i = rd_Var xs i :: xs.drop (i + 1) from getD_drop z_Var xs i h)]
      simp only [getGo]
      by_cases hc : (rd_Var xs (i : Int)).f0.toList = nm.toList
      · rw [if_pos hc, if_pos hc]
      · rw [if_neg hc, if_neg hc]
    · rw [if_neg (by omega), List.drop_eq_nil_of_le (by omega)]; rfl
theorem ref_get (nm : ByteArray) (xs : List S_Var) (hl : xs.length < 1000) {k : Nat} (hk : 1000 ≤ k) : jobshellref15_Get.f k xs nm = some (getGo nm xs) :=
  ref_get_go nm xs hl k 0 (by omega) (by omega)
theorem vars_get (nm : ByteArray) (xs : List S_Var) (hl : xs.length < 1000) {k : Nat} (hk : 1000 ≤ k) : vars_Get.f k xs nm = some (getGo nm xs) :=
  vars_get_go nm xs hl k 0 (by omega) (by omega)
theorem digit_eq (x : Int) : jobshellref01_Digit.f x = some (isDig x) := by
  unfold jobshellref01_Digit.f isDig
  by_cases h : x ≥ 48
  · rw [if_pos h, decide_eq_true (show 48 ≤ x from h), Bool.true_and]
  · rw [if_neg h, decide_eq_false (show ¬ 48 ≤ x from h), Bool.false_and]
theorem letter_eq (x : Int) : jobshellref01_Letter.f x = some (isLet x) := by
  unfold jobshellref01_Letter.f isLet
  by_cases h1 : x ≥ 97 <;> by_cases h2 : x ≤ 122 <;> by_cases h3 : x ≥ 65 <;> by_cases h4 : x ≤ 90 <;> simp [h1, h2, h3, h4] <;> omega
theorem word_eq (x : Int) : jobshellref01_Word.f x = some (nameCh false x) := by
  unfold jobshellref01_Word.f nameCh
  rw [letter_eq, digit_eq]
  cases isLet x <;> cases isDig x <;> cases h : x == 95 <;> simp [h]
theorem name_go (s : ByteArray) (hl : s.size < 1000) : ∀ (k i : Nat), i ≤ s.size → s.size - i < k → jobshellref01_Name.l0 k s i = some (nameGo (s.data.toList.drop i) false) := by
  intro k
  induction k with
  | zero => intro i _ h; omega
  | succ k ih =>
    intro i hi hk
    rw [jobshellref01_Name.l0]
    by_cases h : i < s.size
    · obtain ⟨c, hc, hb⟩ := bt_drop s i h
      rw [if_pos (by omega), if_pos (by omega), wrap_succ (by omega), ih (i + 1) (by omega) (by omega), hc, hb, word_eq]
      simp only [Option.bind_some, nameGo]
      split <;> rfl
    · rw [if_neg (by omega), List.drop_eq_nil_of_le (by simp; omega)]; rfl
theorem name_eq (s : ByteArray) {k : Nat} (hk : 1000 ≤ k) : jobshellref01_Name.f k s = chars_Name.f s := by
  unfold jobshellref01_Name.f chars_Name.f
  obtain ⟨m, rfl⟩ := succ_of (show 0 < k by omega)
  by_cases h0 : s.size = 0
  · rw [if_pos ((nil_iff s).2 h0), if_pos h0]; rfl
  · rw [if_neg (fun h => h0 ((nil_iff s).1 h)), if_neg h0]
    by_cases h1 : 32 < s.size
    · rw [if_pos (by omega), if_pos h1]; rfl
    · rw [if_neg (by omega), if_neg h1, if_pos (by omega), digit_eq, Option.bind_some]
      obtain ⟨c, hc, hb⟩ := bt_drop s 0 (by omega)
      have hb' : bt s 0 = (c.toNat : Int) := hb
      rw [List.drop_zero] at hc
      obtain ⟨r, hr⟩ : ∃ r, s.data.toList = c :: r := ⟨_, hc⟩
      clear hc
      rw [jobshellref01_Name.j0, hb', hr]
      by_cases hd : isDig (c.toNat : Int) = true
      · rw [if_pos hd]
        have hl : isLet (c.toNat : Int) = false := by unfold isDig at hd; unfold isLet; simp at hd ⊢; omega
        have h95 : ((c.toNat : Int) == 95) = false := by unfold isDig at hd; simp at hd ⊢; omega
        simp only [nameGo, nameCh, hl, h95, Bool.not_true, Bool.false_and, Bool.or_false, Bool.false_eq_true, if_false]
      · rw [if_neg hd, show (0 : Int) = ((0 : Nat) : Int) from rfl, name_go s (by omega) m 0 (by omega) (by omega), List.drop_zero, hr]
        have hd' : isDig (c.toNat : Int) = false := by simpa using hd
        simp only [nameGo, nameCh, hd', Bool.and_false, Bool.or_false]
theorem dig_go (s : ByteArray) (hl : s.size ≤ 10) : ∀ (k i : Nat) (n : Int), i ≤ s.size → s.size - i < k → 0 ≤ n → n < 10 ^ i → jobshellref01_Digits.l0 k s n i = some (match digGo (s.data.toList.drop i) n with | none => (0, false) | some n => if n > 2147483647 then (0, false) else (n, true)) := by
  intro k
  induction k with
  | zero => intro i n _ h; omega
  | succ k ih =>
    intro i n hi hk hn0 hn1
    rw [jobshellref01_Digits.l0]
    by_cases h : i < s.size
    · obtain ⟨c, hc, hb⟩ := bt_drop s i h
      have hp : n < 10000000000 := by
        have : (10 : Int) ^ i ≤ 10 ^ 10 := by
          have := Nat.pow_le_pow_right (show 0 < 10 by omega) (show i ≤ 10 by omega)
          exact_mod_cast this
        omega
      have hc255 : c.toNat < 256 := c.toNat_lt
      rw [if_pos (by omega), if_pos (by omega), wrap_succ (by omega), hc, hb, digit_eq, Option.bind_some]
      by_cases hd : isDig (c.toNat : Int) = true
      · have hd2 : 48 ≤ (c.toNat : Int) ∧ (c.toNat : Int) ≤ 57 := by unfold isDig at hd; simpa using hd
        rw [if_pos hd, wrap_id (i := 10 * n) (by omega) (by omega), Int.emod_eq_of_lt (by omega) (by omega), wrap_id (by omega) (by omega)]
        rw [ih (i + 1) _ (by omega) (by omega) (by omega) (by rw [Int.pow_succ]; omega)]
        simp only [digGo, if_pos hd2]
      · rw [if_neg hd]
        have hd2 : ¬ (48 ≤ (c.toNat : Int) ∧ (c.toNat : Int) ≤ 57) := by unfold isDig at hd; simpa using hd
        simp only [digGo, if_neg hd2]
    · rw [if_neg (by omega), List.drop_eq_nil_of_le (by simp; omega)]
      simp only [digGo]
      split <;> rfl
theorem digits_eq (s : ByteArray) {k : Nat} (hk : 1000 ≤ k) : jobshellref01_Digits.f k s = chars_Digits.f s := by
  unfold jobshellref01_Digits.f chars_Digits.f
  obtain ⟨m, rfl⟩ := succ_of (show 0 < k by omega)
  by_cases h0 : s.size = 0
  · rw [if_pos ((nil_iff s).2 h0), if_pos h0]; rfl
  · rw [if_neg (fun h => h0 ((nil_iff s).1 h)), if_neg h0]
    by_cases h1 : 10 < s.size
    · rw [if_pos (by omega), if_pos h1]; rfl
    · have hgo := dig_go s (by omega) m 0 0 (by omega) (by omega) (by omega) (by simp)
      rw [List.drop_zero] at hgo
      rw [if_neg (by omega), if_neg h1, if_pos (by omega)]
      by_cases h2 : bt s 0 = 48
      · by_cases h3 : 1 < s.size
        · rw [if_pos h2, if_pos ⟨h3, h2⟩, decide_eq_true (by omega)]; rfl
        · rw [if_pos h2, if_neg (fun h => h3 h.1), decide_eq_false (by omega), jobshellref01_Digits.j0, if_neg (by simp)]
          exact hgo
      · rw [if_neg h2, if_neg (fun h => h2 h.2), jobshellref01_Digits.j0, if_neg (by simp)]
        exact hgo
def posOf (s : ByteArray) : Int := match chars_Digits.f s with | some (n, true) => n | _ => 0
theorem digits_some (s : ByteArray) : ∃ p, chars_Digits.f s = some p ∧ (p.2 = true → 0 ≤ p.1 ∧ p.1 ≤ 2147483647 ∧ 0 < s.size ∧ (bt s 0 = 48 → p.1 = 0)) := by
  unfold chars_Digits.f
  split
  · exact ⟨_, rfl, fun h => by cases h⟩
  split
  · exact ⟨_, rfl, fun h => by cases h⟩
  split
  · exact ⟨_, rfl, fun h => by cases h⟩
  rename_i h0 h1 h2
  cases hg : digGo s.data.toList 0 with
  | none => exact ⟨_, rfl, fun h => by cases h⟩
  | some n =>
    simp only
    split
    · exact ⟨_, rfl, fun h => by cases h⟩
    · refine ⟨_, rfl, fun _ => ⟨?_, by omega, by omega, fun hz => ?_⟩⟩
      · have : ∀ (l : List UInt8) (a b : Int), 0 ≤ a → digGo l a = some b → 0 ≤ b := by
          intro l
          induction l with
          | nil => intro a b h e; obtain rfl := Option.some.inj e; exact h
          | cons c r ih =>
            intro a b h e
            simp only [digGo] at e
            split at e
            · exact ih _ _ (by omega) e
            · cases e
        exact this _ _ _ (by omega) hg
      · have h3 : s.size = 1 := by omega
        obtain ⟨c, hc, hb⟩ := bt_drop s 0 (by omega)
        rw [List.drop_zero, List.drop_eq_nil_of_le (i := 0 + 1) (by simp; omega)] at hc
        have hb' : bt s 0 = (c.toNat : Int) := hb
        rw [hc] at hg
        simp only [digGo] at hg
        split at hg
        · have := Option.some.inj hg; omega
        · cases hg
theorem positional_eq (s : ByteArray) {k : Nat} (hk : 1000 ≤ k) : jobshellref17_positional.f k s = some (posOf s) := by
  unfold jobshellref17_positional.f posOf
  rw [digits_eq s hk]
  obtain ⟨⟨n, b⟩, hp, hh⟩ := digits_some s
  rw [hp, Option.bind_some]
  cases b with
  | false => rfl
  | true =>
    obtain ⟨h0, h1, h2, h3⟩ := hh rfl
    simp only [if_true]
    simp only at h0 h1 h3
    by_cases h4 : n < 1
    · rw [if_pos h4]; congr 1; omega
    · rw [if_neg h4, if_neg (by omega), if_pos (by omega), if_neg (fun h => by have := h3 h; omega)]
theorem position_eq (s : ByteArray) : ∃ n b, param_position.f s = some (n, b) ∧ (b = true → n = posOf s ∧ 0 < n ∧ n ≤ 2147483647) ∧ (b = false → posOf s = 0) := by
  unfold param_position.f posOf
  obtain ⟨⟨n, b⟩, hp, hh⟩ := digits_some s
  rw [hp, Option.bind_some]
  cases b with
  | false => exact ⟨_, _, rfl, (fun h => by cases h), fun _ => rfl⟩
  | true =>
    obtain ⟨h0, h1, h2, h3⟩ := hh rfl
    simp only at h0 h1
    refine ⟨n, decide (n > 0), rfl, fun h => ⟨rfl, of_decide_eq_true h, h1⟩, fun h => ?_⟩
    have := of_decide_eq_false h
    show n = 0
    omega
end Go.Proofs.YtiacdccnifjcjaaDoor.Pure
set_option linter.unusedVariables false
set_option linter.unusedSimpArgs false
namespace Go.Proofs.YtiacdccnifjcjaaDoor.Pure
open Go.RowKit Go.Proofs.YtiacdccnifjcjaaDoor.F Go.Proofs.YtiacdccnifjcjaaDoorW.PrintWords
theorem one_num (d : Nat) (h : d < 10) : strOfNums [(IntKind.u64.wrap (48 + (d : Int))) % 256] = ba [UInt8.ofNat (48 + d)] := by
  rw [IntWalk.u64_in _ ⟨by omega, by omega⟩, Int.emod_eq_of_lt (by omega) (by omega)]
  unfold strOfNums ba
  simp only [List.map_cons, List.map_nil]
  rw [show (48 + (d : Int)).toNat = 48 + d by omega]
theorem digits_go : ∀ (n : Nat) (f k : Nat) (acc : List UInt8), n < 10 ^ f → f < 21 → acc.length + f ≤ 100 → n ≤ 18446744073709551615 → f + 1 ≤ k → jobshellref05_digits.l0 k (n : Int) (ba acc) = some (ba (Lib.decDigits n ++ acc)) := by
  intro n
  induction n using Nat.strongRecOn with
  | _ n ih =>
    intro f k acc hf hf2 ha hn hk
    obtain ⟨m, rfl⟩ : ∃ m, k = m + 1 := ⟨k - 1, by omega⟩
    rw [jobshellref05_digits.l0]
    by_cases h : n < 10
    · rw [if_neg (by omega), Option.bind_some, one_num n h, ba_append, ba_size, ba_size, if_pos (by simp; omega), Lib.decDigits_one h]
    · obtain ⟨g, rfl⟩ : ∃ g, f = g + 1 := by
        cases f with
        | zero => simp at hf; omega
        | succ g => exact ⟨g, rfl⟩
      have hg : n / 10 < 10 ^ g := by rw [Nat.pow_succ] at hf; omega
      rw [if_pos (by omega), Option.bind_some, Int.tmod_eq_emod_of_nonneg (by omega), Int.tdiv_eq_ediv_of_nonneg (by omega)]
      rw [show ((n : Int) % 10) = ((n % 10 : Nat) : Int) by omega, show ((n : Int) / 10) = ((n / 10 : Nat) : Int) by omega]
      rw [one_num (n % 10) (by omega), ba_append, ba_size, ba_size, if_pos (by simp; omega), IntWalk.u64_in _ ⟨by omega, by omega⟩]
      rw [ih (n / 10) (by omega) g m _ hg (by omega) (by simp; omega) (by omega) (by omega)]
      have e : Lib.decDigits n = Lib.decDigits (n / 10) ++ [UInt8.ofNat (48 + n % 10)] := by rw [Lib.decDigits, dif_neg h]
      rw [e, List.append_assoc]
theorem digits05 (n : Nat) (hn : n ≤ 18446744073709551615) {k : Nat} (hk : 100 ≤ k) : jobshellref05_digits.f k (n : Int) = some (ba (Lib.decDigits n)) := by
  have := digits_go n 20 k [] (by omega) (by omega) (by simp) hn (by omega)
  rw [List.append_nil] at this
  exact this
theorem decimal_eq (n : Int) (h0 : -9223372036854775808 ≤ n) (h1 : n ≤ 9223372036854775807) {k : Nat} (hk : 100 ≤ k) : jobshellref05_Decimal.f k n = some (ba (Lib.itoa n)) := by
  unfold jobshellref05_Decimal.f
  by_cases h : n < 0
  · rw [if_pos h]
    have e1 : wrap64 (-(wrap64 (n + 1))) = -(n + 1) := by rw [wrap_id (i := n + 1) (by omega) (by omega), wrap_id (by omega) (by omega)]
    have e2 : IntKind.u64.wrap (IntKind.u64.wrap (-(n + 1)) + 1) = (n.natAbs : Int) := by
      rw [IntWalk.u64_in (-(n + 1)) ⟨by omega, by omega⟩, IntWalk.u64_in _ ⟨by omega, by omega⟩]; omega
    have hl := Lib.decDigits_length n.natAbs
    have hl2 : Lib.nDigits n.natAbs ≤ 100 := by
      have := Lib.nDigits_unique
      have h3 : ∀ (f u : Nat), u < 10 ^ f → 1 ≤ f → Lib.nDigits u ≤ f := by
        intro f
        induction f with
        | zero => intro u _ h; omega
        | succ f ihf =>
          intro u hu _
          by_cases h10 : u < 10
          · rw [Lib.nDigits_small h10]; omega
          · rw [Lib.nDigits_big h10]
            have hf0 : 1 ≤ f := by
              cases f with
              | zero => simp at hu; omega
              | succ f => omega
            have := ihf (u / 10) (by rw [Nat.pow_succ] at hu; omega) hf0
            omega
      have := h3 20 n.natAbs (by omega) (by omega)
      omega
    rw [e1, e2, digits05 n.natAbs (by omega) hk, Option.bind_some, ba_size, if_pos (by omega)]
    have e3 : Lib.itoa n = 45 :: Lib.decDigits n.natAbs := by unfold Lib.itoa; rw [if_pos h]
    rw [e3]
    exact congrArg some (ba_append [45] (Lib.decDigits n.natAbs))
  · rw [if_neg h]
    obtain ⟨m, rfl⟩ : ∃ m : Nat, n = m := ⟨n.toNat, by omega⟩
    rw [IntWalk.u64_in _ ⟨by omega, by omega⟩, digits05 m (by omega) hk, Option.bind_some, Lib.itoa_nonneg]
theorem itoa_eq (n : Int) (h0 : -9223372036854775808 ≤ n) (h1 : n ≤ 9223372036854775807) : strconv_Itoa.f n = some (ba (Lib.itoa n)) := by
  unfold strconv_Itoa.f; rw [if_pos ⟨h0, h1⟩]; rfl
theorem flags_eq (o : Int) {k : Nat} (hk : 20 ≤ k) : jobshellref17_Flags.f k o = param_flags.f o := by
  obtain ⟨m, rfl⟩ : ∃ m, k = m + 9 := ⟨k - 9, by omega⟩
  unfold jobshellref17_Flags.f param_flags.f
  have step : ∀ (i : Nat) (b : Int) (c : UInt8) (q : Nat) (acc : List UInt8), i < 8 → acc.length ≤ 100 → rd [32, 128, 1, 8, 64, 16, 2, 4] (i : Int) = b → (⟨#[97, 67, 101, 102, 109, 110, 117, 120]⟩ : ByteArray).extract i (i + 1) = ba [c] →
      jobshellref17_Flags.l0 (q + 1) o (⟨#[97, 67, 101, 102, 109, 110, 117, 120]⟩ : ByteArray) [32, 128, 1, 8, 64, 16, 2, 4] (ba acc) (i : Int) =
      jobshellref17_Flags.l0 q o (⟨#[97, 67, 101, 102, 109, 110, 117, 120]⟩ : ByteArray) [32, 128, 1, 8, 64, 16, 2, 4] (ba (acc ++ if Go.bits .and .i64 o b = 0 then [] else [c])) ((i + 1 : Nat) : Int) := by
    intro i b c q acc hi ha hb hc
    have hsz : ((⟨#[97, 67, 101, 102, 109, 110, 117, 120]⟩ : ByteArray).size : Int) = 8 := rfl
    rw [jobshellref17_Flags.l0, if_pos (by simp; omega), if_pos (by omega), hb, wrap_succ (by omega)]
    by_cases h : Go.bits .and .i64 o b = 0
    · rw [if_pos h, if_pos h, List.append_nil]
    · rw [if_neg h, if_neg h, if_pos (by omega), if_pos (by omega), Int.toNat_natCast, Int.toNat_natCast, hc, ba_size, ba_size, if_pos (by simp; omega), ba_append]
  have e0 : (⟨#[]⟩ : ByteArray) = ba [] := rfl
  have len1 : ∀ (c : UInt8) (b : Int), (if Go.bits .and .i64 o b = 0 then [] else [c]).length ≤ 1 := by intro c b; split <;> simp
  rw [e0, show (0 : Int) = ((0 : Nat) : Int) from rfl]
  rw [step 0 32 97 _ _ (by omega) (by simp) rfl (by decide +kernel)]
  rw [step 1 128 67 _ _ (by omega) (by have := len1 97 32; simp only [List.length_append, List.length_nil]; omega) rfl (by decide +kernel)]
  rw [step 2 1 101 _ _ (by omega) (by have := len1 97 32; have := len1 67 128; simp only [List.length_append, List.length_nil]; omega) rfl (by decide +kernel)]
  rw [step 3 8 102 _ _ (by omega) (by have := len1 97 32; have := len1 67 128; have := len1 101 1; simp only [List.length_append, List.length_nil]; omega) rfl (by decide +kernel)]
  rw [step 4 64 109 _ _ (by omega) (by have := len1 97 32; have := len1 67 128; have := len1 101 1; have := len1 102 8; simp only [List.length_append, List.length_nil]; omega) rfl (by decide +kernel)]
  rw [step 5 16 110 _ _ (by omega) (by have := len1 97 32; have := len1 67 128; have := len1 101 1; have := len1 102 8; have := len1 109 64; simp only [List.length_append, List.length_nil]; omega) rfl (by decide +kernel)]
  rw [step 6 2 117 _ _ (by omega) (by have := len1 97 32; have := len1 67 128; have := len1 101 1; have := len1 102 8; have := len1 109 64; have := len1 110 16; simp only [List.length_append, List.length_nil]; omega) rfl (by decide +kernel)]
  rw [step 7 4 120 _ _ (by omega) (by have := len1 97 32; have := len1 67 128; have := len1 101 1; have := len1 102 8; have := len1 109 64; have := len1 110 16; have := len1 117 2; simp only [List.length_append, List.length_nil]; omega) rfl (by decide +kernel)]
  rw [jobshellref17_Flags.l0, if_neg (by simp)]
  have fl : ∀ (x : Int × UInt8) (r : List (Int × UInt8)), flagsOf o (x :: r) = (if Go.bits .and .i64 o x.1 = 0 then [] else [x.2]) ++ flagsOf o r := by
    intro x r; simp only [flagsOf]; split <;> rfl
  show some (ba _) = some (ba (flagsOf o flagTab))
  unfold flagTab
  rw [fl, fl, fl, fl, fl, fl, fl, fl]
  simp only [List.nil_append, List.append_assoc, flagsOf, List.append_nil]
theorem ba_add (a : List UInt8) (s : ByteArray) : ba a ++ s = ba (a ++ s.data.toList) := by
  rw [← ba_append, ba_of]
theorem join_go (sep : ByteArray) (xs : List ByteArray) (hl : xs.length ≤ 20) (hx : ∀ x ∈ xs, x.size ≤ 500) (hsep : sep.size ≤ 1) :
    ∀ (d i k : Nat) (acc : List UInt8), i + d = xs.length → 0 < i → acc.length ≤ i * 501 → d < k → jobshellref17_Join.l0 k xs sep (ba acc) i = some (ba (acc ++ joinTail sep (xs.drop i))) := by
  intro d
  induction d with
  | zero =>
    intro i k acc hi h0 ha hk
    obtain ⟨m, rfl⟩ : ∃ m, k = m + 1 := ⟨k - 1, by omega⟩
    rw [jobshellref17_Join.l0, if_neg (by omega), List.drop_eq_nil_of_le (by omega)]
    simp [joinTail]
  | succ d ih =>
    intro i k acc hi h0 ha hk
    obtain ⟨m, rfl⟩ : ∃ m, k = m + 1 := ⟨k - 1, by omega⟩
    have hd : xs.drop i = rdOf ByteArray.empty xs (i : Int) :: xs.drop (i + 1) := getD_drop _ xs i (by omega)
    have hm := hx _ (List.mem_of_mem_drop (hd ▸ List.mem_cons_self) : rdOf ByteArray.empty xs (i : Int) ∈ xs)
    have hsd := size_data sep
    have hxd := size_data (rdOf ByteArray.empty xs (i : Int))
    rw [jobshellref17_Join.l0, if_pos (by omega), if_pos (by omega), ba_size, if_pos (by omega), if_pos (by omega), ba_add, ba_size, List.length_append, if_pos (by omega), ba_add, wrap_succ (by omega)]
    rw [ih (i + 1) m _ (by omega) (by omega) (by simp only [List.length_append]; omega) (by omega), hd]
    simp only [joinTail, List.append_assoc]
theorem join_len (sep : ByteArray) (xs : List ByteArray) (hl : xs.length ≤ 20) (hx : ∀ x ∈ xs, x.size ≤ 500) (hsep : sep.size ≤ 1) : (joinGo sep xs).length ≤ 20000 := by
  have key : ∀ ys : List ByteArray, (∀ x ∈ ys, x.size ≤ 500) → (joinTail sep ys).length ≤ ys.length * 501 := by
    intro ys
    induction ys with
    | nil => intro _; simp [joinTail]
    | cons y r ih =>
      intro h
      have h1 := h y List.mem_cons_self
      have h2 := ih (fun x hx => h x (List.mem_cons_of_mem _ hx))
      simp only [joinTail, List.length_append, List.length_cons, size_data]
      omega
  cases xs with
  | nil => simp [joinGo]
  | cons x r =>
    have h1 := hx x List.mem_cons_self
    have h2 := key r (fun y hy => hx y (List.mem_cons_of_mem _ hy))
    simp only [joinGo, List.length_append, size_data]
    simp only [List.length_cons] at hl
    omega
theorem join_eq (sep : ByteArray) (xs : List ByteArray) (hl : xs.length ≤ 20) (hx : ∀ x ∈ xs, x.size ≤ 500) (hsep : sep.size ≤ 1) {k : Nat} (hk : 100 ≤ k) :
    strings_Join.f xs sep = some (ba (joinGo sep xs)) ∧ jobshellref17_Join.f k xs sep = some (ba (joinGo sep xs)) := by
  refine ⟨by unfold strings_Join.f; rw [if_pos (by have := join_len sep xs hl hx hsep; omega)]; rfl, ?_⟩
  obtain ⟨m, rfl⟩ : ∃ m, k = m + 1 := ⟨k - 1, by omega⟩
  unfold jobshellref17_Join.f
  rw [jobshellref17_Join.l0]
  cases xs with
  | nil => rw [if_neg (by simp)]; rfl
  | cons x r =>
    have h1 := hx x List.mem_cons_self
    have e0 : rdOf ByteArray.empty (x :: r) 0 = x := rfl
    have hxd := size_data x
    rw [if_pos (by simp), if_neg (by omega), if_pos (by omega), e0, show (⟨#[]⟩ : ByteArray) = ba [] from rfl, ba_size, if_pos (by simp; omega), ba_add, show wrap64 (0 + 1) = ((1 : Nat) : Int) by rw [wrap_id (by omega) (by omega)]; rfl]
    rw [join_go sep (x :: r) hl hx hsep r.length 1 m _ (by simp; omega) (by omega) (by simp; omega) (by simp at hl; omega)]
    simp [joinGo]
theorem sep_eq (vs : List S_Var) (hl : vs.length ≤ 20) {k : Nat} (hk : 1000 ≤ k) : ∃ s, param_separator.f k vs = some s ∧ jobshellref17_Glue.f k vs = some s ∧ s.size ≤ 1 := by
  unfold param_separator.f jobshellref17_Glue.f
  simp only [vars_get _ vs (show vs.length < 1000 by omega) hk, ref_get _ vs (show vs.length < 1000 by omega) hk, Option.bind_some]
  generalize getGo (⟨#[73, 70, 83]⟩ : ByteArray) vs = g
  by_cases h1 : g.2.2.1 = true
  · rw [if_pos h1]
    by_cases h2 : g.2.1.size = 0
    · rw [if_pos ((nil_iff _).2 h2)]; exact ⟨_, rfl, rfl, by decide⟩
    · have h2' : ¬ g.2.1.toList = ([] : List UInt8) := fun e => h2 ((nil_iff _).1 e)
      rw [if_neg h2', if_pos (by omega), if_pos (by omega)]
      exact ⟨_, rfl, rfl, by rw [ByteArray.size_extract]; omega⟩
  · rw [if_neg h1]; exact ⟨_, rfl, rfl, by decide⟩
end Go.Proofs.YtiacdccnifjcjaaDoor.Pure
set_option linter.unusedVariables false
set_option linter.unusedSimpArgs false
namespace Go.Proofs.YtiacdccnifjcjaaDoor.Pure
open Go.RowKit Go.Proofs.YtiacdccnifjcjaaDoor.F Go.Proofs.YtiacdccnifjcjaaDoorW.PrintWords
structure Few (vs : List S_Var) (ps : List ByteArray) : Prop where
  vars : vs.length ≤ 20
  params : ps.length ≤ 20
  sizes : ∀ x ∈ ps, x.size ≤ 500
theorem wf_i64 {a : Int} (h : (Lit.int .i64 a).wf = true) : -9223372036854775808 ≤ a ∧ a ≤ 9223372036854775807 := by
  simp only [Lit.wf, Bool.and_eq_true, decide_eq_true_eq] at h
  exact ⟨h.1, h.2⟩
theorem of_bytes {s : ByteArray} {l : List UInt8} (h : s.toList = l) : s = ba l := by
  rw [Lib.toList_data] at h; rw [← h, ba_of]
theorem getGo_ok (nm : ByteArray) (vs : List S_Var) : (getGo nm vs).2.2.2.2.2 = false → (getGo nm vs).2.2.1 = false := by
  induction vs with
  | nil => intro _; rfl
  | cons v r ih =>
    intro h
    by_cases hn : v.f0.toList = nm.toList
    · rw [getGo, if_pos hn] at h; cases h
    · rw [getGo, if_neg hn] at h ⊢; exact ih h
theorem pos_name (s : ByteArray) (h : posOf s ≠ 0) : chars_Name.f s = some false := by
  obtain ⟨⟨n, b⟩, hp, hh⟩ := digits_some s
  unfold posOf at h
  rw [hp] at h
  cases b with
  | false => exact absurd rfl h
  | true =>
    obtain ⟨_, _, h2, _⟩ := hh rfl
    unfold chars_Name.f
    rw [if_neg (by omega)]
    split
    · rfl
    · unfold chars_Digits.f at hp
      obtain ⟨c, hc, _⟩ := bt_drop s 0 h2
      rw [List.drop_zero] at hc
      obtain ⟨r, hr⟩ : ∃ r, s.data.toList = c :: r := ⟨_, hc⟩
      rw [if_neg (by omega)] at hp
      split at hp
      · cases hp
      split at hp
      · cases hp
      rw [hr] at hp ⊢
      simp only [digGo] at hp
      split at hp
      · cases hp
      · rename_i m hm
        split at hm
        · rename_i hd
          have hl : isLet (c.toNat : Int) = false := by unfold isLet; simp; omega
          have h95 : ((c.toNat : Int) == 95) = false := beq_eq_false_iff_ne.2 (by omega)
          simp only [nameGo, nameCh, hl, h95, Bool.not_true, Bool.false_and, Bool.or_false, Bool.false_eq_true, if_false]
        · cases hm
set_option maxHeartbeats 1000000 in
theorem value_eq (n0 : ByteArray) (vs : List S_Var) (ps : List ByteArray) (o3 : Opq) (al : List S_Alias) (tr : List S_Trap) (i6 i7 i8 i9 : Int) (s10 : ByteArray) (i11 i12 i13 : Int) (b14 : Bool) (nm : ByteArray)
    (hF : Few vs ps) (h7 : (Lit.int .i64 i7).wf = true) (h8 : (Lit.int .i64 i8).wf = true) (h9 : (Lit.int .i64 i9).wf = true) {k : Nat} (hk : 2000 ≤ k) :
    ∃ r, param_Value.f k n0 vs ps o3 al tr i6 i7 i8 i9 s10 i11 i12 i13 b14 nm = some r ∧ jobshellref17_Value.f k n0 vs ps o3 al tr i6 i7 i8 i9 s10 i11 i12 i13 b14 nm = some r := by
  obtain ⟨hv, hp, hsz⟩ := hF
  have nf : ¬ (false = true) := by decide
  obtain ⟨h7a, h7b⟩ := wf_i64 h7
  obtain ⟨h8a, h8b⟩ := wf_i64 h8
  obtain ⟨h9a, h9b⟩ := wf_i64 h9
  obtain ⟨m, rfl⟩ : ∃ m, k = m + 2 := ⟨k - 2, by omega⟩
  have R : jobshellref17_Value.f (m + 2) n0 vs ps o3 al tr i6 i7 i8 i9 s10 i11 i12 i13 b14 nm = ((chars_Name.f nm).bind fun t240 => (if t240 = true then (if (getGo nm vs).2.2.1 = true then (some ((getGo nm vs).2.1, true)) else (some ((⟨#[]⟩ : ByteArray), false))) else (jobshellref17_Value.j0 (m + 2) nm (posOf nm) (decide (0 < posOf nm) && decide (posOf nm ≤ (ps.length : Int))) n0 vs ps o3 al tr i6 i7 i8 i9 s10 i11 i12 i13 b14))) := by
    unfold jobshellref17_Value.f
    rw [positional_eq nm (by omega), Option.bind_some, name_eq nm (by omega), ref_get nm vs (by omega) (by omega)]
    congr 1; funext t
    simp only [Option.bind_some]
    cases t with
    | true => rfl
    | false =>
      simp only [Bool.false_eq_true, if_false]
      by_cases h : posOf nm > 0
      · rw [if_pos h, decide_eq_true (show 0 < posOf nm from h), Bool.true_and]
      · rw [if_neg h, decide_eq_false (show ¬ 0 < posOf nm from h), Bool.false_and]
  rw [R]
  clear R
  unfold param_Value.f
  have P : ∀ c : UInt8, chars_Name.f (ba [c]) = some false → posOf (ba [c]) = 0 → ((chars_Name.f (ba [c])).bind fun t240 => (if t240 = true then (if (getGo (ba [c]) vs).2.2.1 = true then (some ((getGo (ba [c]) vs).2.1, true)) else (some ((⟨#[]⟩ : ByteArray), false))) else (jobshellref17_Value.j0 (m + 2) (ba [c]) (posOf (ba [c])) (decide (0 < posOf (ba [c])) && decide (posOf (ba [c]) ≤ (ps.length : Int))) n0 vs ps o3 al tr i6 i7 i8 i9 s10 i11 i12 i13 b14)))
      = jobshellref17_Value.j0 (m + 2) (ba [c]) 0 false n0 vs ps o3 al tr i6 i7 i8 i9 s10 i11 i12 i13 b14 := by
    intro c h1 h2
    rw [h1, h2, Option.bind_some, if_neg nf]; rfl
  by_cases c0 : nm.toList = ([48] : List UInt8)
  · obtain rfl := of_bytes c0
    rw [if_pos c0, P 48 (by decide +kernel) (by decide +kernel), jobshellref17_Value.j0, if_neg nf, if_pos c0]
    exact ⟨_, rfl, rfl⟩
  by_cases c1 : nm.toList = ([35] : List UInt8)
  · obtain rfl := of_bytes c1
    rw [if_neg c0, if_pos c1, P 35 (by decide +kernel) (by decide +kernel), jobshellref17_Value.j0, if_neg nf, if_neg c0, if_pos c1, decimal_eq _ (by omega) (by omega) (by omega), itoa_eq _ (by omega) (by omega)]
    exact ⟨_, rfl, rfl⟩
  by_cases c2 : nm.toList = ([63] : List UInt8)
  · obtain rfl := of_bytes c2
    rw [if_neg c0, if_neg c1, if_pos c2, P 63 (by decide +kernel) (by decide +kernel), jobshellref17_Value.j0, if_neg nf, if_neg c0, if_neg c1, if_pos c2, decimal_eq _ (by omega) (by omega) (by omega), itoa_eq _ (by omega) (by omega)]
    exact ⟨_, rfl, rfl⟩
  by_cases c3 : nm.toList = ([45] : List UInt8)
  · obtain rfl := of_bytes c3
    rw [if_neg c0, if_neg c1, if_neg c2, if_pos c3, P 45 (by decide +kernel) (by decide +kernel), jobshellref17_Value.j0, if_neg nf, if_neg c0, if_neg c1, if_neg c2, if_pos c3, flags_eq _ (by omega)]
    exact ⟨_, rfl, rfl⟩
  by_cases c4 : nm.toList = ([36] : List UInt8)
  · obtain rfl := of_bytes c4
    rw [if_neg c0, if_neg c1, if_neg c2, if_neg c3, if_pos c4, P 36 (by decide +kernel) (by decide +kernel), jobshellref17_Value.j0, if_neg nf, if_neg c0, if_neg c1, if_neg c2, if_neg c3, if_pos c4, decimal_eq _ (by omega) (by omega) (by omega), itoa_eq _ (by omega) (by omega)]
    exact ⟨_, rfl, rfl⟩
  by_cases c5 : nm.toList = ([33] : List UInt8)
  · obtain rfl := of_bytes c5
    rw [if_neg c0, if_neg c1, if_neg c2, if_neg c3, if_neg c4, if_pos c5, P 33 (by decide +kernel) (by decide +kernel), jobshellref17_Value.j0, if_neg nf, if_neg c0, if_neg c1, if_neg c2, if_neg c3, if_neg c4, if_pos c5, jobshellref17_Value.j1]
    by_cases h : i9 = 0
    · rw [if_pos h, h, if_neg (show ¬ ((0 : Int) != 0) = true by decide), if_neg (show ¬ (ba [33]).toList = ([64] : List UInt8) by decide +kernel), if_neg (show ¬ (ba [33]).toList = ([42] : List UInt8) by decide +kernel)]; exact ⟨_, rfl, rfl⟩
    · rw [if_neg h, bne_iff_ne.2 h, if_pos rfl, decimal_eq _ (by omega) (by omega) (by omega), itoa_eq _ (by omega) (by omega)]; exact ⟨_, rfl, rfl⟩
  by_cases c6 : nm.toList = ([64] : List UInt8)
  · obtain rfl := of_bytes c6
    obtain ⟨j1, j2⟩ := join_eq (⟨#[32]⟩ : ByteArray) ps hp hsz (by decide) (k := m) (by omega)
    rw [if_neg c0, if_neg c1, if_neg c2, if_neg c3, if_neg c4, if_neg c5, if_pos c6, P 64 (by decide +kernel) (by decide +kernel), jobshellref17_Value.j0, if_neg nf, if_neg c0, if_neg c1, if_neg c2, if_neg c3, if_neg c4, if_neg c5, jobshellref17_Value.j1, if_neg nf, if_pos c6, j1, j2]
    exact ⟨_, rfl, rfl⟩
  by_cases c7 : nm.toList = ([42] : List UInt8)
  · obtain rfl := of_bytes c7
    obtain ⟨s, s1, _, s3⟩ := sep_eq vs hv (k := m + 2) (by omega)
    obtain ⟨s', _, s2', s3'⟩ := sep_eq vs hv (k := m) (by omega)
    have : s' = s := by
      have e1 := s1
      have e2 : param_separator.f m vs = some s' := by
        obtain ⟨u, u1, u2, _⟩ := sep_eq vs hv (k := m) (by omega)
        rw [u1]; rw [u2] at s2'; exact s2'
      have e3 := at_rounds (g := fun k => param_separator.f k vs) (fun k => param_separator.mono _ k) (show m ≤ m + 2 by omega) e2
      exact Option.some.inj (e3.symm.trans e1)
    subst this
    obtain ⟨j1, j2⟩ := join_eq s' ps hp hsz s3 (k := m) (by omega)
    rw [if_neg c0, if_neg c1, if_neg c2, if_neg c3, if_neg c4, if_neg c5, if_neg c6, if_pos c7, P 42 (by decide +kernel) (by decide +kernel), jobshellref17_Value.j0, if_neg nf, if_neg c0, if_neg c1, if_neg c2, if_neg c3, if_neg c4, if_neg c5, jobshellref17_Value.j1, if_neg nf, if_neg c6, if_pos c7, s1, s2', Option.bind_some, Option.bind_some, j1, j2]
    exact ⟨_, rfl, rfl⟩
  have last : ∀ n, jobshellref17_Value.j0 (m + 2) nm n false n0 vs ps o3 al tr i6 i7 i8 i9 s10 i11 i12 i13 b14 = some ((⟨#[]⟩ : ByteArray), false) := by
    intro n
    rw [jobshellref17_Value.j0, if_neg nf, if_neg c0, if_neg c1, if_neg c2, if_neg c3, if_neg c4, if_neg c5, jobshellref17_Value.j1, if_neg nf, if_neg c6, if_neg c7]
  rw [if_neg c0, if_neg c1, if_neg c2, if_neg c3, if_neg c4, if_neg c5, if_neg c6, if_neg c7]
  obtain ⟨n, b, e, e1, e2⟩ := position_eq nm
  rw [e, Option.bind_some]
  simp only
  cases b with
  | true =>
    obtain ⟨rfl, g1, g2⟩ := e1 rfl
    rw [if_pos (rfl : true = true), pos_name nm (by omega), Option.bind_some, if_neg nf, decide_eq_true g1, Bool.true_and]
    by_cases h : posOf nm > (ps.length : Int)
    · rw [if_pos h, decide_eq_false (by omega), last]; exact ⟨_, rfl, rfl⟩
    · rw [if_neg h, decide_eq_true (by omega), jobshellref17_Value.j0, if_pos rfl, wrap_id (by omega) (by omega), if_pos (by omega), if_pos (by omega)]
      exact ⟨_, rfl, rfl⟩
  | false =>
    rw [e2 rfl, if_neg nf, vars_get nm vs (by omega) (by omega), Option.bind_some]
    have hd : (decide ((0 : Int) < 0) && decide ((0 : Int) ≤ (ps.length : Int))) = false := rfl
    rw [hd, last]
    obtain ⟨t, ht⟩ : ∃ t, chars_Name.f nm = some t := by
      unfold chars_Name.f; split
      · exact ⟨_, rfl⟩
      split <;> exact ⟨_, rfl⟩
    rw [ht]
    simp only [Option.bind_some]
    have hok := getGo_ok nm vs
    generalize getGo nm vs = g at hok ⊢
    obtain ⟨g1, g2, g3, g4, g5, g6⟩ := g
    simp only at hok ⊢
    cases g6 <;> cases g3 <;> cases t <;> simp at hok ⊢
end Go.Proofs.YtiacdccnifjcjaaDoor.Pure
set_option linter.unusedVariables false
set_option linter.unusedSimpArgs false
namespace Go.Proofs.YtiacdccnifjcjaaDoor.Pure
open Go.RowKit Go.Proofs.YtiacdccnifjcjaaDoor.F Go.Proofs.YtiacdccnifjcjaaDoorW.PrintWords
theorem digit48 (x : Int) : jobshellref48_digit.f x = some (isDig x) := by
  unfold jobshellref48_digit.f isDig
  by_cases h : x ≥ 48
  · rw [if_pos h, decide_eq_true (show 48 ≤ x from h), Bool.true_and]
  · rw [if_neg h, decide_eq_false (show ¬ 48 ≤ x from h), Bool.false_and]
theorem letter48 (x : Int) : jobshellref48_letter.f x = some (nameCh false x) := by
  unfold jobshellref48_letter.f nameCh isLet
  rw [digit48]
  by_cases h1 : x ≥ 97 <;> by_cases h2 : x ≤ 122 <;> by_cases h3 : x ≥ 65 <;> by_cases h4 : x ≤ 90 <;> by_cases h5 : x = 95 <;> simp [h1, h2, h3, h4, h5] <;> omega
theorem word48 (x : Int) : prompt_word.f x = some (nameCh false x) := by
  unfold prompt_word.f nameCh isLet isDig
  by_cases h1 : x ≥ 97 <;> by_cases h2 : x ≤ 122 <;> by_cases h3 : x ≥ 65 <;> by_cases h4 : x ≤ 90 <;> by_cases h5 : x = 95 <;> by_cases h6 : x ≥ 48 <;> by_cases h7 : x ≤ 57 <;> simp [h1, h2, h3, h4, h5, h6, h7] <;> omega
def spc (x : Int) : Bool := x == 64 || x == 42 || x == 35 || x == 63 || x == 45 || x == 36 || x == 33
theorem rspec (x : Int) : jobshellref48_special.f x = some (spc x) := by
  unfold jobshellref48_special.f spc
  by_cases h1 : x = 64 <;> by_cases h2 : x = 42 <;> by_cases h3 : x = 35 <;> by_cases h4 : x = 63 <;> by_cases h5 : x = 45 <;> by_cases h6 : x = 36 <;> simp [h1, h2, h3, h4, h5, h6]
theorem spec_byte (c : UInt8) : decide (Lib.indexByte [64, 42, 35, 63, 45, 36, 33] c ≥ 0) = spc (c.toNat : Int) := by
  have : ∀ n : Fin 256, decide (Lib.indexByte [64, 42, 35, 63, 45, 36, 33] (UInt8.ofNat n.val) ≥ 0) = spc ((UInt8.ofNat n.val).toNat : Int) := by decide +kernel
  have h := this ⟨c.toNat, c.toNat_lt⟩
  simpa using h
theorem pspec (r : ByteArray) : prompt_special.f r = some (match r.data.toList with | [] => false | c :: _ => spc (c.toNat : Int)) := by
  unfold prompt_special.f
  by_cases h : r.size = 0
  · have : r.data.toList = [] := List.length_eq_zero_iff.1 (by rw [size_data]; exact h)
    rw [if_pos ((nil_iff r).2 h), this]
  · obtain ⟨c, hc, hb⟩ := bt_drop r 0 (by omega)
    have hb' : bt r 0 = (c.toNat : Int) := hb
    rw [List.drop_zero] at hc
    obtain ⟨t, ht⟩ : ∃ t, r.data.toList = c :: t := ⟨_, hc⟩
    rw [if_neg (fun e => h ((nil_iff r).1 e)), if_pos (by omega), hb', ht]
    unfold strings_IndexByte.f
    show some (decide (Lib.indexByte [64, 42, 35, 63, 45, 36, 33] ((c.toNat : Int)).toNat.toUInt8 ≥ 0)) = some (spc (c.toNat : Int))
    rw [← spec_byte c, Int.toNat_natCast]
    simp
def twl : List UInt8 → Nat
  | [] => 0
  | c :: r => if nameCh false (c.toNat : Int) = true then twl r + 1 else 0
theorem twl_le : ∀ l : List UInt8, twl l ≤ l.length
  | [] => Nat.le_refl _
  | c :: r => by have := twl_le r; simp only [twl, List.length_cons]; split <;> omega
theorem name48 (s : ByteArray) (hs : s.size < 100000) : ∀ (d i k : Nat), i + d = s.size → d < k → jobshellref48_name.l0 k s i = some ((i + twl (s.data.toList.drop i) : Nat) : Int) := by
  intro d
  induction d with
  | zero =>
    intro i k hi hk
    obtain ⟨m, rfl⟩ : ∃ m, k = m + 1 := ⟨k - 1, by omega⟩
    rw [jobshellref48_name.l0, if_neg (by omega), List.drop_eq_nil_of_le (by simp; omega)]; rfl
  | succ d ih =>
    intro i k hi hk
    obtain ⟨m, rfl⟩ : ∃ m, k = m + 1 := ⟨k - 1, by omega⟩
    obtain ⟨c, hc, hb⟩ := bt_drop s i (by omega)
    rw [jobshellref48_name.l0, if_pos (by omega), if_pos (by omega), hb, letter48, Option.bind_some, wrap_succ (by omega), ih (i + 1) m (by omega) (by omega), hc]
    simp only [twl]
    by_cases h : nameCh false (c.toNat : Int) = true
    · rw [if_pos h, if_pos h]; congr 2; omega
    · rw [if_neg h, if_neg h]; rfl
theorem run48_go (s : ByteArray) (hs : s.size < 100000) : ∀ (d i k : Nat), i + d = s.size → d < k → prompt_run.l0 k s i = some (s.extract 0 (i + twl (s.data.toList.drop i))) := by
  intro d
  induction d with
  | zero =>
    intro i k hi hk
    obtain ⟨m, rfl⟩ : ∃ m, k = m + 1 := ⟨k - 1, by omega⟩
    rw [prompt_run.l0, if_neg (by omega), if_pos (by omega), if_pos (by omega), List.drop_eq_nil_of_le (by simp; omega), Int.toNat_natCast]; rfl
  | succ d ih =>
    intro i k hi hk
    obtain ⟨m, rfl⟩ : ∃ m, k = m + 1 := ⟨k - 1, by omega⟩
    obtain ⟨c, hc, hb⟩ := bt_drop s i (by omega)
    rw [prompt_run.l0, if_pos (by omega), if_pos (by omega), hb, word48, Option.bind_some, wrap_succ (by omega), ih (i + 1) m (by omega) (by omega), hc]
    simp only [twl]
    by_cases h : nameCh false (c.toNat : Int) = true
    · rw [if_pos h, if_pos h]; congr 2; omega
    · rw [if_neg h, if_neg h, if_pos (by omega), Int.toNat_natCast]; rfl
theorem run48 (s : ByteArray) (hs : s.size < 100000) {k : Nat} (hk : 100000 ≤ k) : prompt_run.f k s = some (ba (s.data.toList.take (twl s.data.toList))) := by
  have := run48_go s hs s.size 0 k (by omega) (by omega)
  rw [List.drop_zero, Nat.zero_add, extract_ba, List.drop_zero] at this
  exact this
def brace (r : List UInt8) : List UInt8 := if twl r = 0 then (match r with | d :: _ => if spc (d.toNat : Int) = true then [d] else [] | [] => []) else r.take (twl r)
def parL : List UInt8 → List UInt8 × Nat
  | [] => ([], 0)
  | c :: r => if isDig (c.toNat : Int) = true ∨ spc (c.toNat : Int) = true then ([c], 1)
    else if c = 123 then (if brace r = [] then ([], 0) else if (r.drop (brace r).length).head? = some 125 then (brace r, (brace r).length + 2) else ([], 0))
    else ((c :: r).take (twl (c :: r)), twl (c :: r))
theorem ba_nil_iff (l : List UInt8) : (ba l).toList = ([] : List UInt8) ↔ l = [] := by rw [Lib.toList_data, ba_data]
theorem prefix_brace (x : ByteArray) : strings_HasPrefix.f x (⟨#[125]⟩ : ByteArray) = some (decide (x.data.toList.head? = some 125)) := by
  unfold strings_HasPrefix.f stringslite_HasPrefix.f
  have h1 : ((⟨#[125]⟩ : ByteArray).size : Int) = 1 := rfl
  rw [h1]
  by_cases h : x.size = 0
  · have : x.data.toList = [] := List.length_eq_zero_iff.1 (by rw [size_data]; exact h)
    rw [if_neg (by omega), this]; rfl
  · obtain ⟨c, hc, hb⟩ := bt_drop x 0 (by omega)
    rw [List.drop_zero] at hc
    obtain ⟨t, ht⟩ : ∃ t, x.data.toList = c :: t := ⟨_, hc⟩
    rw [if_pos (by omega), if_pos (by omega), if_pos (by omega), extract_ba, List.drop_zero, ht]
    rw [Option.bind_some]
    congr 1
    rw [show (1 : Int).toNat = 1 from rfl, Lib.toList_data, ba_data, List.take_succ_cons, List.take_zero]
    have e : (⟨#[125]⟩ : ByteArray).toList = [125] := by decide +kernel
    rw [e]
    by_cases hc2 : c = 125
    · subst hc2; rfl
    · rw [beq_eq_false_iff_ne.2 (by simpa using hc2), decide_eq_false (show ¬ (c :: t).head? = some 125 by simpa using hc2)]
theorem par_prog (s : ByteArray) (hs : s.size ≤ 10000) {k : Nat} (hk : 200000 ≤ k) : prompt_parameter.f k s = some (ba (parL s.data.toList).1, ((parL s.data.toList).2 : Int)) := by
  obtain ⟨m, rfl⟩ : ∃ m, k = m + 4 := ⟨k - 4, by omega⟩
  unfold prompt_parameter.f
  by_cases h0 : s.size = 0
  · have : s.data.toList = [] := List.length_eq_zero_iff.1 (by rw [size_data]; exact h0)
    rw [if_pos ((nil_iff s).2 h0), this]; rfl
  obtain ⟨c, hc, hb⟩ := bt_drop s 0 (by omega)
  have hb' : bt s 0 = (c.toNat : Int) := hb
  rw [List.drop_zero] at hc
  obtain ⟨t, ht⟩ : ∃ t, s.data.toList = c :: t := ⟨_, hc⟩
  have hsz := size_data s
  rw [ht, List.length_cons] at hsz
  rw [if_neg (fun e => h0 ((nil_iff s).1 e)), if_pos (by omega), hb']
  have hj0 : (if (c.toNat : Int) ≥ 48 then (prompt_parameter.j0 (m + 4) s (decide ((c.toNat : Int) ≤ 57))) else (prompt_parameter.j0 (m + 4) s false)) = prompt_parameter.j0 (m + 4) s (isDig (c.toNat : Int)) := by
    unfold isDig
    by_cases h : (c.toNat : Int) ≥ 48
    · rw [if_pos h, decide_eq_true (show 48 ≤ (c.toNat : Int) from h), Bool.true_and]
    · rw [if_neg h, decide_eq_false (show ¬ 48 ≤ (c.toNat : Int) from h), Bool.false_and]
  have hsp : prompt_special.f s = some (spc (c.toNat : Int)) := by rw [pspec, ht]
  have hj1 : prompt_parameter.j0 (m + 4) s (isDig (c.toNat : Int)) = prompt_parameter.j1 (m + 3) s (isDig (c.toNat : Int) || spc (c.toNat : Int)) := by
    rw [prompt_parameter.j0, hsp]
    cases hd : isDig (c.toNat : Int) with
    | true => rw [if_pos rfl, Bool.true_or]
    | false => rw [if_neg (by decide), Bool.false_or]; rfl
  rw [hj0, hj1, ht, parL, prompt_parameter.j1]
  by_cases h1 : isDig (c.toNat : Int) = true ∨ spc (c.toNat : Int) = true
  · have : (isDig (c.toNat : Int) || spc (c.toNat : Int)) = true := by rcases h1 with h | h <;> rw [h] <;> simp
    rw [this, if_pos rfl, if_pos (by omega), if_pos (by omega), if_pos h1, extract_ba, List.drop_zero, ht]; rfl
  · have : (isDig (c.toNat : Int) || spc (c.toNat : Int)) = false := by
      cases hd : isDig (c.toNat : Int) <;> cases hs' : spc (c.toNat : Int) <;> simp [hd, hs'] at h1 ⊢
    rw [this, if_neg (by decide), if_pos (by omega), hb', if_neg h1]
    by_cases h2 : c = 123
    · subst h2
      have hx : (s.extract 1 s.size).data.toList = t := by
        rw [extract_data, List.take_of_length_le (by rw [size_data]; omega), ht]; rfl
      have hxs : (s.extract 1 s.size).size < 100000 := by rw [ByteArray.size_extract]; omega
      rw [if_pos (by decide), if_pos (by omega), run48 _ hxs (by omega), Option.bind_some, hx, if_pos rfl]
      have hbr : ∀ q : Nat, prompt_parameter.j3 (q + 1) s (ba (brace t)) = some (ba (if brace t = [] then ([], 0) else if (t.drop (brace t).length).head? = some 125 then (brace t, (brace t).length + 2) else ([], 0) : List UInt8 × Nat).1, ((if brace t = [] then ([], 0) else if (t.drop (brace t).length).head? = some 125 then (brace t, (brace t).length + 2) else ([], 0) : List UInt8 × Nat).2 : Int)) := by
        intro q
        rw [prompt_parameter.j3]
        have hbl : (brace t).length ≤ t.length := by
          unfold brace
          split
          · cases t with
            | nil => exact Nat.le_refl _
            | cons d r => simp only; split <;> simp
          · rw [List.length_take]; omega
        by_cases hb0 : brace t = []
        · rw [if_pos ((ba_nil_iff _).2 hb0), if_pos hb0]; rfl
        · rw [if_neg (fun e => hb0 ((ba_nil_iff _).1 e)), if_neg hb0, ba_size, wrap_id (i := 1 + ((brace t).length : Int)) (by omega) (by omega), if_pos (by omega), if_pos (by omega), prefix_brace, Option.bind_some]
          have hx2 : (s.extract (1 + ((brace t).length : Int)).toNat s.size).data.toList = t.drop (brace t).length := by
            rw [extract_data, List.take_of_length_le (by rw [size_data]; omega), ht, show (1 + ((brace t).length : Int)).toNat = (brace t).length + 1 by omega, List.drop_succ_cons]
          rw [hx2]
          by_cases h5 : (t.drop (brace t).length).head? = some 125
          · rw [decide_eq_true h5, if_pos rfl, if_pos h5, wrap_id (by omega) (by omega)]; rfl
          · rw [decide_eq_false h5, if_neg (by decide), if_neg h5]; rfl
      by_cases ht0 : twl t = 0
      · rw [ht0, List.take_zero, if_pos (by decide +kernel), pspec, hx, Option.bind_some, prompt_parameter.j2]
        cases t with
        | nil =>
          rw [if_neg (by decide)]
          exact hbr m
        | cons d r =>
          simp only
          by_cases hsd : spc (d.toNat : Int) = true
          · have he : s.extract 1 2 = ba (brace (d :: r)) := by
              unfold brace
              rw [if_pos ht0, extract_ba, ht]
              simp only [if_pos hsd]
              rfl
            rw [if_pos hsd, if_pos (by omega), if_pos (by simp at hsz; omega), he]
            exact hbr m
          · have he : ba [] = ba (brace (d :: r)) := by
              unfold brace
              rw [if_pos ht0]
              simp only [if_neg hsd]
            rw [if_neg hsd, he]
            exact hbr m
      · have hne : ¬ (ba (t.take (twl t))).toList = ([] : List UInt8) := by
          rw [ba_nil_iff]; intro e
          have := congrArg List.length e
          have h3 := twl_le t
          rw [List.length_take, List.length_nil] at this; omega
        have he : ba (t.take (twl t)) = ba (brace t) := by unfold brace; rw [if_neg ht0]
        rw [if_neg hne, prompt_parameter.j2, if_neg (by decide), he]
        exact hbr m
    · have h2' : ¬ (c.toNat : Int) = 123 := by
        intro e; apply h2
        have : c.toNat = (123 : UInt8).toNat := (by omega : c.toNat = 123)
        exact UInt8.toNat_inj.1 this
      rw [if_neg h2', if_neg h2, run48 s (by omega) (by omega), Option.bind_some, ht, ba_size]
      simp only [List.length_take]
      have := twl_le (c :: t)
      rw [show min (twl (c :: t)) (c :: t).length = twl (c :: t) by omega]
end Go.Proofs.YtiacdccnifjcjaaDoor.Pure
set_option linter.unusedVariables false
set_option linter.unusedSimpArgs false
namespace Go.Proofs.YtiacdccnifjcjaaDoor.Pure
open Go.RowKit Go.Proofs.YtiacdccnifjcjaaDoor.F Go.Proofs.YtiacdccnifjcjaaDoorW.PrintWords
theorem head_lt {l : List UInt8} {n : Nat} {c : UInt8} (h : (l.drop n).head? = some c) : n < l.length := by
  rcases Nat.lt_or_ge n l.length with h1 | h1
  · exact h1
  · rw [List.drop_eq_nil_of_le h1] at h; cases h
theorem parL_le : ∀ l : List UInt8, (parL l).2 ≤ l.length
  | [] => Nat.le_refl _
  | c :: r => by
    rw [parL]
    split
    · simp
    split
    · split
      · simp
      split
      · rename_i h; have := head_lt h; simp; omega
      · simp
    · exact twl_le _
section
variable (val : List UInt8 → List UInt8) (cwd js ns : List UInt8)
def stepL : List UInt8 → Option (List UInt8 × Nat)
  | [] => none
  | c :: r => if c = 36 then (if 0 < (parL r).2 then some (val (parL r).1, (parL r).2 + 1) else none)
    else if c = 92 then (match r with
      | [] => none
      | d :: _ => if d = 119 then some (cwd, 2) else if d = 36 then some ([36], 2) else if d = 92 then some ([92], 2) else if d = 117 then some (val [85, 83, 69, 82], 2)
        else if d = 106 then some (js, 2) else if d = 33 then some (ns, 2) else if d = 110 then some ([10], 2) else none)
    else none
theorem stepL_le (l : List UInt8) (t : List UInt8) (n : Nat) (h : stepL val cwd js ns l = some (t, n)) : 1 ≤ n ∧ n ≤ l.length := by
  cases l with
  | nil => cases h
  | cons c r =>
    simp only [stepL] at h
    have hp := parL_le r
    split at h
    · split at h
      · have := (Prod.mk.inj (Option.some.inj h)).2; simp; omega
      · cases h
    split at h
    · cases r with
      | nil => cases h
      | cons d q =>
        simp only at h
        have two : ∀ u, some (u, 2) = some (t, n) → 1 ≤ n ∧ n ≤ (c :: d :: q).length := by
          intro u e; have := (Prod.mk.inj (Option.some.inj e)).2; simp; omega
        repeat (first | (split at h; exact two _ h) | (split at h))
        all_goals first | exact two _ h | cases h
    · cases h
def expL : Nat → List UInt8 → List UInt8
  | 0, _ => []
  | g + 1, l => match l with
    | [] => []
    | c :: r => match stepL val cwd js ns (c :: r) with
      | some (t, n) => t ++ expL g ((c :: r).drop n)
      | none => c :: expL g r
theorem expL_fuel : ∀ (n g h : Nat) (l : List UInt8), l.length ≤ n → l.length ≤ g → l.length ≤ h → expL val cwd js ns g l = expL val cwd js ns h l := by
  intro n
  induction n with
  | zero =>
    intro g h l hn _ _
    obtain rfl : l = [] := List.length_eq_zero_iff.1 (by omega)
    cases g <;> cases h <;> rfl
  | succ n ih =>
    intro g h l hn hg hh
    cases l with
    | nil => cases g <;> cases h <;> rfl
    | cons c r =>
      simp only [List.length_cons] at hn hg hh
      obtain ⟨g', rfl⟩ : ∃ g', g = g' + 1 := ⟨g - 1, by omega⟩
      obtain ⟨h', rfl⟩ : ∃ h', h = h' + 1 := ⟨h - 1, by omega⟩
      simp only [expL]
      cases hs : stepL val cwd js ns (c :: r) with
      | none => simp only; rw [ih g' h' r (by omega) (by omega) (by omega)]
      | some x =>
        obtain ⟨t, m⟩ := x
        obtain ⟨h1, h2⟩ := stepL_le val cwd js ns _ _ _ hs
        simp only
        rw [ih g' h' ((c :: r).drop m) (by simp; omega) (by simp; omega) (by simp; omega)]
def ex (l : List UInt8) : List UInt8 := expL val cwd js ns l.length l
theorem ex_nil : ex val cwd js ns [] = [] := rfl
theorem ex_none (c : UInt8) (r : List UInt8) (h : stepL val cwd js ns (c :: r) = none) : ex val cwd js ns (c :: r) = c :: ex val cwd js ns r := by
  unfold ex
  simp only [List.length_cons, expL, h]
theorem ex_some (l t : List UInt8) (n : Nat) (h : stepL val cwd js ns l = some (t, n)) : ex val cwd js ns l = t ++ ex val cwd js ns (l.drop n) := by
  obtain ⟨h1, h2⟩ := stepL_le val cwd js ns _ _ _ h
  cases l with
  | nil => cases h
  | cons c r =>
    unfold ex
    simp only [List.length_cons, expL, h]
    congr 1
    exact expL_fuel val cwd js ns r.length _ _ _ (by simp; omega) (by simp; omega) (Nat.le_refl _)
theorem ex_length (B : Nat) (hB : 2 ≤ B) (hv : ∀ x, (val x).length ≤ B) (hc : cwd.length ≤ B) (hj : js.length ≤ B) (hn : ns.length ≤ B) : ∀ (n : Nat) (l : List UInt8), l.length ≤ n → (ex val cwd js ns l).length ≤ l.length * B := by
  intro n
  induction n with
  | zero => intro l hl; obtain rfl : l = [] := List.length_eq_zero_iff.1 (by omega); simp [ex_nil]
  | succ n ih =>
    intro l hl
    cases l with
    | nil => simp [ex_nil]
    | cons c r =>
      simp only [List.length_cons] at hl
      cases hs : stepL val cwd js ns (c :: r) with
      | none =>
        rw [ex_none _ _ _ _ _ _ hs]
        have := ih r (by omega)
        simp only [List.length_cons, Nat.succ_mul]; omega
      | some x =>
        obtain ⟨t, m⟩ := x
        obtain ⟨h1, h2⟩ := stepL_le val cwd js ns _ _ _ hs
        have ht : t.length ≤ B := by
          simp only [stepL] at hs
          have one : ∀ u q, u.length ≤ B → some (u, q) = some (t, m) → t.length ≤ B := by
            intro u q hu e; rw [← (Prod.mk.inj (Option.some.inj e)).1]; exact hu
          split at hs
          · split at hs
            · exact one _ _ (hv _) hs
            · cases hs
          split at hs
          · cases r with
            | nil => cases hs
            | cons d q =>
              simp only at hs
              split at hs
              · exact one _ _ hc hs
              split at hs
              · exact one _ _ (by simp; omega) hs
              split at hs
              · exact one _ _ (by simp; omega) hs
              split at hs
              · exact one _ _ (hv _) hs
              split at hs
              · exact one _ _ hj hs
              split at hs
              · exact one _ _ hn hs
              split at hs
              · exact one _ _ (by simp; omega) hs
              · cases hs
          · cases hs
        rw [ex_some _ _ _ _ _ _ _ hs, List.length_append]
        have h3 := ih ((c :: r).drop m) (by simp; omega)
        have h4 : ((c :: r).drop m).length * B ≤ r.length * B := Nat.mul_le_mul_right _ (by simp; omega)
        simp only [List.length_cons, Nat.succ_mul]
        omega
def quote : List UInt8 → List UInt8
  | [] => []
  | c :: r => if c = 92 ∨ c = 36 then 92 :: c :: quote r else c :: quote r
end
end Go.Proofs.YtiacdccnifjcjaaDoor.Pure
set_option linter.unusedVariables false
set_option linter.unusedSimpArgs false
namespace Go.Proofs.YtiacdccnifjcjaaDoor.Pure
open Go.RowKit Go.Proofs.YtiacdccnifjcjaaDoor.F Go.Proofs.YtiacdccnifjcjaaDoorW.PrintWords
theorem byte_eq (c u : UInt8) (n : Nat) (hn : u.toNat = n) : ((c.toNat : Int) = (n : Int)) ↔ c = u := by
  constructor
  · intro h
    have h2 : c.toNat = u.toNat := by omega
    exact UInt8.toNat_inj.1 h2
  · rintro rfl
    rw [hn]
def valOf (V : ByteArray → Option (ByteArray × Bool)) (nm : List UInt8) : List UInt8 := match V (ba nm) with | some v => v.1.data.toList | none => []
theorem valOf_eq {V : ByteArray → Option (ByteArray × Bool)} (hV : ∀ x, ∃ v, V x = some v) (nm : List UInt8) : ∃ v, V (ba nm) = some v ∧ valOf V nm = v.1.data.toList := by
  obtain ⟨v, hv⟩ := hV (ba nm)
  exact ⟨v, hv, by unfold valOf; rw [hv]⟩
section
variable {V : ByteArray → Option (ByteArray × Bool)} {Pm : ByteArray → Option (ByteArray × Int)} {cwd : ByteArray} {jobs number : Int} {s : ByteArray} {js ns : List UInt8}
theorem exStep_ex (hV : ∀ x, ∃ v, V x = some v) (hP : ∀ x : ByteArray, x.size ≤ 10000 → Pm x = some (ba (parL x.data.toList).1, ((parL x.data.toList).2 : Int))) (hj : strconv_Itoa.f jobs = some (ba js)) (hn : strconv_Itoa.f number = some (ba ns)) (hs : s.size ≤ 10000) (p : Nat) (hp : p < s.size) :
    exStep V Pm cwd jobs number s p = some ((stepL (valOf V) cwd.data.toList js ns (s.data.toList.drop p)).map fun x => (ba x.1, x.2)) := by
  obtain ⟨c, hc, hb⟩ := bt_drop s p hp
  have hsz := size_data s
  have hr : (s.extract (p + 1) s.size).data.toList = s.data.toList.drop (p + 1) := by rw [extract_data, List.take_of_length_le (by omega)]
  unfold exStep
  rw [hc, hb, stepL.eq_def]
  dsimp only
  by_cases h36 : (c.toNat : Int) = 36
  · have hc36 : c = 36 := (byte_eq c 36 36 rfl).1 h36
    rw [if_pos h36, if_pos hc36, hP _ (by rw [ByteArray.size_extract]; omega), Option.bind_some, hr]
    simp only
    by_cases h0 : 0 < (parL (s.data.toList.drop (p + 1))).2
    · obtain ⟨v, hv, he⟩ := valOf_eq hV (parL (s.data.toList.drop (p + 1))).1
      rw [if_pos (by omega), if_pos h0, hv, Option.bind_some, he, Int.toNat_natCast]
      simp only [Option.map_some, ba_of]
    · rw [if_neg (by omega), if_neg h0]; rfl
  have hc36 : ¬ c = 36 := fun e => h36 ((byte_eq c 36 36 rfl).2 e)
  rw [if_neg h36, if_neg hc36]
  by_cases h92 : (c.toNat : Int) = 92
  · have hc92 : c = 92 := (byte_eq c 92 92 rfl).1 h92
    rw [if_pos h92, if_pos hc92]
    by_cases hn1 : p + 1 < s.size
    · obtain ⟨d, hd, hbd⟩ := bt_drop s (p + 1) hn1
      have hx : (s.extract (p + 1) s.size).extract 0 1 = ba [d] := by
        rw [extract_ba, hr, hd]; rfl
      rw [if_pos hn1, hbd, hd, hx]
      simp only
      have D : ∀ (n : Nat) (u : UInt8), u.toNat = n → (((d.toNat : Int) = (n : Int)) ↔ d = u) := fun n u h => byte_eq d u n h
      by_cases k1 : (d.toNat : Int) = 119
      · rw [if_pos k1, if_pos ((D 119 119 rfl).1 k1)]; simp only [Option.map_some, ba_of]
      rw [if_neg k1, if_neg (fun e => k1 ((D 119 119 rfl).2 e))]
      by_cases k2 : (d.toNat : Int) = 36
      · have := (D 36 36 rfl).1 k2
        rw [if_pos k2, if_pos this, this]; rfl
      rw [if_neg k2, if_neg (fun e => k2 ((D 36 36 rfl).2 e))]
      by_cases k3 : (d.toNat : Int) = 92
      · have := (D 92 92 rfl).1 k3
        rw [if_pos k3, if_pos this, this]; rfl
      rw [if_neg k3, if_neg (fun e => k3 ((D 92 92 rfl).2 e))]
      by_cases k4 : (d.toNat : Int) = 117
      · obtain ⟨v, hv, he⟩ := valOf_eq hV [85, 83, 69, 82]
        rw [if_pos k4, if_pos ((D 117 117 rfl).1 k4), he]
        have hv' : V (⟨#[85, 83, 69, 82]⟩ : ByteArray) = some v := hv
        rw [hv', Option.bind_some]; simp only [Option.map_some, ba_of]
      rw [if_neg k4, if_neg (fun e => k4 ((D 117 117 rfl).2 e))]
      by_cases k5 : (d.toNat : Int) = 106
      · rw [if_pos k5, if_pos ((D 106 106 rfl).1 k5), hj]; rfl
      rw [if_neg k5, if_neg (fun e => k5 ((D 106 106 rfl).2 e))]
      by_cases k6 : (d.toNat : Int) = 33
      · rw [if_pos k6, if_pos ((D 33 33 rfl).1 k6), hn]; rfl
      rw [if_neg k6, if_neg (fun e => k6 ((D 33 33 rfl).2 e))]
      by_cases k7 : (d.toNat : Int) = 110
      · rw [if_pos k7, if_pos ((D 110 110 rfl).1 k7)]; rfl
      rw [if_neg k7, if_neg (fun e => k7 ((D 110 110 rfl).2 e))]; rfl
    · have hnil : s.data.toList.drop (p + 1) = [] := List.drop_eq_nil_of_le (by omega)
      rw [if_neg hn1, hnil]; rfl
  · rw [if_neg h92, if_neg (fun e => h92 ((byte_eq c 92 92 rfl).2 e))]; rfl
theorem exGo_ex (hV : ∀ x, ∃ v, V x = some v) (hP : ∀ x : ByteArray, x.size ≤ 10000 → Pm x = some (ba (parL x.data.toList).1, ((parL x.data.toList).2 : Int))) (hj : strconv_Itoa.f jobs = some (ba js)) (hn : strconv_Itoa.f number = some (ba ns)) (hs : s.size ≤ 10000) :
    ∀ (d p g : Nat), p ≤ s.size → s.size - p ≤ d → d < g → exGo V Pm cwd jobs number s g p = some (ex (valOf V) cwd.data.toList js ns (s.data.toList.drop p)) := by
  have hsz := size_data s
  intro d
  induction d with
  | zero =>
    intro p g hp hd hg
    obtain ⟨m, rfl⟩ : ∃ m, g = m + 1 := ⟨g - 1, by omega⟩
    rw [exGo, if_neg (by omega), List.drop_eq_nil_of_le (by omega)]; rfl
  | succ d ih =>
    intro p g hp hd hg
    obtain ⟨m, rfl⟩ : ∃ m, g = m + 1 := ⟨g - 1, by omega⟩
    by_cases hlt : p < s.size
    · obtain ⟨c, hc, _⟩ := bt_drop s p hlt
      rw [exGo, if_pos hlt, exStep_ex hV hP hj hn hs p hlt, Option.bind_some]
      cases hst : stepL (valOf V) cwd.data.toList js ns (s.data.toList.drop p) with
      | none =>
        simp only [Option.map_none]
        rw [ih (p + 1) m (by omega) (by omega) (by omega), Option.bind_some]
        rw [hc] at hst
        rw [hc, ex_none _ _ _ _ _ _ hst]; rfl
      | some x =>
        obtain ⟨t, n⟩ := x
        obtain ⟨h1, h2⟩ := stepL_le _ _ _ _ _ _ _ hst
        rw [List.length_drop] at h2
        simp only [Option.map_some]
        rw [if_pos ⟨h1, by omega⟩, ih (p + n) m (by omega) (by omega) (by omega), Option.bind_some, ex_some _ _ _ _ _ _ _ hst, ba_data, List.drop_drop]
    · rw [exGo, if_neg hlt, List.drop_eq_nil_of_le (by omega)]; rfl
end
structure Sm (n0 : ByteArray) (vs : List S_Var) (ps : List ByteArray) (cwd : ByteArray) : Prop where
  few : Few vs ps
  values : ∀ v ∈ vs, v.f1.size ≤ 500
  name : n0.size ≤ 500
  cwd : cwd.size ≤ 500
theorem var_drop (xs : List S_Var) (i : Nat) (h : i < xs.length) : xs.drop i = rd_Var xs (i : Int) :: xs.drop (i + 1) := getD_drop z_Var xs i h
theorem name_tot (s : ByteArray) : ∃ t, chars_Name.f s = some t := by
  unfold chars_Name.f; split
  · exact ⟨_, rfl⟩
  split <;> exact ⟨_, rfl⟩
theorem valid15 (xs : List S_Var) (hl : xs.length ≤ 20) : ∀ (d i k : Nat), i + d = xs.length → d + 2000 < k → ∃ r, jobshellref15_Valid.l0 k xs i = some r := by
  intro d
  induction d with
  | zero =>
    intro i k hi hk
    obtain ⟨m, rfl⟩ : ∃ m, k = m + 1 := ⟨k - 1, by omega⟩
    rw [jobshellref15_Valid.l0, if_neg (by omega)]; exact ⟨_, rfl⟩
  | succ d ih =>
    intro i k hi hk
    obtain ⟨m, rfl⟩ : ∃ m, k = m + 1 := ⟨k - 1, by omega⟩
    obtain ⟨r, hr⟩ := ih (i + 1) m (by omega) (by omega)
    obtain ⟨t, ht⟩ := name_tot (rd_Var xs (i : Int)).f0
    rw [jobshellref15_Valid.l0, if_pos (by omega), if_pos (by omega), name_eq _ (by omega), ht, Option.bind_some, wrap_succ (by omega), hr]
    have fin : ∃ r', (if (i : Int) > 0 then (if 0 ≤ (wrap64 ((i : Int) - 1)) then (if (wrap64 ((i : Int) - 1)) < (xs.length : Int) then (if ((Op.bytesLess (((rd_Var xs (wrap64 ((i : Int) - 1))).f0).toList) (((rd_Var xs (i : Int)).f0).toList)) = true) then (some r) else (some 1)) else (none)) else (none)) else (some r)) = some r' := by
      split
      · rw [wrap_id (by omega) (by omega), if_pos (by omega), if_pos (by omega)]
        split <;> exact ⟨_, rfl⟩
      · exact ⟨_, rfl⟩
    split
    · split
      · exact ⟨_, rfl⟩
      split
      · exact fin
      split
      · exact fin
      · exact ⟨_, rfl⟩
    · exact ⟨_, rfl⟩
section
variable (n0 : ByteArray) (vs : List S_Var) (ps : List ByteArray) (o3 : Opq) (al : List S_Alias) (tr : List S_Trap) (i6 i7 i8 i9 : Int) (s10 : ByteArray) (i11 i12 i13 : Int) (b14 : Bool)
theorem small_params (hv : vs.length ≤ 20) (hl : ps.length ≤ 20) : ∀ (d i k : Nat), i + d = ps.length → d + 3000 < k →
    ∃ b, jobshelllaw48_small.l1 k i n0 vs ps o3 al tr i6 i7 i8 i9 s10 i11 i12 i13 b14 = some b ∧ (b = true → ∀ x ∈ ps.drop i, x.size ≤ 500) := by
  intro d
  induction d with
  | zero =>
    intro i k hi hk
    obtain ⟨m, rfl⟩ : ∃ m, k = m + 1 := ⟨k - 1, by omega⟩
    rw [jobshelllaw48_small.l1, if_neg (by omega)]
    obtain ⟨r, hr⟩ := valid15 vs hv vs.length 0 m (by omega) (by omega)
    have hr' : jobshellref15_Valid.f m vs = some r := by unfold jobshellref15_Valid.f; rw [if_neg (by omega)]; exact hr
    rw [hr', Option.bind_some]
    exact ⟨_, rfl, fun _ x hx => by rw [List.drop_eq_nil_of_le (by omega)] at hx; cases hx⟩
  | succ d ih =>
    intro i k hi hk
    obtain ⟨m, rfl⟩ : ∃ m, k = m + 1 := ⟨k - 1, by omega⟩
    have hd : ps.drop i = rdOf ByteArray.empty ps (i : Int) :: ps.drop (i + 1) := getD_drop _ ps i (by omega)
    rw [jobshelllaw48_small.l1, if_pos (by omega), if_pos (by omega), wrap_succ (by omega)]
    by_cases h : ((rdOf ByteArray.empty ps (i : Int)).size : Int) > 500
    · rw [if_pos h]; exact ⟨_, rfl, fun h => by cases h⟩
    · rw [if_neg h]
      obtain ⟨b, h1, h2⟩ := ih (i + 1) m (by omega) (by omega)
      refine ⟨b, h1, fun e x hx => ?_⟩
      rw [hd] at hx
      rcases List.mem_cons.1 hx with rfl | hx
      · omega
      · exact h2 e x hx
theorem small_vars (hv : vs.length ≤ 20) (hl : ps.length ≤ 20) : ∀ (d i k : Nat), i + d = vs.length → d + 3100 < k →
    ∃ b, jobshelllaw48_small.l0 k i n0 vs ps o3 al tr i6 i7 i8 i9 s10 i11 i12 i13 b14 = some b ∧ (b = true → (∀ x ∈ ps, x.size ≤ 500) ∧ ∀ v ∈ vs.drop i, v.f1.size ≤ 500) := by
  intro d
  induction d with
  | zero =>
    intro i k hi hk
    obtain ⟨m, rfl⟩ : ∃ m, k = m + 1 := ⟨k - 1, by omega⟩
    rw [jobshelllaw48_small.l0, if_neg (by omega)]
    obtain ⟨b, h1, h2⟩ := small_params n0 vs ps o3 al tr i6 i7 i8 i9 s10 i11 i12 i13 b14 hv hl ps.length 0 m (by omega) (by omega)
    exact ⟨b, h1, fun e => ⟨h2 e, fun v hv => by rw [List.drop_eq_nil_of_le (by omega)] at hv; cases hv⟩⟩
  | succ d ih =>
    intro i k hi hk
    obtain ⟨m, rfl⟩ : ∃ m, k = m + 1 := ⟨k - 1, by omega⟩
    have hd := var_drop vs i (by omega)
    rw [jobshelllaw48_small.l0, if_pos (by omega), if_pos (by omega), wrap_succ (by omega)]
    by_cases h : ((rd_Var vs (i : Int)).f1.size : Int) > 500
    · rw [if_pos h]; exact ⟨_, rfl, fun h => by cases h⟩
    rw [if_neg h]
    split
    · exact ⟨_, rfl, fun h => by cases h⟩
    · obtain ⟨b, h1, h2⟩ := ih (i + 1) m (by omega) (by omega)
      refine ⟨b, h1, fun e => ⟨(h2 e).1, fun v hx => ?_⟩⟩
      rw [hd] at hx
      rcases List.mem_cons.1 hx with rfl | hx
      · omega
      · exact (h2 e).2 v hx
theorem small_eq {k : Nat} (hk : 4000 ≤ k) : ∃ b, jobshelllaw48_small.f k n0 vs ps o3 al tr i6 i7 i8 i9 s10 i11 i12 i13 b14 = some b ∧ (b = true → Sm n0 vs ps s10) := by
  obtain ⟨m, rfl⟩ : ∃ m, k = m + 1 := ⟨k - 1, by omega⟩
  unfold jobshelllaw48_small.f
  by_cases h1 : (vs.length : Int) > 20
  · rw [if_pos h1, jobshelllaw48_small.j0, if_pos rfl]; exact ⟨_, rfl, fun h => by cases h⟩
  rw [if_neg h1]
  by_cases h2 : (ps.length : Int) > 20
  · rw [if_pos h2, jobshelllaw48_small.j0, if_pos rfl]; exact ⟨_, rfl, fun h => by cases h⟩
  rw [if_neg h2]
  by_cases h3 : (s10.size : Int) > 500
  · rw [if_pos h3, jobshelllaw48_small.j0, if_pos rfl]; exact ⟨_, rfl, fun h => by cases h⟩
  rw [if_neg h3, jobshelllaw48_small.j0]
  by_cases h4 : (n0.size : Int) > 500
  · rw [decide_eq_true h4, if_pos rfl]; exact ⟨_, rfl, fun h => by cases h⟩
  · rw [decide_eq_false h4, if_neg (by decide)]
    obtain ⟨b, h5, h6⟩ := small_vars n0 vs ps o3 al tr i6 i7 i8 i9 s10 i11 i12 i13 b14 (by omega) (by omega) vs.length 0 m (by omega) (by omega)
    exact ⟨b, h5, fun e => ⟨⟨by omega, by omega, (h6 e).1⟩, (h6 e).2, by omega, by omega⟩⟩
end
end Go.Proofs.YtiacdccnifjcjaaDoor.Pure
