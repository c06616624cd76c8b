/- Texts of this claim, joined. -/
import Derived.Lib.ItoaLen
import Derived.Test.YtiacdccnifjcjaaDoorB0
import Derived.Test.YtiacdccnifjcjaaDoorB2
import Derived.Test.YtiacdccnifjcjaaDoorMVb0
import Derived.Test.YtiacdccnifjcjaaDoorB1
import Derived.Test.YtiacdccnifjcjaaDoorB3
namespace Go.Proofs.YtiacdccnifjcjaaDoor.F
open Go.RowKit Go.Proofs.YtiacdccnifjcjaaDoorW.PrintWords Go.Proofs.YtiacdccnifjcjaaDoorW.PrintLast Go.Proofs.YtiacdccnifjcjaaDoorW.PrintMore
attribute [local go_sem] max2_int min2_int max_two min_two max_three min_three max_four min_four
set_option linter.unusedVariables false
set_option linter.unusedSimpArgs false
mutual
def jobshelllaw48_PromptQuotes.j0 : Nat → ByteArray → Bool → ByteArray → List (S_Var) → List ByteArray → Opq → List (S_Alias) → List (S_Trap) → Int → Int → Int → Int → ByteArray → Int → Int → Int → Bool → Option (Bool)
 | 0, _, _, _, _, _, _, _, _, _, _, _, _, _, _, _, _, _ => none
 | k + 1, x1, x14, x319000, x319001, x319002, x319003, x319004, x319005, x319006, x319007, x319008, x319009, x319010, x319011, x319012, x319013, x319014 => if x14 = true then ((jobshelllaw48_awake.f k).bind fun t320 => (some t320)) else (jobshelllaw48_PromptQuotes.l0 k x1 (⟨#[]⟩ : ByteArray) 0 x319000 x319001 x319002 x319003 x319004 x319005 x319006 x319007 x319008 x319009 x319010 x319011 x319012 x319013 x319014)
def jobshelllaw48_PromptQuotes.l0 : Nat → ByteArray → ByteArray → Int → ByteArray → List (S_Var) → List ByteArray → Opq → List (S_Alias) → List (S_Trap) → Int → Int → Int → Int → ByteArray → Int → Int → Int → Bool → Option (Bool)
 | 0, _, _, _, _, _, _, _, _, _, _, _, _, _, _, _, _, _, _ => none
 | k + 1, x1, x5, x6, x319000, x319001, x319002, x319003, x319004, x319005, x319006, x319007, x319008, x319009, x319010, x319011, x319012, x319013, x319014 => if x6 < (x1.size : Int) then (if 0 ≤ x6 then (if (bt x1 x6) = 92 then (if x5.size + 1 ≤ 9223372036854775807 then (if x6 ≤ (wrap64 (x6 + 1)) then (if (wrap64 (x6 + 1)) ≤ (x1.size : Int) then (if (x5 ++ (⟨#[92]⟩ : ByteArray)).size + (x1.extract (x6 : Int).toNat ((wrap64 (x6 + 1)) : Int).toNat).size ≤ 9223372036854775807 then (jobshelllaw48_PromptQuotes.l0 k x1 ((x5 ++ (⟨#[92]⟩ : ByteArray)) ++ (x1.extract (x6 : Int).toNat ((wrap64 (x6 + 1)) : Int).toNat)) (wrap64 (x6 + 1)) x319000 x319001 x319002 x319003 x319004 x319005 x319006 x319007 x319008 x319009 x319010 x319011 x319012 x319013 x319014) else (none)) else (none)) else (none)) else (none)) else (if (bt x1 x6) = 36 then (if x5.size + 1 ≤ 9223372036854775807 then (if x6 ≤ (wrap64 (x6 + 1)) then (if (wrap64 (x6 + 1)) ≤ (x1.size : Int) then (if (x5 ++ (⟨#[92]⟩ : ByteArray)).size + (x1.extract (x6 : Int).toNat ((wrap64 (x6 + 1)) : Int).toNat).size ≤ 9223372036854775807 then (jobshelllaw48_PromptQuotes.l0 k x1 ((x5 ++ (⟨#[92]⟩ : ByteArray)) ++ (x1.extract (x6 : Int).toNat ((wrap64 (x6 + 1)) : Int).toNat)) (wrap64 (x6 + 1)) x319000 x319001 x319002 x319003 x319004 x319005 x319006 x319007 x319008 x319009 x319010 x319011 x319012 x319013 x319014) else (none)) else (none)) else (none)) else (none)) else (if x6 ≤ (wrap64 (x6 + 1)) then (if (wrap64 (x6 + 1)) ≤ (x1.size : Int) then (if x5.size + (x1.extract (x6 : Int).toNat ((wrap64 (x6 + 1)) : Int).toNat).size ≤ 9223372036854775807 then (jobshelllaw48_PromptQuotes.l0 k x1 (x5 ++ (x1.extract (x6 : Int).toNat ((wrap64 (x6 + 1)) : Int).toNat)) (wrap64 (x6 + 1)) x319000 x319001 x319002 x319003 x319004 x319005 x319006 x319007 x319008 x319009 x319010 x319011 x319012 x319013 x319014) else (none)) else (none)) else (none)))) else (none)) else ((prompt_Expand.f k x319000 x319001 x319002 x319003 x319004 x319005 x319006 x319007 x319008 x319009 x319010 x319011 x319012 x319013 x319014 x5 1 1).bind fun t321 => (if t321.toList = x1.toList then ((jobshelllaw48_awake.f k).bind fun t322 => (some t322)) else (some false)))
end
def jobshelllaw48_PromptQuotes.f (k : Nat) (a0_0 : ByteArray) (l0_1 : List (S_Var)) (l0_2 : List ByteArray) (a0_3 : Opq) (l0_4 : List (S_Alias)) (l0_5 : List (S_Trap)) (a0_6 : Int) (a0_7 : Int) (a0_8 : Int) (a0_9 : Int) (a0_10 : ByteArray) (a0_11 : Int) (a0_12 : Int) (a0_13 : Int) (a0_14 : Bool) (a1 : ByteArray) : Option (Bool) := (jobshelllaw48_small.f k a0_0 l0_1 l0_2 a0_3 l0_4 l0_5 a0_6 a0_7 a0_8 a0_9 a0_10 a0_11 a0_12 a0_13 a0_14).bind fun t319 => (if t319 = true then (jobshelllaw48_PromptQuotes.j0 k a1 (decide ((a1.size : Int) > 1000)) a0_0 l0_1 l0_2 a0_3 l0_4 l0_5 a0_6 a0_7 a0_8 a0_9 a0_10 a0_11 a0_12 a0_13 a0_14) else (jobshelllaw48_PromptQuotes.j0 k a1 true a0_0 l0_1 l0_2 a0_3 l0_4 l0_5 a0_6 a0_7 a0_8 a0_9 a0_10 a0_11 a0_12 a0_13 a0_14))
theorem jobshelllaw48_PromptQuotes.mono_l : ∀ k, (∀ y0 y1 y2 y3 y4 y5 y6 y7 y8 y9 y10 y11 y12 y13 y14 y15 y16, LeO (jobshelllaw48_PromptQuotes.j0 k y0 y1 y2 y3 y4 y5 y6 y7 y8 y9 y10 y11 y12 y13 y14 y15 y16) (jobshelllaw48_PromptQuotes.j0 (k + 1) y0 y1 y2 y3 y4 y5 y6 y7 y8 y9 y10 y11 y12 y13 y14 y15 y16)) ∧ (∀ y0 y1 y2 y3 y4 y5 y6 y7 y8 y9 y10 y11 y12 y13 y14 y15 y16 y17, LeO (jobshelllaw48_PromptQuotes.l0 k y0 y1 y2 y3 y4 y5 y6 y7 y8 y9 y10 y11 y12 y13 y14 y15 y16 y17) (jobshelllaw48_PromptQuotes.l0 (k + 1) y0 y1 y2 y3 y4 y5 y6 y7 y8 y9 y10 y11 y12 y13 y14 y15 y16 y17))
 | 0 => ⟨fun _ _ _ _ _ _ _ _ _ _ _ _ _ _ _ _ _ r h => by simp [jobshelllaw48_PromptQuotes.j0] at h, fun _ _ _ _ _ _ _ _ _ _ _ _ _ _ _ _ _ _ r h => by simp [jobshelllaw48_PromptQuotes.l0] at h⟩
 | k + 1 => by
  obtain ⟨ih0, ih1⟩ := jobshelllaw48_PromptQuotes.mono_l k
  refine ⟨?_, ?_⟩
  ·intro y0 y1 y2 y3 y4 y5 y6 y7 y8 y9 y10 y11 y12 y13 y14 y15 y16
   unfold jobshelllaw48_PromptQuotes.j0
   repeat' first
   | (with_reducible exact ih0 _ _ _ _ _ _ _ _ _ _ _ _ _ _ _ _ _)
   | (with_reducible exact ih1 _ _ _ _ _ _ _ _ _ _ _ _ _ _ _ _ _ _)
   | (with_reducible exact jobshelllaw48_awake.mono _)
   | (with_reducible exact jobshelllaw48_small.mono _ _ _ _ _ _ _ _ _ _ _ _ _ _ _ _)
   | (with_reducible exact prompt_Expand.mono _ _ _ _ _ _ _ _ _ _ _ _ _ _ _ _ _ _ _)
   | (with_reducible exact LeO.refl _)
   | (with_reducible exact LeO.none _)
   | (with_reducible refine LeO.ite ?_ ?_)
   | (with_reducible refine LeO.bind ?_ (fun _ => ?_))
   | exact ih0 _ _ _ _ _ _ _ _ _ _ _ _ _ _ _ _ _
   | exact ih1 _ _ _ _ _ _ _ _ _ _ _ _ _ _ _ _ _ _
   | exact jobshelllaw48_awake.mono _
   | exact jobshelllaw48_small.mono _ _ _ _ _ _ _ _ _ _ _ _ _ _ _ _
   | exact prompt_Expand.mono _ _ _ _ _ _ _ _ _ _ _ _ _ _ _ _ _ _ _
   | exact LeO.none _
   | refine LeO.ite ?_ ?_
   | refine LeO.bind ?_ (fun _ => ?_)
  ·intro y0 y1 y2 y3 y4 y5 y6 y7 y8 y9 y10 y11 y12 y13 y14 y15 y16 y17
   unfold jobshelllaw48_PromptQuotes.l0
   repeat' first
   | (with_reducible exact ih0 _ _ _ _ _ _ _ _ _ _ _ _ _ _ _ _ _)
   | (with_reducible exact ih1 _ _ _ _ _ _ _ _ _ _ _ _ _ _ _ _ _ _)
   | (with_reducible exact jobshelllaw48_awake.mono _)
   | (with_reducible exact jobshelllaw48_small.mono _ _ _ _ _ _ _ _ _ _ _ _ _ _ _ _)
   | (with_reducible exact prompt_Expand.mono _ _ _ _ _ _ _ _ _ _ _ _ _ _ _ _ _ _ _)
   | (with_reducible exact LeO.refl _)
   | (with_reducible exact LeO.none _)
   | (with_reducible refine LeO.ite ?_ ?_)
   | (with_reducible refine LeO.bind ?_ (fun _ => ?_))
   | exact ih0 _ _ _ _ _ _ _ _ _ _ _ _ _ _ _ _ _
   | exact ih1 _ _ _ _ _ _ _ _ _ _ _ _ _ _ _ _ _ _
   | exact jobshelllaw48_awake.mono _
   | exact jobshelllaw48_small.mono _ _ _ _ _ _ _ _ _ _ _ _ _ _ _ _
   | exact prompt_Expand.mono _ _ _ _ _ _ _ _ _ _ _ _ _ _ _ _ _ _ _
   | exact LeO.none _
   | refine LeO.ite ?_ ?_
   | refine LeO.bind ?_ (fun _ => ?_)
theorem jobshelllaw48_PromptQuotes.mono : ∀ a0 a1 a2 a3 a4 a5 a6 a7 a8 a9 a10 a11 a12 a13 a14 a15 k, LeO (jobshelllaw48_PromptQuotes.f k a0 a1 a2 a3 a4 a5 a6 a7 a8 a9 a10 a11 a12 a13 a14 a15) (jobshelllaw48_PromptQuotes.f (k + 1) a0 a1 a2 a3 a4 a5 a6 a7 a8 a9 a10 a11 a12 a13 a14 a15) := by
 intro a0 a1 a2 a3 a4 a5 a6 a7 a8 a9 a10 a11 a12 a13 a14 a15 k
 obtain ⟨ih0, ih1⟩ := jobshelllaw48_PromptQuotes.mono_l k
 unfold jobshelllaw48_PromptQuotes.f
 repeat' first
   | (with_reducible exact ih0 _ _ _ _ _ _ _ _ _ _ _ _ _ _ _ _ _)
   | (with_reducible exact ih1 _ _ _ _ _ _ _ _ _ _ _ _ _ _ _ _ _ _)
   | (with_reducible exact jobshelllaw48_awake.mono _)
   | (with_reducible exact jobshelllaw48_small.mono _ _ _ _ _ _ _ _ _ _ _ _ _ _ _ _)
   | (with_reducible exact prompt_Expand.mono _ _ _ _ _ _ _ _ _ _ _ _ _ _ _ _ _ _ _)
   | (with_reducible exact LeO.refl _)
   | (with_reducible exact LeO.none _)
   | (with_reducible refine LeO.ite ?_ ?_)
   | (with_reducible refine LeO.bind ?_ (fun _ => ?_))
   | exact ih0 _ _ _ _ _ _ _ _ _ _ _ _ _ _ _ _ _
   | exact ih1 _ _ _ _ _ _ _ _ _ _ _ _ _ _ _ _ _ _
   | exact jobshelllaw48_awake.mono _
   | exact jobshelllaw48_small.mono _ _ _ _ _ _ _ _ _ _ _ _ _ _ _ _
   | exact prompt_Expand.mono _ _ _ _ _ _ _ _ _ _ _ _ _ _ _ _ _ _ _
   | exact LeO.none _
   | refine LeO.ite ?_ ?_
   | refine LeO.bind ?_ (fun _ => ?_)
set_option maxHeartbeats 8000000 in
set_option maxRecDepth 100000 in
theorem jobshelllaw48_PromptQuotes.calls (k : Nat) (a0_0 : ByteArray) (A0_1 : Option Addr) (c0_1 : Nat) (l0_1 : List (S_Var)) (A0_2 : Option Addr) (c0_2 : Nat) (l0_2 : List ByteArray) (a0_3 : Opq) (A0_4 : Option Addr) (c0_4 : Nat) (l0_4 : List (S_Alias)) (A0_5 : Option Addr) (c0_5 : Nat) (l0_5 : List (S_Trap)) (a0_6 : Int) (a0_7 : Int) (a0_8 : Int) (a0_9 : Int) (a0_10 : ByteArray) (a0_11 : Int) (a0_12 : Int) (a0_13 : Int) (a0_14 : Bool) (a1 : ByteArray) (r : Bool) (w : World) (hr0_1 : Kd.C k_Var w A0_1 l0_1.length l0_1) (hc0_1 : l0_1.length ≤ c0_1) (hr0_2 : Kd.C Kd.string w A0_2 l0_2.length l0_2) (hc0_2 : l0_2.length ≤ c0_2) (hr0_4 : Kd.C k_Alias w A0_4 l0_4.length l0_4) (hc0_4 : l0_4.length ≤ c0_4) (hr0_5 : Kd.C k_Trap w A0_5 l0_5.length l0_5) (hc0_5 : l0_5.length ≤ c0_5) (hamb : AmbC w) (h : jobshelllaw48_PromptQuotes.f k a0_0 l0_1 l0_2 a0_3 l0_4 l0_5 a0_6 a0_7 a0_8 a0_9 a0_10 a0_11 a0_12 a0_13 a0_14 a1 = some r) :
  Calls Tryd.prog 7 #[.agg #[.string a0_0, .slice A0_1 l0_1.length c0_1, .slice A0_2 l0_2.length c0_2, .slice (a0_3).A (a0_3).n (a0_3).c, .slice A0_4 l0_4.length c0_4, .slice A0_5 l0_5.length c0_5, .int .i64 a0_6, .int .i64 a0_7, .int .i64 a0_8, .int .i64 a0_9, .string a0_10, .int .i64 a0_11, .int .i64 a0_12, .int .i64 a0_13, .bool a0_14], .string a1] w fun e w' => e = .returned (.bool r) ∧ Below w.heap.size w w' := by
 have hu30 := Tryd.underlying30
 have HAMB := Aside0.mk hamb
 clear hamb
 have HR0_1 := Aside0.mk hr0_1
 have HC0_1 := Aside0.mk hc0_1
 clear hr0_1 hc0_1
 have HR0_2 := Aside0.mk hr0_2
 have HC0_2 := Aside0.mk hc0_2
 clear hr0_2 hc0_2
 have HR0_4 := Aside0.mk hr0_4
 have HC0_4 := Aside0.mk hc0_4
 clear hr0_4 hc0_4
 have HR0_5 := Aside0.mk hr0_5
 have HC0_5 := Aside0.mk hc0_5
 clear hr0_5 hc0_5
 have HB := Aside0.mk (Below.refl w.heap.size w)
 have H : ((jobshelllaw48_small.f k a0_0 l0_1 l0_2 a0_3 l0_4 l0_5 a0_6 a0_7 a0_8 a0_9 a0_10 a0_11 a0_12 a0_13 a0_14).bind fun t319 => (if t319 = true then (jobshelllaw48_PromptQuotes.j0 k a1 (decide ((a1.size : Int) > 1000)) a0_0 l0_1 l0_2 a0_3 l0_4 l0_5 a0_6 a0_7 a0_8 a0_9 a0_10 a0_11 a0_12 a0_13 a0_14) else (jobshelllaw48_PromptQuotes.j0 k a1 true a0_0 l0_1 l0_2 a0_3 l0_4 l0_5 a0_6 a0_7 a0_8 a0_9 a0_10 a0_11 a0_12 a0_13 a0_14))) = some r := h
 clear h
 have HC3 := Aside0.mk H
 clear H
 go_enter Tryd.func7, Tryd.ntmps7
 go_upto_region 1 with (first | ((with_reducible refine gate_dst (N := 2) rfl ?_); (try (refine gate_guard (by rfl) ?_; dsimp only)); refine box_event ?hg (N := 2) ?hd (cs := #[.string a0_0, .slice A0_1 l0_1.length c0_1, .slice A0_2 l0_2.length c0_2, .slice (a0_3).A (a0_3).n (a0_3).c, .slice A0_4 l0_4.length c0_4, .slice A0_5 l0_5.length c0_5, .int .i64 a0_6, .int .i64 a0_7, .int .i64 a0_8, .int .i64 a0_9, .string a0_10, .int .i64 a0_11, .int .i64 a0_12, .int .i64 a0_13, .bool a0_14]) (t := 30) ?hr ?_; (case hd => rfl); (case hg => rfl); (case hr => first | (go_simp; done) | (go_simp; rfl)); intro gb318 hg w4 hbox hb; have n0_ := Aside0.mk (below_step (by repeat (first | (with_reducible first | exact HB.out | apply below_alloc | apply pw_below_drewN | apply below_drew1) | exact HB.out)) hb); have n1_ := Aside0.mk (hbox); have n2_ := Aside0.mk ((by rw [hg]; exact (below_size (by repeat (first | (with_reducible first | exact HB.out | apply below_alloc | apply pw_below_drewN | apply below_drew1) | exact HB.out))) : w.heap.size ≤ gb318)); have n3_ := Aside0.mk ((by rw [hg]; exact (below_size (by repeat (first | (with_reducible first | exact HB.out | apply below_alloc | apply pw_below_drewN | apply below_drew1) | exact HB.out))) : w.heap.size ≤ gb318)); clear HB; have HB := n0_; have BK318 := n1_; have GW318 := n2_; have GE318 := n3_; clear n0_ n1_ n2_ n3_; clear hb hbox hg))
 (try simp only [Act.put, List.setIfInBounds_toArray, List.set_cons_zero, List.set_cons_succ])
 go_cut [14] (fun v14 wc => ∃ (kq : Nat) (x14_2 : Bool), v14 = .bool x14_2 ∧ Aside0 (jobshelllaw48_PromptQuotes.j0 kq a1 x14_2 a0_0 l0_1 l0_2 a0_3 l0_4 l0_5 a0_6 a0_7 a0_8 a0_9 a0_10 a0_11 a0_12 a0_13 a0_14 = some r) ∧ Aside0 (kq ≤ k) ∧ Aside0 (wc.heap[gb318]? = some (.cells #[.string a0_0, (.slice A0_1 l0_1.length c0_1), (.slice A0_2 l0_2.length c0_2), .slice (a0_3).A (a0_3).n (a0_3).c, (.slice A0_4 l0_4.length c0_4), (.slice A0_5 l0_5.length c0_5), .int .i64 a0_6, .int .i64 a0_7, .int .i64 a0_8, .int .i64 a0_9, .string a0_10, .int .i64 a0_11, .int .i64 a0_12, .int .i64 a0_13, .bool a0_14] 30 (0, 0))) ∧ Aside0 (Below w.heap.size w wc))
 case first =>
  have H := HC3.out
  clear HC3
  replace H := Option.bind_eq_some_iff.mp H
  obtain ⟨t319, A50, H⟩ := H
  replace H : (if t319 = true then (jobshelllaw48_PromptQuotes.j0 k a1 (decide ((a1.size : Int) > 1000)) a0_0 l0_1 l0_2 a0_3 l0_4 l0_5 a0_6 a0_7 a0_8 a0_9 a0_10 a0_11 a0_12 a0_13 a0_14) else (jobshelllaw48_PromptQuotes.j0 k a1 true a0_0 l0_1 l0_2 a0_3 l0_4 l0_5 a0_6 a0_7 a0_8 a0_9 a0_10 a0_11 a0_12 a0_13 a0_14)) = some r := H
  have A5 := Aside0.mk A50
  clear A50
  by_cases c6 : t319 = true
  ·subst c6
   have H1 : (jobshelllaw48_PromptQuotes.j0 k a1 (decide ((a1.size : Int) > 1000)) a0_0 l0_1 l0_2 a0_3 l0_4 l0_5 a0_6 a0_7 a0_8 a0_9 a0_10 a0_11 a0_12 a0_13 a0_14) = some r := by rw [if_pos rfl] at H; exact H
   clear H
   have H := H1
   clear H1
   have H' := Aside0.mk H
   clear H
   have hcz7_0 : w4.cell? ⟨gb318, 0, none⟩ = some (.string a0_0) := (blk_cell BK318.out 0).trans rfl
   have hcz7_1 : w4.cell? ⟨gb318, 1, none⟩ = some (.slice A0_1 l0_1.length c0_1) := (blk_cell BK318.out 1).trans rfl
   have hcz7_2 : w4.cell? ⟨gb318, 2, none⟩ = some (.slice A0_2 l0_2.length c0_2) := (blk_cell BK318.out 2).trans rfl
   have hcz7_3 : w4.cell? ⟨gb318, 3, none⟩ = some (.slice (a0_3).A (a0_3).n (a0_3).c) := (blk_cell BK318.out 3).trans rfl
   have hcz7_4 : w4.cell? ⟨gb318, 4, none⟩ = some (.slice A0_4 l0_4.length c0_4) := (blk_cell BK318.out 4).trans rfl
   have hcz7_5 : w4.cell? ⟨gb318, 5, none⟩ = some (.slice A0_5 l0_5.length c0_5) := (blk_cell BK318.out 5).trans rfl
   have hcz7_6 : w4.cell? ⟨gb318, 6, none⟩ = some (.int .i64 a0_6) := (blk_cell BK318.out 6).trans rfl
   have hcz7_7 : w4.cell? ⟨gb318, 7, none⟩ = some (.int .i64 a0_7) := (blk_cell BK318.out 7).trans rfl
   have hcz7_8 : w4.cell? ⟨gb318, 8, none⟩ = some (.int .i64 a0_8) := (blk_cell BK318.out 8).trans rfl
   have hcz7_9 : w4.cell? ⟨gb318, 9, none⟩ = some (.int .i64 a0_9) := (blk_cell BK318.out 9).trans rfl
   have hcz7_10 : w4.cell? ⟨gb318, 10, none⟩ = some (.string a0_10) := (blk_cell BK318.out 10).trans rfl
   have hcz7_11 : w4.cell? ⟨gb318, 11, none⟩ = some (.int .i64 a0_11) := (blk_cell BK318.out 11).trans rfl
   have hcz7_12 : w4.cell? ⟨gb318, 12, none⟩ = some (.int .i64 a0_12) := (blk_cell BK318.out 12).trans rfl
   have hcz7_13 : w4.cell? ⟨gb318, 13, none⟩ = some (.int .i64 a0_13) := (blk_cell BK318.out 13).trans rfl
   have hcz7_14 : w4.cell? ⟨gb318, 14, none⟩ = some (.bool a0_14) := (blk_cell BK318.out 14).trans rfl
   have hfz7_0 := blk_frozen BK318.out 0
   have hfz7_1 := blk_frozen BK318.out 1
   have hfz7_2 := blk_frozen BK318.out 2
   have hfz7_3 := blk_frozen BK318.out 3
   have hfz7_4 := blk_frozen BK318.out 4
   have hfz7_5 := blk_frozen BK318.out 5
   have hfz7_6 := blk_frozen BK318.out 6
   have hfz7_7 := blk_frozen BK318.out 7
   have hfz7_8 := blk_frozen BK318.out 8
   have hfz7_9 := blk_frozen BK318.out 9
   have hfz7_10 := blk_frozen BK318.out 10
   have hfz7_11 := blk_frozen BK318.out 11
   have hfz7_12 := blk_frozen BK318.out 12
   have hfz7_13 := blk_frozen BK318.out 13
   have hfz7_14 := blk_frozen BK318.out 14
   go_wp2_with (first | ((with_reducible refine gate_callee (f := 8) rfl ?_); refine goesL_ (some 8) rfl rfl Tryd.func8 (by kernel_rfl) rfl #[.agg #[.string a0_0, .slice A0_1 l0_1.length c0_1, .slice A0_2 l0_2.length c0_2, .slice (a0_3).A (a0_3).n (a0_3).c, .slice A0_4 l0_4.length c0_4, .slice A0_5 l0_5.length c0_5, .int .i64 a0_6, .int .i64 a0_7, .int .i64 a0_8, .int .i64 a0_9, .string a0_10, .int .i64 a0_11, .int .i64 a0_12, .int .i64 a0_13, .bool a0_14]] rfl (by (try simp only [List.map_toArray, List.map_cons, List.map_nil]); first | done | rfl | (simp only [List.length_drop, List.length_take]; rfl)) ?_; (with_reducible refine (jobshelllaw48_small.calls k a0_0 _ _ l0_1 _ _ l0_2 a0_3 _ _ l0_4 _ _ l0_5 a0_6 a0_7 a0_8 a0_9 a0_10 a0_11 a0_12 a0_13 a0_14 true _ ?side1 ?side2 ?side3 ?side4 ?side5 ?side6 ?side7 ?side8 A5.out).mono ?_); (case side1 => repeat (first | exact (Kd.C_below HR0_1.out HB.out) | (with_reducible refine Kd.C_alloc ?_ _) | (with_reducible refine Kd.C_drewN ?_ _) | (with_reducible refine Kd.C_drew ?_))); (case side2 => exact HC0_1.out); (case side3 => repeat (first | exact (Kd.C_below HR0_2.out HB.out) | (with_reducible refine Kd.C_alloc ?_ _) | (with_reducible refine Kd.C_drewN ?_ _) | (with_reducible refine Kd.C_drew ?_))); (case side4 => exact HC0_2.out); (case side5 => repeat (first | exact (Kd.C_below HR0_4.out HB.out) | (with_reducible refine Kd.C_alloc ?_ _) | (with_reducible refine Kd.C_drewN ?_ _) | (with_reducible refine Kd.C_drew ?_))); (case side6 => exact HC0_4.out); (case side7 => repeat (first | exact (Kd.C_below HR0_5.out HB.out) | (with_reducible refine Kd.C_alloc ?_ _) | (with_reducible refine Kd.C_drewN ?_ _) | (with_reducible refine Kd.C_drew ?_))); (case side8 => exact HC0_5.out); rintro e w8 ⟨rfl, hb⟩; refine ⟨_, rfl, ?_⟩; have n0_ := Aside0.mk (blk_below (g := gb318) (o := .cells #[.string a0_0, .slice A0_1 l0_1.length c0_1, .slice A0_2 l0_2.length c0_2, .slice (a0_3).A (a0_3).n (a0_3).c, .slice A0_4 l0_4.length c0_4, .slice A0_5 l0_5.length c0_5, .int .i64 a0_6, .int .i64 a0_7, .int .i64 a0_8, .int .i64 a0_9, .string a0_10, .int .i64 a0_11, .int .i64 a0_12, .int .i64 a0_13, .bool a0_14] 30 (0, 0)) (by (with_reducible repeat (first | refine blk_drewN ?_ _ | refine blk_drew ?_ | refine blk_alloc ?_ _)); exact BK318.out) hb); have n1_ := Aside0.mk (below_step (by repeat (first | (with_reducible first | exact HB.out | apply below_alloc | apply pw_below_drewN | apply below_drew1 | refine below_set ?_ GE318.out) | exact HB.out)) hb); clear BK318; clear HB; have BK318 := n0_; have HB := n1_; clear n0_ n1_; (try clear hb); (try clear hb2); (try clear hk); (try clear hi)))
   go_meet
   case rel => exact ⟨_, (decide ((a1.size : Int) > 1000)), (by first | rfl | (simp; done) | (simp [*]; done) | (simp [isE_ne]; done)), H', ⟨by first | omega | exact Nat.le_refl _⟩, ⟨by (with_reducible repeat (first | refine blk_drewN ?_ _ | refine blk_drew ?_ | refine blk_alloc ?_ _)); exact BK318.out⟩, ⟨by repeat (first | (with_reducible first | exact HB.out | apply below_alloc | apply pw_below_drewN | apply below_drew1 | refine below_set ?_ GE318.out) | exact HB.out)⟩⟩
  ·replace c6 := Bool.eq_false_iff.mpr c6
   subst c6
   have H1 : (jobshelllaw48_PromptQuotes.j0 k a1 true a0_0 l0_1 l0_2 a0_3 l0_4 l0_5 a0_6 a0_7 a0_8 a0_9 a0_10 a0_11 a0_12 a0_13 a0_14) = some r := by rw [if_neg (show ¬ (false = true) by decide)] at H; exact H
   clear H
   have H := H1
   clear H1
   have H' := Aside0.mk H
   clear H
   have hcz9_0 : w4.cell? ⟨gb318, 0, none⟩ = some (.string a0_0) := (blk_cell BK318.out 0).trans rfl
   have hcz9_1 : w4.cell? ⟨gb318, 1, none⟩ = some (.slice A0_1 l0_1.length c0_1) := (blk_cell BK318.out 1).trans rfl
   have hcz9_2 : w4.cell? ⟨gb318, 2, none⟩ = some (.slice A0_2 l0_2.length c0_2) := (blk_cell BK318.out 2).trans rfl
   have hcz9_3 : w4.cell? ⟨gb318, 3, none⟩ = some (.slice (a0_3).A (a0_3).n (a0_3).c) := (blk_cell BK318.out 3).trans rfl
   have hcz9_4 : w4.cell? ⟨gb318, 4, none⟩ = some (.slice A0_4 l0_4.length c0_4) := (blk_cell BK318.out 4).trans rfl
   have hcz9_5 : w4.cell? ⟨gb318, 5, none⟩ = some (.slice A0_5 l0_5.length c0_5) := (blk_cell BK318.out 5).trans rfl
   have hcz9_6 : w4.cell? ⟨gb318, 6, none⟩ = some (.int .i64 a0_6) := (blk_cell BK318.out 6).trans rfl
   have hcz9_7 : w4.cell? ⟨gb318, 7, none⟩ = some (.int .i64 a0_7) := (blk_cell BK318.out 7).trans rfl
   have hcz9_8 : w4.cell? ⟨gb318, 8, none⟩ = some (.int .i64 a0_8) := (blk_cell BK318.out 8).trans rfl
   have hcz9_9 : w4.cell? ⟨gb318, 9, none⟩ = some (.int .i64 a0_9) := (blk_cell BK318.out 9).trans rfl
   have hcz9_10 : w4.cell? ⟨gb318, 10, none⟩ = some (.string a0_10) := (blk_cell BK318.out 10).trans rfl
   have hcz9_11 : w4.cell? ⟨gb318, 11, none⟩ = some (.int .i64 a0_11) := (blk_cell BK318.out 11).trans rfl
   have hcz9_12 : w4.cell? ⟨gb318, 12, none⟩ = some (.int .i64 a0_12) := (blk_cell BK318.out 12).trans rfl
   have hcz9_13 : w4.cell? ⟨gb318, 13, none⟩ = some (.int .i64 a0_13) := (blk_cell BK318.out 13).trans rfl
   have hcz9_14 : w4.cell? ⟨gb318, 14, none⟩ = some (.bool a0_14) := (blk_cell BK318.out 14).trans rfl
   have hfz9_0 := blk_frozen BK318.out 0
   have hfz9_1 := blk_frozen BK318.out 1
   have hfz9_2 := blk_frozen BK318.out 2
   have hfz9_3 := blk_frozen BK318.out 3
   have hfz9_4 := blk_frozen BK318.out 4
   have hfz9_5 := blk_frozen BK318.out 5
   have hfz9_6 := blk_frozen BK318.out 6
   have hfz9_7 := blk_frozen BK318.out 7
   have hfz9_8 := blk_frozen BK318.out 8
   have hfz9_9 := blk_frozen BK318.out 9
   have hfz9_10 := blk_frozen BK318.out 10
   have hfz9_11 := blk_frozen BK318.out 11
   have hfz9_12 := blk_frozen BK318.out 12
   have hfz9_13 := blk_frozen BK318.out 13
   have hfz9_14 := blk_frozen BK318.out 14
   go_wp2_with (first | ((with_reducible refine gate_callee (f := 8) rfl ?_); refine goesL_ (some 8) rfl rfl Tryd.func8 (by kernel_rfl) rfl #[.agg #[.string a0_0, .slice A0_1 l0_1.length c0_1, .slice A0_2 l0_2.length c0_2, .slice (a0_3).A (a0_3).n (a0_3).c, .slice A0_4 l0_4.length c0_4, .slice A0_5 l0_5.length c0_5, .int .i64 a0_6, .int .i64 a0_7, .int .i64 a0_8, .int .i64 a0_9, .string a0_10, .int .i64 a0_11, .int .i64 a0_12, .int .i64 a0_13, .bool a0_14]] rfl (by (try simp only [List.map_toArray, List.map_cons, List.map_nil]); first | done | rfl | (simp only [List.length_drop, List.length_take]; rfl)) ?_; (with_reducible refine (jobshelllaw48_small.calls k a0_0 _ _ l0_1 _ _ l0_2 a0_3 _ _ l0_4 _ _ l0_5 a0_6 a0_7 a0_8 a0_9 a0_10 a0_11 a0_12 a0_13 a0_14 false _ ?side1 ?side2 ?side3 ?side4 ?side5 ?side6 ?side7 ?side8 A5.out).mono ?_); (case side1 => repeat (first | exact (Kd.C_below HR0_1.out HB.out) | (with_reducible refine Kd.C_alloc ?_ _) | (with_reducible refine Kd.C_drewN ?_ _) | (with_reducible refine Kd.C_drew ?_))); (case side2 => exact HC0_1.out); (case side3 => repeat (first | exact (Kd.C_below HR0_2.out HB.out) | (with_reducible refine Kd.C_alloc ?_ _) | (with_reducible refine Kd.C_drewN ?_ _) | (with_reducible refine Kd.C_drew ?_))); (case side4 => exact HC0_2.out); (case side5 => repeat (first | exact (Kd.C_below HR0_4.out HB.out) | (with_reducible refine Kd.C_alloc ?_ _) | (with_reducible refine Kd.C_drewN ?_ _) | (with_reducible refine Kd.C_drew ?_))); (case side6 => exact HC0_4.out); (case side7 => repeat (first | exact (Kd.C_below HR0_5.out HB.out) | (with_reducible refine Kd.C_alloc ?_ _) | (with_reducible refine Kd.C_drewN ?_ _) | (with_reducible refine Kd.C_drew ?_))); (case side8 => exact HC0_5.out); rintro e w10 ⟨rfl, hb⟩; refine ⟨_, rfl, ?_⟩; have n0_ := Aside0.mk (blk_below (g := gb318) (o := .cells #[.string a0_0, .slice A0_1 l0_1.length c0_1, .slice A0_2 l0_2.length c0_2, .slice (a0_3).A (a0_3).n (a0_3).c, .slice A0_4 l0_4.length c0_4, .slice A0_5 l0_5.length c0_5, .int .i64 a0_6, .int .i64 a0_7, .int .i64 a0_8, .int .i64 a0_9, .string a0_10, .int .i64 a0_11, .int .i64 a0_12, .int .i64 a0_13, .bool a0_14] 30 (0, 0)) (by (with_reducible repeat (first | refine blk_drewN ?_ _ | refine blk_drew ?_ | refine blk_alloc ?_ _)); exact BK318.out) hb); have n1_ := Aside0.mk (below_step (by repeat (first | (with_reducible first | exact HB.out | apply below_alloc | apply pw_below_drewN | apply below_drew1 | refine below_set ?_ GE318.out) | exact HB.out)) hb); clear BK318; clear HB; have BK318 := n0_; have HB := n1_; clear n0_ n1_; (try clear hb); (try clear hb2); (try clear hk); (try clear hi)))
   go_meet
   case rel => exact ⟨_, (true), (by first | rfl | (simp; done) | (simp [*]; done) | (simp [isE_ne]; done)), H', ⟨by first | omega | exact Nat.le_refl _⟩, ⟨by (with_reducible repeat (first | refine blk_drewN ?_ _ | refine blk_drew ?_ | refine blk_alloc ?_ _)); exact BK318.out⟩, ⟨by repeat (first | (with_reducible first | exact HB.out | apply below_alloc | apply pw_below_drewN | apply below_drew1 | refine below_set ?_ GE318.out) | exact HB.out)⟩⟩
 case rest =>
  clear HC3
  try clear p2
  try clear c6
  try clear c7
  try clear c8
  try clear hcz7_0
  try clear hcz7_1
  try clear hcz7_10
  try clear hcz7_11
  try clear hcz7_12
  try clear hcz7_13
  try clear hcz7_14
  try clear hcz7_2
  try clear hcz7_3
  try clear hcz7_4
  try clear hcz7_5
  try clear hcz7_6
  try clear hcz7_7
  try clear hcz7_8
  try clear hcz7_9
  try clear hcz9_0
  try clear hcz9_1
  try clear hcz9_10
  try clear hcz9_11
  try clear hcz9_12
  try clear hcz9_13
  try clear hcz9_14
  try clear hcz9_2
  try clear hcz9_3
  try clear hcz9_4
  try clear hcz9_5
  try clear hcz9_6
  try clear hcz9_7
  try clear hcz9_8
  try clear hcz9_9
  try clear hfz7_0
  try clear hfz7_1
  try clear hfz7_10
  try clear hfz7_11
  try clear hfz7_12
  try clear hfz7_13
  try clear hfz7_14
  try clear hfz7_2
  try clear hfz7_3
  try clear hfz7_4
  try clear hfz7_5
  try clear hfz7_6
  try clear hfz7_7
  try clear hfz7_8
  try clear hfz7_9
  try clear hfz9_0
  try clear hfz9_1
  try clear hfz9_10
  try clear hfz9_11
  try clear hfz9_12
  try clear hfz9_13
  try clear hfz9_14
  try clear hfz9_2
  try clear hfz9_3
  try clear hfz9_4
  try clear hfz9_5
  try clear hfz9_6
  try clear hfz9_7
  try clear hfz9_8
  try clear hfz9_9
  obtain ⟨kq, x14_2, rfl, HA, HJ2, BK318, HB⟩ := hcut
  cases kq with
  | zero => exact absurd HA.out (by simp [jobshelllaw48_PromptQuotes.j0])
  | succ kj2 =>
   have H := HA.out
   clear HA
   simp only [jobshelllaw48_PromptQuotes.j0] at H
   by_cases c11 : x14_2 = true
   ·subst c11
    have H1 : ((jobshelllaw48_awake.f kj2).bind fun t320 => (some t320)) = some r := by rw [if_pos rfl] at H; exact H
    clear H
    have H := H1
    clear H1
    replace H := Option.bind_eq_some_iff.mp H
    obtain ⟨t320, A120, H⟩ := H
    replace H : (some t320) = some r := H
    have A12 := Aside0.mk A120
    clear A120
    obtain rfl := Option.some.inj H
    go_wp2_with (first | ((with_reducible refine gate_callee (f := 11) rfl ?_); refine goesL_ (some 15) rfl rfl Tryd.func11 (by kernel_rfl) rfl #[] rfl (by (try simp only [List.map_toArray, List.map_cons, List.map_nil]); first | done | rfl | (simp only [List.length_drop, List.length_take]; rfl)) ?_; (with_reducible refine (jobshelllaw48_awake.calls kj2  t320 _ ?side1 A12.out).mono ?_); (case side1 => repeat (first | exact (AmbC_below HAMB.out HB.out) | (with_reducible refine AmbC_alloc ?_ _) | (with_reducible refine AmbC_drewN ?_ _) | (with_reducible refine AmbC_drew ?_))); rintro e w13 ⟨rfl, hb⟩; refine ⟨_, rfl, ?_⟩; have n0_ := Aside0.mk (blk_below (g := gb318) (o := .cells #[.string a0_0, .slice A0_1 l0_1.length c0_1, .slice A0_2 l0_2.length c0_2, .slice (a0_3).A (a0_3).n (a0_3).c, .slice A0_4 l0_4.length c0_4, .slice A0_5 l0_5.length c0_5, .int .i64 a0_6, .int .i64 a0_7, .int .i64 a0_8, .int .i64 a0_9, .string a0_10, .int .i64 a0_11, .int .i64 a0_12, .int .i64 a0_13, .bool a0_14] 30 (0, 0)) (by (with_reducible repeat (first | refine blk_drewN ?_ _ | refine blk_drew ?_ | refine blk_alloc ?_ _)); exact BK318.out) hb); have n1_ := Aside0.mk (below_step (by repeat (first | (with_reducible first | exact HB.out | apply below_alloc | apply pw_below_drewN | apply below_drew1 | refine below_set ?_ GE318.out) | exact HB.out)) hb); clear BK318; clear HB; have BK318 := n0_; have HB := n1_; clear n0_ n1_; (try clear hb); (try clear hb2); (try clear hk); (try clear hi)))
    go_ret
    exact ⟨by first | rfl | (simp [errW_none, errW_some] <;> rfl) | (simp [*, errW_none, errW_some] <;> rfl), by repeat (first | (with_reducible first | exact HB.out | apply below_alloc | apply pw_below_drewN | apply below_drew1 | refine below_set ?_ GE318.out) | exact HB.out)⟩
   ·replace c11 := Bool.eq_false_iff.mpr c11
    subst c11
    have H1 : (jobshelllaw48_PromptQuotes.l0 kj2 a1 (⟨#[]⟩ : ByteArray) 0 a0_0 l0_1 l0_2 a0_3 l0_4 l0_5 a0_6 a0_7 a0_8 a0_9 a0_10 a0_11 a0_12 a0_13 a0_14) = some r := by rw [if_neg (show ¬ (false = true) by decide)] at H; exact H
    clear H
    have H := H1
    clear H1
    have H' := Aside0.mk H
    clear H
    go_wp2
    go_loopg [5, 6] kj2 (fun kq v5 v6 w' => ∃ (x5_2 : ByteArray) (x6_2 : Int), v5 = .string x5_2 ∧ v6 = .int .i64 x6_2 ∧ Aside0 (jobshelllaw48_PromptQuotes.l0 kq a1 x5_2 x6_2 a0_0 l0_1 l0_2 a0_3 l0_4 l0_5 a0_6 a0_7 a0_8 a0_9 a0_10 a0_11 a0_12 a0_13 a0_14 = some r) ∧ Aside0 (kq ≤ kj2) ∧ Aside0 (w'.heap[gb318]? = some (.cells #[.string a0_0, (.slice A0_1 l0_1.length c0_1), (.slice A0_2 l0_2.length c0_2), .slice (a0_3).A (a0_3).n (a0_3).c, (.slice A0_4 l0_4.length c0_4), (.slice A0_5 l0_5.length c0_5), .int .i64 a0_6, .int .i64 a0_7, .int .i64 a0_8, .int .i64 a0_9, .string a0_10, .int .i64 a0_11, .int .i64 a0_12, .int .i64 a0_13, .bool a0_14] 30 (0, 0))) ∧ Aside0 (Below w.heap.size w w'))
    case atStart => exact ⟨((⟨#[]⟩ : ByteArray)), (0), (by first | rfl | (simp; done) | (simp [*]; done) | (simp [isE_ne]; done)), (by first | rfl | (simp; done) | (simp [*]; done) | (simp [isE_ne]; done)), H', ⟨Nat.le_refl _⟩, ⟨by (with_reducible repeat (first | refine blk_drewN ?_ _ | refine blk_drew ?_ | refine blk_alloc ?_ _)); exact BK318.out⟩, ⟨by repeat (first | (with_reducible first | exact HB.out | apply below_alloc | apply pw_below_drewN | apply below_drew1 | refine below_set ?_ GE318.out) | exact HB.out)⟩⟩
    case round =>
     clear H'
     try clear c1
     try clear p2
     try clear c6
     try clear c7
     try clear c8
     try clear c11
     try clear hcz7_0
     try clear hcz7_1
     try clear hcz7_10
     try clear hcz7_11
     try clear hcz7_12
     try clear hcz7_13
     try clear hcz7_14
     try clear hcz7_2
     try clear hcz7_3
     try clear hcz7_4
     try clear hcz7_5
     try clear hcz7_6
     try clear hcz7_7
     try clear hcz7_8
     try clear hcz7_9
     try clear hcz9_0
     try clear hcz9_1
     try clear hcz9_10
     try clear hcz9_11
     try clear hcz9_12
     try clear hcz9_13
     try clear hcz9_14
     try clear hcz9_2
     try clear hcz9_3
     try clear hcz9_4
     try clear hcz9_5
     try clear hcz9_6
     try clear hcz9_7
     try clear hcz9_8
     try clear hcz9_9
     try clear hfz7_0
     try clear hfz7_1
     try clear hfz7_10
     try clear hfz7_11
     try clear hfz7_12
     try clear hfz7_13
     try clear hfz7_14
     try clear hfz7_2
     try clear hfz7_3
     try clear hfz7_4
     try clear hfz7_5
     try clear hfz7_6
     try clear hfz7_7
     try clear hfz7_8
     try clear hfz7_9
     try clear hfz9_0
     try clear hfz9_1
     try clear hfz9_10
     try clear hfz9_11
     try clear hfz9_12
     try clear hfz9_13
     try clear hfz9_14
     try clear hfz9_2
     try clear hfz9_3
     try clear hfz9_4
     try clear hfz9_5
     try clear hfz9_6
     try clear hfz9_7
     try clear hfz9_8
     try clear hfz9_9
     try clear p2
     obtain ⟨x5_2, x6_2, rfl, rfl, HA, HK2, BK318, HB⟩ := hrel
     cases gk with
     | zero => exact absurd HA.out (by simp [jobshelllaw48_PromptQuotes.l0])
     | succ k2 =>
      have H := HA.out
      clear HA
      simp only [jobshelllaw48_PromptQuotes.l0] at H
      by_cases c14 : x6_2 < (a1.size : Int)
      ·rw [if_pos c14] at H
       have c14b0 : decide (x6_2 < (a1.size : Int)) = true := decide_eq_true c14
       clear c14
       by_cases c15 : 0 ≤ x6_2
       ·rw [if_pos c15] at H
        have c15b0 : decide (0 ≤ x6_2) = true := decide_eq_true c15
        clear c15
        by_cases c17 : (bt a1 x6_2) = 92
        ·rw [if_pos c17] at H
         have c17b0 : ((bt a1 x6_2) == 92) = true := beq_iff_eq.mpr c17
         have c17b1 : ((bt a1 x6_2) != 92) = false := bne_eq_false_iff_eq.mpr c17
         clear c17
         by_cases c18 : x5_2.size + 1 ≤ 9223372036854775807
         ·rw [if_pos c18] at H
          have c18b0 := eq_true c18
          have c18b1 : decide (x5_2.size + 1 ≤ 9223372036854775807) = true := decide_eq_true c18
          try have c18b2 : (9223372036854775807 < x5_2.size + 1) = False := eq_false (Nat.not_lt.2 c18)
          have c19b0 := eq_true (of_decide_eq_true (by first | (with_reducible assumption) | assumption) : 0 ≤ x6_2)
          by_cases c20 : x6_2 ≤ (wrap64 (x6_2 + 1))
          ·rw [if_pos c20] at H
           have c20b0 := eq_true c20
           have c20b1 : decide (x6_2 ≤ (wrap64 (x6_2 + 1))) = true := decide_eq_true c20
           by_cases c21 : (wrap64 (x6_2 + 1)) ≤ (a1.size : Int)
           ·rw [if_pos c21] at H
            have c21b0 := eq_true c21
            have c21b1 : decide ((wrap64 (x6_2 + 1)) ≤ (a1.size : Int)) = true := decide_eq_true c21
            by_cases c22 : (x5_2 ++ (⟨#[92]⟩ : ByteArray)).size + (a1.extract (x6_2 : Int).toNat ((wrap64 (x6_2 + 1)) : Int).toNat).size ≤ 9223372036854775807
            ·rw [if_pos c22] at H
             have c22b0 := eq_true c22
             have c22b1 : decide ((x5_2 ++ (⟨#[92]⟩ : ByteArray)).size + (a1.extract (x6_2 : Int).toNat ((wrap64 (x6_2 + 1)) : Int).toNat).size ≤ 9223372036854775807) = true := decide_eq_true c22
             try have c22b2 : (9223372036854775807 < (x5_2 ++ (⟨#[92]⟩ : ByteArray)).size + (a1.extract (x6_2 : Int).toNat ((wrap64 (x6_2 + 1)) : Int).toNat).size) = False := eq_false (Nat.not_lt.2 c22)
             have H' := Aside0.mk H
             clear H
             have p16 : 0 ≤ (x6_2 : Int) := of_decide_eq_true (by first | (with_reducible assumption) | assumption)
             have q16 : x6_2 < (a1.size : Int) := of_decide_eq_true (by first | (with_reducible assumption) | assumption)
             have hx16 := bt_at a1 x6_2
             replace p16 := eq_true p16
             replace q16 := eq_true q16
             go_wp2
             go_roundg k2
             case measure => have := HJ2.out; have := HK2.out; omega
             case rel => exact ⟨((x5_2 ++ (⟨#[92]⟩ : ByteArray)) ++ (a1.extract (x6_2 : Int).toNat ((wrap64 (x6_2 + 1)) : Int).toNat)), (wrap64 (x6_2 + 1)), (by first | rfl | (simp; done) | (simp [*]; done) | (simp [isE_ne]; done)), (by first | rfl | (simp; done) | (simp [*]; done) | (simp [isE_ne]; done)), H', ⟨by have := HJ2.out; have := HK2.out; omega⟩, ⟨by (with_reducible repeat (first | refine blk_drewN ?_ _ | refine blk_drew ?_ | refine blk_alloc ?_ _)); exact BK318.out⟩, ⟨by repeat (first | (with_reducible first | exact HB.out | apply below_alloc | apply pw_below_drewN | apply below_drew1 | refine below_set ?_ GE318.out) | exact HB.out)⟩⟩
            ·rw [if_neg c22] at H
             exact absurd H (by simp)
           ·rw [if_neg c21] at H
            exact absurd H (by simp)
          ·rw [if_neg c20] at H
           exact absurd H (by simp)
         ·rw [if_neg c18] at H
          exact absurd H (by simp)
        ·rw [if_neg c17] at H
         have c17b0 : ((bt a1 x6_2) == 92) = false := beq_eq_false_iff_ne.mpr c17
         have c17b1 : ((bt a1 x6_2) != 92) = true := bne_iff_ne.mpr c17
         by_cases c24 : (bt a1 x6_2) = 36
         ·rw [if_pos c24] at H
          have c24b0 : ((bt a1 x6_2) == 36) = true := beq_iff_eq.mpr c24
          have c24b1 : ((bt a1 x6_2) != 36) = false := bne_eq_false_iff_eq.mpr c24
          clear c24
          by_cases c25 : x5_2.size + 1 ≤ 9223372036854775807
          ·rw [if_pos c25] at H
           have c25b0 := eq_true c25
           have c25b1 : decide (x5_2.size + 1 ≤ 9223372036854775807) = true := decide_eq_true c25
           try have c25b2 : (9223372036854775807 < x5_2.size + 1) = False := eq_false (Nat.not_lt.2 c25)
           have c26b0 := eq_true (of_decide_eq_true (by first | (with_reducible assumption) | assumption) : 0 ≤ x6_2)
           by_cases c27 : x6_2 ≤ (wrap64 (x6_2 + 1))
           ·rw [if_pos c27] at H
            have c27b0 := eq_true c27
            have c27b1 : decide (x6_2 ≤ (wrap64 (x6_2 + 1))) = true := decide_eq_true c27
            by_cases c28 : (wrap64 (x6_2 + 1)) ≤ (a1.size : Int)
            ·rw [if_pos c28] at H
             have c28b0 := eq_true c28
             have c28b1 : decide ((wrap64 (x6_2 + 1)) ≤ (a1.size : Int)) = true := decide_eq_true c28
             by_cases c29 : (x5_2 ++ (⟨#[92]⟩ : ByteArray)).size + (a1.extract (x6_2 : Int).toNat ((wrap64 (x6_2 + 1)) : Int).toNat).size ≤ 9223372036854775807
             ·rw [if_pos c29] at H
              have c29b0 := eq_true c29
              have c29b1 : decide ((x5_2 ++ (⟨#[92]⟩ : ByteArray)).size + (a1.extract (x6_2 : Int).toNat ((wrap64 (x6_2 + 1)) : Int).toNat).size ≤ 9223372036854775807) = true := decide_eq_true c29
              try have c29b2 : (9223372036854775807 < (x5_2 ++ (⟨#[92]⟩ : ByteArray)).size + (a1.extract (x6_2 : Int).toNat ((wrap64 (x6_2 + 1)) : Int).toNat).size) = False := eq_false (Nat.not_lt.2 c29)
              have H' := Aside0.mk H
              clear H
              have p16 : 0 ≤ (x6_2 : Int) := of_decide_eq_true (by first | (with_reducible assumption) | assumption)
              have q16 : x6_2 < (a1.size : Int) := of_decide_eq_true (by first | (with_reducible assumption) | assumption)
              have hx16 := bt_at a1 x6_2
              replace p16 := eq_true p16
              replace q16 := eq_true q16
              have p23 : 0 ≤ (x6_2 : Int) := of_decide_eq_true (by first | (with_reducible assumption) | assumption)
              have q23 : x6_2 < (a1.size : Int) := of_decide_eq_true (by first | (with_reducible assumption) | assumption)
              have hx23 := bt_at a1 x6_2
              replace p23 := eq_true p23
              replace q23 := eq_true q23
              go_wp2
              go_roundg k2
              case measure => have := HJ2.out; have := HK2.out; omega
              case rel => exact ⟨((x5_2 ++ (⟨#[92]⟩ : ByteArray)) ++ (a1.extract (x6_2 : Int).toNat ((wrap64 (x6_2 + 1)) : Int).toNat)), (wrap64 (x6_2 + 1)), (by first | rfl | (simp; done) | (simp [*]; done) | (simp [isE_ne]; done)), (by first | rfl | (simp; done) | (simp [*]; done) | (simp [isE_ne]; done)), H', ⟨by have := HJ2.out; have := HK2.out; omega⟩, ⟨by (with_reducible repeat (first | refine blk_drewN ?_ _ | refine blk_drew ?_ | refine blk_alloc ?_ _)); exact BK318.out⟩, ⟨by repeat (first | (with_reducible first | exact HB.out | apply below_alloc | apply pw_below_drewN | apply below_drew1 | refine below_set ?_ GE318.out) | exact HB.out)⟩⟩
             ·rw [if_neg c29] at H
              exact absurd H (by simp)
            ·rw [if_neg c28] at H
             exact absurd H (by simp)
           ·rw [if_neg c27] at H
            exact absurd H (by simp)
          ·rw [if_neg c25] at H
           exact absurd H (by simp)
         ·rw [if_neg c24] at H
          have c24b0 : ((bt a1 x6_2) == 36) = false := beq_eq_false_iff_ne.mpr c24
          have c24b1 : ((bt a1 x6_2) != 36) = true := bne_iff_ne.mpr c24
          have c30b0 := eq_true (of_decide_eq_true (by first | (with_reducible assumption) | assumption) : 0 ≤ x6_2)
          by_cases c31 : x6_2 ≤ (wrap64 (x6_2 + 1))
          ·rw [if_pos c31] at H
           have c31b0 := eq_true c31
           have c31b1 : decide (x6_2 ≤ (wrap64 (x6_2 + 1))) = true := decide_eq_true c31
           by_cases c32 : (wrap64 (x6_2 + 1)) ≤ (a1.size : Int)
           ·rw [if_pos c32] at H
            have c32b0 := eq_true c32
            have c32b1 : decide ((wrap64 (x6_2 + 1)) ≤ (a1.size : Int)) = true := decide_eq_true c32
            by_cases c33 : x5_2.size + (a1.extract (x6_2 : Int).toNat ((wrap64 (x6_2 + 1)) : Int).toNat).size ≤ 9223372036854775807
            ·rw [if_pos c33] at H
             have c33b0 := eq_true c33
             have c33b1 : decide (x5_2.size + (a1.extract (x6_2 : Int).toNat ((wrap64 (x6_2 + 1)) : Int).toNat).size ≤ 9223372036854775807) = true := decide_eq_true c33
             try have c33b2 : (9223372036854775807 < x5_2.size + (a1.extract (x6_2 : Int).toNat ((wrap64 (x6_2 + 1)) : Int).toNat).size) = False := eq_false (Nat.not_lt.2 c33)
             have H' := Aside0.mk H
             clear H
             have p16 : 0 ≤ (x6_2 : Int) := of_decide_eq_true (by first | (with_reducible assumption) | assumption)
             have q16 : x6_2 < (a1.size : Int) := of_decide_eq_true (by first | (with_reducible assumption) | assumption)
             have hx16 := bt_at a1 x6_2
             replace p16 := eq_true p16
             replace q16 := eq_true q16
             have p23 : 0 ≤ (x6_2 : Int) := of_decide_eq_true (by first | (with_reducible assumption) | assumption)
             have q23 : x6_2 < (a1.size : Int) := of_decide_eq_true (by first | (with_reducible assumption) | assumption)
             have hx23 := bt_at a1 x6_2
             replace p23 := eq_true p23
             replace q23 := eq_true q23
             go_wp2
             go_roundg k2
             case measure => have := HJ2.out; have := HK2.out; omega
             case rel => exact ⟨(x5_2 ++ (a1.extract (x6_2 : Int).toNat ((wrap64 (x6_2 + 1)) : Int).toNat)), (wrap64 (x6_2 + 1)), (by first | rfl | (simp; done) | (simp [*]; done) | (simp [isE_ne]; done)), (by first | rfl | (simp; done) | (simp [*]; done) | (simp [isE_ne]; done)), H', ⟨by have := HJ2.out; have := HK2.out; omega⟩, ⟨by (with_reducible repeat (first | refine blk_drewN ?_ _ | refine blk_drew ?_ | refine blk_alloc ?_ _)); exact BK318.out⟩, ⟨by repeat (first | (with_reducible first | exact HB.out | apply below_alloc | apply pw_below_drewN | apply below_drew1 | refine below_set ?_ GE318.out) | exact HB.out)⟩⟩
            ·rw [if_neg c33] at H
             exact absurd H (by simp)
           ·rw [if_neg c32] at H
            exact absurd H (by simp)
          ·rw [if_neg c31] at H
           exact absurd H (by simp)
       ·rw [if_neg c15] at H
        exact absurd H (by simp)
      ·rw [if_neg c14] at H
       have c14b0 : decide (x6_2 < (a1.size : Int)) = false := decide_eq_false c14
       clear c14
       replace H := Option.bind_eq_some_iff.mp H
       obtain ⟨t321, A340, H⟩ := H
       replace H : (if t321.toList = a1.toList then ((jobshelllaw48_awake.f k2).bind fun t322 => (some t322)) else (some false)) = some r := H
       have A34 := Aside0.mk A340
       clear A340
       by_cases c35 : t321.toList = a1.toList
       ·rw [if_pos c35] at H
        have c35b0 : (t321.toList == a1.toList) = true := beq_iff_eq.mpr c35
        have c35b1 : (t321.toList != a1.toList) = false := bne_eq_false_iff_eq.mpr c35
        clear c35
        replace H := Option.bind_eq_some_iff.mp H
        obtain ⟨t322, A360, H⟩ := H
        replace H : (some t322) = some r := H
        have A36 := Aside0.mk A360
        clear A360
        obtain rfl := Option.some.inj H
        have hcz37_0 : wr.cell? ⟨gb318, 0, none⟩ = some (.string a0_0) := (blk_cell BK318.out 0).trans rfl
        have hcz37_1 : wr.cell? ⟨gb318, 1, none⟩ = some (.slice A0_1 l0_1.length c0_1) := (blk_cell BK318.out 1).trans rfl
        have hcz37_2 : wr.cell? ⟨gb318, 2, none⟩ = some (.slice A0_2 l0_2.length c0_2) := (blk_cell BK318.out 2).trans rfl
        have hcz37_3 : wr.cell? ⟨gb318, 3, none⟩ = some (.slice (a0_3).A (a0_3).n (a0_3).c) := (blk_cell BK318.out 3).trans rfl
        have hcz37_4 : wr.cell? ⟨gb318, 4, none⟩ = some (.slice A0_4 l0_4.length c0_4) := (blk_cell BK318.out 4).trans rfl
        have hcz37_5 : wr.cell? ⟨gb318, 5, none⟩ = some (.slice A0_5 l0_5.length c0_5) := (blk_cell BK318.out 5).trans rfl
        have hcz37_6 : wr.cell? ⟨gb318, 6, none⟩ = some (.int .i64 a0_6) := (blk_cell BK318.out 6).trans rfl
        have hcz37_7 : wr.cell? ⟨gb318, 7, none⟩ = some (.int .i64 a0_7) := (blk_cell BK318.out 7).trans rfl
        have hcz37_8 : wr.cell? ⟨gb318, 8, none⟩ = some (.int .i64 a0_8) := (blk_cell BK318.out 8).trans rfl
        have hcz37_9 : wr.cell? ⟨gb318, 9, none⟩ = some (.int .i64 a0_9) := (blk_cell BK318.out 9).trans rfl
        have hcz37_10 : wr.cell? ⟨gb318, 10, none⟩ = some (.string a0_10) := (blk_cell BK318.out 10).trans rfl
        have hcz37_11 : wr.cell? ⟨gb318, 11, none⟩ = some (.int .i64 a0_11) := (blk_cell BK318.out 11).trans rfl
        have hcz37_12 : wr.cell? ⟨gb318, 12, none⟩ = some (.int .i64 a0_12) := (blk_cell BK318.out 12).trans rfl
        have hcz37_13 : wr.cell? ⟨gb318, 13, none⟩ = some (.int .i64 a0_13) := (blk_cell BK318.out 13).trans rfl
        have hcz37_14 : wr.cell? ⟨gb318, 14, none⟩ = some (.bool a0_14) := (blk_cell BK318.out 14).trans rfl
        have hfz37_0 := blk_frozen BK318.out 0
        have hfz37_1 := blk_frozen BK318.out 1
        have hfz37_2 := blk_frozen BK318.out 2
        have hfz37_3 := blk_frozen BK318.out 3
        have hfz37_4 := blk_frozen BK318.out 4
        have hfz37_5 := blk_frozen BK318.out 5
        have hfz37_6 := blk_frozen BK318.out 6
        have hfz37_7 := blk_frozen BK318.out 7
        have hfz37_8 := blk_frozen BK318.out 8
        have hfz37_9 := blk_frozen BK318.out 9
        have hfz37_10 := blk_frozen BK318.out 10
        have hfz37_11 := blk_frozen BK318.out 11
        have hfz37_12 := blk_frozen BK318.out 12
        have hfz37_13 := blk_frozen BK318.out 13
        have hfz37_14 := blk_frozen BK318.out 14
        go_wp2_with (first | ((with_reducible refine gate_callee (f := 9) rfl ?_); refine goesL_ (some 43) rfl rfl Tryd.func9 (by kernel_rfl) rfl #[.agg #[.string a0_0, .slice A0_1 l0_1.length c0_1, .slice A0_2 l0_2.length c0_2, .slice (a0_3).A (a0_3).n (a0_3).c, .slice A0_4 l0_4.length c0_4, .slice A0_5 l0_5.length c0_5, .int .i64 a0_6, .int .i64 a0_7, .int .i64 a0_8, .int .i64 a0_9, .string a0_10, .int .i64 a0_11, .int .i64 a0_12, .int .i64 a0_13, .bool a0_14], .string x5_2, .int .i64 1, .int .i64 1] rfl (by (try simp only [List.map_toArray, List.map_cons, List.map_nil]); first | done | rfl | (simp only [List.length_drop, List.length_take]; rfl)) ?_; (with_reducible refine (prompt_Expand.calls k2 a0_0 _ _ l0_1 _ _ l0_2 a0_3 _ _ l0_4 _ _ l0_5 a0_6 a0_7 a0_8 a0_9 a0_10 a0_11 a0_12 a0_13 a0_14 x5_2 1 1 t321 _ ?side1 ?side2 ?side3 ?side4 ?side5 ?side6 ?side7 ?side8 ?side9 A34.out).mono ?_); (case side1 => repeat (first | exact (Kd.C_below HR0_1.out HB.out) | (with_reducible refine Kd.C_alloc ?_ _) | (with_reducible refine Kd.C_drewN ?_ _) | (with_reducible refine Kd.C_drew ?_))); (case side2 => exact HC0_1.out); (case side3 => repeat (first | exact (Kd.C_below HR0_2.out HB.out) | (with_reducible refine Kd.C_alloc ?_ _) | (with_reducible refine Kd.C_drewN ?_ _) | (with_reducible refine Kd.C_drew ?_))); (case side4 => exact HC0_2.out); (case side5 => repeat (first | exact (Kd.C_below HR0_4.out HB.out) | (with_reducible refine Kd.C_alloc ?_ _) | (with_reducible refine Kd.C_drewN ?_ _) | (with_reducible refine Kd.C_drew ?_))); (case side6 => exact HC0_4.out); (case side7 => repeat (first | exact (Kd.C_below HR0_5.out HB.out) | (with_reducible refine Kd.C_alloc ?_ _) | (with_reducible refine Kd.C_drewN ?_ _) | (with_reducible refine Kd.C_drew ?_))); (case side8 => exact HC0_5.out); (case side9 => repeat (first | exact (AmbC_below HAMB.out HB.out) | (with_reducible refine AmbC_alloc ?_ _) | (with_reducible refine AmbC_drewN ?_ _) | (with_reducible refine AmbC_drew ?_))); rintro e w38 ⟨rfl, hb⟩; refine ⟨_, rfl, ?_⟩; have n0_ := Aside0.mk (blk_below (g := gb318) (o := .cells #[.string a0_0, .slice A0_1 l0_1.length c0_1, .slice A0_2 l0_2.length c0_2, .slice (a0_3).A (a0_3).n (a0_3).c, .slice A0_4 l0_4.length c0_4, .slice A0_5 l0_5.length c0_5, .int .i64 a0_6, .int .i64 a0_7, .int .i64 a0_8, .int .i64 a0_9, .string a0_10, .int .i64 a0_11, .int .i64 a0_12, .int .i64 a0_13, .bool a0_14] 30 (0, 0)) (by (with_reducible repeat (first | refine blk_drewN ?_ _ | refine blk_drew ?_ | refine blk_alloc ?_ _)); exact BK318.out) hb); have n1_ := Aside0.mk (below_step (by repeat (first | (with_reducible first | exact HB.out | apply below_alloc | apply pw_below_drewN | apply below_drew1 | refine below_set ?_ GE318.out) | exact HB.out)) hb); clear BK318; clear HB; have BK318 := n0_; have HB := n1_; clear n0_ n1_; (try clear hb); (try clear hb2); (try clear hk); (try clear hi)) | (go_at_call 11; (with_reducible refine (jobshelllaw48_awake.calls k2  t322 _ ?side1 A36.out).mono ?_); (case side1 => repeat (first | exact (AmbC_below HAMB.out HB.out) | (with_reducible refine AmbC_alloc ?_ _) | (with_reducible refine AmbC_drewN ?_ _) | (with_reducible refine AmbC_drew ?_))); rintro e w39 ⟨rfl, hb⟩; have n0_ := Aside0.mk (blk_below (g := gb318) (o := .cells #[.string a0_0, .slice A0_1 l0_1.length c0_1, .slice A0_2 l0_2.length c0_2, .slice (a0_3).A (a0_3).n (a0_3).c, .slice A0_4 l0_4.length c0_4, .slice A0_5 l0_5.length c0_5, .int .i64 a0_6, .int .i64 a0_7, .int .i64 a0_8, .int .i64 a0_9, .string a0_10, .int .i64 a0_11, .int .i64 a0_12, .int .i64 a0_13, .bool a0_14] 30 (0, 0)) (by (with_reducible repeat (first | refine blk_drewN ?_ _ | refine blk_drew ?_ | refine blk_alloc ?_ _)); exact BK318.out) hb); have n1_ := Aside0.mk (below_step (by repeat (first | (with_reducible first | exact HB.out | apply below_alloc | apply pw_below_drewN | apply below_drew1 | refine below_set ?_ GE318.out) | exact HB.out)) hb); clear BK318; clear HB; have BK318 := n0_; have HB := n1_; clear n0_ n1_; (try clear hb); (try clear hb2); (try clear hk); (try clear hi)))
        go_ret
        exact ⟨by first | rfl | (simp [errW_none, errW_some] <;> rfl) | (simp [*, errW_none, errW_some] <;> rfl), by repeat (first | (with_reducible first | exact HB.out | apply below_alloc | apply pw_below_drewN | apply below_drew1 | refine below_set ?_ GE318.out) | exact HB.out)⟩
       ·rw [if_neg c35] at H
        have c35b0 : (t321.toList == a1.toList) = false := beq_eq_false_iff_ne.mpr c35
        have c35b1 : (t321.toList != a1.toList) = true := bne_iff_ne.mpr c35
        obtain rfl := Option.some.inj H
        have hcz40_0 : wr.cell? ⟨gb318, 0, none⟩ = some (.string a0_0) := (blk_cell BK318.out 0).trans rfl
        have hcz40_1 : wr.cell? ⟨gb318, 1, none⟩ = some (.slice A0_1 l0_1.length c0_1) := (blk_cell BK318.out 1).trans rfl
        have hcz40_2 : wr.cell? ⟨gb318, 2, none⟩ = some (.slice A0_2 l0_2.length c0_2) := (blk_cell BK318.out 2).trans rfl
        have hcz40_3 : wr.cell? ⟨gb318, 3, none⟩ = some (.slice (a0_3).A (a0_3).n (a0_3).c) := (blk_cell BK318.out 3).trans rfl
        have hcz40_4 : wr.cell? ⟨gb318, 4, none⟩ = some (.slice A0_4 l0_4.length c0_4) := (blk_cell BK318.out 4).trans rfl
        have hcz40_5 : wr.cell? ⟨gb318, 5, none⟩ = some (.slice A0_5 l0_5.length c0_5) := (blk_cell BK318.out 5).trans rfl
        have hcz40_6 : wr.cell? ⟨gb318, 6, none⟩ = some (.int .i64 a0_6) := (blk_cell BK318.out 6).trans rfl
        have hcz40_7 : wr.cell? ⟨gb318, 7, none⟩ = some (.int .i64 a0_7) := (blk_cell BK318.out 7).trans rfl
        have hcz40_8 : wr.cell? ⟨gb318, 8, none⟩ = some (.int .i64 a0_8) := (blk_cell BK318.out 8).trans rfl
        have hcz40_9 : wr.cell? ⟨gb318, 9, none⟩ = some (.int .i64 a0_9) := (blk_cell BK318.out 9).trans rfl
        have hcz40_10 : wr.cell? ⟨gb318, 10, none⟩ = some (.string a0_10) := (blk_cell BK318.out 10).trans rfl
        have hcz40_11 : wr.cell? ⟨gb318, 11, none⟩ = some (.int .i64 a0_11) := (blk_cell BK318.out 11).trans rfl
        have hcz40_12 : wr.cell? ⟨gb318, 12, none⟩ = some (.int .i64 a0_12) := (blk_cell BK318.out 12).trans rfl
        have hcz40_13 : wr.cell? ⟨gb318, 13, none⟩ = some (.int .i64 a0_13) := (blk_cell BK318.out 13).trans rfl
        have hcz40_14 : wr.cell? ⟨gb318, 14, none⟩ = some (.bool a0_14) := (blk_cell BK318.out 14).trans rfl
        have hfz40_0 := blk_frozen BK318.out 0
        have hfz40_1 := blk_frozen BK318.out 1
        have hfz40_2 := blk_frozen BK318.out 2
        have hfz40_3 := blk_frozen BK318.out 3
        have hfz40_4 := blk_frozen BK318.out 4
        have hfz40_5 := blk_frozen BK318.out 5
        have hfz40_6 := blk_frozen BK318.out 6
        have hfz40_7 := blk_frozen BK318.out 7
        have hfz40_8 := blk_frozen BK318.out 8
        have hfz40_9 := blk_frozen BK318.out 9
        have hfz40_10 := blk_frozen BK318.out 10
        have hfz40_11 := blk_frozen BK318.out 11
        have hfz40_12 := blk_frozen BK318.out 12
        have hfz40_13 := blk_frozen BK318.out 13
        have hfz40_14 := blk_frozen BK318.out 14
        go_wp2_with (first | ((with_reducible refine gate_callee (f := 9) rfl ?_); refine goesL_ (some 43) rfl rfl Tryd.func9 (by kernel_rfl) rfl #[.agg #[.string a0_0, .slice A0_1 l0_1.length c0_1, .slice A0_2 l0_2.length c0_2, .slice (a0_3).A (a0_3).n (a0_3).c, .slice A0_4 l0_4.length c0_4, .slice A0_5 l0_5.length c0_5, .int .i64 a0_6, .int .i64 a0_7, .int .i64 a0_8, .int .i64 a0_9, .string a0_10, .int .i64 a0_11, .int .i64 a0_12, .int .i64 a0_13, .bool a0_14], .string x5_2, .int .i64 1, .int .i64 1] rfl (by (try simp only [List.map_toArray, List.map_cons, List.map_nil]); first | done | rfl | (simp only [List.length_drop, List.length_take]; rfl)) ?_; (with_reducible refine (prompt_Expand.calls k2 a0_0 _ _ l0_1 _ _ l0_2 a0_3 _ _ l0_4 _ _ l0_5 a0_6 a0_7 a0_8 a0_9 a0_10 a0_11 a0_12 a0_13 a0_14 x5_2 1 1 t321 _ ?side1 ?side2 ?side3 ?side4 ?side5 ?side6 ?side7 ?side8 ?side9 A34.out).mono ?_); (case side1 => repeat (first | exact (Kd.C_below HR0_1.out HB.out) | (with_reducible refine Kd.C_alloc ?_ _) | (with_reducible refine Kd.C_drewN ?_ _) | (with_reducible refine Kd.C_drew ?_))); (case side2 => exact HC0_1.out); (case side3 => repeat (first | exact (Kd.C_below HR0_2.out HB.out) | (with_reducible refine Kd.C_alloc ?_ _) | (with_reducible refine Kd.C_drewN ?_ _) | (with_reducible refine Kd.C_drew ?_))); (case side4 => exact HC0_2.out); (case side5 => repeat (first | exact (Kd.C_below HR0_4.out HB.out) | (with_reducible refine Kd.C_alloc ?_ _) | (with_reducible refine Kd.C_drewN ?_ _) | (with_reducible refine Kd.C_drew ?_))); (case side6 => exact HC0_4.out); (case side7 => repeat (first | exact (Kd.C_below HR0_5.out HB.out) | (with_reducible refine Kd.C_alloc ?_ _) | (with_reducible refine Kd.C_drewN ?_ _) | (with_reducible refine Kd.C_drew ?_))); (case side8 => exact HC0_5.out); (case side9 => repeat (first | exact (AmbC_below HAMB.out HB.out) | (with_reducible refine AmbC_alloc ?_ _) | (with_reducible refine AmbC_drewN ?_ _) | (with_reducible refine AmbC_drew ?_))); rintro e w41 ⟨rfl, hb⟩; refine ⟨_, rfl, ?_⟩; have n0_ := Aside0.mk (blk_below (g := gb318) (o := .cells #[.string a0_0, .slice A0_1 l0_1.length c0_1, .slice A0_2 l0_2.length c0_2, .slice (a0_3).A (a0_3).n (a0_3).c, .slice A0_4 l0_4.length c0_4, .slice A0_5 l0_5.length c0_5, .int .i64 a0_6, .int .i64 a0_7, .int .i64 a0_8, .int .i64 a0_9, .string a0_10, .int .i64 a0_11, .int .i64 a0_12, .int .i64 a0_13, .bool a0_14] 30 (0, 0)) (by (with_reducible repeat (first | refine blk_drewN ?_ _ | refine blk_drew ?_ | refine blk_alloc ?_ _)); exact BK318.out) hb); have n1_ := Aside0.mk (below_step (by repeat (first | (with_reducible first | exact HB.out | apply below_alloc | apply pw_below_drewN | apply below_drew1 | refine below_set ?_ GE318.out) | exact HB.out)) hb); clear BK318; clear HB; have BK318 := n0_; have HB := n1_; clear n0_ n1_; (try clear hb); (try clear hb2); (try clear hk); (try clear hi)))
        go_ret
        exact ⟨by first | rfl | (simp [errW_none, errW_some] <;> rfl) | (simp [*, errW_none, errW_some] <;> rfl), by repeat (first | (with_reducible first | exact HB.out | apply below_alloc | apply pw_below_drewN | apply below_drew1 | refine below_set ?_ GE318.out) | exact HB.out)⟩
end Go.Proofs.YtiacdccnifjcjaaDoor.F
set_option linter.unusedVariables false
set_option linter.unusedSimpArgs false
namespace Go.Proofs.YtiacdccnifjcjaaDoor.Pure
open Go.RowKit Go.Proofs.YtiacdccnifjcjaaDoor.F Go.Proofs.YtiacdccnifjcjaaDoorW.PrintWords
abbrev Got := ByteArray × ByteArray × Bool × Bool × Bool × Bool
def getGo (nm : ByteArray) : List S_Var → Got
  | [] => (⟨#[]⟩, ⟨#[]⟩, false, false, false, false)
  | v :: r => if v.f0.toList = nm.toList then (v.f0, v.f1, v.f2, v.f3, v.f4, true) else getGo nm r
theorem ref_get_go (nm : ByteArray) (xs : List S_Var) (hl : xs.length < 1000) : ∀ (k i : Nat), i ≤ xs.length → xs.length - i < k → jobshellref15_Get.l0 k xs nm i = some (getGo nm (xs.drop i)) := by
  intro k
  induction k with
  | zero => intro i _ h; omega
  | succ k ih =>
    intro i hi hk
    rw [jobshellref15_Get.l0]
    by_cases h : i < xs.length
    · rw [if_pos (by omega), if_pos (by omega), wrap_succ (by omega), ih (i + 1) (by omega) (by omega), (show xs.drop i = rd_Var xs i :: xs.drop (i + 1) from getD_drop z_Var xs i h)]
      simp only [getGo]
      by_cases hc : (rd_Var xs (i : Int)).f0.toList = nm.toList
      · rw [if_pos hc, if_pos hc]
      · rw [if_neg hc, if_neg hc]
    · rw [if_neg (by omega), List.drop_eq_nil_of_le (by omega)]; rfl
theorem vars_get_go (nm : ByteArray) (xs : List S_Var) (hl : xs.length < 1000) : ∀ (k i : Nat), i ≤ xs.length → xs.length - i < k → vars_Get.l0 k nm xs (xs.length : Int) i = some (getGo nm (xs.drop i)) := by
  intro k
  induction k with
  | zero => intro i _ h; omega
  | succ k ih =>
    intro i hi hk
    rw [vars_Get.l0]
    by_cases h : i < xs.length
    · rw [if_pos (by omega), if_pos (by omega), if_pos (by omega), wrap_succ (by omega), ih (i + 1) (by omega) (by omega), (show xs.drop i = rd_Var xs i :: xs.drop (i + 1) from getD_drop z_Var xs i h)]
      simp only [getGo]
      by_cases hc : (rd_Var xs (i : Int)).f0.toList = nm.toList
      · rw [if_pos hc, if_pos hc]
      · rw [if_neg hc, if_neg hc]
    · rw [if_neg (by omega), List.drop_eq_nil_of_le (by omega)]; rfl
theorem ref_get (nm : ByteArray) (xs : List S_Var) (hl : xs.length < 1000) {k : Nat} (hk : 1000 ≤ k) : jobshellref15_Get.f k xs nm = some (getGo nm xs) :=
  ref_get_go nm xs hl k 0 (by omega) (by omega)
theorem vars_get (nm : ByteArray) (xs : List S_Var) (hl : xs.length < 1000) {k : Nat} (hk : 1000 ≤ k) : vars_Get.f k xs nm = some (getGo nm xs) :=
  vars_get_go nm xs hl k 0 (by omega) (by omega)
theorem digit_eq (x : Int) : jobshellref01_Digit.f x = some (isDig x) := by
  unfold jobshellref01_Digit.f isDig
  by_cases h : x ≥ 48
  · rw [if_pos h, decide_eq_true (show 48 ≤ x from h), Bool.true_and]
  · rw [if_neg h, decide_eq_false (show ¬ 48 ≤ x from h), Bool.false_and]
theorem letter_eq (x : Int) : jobshellref01_Letter.f x = some (isLet x) := by
  unfold jobshellref01_Letter.f isLet
  by_cases h1 : x ≥ 97 <;> by_cases h2 : x ≤ 122 <;> by_cases h3 : x ≥ 65 <;> by_cases h4 : x ≤ 90 <;> simp [h1, h2, h3, h4] <;> omega
theorem word_eq (x : Int) : jobshellref01_Word.f x = some (nameCh false x) := by
  unfold jobshellref01_Word.f nameCh
  rw [letter_eq, digit_eq]
  cases isLet x <;> cases isDig x <;> cases h : x == 95 <;> simp [h]
theorem name_go (s : ByteArray) (hl : s.size < 1000) : ∀ (k i : Nat), i ≤ s.size → s.size - i < k → jobshellref01_Name.l0 k s i = some (nameGo (s.data.toList.drop i) false) := by
  intro k
  induction k with
  | zero => intro i _ h; omega
  | succ k ih =>
    intro i hi hk
    rw [jobshellref01_Name.l0]
    by_cases h : i < s.size
    · obtain ⟨c, hc, hb⟩ := bt_drop s i h
      rw [if_pos (by omega), if_pos (by omega), wrap_succ (by omega), ih (i + 1) (by omega) (by omega), hc, hb, word_eq]
      simp only [Option.bind_some, nameGo]
      split <;> rfl
    · rw [if_neg (by omega), List.drop_eq_nil_of_le (by simp; omega)]; rfl
theorem name_eq (s : ByteArray) {k : Nat} (hk : 1000 ≤ k) : jobshellref01_Name.f k s = chars_Name.f s := by
  unfold jobshellref01_Name.f chars_Name.f
  obtain ⟨m, rfl⟩ := succ_of (show 0 < k by omega)
  by_cases h0 : s.size = 0
  · rw [if_pos ((nil_iff s).2 h0), if_pos h0]; rfl
  · rw [if_neg (fun h => h0 ((nil_iff s).1 h)), if_neg h0]
    by_cases h1 : 32 < s.size
    · rw [if_pos (by omega), if_pos h1]; rfl
    · rw [if_neg (by omega), if_neg h1, if_pos (by omega), digit_eq, Option.bind_some]
      obtain ⟨c, hc, hb⟩ := bt_drop s 0 (by omega)
      have hb' : bt s 0 = (c.toNat : Int) := hb
      rw [List.drop_zero] at hc
      obtain ⟨r, hr⟩ : ∃ r, s.data.toList = c :: r := ⟨_, hc⟩
      clear hc
      rw [jobshellref01_Name.j0, hb', hr]
      by_cases hd : isDig (c.toNat : Int) = true
      · rw [if_pos hd]
        have hl : isLet (c.toNat : Int) = false := by unfold isDig at hd; unfold isLet; simp at hd ⊢; omega
        have h95 : ((c.toNat : Int) == 95) = false := by unfold isDig at hd; simp at hd ⊢; omega
        simp only [nameGo, nameCh, hl, h95, Bool.not_true, Bool.false_and, Bool.or_false, Bool.false_eq_true, if_false]
      · rw [if_neg hd, show (0 : Int) = ((0 : Nat) : Int) from rfl, name_go s (by omega) m 0 (by omega) (by omega), List.drop_zero, hr]
        have hd' : isDig (c.toNat : Int) = false := by simpa using hd
        simp only [nameGo, nameCh, hd', Bool.and_false, Bool.or_false]
theorem dig_none : ∀ (l : List UInt8) (n : Int), digGo l n = none ∨ ∃ m, digGo l n = some m := by
  intro l n; cases digGo l n with
  | none => exact .inl rfl
  | some m => exact .inr ⟨m, rfl⟩
theorem dig_go (s : ByteArray) (hl : s.size ≤ 10) : ∀ (k i : Nat) (n : Int), i ≤ s.size → s.size - i < k → 0 ≤ n → n < 10 ^ i → jobshellref01_Digits.l0 k s n i = some (match digGo (s.data.toList.drop i) n with | none => (0, false) | some n => if n > 2147483647 then (0, false) else (n, true)) := by
  intro k
  induction k with
  | zero => intro i n _ h; omega
  | succ k ih =>
    intro i n hi hk hn0 hn1
    rw [jobshellref01_Digits.l0]
    by_cases h : i < s.size
    · obtain ⟨c, hc, hb⟩ := bt_drop s i h
      have hp : n < 10000000000 := by
        have : (10 : Int) ^ i ≤ 10 ^ 10 := by
          have := Nat.pow_le_pow_right (show 0 < 10 by omega) (show i ≤ 10 by omega)
          exact_mod_cast this
        omega
      have hc255 : c.toNat < 256 := c.toNat_lt
      rw [if_pos (by omega), if_pos (by omega), wrap_succ (by omega), hc, hb, digit_eq, Option.bind_some]
      by_cases hd : isDig (c.toNat : Int) = true
      · have hd2 : 48 ≤ (c.toNat : Int) ∧ (c.toNat : Int) ≤ 57 := by unfold isDig at hd; simpa using hd
        rw [if_pos hd, wrap_id (i := 10 * n) (by omega) (by omega), Int.emod_eq_of_lt (by omega) (by omega), wrap_id (by omega) (by omega)]
        rw [ih (i + 1) _ (by omega) (by omega) (by omega) (by rw [Int.pow_succ]; omega)]
        simp only [digGo, if_pos hd2]
      · rw [if_neg hd]
        have hd2 : ¬ (48 ≤ (c.toNat : Int) ∧ (c.toNat : Int) ≤ 57) := by unfold isDig at hd; simpa using hd
        simp only [digGo, if_neg hd2]
    · rw [if_neg (by omega), List.drop_eq_nil_of_le (by simp; omega)]
      simp only [digGo]
      split <;> rfl
theorem digits_eq (s : ByteArray) {k : Nat} (hk : 1000 ≤ k) : jobshellref01_Digits.f k s = chars_Digits.f s := by
  unfold jobshellref01_Digits.f chars_Digits.f
  obtain ⟨m, rfl⟩ := succ_of (show 0 < k by omega)
  by_cases h0 : s.size = 0
  · rw [if_pos ((nil_iff s).2 h0), if_pos h0]; rfl
  · rw [if_neg (fun h => h0 ((nil_iff s).1 h)), if_neg h0]
    by_cases h1 : 10 < s.size
    · rw [if_pos (by omega), if_pos h1]; rfl
    · have hgo := dig_go s (by omega) m 0 0 (by omega) (by omega) (by omega) (by simp)
      rw [List.drop_zero] at hgo
      rw [if_neg (by omega), if_neg h1, if_pos (by omega)]
      by_cases h2 : bt s 0 = 48
      · by_cases h3 : 1 < s.size
        · rw [if_pos h2, if_pos ⟨h3, h2⟩, decide_eq_true (by omega)]; rfl
        · rw [if_pos h2, if_neg (fun h => h3 h.1), decide_eq_false (by omega), jobshellref01_Digits.j0, if_neg (by simp)]
          exact hgo
      · rw [if_neg h2, if_neg (fun h => h2 h.2), jobshellref01_Digits.j0, if_neg (by simp)]
        exact hgo
def posOf (s : ByteArray) : Int := match chars_Digits.f s with | some (n, true) => n | _ => 0
theorem digits_some (s : ByteArray) : ∃ p, chars_Digits.f s = some p ∧ (p.2 = true → 0 ≤ p.1 ∧ p.1 ≤ 2147483647 ∧ 0 < s.size ∧ (bt s 0 = 48 → p.1 = 0)) := by
  unfold chars_Digits.f
  split
  · exact ⟨_, rfl, fun h => by cases h⟩
  split
  · exact ⟨_, rfl, fun h => by cases h⟩
  split
  · exact ⟨_, rfl, fun h => by cases h⟩
  rename_i h0 h1 h2
  cases hg : digGo s.data.toList 0 with
  | none => exact ⟨_, rfl, fun h => by cases h⟩
  | some n =>
    simp only
    split
    · exact ⟨_, rfl, fun h => by cases h⟩
    · refine ⟨_, rfl, fun _ => ⟨?_, by omega, by omega, fun hz => ?_⟩⟩
      · have : ∀ (l : List UInt8) (a b : Int), 0 ≤ a → digGo l a = some b → 0 ≤ b := by
          intro l
          induction l with
          | nil => intro a b h e; obtain rfl := Option.some.inj e; exact h
          | cons c r ih =>
            intro a b h e
            simp only [digGo] at e
            split at e
            · exact ih _ _ (by omega) e
            · cases e
        exact this _ _ _ (by omega) hg
      · have h3 : s.size = 1 := by omega
        obtain ⟨c, hc, hb⟩ := bt_drop s 0 (by omega)
        rw [List.drop_zero, List.drop_eq_nil_of_le (i := 0 + 1) (by simp; omega)] at hc
        have hb' : bt s 0 = (c.toNat : Int) := hb
        rw [hc] at hg
        simp only [digGo] at hg
        split at hg
        · have := Option.some.inj hg; omega
        · cases hg
theorem positional_eq (s : ByteArray) {k : Nat} (hk : 1000 ≤ k) : jobshellref17_positional.f k s = some (posOf s) := by
  unfold jobshellref17_positional.f posOf
  rw [digits_eq s hk]
  obtain ⟨⟨n, b⟩, hp, hh⟩ := digits_some s
  rw [hp, Option.bind_some]
  cases b with
  | false => rfl
  | true =>
    obtain ⟨h0, h1, h2, h3⟩ := hh rfl
    simp only [if_true]
    simp only at h0 h1 h3
    by_cases h4 : n < 1
    · rw [if_pos h4]; congr 1; omega
    · rw [if_neg h4, if_neg (by omega), if_pos (by omega), if_neg (fun h => by have := h3 h; omega)]
theorem position_eq (s : ByteArray) : ∃ n b, param_position.f s = some (n, b) ∧ (b = true → n = posOf s ∧ 0 < n ∧ n ≤ 2147483647) ∧ (b = false → posOf s = 0) := by
  unfold param_position.f posOf
  obtain ⟨⟨n, b⟩, hp, hh⟩ := digits_some s
  rw [hp, Option.bind_some]
  cases b with
  | false => exact ⟨_, _, rfl, (fun h => by cases h), fun _ => rfl⟩
  | true =>
    obtain ⟨h0, h1, h2, h3⟩ := hh rfl
    simp only at h0 h1
    refine ⟨n, decide (n > 0), rfl, fun h => ⟨rfl, of_decide_eq_true h, h1⟩, fun h => ?_⟩
    have := of_decide_eq_false h
    show n = 0
    omega
theorem pos_range (s : ByteArray) : 0 ≤ posOf s ∧ posOf s ≤ 2147483647 := by
  obtain ⟨n, b, _, h1, h2⟩ := position_eq s
  cases b with
  | false => rw [h2 rfl]; omega
  | true => obtain ⟨e, h3, h4⟩ := h1 rfl; omega
end Go.Proofs.YtiacdccnifjcjaaDoor.Pure
set_option linter.unusedVariables false
set_option linter.unusedSimpArgs false
namespace Go.Proofs.YtiacdccnifjcjaaDoor.Pure
open Go.RowKit Go.Proofs.YtiacdccnifjcjaaDoor.F Go.Proofs.YtiacdccnifjcjaaDoorW.PrintWords
theorem one_num (d : Nat) (h : d < 10) : strOfNums [(IntKind.u64.wrap (48 + (d : Int))) % 256] = ba [UInt8.ofNat (48 + d)] := by
  rw [IntWalk.u64_in _ ⟨by omega, by omega⟩, Int.emod_eq_of_lt (by omega) (by omega)]
  unfold strOfNums ba
  simp only [List.map_cons, List.map_nil]
  rw [show (48 + (d : Int)).toNat = 48 + d by omega]
theorem digits_go : ∀ (n : Nat) (f k : Nat) (acc : List UInt8), n < 10 ^ f → f < 21 → acc.length + f ≤ 100 → n ≤ 18446744073709551615 → f + 1 ≤ k → jobshellref05_digits.l0 k (n : Int) (ba acc) = some (ba (Lib.decDigits n ++ acc)) := by
  intro n
  induction n using Nat.strongRecOn with
  | _ n ih =>
    intro f k acc hf hf2 ha hn hk
    obtain ⟨m, rfl⟩ : ∃ m, k = m + 1 := ⟨k - 1, by omega⟩
    rw [jobshellref05_digits.l0]
    by_cases h : n < 10
    · rw [if_neg (by omega), Option.bind_some, one_num n h, ba_append, ba_size, ba_size, if_pos (by simp; omega), Lib.decDigits_one h]
    · obtain ⟨g, rfl⟩ : ∃ g, f = g + 1 := by
        cases f with
        | zero => simp at hf; omega
        | succ g => exact ⟨g, rfl⟩
      have hg : n / 10 < 10 ^ g := by rw [Nat.pow_succ] at hf; omega
      rw [if_pos (by omega), Option.bind_some, Int.tmod_eq_emod_of_nonneg (by omega), Int.tdiv_eq_ediv_of_nonneg (by omega)]
      rw [show ((n : Int) % 10) = ((n % 10 : Nat) : Int) by omega, show ((n : Int) / 10) = ((n / 10 : Nat) : Int) by omega]
      rw [one_num (n % 10) (by omega), ba_append, ba_size, ba_size, if_pos (by simp; omega), IntWalk.u64_in _ ⟨by omega, by omega⟩]
      rw [ih (n / 10) (by omega) g m _ hg (by omega) (by simp; omega) (by omega) (by omega)]
      have e : Lib.decDigits n = Lib.decDigits (n / 10) ++ [UInt8.ofNat (48 + n % 10)] := by rw [Lib.decDigits, dif_neg h]
      rw [e, List.append_assoc]
theorem digits05 (n : Nat) (hn : n ≤ 18446744073709551615) {k : Nat} (hk : 100 ≤ k) : jobshellref05_digits.f k (n : Int) = some (ba (Lib.decDigits n)) := by
  have := digits_go n 20 k [] (by omega) (by omega) (by simp) hn (by omega)
  rw [List.append_nil] at this
  exact this
theorem decimal_eq (n : Int) (h0 : -9223372036854775808 ≤ n) (h1 : n ≤ 9223372036854775807) {k : Nat} (hk : 100 ≤ k) : jobshellref05_Decimal.f k n = some (ba (Lib.itoa n)) := by
  unfold jobshellref05_Decimal.f
  by_cases h : n < 0
  · rw [if_pos h]
    have e1 : wrap64 (-(wrap64 (n + 1))) = -(n + 1) := by rw [wrap_id (i := n + 1) (by omega) (by omega), wrap_id (by omega) (by omega)]
    have e2 : IntKind.u64.wrap (IntKind.u64.wrap (-(n + 1)) + 1) = (n.natAbs : Int) := by
      rw [IntWalk.u64_in (-(n + 1)) ⟨by omega, by omega⟩, IntWalk.u64_in _ ⟨by omega, by omega⟩]; omega
    have hl := Lib.decDigits_length n.natAbs
    have hl2 : Lib.nDigits n.natAbs ≤ 100 := by
      have := Lib.nDigits_unique
      have h3 : ∀ (f u : Nat), u < 10 ^ f → 1 ≤ f → Lib.nDigits u ≤ f := by
        intro f
        induction f with
        | zero => intro u _ h; omega
        | succ f ihf =>
          intro u hu _
          by_cases h10 : u < 10
          · rw [Lib.nDigits_small h10]; omega
          · rw [Lib.nDigits_big h10]
            have hf0 : 1 ≤ f := by
              cases f with
              | zero => simp at hu; omega
              | succ f => omega
            have := ihf (u / 10) (by rw [Nat.pow_succ] at hu; omega) hf0
            omega
      have := h3 20 n.natAbs (by omega) (by omega)
      omega
    rw [e1, e2, digits05 n.natAbs (by omega) hk, Option.bind_some, ba_size, if_pos (by omega)]
    have e3 : Lib.itoa n = 45 :: Lib.decDigits n.natAbs := by unfold Lib.itoa; rw [if_pos h]
    rw [e3]
    exact congrArg some (ba_append [45] (Lib.decDigits n.natAbs))
  · rw [if_neg h]
    obtain ⟨m, rfl⟩ : ∃ m : Nat, n = m := ⟨n.toNat, by omega⟩
    rw [IntWalk.u64_in _ ⟨by omega, by omega⟩, digits05 m (by omega) hk, Option.bind_some, Lib.itoa_nonneg]
theorem itoa_eq (n : Int) (h0 : -9223372036854775808 ≤ n) (h1 : n ≤ 9223372036854775807) : strconv_Itoa.f n = some (ba (Lib.itoa n)) := by
  unfold strconv_Itoa.f; rw [if_pos ⟨h0, h1⟩]; rfl
theorem flags_eq (o : Int) {k : Nat} (hk : 20 ≤ k) : jobshellref17_Flags.f k o = param_flags.f o := by
  obtain ⟨m, rfl⟩ : ∃ m, k = m + 9 := ⟨k - 9, by omega⟩
  unfold jobshellref17_Flags.f param_flags.f
  have step : ∀ (i : Nat) (b : Int) (c : UInt8) (q : Nat) (acc : List UInt8), i < 8 → acc.length ≤ 100 → rd [32, 128, 1, 8, 64, 16, 2, 4] (i : Int) = b → (⟨#[97, 67, 101, 102, 109, 110, 117, 120]⟩ : ByteArray).extract i (i + 1) = ba [c] →
      jobshellref17_Flags.l0 (q + 1) o (⟨#[97, 67, 101, 102, 109, 110, 117, 120]⟩ : ByteArray) [32, 128, 1, 8, 64, 16, 2, 4] (ba acc) (i : Int) =
      jobshellref17_Flags.l0 q o (⟨#[97, 67, 101, 102, 109, 110, 117, 120]⟩ : ByteArray) [32, 128, 1, 8, 64, 16, 2, 4] (ba (acc ++ if Go.bits .and .i64 o b = 0 then [] else [c])) ((i + 1 : Nat) : Int) := by
    intro i b c q acc hi ha hb hc
    have hsz : ((⟨#[97, 67, 101, 102, 109, 110, 117, 120]⟩ : ByteArray).size : Int) = 8 := rfl
    rw [jobshellref17_Flags.l0, if_pos (by simp; omega), if_pos (by omega), hb, wrap_succ (by omega)]
    by_cases h : Go.bits .and .i64 o b = 0
    · rw [if_pos h, if_pos h, List.append_nil]
    · rw [if_neg h, if_neg h, if_pos (by omega), if_pos (by omega), Int.toNat_natCast, Int.toNat_natCast, hc, ba_size, ba_size, if_pos (by simp; omega), ba_append]
  have e0 : (⟨#[]⟩ : ByteArray) = ba [] := rfl
  have len1 : ∀ (c : UInt8) (b : Int), (if Go.bits .and .i64 o b = 0 then [] else [c]).length ≤ 1 := by intro c b; split <;> simp
  rw [e0, show (0 : Int) = ((0 : Nat) : Int) from rfl]
  rw [step 0 32 97 _ _ (by omega) (by simp) rfl (by decide +kernel)]
  rw [step 1 128 67 _ _ (by omega) (by have := len1 97 32; simp only [List.length_append, List.length_nil]; omega) rfl (by decide +kernel)]
  rw [step 2 1 101 _ _ (by omega) (by have := len1 97 32; have := len1 67 128; simp only [List.length_append, List.length_nil]; omega) rfl (by decide +kernel)]
  rw [step 3 8 102 _ _ (by omega) (by have := len1 97 32; have := len1 67 128; have := len1 101 1; simp only [List.length_append, List.length_nil]; omega) rfl (by decide +kernel)]
  rw [step 4 64 109 _ _ (by omega) (by have := len1 97 32; have := len1 67 128; have := len1 101 1; have := len1 102 8; simp only [List.length_append, List.length_nil]; omega) rfl (by decide +kernel)]
  rw [step 5 16 110 _ _ (by omega) (by have := len1 97 32; have := len1 67 128; have := len1 101 1; have := len1 102 8; have := len1 109 64; simp only [List.length_append, List.length_nil]; omega) rfl (by decide +kernel)]
  rw [step 6 2 117 _ _ (by omega) (by have := len1 97 32; have := len1 67 128; have := len1 101 1; have := len1 102 8; have := len1 109 64; have := len1 110 16; simp only [List.length_append, List.length_nil]; omega) rfl (by decide +kernel)]
  rw [step 7 4 120 _ _ (by omega) (by have := len1 97 32; have := len1 67 128; have := len1 101 1; have := len1 102 8; have := len1 109 64; have := len1 110 16; have := len1 117 2; simp only [List.length_append, List.length_nil]; omega) rfl (by decide +kernel)]
  rw [jobshellref17_Flags.l0, if_neg (by simp)]
  have fl : ∀ (x : Int × UInt8) (r : List (Int × UInt8)), flagsOf o (x :: r) = (if Go.bits .and .i64 o x.1 = 0 then [] else [x.2]) ++ flagsOf o r := by
    intro x r; simp only [flagsOf]; split <;> rfl
  show some (ba _) = some (ba (flagsOf o flagTab))
  unfold flagTab
  rw [fl, fl, fl, fl, fl, fl, fl, fl]
  simp only [List.nil_append, List.append_assoc, flagsOf, List.append_nil]
theorem ba_add (a : List UInt8) (s : ByteArray) : ba a ++ s = ba (a ++ s.data.toList) := by
  rw [← ba_append, ba_of]
theorem join_go (sep : ByteArray) (xs : List ByteArray) (hl : xs.length ≤ 20) (hx : ∀ x ∈ xs, x.size ≤ 500) (hsep : sep.size ≤ 1) :
    ∀ (d i k : Nat) (acc : List UInt8), i + d = xs.length → 0 < i → acc.length ≤ i * 501 → d < k → jobshellref17_Join.l0 k xs sep (ba acc) i = some (ba (acc ++ joinTail sep (xs.drop i))) := by
  intro d
  induction d with
  | zero =>
    intro i k acc hi h0 ha hk
    obtain ⟨m, rfl⟩ : ∃ m, k = m + 1 := ⟨k - 1, by omega⟩
    rw [jobshellref17_Join.l0, if_neg (by omega), List.drop_eq_nil_of_le (by omega)]
    simp [joinTail]
  | succ d ih =>
    intro i k acc hi h0 ha hk
    obtain ⟨m, rfl⟩ : ∃ m, k = m + 1 := ⟨k - 1, by omega⟩
    have hd : xs.drop i = rdOf ByteArray.empty xs (i : Int) :: xs.drop (i + 1) := getD_drop _ xs i (by omega)
    have hm := hx _ (List.mem_of_mem_drop (hd ▸ List.mem_cons_self) : rdOf ByteArray.empty xs (i : Int) ∈ xs)
    have hsd := size_data sep
    have hxd := size_data (rdOf ByteArray.empty xs (i : Int))
    rw [jobshellref17_Join.l0, if_pos (by omega), if_pos (by omega), ba_size, if_pos (by omega), if_pos (by omega), ba_add, ba_size, List.length_append, if_pos (by omega), ba_add, wrap_succ (by omega)]
    rw [ih (i + 1) m _ (by omega) (by omega) (by simp only [List.length_append]; omega) (by omega), hd]
    simp only [joinTail, List.append_assoc]
theorem join_len (sep : ByteArray) (xs : List ByteArray) (hl : xs.length ≤ 20) (hx : ∀ x ∈ xs, x.size ≤ 500) (hsep : sep.size ≤ 1) : (joinGo sep xs).length ≤ 20000 := by
  have key : ∀ ys : List ByteArray, (∀ x ∈ ys, x.size ≤ 500) → (joinTail sep ys).length ≤ ys.length * 501 := by
    intro ys
    induction ys with
    | nil => intro _; simp [joinTail]
    | cons y r ih =>
      intro h
      have h1 := h y List.mem_cons_self
      have h2 := ih (fun x hx => h x (List.mem_cons_of_mem _ hx))
      simp only [joinTail, List.length_append, List.length_cons, size_data]
      omega
  cases xs with
  | nil => simp [joinGo]
  | cons x r =>
    have h1 := hx x List.mem_cons_self
    have h2 := key r (fun y hy => hx y (List.mem_cons_of_mem _ hy))
    simp only [joinGo, List.length_append, size_data]
    simp only [List.length_cons] at hl
    omega
theorem join_eq (sep : ByteArray) (xs : List ByteArray) (hl : xs.length ≤ 20) (hx : ∀ x ∈ xs, x.size ≤ 500) (hsep : sep.size ≤ 1) {k : Nat} (hk : 100 ≤ k) :
    strings_Join.f xs sep = some (ba (joinGo sep xs)) ∧ jobshellref17_Join.f k xs sep = some (ba (joinGo sep xs)) := by
  refine ⟨by unfold strings_Join.f; rw [if_pos (by have := join_len sep xs hl hx hsep; omega)]; rfl, ?_⟩
  obtain ⟨m, rfl⟩ : ∃ m, k = m + 1 := ⟨k - 1, by omega⟩
  unfold jobshellref17_Join.f
  rw [jobshellref17_Join.l0]
  cases xs with
  | nil => rw [if_neg (by simp)]; rfl
  | cons x r =>
    have h1 := hx x List.mem_cons_self
    have e0 : rdOf ByteArray.empty (x :: r) 0 = x := rfl
    have hxd := size_data x
    rw [if_pos (by simp), if_neg (by omega), if_pos (by omega), e0, show (⟨#[]⟩ : ByteArray) = ba [] from rfl, ba_size, if_pos (by simp; omega), ba_add, show wrap64 (0 + 1) = ((1 : Nat) : Int) by rw [wrap_id (by omega) (by omega)]; rfl]
    rw [join_go sep (x :: r) hl hx hsep r.length 1 m _ (by simp; omega) (by omega) (by simp; omega) (by simp at hl; omega)]
    simp [joinGo]
theorem sep_eq (vs : List S_Var) (hl : vs.length ≤ 20) {k : Nat} (hk : 1000 ≤ k) : ∃ s, param_separator.f k vs = some s ∧ jobshellref17_Glue.f k vs = some s ∧ s.size ≤ 1 := by
  unfold param_separator.f jobshellref17_Glue.f
  simp only [vars_get _ vs (show vs.length < 1000 by omega) hk, ref_get _ vs (show vs.length < 1000 by omega) hk, Option.bind_some]
  generalize getGo (⟨#[73, 70, 83]⟩ : ByteArray) vs = g
  by_cases h1 : g.2.2.1 = true
  · rw [if_pos h1]
    by_cases h2 : g.2.1.size = 0
    · rw [if_pos ((nil_iff _).2 h2)]; exact ⟨_, rfl, rfl, by decide⟩
    · have h2' : ¬ g.2.1.toList = ([] : List UInt8) := fun e => h2 ((nil_iff _).1 e)
      rw [if_neg h2', if_pos (by omega), if_pos (by omega)]
      exact ⟨_, rfl, rfl, by rw [ByteArray.size_extract]; omega⟩
  · rw [if_neg h1]; exact ⟨_, rfl, rfl, by decide⟩
end Go.Proofs.YtiacdccnifjcjaaDoor.Pure
set_option linter.unusedVariables false
set_option linter.unusedSimpArgs false
namespace Go.Proofs.YtiacdccnifjcjaaDoor.Pure
open Go.RowKit Go.Proofs.YtiacdccnifjcjaaDoor.F Go.Proofs.YtiacdccnifjcjaaDoorW.PrintWords
structure Few (vs : List S_Var) (ps : List ByteArray) : Prop where
  vars : vs.length ≤ 20
  params : ps.length ≤ 20
  sizes : ∀ x ∈ ps, x.size ≤ 500
theorem wf_i64 {a : Int} (h : (Lit.int .i64 a).wf = true) : -9223372036854775808 ≤ a ∧ a ≤ 9223372036854775807 := by
  simp only [Lit.wf, Bool.and_eq_true, decide_eq_true_eq] at h
  exact ⟨h.1, h.2⟩
theorem of_bytes {s : ByteArray} {l : List UInt8} (h : s.toList = l) : s = ba l := by
  rw [Lib.toList_data] at h; rw [← h, ba_of]
theorem getGo_ok (nm : ByteArray) (vs : List S_Var) : (getGo nm vs).2.2.2.2.2 = false → (getGo nm vs).2.2.1 = false := by
  induction vs with
  | nil => intro _; rfl
  | cons v r ih =>
    intro h
    by_cases hn : v.f0.toList = nm.toList
    · rw [getGo, if_pos hn] at h; cases h
    · rw [getGo, if_neg hn] at h ⊢; exact ih h
theorem pos_name (s : ByteArray) (h : posOf s ≠ 0) : chars_Name.f s = some false := by
  obtain ⟨⟨n, b⟩, hp, hh⟩ := digits_some s
  unfold posOf at h
  rw [hp] at h
  cases b with
  | false => exact absurd rfl h
  | true =>
    obtain ⟨_, _, h2, _⟩ := hh rfl
    unfold chars_Name.f
    rw [if_neg (by omega)]
    split
    · rfl
    · unfold chars_Digits.f at hp
      obtain ⟨c, hc, _⟩ := bt_drop s 0 h2
      rw [List.drop_zero] at hc
      obtain ⟨r, hr⟩ : ∃ r, s.data.toList = c :: r := ⟨_, hc⟩
      rw [if_neg (by omega)] at hp
      split at hp
      · cases hp
      split at hp
      · cases hp
      rw [hr] at hp ⊢
      simp only [digGo] at hp
      split at hp
      · cases hp
      · rename_i m hm
        split at hm
        · rename_i hd
          have hl : isLet (c.toNat : Int) = false := by unfold isLet; simp; omega
          have h95 : ((c.toNat : Int) == 95) = false := beq_eq_false_iff_ne.2 (by omega)
          simp only [nameGo, nameCh, hl, h95, Bool.not_true, Bool.false_and, Bool.or_false, Bool.false_eq_true, if_false]
        · cases hm
theorem spec_off (c : UInt8) (h : chars_Name.f (ba [c]) = some false) (hd : chars_Digits.f (ba [c]) = some (0, false) ∨ chars_Digits.f (ba [c]) = some (0, true)) : posOf (ba [c]) = 0 := by
  unfold posOf
  rcases hd with h | h <;> rw [h]
set_option maxHeartbeats 1000000 in
theorem value_eq (n0 : ByteArray) (vs : List S_Var) (ps : List ByteArray) (o3 : Opq) (al : List S_Alias) (tr : List S_Trap) (i6 i7 i8 i9 : Int) (s10 : ByteArray) (i11 i12 i13 : Int) (b14 : Bool) (nm : ByteArray)
    (hF : Few vs ps) (h7 : (Lit.int .i64 i7).wf = true) (h8 : (Lit.int .i64 i8).wf = true) (h9 : (Lit.int .i64 i9).wf = true) {k : Nat} (hk : 2000 ≤ k) :
    ∃ r, param_Value.f k n0 vs ps o3 al tr i6 i7 i8 i9 s10 i11 i12 i13 b14 nm = some r ∧ jobshellref17_Value.f k n0 vs ps o3 al tr i6 i7 i8 i9 s10 i11 i12 i13 b14 nm = some r := by
  obtain ⟨hv, hp, hsz⟩ := hF
  have nf : ¬ (false = true) := by decide
  obtain ⟨h7a, h7b⟩ := wf_i64 h7
  obtain ⟨h8a, h8b⟩ := wf_i64 h8
  obtain ⟨h9a, h9b⟩ := wf_i64 h9
  obtain ⟨m, rfl⟩ : ∃ m, k = m + 2 := ⟨k - 2, by omega⟩
  have R : jobshellref17_Value.f (m + 2) n0 vs ps o3 al tr i6 i7 i8 i9 s10 i11 i12 i13 b14 nm = ((chars_Name.f nm).bind fun t240 => (if t240 = true then (if (getGo nm vs).2.2.1 = true then (some ((getGo nm vs).2.1, true)) else (some ((⟨#[]⟩ : ByteArray), false))) else (jobshellref17_Value.j0 (m + 2) nm (posOf nm) (decide (0 < posOf nm) && decide (posOf nm ≤ (ps.length : Int))) n0 vs ps o3 al tr i6 i7 i8 i9 s10 i11 i12 i13 b14))) := by
    unfold jobshellref17_Value.f
    rw [positional_eq nm (by omega), Option.bind_some, name_eq nm (by omega), ref_get nm vs (by omega) (by omega)]
    congr 1; funext t
    simp only [Option.bind_some]
    cases t with
    | true => rfl
    | false =>
      simp only [Bool.false_eq_true, if_false]
      by_cases h : posOf nm > 0
      · rw [if_pos h, decide_eq_true (show 0 < posOf nm from h), Bool.true_and]
      · rw [if_neg h, decide_eq_false (show ¬ 0 < posOf nm from h), Bool.false_and]
  rw [R]
  clear R
  unfold param_Value.f
  have P : ∀ c : UInt8, chars_Name.f (ba [c]) = some false → posOf (ba [c]) = 0 → ((chars_Name.f (ba [c])).bind fun t240 => (if t240 = true then (if (getGo (ba [c]) vs).2.2.1 = true then (some ((getGo (ba [c]) vs).2.1, true)) else (some ((⟨#[]⟩ : ByteArray), false))) else (jobshellref17_Value.j0 (m + 2) (ba [c]) (posOf (ba [c])) (decide (0 < posOf (ba [c])) && decide (posOf (ba [c]) ≤ (ps.length : Int))) n0 vs ps o3 al tr i6 i7 i8 i9 s10 i11 i12 i13 b14)))
      = jobshellref17_Value.j0 (m + 2) (ba [c]) 0 false n0 vs ps o3 al tr i6 i7 i8 i9 s10 i11 i12 i13 b14 := by
    intro c h1 h2
    rw [h1, h2, Option.bind_some, if_neg nf]; rfl
  by_cases c0 : nm.toList = ([48] : List UInt8)
  · obtain rfl := of_bytes c0
    rw [if_pos c0, P 48 (by decide +kernel) (by decide +kernel), jobshellref17_Value.j0, if_neg nf, if_pos c0]
    exact ⟨_, rfl, rfl⟩
  by_cases c1 : nm.toList = ([35] : List UInt8)
  · obtain rfl := of_bytes c1
    rw [if_neg c0, if_pos c1, P 35 (by decide +kernel) (by decide +kernel), jobshellref17_Value.j0, if_neg nf, if_neg c0, if_pos c1, decimal_eq _ (by omega) (by omega) (by omega), itoa_eq _ (by omega) (by omega)]
    exact ⟨_, rfl, rfl⟩
  by_cases c2 : nm.toList = ([63] : List UInt8)
  · obtain rfl := of_bytes c2
    rw [if_neg c0, if_neg c1, if_pos c2, P 63 (by decide +kernel) (by decide +kernel), jobshellref17_Value.j0, if_neg nf, if_neg c0, if_neg c1, if_pos c2, decimal_eq _ (by omega) (by omega) (by omega), itoa_eq _ (by omega) (by omega)]
    exact ⟨_, rfl, rfl⟩
  by_cases c3 : nm.toList = ([45] : List UInt8)
  · obtain rfl := of_bytes c3
    rw [if_neg c0, if_neg c1, if_neg c2, if_pos c3, P 45 (by decide +kernel) (by decide +kernel), jobshellref17_Value.j0, if_neg nf, if_neg c0, if_neg c1, if_neg c2, if_pos c3, flags_eq _ (by omega)]
    exact ⟨_, rfl, rfl⟩
  by_cases c4 : nm.toList = ([36] : List UInt8)
  · obtain rfl := of_bytes c4
    rw [if_neg c0, if_neg c1, if_neg c2, if_neg c3, if_pos c4, P 36 (by decide +kernel) (by decide +kernel), jobshellref17_Value.j0, if_neg nf, if_neg c0, if_neg c1, if_neg c2, if_neg c3, if_pos c4, decimal_eq _ (by omega) (by omega) (by omega), itoa_eq _ (by omega) (by omega)]
    exact ⟨_, rfl, rfl⟩
  by_cases c5 : nm.toList = ([33] : List UInt8)
  · obtain rfl := of_bytes c5
    rw [if_neg c0, if_neg c1, if_neg c2, if_neg c3, if_neg c4, if_pos c5, P 33 (by decide +kernel) (by decide +kernel), jobshellref17_Value.j0, if_neg nf, if_neg c0, if_neg c1, if_neg c2, if_neg c3, if_neg c4, if_pos c5, jobshellref17_Value.j1]
    by_cases h : i9 = 0
    · rw [if_pos h, h, if_neg (show ¬ ((0 : Int) != 0) = true by decide), if_neg (show ¬ (ba [33]).toList = ([64] : List UInt8) by decide +kernel), if_neg (show ¬ (ba [33]).toList = ([42] : List UInt8) by decide +kernel)]; exact ⟨_, rfl, rfl⟩
    · rw [if_neg h, bne_iff_ne.2 h, if_pos rfl, decimal_eq _ (by omega) (by omega) (by omega), itoa_eq _ (by omega) (by omega)]; exact ⟨_, rfl, rfl⟩
  by_cases c6 : nm.toList = ([64] : List UInt8)
  · obtain rfl := of_bytes c6
    obtain ⟨j1, j2⟩ := join_eq (⟨#[32]⟩ : ByteArray) ps hp hsz (by decide) (k := m) (by omega)
    rw [if_neg c0, if_neg c1, if_neg c2, if_neg c3, if_neg c4, if_neg c5, if_pos c6, P 64 (by decide +kernel) (by decide +kernel), jobshellref17_Value.j0, if_neg nf, if_neg c0, if_neg c1, if_neg c2, if_neg c3, if_neg c4, if_neg c5, jobshellref17_Value.j1, if_neg nf, if_pos c6, j1, j2]
    exact ⟨_, rfl, rfl⟩
  by_cases c7 : nm.toList = ([42] : List UInt8)
  · obtain rfl := of_bytes c7
    obtain ⟨s, s1, _, s3⟩ := sep_eq vs hv (k := m + 2) (by omega)
    obtain ⟨s', _, s2', s3'⟩ := sep_eq vs hv (k := m) (by omega)
    have : s' = s := by
      have e1 := s1
      have e2 : param_separator.f m vs = some s' := by
        obtain ⟨u, u1, u2, _⟩ := sep_eq vs hv (k := m) (by omega)
        rw [u1]; rw [u2] at s2'; exact s2'
      have e3 := at_rounds (g := fun k => param_separator.f k vs) (fun k => param_separator.mono _ k) (show m ≤ m + 2 by omega) e2
      exact Option.some.inj (e3.symm.trans e1)
    subst this
    obtain ⟨j1, j2⟩ := join_eq s' ps hp hsz s3 (k := m) (by omega)
    rw [if_neg c0, if_neg c1, if_neg c2, if_neg c3, if_neg c4, if_neg c5, if_neg c6, if_pos c7, P 42 (by decide +kernel) (by decide +kernel), jobshellref17_Value.j0, if_neg nf, if_neg c0, if_neg c1, if_neg c2, if_neg c3, if_neg c4, if_neg c5, jobshellref17_Value.j1, if_neg nf, if_neg c6, if_pos c7, s1, s2', Option.bind_some, Option.bind_some, j1, j2]
    exact ⟨_, rfl, rfl⟩
  have last : ∀ n, jobshellref17_Value.j0 (m + 2) nm n false n0 vs ps o3 al tr i6 i7 i8 i9 s10 i11 i12 i13 b14 = some ((⟨#[]⟩ : ByteArray), false) := by
    intro n
    rw [jobshellref17_Value.j0, if_neg nf, if_neg c0, if_neg c1, if_neg c2, if_neg c3, if_neg c4, if_neg c5, jobshellref17_Value.j1, if_neg nf, if_neg c6, if_neg c7]
  rw [if_neg c0, if_neg c1, if_neg c2, if_neg c3, if_neg c4, if_neg c5, if_neg c6, if_neg c7]
  obtain ⟨n, b, e, e1, e2⟩ := position_eq nm
  rw [e, Option.bind_some]
  simp only
  cases b with
  | true =>
    obtain ⟨rfl, g1, g2⟩ := e1 rfl
    rw [if_pos (rfl : true = true), pos_name nm (by omega), Option.bind_some, if_neg nf, decide_eq_true g1, Bool.true_and]
    by_cases h : posOf nm > (ps.length : Int)
    · rw [if_pos h, decide_eq_false (by omega), last]; exact ⟨_, rfl, rfl⟩
    · rw [if_neg h, decide_eq_true (by omega), jobshellref17_Value.j0, if_pos rfl, wrap_id (by omega) (by omega), if_pos (by omega), if_pos (by omega)]
      exact ⟨_, rfl, rfl⟩
  | false =>
    rw [e2 rfl, if_neg nf, vars_get nm vs (by omega) (by omega), Option.bind_some]
    have hd : (decide ((0 : Int) < 0) && decide ((0 : Int) ≤ (ps.length : Int))) = false := rfl
    rw [hd, last]
    obtain ⟨t, ht⟩ : ∃ t, chars_Name.f nm = some t := by
      unfold chars_Name.f; split
      · exact ⟨_, rfl⟩
      split <;> exact ⟨_, rfl⟩
    rw [ht]
    simp only [Option.bind_some]
    have hok := getGo_ok nm vs
    generalize getGo nm vs = g at hok ⊢
    obtain ⟨g1, g2, g3, g4, g5, g6⟩ := g
    simp only at hok ⊢
    cases g6 <;> cases g3 <;> cases t <;> simp at hok ⊢
end Go.Proofs.YtiacdccnifjcjaaDoor.Pure
namespace Go.Proofs.YtiacdccnifjcjaaDoor.F
open Go.RowKit Go.Proofs.YtiacdccnifjcjaaDoorW.PrintWords Go.Proofs.YtiacdccnifjcjaaDoorW.PrintLast Go.Proofs.YtiacdccnifjcjaaDoorW.PrintMore
attribute [local go_sem] max2_int min2_int max_two min_two max_three min_three max_four min_four
set_option linter.unusedVariables false
set_option linter.unusedSimpArgs false
def jobshellref48_digit.f (a0 : Int) : Option (Bool) := if a0 ≥ 48 then (some (decide (a0 ≤ 57))) else (some false)
set_option maxHeartbeats 8000000 in
set_option maxRecDepth 100000 in
theorem jobshellref48_digit.calls (a0 : Int) (r : Bool) (w : World) (h : jobshellref48_digit.f a0 = some r) :
  Calls Tryd.prog 39 #[.int .u8 a0] w fun e w' => e = .returned (.bool r) ∧ Drawn0 w w' := by
 have H : (if a0 ≥ 48 then (some (decide (a0 ≤ 57))) else (some false)) = some r := h
 clear h
 by_cases c2 : a0 ≥ 48
 ·rw [if_pos c2] at H
  have c2b0 : decide (48 ≤ a0) = true := decide_eq_true c2
  clear c2
  obtain rfl := Option.some.inj H
  go_enter Tryd.func39, Tryd.ntmps39
  go_wp2
  go_ret
  exact ⟨by first | rfl | (simp; done) | (simp [*]; done), by repeat (first | exact Drawn0.refl _ | apply Drawn0.step)⟩
 ·rw [if_neg c2] at H
  have c2b0 : decide (48 ≤ a0) = false := decide_eq_false c2
  clear c2
  obtain rfl := Option.some.inj H
  go_enter Tryd.func39, Tryd.ntmps39
  go_wp2
  go_ret
  exact ⟨by first | rfl | (simp; done) | (simp [*]; done), by repeat (first | exact Drawn0.refl _ | apply Drawn0.step)⟩
end Go.Proofs.YtiacdccnifjcjaaDoor.F
namespace Go.Proofs.YtiacdccnifjcjaaDoor.F
open Go.RowKit Go.Proofs.YtiacdccnifjcjaaDoorW.PrintWords Go.Proofs.YtiacdccnifjcjaaDoorW.PrintLast Go.Proofs.YtiacdccnifjcjaaDoorW.PrintMore
attribute [local go_sem] max2_int min2_int max_two min_two max_three min_three max_four min_four
set_option linter.unusedVariables false
set_option linter.unusedSimpArgs false
def jobshellref48_special.f (a0 : Int) : Option (Bool) := if a0 = 64 then (some true) else (if a0 = 42 then (some true) else (if a0 = 35 then (some true) else (if a0 = 63 then (some true) else (if a0 = 45 then (some true) else (if a0 = 36 then (some true) else (some (a0 == 33)))))))
set_option maxHeartbeats 8000000 in
set_option maxRecDepth 100000 in
theorem jobshellref48_special.calls (a0 : Int) (r : Bool) (w : World) (h : jobshellref48_special.f a0 = some r) :
  Calls Tryd.prog 40 #[.int .u8 a0] w fun e w' => e = .returned (.bool r) ∧ Drawn0 w w' := by
 have H : (if a0 = 64 then (some true) else (if a0 = 42 then (some true) else (if a0 = 35 then (some true) else (if a0 = 63 then (some true) else (if a0 = 45 then (some true) else (if a0 = 36 then (some true) else (some (a0 == 33)))))))) = some r := h
 clear h
 by_cases c2 : a0 = 64
 ·rw [if_pos c2] at H
  have c2b0 : (a0 == 64) = true := beq_iff_eq.mpr c2
  have c2b1 : (a0 != 64) = false := bne_eq_false_iff_eq.mpr c2
  clear c2
  obtain rfl := Option.some.inj H
  go_enter Tryd.func40, Tryd.ntmps40
  go_wp2
  go_ret
  exact ⟨by first | rfl | (simp; done) | (simp [*]; done), by repeat (first | exact Drawn0.refl _ | apply Drawn0.step)⟩
 ·rw [if_neg c2] at H
  have c2b0 : (a0 == 64) = false := beq_eq_false_iff_ne.mpr c2
  have c2b1 : (a0 != 64) = true := bne_iff_ne.mpr c2
  by_cases c3 : a0 = 42
  ·rw [if_pos c3] at H
   have c3b0 : (a0 == 42) = true := beq_iff_eq.mpr c3
   have c3b1 : (a0 != 42) = false := bne_eq_false_iff_eq.mpr c3
   clear c3
   obtain rfl := Option.some.inj H
   go_enter Tryd.func40, Tryd.ntmps40
   go_wp2
   go_ret
   exact ⟨by first | rfl | (simp; done) | (simp [*]; done), by repeat (first | exact Drawn0.refl _ | apply Drawn0.step)⟩
  ·rw [if_neg c3] at H
   have c3b0 : (a0 == 42) = false := beq_eq_false_iff_ne.mpr c3
   have c3b1 : (a0 != 42) = true := bne_iff_ne.mpr c3
   by_cases c4 : a0 = 35
   ·rw [if_pos c4] at H
    have c4b0 : (a0 == 35) = true := beq_iff_eq.mpr c4
    have c4b1 : (a0 != 35) = false := bne_eq_false_iff_eq.mpr c4
    clear c4
    obtain rfl := Option.some.inj H
    go_enter Tryd.func40, Tryd.ntmps40
    go_wp2
    go_ret
    exact ⟨by first | rfl | (simp; done) | (simp [*]; done), by repeat (first | exact Drawn0.refl _ | apply Drawn0.step)⟩
   ·rw [if_neg c4] at H
    have c4b0 : (a0 == 35) = false := beq_eq_false_iff_ne.mpr c4
    have c4b1 : (a0 != 35) = true := bne_iff_ne.mpr c4
    by_cases c5 : a0 = 63
    ·rw [if_pos c5] at H
     have c5b0 : (a0 == 63) = true := beq_iff_eq.mpr c5
     have c5b1 : (a0 != 63) = false := bne_eq_false_iff_eq.mpr c5
     clear c5
     obtain rfl := Option.some.inj H
     go_enter Tryd.func40, Tryd.ntmps40
     go_wp2
     go_ret
     exact ⟨by first | rfl | (simp; done) | (simp [*]; done), by repeat (first | exact Drawn0.refl _ | apply Drawn0.step)⟩
    ·rw [if_neg c5] at H
     have c5b0 : (a0 == 63) = false := beq_eq_false_iff_ne.mpr c5
     have c5b1 : (a0 != 63) = true := bne_iff_ne.mpr c5
     by_cases c6 : a0 = 45
     ·rw [if_pos c6] at H
      have c6b0 : (a0 == 45) = true := beq_iff_eq.mpr c6
      have c6b1 : (a0 != 45) = false := bne_eq_false_iff_eq.mpr c6
      clear c6
      obtain rfl := Option.some.inj H
      go_enter Tryd.func40, Tryd.ntmps40
      go_wp2
      go_ret
      exact ⟨by first | rfl | (simp; done) | (simp [*]; done), by repeat (first | exact Drawn0.refl _ | apply Drawn0.step)⟩
     ·rw [if_neg c6] at H
      have c6b0 : (a0 == 45) = false := beq_eq_false_iff_ne.mpr c6
      have c6b1 : (a0 != 45) = true := bne_iff_ne.mpr c6
      by_cases c7 : a0 = 36
      ·rw [if_pos c7] at H
       have c7b0 : (a0 == 36) = true := beq_iff_eq.mpr c7
       have c7b1 : (a0 != 36) = false := bne_eq_false_iff_eq.mpr c7
       clear c7
       obtain rfl := Option.some.inj H
       go_enter Tryd.func40, Tryd.ntmps40
       go_wp2
       go_ret
       exact ⟨by first | rfl | (simp; done) | (simp [*]; done), by repeat (first | exact Drawn0.refl _ | apply Drawn0.step)⟩
      ·rw [if_neg c7] at H
       have c7b0 : (a0 == 36) = false := beq_eq_false_iff_ne.mpr c7
       have c7b1 : (a0 != 36) = true := bne_iff_ne.mpr c7
       obtain rfl := Option.some.inj H
       go_enter Tryd.func40, Tryd.ntmps40
       go_wp2
       go_ret
       exact ⟨by first | rfl | (simp; done) | (simp [*]; done), by repeat (first | exact Drawn0.refl _ | apply Drawn0.step)⟩
end Go.Proofs.YtiacdccnifjcjaaDoor.F
namespace Go.Proofs.YtiacdccnifjcjaaDoor.F
open Go.RowKit Go.Proofs.YtiacdccnifjcjaaDoorW.PrintWords Go.Proofs.YtiacdccnifjcjaaDoorW.PrintLast Go.Proofs.YtiacdccnifjcjaaDoorW.PrintMore
attribute [local go_sem] max2_int min2_int max_two min_two max_three min_three max_four min_four
set_option linter.unusedVariables false
set_option linter.unusedSimpArgs false
def jobshellref48_letter.f (a0 : Int) : Option (Bool) := if a0 ≥ 97 then (if a0 ≤ 122 then (some true) else (if a0 ≥ 65 then (if a0 ≤ 90 then (some true) else (if a0 = 95 then (some true) else ((jobshellref48_digit.f a0).bind fun t231 => (some t231)))) else (if a0 = 95 then (some true) else ((jobshellref48_digit.f a0).bind fun t232 => (some t232))))) else (if a0 ≥ 65 then (if a0 ≤ 90 then (some true) else (if a0 = 95 then (some true) else ((jobshellref48_digit.f a0).bind fun t233 => (some t233)))) else (if a0 = 95 then (some true) else ((jobshellref48_digit.f a0).bind fun t234 => (some t234))))
set_option maxHeartbeats 8000000 in
set_option maxRecDepth 100000 in
theorem jobshellref48_letter.calls (a0 : Int) (r : Bool) (w : World) (h : jobshellref48_letter.f a0 = some r) :
  Calls Tryd.prog 41 #[.int .u8 a0] w fun e w' => e = .returned (.bool r) ∧ Drawn0 w w' := by
 have H : (if a0 ≥ 97 then (if a0 ≤ 122 then (some true) else (if a0 ≥ 65 then (if a0 ≤ 90 then (some true) else (if a0 = 95 then (some true) else ((jobshellref48_digit.f a0).bind fun t231 => (some t231)))) else (if a0 = 95 then (some true) else ((jobshellref48_digit.f a0).bind fun t232 => (some t232))))) else (if a0 ≥ 65 then (if a0 ≤ 90 then (some true) else (if a0 = 95 then (some true) else ((jobshellref48_digit.f a0).bind fun t233 => (some t233)))) else (if a0 = 95 then (some true) else ((jobshellref48_digit.f a0).bind fun t234 => (some t234))))) = some r := h
 clear h
 by_cases c2 : a0 ≥ 97
 ·rw [if_pos c2] at H
  have c2b0 : decide (97 ≤ a0) = true := decide_eq_true c2
  clear c2
  by_cases c3 : a0 ≤ 122
  ·rw [if_pos c3] at H
   have c3b0 : decide (a0 ≤ 122) = true := decide_eq_true c3
   clear c3
   obtain rfl := Option.some.inj H
   go_enter Tryd.func41, Tryd.ntmps41
   go_wp2
   go_ret
   exact ⟨by first | rfl | (simp; done) | (simp [*]; done), by repeat (first | exact Drawn0.refl _ | apply Drawn0.step)⟩
  ·rw [if_neg c3] at H
   have c3b0 : decide (a0 ≤ 122) = false := decide_eq_false c3
   clear c3
   by_cases c4 : a0 ≥ 65
   ·rw [if_pos c4] at H
    have c4b0 : decide (65 ≤ a0) = true := decide_eq_true c4
    clear c4
    by_cases c5 : a0 ≤ 90
    ·rw [if_pos c5] at H
     have c5b0 : decide (a0 ≤ 90) = true := decide_eq_true c5
     clear c5
     obtain rfl := Option.some.inj H
     go_enter Tryd.func41, Tryd.ntmps41
     go_wp2
     go_ret
     exact ⟨by first | rfl | (simp; done) | (simp [*]; done), by repeat (first | exact Drawn0.refl _ | apply Drawn0.step)⟩
    ·rw [if_neg c5] at H
     have c5b0 : decide (a0 ≤ 90) = false := decide_eq_false c5
     clear c5
     by_cases c6 : a0 = 95
     ·rw [if_pos c6] at H
      have c6b0 : (a0 == 95) = true := beq_iff_eq.mpr c6
      have c6b1 : (a0 != 95) = false := bne_eq_false_iff_eq.mpr c6
      clear c6
      obtain rfl := Option.some.inj H
      go_enter Tryd.func41, Tryd.ntmps41
      go_wp2
      go_ret
      exact ⟨by first | rfl | (simp; done) | (simp [*]; done), by repeat (first | exact Drawn0.refl _ | apply Drawn0.step)⟩
     ·rw [if_neg c6] at H
      have c6b0 : (a0 == 95) = false := beq_eq_false_iff_ne.mpr c6
      have c6b1 : (a0 != 95) = true := bne_iff_ne.mpr c6
      replace H := Option.bind_eq_some_iff.mp H
      obtain ⟨t231, A70, H⟩ := H
      replace H : (some t231) = some r := H
      have A7 := Aside0.mk A70
      clear A70
      obtain rfl := Option.some.inj H
      go_enter Tryd.func41, Tryd.ntmps41
      go_wp2_with (first | (go_at_call 39; (with_reducible refine (jobshellref48_digit.calls a0 t231 _ A7.out).mono ?_); rintro e w' ⟨rfl, ⟨nd, rfl⟩⟩))
      go_ret
      exact ⟨by first | rfl | (simp; done) | (simp [*]; done), by repeat (first | exact Drawn0.refl _ | apply Drawn0.step)⟩
   ·rw [if_neg c4] at H
    have c4b0 : decide (65 ≤ a0) = false := decide_eq_false c4
    clear c4
    by_cases c8 : a0 = 95
    ·rw [if_pos c8] at H
     have c8b0 : (a0 == 95) = true := beq_iff_eq.mpr c8
     have c8b1 : (a0 != 95) = false := bne_eq_false_iff_eq.mpr c8
     clear c8
     obtain rfl := Option.some.inj H
     go_enter Tryd.func41, Tryd.ntmps41
     go_wp2
     go_ret
     exact ⟨by first | rfl | (simp; done) | (simp [*]; done), by repeat (first | exact Drawn0.refl _ | apply Drawn0.step)⟩
    ·rw [if_neg c8] at H
     have c8b0 : (a0 == 95) = false := beq_eq_false_iff_ne.mpr c8
     have c8b1 : (a0 != 95) = true := bne_iff_ne.mpr c8
     replace H := Option.bind_eq_some_iff.mp H
     obtain ⟨t232, A90, H⟩ := H
     replace H : (some t232) = some r := H
     have A9 := Aside0.mk A90
     clear A90
     obtain rfl := Option.some.inj H
     go_enter Tryd.func41, Tryd.ntmps41
     go_wp2_with (first | (go_at_call 39; (with_reducible refine (jobshellref48_digit.calls a0 t232 _ A9.out).mono ?_); rintro e w' ⟨rfl, ⟨nd, rfl⟩⟩))
     go_ret
     exact ⟨by first | rfl | (simp; done) | (simp [*]; done), by repeat (first | exact Drawn0.refl _ | apply Drawn0.step)⟩
 ·rw [if_neg c2] at H
  have c2b0 : decide (97 ≤ a0) = false := decide_eq_false c2
  clear c2
  by_cases c10 : a0 ≥ 65
  ·rw [if_pos c10] at H
   have c10b0 : decide (65 ≤ a0) = true := decide_eq_true c10
   clear c10
   by_cases c11 : a0 ≤ 90
   ·rw [if_pos c11] at H
    have c11b0 : decide (a0 ≤ 90) = true := decide_eq_true c11
    clear c11
    obtain rfl := Option.some.inj H
    go_enter Tryd.func41, Tryd.ntmps41
    go_wp2
    go_ret
    exact ⟨by first | rfl | (simp; done) | (simp [*]; done), by repeat (first | exact Drawn0.refl _ | apply Drawn0.step)⟩
   ·rw [if_neg c11] at H
    have c11b0 : decide (a0 ≤ 90) = false := decide_eq_false c11
    clear c11
    by_cases c12 : a0 = 95
    ·rw [if_pos c12] at H
     have c12b0 : (a0 == 95) = true := beq_iff_eq.mpr c12
     have c12b1 : (a0 != 95) = false := bne_eq_false_iff_eq.mpr c12
     clear c12
     obtain rfl := Option.some.inj H
     go_enter Tryd.func41, Tryd.ntmps41
     go_wp2
     go_ret
     exact ⟨by first | rfl | (simp; done) | (simp [*]; done), by repeat (first | exact Drawn0.refl _ | apply Drawn0.step)⟩
    ·rw [if_neg c12] at H
     have c12b0 : (a0 == 95) = false := beq_eq_false_iff_ne.mpr c12
     have c12b1 : (a0 != 95) = true := bne_iff_ne.mpr c12
     replace H := Option.bind_eq_some_iff.mp H
     obtain ⟨t233, A130, H⟩ := H
     replace H : (some t233) = some r := H
     have A13 := Aside0.mk A130
     clear A130
     obtain rfl := Option.some.inj H
     go_enter Tryd.func41, Tryd.ntmps41
     go_wp2_with (first | (go_at_call 39; (with_reducible refine (jobshellref48_digit.calls a0 t233 _ A13.out).mono ?_); rintro e w' ⟨rfl, ⟨nd, rfl⟩⟩))
     go_ret
     exact ⟨by first | rfl | (simp; done) | (simp [*]; done), by repeat (first | exact Drawn0.refl _ | apply Drawn0.step)⟩
  ·rw [if_neg c10] at H
   have c10b0 : decide (65 ≤ a0) = false := decide_eq_false c10
   clear c10
   by_cases c14 : a0 = 95
   ·rw [if_pos c14] at H
    have c14b0 : (a0 == 95) = true := beq_iff_eq.mpr c14
    have c14b1 : (a0 != 95) = false := bne_eq_false_iff_eq.mpr c14
    clear c14
    obtain rfl := Option.some.inj H
    go_enter Tryd.func41, Tryd.ntmps41
    go_wp2
    go_ret
    exact ⟨by first | rfl | (simp; done) | (simp [*]; done), by repeat (first | exact Drawn0.refl _ | apply Drawn0.step)⟩
   ·rw [if_neg c14] at H
    have c14b0 : (a0 == 95) = false := beq_eq_false_iff_ne.mpr c14
    have c14b1 : (a0 != 95) = true := bne_iff_ne.mpr c14
    replace H := Option.bind_eq_some_iff.mp H
    obtain ⟨t234, A150, H⟩ := H
    replace H : (some t234) = some r := H
    have A15 := Aside0.mk A150
    clear A150
    obtain rfl := Option.some.inj H
    go_enter Tryd.func41, Tryd.ntmps41
    go_wp2_with (first | (go_at_call 39; (with_reducible refine (jobshellref48_digit.calls a0 t234 _ A15.out).mono ?_); rintro e w' ⟨rfl, ⟨nd, rfl⟩⟩))
    go_ret
    exact ⟨by first | rfl | (simp; done) | (simp [*]; done), by repeat (first | exact Drawn0.refl _ | apply Drawn0.step)⟩
end Go.Proofs.YtiacdccnifjcjaaDoor.F
namespace Go.Proofs.YtiacdccnifjcjaaDoor.F
open Go.RowKit Go.Proofs.YtiacdccnifjcjaaDoorW.PrintWords Go.Proofs.YtiacdccnifjcjaaDoorW.PrintLast Go.Proofs.YtiacdccnifjcjaaDoorW.PrintMore
attribute [local go_sem] max2_int min2_int max_two min_two max_three min_three max_four min_four
set_option linter.unusedVariables false
set_option linter.unusedSimpArgs false
def jobshellref48_name.l0 : Nat → ByteArray → Int → Option (Int)
 | 0, _, _ => none
 | k + 1, x0, x1 => if x1 < (x0.size : Int) then (if 0 ≤ x1 then ((jobshellref48_letter.f (bt x0 x1)).bind fun t235 => (if t235 = true then (jobshellref48_name.l0 k x0 (wrap64 (x1 + 1))) else (some x1))) else (none)) else (some x1)
def jobshellref48_name.f (k : Nat) (a0 : ByteArray) (a1 : Int) : Option (Int) := jobshellref48_name.l0 k a0 a1
theorem jobshellref48_name.mono_l : ∀ k, (∀ y0 y1, LeO (jobshellref48_name.l0 k y0 y1) (jobshellref48_name.l0 (k + 1) y0 y1))
 | 0 => fun _ _ r h => by simp [jobshellref48_name.l0] at h
 | k + 1 => by
  have ih0 := jobshellref48_name.mono_l k
  ·intro y0 y1
   unfold jobshellref48_name.l0
   repeat' first
   | (with_reducible exact ih0 _ _)
   | (with_reducible exact LeO.refl _)
   | (with_reducible exact LeO.none _)
   | (with_reducible refine LeO.ite ?_ ?_)
   | (with_reducible refine LeO.bind ?_ (fun _ => ?_))
   | exact ih0 _ _
   | exact LeO.none _
   | refine LeO.ite ?_ ?_
   | refine LeO.bind ?_ (fun _ => ?_)
theorem jobshellref48_name.mono : ∀ a0 a1 k, LeO (jobshellref48_name.f k a0 a1) (jobshellref48_name.f (k + 1) a0 a1) := by
 intro a0 a1 k
 have ih0 := jobshellref48_name.mono_l k
 unfold jobshellref48_name.f
 repeat' first
   | (with_reducible exact ih0 _ _)
   | (with_reducible exact LeO.refl _)
   | (with_reducible exact LeO.none _)
   | (with_reducible refine LeO.ite ?_ ?_)
   | (with_reducible refine LeO.bind ?_ (fun _ => ?_))
   | exact ih0 _ _
   | exact LeO.none _
   | refine LeO.ite ?_ ?_
   | refine LeO.bind ?_ (fun _ => ?_)
set_option maxHeartbeats 8000000 in
set_option maxRecDepth 100000 in
theorem jobshellref48_name.calls (k : Nat) (a0 : ByteArray) (a1 : Int) (r : Int) (w : World) (h : jobshellref48_name.f k a0 a1 = some r) :
  Calls Tryd.prog 42 #[.string a0, .int .i64 a1] w fun e w' => e = .returned (.int .i64 r) ∧ Drawn0 w w' := by
 have H : (jobshellref48_name.l0 k a0 a1) = some r := h
 clear h
 have H' := Aside0.mk H
 clear H
 go_enter Tryd.func42, Tryd.ntmps42
 go_wp2
 go_loopg [1] k (fun kq v1 w' => ∃ (x1_1 : Int), v1 = .int .i64 x1_1 ∧ Aside0 (jobshellref48_name.l0 kq a0 x1_1 = some r) ∧ Aside0 (kq ≤ k) ∧ Drawn0 w w')
 case atStart => exact ⟨(a1), (by first | rfl | (simp; done) | (simp [*]; done) | (simp [isE_ne]; done)), H', ⟨Nat.le_refl _⟩, by repeat (first | exact Drawn0.refl _ | apply Drawn0.step)⟩
 case round =>
  clear H'
  try clear p2
  obtain ⟨x1_1, rfl, HA, HK1, ⟨m1, rfl⟩⟩ := hrel
  cases gk with
  | zero => exact absurd HA.out (by simp [jobshellref48_name.l0])
  | succ k1 =>
   have H := HA.out
   clear HA
   simp only [jobshellref48_name.l0] at H
   by_cases c3 : x1_1 < (a0.size : Int)
   ·rw [if_pos c3] at H
    have c3b0 : decide (x1_1 < (a0.size : Int)) = true := decide_eq_true c3
    clear c3
    by_cases c4 : 0 ≤ x1_1
    ·rw [if_pos c4] at H
     have c4b0 : decide (0 ≤ x1_1) = true := decide_eq_true c4
     clear c4
     replace H := Option.bind_eq_some_iff.mp H
     obtain ⟨t235, A60, H⟩ := H
     replace H : (if t235 = true then (jobshellref48_name.l0 k1 a0 (wrap64 (x1_1 + 1))) else (some x1_1)) = some r := H
     have A6 := Aside0.mk A60
     clear A60
     by_cases c7 : t235 = true
     ·subst c7
      have H1 : (jobshellref48_name.l0 k1 a0 (wrap64 (x1_1 + 1))) = some r := by rw [if_pos rfl] at H; exact H
      clear H
      have H := H1
      clear H1
      have H' := Aside0.mk H
      clear H
      have p5 : 0 ≤ (x1_1 : Int) := of_decide_eq_true (by first | (with_reducible assumption) | assumption)
      have q5 : x1_1 < (a0.size : Int) := of_decide_eq_true (by first | (with_reducible assumption) | assumption)
      have hx5 := bt_at a0 x1_1
      replace p5 := eq_true p5
      replace q5 := eq_true q5
      go_wp2_with (first | (go_at_call 41; (with_reducible refine (jobshellref48_letter.calls (bt a0 x1_1) true _ A6.out).mono ?_); rintro e w' ⟨rfl, ⟨nd, rfl⟩⟩))
      go_roundg k1
      case measure => have := HK1.out; omega
      case rel => exact ⟨(wrap64 (x1_1 + 1)), (by first | rfl | (simp; done) | (simp [*]; done) | (simp [isE_ne]; done)), H', ⟨by have := HK1.out; omega⟩, by repeat (first | exact Drawn0.refl _ | apply Drawn0.step)⟩
     ·replace c7 := Bool.eq_false_iff.mpr c7
      subst c7
      have H1 : (some x1_1) = some r := by rw [if_neg (show ¬ (false = true) by decide)] at H; exact H
      clear H
      have H := H1
      clear H1
      obtain rfl := Option.some.inj H
      have p5 : 0 ≤ (x1_1 : Int) := of_decide_eq_true (by first | (with_reducible assumption) | assumption)
      have q5 : x1_1 < (a0.size : Int) := of_decide_eq_true (by first | (with_reducible assumption) | assumption)
      have hx5 := bt_at a0 x1_1
      replace p5 := eq_true p5
      replace q5 := eq_true q5
      go_wp2_with (first | (go_at_call 41; (with_reducible refine (jobshellref48_letter.calls (bt a0 x1_1) false _ A6.out).mono ?_); rintro e w' ⟨rfl, ⟨nd, rfl⟩⟩))
      go_ret
      exact ⟨by first | rfl | (simp; done) | (simp [*]; done), by repeat (first | exact Drawn0.refl _ | apply Drawn0.step)⟩
    ·rw [if_neg c4] at H
     exact absurd H (by simp)
   ·rw [if_neg c3] at H
    have c3b0 : decide (x1_1 < (a0.size : Int)) = false := decide_eq_false c3
    clear c3
    obtain rfl := Option.some.inj H
    go_wp2
    go_ret
    exact ⟨by first | rfl | (simp; done) | (simp [*]; done), by repeat (first | exact Drawn0.refl _ | apply Drawn0.step)⟩
end Go.Proofs.YtiacdccnifjcjaaDoor.F
namespace Go.Proofs.YtiacdccnifjcjaaDoor.F
open Go.RowKit Go.Proofs.YtiacdccnifjcjaaDoorW.PrintWords Go.Proofs.YtiacdccnifjcjaaDoorW.PrintLast Go.Proofs.YtiacdccnifjcjaaDoorW.PrintMore
attribute [local go_sem] max2_int min2_int max_two min_two max_three min_three max_four min_four
set_option linter.unusedVariables false
set_option linter.unusedSimpArgs false
mutual
def jobshellref48_parameter.j0 : Nat → ByteArray → Int → Int → Bool → Option (ByteArray × Int)
 | 0, _, _, _, _ => none
 | k + 1, x0, x1, x6, x24 => if x24 = true then (if 0 ≤ (wrap64 (x1 + 1)) then (if (wrap64 (x1 + 1)) ≤ (wrap64 (x1 + 2)) then (if (wrap64 (x1 + 2)) ≤ (x0.size : Int) then (some (x0.extract ((wrap64 (x1 + 1)) : Int).toNat ((wrap64 (x1 + 2)) : Int).toNat, wrap64 (x1 + 2))) else (none)) else (none)) else (none)) else ((jobshellref48_letter.f x6).bind fun t238 => (if t238 = true then ((jobshellref48_name.f k x0 (wrap64 (x1 + 1))).bind fun t239 => (if 0 ≤ (wrap64 (x1 + 1)) then (if (wrap64 (x1 + 1)) ≤ t239 then (if t239 ≤ (x0.size : Int) then (some (x0.extract ((wrap64 (x1 + 1)) : Int).toNat (t239 : Int).toNat, t239)) else (none)) else (none)) else (none))) else (if x6 = 123 then (jobshellref48_parameter.j1 k x0 x1 (decide ((wrap64 (x1 + 2)) ≥ (x0.size : Int)))) else (jobshellref48_parameter.j1 k x0 x1 true))))
def jobshellref48_parameter.j1 : Nat → ByteArray → Int → Bool → Option (ByteArray × Int)
 | 0, _, _, _ => none
 | k + 1, x0, x1, x53 => if x53 = true then (some ((⟨#[]⟩ : ByteArray), x1)) else ((jobshellref48_name.f k x0 (wrap64 (x1 + 2))).bind fun t240 => (if 0 ≤ (wrap64 (x1 + 2)) then (if (wrap64 (x1 + 2)) < (x0.size : Int) then ((jobshellref48_special.f (bt x0 (wrap64 (x1 + 2)))).bind fun t241 => (if t241 = true then (if (wrap64 (x1 + 3)) = (wrap64 (x1 + 2)) then (some ((⟨#[]⟩ : ByteArray), x1)) else (if (wrap64 (x1 + 3)) ≥ (x0.size : Int) then (some ((⟨#[]⟩ : ByteArray), x1)) else (if 0 ≤ (wrap64 (x1 + 3)) then (if (wrap64 (x1 + 3)) < (x0.size : Int) then (if (bt x0 (wrap64 (x1 + 3))) = 125 then (if (wrap64 (x1 + 2)) ≤ (wrap64 (x1 + 3)) then (if (wrap64 (x1 + 3)) ≤ (x0.size : Int) then (some (x0.extract ((wrap64 (x1 + 2)) : Int).toNat ((wrap64 (x1 + 3)) : Int).toNat, wrap64 ((wrap64 (x1 + 3)) + 1))) else (none)) else (none)) else (some ((⟨#[]⟩ : ByteArray), x1))) else (none)) else (none)))) else (if t240 = (wrap64 (x1 + 2)) then (some ((⟨#[]⟩ : ByteArray), x1)) else (if t240 ≥ (x0.size : Int) then (some ((⟨#[]⟩ : ByteArray), x1)) else (if 0 ≤ t240 then (if t240 < (x0.size : Int) then (if (bt x0 t240) = 125 then (if (wrap64 (x1 + 2)) ≤ t240 then (if t240 ≤ (x0.size : Int) then (some (x0.extract ((wrap64 (x1 + 2)) : Int).toNat (t240 : Int).toNat, wrap64 (t240 + 1))) else (none)) else (none)) else (some ((⟨#[]⟩ : ByteArray), x1))) else (none)) else (none)))))) else (none)) else (none)))
end
def jobshellref48_parameter.f (k : Nat) (a0 : ByteArray) (a1 : Int) : Option (ByteArray × Int) := if (wrap64 (a1 + 1)) ≥ (a0.size : Int) then (some ((⟨#[]⟩ : ByteArray), a1)) else (if 0 ≤ (wrap64 (a1 + 1)) then (if (wrap64 (a1 + 1)) < (a0.size : Int) then ((jobshellref48_digit.f (bt a0 (wrap64 (a1 + 1)))).bind fun t236 => (if t236 = true then (jobshellref48_parameter.j0 k a0 a1 (bt a0 (wrap64 (a1 + 1))) true) else ((jobshellref48_special.f (bt a0 (wrap64 (a1 + 1)))).bind fun t237 => (jobshellref48_parameter.j0 k a0 a1 (bt a0 (wrap64 (a1 + 1))) t237)))) else (none)) else (none))
theorem jobshellref48_parameter.mono_l : ∀ k, (∀ y0 y1 y2 y3, LeO (jobshellref48_parameter.j0 k y0 y1 y2 y3) (jobshellref48_parameter.j0 (k + 1) y0 y1 y2 y3)) ∧ (∀ y0 y1 y2, LeO (jobshellref48_parameter.j1 k y0 y1 y2) (jobshellref48_parameter.j1 (k + 1) y0 y1 y2))
 | 0 => ⟨fun _ _ _ _ r h => by simp [jobshellref48_parameter.j0] at h, fun _ _ _ r h => by simp [jobshellref48_parameter.j1] at h⟩
 | k + 1 => by
  obtain ⟨ih0, ih1⟩ := jobshellref48_parameter.mono_l k
  refine ⟨?_, ?_⟩
  ·intro y0 y1 y2 y3
   unfold jobshellref48_parameter.j0
   repeat' first
   | (with_reducible exact ih0 _ _ _ _)
   | (with_reducible exact ih1 _ _ _)
   | (with_reducible exact jobshellref48_name.mono _ _ _)
   | (with_reducible exact LeO.refl _)
   | (with_reducible exact LeO.none _)
   | (with_reducible refine LeO.ite ?_ ?_)
   | (with_reducible refine LeO.bind ?_ (fun _ => ?_))
   | exact ih0 _ _ _ _
   | exact ih1 _ _ _
   | exact jobshellref48_name.mono _ _ _
   | exact LeO.none _
   | refine LeO.ite ?_ ?_
   | refine LeO.bind ?_ (fun _ => ?_)
  ·intro y0 y1 y2
   unfold jobshellref48_parameter.j1
   repeat' first
   | (with_reducible exact ih0 _ _ _ _)
   | (with_reducible exact ih1 _ _ _)
   | (with_reducible exact jobshellref48_name.mono _ _ _)
   | (with_reducible exact LeO.refl _)
   | (with_reducible exact LeO.none _)
   | (with_reducible refine LeO.ite ?_ ?_)
   | (with_reducible refine LeO.bind ?_ (fun _ => ?_))
   | exact ih0 _ _ _ _
   | exact ih1 _ _ _
   | exact jobshellref48_name.mono _ _ _
   | exact LeO.none _
   | refine LeO.ite ?_ ?_
   | refine LeO.bind ?_ (fun _ => ?_)
theorem jobshellref48_parameter.mono : ∀ a0 a1 k, LeO (jobshellref48_parameter.f k a0 a1) (jobshellref48_parameter.f (k + 1) a0 a1) := by
 intro a0 a1 k
 obtain ⟨ih0, ih1⟩ := jobshellref48_parameter.mono_l k
 unfold jobshellref48_parameter.f
 repeat' first
   | (with_reducible exact ih0 _ _ _ _)
   | (with_reducible exact ih1 _ _ _)
   | (with_reducible exact jobshellref48_name.mono _ _ _)
   | (with_reducible exact LeO.refl _)
   | (with_reducible exact LeO.none _)
   | (with_reducible refine LeO.ite ?_ ?_)
   | (with_reducible refine LeO.bind ?_ (fun _ => ?_))
   | exact ih0 _ _ _ _
   | exact ih1 _ _ _
   | exact jobshellref48_name.mono _ _ _
   | exact LeO.none _
   | refine LeO.ite ?_ ?_
   | refine LeO.bind ?_ (fun _ => ?_)
set_option maxHeartbeats 8000000 in
set_option maxRecDepth 100000 in
theorem jobshellref48_parameter.calls (k : Nat) (a0 : ByteArray) (a1 : Int) (r1 : ByteArray) (r2 : Int) (w : World) (h : jobshellref48_parameter.f k a0 a1 = some (r1, r2)) :
  Calls Tryd.prog 24 #[.string a0, .int .i64 a1] w fun e w' => e = .returned (.tuple #[.string r1, .int .i64 r2]) ∧ Drawn0 w w' := by
 have H : (if (wrap64 (a1 + 1)) ≥ (a0.size : Int) then (some ((⟨#[]⟩ : ByteArray), a1)) else (if 0 ≤ (wrap64 (a1 + 1)) then (if (wrap64 (a1 + 1)) < (a0.size : Int) then ((jobshellref48_digit.f (bt a0 (wrap64 (a1 + 1)))).bind fun t236 => (if t236 = true then (jobshellref48_parameter.j0 k a0 a1 (bt a0 (wrap64 (a1 + 1))) true) else ((jobshellref48_special.f (bt a0 (wrap64 (a1 + 1)))).bind fun t237 => (jobshellref48_parameter.j0 k a0 a1 (bt a0 (wrap64 (a1 + 1))) t237)))) else (none)) else (none))) = some (r1, r2) := h
 clear h
 by_cases c3 : (wrap64 (a1 + 1)) ≥ (a0.size : Int)
 ·rw [if_pos c3] at H
  have c3b0 : decide ((a0.size : Int) ≤ (wrap64 (a1 + 1))) = true := decide_eq_true c3
  clear c3
  simp only [Option.some.injEq, Prod.mk.injEq] at H
  obtain ⟨rfl, rfl⟩ := H
  go_enter Tryd.func24, Tryd.ntmps24
  go_wp2
  go_ret2
  exact ⟨by first | rfl | (simp; done) | (simp [*]; done), by repeat (first | exact Drawn0.refl _ | apply Drawn0.step)⟩
 ·rw [if_neg c3] at H
  have c3b0 : decide ((a0.size : Int) ≤ (wrap64 (a1 + 1))) = false := decide_eq_false c3
  clear c3
  obtain ⟨ji4, hji4⟩ : ∃ j_ : Int, (wrap64 (a1 + 1)) = j_ := ⟨_, rfl⟩
  replace H : (if 0 ≤ (ji4) then (if (ji4) < (a0.size : Int) then ((jobshellref48_digit.f (bt a0 (ji4))).bind fun t236 => (if t236 = true then (jobshellref48_parameter.j0 k a0 a1 (bt a0 (ji4)) true) else ((jobshellref48_special.f (bt a0 (ji4))).bind fun t237 => (jobshellref48_parameter.j0 k a0 a1 (bt a0 (ji4)) t237)))) else (none)) else (none)) = some (r1, r2) := by first | (rw [hji4] at H; exact H) | (simp only [hji4] at H ⊢; exact H)
  (try rw [hji4] at c3b0)
  have hji4w : (IntKind.i64.wrap (a1 + 1)) = ji4 := (i64_w _).trans hji4
  by_cases c5 : 0 ≤ (ji4)
  ·rw [if_pos c5] at H
   have c5b0 : decide (0 ≤ (ji4)) = true := decide_eq_true c5
   clear c5
   by_cases c6 : (ji4) < (a0.size : Int)
   ·rw [if_pos c6] at H
    have c6b0 : decide ((ji4) < (a0.size : Int)) = true := decide_eq_true c6
    clear c6
    have HC8 := Aside0.mk H
    clear H
    have p7 : 0 ≤ ((ji4) : Int) := of_decide_eq_true (by first | (with_reducible assumption) | assumption)
    have q7 : (ji4) < (a0.size : Int) := of_decide_eq_true (by first | (with_reducible assumption) | assumption)
    have hx7 := bt_at a0 (ji4)
    replace p7 := eq_true p7
    replace q7 := eq_true q7
    go_enter Tryd.func24, Tryd.ntmps24
    go_upto_region 4 with (fail)
    go_cut [24] (fun v24 wc => ∃ (kq : Nat) (x24_7 : Bool), v24 = .bool x24_7 ∧ Aside0 (jobshellref48_parameter.j0 kq a0 a1 (bt a0 (ji4)) x24_7 = some (r1, r2)) ∧ Aside0 (kq ≤ k) ∧ Drawn0 w wc)
    case first =>
     have H := HC8.out
     clear HC8
     replace H := Option.bind_eq_some_iff.mp H
     obtain ⟨t236, A90, H⟩ := H
     replace H : (if t236 = true then (jobshellref48_parameter.j0 k a0 a1 (bt a0 (ji4)) true) else ((jobshellref48_special.f (bt a0 (ji4))).bind fun t237 => (jobshellref48_parameter.j0 k a0 a1 (bt a0 (ji4)) t237))) = some (r1, r2) := H
     have A9 := Aside0.mk A90
     clear A90
     by_cases c10 : t236 = true
     ·subst c10
      have H1 : (jobshellref48_parameter.j0 k a0 a1 (bt a0 (ji4)) true) = some (r1, r2) := by rw [if_pos rfl] at H; exact H
      clear H
      have H := H1
      clear H1
      have H' := Aside0.mk H
      clear H
      go_wp2_with (first | ((with_reducible refine gate_callee (f := 39) rfl ?_); refine goesL_ (some 20) rfl rfl Tryd.func39 (by kernel_rfl) rfl #[.int .u8 (bt a0 (ji4))] rfl (by (try simp only [List.map_toArray, List.map_cons, List.map_nil]); first | done | (simp only [hji4]; rfl) | rfl | (simp only [List.length_drop, List.length_take]; rfl)) ?_; (with_reducible refine (jobshellref48_digit.calls (bt a0 (ji4)) true _ A9.out).mono ?_); rintro e w' ⟨rfl, ⟨nd, rfl⟩⟩; refine ⟨_, rfl, ?_⟩))
      go_meet
      case rel => exact ⟨_, (true), (by first | rfl | (simp; done) | (simp [*]; done) | (simp [isE_ne]; done)), H', ⟨by first | omega | exact Nat.le_refl _⟩, by repeat (first | exact Drawn0.refl _ | apply Drawn0.step)⟩
     ·replace c10 := Bool.eq_false_iff.mpr c10
      subst c10
      have H1 : ((jobshellref48_special.f (bt a0 (ji4))).bind fun t237 => (jobshellref48_parameter.j0 k a0 a1 (bt a0 (ji4)) t237)) = some (r1, r2) := by rw [if_neg (show ¬ (false = true) by decide)] at H; exact H
      clear H
      have H := H1
      clear H1
      replace H := Option.bind_eq_some_iff.mp H
      obtain ⟨t237, A110, H⟩ := H
      replace H : (jobshellref48_parameter.j0 k a0 a1 (bt a0 (ji4)) t237) = some (r1, r2) := H
      have A11 := Aside0.mk A110
      clear A110
      have H' := Aside0.mk H
      clear H
      go_wp2_with (first | ((with_reducible refine gate_callee (f := 39) rfl ?_); refine goesL_ (some 20) rfl rfl Tryd.func39 (by kernel_rfl) rfl #[.int .u8 (bt a0 (ji4))] rfl (by (try simp only [List.map_toArray, List.map_cons, List.map_nil]); first | done | (simp only [hji4]; rfl) | rfl | (simp only [List.length_drop, List.length_take]; rfl)) ?_; (with_reducible refine (jobshellref48_digit.calls (bt a0 (ji4)) false _ A9.out).mono ?_); rintro e w' ⟨rfl, ⟨nd, rfl⟩⟩; refine ⟨_, rfl, ?_⟩) | (go_at_call 40; (with_reducible refine (jobshellref48_special.calls (bt a0 (ji4)) t237 _ A11.out).mono ?_); rintro e w' ⟨rfl, ⟨nd, rfl⟩⟩))
      go_meet
      case rel => exact ⟨_, (t237), (by first | rfl | (simp; done) | (simp [*]; done) | (simp [isE_ne]; done)), H', ⟨by first | omega | exact Nat.le_refl _⟩, by repeat (first | exact Drawn0.refl _ | apply Drawn0.step)⟩
    case rest =>
     clear HC8
     try clear c1
     try clear c2
     try clear p2
     try clear c3
     try clear c3b0
     try clear c5
     try clear c5b0
     try clear c6
     try clear c6b0
     try clear p6
     try clear p7
     try clear q7
     try clear hx7
     try clear c10
     try clear p7
     try clear q7
     obtain ⟨kq, x24_7, rfl, HA, HJ7, ⟨mc7, rfl⟩⟩ := hcut
     cases kq with
     | zero => exact absurd HA.out (by simp [jobshellref48_parameter.j0])
     | succ kj7 =>
      have H := HA.out
      clear HA
      simp only [jobshellref48_parameter.j0] at H
      by_cases c12 : x24_7 = true
      ·subst c12
       have H1 : (if 0 ≤ (wrap64 (a1 + 1)) then (if (wrap64 (a1 + 1)) ≤ (wrap64 (a1 + 2)) then (if (wrap64 (a1 + 2)) ≤ (a0.size : Int) then (some (a0.extract ((wrap64 (a1 + 1)) : Int).toNat ((wrap64 (a1 + 2)) : Int).toNat, wrap64 (a1 + 2))) else (none)) else (none)) else (none)) = some (r1, r2) := by rw [if_pos rfl] at H; exact H
       clear H
       have H := H1
       clear H1
       replace H : (if 0 ≤ (ji4) then (if (ji4) ≤ (wrap64 (a1 + 2)) then (if (wrap64 (a1 + 2)) ≤ (a0.size : Int) then (some (a0.extract ((ji4) : Int).toNat ((wrap64 (a1 + 2)) : Int).toNat, wrap64 (a1 + 2))) else (none)) else (none)) else (none)) = some (r1, r2) := by first | (rw [hji4] at H; exact H) | (simp only [hji4] at H ⊢; exact H)
       (try rw [hji4] at c3b0)
       by_cases c14 : 0 ≤ (ji4)
       ·rw [if_pos c14] at H
        have c14b0 := eq_true c14
        have c14b1 : decide (0 ≤ (ji4)) = true := decide_eq_true c14
        clear c14
        by_cases c15 : (ji4) ≤ (wrap64 (a1 + 2))
        ·rw [if_pos c15] at H
         have c15b0 := eq_true c15
         have c15b1 : decide ((ji4) ≤ (wrap64 (a1 + 2))) = true := decide_eq_true c15
         by_cases c16 : (wrap64 (a1 + 2)) ≤ (a0.size : Int)
         ·rw [if_pos c16] at H
          have c16b0 := eq_true c16
          have c16b1 : decide ((wrap64 (a1 + 2)) ≤ (a0.size : Int)) = true := decide_eq_true c16
          simp only [Option.some.injEq, Prod.mk.injEq] at H
          obtain ⟨rfl, rfl⟩ := H
          go_wp2
          go_ret2
          exact ⟨by first | rfl | (simp; done) | (simp only [← hji4, ← hji4] <;> (first | rfl | simp)) | (simp [*]; done), by repeat (first | exact Drawn0.refl _ | apply Drawn0.step)⟩
         ·rw [if_neg c16] at H
          exact absurd H (by simp)
        ·rw [if_neg c15] at H
         exact absurd H (by simp)
       ·rw [if_neg c14] at H
        exact absurd H (by simp)
      ·replace c12 := Bool.eq_false_iff.mpr c12
       subst c12
       have H1 : ((jobshellref48_letter.f (bt a0 (ji4))).bind fun t238 => (if t238 = true then ((jobshellref48_name.f kj7 a0 (wrap64 (a1 + 1))).bind fun t239 => (if 0 ≤ (wrap64 (a1 + 1)) then (if (wrap64 (a1 + 1)) ≤ t239 then (if t239 ≤ (a0.size : Int) then (some (a0.extract ((wrap64 (a1 + 1)) : Int).toNat (t239 : Int).toNat, t239)) else (none)) else (none)) else (none))) else (if (bt a0 (ji4)) = 123 then (jobshellref48_parameter.j1 kj7 a0 a1 (decide ((wrap64 (a1 + 2)) ≥ (a0.size : Int)))) else (jobshellref48_parameter.j1 kj7 a0 a1 true)))) = some (r1, r2) := by rw [if_neg (show ¬ (false = true) by decide)] at H; exact H
       clear H
       have H := H1
       clear H1
       replace H := Option.bind_eq_some_iff.mp H
       obtain ⟨t238, A170, H⟩ := H
       replace H : (if t238 = true then ((jobshellref48_name.f kj7 a0 (wrap64 (a1 + 1))).bind fun t239 => (if 0 ≤ (wrap64 (a1 + 1)) then (if (wrap64 (a1 + 1)) ≤ t239 then (if t239 ≤ (a0.size : Int) then (some (a0.extract ((wrap64 (a1 + 1)) : Int).toNat (t239 : Int).toNat, t239)) else (none)) else (none)) else (none))) else (if (bt a0 (ji4)) = 123 then (jobshellref48_parameter.j1 kj7 a0 a1 (decide ((wrap64 (a1 + 2)) ≥ (a0.size : Int)))) else (jobshellref48_parameter.j1 kj7 a0 a1 true))) = some (r1, r2) := H
       have A17 := Aside0.mk A170
       clear A170
       by_cases c18 : t238 = true
       ·subst c18
        have H1 : ((jobshellref48_name.f kj7 a0 (wrap64 (a1 + 1))).bind fun t239 => (if 0 ≤ (wrap64 (a1 + 1)) then (if (wrap64 (a1 + 1)) ≤ t239 then (if t239 ≤ (a0.size : Int) then (some (a0.extract ((wrap64 (a1 + 1)) : Int).toNat (t239 : Int).toNat, t239)) else (none)) else (none)) else (none))) = some (r1, r2) := by rw [if_pos rfl] at H; exact H
        clear H
        have H := H1
        clear H1
        replace H := Option.bind_eq_some_iff.mp H
        obtain ⟨t239, A190, H⟩ := H
        replace H : (if 0 ≤ (wrap64 (a1 + 1)) then (if (wrap64 (a1 + 1)) ≤ t239 then (if t239 ≤ (a0.size : Int) then (some (a0.extract ((wrap64 (a1 + 1)) : Int).toNat (t239 : Int).toNat, t239)) else (none)) else (none)) else (none)) = some (r1, r2) := H
        have A19 := Aside0.mk A190
        clear A190
        replace H : (if 0 ≤ (ji4) then (if (ji4) ≤ t239 then (if t239 ≤ (a0.size : Int) then (some (a0.extract ((ji4) : Int).toNat (t239 : Int).toNat, t239)) else (none)) else (none)) else (none)) = some (r1, r2) := by first | (rw [hji4] at H; exact H) | (simp only [hji4] at H ⊢; exact H)
        (try rw [hji4] at c3b0)
        (try rw [hji4] at A17)
        (try rw [hji4] at A19)
        by_cases c21 : 0 ≤ (ji4)
        ·rw [if_pos c21] at H
         have c21b0 := eq_true c21
         have c21b1 : decide (0 ≤ (ji4)) = true := decide_eq_true c21
         clear c21
         by_cases c22 : (ji4) ≤ t239
         ·rw [if_pos c22] at H
          have c22b0 := eq_true c22
          have c22b1 : decide ((ji4) ≤ t239) = true := decide_eq_true c22
          clear c22
          by_cases c23 : t239 ≤ (a0.size : Int)
          ·rw [if_pos c23] at H
           have c23b0 := eq_true c23
           have c23b1 : decide (t239 ≤ (a0.size : Int)) = true := decide_eq_true c23
           clear c23
           simp only [Option.some.injEq, Prod.mk.injEq] at H
           obtain ⟨rfl, rfl⟩ := H
           go_wp2_with (first | ((with_reducible refine gate_callee (f := 41) rfl ?_); refine goesL_ (some 34) rfl rfl Tryd.func41 (by kernel_rfl) rfl #[.int .u8 (bt a0 (ji4))] rfl (by (try simp only [List.map_toArray, List.map_cons, List.map_nil]); first | done | (simp only [hji4]; rfl) | rfl | (simp only [List.length_drop, List.length_take]; rfl)) ?_; (with_reducible refine (jobshellref48_letter.calls (bt a0 (ji4)) true _ A17.out).mono ?_); rintro e w' ⟨rfl, ⟨nd, rfl⟩⟩; refine ⟨_, rfl, ?_⟩) | ((with_reducible refine gate_callee (f := 42) rfl ?_); refine goesL_ (some 38) rfl rfl Tryd.func42 (by kernel_rfl) rfl #[.string a0, .int .i64 ji4] rfl (by (try simp only [List.map_toArray, List.map_cons, List.map_nil]); first | done | (simp only [hji4]; rfl) | rfl | (simp only [List.length_drop, List.length_take]; rfl)) ?_; (with_reducible refine (jobshellref48_name.calls kj7 a0 ji4 t239 _ A19.out).mono ?_); rintro e w' ⟨rfl, ⟨nd, rfl⟩⟩; refine ⟨_, rfl, ?_⟩))
           go_ret2
           exact ⟨by first | rfl | (simp; done) | (simp only [← hji4, ← hji4] <;> (first | rfl | simp)) | (simp [*]; done), by repeat (first | exact Drawn0.refl _ | apply Drawn0.step)⟩
          ·rw [if_neg c23] at H
           exact absurd H (by simp)
         ·rw [if_neg c22] at H
          exact absurd H (by simp)
        ·rw [if_neg c21] at H
         exact absurd H (by simp)
       ·replace c18 := Bool.eq_false_iff.mpr c18
        subst c18
        have H1 : (if (bt a0 (ji4)) = 123 then (jobshellref48_parameter.j1 kj7 a0 a1 (decide ((wrap64 (a1 + 2)) ≥ (a0.size : Int)))) else (jobshellref48_parameter.j1 kj7 a0 a1 true)) = some (r1, r2) := by rw [if_neg (show ¬ (false = true) by decide)] at H; exact H
        clear H
        have H := H1
        clear H1
        have HC24 := Aside0.mk H
        clear H
        go_upto_region 9 with (first | ((with_reducible refine gate_callee (f := 41) rfl ?_); refine goesL_ (some 34) rfl rfl Tryd.func41 (by kernel_rfl) rfl #[.int .u8 (bt a0 (ji4))] rfl (by (try simp only [List.map_toArray, List.map_cons, List.map_nil]); first | done | (simp only [hji4]; rfl) | rfl | (simp only [List.length_drop, List.length_take]; rfl)) ?_; (with_reducible refine (jobshellref48_letter.calls (bt a0 (ji4)) false _ A17.out).mono ?_); rintro e w' ⟨rfl, ⟨nd, rfl⟩⟩; refine ⟨_, rfl, ?_⟩))
        (try simp only [Act.put, List.setIfInBounds_toArray, List.set_cons_zero, List.set_cons_succ])
        go_cut [53] (fun v53 wc => ∃ (kq : Nat) (x53_23 : Bool), v53 = .bool x53_23 ∧ Aside0 (jobshellref48_parameter.j1 kq a0 a1 x53_23 = some (r1, r2)) ∧ Aside0 (kq ≤ kj7) ∧ Drawn0 w wc)
        case first =>
         have H := HC24.out
         clear HC24
         by_cases c25 : (bt a0 (ji4)) = 123
         ·rw [if_pos c25] at H
          have c25b0 : ((bt a0 (ji4)) == 123) = true := beq_iff_eq.mpr c25
          have c25b1 : ((bt a0 (ji4)) != 123) = false := bne_eq_false_iff_eq.mpr c25
          clear c25
          (first | rw [c25b0] | (simp only [i64_w, i32_w]; rw [c25b0]) | skip)
          have H' := Aside0.mk H
          clear H
          go_wp2
          go_meet
          case rel => exact ⟨_, (decide ((wrap64 (a1 + 2)) ≥ (a0.size : Int))), (by first | rfl | (simp; done) | (simp [*]; done) | (simp [isE_ne]; done)), H', ⟨by have := HJ7.out; first | omega | exact Nat.le_refl _⟩, by repeat (first | exact Drawn0.refl _ | apply Drawn0.step)⟩
         ·rw [if_neg c25] at H
          have c25b0 : ((bt a0 (ji4)) == 123) = false := beq_eq_false_iff_ne.mpr c25
          have c25b1 : ((bt a0 (ji4)) != 123) = true := bne_iff_ne.mpr c25
          (first | rw [c25b0] | (simp only [i64_w, i32_w]; rw [c25b0]) | skip)
          have H' := Aside0.mk H
          clear H
          go_wp2
          go_meet
          case rel => exact ⟨_, (true), (by first | rfl | (simp; done) | (simp [*]; done) | (simp [isE_ne]; done)), H', ⟨by have := HJ7.out; first | omega | exact Nat.le_refl _⟩, by repeat (first | exact Drawn0.refl _ | apply Drawn0.step)⟩
        case rest =>
         clear HC24
         try clear c1
         try clear c2
         try clear p2
         try clear c3
         try clear c3b0
         try clear c4
         try clear c5
         try clear c5b0
         try clear c6
         try clear c6b0
         try clear p6
         try clear c7
         try clear p7
         try clear q7
         try clear hx7
         try clear c10
         try clear c12
         try clear c14
         try clear c14b0
         try clear c14b1
         try clear c15
         try clear c15b0
         try clear c15b1
         try clear c16
         try clear c16b0
         try clear c16b1
         try clear c18
         try clear c21
         try clear c21b0
         try clear c21b1
         try clear c22
         try clear c22b0
         try clear c22b1
         try clear c23
         try clear c23b0
         try clear c23b1
         try clear c24
         try clear c25
         try clear c25b0
         try clear c25b1
         try clear p2
         try clear p6
         try clear p7
         try clear q7
         obtain ⟨kq, x53_23, rfl, HA, HJ23, ⟨mc23, rfl⟩⟩ := hcut
         cases kq with
         | zero => exact absurd HA.out (by simp [jobshellref48_parameter.j1])
         | succ kj23 =>
          have H := HA.out
          clear HA
          simp only [jobshellref48_parameter.j1] at H
          by_cases c26 : x53_23 = true
          ·subst c26
           have H1 : (some ((⟨#[]⟩ : ByteArray), a1)) = some (r1, r2) := by rw [if_pos rfl] at H; exact H
           clear H
           have H := H1
           clear H1
           simp only [Option.some.injEq, Prod.mk.injEq] at H
           obtain ⟨rfl, rfl⟩ := H
           go_wp2
           go_ret2
           exact ⟨by first | rfl | (simp; done) | (simp only [← hji4] <;> (first | rfl | simp)) | (simp [*]; done), by repeat (first | exact Drawn0.refl _ | apply Drawn0.step)⟩
          ·replace c26 := Bool.eq_false_iff.mpr c26
           subst c26
           have H1 : ((jobshellref48_name.f kj23 a0 (wrap64 (a1 + 2))).bind fun t240 => (if 0 ≤ (wrap64 (a1 + 2)) then (if (wrap64 (a1 + 2)) < (a0.size : Int) then ((jobshellref48_special.f (bt a0 (wrap64 (a1 + 2)))).bind fun t241 => (if t241 = true then (if (wrap64 (a1 + 3)) = (wrap64 (a1 + 2)) then (some ((⟨#[]⟩ : ByteArray), a1)) else (if (wrap64 (a1 + 3)) ≥ (a0.size : Int) then (some ((⟨#[]⟩ : ByteArray), a1)) else (if 0 ≤ (wrap64 (a1 + 3)) then (if (wrap64 (a1 + 3)) < (a0.size : Int) then (if (bt a0 (wrap64 (a1 + 3))) = 125 then (if (wrap64 (a1 + 2)) ≤ (wrap64 (a1 + 3)) then (if (wrap64 (a1 + 3)) ≤ (a0.size : Int) then (some (a0.extract ((wrap64 (a1 + 2)) : Int).toNat ((wrap64 (a1 + 3)) : Int).toNat, wrap64 ((wrap64 (a1 + 3)) + 1))) else (none)) else (none)) else (some ((⟨#[]⟩ : ByteArray), a1))) else (none)) else (none)))) else (if t240 = (wrap64 (a1 + 2)) then (some ((⟨#[]⟩ : ByteArray), a1)) else (if t240 ≥ (a0.size : Int) then (some ((⟨#[]⟩ : ByteArray), a1)) else (if 0 ≤ t240 then (if t240 < (a0.size : Int) then (if (bt a0 t240) = 125 then (if (wrap64 (a1 + 2)) ≤ t240 then (if t240 ≤ (a0.size : Int) then (some (a0.extract ((wrap64 (a1 + 2)) : Int).toNat (t240 : Int).toNat, wrap64 (t240 + 1))) else (none)) else (none)) else (some ((⟨#[]⟩ : ByteArray), a1))) else (none)) else (none)))))) else (none)) else (none))) = some (r1, r2) := by rw [if_neg (show ¬ (false = true) by decide)] at H; exact H
           clear H
           have H := H1
           clear H1
           replace H := Option.bind_eq_some_iff.mp H
           obtain ⟨t240, A270, H⟩ := H
           replace H : (if 0 ≤ (wrap64 (a1 + 2)) then (if (wrap64 (a1 + 2)) < (a0.size : Int) then ((jobshellref48_special.f (bt a0 (wrap64 (a1 + 2)))).bind fun t241 => (if t241 = true then (if (wrap64 (a1 + 3)) = (wrap64 (a1 + 2)) then (some ((⟨#[]⟩ : ByteArray), a1)) else (if (wrap64 (a1 + 3)) ≥ (a0.size : Int) then (some ((⟨#[]⟩ : ByteArray), a1)) else (if 0 ≤ (wrap64 (a1 + 3)) then (if (wrap64 (a1 + 3)) < (a0.size : Int) then (if (bt a0 (wrap64 (a1 + 3))) = 125 then (if (wrap64 (a1 + 2)) ≤ (wrap64 (a1 + 3)) then (if (wrap64 (a1 + 3)) ≤ (a0.size : Int) then (some (a0.extract ((wrap64 (a1 + 2)) : Int).toNat ((wrap64 (a1 + 3)) : Int).toNat, wrap64 ((wrap64 (a1 + 3)) + 1))) else (none)) else (none)) else (some ((⟨#[]⟩ : ByteArray), a1))) else (none)) else (none)))) else (if t240 = (wrap64 (a1 + 2)) then (some ((⟨#[]⟩ : ByteArray), a1)) else (if t240 ≥ (a0.size : Int) then (some ((⟨#[]⟩ : ByteArray), a1)) else (if 0 ≤ t240 then (if t240 < (a0.size : Int) then (if (bt a0 t240) = 125 then (if (wrap64 (a1 + 2)) ≤ t240 then (if t240 ≤ (a0.size : Int) then (some (a0.extract ((wrap64 (a1 + 2)) : Int).toNat (t240 : Int).toNat, wrap64 (t240 + 1))) else (none)) else (none)) else (some ((⟨#[]⟩ : ByteArray), a1))) else (none)) else (none)))))) else (none)) else (none)) = some (r1, r2) := H
           have A27 := Aside0.mk A270
           clear A270
           obtain ⟨ji28, hji28⟩ : ∃ j_ : Int, (wrap64 (a1 + 2)) = j_ := ⟨_, rfl⟩
           replace H : (if 0 ≤ (ji28) then (if (ji28) < (a0.size : Int) then ((jobshellref48_special.f (bt a0 (ji28))).bind fun t241 => (if t241 = true then (if (wrap64 (a1 + 3)) = (ji28) then (some ((⟨#[]⟩ : ByteArray), a1)) else (if (wrap64 (a1 + 3)) ≥ (a0.size : Int) then (some ((⟨#[]⟩ : ByteArray), a1)) else (if 0 ≤ (wrap64 (a1 + 3)) then (if (wrap64 (a1 + 3)) < (a0.size : Int) then (if (bt a0 (wrap64 (a1 + 3))) = 125 then (if (ji28) ≤ (wrap64 (a1 + 3)) then (if (wrap64 (a1 + 3)) ≤ (a0.size : Int) then (some (a0.extract ((ji28) : Int).toNat ((wrap64 (a1 + 3)) : Int).toNat, wrap64 ((wrap64 (a1 + 3)) + 1))) else (none)) else (none)) else (some ((⟨#[]⟩ : ByteArray), a1))) else (none)) else (none)))) else (if t240 = (ji28) then (some ((⟨#[]⟩ : ByteArray), a1)) else (if t240 ≥ (a0.size : Int) then (some ((⟨#[]⟩ : ByteArray), a1)) else (if 0 ≤ t240 then (if t240 < (a0.size : Int) then (if (bt a0 t240) = 125 then (if (ji28) ≤ t240 then (if t240 ≤ (a0.size : Int) then (some (a0.extract ((ji28) : Int).toNat (t240 : Int).toNat, wrap64 (t240 + 1))) else (none)) else (none)) else (some ((⟨#[]⟩ : ByteArray), a1))) else (none)) else (none)))))) else (none)) else (none)) = some (r1, r2) := by first | (rw [hji28] at H; exact H) | (simp only [hji28] at H ⊢; exact H)
           (try rw [hji28] at A27)
           have hji28w : (IntKind.i64.wrap (a1 + 2)) = ji28 := (i64_w _).trans hji28
           by_cases c29 : 0 ≤ (ji28)
           ·rw [if_pos c29] at H
            have c29b0 : decide (0 ≤ (ji28)) = true := decide_eq_true c29
            clear c29
            by_cases c30 : (ji28) < (a0.size : Int)
            ·rw [if_pos c30] at H
             have c30b0 : decide ((ji28) < (a0.size : Int)) = true := decide_eq_true c30
             clear c30
             replace H := Option.bind_eq_some_iff.mp H
             obtain ⟨t241, A320, H⟩ := H
             replace H : (if t241 = true then (if (wrap64 (a1 + 3)) = (ji28) then (some ((⟨#[]⟩ : ByteArray), a1)) else (if (wrap64 (a1 + 3)) ≥ (a0.size : Int) then (some ((⟨#[]⟩ : ByteArray), a1)) else (if 0 ≤ (wrap64 (a1 + 3)) then (if (wrap64 (a1 + 3)) < (a0.size : Int) then (if (bt a0 (wrap64 (a1 + 3))) = 125 then (if (ji28) ≤ (wrap64 (a1 + 3)) then (if (wrap64 (a1 + 3)) ≤ (a0.size : Int) then (some (a0.extract ((ji28) : Int).toNat ((wrap64 (a1 + 3)) : Int).toNat, wrap64 ((wrap64 (a1 + 3)) + 1))) else (none)) else (none)) else (some ((⟨#[]⟩ : ByteArray), a1))) else (none)) else (none)))) else (if t240 = (ji28) then (some ((⟨#[]⟩ : ByteArray), a1)) else (if t240 ≥ (a0.size : Int) then (some ((⟨#[]⟩ : ByteArray), a1)) else (if 0 ≤ t240 then (if t240 < (a0.size : Int) then (if (bt a0 t240) = 125 then (if (ji28) ≤ t240 then (if t240 ≤ (a0.size : Int) then (some (a0.extract ((ji28) : Int).toNat (t240 : Int).toNat, wrap64 (t240 + 1))) else (none)) else (none)) else (some ((⟨#[]⟩ : ByteArray), a1))) else (none)) else (none))))) = some (r1, r2) := H
             have A32 := Aside0.mk A320
             clear A320
             by_cases c33 : t241 = true
             ·subst c33
              have H1 : (if (wrap64 (a1 + 3)) = (ji28) then (some ((⟨#[]⟩ : ByteArray), a1)) else (if (wrap64 (a1 + 3)) ≥ (a0.size : Int) then (some ((⟨#[]⟩ : ByteArray), a1)) else (if 0 ≤ (wrap64 (a1 + 3)) then (if (wrap64 (a1 + 3)) < (a0.size : Int) then (if (bt a0 (wrap64 (a1 + 3))) = 125 then (if (ji28) ≤ (wrap64 (a1 + 3)) then (if (wrap64 (a1 + 3)) ≤ (a0.size : Int) then (some (a0.extract ((ji28) : Int).toNat ((wrap64 (a1 + 3)) : Int).toNat, wrap64 ((wrap64 (a1 + 3)) + 1))) else (none)) else (none)) else (some ((⟨#[]⟩ : ByteArray), a1))) else (none)) else (none)))) = some (r1, r2) := by rw [if_pos rfl] at H; exact H
              clear H
              have H := H1
              clear H1
              by_cases c34 : (wrap64 (a1 + 3)) = (ji28)
              ·rw [if_pos c34] at H
               have c34b0 : ((wrap64 (a1 + 3)) == (ji28)) = true := beq_iff_eq.mpr c34
               have c34b1 : ((wrap64 (a1 + 3)) != (ji28)) = false := bne_eq_false_iff_eq.mpr c34
               clear c34
               simp only [Option.some.injEq, Prod.mk.injEq] at H
               obtain ⟨rfl, rfl⟩ := H
               go_wp2_with (first | ((with_reducible refine gate_callee (f := 42) rfl ?_); refine goesL_ (some 58) rfl rfl Tryd.func42 (by kernel_rfl) rfl #[.string a0, .int .i64 ji28] rfl (by (try simp only [List.map_toArray, List.map_cons, List.map_nil]); first | done | (simp only [hji28]; rfl) | rfl | (simp only [List.length_drop, List.length_take]; rfl)) ?_; (with_reducible refine (jobshellref48_name.calls kj23 a0 ji28 t240 _ A27.out).mono ?_); rintro e w' ⟨rfl, ⟨nd, rfl⟩⟩; refine ⟨_, rfl, ?_⟩; have p31 : 0 ≤ ((ji28) : Int) := of_decide_eq_true (by first | (with_reducible assumption) | assumption); have q31 : (ji28) < (a0.size : Int) := of_decide_eq_true (by first | (with_reducible assumption) | assumption); have hx31 := bt_at a0 (ji28); replace p31 := eq_true p31; replace q31 := eq_true q31) | ((with_reducible refine gate_callee (f := 40) rfl ?_); refine goesL_ (some 63) rfl rfl Tryd.func40 (by kernel_rfl) rfl #[.int .u8 (bt a0 (ji28))] rfl (by (try simp only [List.map_toArray, List.map_cons, List.map_nil]); first | done | (simp only [hji28]; rfl) | rfl | (simp only [List.length_drop, List.length_take]; rfl)) ?_; (with_reducible refine (jobshellref48_special.calls (bt a0 (ji28)) true _ A32.out).mono ?_); rintro e w' ⟨rfl, ⟨nd, rfl⟩⟩; refine ⟨_, rfl, ?_⟩))
               go_ret2
               exact ⟨by first | rfl | (simp; done) | (simp only [← hji4, ← hji28] <;> (first | rfl | simp)) | (simp [*]; done), by repeat (first | exact Drawn0.refl _ | apply Drawn0.step)⟩
              ·rw [if_neg c34] at H
               have c34b0 : ((wrap64 (a1 + 3)) == (ji28)) = false := beq_eq_false_iff_ne.mpr c34
               have c34b1 : ((wrap64 (a1 + 3)) != (ji28)) = true := bne_iff_ne.mpr c34
               by_cases c35 : (wrap64 (a1 + 3)) ≥ (a0.size : Int)
               ·rw [if_pos c35] at H
                have c35b0 : decide ((a0.size : Int) ≤ (wrap64 (a1 + 3))) = true := decide_eq_true c35
                clear c35
                simp only [Option.some.injEq, Prod.mk.injEq] at H
                obtain ⟨rfl, rfl⟩ := H
                go_wp2_with (first | ((with_reducible refine gate_callee (f := 42) rfl ?_); refine goesL_ (some 58) rfl rfl Tryd.func42 (by kernel_rfl) rfl #[.string a0, .int .i64 ji28] rfl (by (try simp only [List.map_toArray, List.map_cons, List.map_nil]); first | done | (simp only [hji28]; rfl) | rfl | (simp only [List.length_drop, List.length_take]; rfl)) ?_; (with_reducible refine (jobshellref48_name.calls kj23 a0 ji28 t240 _ A27.out).mono ?_); rintro e w' ⟨rfl, ⟨nd, rfl⟩⟩; refine ⟨_, rfl, ?_⟩; have p31 : 0 ≤ ((ji28) : Int) := of_decide_eq_true (by first | (with_reducible assumption) | assumption); have q31 : (ji28) < (a0.size : Int) := of_decide_eq_true (by first | (with_reducible assumption) | assumption); have hx31 := bt_at a0 (ji28); replace p31 := eq_true p31; replace q31 := eq_true q31) | ((with_reducible refine gate_callee (f := 40) rfl ?_); refine goesL_ (some 63) rfl rfl Tryd.func40 (by kernel_rfl) rfl #[.int .u8 (bt a0 (ji28))] rfl (by (try simp only [List.map_toArray, List.map_cons, List.map_nil]); first | done | (simp only [hji28]; rfl) | rfl | (simp only [List.length_drop, List.length_take]; rfl)) ?_; (with_reducible refine (jobshellref48_special.calls (bt a0 (ji28)) true _ A32.out).mono ?_); rintro e w' ⟨rfl, ⟨nd, rfl⟩⟩; refine ⟨_, rfl, ?_⟩))
                go_ret2
                exact ⟨by first | rfl | (simp; done) | (simp only [← hji4, ← hji28] <;> (first | rfl | simp)) | (simp [*]; done), by repeat (first | exact Drawn0.refl _ | apply Drawn0.step)⟩
               ·rw [if_neg c35] at H
                have c35b0 : decide ((a0.size : Int) ≤ (wrap64 (a1 + 3))) = false := decide_eq_false c35
                clear c35
                obtain ⟨ji36, hji36⟩ : ∃ j_ : Int, (wrap64 (a1 + 3)) = j_ := ⟨_, rfl⟩
                replace H : (if 0 ≤ (ji36) then (if (ji36) < (a0.size : Int) then (if (bt a0 (ji36)) = 125 then (if (ji28) ≤ (ji36) then (if (ji36) ≤ (a0.size : Int) then (some (a0.extract ((ji28) : Int).toNat ((ji36) : Int).toNat, wrap64 ((ji36) + 1))) else (none)) else (none)) else (some ((⟨#[]⟩ : ByteArray), a1))) else (none)) else (none)) = some (r1, r2) := by first | (rw [hji36] at H; exact H) | (simp only [hji36] at H ⊢; exact H)
                (try rw [hji36] at c34b0)
                (try rw [hji36] at c34b1)
                (try rw [hji36] at c35b0)
                (try rw [hji36] at A27)
                (try rw [hji36] at A32)
                have hji36w : (IntKind.i64.wrap (a1 + 3)) = ji36 := (i64_w _).trans hji36
                by_cases c37 : 0 ≤ (ji36)
                ·rw [if_pos c37] at H
                 have c37b0 : decide (0 ≤ (ji36)) = true := decide_eq_true c37
                 clear c37
                 by_cases c38 : (ji36) < (a0.size : Int)
                 ·rw [if_pos c38] at H
                  have c38b0 : decide ((ji36) < (a0.size : Int)) = true := decide_eq_true c38
                  clear c38
                  by_cases c40 : (bt a0 (ji36)) = 125
                  ·rw [if_pos c40] at H
                   have c40b0 : ((bt a0 (ji36)) == 125) = true := beq_iff_eq.mpr c40
                   have c40b1 : ((bt a0 (ji36)) != 125) = false := bne_eq_false_iff_eq.mpr c40
                   clear c40
                   have c41b0 := eq_true (of_decide_eq_true (by first | (with_reducible assumption) | assumption) : 0 ≤ (ji28))
                   by_cases c42 : (ji28) ≤ (ji36)
                   ·rw [if_pos c42] at H
                    have c42b0 := eq_true c42
                    have c42b1 : decide ((ji28) ≤ (ji36)) = true := decide_eq_true c42
                    clear c42
                    by_cases c43 : (ji36) ≤ (a0.size : Int)
                    ·rw [if_pos c43] at H
                     have c43b0 := eq_true c43
                     have c43b1 : decide ((ji36) ≤ (a0.size : Int)) = true := decide_eq_true c43
                     clear c43
                     simp only [Option.some.injEq, Prod.mk.injEq] at H
                     obtain ⟨rfl, rfl⟩ := H
                     go_wp2_with (first | ((with_reducible refine gate_callee (f := 42) rfl ?_); refine goesL_ (some 58) rfl rfl Tryd.func42 (by kernel_rfl) rfl #[.string a0, .int .i64 ji28] rfl (by (try simp only [List.map_toArray, List.map_cons, List.map_nil]); first | done | (simp only [hji28]; rfl) | rfl | (simp only [List.length_drop, List.length_take]; rfl)) ?_; (with_reducible refine (jobshellref48_name.calls kj23 a0 ji28 t240 _ A27.out).mono ?_); rintro e w' ⟨rfl, ⟨nd, rfl⟩⟩; refine ⟨_, rfl, ?_⟩; have p31 : 0 ≤ ((ji28) : Int) := of_decide_eq_true (by first | (with_reducible assumption) | assumption); have q31 : (ji28) < (a0.size : Int) := of_decide_eq_true (by first | (with_reducible assumption) | assumption); have hx31 := bt_at a0 (ji28); replace p31 := eq_true p31; replace q31 := eq_true q31) | ((with_reducible refine gate_callee (f := 40) rfl ?_); refine goesL_ (some 63) rfl rfl Tryd.func40 (by kernel_rfl) rfl #[.int .u8 (bt a0 (ji28))] rfl (by (try simp only [List.map_toArray, List.map_cons, List.map_nil]); first | done | (simp only [hji28]; rfl) | rfl | (simp only [List.length_drop, List.length_take]; rfl)) ?_; (with_reducible refine (jobshellref48_special.calls (bt a0 (ji28)) true _ A32.out).mono ?_); rintro e w' ⟨rfl, ⟨nd, rfl⟩⟩; refine ⟨_, rfl, ?_⟩; have p39 : 0 ≤ ((ji36) : Int) := of_decide_eq_true (by first | (with_reducible assumption) | assumption); have q39 : (ji36) < (a0.size : Int) := of_decide_eq_true (by first | (with_reducible assumption) | assumption); have hx39 := bt_at a0 (ji36); replace p39 := eq_true p39; replace q39 := eq_true q39))
                     go_ret2
                     exact ⟨by first | rfl | (simp; done) | (simp only [← hji4, ← hji28, ← hji36] <;> (first | rfl | simp)) | (simp [*]; done), by repeat (first | exact Drawn0.refl _ | apply Drawn0.step)⟩
                    ·rw [if_neg c43] at H
                     exact absurd H (by simp)
                   ·rw [if_neg c42] at H
                    exact absurd H (by simp)
                  ·rw [if_neg c40] at H
                   have c40b0 : ((bt a0 (ji36)) == 125) = false := beq_eq_false_iff_ne.mpr c40
                   have c40b1 : ((bt a0 (ji36)) != 125) = true := bne_iff_ne.mpr c40
                   simp only [Option.some.injEq, Prod.mk.injEq] at H
                   obtain ⟨rfl, rfl⟩ := H
                   go_wp2_with (first | ((with_reducible refine gate_callee (f := 42) rfl ?_); refine goesL_ (some 58) rfl rfl Tryd.func42 (by kernel_rfl) rfl #[.string a0, .int .i64 ji28] rfl (by (try simp only [List.map_toArray, List.map_cons, List.map_nil]); first | done | (simp only [hji28]; rfl) | rfl | (simp only [List.length_drop, List.length_take]; rfl)) ?_; (with_reducible refine (jobshellref48_name.calls kj23 a0 ji28 t240 _ A27.out).mono ?_); rintro e w' ⟨rfl, ⟨nd, rfl⟩⟩; refine ⟨_, rfl, ?_⟩; have p31 : 0 ≤ ((ji28) : Int) := of_decide_eq_true (by first | (with_reducible assumption) | assumption); have q31 : (ji28) < (a0.size : Int) := of_decide_eq_true (by first | (with_reducible assumption) | assumption); have hx31 := bt_at a0 (ji28); replace p31 := eq_true p31; replace q31 := eq_true q31) | ((with_reducible refine gate_callee (f := 40) rfl ?_); refine goesL_ (some 63) rfl rfl Tryd.func40 (by kernel_rfl) rfl #[.int .u8 (bt a0 (ji28))] rfl (by (try simp only [List.map_toArray, List.map_cons, List.map_nil]); first | done | (simp only [hji28]; rfl) | rfl | (simp only [List.length_drop, List.length_take]; rfl)) ?_; (with_reducible refine (jobshellref48_special.calls (bt a0 (ji28)) true _ A32.out).mono ?_); rintro e w' ⟨rfl, ⟨nd, rfl⟩⟩; refine ⟨_, rfl, ?_⟩; have p39 : 0 ≤ ((ji36) : Int) := of_decide_eq_true (by first | (with_reducible assumption) | assumption); have q39 : (ji36) < (a0.size : Int) := of_decide_eq_true (by first | (with_reducible assumption) | assumption); have hx39 := bt_at a0 (ji36); replace p39 := eq_true p39; replace q39 := eq_true q39))
                   go_ret2
                   exact ⟨by first | rfl | (simp; done) | (simp only [← hji4, ← hji28, ← hji36] <;> (first | rfl | simp)) | (simp [*]; done), by repeat (first | exact Drawn0.refl _ | apply Drawn0.step)⟩
                 ·rw [if_neg c38] at H
                  exact absurd H (by simp)
                ·rw [if_neg c37] at H
                 exact absurd H (by simp)
             ·replace c33 := Bool.eq_false_iff.mpr c33
              subst c33
              have H1 : (if t240 = (ji28) then (some ((⟨#[]⟩ : ByteArray), a1)) else (if t240 ≥ (a0.size : Int) then (some ((⟨#[]⟩ : ByteArray), a1)) else (if 0 ≤ t240 then (if t240 < (a0.size : Int) then (if (bt a0 t240) = 125 then (if (ji28) ≤ t240 then (if t240 ≤ (a0.size : Int) then (some (a0.extract ((ji28) : Int).toNat (t240 : Int).toNat, wrap64 (t240 + 1))) else (none)) else (none)) else (some ((⟨#[]⟩ : ByteArray), a1))) else (none)) else (none)))) = some (r1, r2) := by rw [if_neg (show ¬ (false = true) by decide)] at H; exact H
              clear H
              have H := H1
              clear H1
              by_cases c44 : t240 = (ji28)
              ·rw [if_pos c44] at H
               have c44b0 : (t240 == (ji28)) = true := beq_iff_eq.mpr c44
               have c44b1 : (t240 != (ji28)) = false := bne_eq_false_iff_eq.mpr c44
               clear c44
               simp only [Option.some.injEq, Prod.mk.injEq] at H
               obtain ⟨rfl, rfl⟩ := H
               go_wp2_with (first | ((with_reducible refine gate_callee (f := 42) rfl ?_); refine goesL_ (some 58) rfl rfl Tryd.func42 (by kernel_rfl) rfl #[.string a0, .int .i64 ji28] rfl (by (try simp only [List.map_toArray, List.map_cons, List.map_nil]); first | done | (simp only [hji28]; rfl) | rfl | (simp only [List.length_drop, List.length_take]; rfl)) ?_; (with_reducible refine (jobshellref48_name.calls kj23 a0 ji28 t240 _ A27.out).mono ?_); rintro e w' ⟨rfl, ⟨nd, rfl⟩⟩; refine ⟨_, rfl, ?_⟩; have p31 : 0 ≤ ((ji28) : Int) := of_decide_eq_true (by first | (with_reducible assumption) | assumption); have q31 : (ji28) < (a0.size : Int) := of_decide_eq_true (by first | (with_reducible assumption) | assumption); have hx31 := bt_at a0 (ji28); replace p31 := eq_true p31; replace q31 := eq_true q31) | ((with_reducible refine gate_callee (f := 40) rfl ?_); refine goesL_ (some 63) rfl rfl Tryd.func40 (by kernel_rfl) rfl #[.int .u8 (bt a0 (ji28))] rfl (by (try simp only [List.map_toArray, List.map_cons, List.map_nil]); first | done | (simp only [hji28]; rfl) | rfl | (simp only [List.length_drop, List.length_take]; rfl)) ?_; (with_reducible refine (jobshellref48_special.calls (bt a0 (ji28)) false _ A32.out).mono ?_); rintro e w' ⟨rfl, ⟨nd, rfl⟩⟩; refine ⟨_, rfl, ?_⟩))
               go_ret2
               exact ⟨by first | rfl | (simp; done) | (simp only [← hji4, ← hji28] <;> (first | rfl | simp)) | (simp [*]; done), by repeat (first | exact Drawn0.refl _ | apply Drawn0.step)⟩
              ·rw [if_neg c44] at H
               have c44b0 : (t240 == (ji28)) = false := beq_eq_false_iff_ne.mpr c44
               have c44b1 : (t240 != (ji28)) = true := bne_iff_ne.mpr c44
               by_cases c45 : t240 ≥ (a0.size : Int)
               ·rw [if_pos c45] at H
                have c45b0 : decide ((a0.size : Int) ≤ t240) = true := decide_eq_true c45
                clear c45
                simp only [Option.some.injEq, Prod.mk.injEq] at H
                obtain ⟨rfl, rfl⟩ := H
                go_wp2_with (first | ((with_reducible refine gate_callee (f := 42) rfl ?_); refine goesL_ (some 58) rfl rfl Tryd.func42 (by kernel_rfl) rfl #[.string a0, .int .i64 ji28] rfl (by (try simp only [List.map_toArray, List.map_cons, List.map_nil]); first | done | (simp only [hji28]; rfl) | rfl | (simp only [List.length_drop, List.length_take]; rfl)) ?_; (with_reducible refine (jobshellref48_name.calls kj23 a0 ji28 t240 _ A27.out).mono ?_); rintro e w' ⟨rfl, ⟨nd, rfl⟩⟩; refine ⟨_, rfl, ?_⟩; have p31 : 0 ≤ ((ji28) : Int) := of_decide_eq_true (by first | (with_reducible assumption) | assumption); have q31 : (ji28) < (a0.size : Int) := of_decide_eq_true (by first | (with_reducible assumption) | assumption); have hx31 := bt_at a0 (ji28); replace p31 := eq_true p31; replace q31 := eq_true q31) | ((with_reducible refine gate_callee (f := 40) rfl ?_); refine goesL_ (some 63) rfl rfl Tryd.func40 (by kernel_rfl) rfl #[.int .u8 (bt a0 (ji28))] rfl (by (try simp only [List.map_toArray, List.map_cons, List.map_nil]); first | done | (simp only [hji28]; rfl) | rfl | (simp only [List.length_drop, List.length_take]; rfl)) ?_; (with_reducible refine (jobshellref48_special.calls (bt a0 (ji28)) false _ A32.out).mono ?_); rintro e w' ⟨rfl, ⟨nd, rfl⟩⟩; refine ⟨_, rfl, ?_⟩))
                go_ret2
                exact ⟨by first | rfl | (simp; done) | (simp only [← hji4, ← hji28] <;> (first | rfl | simp)) | (simp [*]; done), by repeat (first | exact Drawn0.refl _ | apply Drawn0.step)⟩
               ·rw [if_neg c45] at H
                have c45b0 : decide ((a0.size : Int) ≤ t240) = false := decide_eq_false c45
                clear c45
                by_cases c46 : 0 ≤ t240
                ·rw [if_pos c46] at H
                 have c46b0 : decide (0 ≤ t240) = true := decide_eq_true c46
                 clear c46
                 by_cases c47 : t240 < (a0.size : Int)
                 ·rw [if_pos c47] at H
                  have c47b0 : decide (t240 < (a0.size : Int)) = true := decide_eq_true c47
                  clear c47
                  by_cases c49 : (bt a0 t240) = 125
                  ·rw [if_pos c49] at H
                   have c49b0 : ((bt a0 t240) == 125) = true := beq_iff_eq.mpr c49
                   have c49b1 : ((bt a0 t240) != 125) = false := bne_eq_false_iff_eq.mpr c49
                   clear c49
                   have c50b0 := eq_true (of_decide_eq_true (by first | (with_reducible assumption) | assumption) : 0 ≤ (ji28))
                   by_cases c51 : (ji28) ≤ t240
                   ·rw [if_pos c51] at H
                    have c51b0 := eq_true c51
                    have c51b1 : decide ((ji28) ≤ t240) = true := decide_eq_true c51
                    clear c51
                    by_cases c52 : t240 ≤ (a0.size : Int)
                    ·rw [if_pos c52] at H
                     have c52b0 := eq_true c52
                     have c52b1 : decide (t240 ≤ (a0.size : Int)) = true := decide_eq_true c52
                     clear c52
                     simp only [Option.some.injEq, Prod.mk.injEq] at H
                     obtain ⟨rfl, rfl⟩ := H
                     go_wp2_with (first | ((with_reducible refine gate_callee (f := 42) rfl ?_); refine goesL_ (some 58) rfl rfl Tryd.func42 (by kernel_rfl) rfl #[.string a0, .int .i64 ji28] rfl (by (try simp only [List.map_toArray, List.map_cons, List.map_nil]); first | done | (simp only [hji28]; rfl) | rfl | (simp only [List.length_drop, List.length_take]; rfl)) ?_; (with_reducible refine (jobshellref48_name.calls kj23 a0 ji28 t240 _ A27.out).mono ?_); rintro e w' ⟨rfl, ⟨nd, rfl⟩⟩; refine ⟨_, rfl, ?_⟩; have p31 : 0 ≤ ((ji28) : Int) := of_decide_eq_true (by first | (with_reducible assumption) | assumption); have q31 : (ji28) < (a0.size : Int) := of_decide_eq_true (by first | (with_reducible assumption) | assumption); have hx31 := bt_at a0 (ji28); replace p31 := eq_true p31; replace q31 := eq_true q31) | ((with_reducible refine gate_callee (f := 40) rfl ?_); refine goesL_ (some 63) rfl rfl Tryd.func40 (by kernel_rfl) rfl #[.int .u8 (bt a0 (ji28))] rfl (by (try simp only [List.map_toArray, List.map_cons, List.map_nil]); first | done | (simp only [hji28]; rfl) | rfl | (simp only [List.length_drop, List.length_take]; rfl)) ?_; (with_reducible refine (jobshellref48_special.calls (bt a0 (ji28)) false _ A32.out).mono ?_); rintro e w' ⟨rfl, ⟨nd, rfl⟩⟩; refine ⟨_, rfl, ?_⟩; have p48 : 0 ≤ (t240 : Int) := of_decide_eq_true (by first | (with_reducible assumption) | assumption); have q48 : t240 < (a0.size : Int) := of_decide_eq_true (by first | (with_reducible assumption) | assumption); have hx48 := bt_at a0 t240; replace p48 := eq_true p48; replace q48 := eq_true q48))
                     go_ret2
                     exact ⟨by first | rfl | (simp; done) | (simp only [← hji4, ← hji28] <;> (first | rfl | simp)) | (simp [*]; done), by repeat (first | exact Drawn0.refl _ | apply Drawn0.step)⟩
                    ·rw [if_neg c52] at H
                     exact absurd H (by simp)
                   ·rw [if_neg c51] at H
                    exact absurd H (by simp)
                  ·rw [if_neg c49] at H
                   have c49b0 : ((bt a0 t240) == 125) = false := beq_eq_false_iff_ne.mpr c49
                   have c49b1 : ((bt a0 t240) != 125) = true := bne_iff_ne.mpr c49
                   simp only [Option.some.injEq, Prod.mk.injEq] at H
                   obtain ⟨rfl, rfl⟩ := H
                   go_wp2_with (first | ((with_reducible refine gate_callee (f := 42) rfl ?_); refine goesL_ (some 58) rfl rfl Tryd.func42 (by kernel_rfl) rfl #[.string a0, .int .i64 ji28] rfl (by (try simp only [List.map_toArray, List.map_cons, List.map_nil]); first | done | (simp only [hji28]; rfl) | rfl | (simp only [List.length_drop, List.length_take]; rfl)) ?_; (with_reducible refine (jobshellref48_name.calls kj23 a0 ji28 t240 _ A27.out).mono ?_); rintro e w' ⟨rfl, ⟨nd, rfl⟩⟩; refine ⟨_, rfl, ?_⟩; have p31 : 0 ≤ ((ji28) : Int) := of_decide_eq_true (by first | (with_reducible assumption) | assumption); have q31 : (ji28) < (a0.size : Int) := of_decide_eq_true (by first | (with_reducible assumption) | assumption); have hx31 := bt_at a0 (ji28); replace p31 := eq_true p31; replace q31 := eq_true q31) | ((with_reducible refine gate_callee (f := 40) rfl ?_); refine goesL_ (some 63) rfl rfl Tryd.func40 (by kernel_rfl) rfl #[.int .u8 (bt a0 (ji28))] rfl (by (try simp only [List.map_toArray, List.map_cons, List.map_nil]); first | done | (simp only [hji28]; rfl) | rfl | (simp only [List.length_drop, List.length_take]; rfl)) ?_; (with_reducible refine (jobshellref48_special.calls (bt a0 (ji28)) false _ A32.out).mono ?_); rintro e w' ⟨rfl, ⟨nd, rfl⟩⟩; refine ⟨_, rfl, ?_⟩; have p48 : 0 ≤ (t240 : Int) := of_decide_eq_true (by first | (with_reducible assumption) | assumption); have q48 : t240 < (a0.size : Int) := of_decide_eq_true (by first | (with_reducible assumption) | assumption); have hx48 := bt_at a0 t240; replace p48 := eq_true p48; replace q48 := eq_true q48))
                   go_ret2
                   exact ⟨by first | rfl | (simp; done) | (simp only [← hji4, ← hji28] <;> (first | rfl | simp)) | (simp [*]; done), by repeat (first | exact Drawn0.refl _ | apply Drawn0.step)⟩
                 ·rw [if_neg c47] at H
                  exact absurd H (by simp)
                ·rw [if_neg c46] at H
                 exact absurd H (by simp)
            ·rw [if_neg c30] at H
             exact absurd H (by simp)
           ·rw [if_neg c29] at H
            exact absurd H (by simp)
   ·rw [if_neg c6] at H
    exact absurd H (by simp)
  ·rw [if_neg c5] at H
   exact absurd H (by simp)
end Go.Proofs.YtiacdccnifjcjaaDoor.F
set_option linter.unusedVariables false
set_option linter.unusedSimpArgs false
namespace Go.Proofs.YtiacdccnifjcjaaDoor.Pure
open Go.RowKit Go.Proofs.YtiacdccnifjcjaaDoor.F Go.Proofs.YtiacdccnifjcjaaDoorW.PrintWords
theorem digit48 (x : Int) : jobshellref48_digit.f x = some (isDig x) := by
  unfold jobshellref48_digit.f isDig
  by_cases h : x ≥ 48
  · rw [if_pos h, decide_eq_true (show 48 ≤ x from h), Bool.true_and]
  · rw [if_neg h, decide_eq_false (show ¬ 48 ≤ x from h), Bool.false_and]
theorem letter48 (x : Int) : jobshellref48_letter.f x = some (nameCh false x) := by
  unfold jobshellref48_letter.f nameCh isLet
  rw [digit48]
  by_cases h1 : x ≥ 97 <;> by_cases h2 : x ≤ 122 <;> by_cases h3 : x ≥ 65 <;> by_cases h4 : x ≤ 90 <;> by_cases h5 : x = 95 <;> simp [h1, h2, h3, h4, h5] <;> omega
theorem word48 (x : Int) : prompt_word.f x = some (nameCh false x) := by
  unfold prompt_word.f nameCh isLet isDig
  by_cases h1 : x ≥ 97 <;> by_cases h2 : x ≤ 122 <;> by_cases h3 : x ≥ 65 <;> by_cases h4 : x ≤ 90 <;> by_cases h5 : x = 95 <;> by_cases h6 : x ≥ 48 <;> by_cases h7 : x ≤ 57 <;> simp [h1, h2, h3, h4, h5, h6, h7] <;> omega
def spc (x : Int) : Bool := x == 64 || x == 42 || x == 35 || x == 63 || x == 45 || x == 36 || x == 33
theorem rspec (x : Int) : jobshellref48_special.f x = some (spc x) := by
  unfold jobshellref48_special.f spc
  by_cases h1 : x = 64 <;> by_cases h2 : x = 42 <;> by_cases h3 : x = 35 <;> by_cases h4 : x = 63 <;> by_cases h5 : x = 45 <;> by_cases h6 : x = 36 <;> simp [h1, h2, h3, h4, h5, h6]
theorem spec_byte (c : UInt8) : decide (Lib.indexByte [64, 42, 35, 63, 45, 36, 33] c ≥ 0) = spc (c.toNat : Int) := by
  have : ∀ n : Fin 256, decide (Lib.indexByte [64, 42, 35, 63, 45, 36, 33] (UInt8.ofNat n.val) ≥ 0) = spc ((UInt8.ofNat n.val).toNat : Int) := by decide +kernel
  have h := this ⟨c.toNat, c.toNat_lt⟩
  simpa using h
theorem pspec (r : ByteArray) : prompt_special.f r = some (match r.data.toList with | [] => false | c :: _ => spc (c.toNat : Int)) := by
  unfold prompt_special.f
  by_cases h : r.size = 0
  · have : r.data.toList = [] := List.length_eq_zero_iff.1 (by rw [size_data]; exact h)
    rw [if_pos ((nil_iff r).2 h), this]
  · obtain ⟨c, hc, hb⟩ := bt_drop r 0 (by omega)
    have hb' : bt r 0 = (c.toNat : Int) := hb
    rw [List.drop_zero] at hc
    obtain ⟨t, ht⟩ : ∃ t, r.data.toList = c :: t := ⟨_, hc⟩
    rw [if_neg (fun e => h ((nil_iff r).1 e)), if_pos (by omega), hb', ht]
    unfold strings_IndexByte.f
    show some (decide (Lib.indexByte [64, 42, 35, 63, 45, 36, 33] ((c.toNat : Int)).toNat.toUInt8 ≥ 0)) = some (spc (c.toNat : Int))
    rw [← spec_byte c, Int.toNat_natCast]
    simp
def twl : List UInt8 → Nat
  | [] => 0
  | c :: r => if nameCh false (c.toNat : Int) = true then twl r + 1 else 0
theorem twl_le : ∀ l : List UInt8, twl l ≤ l.length
  | [] => Nat.le_refl _
  | c :: r => by have := twl_le r; simp only [twl, List.length_cons]; split <;> omega
theorem name48 (s : ByteArray) (hs : s.size < 100000) : ∀ (d i k : Nat), i + d = s.size → d < k → jobshellref48_name.l0 k s i = some ((i + twl (s.data.toList.drop i) : Nat) : Int) := by
  intro d
  induction d with
  | zero =>
    intro i k hi hk
    obtain ⟨m, rfl⟩ : ∃ m, k = m + 1 := ⟨k - 1, by omega⟩
    rw [jobshellref48_name.l0, if_neg (by omega), List.drop_eq_nil_of_le (by simp; omega)]; rfl
  | succ d ih =>
    intro i k hi hk
    obtain ⟨m, rfl⟩ : ∃ m, k = m + 1 := ⟨k - 1, by omega⟩
    obtain ⟨c, hc, hb⟩ := bt_drop s i (by omega)
    rw [jobshellref48_name.l0, if_pos (by omega), if_pos (by omega), hb, letter48, Option.bind_some, wrap_succ (by omega), ih (i + 1) m (by omega) (by omega), hc]
    simp only [twl]
    by_cases h : nameCh false (c.toNat : Int) = true
    · rw [if_pos h, if_pos h]; congr 2; omega
    · rw [if_neg h, if_neg h]; rfl
theorem run48_go (s : ByteArray) (hs : s.size < 100000) : ∀ (d i k : Nat), i + d = s.size → d < k → prompt_run.l0 k s i = some (s.extract 0 (i + twl (s.data.toList.drop i))) := by
  intro d
  induction d with
  | zero =>
    intro i k hi hk
    obtain ⟨m, rfl⟩ : ∃ m, k = m + 1 := ⟨k - 1, by omega⟩
    rw [prompt_run.l0, if_neg (by omega), if_pos (by omega), if_pos (by omega), List.drop_eq_nil_of_le (by simp; omega), Int.toNat_natCast]; rfl
  | succ d ih =>
    intro i k hi hk
    obtain ⟨m, rfl⟩ : ∃ m, k = m + 1 := ⟨k - 1, by omega⟩
    obtain ⟨c, hc, hb⟩ := bt_drop s i (by omega)
    rw [prompt_run.l0, if_pos (by omega), if_pos (by omega), hb, word48, Option.bind_some, wrap_succ (by omega), ih (i + 1) m (by omega) (by omega), hc]
    simp only [twl]
    by_cases h : nameCh false (c.toNat : Int) = true
    · rw [if_pos h, if_pos h]; congr 2; omega
    · rw [if_neg h, if_neg h, if_pos (by omega), Int.toNat_natCast]; rfl
theorem run48 (s : ByteArray) (hs : s.size < 100000) {k : Nat} (hk : 100000 ≤ k) : prompt_run.f k s = some (ba (s.data.toList.take (twl s.data.toList))) := by
  have := run48_go s hs s.size 0 k (by omega) (by omega)
  rw [List.drop_zero, Nat.zero_add, extract_ba, List.drop_zero] at this
  exact this
def brace (r : List UInt8) : List UInt8 := if twl r = 0 then (match r with | d :: _ => if spc (d.toNat : Int) = true then [d] else [] | [] => []) else r.take (twl r)
def parL : List UInt8 → List UInt8 × Nat
  | [] => ([], 0)
  | c :: r => if isDig (c.toNat : Int) = true ∨ spc (c.toNat : Int) = true then ([c], 1)
    else if c = 123 then (if brace r = [] then ([], 0) else if (r.drop (brace r).length).head? = some 125 then (brace r, (brace r).length + 2) else ([], 0))
    else ((c :: r).take (twl (c :: r)), twl (c :: r))
theorem take1 (l : List UInt8) (c : UInt8) (r : List UInt8) (h : l = c :: r) : l.take 1 = [c] := by rw [h]; rfl
theorem ba_nil_iff (l : List UInt8) : (ba l).toList = ([] : List UInt8) ↔ l = [] := by rw [Lib.toList_data, ba_data]
theorem prefix_brace (x : ByteArray) : strings_HasPrefix.f x (⟨#[125]⟩ : ByteArray) = some (decide (x.data.toList.head? = some 125)) := by
  unfold strings_HasPrefix.f stringslite_HasPrefix.f
  have h1 : ((⟨#[125]⟩ : ByteArray).size : Int) = 1 := rfl
  rw [h1]
  by_cases h : x.size = 0
  · have : x.data.toList = [] := List.length_eq_zero_iff.1 (by rw [size_data]; exact h)
    rw [if_neg (by omega), this]; rfl
  · obtain ⟨c, hc, hb⟩ := bt_drop x 0 (by omega)
    rw [List.drop_zero] at hc
    obtain ⟨t, ht⟩ : ∃ t, x.data.toList = c :: t := ⟨_, hc⟩
    rw [if_pos (by omega), if_pos (by omega), if_pos (by omega), extract_ba, List.drop_zero, ht]
    rw [Option.bind_some]
    congr 1
    rw [show (1 : Int).toNat = 1 from rfl, Lib.toList_data, ba_data, List.take_succ_cons, List.take_zero]
    have e : (⟨#[125]⟩ : ByteArray).toList = [125] := by decide +kernel
    rw [e]
    by_cases hc2 : c = 125
    · subst hc2; rfl
    · rw [beq_eq_false_iff_ne.2 (by simpa using hc2), decide_eq_false (show ¬ (c :: t).head? = some 125 by simpa using hc2)]
theorem par_prog (s : ByteArray) (hs : s.size ≤ 10000) {k : Nat} (hk : 200000 ≤ k) : prompt_parameter.f k s = some (ba (parL s.data.toList).1, ((parL s.data.toList).2 : Int)) := by
  obtain ⟨m, rfl⟩ : ∃ m, k = m + 4 := ⟨k - 4, by omega⟩
  unfold prompt_parameter.f
  by_cases h0 : s.size = 0
  · have : s.data.toList = [] := List.length_eq_zero_iff.1 (by rw [size_data]; exact h0)
    rw [if_pos ((nil_iff s).2 h0), this]; rfl
  obtain ⟨c, hc, hb⟩ := bt_drop s 0 (by omega)
  have hb' : bt s 0 = (c.toNat : Int) := hb
  rw [List.drop_zero] at hc
  obtain ⟨t, ht⟩ : ∃ t, s.data.toList = c :: t := ⟨_, hc⟩
  have hsz := size_data s
  rw [ht, List.length_cons] at hsz
  rw [if_neg (fun e => h0 ((nil_iff s).1 e)), if_pos (by omega), hb']
  have hj0 : (if (c.toNat : Int) ≥ 48 then (prompt_parameter.j0 (m + 4) s (decide ((c.toNat : Int) ≤ 57))) else (prompt_parameter.j0 (m + 4) s false)) = prompt_parameter.j0 (m + 4) s (isDig (c.toNat : Int)) := by
    unfold isDig
    by_cases h : (c.toNat : Int) ≥ 48
    · rw [if_pos h, decide_eq_true (show 48 ≤ (c.toNat : Int) from h), Bool.true_and]
    · rw [if_neg h, decide_eq_false (show ¬ 48 ≤ (c.toNat : Int) from h), Bool.false_and]
  have hsp : prompt_special.f s = some (spc (c.toNat : Int)) := by rw [pspec, ht]
  have hj1 : prompt_parameter.j0 (m + 4) s (isDig (c.toNat : Int)) = prompt_parameter.j1 (m + 3) s (isDig (c.toNat : Int) || spc (c.toNat : Int)) := by
    rw [prompt_parameter.j0, hsp]
    cases hd : isDig (c.toNat : Int) with
    | true => rw [if_pos rfl, Bool.true_or]
    | false => rw [if_neg (by decide), Bool.false_or]; rfl
  rw [hj0, hj1, ht, parL, prompt_parameter.j1]
  by_cases h1 : isDig (c.toNat : Int) = true ∨ spc (c.toNat : Int) = true
  · have : (isDig (c.toNat : Int) || spc (c.toNat : Int)) = true := by rcases h1 with h | h <;> rw [h] <;> simp
    rw [this, if_pos rfl, if_pos (by omega), if_pos (by omega), if_pos h1, extract_ba, List.drop_zero, ht]; rfl
  · have : (isDig (c.toNat : Int) || spc (c.toNat : Int)) = false := by
      cases hd : isDig (c.toNat : Int) <;> cases hs' : spc (c.toNat : Int) <;> simp [hd, hs'] at h1 ⊢
    rw [this, if_neg (by decide), if_pos (by omega), hb', if_neg h1]
    by_cases h2 : c = 123
    · subst h2
      have hx : (s.extract 1 s.size).data.toList = t := by
        rw [extract_data, List.take_of_length_le (by rw [size_data]; omega), ht]; rfl
      have hxs : (s.extract 1 s.size).size < 100000 := by rw [ByteArray.size_extract]; omega
      rw [if_pos (by decide), if_pos (by omega), run48 _ hxs (by omega), Option.bind_some, hx, if_pos rfl]
      have hbr : ∀ q : Nat, prompt_parameter.j3 (q + 1) s (ba (brace t)) = some (ba (if brace t = [] then ([], 0) else if (t.drop (brace t).length).head? = some 125 then (brace t, (brace t).length + 2) else ([], 0) : List UInt8 × Nat).1, ((if brace t = [] then ([], 0) else if (t.drop (brace t).length).head? = some 125 then (brace t, (brace t).length + 2) else ([], 0) : List UInt8 × Nat).2 : Int)) := by
        intro q
        rw [prompt_parameter.j3]
        have hbl : (brace t).length ≤ t.length := by
          unfold brace
          split
          · cases t with
            | nil => exact Nat.le_refl _
            | cons d r => simp only; split <;> simp
          · rw [List.length_take]; omega
        by_cases hb0 : brace t = []
        · rw [if_pos ((ba_nil_iff _).2 hb0), if_pos hb0]; rfl
        · rw [if_neg (fun e => hb0 ((ba_nil_iff _).1 e)), if_neg hb0, ba_size, wrap_id (i := 1 + ((brace t).length : Int)) (by omega) (by omega), if_pos (by omega), if_pos (by omega), prefix_brace, Option.bind_some]
          have hx2 : (s.extract (1 + ((brace t).length : Int)).toNat s.size).data.toList = t.drop (brace t).length := by
            rw [extract_data, List.take_of_length_le (by rw [size_data]; omega), ht, show (1 + ((brace t).length : Int)).toNat = (brace t).length + 1 by omega, List.drop_succ_cons]
          rw [hx2]
          by_cases h5 : (t.drop (brace t).length).head? = some 125
          · rw [decide_eq_true h5, if_pos rfl, if_pos h5, wrap_id (by omega) (by omega)]; rfl
          · rw [decide_eq_false h5, if_neg (by decide), if_neg h5]; rfl
      by_cases ht0 : twl t = 0
      · rw [ht0, List.take_zero, if_pos (by decide +kernel), pspec, hx, Option.bind_some, prompt_parameter.j2]
        cases t with
        | nil =>
          rw [if_neg (by decide)]
          exact hbr m
        | cons d r =>
          simp only
          by_cases hsd : spc (d.toNat : Int) = true
          · have he : s.extract 1 2 = ba (brace (d :: r)) := by
              unfold brace
              rw [if_pos ht0, extract_ba, ht]
              simp only [if_pos hsd]
              rfl
            rw [if_pos hsd, if_pos (by omega), if_pos (by simp at hsz; omega), he]
            exact hbr m
          · have he : ba [] = ba (brace (d :: r)) := by
              unfold brace
              rw [if_pos ht0]
              simp only [if_neg hsd]
            rw [if_neg hsd, he]
            exact hbr m
      · have hne : ¬ (ba (t.take (twl t))).toList = ([] : List UInt8) := by
          rw [ba_nil_iff]; intro e
          have := congrArg List.length e
          have h3 := twl_le t
          rw [List.length_take, List.length_nil] at this; omega
        have he : ba (t.take (twl t)) = ba (brace t) := by unfold brace; rw [if_neg ht0]
        rw [if_neg hne, prompt_parameter.j2, if_neg (by decide), he]
        exact hbr m
    · have h2' : ¬ (c.toNat : Int) = 123 := by
        intro e; apply h2
        have : c.toNat = (123 : UInt8).toNat := (by omega : c.toNat = 123)
        exact UInt8.toNat_inj.1 this
      rw [if_neg h2', if_neg h2, run48 s (by omega) (by omega), Option.bind_some, ht, ba_size]
      simp only [List.length_take]
      have := twl_le (c :: t)
      rw [show min (twl (c :: t)) (c :: t).length = twl (c :: t) by omega]
end Go.Proofs.YtiacdccnifjcjaaDoor.Pure
set_option linter.unusedVariables false
set_option linter.unusedSimpArgs false
namespace Go.Proofs.YtiacdccnifjcjaaDoor.Pure
open Go.RowKit Go.Proofs.YtiacdccnifjcjaaDoor.F Go.Proofs.YtiacdccnifjcjaaDoorW.PrintWords
theorem brace_le (t : List UInt8) : (brace t).length ≤ t.length := by
  unfold brace
  split
  · cases t with
    | nil => exact Nat.le_refl _
    | cons d r => simp only; split <;> simp
  · rw [List.length_take]; omega
theorem head_lt {l : List UInt8} {n : Nat} {c : UInt8} (h : (l.drop n).head? = some c) : n < l.length := by
  rcases Nat.lt_or_ge n l.length with h1 | h1
  · exact h1
  · rw [List.drop_eq_nil_of_le h1] at h; cases h
theorem parL_le : ∀ l : List UInt8, (parL l).2 ≤ l.length
  | [] => Nat.le_refl _
  | c :: r => by
    rw [parL]
    split
    · simp
    split
    · split
      · simp
      split
      · rename_i h; have := head_lt h; simp; omega
      · simp
    · exact twl_le _
section
variable (val : List UInt8 → List UInt8) (cwd js ns : List UInt8)
def stepL : List UInt8 → Option (List UInt8 × Nat)
  | [] => none
  | c :: r => if c = 36 then (if 0 < (parL r).2 then some (val (parL r).1, (parL r).2 + 1) else none)
    else if c = 92 then (match r with
      | [] => none
      | d :: _ => if d = 119 then some (cwd, 2) else if d = 36 then some ([36], 2) else if d = 92 then some ([92], 2) else if d = 117 then some (val [85, 83, 69, 82], 2)
        else if d = 106 then some (js, 2) else if d = 33 then some (ns, 2) else if d = 110 then some ([10], 2) else none)
    else none
theorem stepL_le (l : List UInt8) (t : List UInt8) (n : Nat) (h : stepL val cwd js ns l = some (t, n)) : 1 ≤ n ∧ n ≤ l.length := by
  cases l with
  | nil => cases h
  | cons c r =>
    simp only [stepL] at h
    have hp := parL_le r
    split at h
    · split at h
      · have := (Prod.mk.inj (Option.some.inj h)).2; simp; omega
      · cases h
    split at h
    · cases r with
      | nil => cases h
      | cons d q =>
        simp only at h
        have two : ∀ u, some (u, 2) = some (t, n) → 1 ≤ n ∧ n ≤ (c :: d :: q).length := by
          intro u e; have := (Prod.mk.inj (Option.some.inj e)).2; simp; omega
        repeat (first | (split at h; exact two _ h) | (split at h))
        all_goals first | exact two _ h | cases h
    · cases h
def expL : Nat → List UInt8 → List UInt8
  | 0, _ => []
  | g + 1, l => match l with
    | [] => []
    | c :: r => match stepL val cwd js ns (c :: r) with
      | some (t, n) => t ++ expL g ((c :: r).drop n)
      | none => c :: expL g r
theorem expL_fuel : ∀ (n g h : Nat) (l : List UInt8), l.length ≤ n → l.length ≤ g → l.length ≤ h → expL val cwd js ns g l = expL val cwd js ns h l := by
  intro n
  induction n with
  | zero =>
    intro g h l hn _ _
    obtain rfl : l = [] := List.length_eq_zero_iff.1 (by omega)
    cases g <;> cases h <;> rfl
  | succ n ih =>
    intro g h l hn hg hh
    cases l with
    | nil => cases g <;> cases h <;> rfl
    | cons c r =>
      simp only [List.length_cons] at hn hg hh
      obtain ⟨g', rfl⟩ : ∃ g', g = g' + 1 := ⟨g - 1, by omega⟩
      obtain ⟨h', rfl⟩ : ∃ h', h = h' + 1 := ⟨h - 1, by omega⟩
      simp only [expL]
      cases hs : stepL val cwd js ns (c :: r) with
      | none => simp only; rw [ih g' h' r (by omega) (by omega) (by omega)]
      | some x =>
        obtain ⟨t, m⟩ := x
        obtain ⟨h1, h2⟩ := stepL_le val cwd js ns _ _ _ hs
        simp only
        rw [ih g' h' ((c :: r).drop m) (by simp; omega) (by simp; omega) (by simp; omega)]
def ex (l : List UInt8) : List UInt8 := expL val cwd js ns l.length l
theorem ex_nil : ex val cwd js ns [] = [] := rfl
theorem ex_none (c : UInt8) (r : List UInt8) (h : stepL val cwd js ns (c :: r) = none) : ex val cwd js ns (c :: r) = c :: ex val cwd js ns r := by
  unfold ex
  simp only [List.length_cons, expL, h]
theorem ex_some (l t : List UInt8) (n : Nat) (h : stepL val cwd js ns l = some (t, n)) : ex val cwd js ns l = t ++ ex val cwd js ns (l.drop n) := by
  obtain ⟨h1, h2⟩ := stepL_le val cwd js ns _ _ _ h
  cases l with
  | nil => cases h
  | cons c r =>
    unfold ex
    simp only [List.length_cons, expL, h]
    congr 1
    exact expL_fuel val cwd js ns r.length _ _ _ (by simp; omega) (by simp; omega) (Nat.le_refl _)
theorem ex_length (B : Nat) (hB : 2 ≤ B) (hv : ∀ x, (val x).length ≤ B) (hc : cwd.length ≤ B) (hj : js.length ≤ B) (hn : ns.length ≤ B) : ∀ (n : Nat) (l : List UInt8), l.length ≤ n → (ex val cwd js ns l).length ≤ l.length * B := by
  intro n
  induction n with
  | zero => intro l hl; obtain rfl : l = [] := List.length_eq_zero_iff.1 (by omega); simp [ex_nil]
  | succ n ih =>
    intro l hl
    cases l with
    | nil => simp [ex_nil]
    | cons c r =>
      simp only [List.length_cons] at hl
      cases hs : stepL val cwd js ns (c :: r) with
      | none =>
        rw [ex_none _ _ _ _ _ _ hs]
        have := ih r (by omega)
        simp only [List.length_cons, Nat.succ_mul]; omega
      | some x =>
        obtain ⟨t, m⟩ := x
        obtain ⟨h1, h2⟩ := stepL_le val cwd js ns _ _ _ hs
        have ht : t.length ≤ B := by
          simp only [stepL] at hs
          have one : ∀ u q, u.length ≤ B → some (u, q) = some (t, m) → t.length ≤ B := by
            intro u q hu e; rw [← (Prod.mk.inj (Option.some.inj e)).1]; exact hu
          split at hs
          · split at hs
            · exact one _ _ (hv _) hs
            · cases hs
          split at hs
          · cases r with
            | nil => cases hs
            | cons d q =>
              simp only at hs
              split at hs
              · exact one _ _ hc hs
              split at hs
              · exact one _ _ (by simp; omega) hs
              split at hs
              · exact one _ _ (by simp; omega) hs
              split at hs
              · exact one _ _ (hv _) hs
              split at hs
              · exact one _ _ hj hs
              split at hs
              · exact one _ _ hn hs
              split at hs
              · exact one _ _ (by simp; omega) hs
              · cases hs
          · cases hs
        rw [ex_some _ _ _ _ _ _ _ hs, List.length_append]
        have h3 := ih ((c :: r).drop m) (by simp; omega)
        have h4 : ((c :: r).drop m).length * B ≤ r.length * B := Nat.mul_le_mul_right _ (by simp; omega)
        simp only [List.length_cons, Nat.succ_mul]
        omega
theorem ex_plain : ∀ l : List UInt8, (∀ c ∈ l, c ≠ 36 ∧ c ≠ 92) → ex val cwd js ns l = l
  | [], _ => rfl
  | c :: r, h => by
    obtain ⟨h1, h2⟩ := h c List.mem_cons_self
    rw [ex_none _ _ _ _ _ _ (by simp only [stepL, if_neg h1, if_neg h2]), ex_plain r (fun d hd => h d (List.mem_cons_of_mem _ hd))]
def quote : List UInt8 → List UInt8
  | [] => []
  | c :: r => if c = 92 ∨ c = 36 then 92 :: c :: quote r else c :: quote r
theorem quote_append (a b : List UInt8) : quote (a ++ b) = quote a ++ quote b := by
  induction a with
  | nil => rfl
  | cons c r ih => simp only [List.cons_append, quote, ih]; split <;> rfl
theorem quote_length : ∀ l : List UInt8, (quote l).length ≤ 2 * l.length
  | [] => Nat.le_refl _
  | c :: r => by have := quote_length r; simp only [quote]; split <;> simp <;> omega
theorem ex_quote : ∀ l : List UInt8, ex val cwd js ns (quote l) = l
  | [] => rfl
  | c :: r => by
    simp only [quote]
    split
    · rename_i h
      have hs : stepL val cwd js ns (92 :: c :: quote r) = some ([c], 2) := by
        rcases h with rfl | rfl
        · simp [stepL]
        · simp [stepL]
      rw [ex_some _ _ _ _ _ _ _ hs]
      show [c] ++ ex val cwd js ns (quote r) = c :: r
      rw [ex_quote r]; rfl
    · rename_i h
      rw [ex_none _ _ _ _ _ _ (by simp only [stepL]; rw [if_neg (fun e => h (.inr e)), if_neg (fun e => h (.inl e))]), ex_quote r]
theorem twl_blank (b : List UInt8) : ∀ a : List UInt8, twl (a ++ 32 :: b) = twl a
  | [] => by simp only [List.nil_append, twl]; rw [if_neg (by decide +kernel)]
  | c :: r => by simp only [List.cons_append, twl, twl_blank b r]
theorem brace_blank (a b : List UInt8) : brace (a ++ 32 :: b) = brace (a ++ [32]) ∧ (brace (a ++ [32])).length ≤ a.length := by
  have h1 := twl_blank b a
  have h2 := twl_blank [] a
  have h3 := twl_le a
  unfold brace
  rw [h1, h2]
  by_cases h0 : twl a = 0
  · rw [if_pos h0, if_pos h0]
    cases a with
    | nil =>
      have h32 : ¬ spc (((32 : UInt8).toNat : Nat) : Int) = true := by decide +kernel
      simp only [List.nil_append, if_neg h32]
      exact ⟨trivial, Nat.le_refl _⟩
    | cons c r => simp only [List.cons_append]; exact ⟨trivial, by split <;> simp⟩
  · rw [if_neg h0, if_neg h0, List.take_append_of_le_length h3, List.take_append_of_le_length h3]
    exact ⟨rfl, by rw [List.length_take]; omega⟩
theorem head_blank (a b : List UInt8) (n : Nat) (h : n ≤ a.length) : ((a ++ 32 :: b).drop n).head? = ((a ++ [32]).drop n).head? := by
  rw [List.head?_drop, List.head?_drop]
  rcases Nat.lt_or_ge n a.length with h1 | h1
  · rw [List.getElem?_append_left h1, List.getElem?_append_left h1]
  · obtain rfl : n = a.length := by omega
    simp
theorem parL_blank (a b : List UInt8) : parL (a ++ 32 :: b) = parL (a ++ [32]) ∧ (parL (a ++ [32])).2 ≤ a.length := by
  cases a with
  | nil =>
    have h : ∀ b, parL (32 :: b) = ([], 0) := by
      intro b
      rw [parL, if_neg (by decide +kernel), if_neg (by decide)]
      have : twl (32 :: b) = 0 := by simp only [twl]; rw [if_neg (by decide +kernel)]
      rw [this]; rfl
    simp only [List.nil_append, h]; exact ⟨trivial, Nat.le_refl _⟩
  | cons c r =>
    simp only [List.cons_append, parL]
    obtain ⟨h1, h2⟩ := brace_blank r b
    rw [h1, head_blank r b _ h2]
    by_cases hc : isDig (c.toNat : Int) = true ∨ spc (c.toNat : Int) = true
    · rw [if_pos hc, if_pos hc]; exact ⟨rfl, by simp⟩
    rw [if_neg hc, if_neg hc]
    by_cases hb : c = 123
    · rw [if_pos hb, if_pos hb]
      refine ⟨rfl, ?_⟩
      split
      · simp
      split
      · rename_i h4
        have h5 := head_lt h4
        rw [List.length_append] at h5
        rcases Nat.lt_or_ge (brace (r ++ [32])).length r.length with h6 | h6
        · simp; omega
        · have h7 : (brace (r ++ [32])).length = r.length := by omega
          rw [h7] at h4
          simp at h4
      · simp
    · rw [if_neg hb, if_neg hb]
      have t1 := twl_blank b (c :: r)
      have t2 := twl_blank [] (c :: r)
      have t3 := twl_le (c :: r)
      rw [List.cons_append] at t1 t2
      rw [t1, t2]
      rw [show c :: (r ++ 32 :: b) = (c :: r) ++ 32 :: b from rfl, show c :: (r ++ [32]) = (c :: r) ++ [32] from rfl, List.take_append_of_le_length t3, List.take_append_of_le_length t3]
      exact ⟨rfl, t3⟩
theorem step_blank (c : UInt8) (a b : List UInt8) : stepL val cwd js ns (c :: (a ++ 32 :: b)) = stepL val cwd js ns (c :: (a ++ [32])) ∧ (∀ t n, stepL val cwd js ns (c :: (a ++ [32])) = some (t, n) → n ≤ a.length + 1) := by
  obtain ⟨h1, h2⟩ := parL_blank a b
  simp only [stepL, h1]
  by_cases h36 : c = 36
  · rw [if_pos h36, if_pos h36]
    refine ⟨rfl, fun t n e => ?_⟩
    split at e
    · have := (Prod.mk.inj (Option.some.inj e)).2; omega
    · cases e
  rw [if_neg h36, if_neg h36]
  by_cases h92 : c = 92
  · rw [if_pos h92, if_pos h92]
    cases a with
    | nil =>
      simp only [List.nil_append]
      refine ⟨trivial, fun t n e => ?_⟩
      have : (if (32 : UInt8) = 119 then some (cwd, 2) else if (32 : UInt8) = 36 then some ([36], 2) else if (32 : UInt8) = 92 then some ([92], 2) else if (32 : UInt8) = 117 then some (val [85, 83, 69, 82], 2) else if (32 : UInt8) = 106 then some (js, 2) else if (32 : UInt8) = 33 then some (ns, 2) else if (32 : UInt8) = 110 then some ([10], 2) else none) = (none : Option (List UInt8 × Nat)) := by
        rw [if_neg (by decide), if_neg (by decide), if_neg (by decide), if_neg (by decide), if_neg (by decide), if_neg (by decide), if_neg (by decide)]
      rw [this] at e; cases e
    | cons d q =>
      simp only [List.cons_append]
      refine ⟨trivial, fun t n e => ?_⟩
      have two : ∀ u, some (u, 2) = some (t, n) → n ≤ (d :: q).length + 1 := by
        intro u e; have := (Prod.mk.inj (Option.some.inj e)).2; simp; omega
      repeat (first | (split at e; exact two _ e) | (split at e))
      all_goals first | exact two _ e | cases e
  · rw [if_neg h92, if_neg h92]; exact ⟨rfl, fun t n e => by cases e⟩
theorem ex_blank (b : List UInt8) : ∀ (n : Nat) (a : List UInt8), a.length ≤ n → ex val cwd js ns (a ++ 32 :: b) = ex val cwd js ns (a ++ [32]) ++ ex val cwd js ns b := by
  have base : ∀ b, ex val cwd js ns (32 :: b) = 32 :: ex val cwd js ns b := fun b => ex_none _ _ _ _ _ _ (by simp only [stepL]; rw [if_neg (by decide), if_neg (by decide)])
  intro n
  induction n with
  | zero =>
    intro a ha
    obtain rfl : a = [] := List.length_eq_zero_iff.1 (by omega)
    simp only [List.nil_append, base]; rfl
  | succ n ih =>
    intro a ha
    cases a with
    | nil => simp only [List.nil_append, base]; rfl
    | cons c r =>
      simp only [List.length_cons] at ha
      obtain ⟨h1, h2⟩ := step_blank val cwd js ns c r b
      simp only [List.cons_append]
      cases hs : stepL val cwd js ns (c :: (r ++ [32])) with
      | none =>
        rw [hs] at h1
        rw [ex_none _ _ _ _ _ _ h1, ex_none _ _ _ _ _ _ hs, ih r (by omega)]; rfl
      | some x =>
        obtain ⟨t, m⟩ := x
        have hm := h2 t m hs
        obtain ⟨g1, _⟩ := stepL_le val cwd js ns _ _ _ hs
        rw [hs] at h1
        rw [ex_some _ _ _ _ _ _ _ h1, ex_some _ _ _ _ _ _ _ hs]
        have d1 : (c :: (r ++ 32 :: b)).drop m = (c :: r).drop m ++ 32 :: b := by
          rw [show c :: (r ++ 32 :: b) = (c :: r) ++ 32 :: b from rfl, List.drop_append_of_le_length (by simp; omega)]
        have d2 : (c :: (r ++ [32])).drop m = (c :: r).drop m ++ [32] := by
          rw [show c :: (r ++ [32]) = (c :: r) ++ [32] from rfl, List.drop_append_of_le_length (by simp; omega)]
        rw [d1, d2, ih ((c :: r).drop m) (by simp; omega), List.append_assoc]
end
end Go.Proofs.YtiacdccnifjcjaaDoor.Pure
