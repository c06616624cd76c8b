/- The law TestexprOpposites: for every input the call returns true and leaves its arguments as they were; the variables that the row lists are tied to the program's text (a tied card). No condition beyond the row's own. -/
import Derived.Test.YtoeiohfljaboaaaDoorCards
import Derived.Test.YtoeiohfljaboaaaDoorTie
import Derived.WalkKit
import Derived.ProofKit
import Derived.OpenShut
import Derived.ShutString
import Derived.ChangeOld
import Derived.Below
import Derived.SizedLaws
import Derived.LaidMore
import Derived.Lay
import Derived.SevenTiedAt
import Derived.Stop.Joined
import Derived.Carry
import Derived.Test.YtoeiohfljaboaaaDoorB0
import Derived.Test.YtoeiohfljaboaaaDoorB3
import Derived.Test.YtoeiohfljaboaaaDoorB2
namespace Go.Proofs.YtoeiohfljaboaaaDoor.F
open Go.RowKit Go.Proofs.YtoeiohfljaboaaaDoorW.PrintWords Go.Proofs.YtoeiohfljaboaaaDoorW.PrintLast Go.Proofs.YtoeiohfljaboaaaDoorW.PrintMore
attribute [local go_sem] max2_int min2_int max_two min_two max_three min_three max_four min_four
set_option linter.unusedVariables false
set_option linter.unusedSimpArgs false
mutual
def jobshelllaw29_TestexprOpposites.j0 : Nat → ByteArray → ByteArray → Bool → Option (Bool)
 | 0, _, _, _ => none
 | k + 1, x0, x1, x19 => if x19 = true then ((jobshelllaw29_awake.f).bind fun t319 => (some t319)) else (jobshelllaw29_TestexprOpposites.l0 k x0 x1 (([(⟨#[61]⟩ : ByteArray), (⟨#[45, 101, 113]⟩ : ByteArray), (⟨#[45, 108, 116]⟩ : ByteArray), (⟨#[45, 103, 116]⟩ : ByteArray)] : List ByteArray)) (([(⟨#[33, 61]⟩ : ByteArray), (⟨#[45, 110, 101]⟩ : ByteArray), (⟨#[45, 103, 101]⟩ : ByteArray), (⟨#[45, 108, 101]⟩ : ByteArray)] : List ByteArray)) 0)
def jobshelllaw29_TestexprOpposites.l0 : Nat → ByteArray → ByteArray → List ByteArray → List ByteArray → Int → Option (Bool)
 | 0, _, _, _, _, _ => none
 | k + 1, x0, x1, x5, x6, x7 => if x7 < (x5.length : Int) then (if 0 ≤ x7 then ((jobshelllaw29_eval.f x0 (rdOf ByteArray.empty x5 x7) x1).bind fun bt328 => (if x7 < (x6.length : Int) then ((jobshelllaw29_eval.f x0 (rdOf ByteArray.empty x6 x7) x1).bind fun bt331 => (if bt328.2 = bt331.2 then (if bt328.2 = 0 then (if (bt328.1 == bt331.1) = true then (some false) else (if x7 = 0 then (if (bt328.1 != (x0.toList == x1.toList)) = true then (some false) else (jobshelllaw29_TestexprOpposites.l0 k x0 x1 x5 x6 (wrap64 (x7 + 1)))) else (jobshelllaw29_TestexprOpposites.l0 k x0 x1 x5 x6 (wrap64 (x7 + 1))))) else (if x7 = 0 then (some false) else (jobshelllaw29_TestexprOpposites.l0 k x0 x1 x5 x6 (wrap64 (x7 + 1))))) else (some false))) else (none))) else (none)) else ((jobshelllaw29_awake.f).bind fun t326 => (some t326))
end
def jobshelllaw29_TestexprOpposites.f (k : Nat) (a0 : ByteArray) (a1 : ByteArray) : Option (Bool) := if (a0.size : Int) > 40 then (jobshelllaw29_TestexprOpposites.j0 k a0 a1 true) else (jobshelllaw29_TestexprOpposites.j0 k a0 a1 (decide ((a1.size : Int) > 40)))
theorem jobshelllaw29_TestexprOpposites.mono_l : ∀ k, (∀ y0 y1 y2, LeO (jobshelllaw29_TestexprOpposites.j0 k y0 y1 y2) (jobshelllaw29_TestexprOpposites.j0 (k + 1) y0 y1 y2)) ∧ (∀ y0 y1 y2 y3 y4, LeO (jobshelllaw29_TestexprOpposites.l0 k y0 y1 y2 y3 y4) (jobshelllaw29_TestexprOpposites.l0 (k + 1) y0 y1 y2 y3 y4))
 | 0 => ⟨fun _ _ _ r h => by simp [jobshelllaw29_TestexprOpposites.j0] at h, fun _ _ _ _ _ r h => by simp [jobshelllaw29_TestexprOpposites.l0] at h⟩
 | k + 1 => by
  obtain ⟨ih0, ih1⟩ := jobshelllaw29_TestexprOpposites.mono_l k
  refine ⟨?_, ?_⟩
  ·intro y0 y1 y2
   unfold jobshelllaw29_TestexprOpposites.j0
   repeat' first
   | (with_reducible exact ih0 _ _ _)
   | (with_reducible exact ih1 _ _ _ _ _)
   | (with_reducible exact LeO.refl _)
   | (with_reducible exact LeO.none _)
   | (with_reducible refine LeO.ite ?_ ?_)
   | (with_reducible refine LeO.bind ?_ (fun _ => ?_))
   | exact ih0 _ _ _
   | exact ih1 _ _ _ _ _
   | exact LeO.none _
   | refine LeO.ite ?_ ?_
   | refine LeO.bind ?_ (fun _ => ?_)
  ·intro y0 y1 y2 y3 y4
   unfold jobshelllaw29_TestexprOpposites.l0
   repeat' first
   | (with_reducible exact ih0 _ _ _)
   | (with_reducible exact ih1 _ _ _ _ _)
   | (with_reducible exact LeO.refl _)
   | (with_reducible exact LeO.none _)
   | (with_reducible refine LeO.ite ?_ ?_)
   | (with_reducible refine LeO.bind ?_ (fun _ => ?_))
   | exact ih0 _ _ _
   | exact ih1 _ _ _ _ _
   | exact LeO.none _
   | refine LeO.ite ?_ ?_
   | refine LeO.bind ?_ (fun _ => ?_)
theorem jobshelllaw29_TestexprOpposites.mono : ∀ a0 a1 k, LeO (jobshelllaw29_TestexprOpposites.f k a0 a1) (jobshelllaw29_TestexprOpposites.f (k + 1) a0 a1) := by
 intro a0 a1 k
 obtain ⟨ih0, ih1⟩ := jobshelllaw29_TestexprOpposites.mono_l k
 unfold jobshelllaw29_TestexprOpposites.f
 repeat' first
   | (with_reducible exact ih0 _ _ _)
   | (with_reducible exact ih1 _ _ _ _ _)
   | (with_reducible exact LeO.refl _)
   | (with_reducible exact LeO.none _)
   | (with_reducible refine LeO.ite ?_ ?_)
   | (with_reducible refine LeO.bind ?_ (fun _ => ?_))
   | exact ih0 _ _ _
   | exact ih1 _ _ _ _ _
   | exact LeO.none _
   | refine LeO.ite ?_ ?_
   | refine LeO.bind ?_ (fun _ => ?_)
set_option maxHeartbeats 8000000 in
set_option maxRecDepth 100000 in
theorem jobshelllaw29_TestexprOpposites.calls (k : Nat) (a0 : ByteArray) (a1 : ByteArray) (r : Bool) (w : World) (hamb : AmbC w) (h : jobshelllaw29_TestexprOpposites.f k a0 a1 = some r) :
  Calls Tryd.prog 5 #[.string a0, .string a1] w fun e w' => e = .returned (.bool r) ∧ Below w.heap.size w w' := by
 have HAMB := Aside0.mk hamb
 clear hamb
 have HB := Aside0.mk (Below.refl w.heap.size w)
 have H : (if (a0.size : Int) > 40 then (jobshelllaw29_TestexprOpposites.j0 k a0 a1 true) else (jobshelllaw29_TestexprOpposites.j0 k a0 a1 (decide ((a1.size : Int) > 40)))) = some r := h
 clear h
 have HC3 := Aside0.mk H
 clear H
 go_enter Tryd.func5, Tryd.ntmps5
 go_upto_region 1 with (fail)
 go_cut [19] (fun v19 wc => ∃ (kq : Nat) (x19_2 : Bool), v19 = .bool x19_2 ∧ Aside0 (jobshelllaw29_TestexprOpposites.j0 kq a0 a1 x19_2 = some r) ∧ Aside0 (kq ≤ k) ∧ Aside0 (Below w.heap.size w wc))
 case first =>
  have H := HC3.out
  clear HC3
  by_cases c4 : (a0.size : Int) > 40
  ·rw [if_pos c4] at H
   have c4b0 : decide (40 < (a0.size : Int)) = true := decide_eq_true c4
   have c4b1 : decide (40 < a0.size) = true := decide_eq_true (by omega)
   clear c4
   (first | rw [c4b0] | (simp only [i64_w, i32_w]; rw [c4b0]) | skip)
   have H' := Aside0.mk H
   clear H
   go_wp2
   go_meet
   case rel => exact ⟨_, (true), (by first | rfl | (simp; done) | (simp [*]; done) | (simp [isE_ne]; done)), H', ⟨by first | omega | exact Nat.le_refl _⟩, ⟨by repeat (first | (with_reducible first | exact HB.out | apply below_alloc | apply pw_below_drewN | apply below_drew1) | exact HB.out)⟩⟩
  ·rw [if_neg c4] at H
   have c4b0 : decide (40 < (a0.size : Int)) = false := decide_eq_false c4
   have c4b1 : decide (40 < a0.size) = false := decide_eq_false (by omega)
   clear c4
   (first | rw [c4b0] | (simp only [i64_w, i32_w]; rw [c4b0]) | skip)
   have H' := Aside0.mk H
   clear H
   go_wp2
   go_meet
   case rel => exact ⟨_, (decide ((a1.size : Int) > 40)), (by first | rfl | (simp; done) | (simp [*]; done) | (simp [isE_ne]; done)), H', ⟨by first | omega | exact Nat.le_refl _⟩, ⟨by repeat (first | (with_reducible first | exact HB.out | apply below_alloc | apply pw_below_drewN | apply below_drew1) | exact HB.out)⟩⟩
 case rest =>
  clear HC3
  try clear p2
  try clear c4
  try clear c4b0
  try clear c4b1
  obtain ⟨kq, x19_2, rfl, HA, HJ2, HB⟩ := hcut
  cases kq with
  | zero => exact absurd HA.out (by simp [jobshelllaw29_TestexprOpposites.j0])
  | succ kj2 =>
   have H := HA.out
   clear HA
   simp only [jobshelllaw29_TestexprOpposites.j0] at H
   by_cases c5 : x19_2 = true
   ·subst c5
    have H1 : ((jobshelllaw29_awake.f).bind fun t319 => (some t319)) = some r := by rw [if_pos rfl] at H; exact H
    clear H
    have H := H1
    clear H1
    replace H := Option.bind_eq_some_iff.mp H
    obtain ⟨t319, A60, H⟩ := H
    replace H : (some t319) = some r := H
    have A6 := Aside0.mk A60
    clear A60
    obtain rfl := Option.some.inj H
    go_wp2_with (first | ((with_reducible refine gate_callee (f := 9) rfl ?_); refine goesL_ (some 20) rfl rfl Tryd.func9 (by kernel_rfl) rfl #[] rfl (by (try simp only [List.map_toArray, List.map_cons, List.map_nil]); first | done | rfl | (simp only [List.length_drop, List.length_take]; rfl)) ?_; (with_reducible refine (jobshelllaw29_awake.calls  t319 _ ?side1 A6.out).mono ?_); (case side1 => repeat (first | exact (AmbC_below HAMB.out HB.out) | (with_reducible refine AmbC_alloc ?_ _) | (with_reducible refine AmbC_drewN ?_ _) | (with_reducible refine AmbC_drew ?_))); rintro e w7 ⟨rfl, hb⟩; refine ⟨_, rfl, ?_⟩; have n0_ := Aside0.mk (below_step (by repeat (first | (with_reducible first | exact HB.out | apply below_alloc | apply pw_below_drewN | apply below_drew1) | exact HB.out)) hb); clear HB; have HB := n0_; clear n0_; (try clear hb); (try clear hb2); (try clear hk); (try clear hi)))
    go_ret
    exact ⟨by first | rfl | (simp [errW_none, errW_some] <;> rfl) | (simp [*, errW_none, errW_some] <;> rfl), by repeat (first | (with_reducible first | exact HB.out | apply below_alloc | apply pw_below_drewN | apply below_drew1) | exact HB.out)⟩
   ·replace c5 := Bool.eq_false_iff.mpr c5
    subst c5
    have H1 : (jobshelllaw29_TestexprOpposites.l0 kj2 a0 a1 (([(⟨#[61]⟩ : ByteArray), (⟨#[45, 101, 113]⟩ : ByteArray), (⟨#[45, 108, 116]⟩ : ByteArray), (⟨#[45, 103, 116]⟩ : ByteArray)] : List ByteArray)) (([(⟨#[33, 61]⟩ : ByteArray), (⟨#[45, 110, 101]⟩ : ByteArray), (⟨#[45, 103, 101]⟩ : ByteArray), (⟨#[45, 108, 101]⟩ : ByteArray)] : List ByteArray)) 0) = some r := by rw [if_neg (show ¬ (false = true) by decide)] at H; exact H
    clear H
    have H := H1
    clear H1
    obtain ⟨y320, hy320⟩ : ∃ y_ : List ByteArray, y_ = (([(⟨#[61]⟩ : ByteArray), (⟨#[45, 101, 113]⟩ : ByteArray), (⟨#[45, 108, 116]⟩ : ByteArray), (⟨#[45, 103, 116]⟩ : ByteArray)] : List ByteArray)) := ⟨_, rfl⟩
    replace H : (jobshelllaw29_TestexprOpposites.l0 kj2 a0 a1 y320 (([(⟨#[33, 61]⟩ : ByteArray), (⟨#[45, 110, 101]⟩ : ByteArray), (⟨#[45, 103, 101]⟩ : ByteArray), (⟨#[45, 108, 101]⟩ : ByteArray)] : List ByteArray)) 0) = some r := by first | (rw [hy320]; with_reducible exact H) | (have H2_ := (Option.bind_some _ _).symm.trans H; rw [hy320]; with_reducible exact H2_) | (have H2_ := (Option.bind_some _ _).symm.trans H; with_reducible exact H2_) | with_reducible exact H | (rw [hy320]; exact H) | exact H
    have Ny320 := Aside0.mk hy320
    clear hy320
    obtain ⟨y323, hy323⟩ : ∃ y_ : List ByteArray, y_ = (([(⟨#[33, 61]⟩ : ByteArray), (⟨#[45, 110, 101]⟩ : ByteArray), (⟨#[45, 103, 101]⟩ : ByteArray), (⟨#[45, 108, 101]⟩ : ByteArray)] : List ByteArray)) := ⟨_, rfl⟩
    replace H : (jobshelllaw29_TestexprOpposites.l0 kj2 a0 a1 y320 y323 0) = some r := by first | (rw [hy323]; with_reducible exact H) | (have H2_ := (Option.bind_some _ _).symm.trans H; rw [hy323]; with_reducible exact H2_) | (have H2_ := (Option.bind_some _ _).symm.trans H; with_reducible exact H2_) | with_reducible exact H | (rw [hy323]; exact H) | exact H
    have Ny323 := Aside0.mk hy323
    clear hy323
    have H' := Aside0.mk H
    clear H
    go_wp2_with (first | ((with_reducible refine gate_dst (N := 21) rfl ?_); (try (refine gate_guard (by rfl) ?_; dsimp only)); refine Kd.R_lit Kd.string _ 9 ?hg (N := 21) ?hd (xs := ([(⟨#[61]⟩ : ByteArray), (⟨#[45, 101, 113]⟩ : ByteArray), (⟨#[45, 108, 116]⟩ : ByteArray), (⟨#[45, 103, 116]⟩ : ByteArray)] : List ByteArray)) (inner := [.string (⟨#[61]⟩ : ByteArray), .string (⟨#[45, 101, 113]⟩ : ByteArray), .string (⟨#[45, 108, 116]⟩ : ByteArray), .string (⟨#[45, 103, 116]⟩ : ByteArray)]) (ok := fun _ => True) (okp := fun _ => True) ?hr ?hp (fun _ hk => hk) trivial (Below.refl _ _) (Nat.le_refl _) (by simp) ?_; (case hd => rfl); (case hg => rfl); (case hr => first | (go_simp; done) | (go_simp; rfl)); (case hp => exact (Reps.one (show Kd.M Kd.string _ _ _ (⟨#[61]⟩ : ByteArray) [.string (⟨#[61]⟩ : ByteArray)] from rfl) (Reps.one (show Kd.M Kd.string _ _ _ (⟨#[45, 101, 113]⟩ : ByteArray) [.string (⟨#[45, 101, 113]⟩ : ByteArray)] from rfl) (Reps.one (show Kd.M Kd.string _ _ _ (⟨#[45, 108, 116]⟩ : ByteArray) [.string (⟨#[45, 108, 116]⟩ : ByteArray)] from rfl) (Reps.one (show Kd.M Kd.string _ _ _ (⟨#[45, 103, 116]⟩ : ByteArray) [.string (⟨#[45, 103, 116]⟩ : ByteArray)] from rfl) (Reps.none _ _)))))); intro v321 w8 ho9 hb hg_ hnew_; clear hg_ hnew_; (first | rw [← Ny320.out] at ho9 | (simp only [Int.reduceToNat] at ho9; rw [← Ny320.out] at ho9)); have n0_ := Aside0.mk (Kd.R_lower ho9 (below_size (by repeat (first | (with_reducible first | exact HB.out | apply below_alloc | apply pw_below_drewN | apply below_drew1) | exact HB.out)))); have n1_ := Aside0.mk (below_step (by repeat (first | (with_reducible first | exact HB.out | apply below_alloc | apply pw_below_drewN | apply below_drew1) | exact HB.out)) hb); clear HB; have HO322 := n0_; have HB := n1_; clear n0_ n1_; clear hb ho9) | ((with_reducible refine gate_dst (N := 22) rfl ?_); (try (refine gate_guard (by rfl) ?_; dsimp only)); refine Kd.R_lit Kd.string _ 9 ?hg (N := 22) ?hd (xs := ([(⟨#[33, 61]⟩ : ByteArray), (⟨#[45, 110, 101]⟩ : ByteArray), (⟨#[45, 103, 101]⟩ : ByteArray), (⟨#[45, 108, 101]⟩ : ByteArray)] : List ByteArray)) (inner := [.string (⟨#[33, 61]⟩ : ByteArray), .string (⟨#[45, 110, 101]⟩ : ByteArray), .string (⟨#[45, 103, 101]⟩ : ByteArray), .string (⟨#[45, 108, 101]⟩ : ByteArray)]) (ok := fun _ => True) (okp := fun _ => True) ?hr ?hp (fun _ hk => hk) trivial (Below.refl _ _) (Nat.le_refl _) (by simp) ?_; (case hd => rfl); (case hg => rfl); (case hr => first | (go_simp; done) | (go_simp; rfl)); (case hp => exact (Reps.one (show Kd.M Kd.string _ _ _ (⟨#[33, 61]⟩ : ByteArray) [.string (⟨#[33, 61]⟩ : ByteArray)] from rfl) (Reps.one (show Kd.M Kd.string _ _ _ (⟨#[45, 110, 101]⟩ : ByteArray) [.string (⟨#[45, 110, 101]⟩ : ByteArray)] from rfl) (Reps.one (show Kd.M Kd.string _ _ _ (⟨#[45, 103, 101]⟩ : ByteArray) [.string (⟨#[45, 103, 101]⟩ : ByteArray)] from rfl) (Reps.one (show Kd.M Kd.string _ _ _ (⟨#[45, 108, 101]⟩ : ByteArray) [.string (⟨#[45, 108, 101]⟩ : ByteArray)] from rfl) (Reps.none _ _)))))); intro v324 w10 ho11 hb hg_ hnew_; clear hg_ hnew_; (first | rw [← Ny323.out] at ho11 | (simp only [Int.reduceToNat] at ho11; rw [← Ny323.out] at ho11)); have n0_ := Aside0.mk (Kd.R_elder' (by (with_reducible repeat (first | apply Kd.R_alloc | apply Kd.R_drewN | apply Kd.R_drew)); exact HO322.out) (Kd.R_base ho11) hb); have n1_ := Aside0.mk (Kd.R_lower (Kd.R_new' ho11 (Kd.R_lt (by (with_reducible repeat (first | apply Kd.R_alloc | apply Kd.R_drewN | apply Kd.R_drew)); exact HO322.out))) (below_size (by repeat (first | (with_reducible first | exact HB.out | apply below_alloc | apply pw_below_drewN | apply below_drew1) | exact HB.out)))); have n2_ := Aside0.mk (below_step (by repeat (first | (with_reducible first | exact HB.out | apply below_alloc | apply pw_below_drewN | apply below_drew1) | exact HB.out)) hb); clear HO322; clear HB; have HO322 := n0_; have HO325 := n1_; have HB := n2_; clear n0_ n1_ n2_; clear hb ho11))
    go_loopg [7] kj2 (fun kq v7 w' => ∃ (x7_2 : Int), v7 = .int .i64 x7_2 ∧ Aside0 (jobshelllaw29_TestexprOpposites.l0 kq a0 a1 y320 y323 x7_2 = some r) ∧ Aside0 (kq ≤ kj2) ∧ Aside0 (Kd.R Kd.string 9 w' w.heap.size (fun k_ => some k_ ≠ (v324 : Value).ownBlock) v321 y320) ∧ Aside0 (Kd.R Kd.string 9 w' w.heap.size (fun k_ => some k_ ≠ (v321 : Value).ownBlock) v324 y323) ∧ Aside0 (Below w.heap.size w w'))
    case atStart => exact ⟨(0), (by first | rfl | (simp; done) | (simp [*]; done) | (simp [isE_ne]; done)), H', ⟨Nat.le_refl _⟩, ⟨by (with_reducible repeat (first | apply Kd.R_alloc | apply Kd.R_drewN | apply Kd.R_drew)); exact Kd.R_mono HO322.out (fun _ hk => hk.2)⟩, ⟨by (with_reducible repeat (first | apply Kd.R_alloc | apply Kd.R_drewN | apply Kd.R_drew)); exact Kd.R_mono HO325.out (fun _ hk => hk.2)⟩, ⟨by repeat (first | (with_reducible first | exact HB.out | apply below_alloc | apply pw_below_drewN | apply below_drew1) | exact HB.out)⟩⟩
    case round =>
     clear H'
     try clear p2
     try clear c4
     try clear c4b0
     try clear c4b1
     try clear c5
     try clear c9
     try clear p2
     obtain ⟨x7_2, rfl, HA, HK2, HO_5, HO_6, HB⟩ := hrel
     cases gk with
     | zero => exact absurd HA.out (by simp [jobshelllaw29_TestexprOpposites.l0])
     | succ k2 =>
      have H := HA.out
      clear HA
      simp only [jobshelllaw29_TestexprOpposites.l0] at H
      by_cases c12 : x7_2 < (y320.length : Int)
      ·rw [if_pos c12] at H
       have c12b0 : decide (x7_2 < (y320.length : Int)) = true := decide_eq_true c12
       clear c12
       by_cases c13 : 0 ≤ x7_2
       ·rw [if_pos c13] at H
        have c13b0 : decide (0 ≤ x7_2) = true := decide_eq_true c13
        clear c13
        replace H := Option.bind_eq_some_iff.mp H
        obtain ⟨⟨t328, t329⟩, A140, H⟩ := H
        replace H : (if x7_2 < (y323.length : Int) then ((jobshelllaw29_eval.f a0 (rdOf ByteArray.empty y323 x7_2) a1).bind fun bt331 => (if t329 = bt331.2 then (if t329 = 0 then (if (t328 == bt331.1) = true then (some false) else (if x7_2 = 0 then (if (t328 != (a0.toList == a1.toList)) = true then (some false) else (jobshelllaw29_TestexprOpposites.l0 k2 a0 a1 y320 y323 (wrap64 (x7_2 + 1)))) else (jobshelllaw29_TestexprOpposites.l0 k2 a0 a1 y320 y323 (wrap64 (x7_2 + 1))))) else (if x7_2 = 0 then (some false) else (jobshelllaw29_TestexprOpposites.l0 k2 a0 a1 y320 y323 (wrap64 (x7_2 + 1))))) else (some false))) else (none)) = some r := H
        have A14 := Aside0.mk A140
        clear A140
        by_cases c15 : x7_2 < (y323.length : Int)
        ·rw [if_pos c15] at H
         have c15b0 : decide (x7_2 < (y323.length : Int)) = true := decide_eq_true c15
         clear c15
         replace H := Option.bind_eq_some_iff.mp H
         obtain ⟨⟨t331, t332⟩, A160, H⟩ := H
         replace H : (if t329 = t332 then (if t329 = 0 then (if (t328 == t331) = true then (some false) else (if x7_2 = 0 then (if (t328 != (a0.toList == a1.toList)) = true then (some false) else (jobshelllaw29_TestexprOpposites.l0 k2 a0 a1 y320 y323 (wrap64 (x7_2 + 1)))) else (jobshelllaw29_TestexprOpposites.l0 k2 a0 a1 y320 y323 (wrap64 (x7_2 + 1))))) else (if x7_2 = 0 then (some false) else (jobshelllaw29_TestexprOpposites.l0 k2 a0 a1 y320 y323 (wrap64 (x7_2 + 1))))) else (some false)) = some r := H
         have A16 := Aside0.mk A160
         clear A160
         by_cases c17 : t329 = t332
         ·rw [if_pos c17] at H
          have c17b0 : (t329 == t332) = true := beq_iff_eq.mpr c17
          have c17b1 : (t329 != t332) = false := bne_eq_false_iff_eq.mpr c17
          clear c17
          by_cases c18 : t329 = 0
          ·rw [if_pos c18] at H
           have c18b0 : (t329 == 0) = true := beq_iff_eq.mpr c18
           have c18b1 : (t329 != 0) = false := bne_eq_false_iff_eq.mpr c18
           clear c18
           by_cases c19 : (t328 == t331) = true
           ·rw [if_pos c19] at H
            have c19b0 : (t328 == t331) = true := c19
            (try (have c19b1 : decide (t328 = t331) = true := by simpa using c19))
            (try (have c19b2 : (t328 == t331) = true := by simpa using c19))
            clear c19
            obtain rfl := Option.some.inj H
            obtain ⟨Ao20, co20, eo20⟩ := Kd.R_slice HO_5.out
            subst eo20
            have p327 : 0 ≤ (x7_2 : Int) := of_decide_eq_true (by first | (with_reducible assumption) | assumption)
            have q327 : x7_2 < (y320.length : Int) := of_decide_eq_true (by first | (with_reducible assumption) | assumption)
            obtain ⟨ad327, e327, hx327_0⟩ := Kd.at_string (Kd.R_reads' HO_5.out).2.2 x7_2 p327 q327
            cases e327
            replace p327 := eq_true p327
            replace q327 := eq_true q327
            go_wp2_with (first | ((with_reducible refine gate_callee (f := 12) rfl ?_); refine goesL_ (some 36) rfl rfl Tryd.func12 (by kernel_rfl) rfl #[.string a0, .string (rdOf ByteArray.empty y320 x7_2), .string a1] rfl (by (try simp only [List.map_toArray, List.map_cons, List.map_nil]); first | done | rfl | (simp only [List.length_drop, List.length_take]; rfl)) ?_; (with_reducible refine (jobshelllaw29_eval.calls a0 (rdOf ByteArray.empty y320 x7_2) a1 t328 t329 _ ?side1 A14.out).mono ?_); (case side1 => repeat (first | exact (AmbC_below HAMB.out HB.out) | (with_reducible refine AmbC_alloc ?_ _) | (with_reducible refine AmbC_drewN ?_ _) | (with_reducible refine AmbC_drew ?_))); rintro e w21 ⟨rfl, hb⟩; refine ⟨_, rfl, ?_⟩; have n0_ := Aside0.mk (Kd.R_below (by (with_reducible repeat (first | apply Kd.R_alloc | apply Kd.R_drewN | apply Kd.R_drew)); exact HO_5.out) hb); have n1_ := Aside0.mk (Kd.R_below (by (with_reducible repeat (first | apply Kd.R_alloc | apply Kd.R_drewN | apply Kd.R_drew)); exact HO_6.out) hb); have n2_ := Aside0.mk (below_step (by repeat (first | (with_reducible first | exact HB.out | apply below_alloc | apply pw_below_drewN | apply below_drew1) | exact HB.out)) hb); clear HO_5; clear HO_6; clear HB; have HO_5 := n0_; have HO_6 := n1_; have HB := n2_; clear n0_ n1_ n2_; (try clear hb); (try clear hb2); (try clear hk); (try clear hi); obtain ⟨Ao22, co22, eo22⟩ := Kd.R_slice HO_6.out; subst eo22; have p330 : 0 ≤ (x7_2 : Int) := of_decide_eq_true (by first | (with_reducible assumption) | assumption); have q330 : x7_2 < (y323.length : Int) := of_decide_eq_true (by first | (with_reducible assumption) | assumption); obtain ⟨ad330, e330, hx330_0⟩ := Kd.at_string (Kd.R_reads' HO_6.out).2.2 x7_2 p330 q330; cases e330; replace p330 := eq_true p330; replace q330 := eq_true q330) | ((with_reducible refine gate_callee (f := 12) rfl ?_); refine goesL_ (some 46) rfl rfl Tryd.func12 (by kernel_rfl) rfl #[.string a0, .string (rdOf ByteArray.empty y323 x7_2), .string a1] rfl (by (try simp only [List.map_toArray, List.map_cons, List.map_nil]); first | done | rfl | (simp only [List.length_drop, List.length_take]; rfl)) ?_; (with_reducible refine (jobshelllaw29_eval.calls a0 (rdOf ByteArray.empty y323 x7_2) a1 t331 t332 _ ?side1 A16.out).mono ?_); (case side1 => repeat (first | exact (AmbC_below HAMB.out HB.out) | (with_reducible refine AmbC_alloc ?_ _) | (with_reducible refine AmbC_drewN ?_ _) | (with_reducible refine AmbC_drew ?_))); rintro e w23 ⟨rfl, hb⟩; refine ⟨_, rfl, ?_⟩; have n0_ := Aside0.mk (Kd.R_below (by (with_reducible repeat (first | apply Kd.R_alloc | apply Kd.R_drewN | apply Kd.R_drew)); exact HO_5.out) hb); have n1_ := Aside0.mk (Kd.R_below (by (with_reducible repeat (first | apply Kd.R_alloc | apply Kd.R_drewN | apply Kd.R_drew)); exact HO_6.out) hb); have n2_ := Aside0.mk (below_step (by repeat (first | (with_reducible first | exact HB.out | apply below_alloc | apply pw_below_drewN | apply below_drew1) | exact HB.out)) hb); clear HO_5; clear HO_6; clear HB; have HO_5 := n0_; have HO_6 := n1_; have HB := n2_; clear n0_ n1_ n2_; (try clear hb); (try clear hb2); (try clear hk); (try clear hi)))
            go_ret
            exact ⟨by first | rfl | (simp [errW_none, errW_some] <;> rfl) | (simp [*, errW_none, errW_some] <;> rfl), by repeat (first | (with_reducible first | exact HB.out | apply below_alloc | apply pw_below_drewN | apply below_drew1) | exact HB.out)⟩
           ·rw [if_neg c19] at H
            have c19b0 : (t328 == t331) = false := by simpa using c19
            (try (have c19b1 : decide (t328 = t331) = false := by simpa using c19))
            (try (have c19b2 : (t328 == t331) = false := by simpa using c19))
            (try (have c19b3 : ¬ (t328 = t331) := by simpa using c19))
            clear c19
            by_cases c24 : x7_2 = 0
            ·rw [if_pos c24] at H
             have c24b0 : (x7_2 == 0) = true := beq_iff_eq.mpr c24
             have c24b1 : (x7_2 != 0) = false := bne_eq_false_iff_eq.mpr c24
             clear c24
             by_cases c25 : (t328 != (a0.toList == a1.toList)) = true
             ·rw [if_pos c25] at H
              have c25b0 : (t328 != (a0.toList == a1.toList)) = true := c25
              (try (have c25b1 : decide (t328 = (a0.toList == a1.toList)) = false := by simpa using c25))
              (try (have c25b2 : (t328 == (a0.toList == a1.toList)) = false := by simpa using c25))
              (try (have c25b3 : ¬ (t328 = (a0.toList == a1.toList)) := by simpa using c25))
              clear c25
              obtain rfl := Option.some.inj H
              obtain ⟨Ao26, co26, eo26⟩ := Kd.R_slice HO_5.out
              subst eo26
              have p327 : 0 ≤ (x7_2 : Int) := of_decide_eq_true (by first | (with_reducible assumption) | assumption)
              have q327 : x7_2 < (y320.length : Int) := of_decide_eq_true (by first | (with_reducible assumption) | assumption)
              obtain ⟨ad327, e327, hx327_0⟩ := Kd.at_string (Kd.R_reads' HO_5.out).2.2 x7_2 p327 q327
              cases e327
              replace p327 := eq_true p327
              replace q327 := eq_true q327
              go_wp2_with (first | ((with_reducible refine gate_callee (f := 12) rfl ?_); refine goesL_ (some 36) rfl rfl Tryd.func12 (by kernel_rfl) rfl #[.string a0, .string (rdOf ByteArray.empty y320 x7_2), .string a1] rfl (by (try simp only [List.map_toArray, List.map_cons, List.map_nil]); first | done | rfl | (simp only [List.length_drop, List.length_take]; rfl)) ?_; (with_reducible refine (jobshelllaw29_eval.calls a0 (rdOf ByteArray.empty y320 x7_2) a1 t328 t329 _ ?side1 A14.out).mono ?_); (case side1 => repeat (first | exact (AmbC_below HAMB.out HB.out) | (with_reducible refine AmbC_alloc ?_ _) | (with_reducible refine AmbC_drewN ?_ _) | (with_reducible refine AmbC_drew ?_))); rintro e w27 ⟨rfl, hb⟩; refine ⟨_, rfl, ?_⟩; have n0_ := Aside0.mk (Kd.R_below (by (with_reducible repeat (first | apply Kd.R_alloc | apply Kd.R_drewN | apply Kd.R_drew)); exact HO_5.out) hb); have n1_ := Aside0.mk (Kd.R_below (by (with_reducible repeat (first | apply Kd.R_alloc | apply Kd.R_drewN | apply Kd.R_drew)); exact HO_6.out) hb); have n2_ := Aside0.mk (below_step (by repeat (first | (with_reducible first | exact HB.out | apply below_alloc | apply pw_below_drewN | apply below_drew1) | exact HB.out)) hb); clear HO_5; clear HO_6; clear HB; have HO_5 := n0_; have HO_6 := n1_; have HB := n2_; clear n0_ n1_ n2_; (try clear hb); (try clear hb2); (try clear hk); (try clear hi); obtain ⟨Ao28, co28, eo28⟩ := Kd.R_slice HO_6.out; subst eo28; have p330 : 0 ≤ (x7_2 : Int) := of_decide_eq_true (by first | (with_reducible assumption) | assumption); have q330 : x7_2 < (y323.length : Int) := of_decide_eq_true (by first | (with_reducible assumption) | assumption); obtain ⟨ad330, e330, hx330_0⟩ := Kd.at_string (Kd.R_reads' HO_6.out).2.2 x7_2 p330 q330; cases e330; replace p330 := eq_true p330; replace q330 := eq_true q330) | ((with_reducible refine gate_callee (f := 12) rfl ?_); refine goesL_ (some 46) rfl rfl Tryd.func12 (by kernel_rfl) rfl #[.string a0, .string (rdOf ByteArray.empty y323 x7_2), .string a1] rfl (by (try simp only [List.map_toArray, List.map_cons, List.map_nil]); first | done | rfl | (simp only [List.length_drop, List.length_take]; rfl)) ?_; (with_reducible refine (jobshelllaw29_eval.calls a0 (rdOf ByteArray.empty y323 x7_2) a1 t331 t332 _ ?side1 A16.out).mono ?_); (case side1 => repeat (first | exact (AmbC_below HAMB.out HB.out) | (with_reducible refine AmbC_alloc ?_ _) | (with_reducible refine AmbC_drewN ?_ _) | (with_reducible refine AmbC_drew ?_))); rintro e w29 ⟨rfl, hb⟩; refine ⟨_, rfl, ?_⟩; have n0_ := Aside0.mk (Kd.R_below (by (with_reducible repeat (first | apply Kd.R_alloc | apply Kd.R_drewN | apply Kd.R_drew)); exact HO_5.out) hb); have n1_ := Aside0.mk (Kd.R_below (by (with_reducible repeat (first | apply Kd.R_alloc | apply Kd.R_drewN | apply Kd.R_drew)); exact HO_6.out) hb); have n2_ := Aside0.mk (below_step (by repeat (first | (with_reducible first | exact HB.out | apply below_alloc | apply pw_below_drewN | apply below_drew1) | exact HB.out)) hb); clear HO_5; clear HO_6; clear HB; have HO_5 := n0_; have HO_6 := n1_; have HB := n2_; clear n0_ n1_ n2_; (try clear hb); (try clear hb2); (try clear hk); (try clear hi)))
              go_ret
              exact ⟨by first | rfl | (simp [errW_none, errW_some] <;> rfl) | (simp [*, errW_none, errW_some] <;> rfl), by repeat (first | (with_reducible first | exact HB.out | apply below_alloc | apply pw_below_drewN | apply below_drew1) | exact HB.out)⟩
             ·rw [if_neg c25] at H
              have c25b0 : (t328 != (a0.toList == a1.toList)) = false := by simpa using c25
              (try (have c25b1 : decide (t328 = (a0.toList == a1.toList)) = true := by simpa using c25))
              (try (have c25b2 : (t328 == (a0.toList == a1.toList)) = true := by simpa using c25))
              clear c25
              have H' := Aside0.mk H
              clear H
              obtain ⟨Ao30, co30, eo30⟩ := Kd.R_slice HO_5.out
              subst eo30
              have p327 : 0 ≤ (x7_2 : Int) := of_decide_eq_true (by first | (with_reducible assumption) | assumption)
              have q327 : x7_2 < (y320.length : Int) := of_decide_eq_true (by first | (with_reducible assumption) | assumption)
              obtain ⟨ad327, e327, hx327_0⟩ := Kd.at_string (Kd.R_reads' HO_5.out).2.2 x7_2 p327 q327
              cases e327
              replace p327 := eq_true p327
              replace q327 := eq_true q327
              go_wp2_with (first | ((with_reducible refine gate_callee (f := 12) rfl ?_); refine goesL_ (some 36) rfl rfl Tryd.func12 (by kernel_rfl) rfl #[.string a0, .string (rdOf ByteArray.empty y320 x7_2), .string a1] rfl (by (try simp only [List.map_toArray, List.map_cons, List.map_nil]); first | done | rfl | (simp only [List.length_drop, List.length_take]; rfl)) ?_; (with_reducible refine (jobshelllaw29_eval.calls a0 (rdOf ByteArray.empty y320 x7_2) a1 t328 t329 _ ?side1 A14.out).mono ?_); (case side1 => repeat (first | exact (AmbC_below HAMB.out HB.out) | (with_reducible refine AmbC_alloc ?_ _) | (with_reducible refine AmbC_drewN ?_ _) | (with_reducible refine AmbC_drew ?_))); rintro e w31 ⟨rfl, hb⟩; refine ⟨_, rfl, ?_⟩; have n0_ := Aside0.mk (Kd.R_below (by (with_reducible repeat (first | apply Kd.R_alloc | apply Kd.R_drewN | apply Kd.R_drew)); exact HO_5.out) hb); have n1_ := Aside0.mk (Kd.R_below (by (with_reducible repeat (first | apply Kd.R_alloc | apply Kd.R_drewN | apply Kd.R_drew)); exact HO_6.out) hb); have n2_ := Aside0.mk (below_step (by repeat (first | (with_reducible first | exact HB.out | apply below_alloc | apply pw_below_drewN | apply below_drew1) | exact HB.out)) hb); clear HO_5; clear HO_6; clear HB; have HO_5 := n0_; have HO_6 := n1_; have HB := n2_; clear n0_ n1_ n2_; (try clear hb); (try clear hb2); (try clear hk); (try clear hi); obtain ⟨Ao32, co32, eo32⟩ := Kd.R_slice HO_6.out; subst eo32; have p330 : 0 ≤ (x7_2 : Int) := of_decide_eq_true (by first | (with_reducible assumption) | assumption); have q330 : x7_2 < (y323.length : Int) := of_decide_eq_true (by first | (with_reducible assumption) | assumption); obtain ⟨ad330, e330, hx330_0⟩ := Kd.at_string (Kd.R_reads' HO_6.out).2.2 x7_2 p330 q330; cases e330; replace p330 := eq_true p330; replace q330 := eq_true q330) | ((with_reducible refine gate_callee (f := 12) rfl ?_); refine goesL_ (some 46) rfl rfl Tryd.func12 (by kernel_rfl) rfl #[.string a0, .string (rdOf ByteArray.empty y323 x7_2), .string a1] rfl (by (try simp only [List.map_toArray, List.map_cons, List.map_nil]); first | done | rfl | (simp only [List.length_drop, List.length_take]; rfl)) ?_; (with_reducible refine (jobshelllaw29_eval.calls a0 (rdOf ByteArray.empty y323 x7_2) a1 t331 t332 _ ?side1 A16.out).mono ?_); (case side1 => repeat (first | exact (AmbC_below HAMB.out HB.out) | (with_reducible refine AmbC_alloc ?_ _) | (with_reducible refine AmbC_drewN ?_ _) | (with_reducible refine AmbC_drew ?_))); rintro e w33 ⟨rfl, hb⟩; refine ⟨_, rfl, ?_⟩; have n0_ := Aside0.mk (Kd.R_below (by (with_reducible repeat (first | apply Kd.R_alloc | apply Kd.R_drewN | apply Kd.R_drew)); exact HO_5.out) hb); have n1_ := Aside0.mk (Kd.R_below (by (with_reducible repeat (first | apply Kd.R_alloc | apply Kd.R_drewN | apply Kd.R_drew)); exact HO_6.out) hb); have n2_ := Aside0.mk (below_step (by repeat (first | (with_reducible first | exact HB.out | apply below_alloc | apply pw_below_drewN | apply below_drew1) | exact HB.out)) hb); clear HO_5; clear HO_6; clear HB; have HO_5 := n0_; have HO_6 := n1_; have HB := n2_; clear n0_ n1_ n2_; (try clear hb); (try clear hb2); (try clear hk); (try clear hi)))
              go_roundg k2
              case measure => have := HJ2.out; have := HK2.out; omega
              case rel => exact ⟨(wrap64 (x7_2 + 1)), (by first | rfl | (simp; done) | (simp [*]; done) | (simp [isE_ne]; done)), H', ⟨by have := HJ2.out; have := HK2.out; omega⟩, ⟨by (with_reducible repeat (first | apply Kd.R_alloc | apply Kd.R_drewN | apply Kd.R_drew)); exact HO_5.out⟩, ⟨by (with_reducible repeat (first | apply Kd.R_alloc | apply Kd.R_drewN | apply Kd.R_drew)); exact HO_6.out⟩, ⟨by repeat (first | (with_reducible first | exact HB.out | apply below_alloc | apply pw_below_drewN | apply below_drew1) | exact HB.out)⟩⟩
            ·rw [if_neg c24] at H
             have c24b0 : (x7_2 == 0) = false := beq_eq_false_iff_ne.mpr c24
             have c24b1 : (x7_2 != 0) = true := bne_iff_ne.mpr c24
             have H' := Aside0.mk H
             clear H
             obtain ⟨Ao34, co34, eo34⟩ := Kd.R_slice HO_5.out
             subst eo34
             have p327 : 0 ≤ (x7_2 : Int) := of_decide_eq_true (by first | (with_reducible assumption) | assumption)
             have q327 : x7_2 < (y320.length : Int) := of_decide_eq_true (by first | (with_reducible assumption) | assumption)
             obtain ⟨ad327, e327, hx327_0⟩ := Kd.at_string (Kd.R_reads' HO_5.out).2.2 x7_2 p327 q327
             cases e327
             replace p327 := eq_true p327
             replace q327 := eq_true q327
             go_wp2_with (first | ((with_reducible refine gate_callee (f := 12) rfl ?_); refine goesL_ (some 36) rfl rfl Tryd.func12 (by kernel_rfl) rfl #[.string a0, .string (rdOf ByteArray.empty y320 x7_2), .string a1] rfl (by (try simp only [List.map_toArray, List.map_cons, List.map_nil]); first | done | rfl | (simp only [List.length_drop, List.length_take]; rfl)) ?_; (with_reducible refine (jobshelllaw29_eval.calls a0 (rdOf ByteArray.empty y320 x7_2) a1 t328 t329 _ ?side1 A14.out).mono ?_); (case side1 => repeat (first | exact (AmbC_below HAMB.out HB.out) | (with_reducible refine AmbC_alloc ?_ _) | (with_reducible refine AmbC_drewN ?_ _) | (with_reducible refine AmbC_drew ?_))); rintro e w35 ⟨rfl, hb⟩; refine ⟨_, rfl, ?_⟩; have n0_ := Aside0.mk (Kd.R_below (by (with_reducible repeat (first | apply Kd.R_alloc | apply Kd.R_drewN | apply Kd.R_drew)); exact HO_5.out) hb); have n1_ := Aside0.mk (Kd.R_below (by (with_reducible repeat (first | apply Kd.R_alloc | apply Kd.R_drewN | apply Kd.R_drew)); exact HO_6.out) hb); have n2_ := Aside0.mk (below_step (by repeat (first | (with_reducible first | exact HB.out | apply below_alloc | apply pw_below_drewN | apply below_drew1) | exact HB.out)) hb); clear HO_5; clear HO_6; clear HB; have HO_5 := n0_; have HO_6 := n1_; have HB := n2_; clear n0_ n1_ n2_; (try clear hb); (try clear hb2); (try clear hk); (try clear hi); obtain ⟨Ao36, co36, eo36⟩ := Kd.R_slice HO_6.out; subst eo36; have p330 : 0 ≤ (x7_2 : Int) := of_decide_eq_true (by first | (with_reducible assumption) | assumption); have q330 : x7_2 < (y323.length : Int) := of_decide_eq_true (by first | (with_reducible assumption) | assumption); obtain ⟨ad330, e330, hx330_0⟩ := Kd.at_string (Kd.R_reads' HO_6.out).2.2 x7_2 p330 q330; cases e330; replace p330 := eq_true p330; replace q330 := eq_true q330) | ((with_reducible refine gate_callee (f := 12) rfl ?_); refine goesL_ (some 46) rfl rfl Tryd.func12 (by kernel_rfl) rfl #[.string a0, .string (rdOf ByteArray.empty y323 x7_2), .string a1] rfl (by (try simp only [List.map_toArray, List.map_cons, List.map_nil]); first | done | rfl | (simp only [List.length_drop, List.length_take]; rfl)) ?_; (with_reducible refine (jobshelllaw29_eval.calls a0 (rdOf ByteArray.empty y323 x7_2) a1 t331 t332 _ ?side1 A16.out).mono ?_); (case side1 => repeat (first | exact (AmbC_below HAMB.out HB.out) | (with_reducible refine AmbC_alloc ?_ _) | (with_reducible refine AmbC_drewN ?_ _) | (with_reducible refine AmbC_drew ?_))); rintro e w37 ⟨rfl, hb⟩; refine ⟨_, rfl, ?_⟩; have n0_ := Aside0.mk (Kd.R_below (by (with_reducible repeat (first | apply Kd.R_alloc | apply Kd.R_drewN | apply Kd.R_drew)); exact HO_5.out) hb); have n1_ := Aside0.mk (Kd.R_below (by (with_reducible repeat (first | apply Kd.R_alloc | apply Kd.R_drewN | apply Kd.R_drew)); exact HO_6.out) hb); have n2_ := Aside0.mk (below_step (by repeat (first | (with_reducible first | exact HB.out | apply below_alloc | apply pw_below_drewN | apply below_drew1) | exact HB.out)) hb); clear HO_5; clear HO_6; clear HB; have HO_5 := n0_; have HO_6 := n1_; have HB := n2_; clear n0_ n1_ n2_; (try clear hb); (try clear hb2); (try clear hk); (try clear hi)))
             go_roundg k2
             case measure => have := HJ2.out; have := HK2.out; omega
             case rel => exact ⟨(wrap64 (x7_2 + 1)), (by first | rfl | (simp; done) | (simp [*]; done) | (simp [isE_ne]; done)), H', ⟨by have := HJ2.out; have := HK2.out; omega⟩, ⟨by (with_reducible repeat (first | apply Kd.R_alloc | apply Kd.R_drewN | apply Kd.R_drew)); exact HO_5.out⟩, ⟨by (with_reducible repeat (first | apply Kd.R_alloc | apply Kd.R_drewN | apply Kd.R_drew)); exact HO_6.out⟩, ⟨by repeat (first | (with_reducible first | exact HB.out | apply below_alloc | apply pw_below_drewN | apply below_drew1) | exact HB.out)⟩⟩
          ·rw [if_neg c18] at H
           have c18b0 : (t329 == 0) = false := beq_eq_false_iff_ne.mpr c18
           have c18b1 : (t329 != 0) = true := bne_iff_ne.mpr c18
           by_cases c38 : x7_2 = 0
           ·rw [if_pos c38] at H
            have c38b0 : (x7_2 == 0) = true := beq_iff_eq.mpr c38
            have c38b1 : (x7_2 != 0) = false := bne_eq_false_iff_eq.mpr c38
            clear c38
            obtain rfl := Option.some.inj H
            obtain ⟨Ao39, co39, eo39⟩ := Kd.R_slice HO_5.out
            subst eo39
            have p327 : 0 ≤ (x7_2 : Int) := of_decide_eq_true (by first | (with_reducible assumption) | assumption)
            have q327 : x7_2 < (y320.length : Int) := of_decide_eq_true (by first | (with_reducible assumption) | assumption)
            obtain ⟨ad327, e327, hx327_0⟩ := Kd.at_string (Kd.R_reads' HO_5.out).2.2 x7_2 p327 q327
            cases e327
            replace p327 := eq_true p327
            replace q327 := eq_true q327
            go_wp2_with (first | ((with_reducible refine gate_callee (f := 12) rfl ?_); refine goesL_ (some 36) rfl rfl Tryd.func12 (by kernel_rfl) rfl #[.string a0, .string (rdOf ByteArray.empty y320 x7_2), .string a1] rfl (by (try simp only [List.map_toArray, List.map_cons, List.map_nil]); first | done | rfl | (simp only [List.length_drop, List.length_take]; rfl)) ?_; (with_reducible refine (jobshelllaw29_eval.calls a0 (rdOf ByteArray.empty y320 x7_2) a1 t328 t329 _ ?side1 A14.out).mono ?_); (case side1 => repeat (first | exact (AmbC_below HAMB.out HB.out) | (with_reducible refine AmbC_alloc ?_ _) | (with_reducible refine AmbC_drewN ?_ _) | (with_reducible refine AmbC_drew ?_))); rintro e w40 ⟨rfl, hb⟩; refine ⟨_, rfl, ?_⟩; have n0_ := Aside0.mk (Kd.R_below (by (with_reducible repeat (first | apply Kd.R_alloc | apply Kd.R_drewN | apply Kd.R_drew)); exact HO_5.out) hb); have n1_ := Aside0.mk (Kd.R_below (by (with_reducible repeat (first | apply Kd.R_alloc | apply Kd.R_drewN | apply Kd.R_drew)); exact HO_6.out) hb); have n2_ := Aside0.mk (below_step (by repeat (first | (with_reducible first | exact HB.out | apply below_alloc | apply pw_below_drewN | apply below_drew1) | exact HB.out)) hb); clear HO_5; clear HO_6; clear HB; have HO_5 := n0_; have HO_6 := n1_; have HB := n2_; clear n0_ n1_ n2_; (try clear hb); (try clear hb2); (try clear hk); (try clear hi); obtain ⟨Ao41, co41, eo41⟩ := Kd.R_slice HO_6.out; subst eo41; have p330 : 0 ≤ (x7_2 : Int) := of_decide_eq_true (by first | (with_reducible assumption) | assumption); have q330 : x7_2 < (y323.length : Int) := of_decide_eq_true (by first | (with_reducible assumption) | assumption); obtain ⟨ad330, e330, hx330_0⟩ := Kd.at_string (Kd.R_reads' HO_6.out).2.2 x7_2 p330 q330; cases e330; replace p330 := eq_true p330; replace q330 := eq_true q330) | ((with_reducible refine gate_callee (f := 12) rfl ?_); refine goesL_ (some 46) rfl rfl Tryd.func12 (by kernel_rfl) rfl #[.string a0, .string (rdOf ByteArray.empty y323 x7_2), .string a1] rfl (by (try simp only [List.map_toArray, List.map_cons, List.map_nil]); first | done | rfl | (simp only [List.length_drop, List.length_take]; rfl)) ?_; (with_reducible refine (jobshelllaw29_eval.calls a0 (rdOf ByteArray.empty y323 x7_2) a1 t331 t332 _ ?side1 A16.out).mono ?_); (case side1 => repeat (first | exact (AmbC_below HAMB.out HB.out) | (with_reducible refine AmbC_alloc ?_ _) | (with_reducible refine AmbC_drewN ?_ _) | (with_reducible refine AmbC_drew ?_))); rintro e w42 ⟨rfl, hb⟩; refine ⟨_, rfl, ?_⟩; have n0_ := Aside0.mk (Kd.R_below (by (with_reducible repeat (first | apply Kd.R_alloc | apply Kd.R_drewN | apply Kd.R_drew)); exact HO_5.out) hb); have n1_ := Aside0.mk (Kd.R_below (by (with_reducible repeat (first | apply Kd.R_alloc | apply Kd.R_drewN | apply Kd.R_drew)); exact HO_6.out) hb); have n2_ := Aside0.mk (below_step (by repeat (first | (with_reducible first | exact HB.out | apply below_alloc | apply pw_below_drewN | apply below_drew1) | exact HB.out)) hb); clear HO_5; clear HO_6; clear HB; have HO_5 := n0_; have HO_6 := n1_; have HB := n2_; clear n0_ n1_ n2_; (try clear hb); (try clear hb2); (try clear hk); (try clear hi)))
            go_ret
            exact ⟨by first | rfl | (simp [errW_none, errW_some] <;> rfl) | (simp [*, errW_none, errW_some] <;> rfl), by repeat (first | (with_reducible first | exact HB.out | apply below_alloc | apply pw_below_drewN | apply below_drew1) | exact HB.out)⟩
           ·rw [if_neg c38] at H
            have c38b0 : (x7_2 == 0) = false := beq_eq_false_iff_ne.mpr c38
            have c38b1 : (x7_2 != 0) = true := bne_iff_ne.mpr c38
            have H' := Aside0.mk H
            clear H
            obtain ⟨Ao43, co43, eo43⟩ := Kd.R_slice HO_5.out
            subst eo43
            have p327 : 0 ≤ (x7_2 : Int) := of_decide_eq_true (by first | (with_reducible assumption) | assumption)
            have q327 : x7_2 < (y320.length : Int) := of_decide_eq_true (by first | (with_reducible assumption) | assumption)
            obtain ⟨ad327, e327, hx327_0⟩ := Kd.at_string (Kd.R_reads' HO_5.out).2.2 x7_2 p327 q327
            cases e327
            replace p327 := eq_true p327
            replace q327 := eq_true q327
            go_wp2_with (first | ((with_reducible refine gate_callee (f := 12) rfl ?_); refine goesL_ (some 36) rfl rfl Tryd.func12 (by kernel_rfl) rfl #[.string a0, .string (rdOf ByteArray.empty y320 x7_2), .string a1] rfl (by (try simp only [List.map_toArray, List.map_cons, List.map_nil]); first | done | rfl | (simp only [List.length_drop, List.length_take]; rfl)) ?_; (with_reducible refine (jobshelllaw29_eval.calls a0 (rdOf ByteArray.empty y320 x7_2) a1 t328 t329 _ ?side1 A14.out).mono ?_); (case side1 => repeat (first | exact (AmbC_below HAMB.out HB.out) | (with_reducible refine AmbC_alloc ?_ _) | (with_reducible refine AmbC_drewN ?_ _) | (with_reducible refine AmbC_drew ?_))); rintro e w44 ⟨rfl, hb⟩; refine ⟨_, rfl, ?_⟩; have n0_ := Aside0.mk (Kd.R_below (by (with_reducible repeat (first | apply Kd.R_alloc | apply Kd.R_drewN | apply Kd.R_drew)); exact HO_5.out) hb); have n1_ := Aside0.mk (Kd.R_below (by (with_reducible repeat (first | apply Kd.R_alloc | apply Kd.R_drewN | apply Kd.R_drew)); exact HO_6.out) hb); have n2_ := Aside0.mk (below_step (by repeat (first | (with_reducible first | exact HB.out | apply below_alloc | apply pw_below_drewN | apply below_drew1) | exact HB.out)) hb); clear HO_5; clear HO_6; clear HB; have HO_5 := n0_; have HO_6 := n1_; have HB := n2_; clear n0_ n1_ n2_; (try clear hb); (try clear hb2); (try clear hk); (try clear hi); obtain ⟨Ao45, co45, eo45⟩ := Kd.R_slice HO_6.out; subst eo45; have p330 : 0 ≤ (x7_2 : Int) := of_decide_eq_true (by first | (with_reducible assumption) | assumption); have q330 : x7_2 < (y323.length : Int) := of_decide_eq_true (by first | (with_reducible assumption) | assumption); obtain ⟨ad330, e330, hx330_0⟩ := Kd.at_string (Kd.R_reads' HO_6.out).2.2 x7_2 p330 q330; cases e330; replace p330 := eq_true p330; replace q330 := eq_true q330) | ((with_reducible refine gate_callee (f := 12) rfl ?_); refine goesL_ (some 46) rfl rfl Tryd.func12 (by kernel_rfl) rfl #[.string a0, .string (rdOf ByteArray.empty y323 x7_2), .string a1] rfl (by (try simp only [List.map_toArray, List.map_cons, List.map_nil]); first | done | rfl | (simp only [List.length_drop, List.length_take]; rfl)) ?_; (with_reducible refine (jobshelllaw29_eval.calls a0 (rdOf ByteArray.empty y323 x7_2) a1 t331 t332 _ ?side1 A16.out).mono ?_); (case side1 => repeat (first | exact (AmbC_below HAMB.out HB.out) | (with_reducible refine AmbC_alloc ?_ _) | (with_reducible refine AmbC_drewN ?_ _) | (with_reducible refine AmbC_drew ?_))); rintro e w46 ⟨rfl, hb⟩; refine ⟨_, rfl, ?_⟩; have n0_ := Aside0.mk (Kd.R_below (by (with_reducible repeat (first | apply Kd.R_alloc | apply Kd.R_drewN | apply Kd.R_drew)); exact HO_5.out) hb); have n1_ := Aside0.mk (Kd.R_below (by (with_reducible repeat (first | apply Kd.R_alloc | apply Kd.R_drewN | apply Kd.R_drew)); exact HO_6.out) hb); have n2_ := Aside0.mk (below_step (by repeat (first | (with_reducible first | exact HB.out | apply below_alloc | apply pw_below_drewN | apply below_drew1) | exact HB.out)) hb); clear HO_5; clear HO_6; clear HB; have HO_5 := n0_; have HO_6 := n1_; have HB := n2_; clear n0_ n1_ n2_; (try clear hb); (try clear hb2); (try clear hk); (try clear hi)))
            go_roundg k2
            case measure => have := HJ2.out; have := HK2.out; omega
            case rel => exact ⟨(wrap64 (x7_2 + 1)), (by first | rfl | (simp; done) | (simp [*]; done) | (simp [isE_ne]; done)), H', ⟨by have := HJ2.out; have := HK2.out; omega⟩, ⟨by (with_reducible repeat (first | apply Kd.R_alloc | apply Kd.R_drewN | apply Kd.R_drew)); exact HO_5.out⟩, ⟨by (with_reducible repeat (first | apply Kd.R_alloc | apply Kd.R_drewN | apply Kd.R_drew)); exact HO_6.out⟩, ⟨by repeat (first | (with_reducible first | exact HB.out | apply below_alloc | apply pw_below_drewN | apply below_drew1) | exact HB.out)⟩⟩
         ·rw [if_neg c17] at H
          have c17b0 : (t329 == t332) = false := beq_eq_false_iff_ne.mpr c17
          have c17b1 : (t329 != t332) = true := bne_iff_ne.mpr c17
          obtain rfl := Option.some.inj H
          obtain ⟨Ao47, co47, eo47⟩ := Kd.R_slice HO_5.out
          subst eo47
          have p327 : 0 ≤ (x7_2 : Int) := of_decide_eq_true (by first | (with_reducible assumption) | assumption)
          have q327 : x7_2 < (y320.length : Int) := of_decide_eq_true (by first | (with_reducible assumption) | assumption)
          obtain ⟨ad327, e327, hx327_0⟩ := Kd.at_string (Kd.R_reads' HO_5.out).2.2 x7_2 p327 q327
          cases e327
          replace p327 := eq_true p327
          replace q327 := eq_true q327
          go_wp2_with (first | ((with_reducible refine gate_callee (f := 12) rfl ?_); refine goesL_ (some 36) rfl rfl Tryd.func12 (by kernel_rfl) rfl #[.string a0, .string (rdOf ByteArray.empty y320 x7_2), .string a1] rfl (by (try simp only [List.map_toArray, List.map_cons, List.map_nil]); first | done | rfl | (simp only [List.length_drop, List.length_take]; rfl)) ?_; (with_reducible refine (jobshelllaw29_eval.calls a0 (rdOf ByteArray.empty y320 x7_2) a1 t328 t329 _ ?side1 A14.out).mono ?_); (case side1 => repeat (first | exact (AmbC_below HAMB.out HB.out) | (with_reducible refine AmbC_alloc ?_ _) | (with_reducible refine AmbC_drewN ?_ _) | (with_reducible refine AmbC_drew ?_))); rintro e w48 ⟨rfl, hb⟩; refine ⟨_, rfl, ?_⟩; have n0_ := Aside0.mk (Kd.R_below (by (with_reducible repeat (first | apply Kd.R_alloc | apply Kd.R_drewN | apply Kd.R_drew)); exact HO_5.out) hb); have n1_ := Aside0.mk (Kd.R_below (by (with_reducible repeat (first | apply Kd.R_alloc | apply Kd.R_drewN | apply Kd.R_drew)); exact HO_6.out) hb); have n2_ := Aside0.mk (below_step (by repeat (first | (with_reducible first | exact HB.out | apply below_alloc | apply pw_below_drewN | apply below_drew1) | exact HB.out)) hb); clear HO_5; clear HO_6; clear HB; have HO_5 := n0_; have HO_6 := n1_; have HB := n2_; clear n0_ n1_ n2_; (try clear hb); (try clear hb2); (try clear hk); (try clear hi); obtain ⟨Ao49, co49, eo49⟩ := Kd.R_slice HO_6.out; subst eo49; have p330 : 0 ≤ (x7_2 : Int) := of_decide_eq_true (by first | (with_reducible assumption) | assumption); have q330 : x7_2 < (y323.length : Int) := of_decide_eq_true (by first | (with_reducible assumption) | assumption); obtain ⟨ad330, e330, hx330_0⟩ := Kd.at_string (Kd.R_reads' HO_6.out).2.2 x7_2 p330 q330; cases e330; replace p330 := eq_true p330; replace q330 := eq_true q330) | ((with_reducible refine gate_callee (f := 12) rfl ?_); refine goesL_ (some 46) rfl rfl Tryd.func12 (by kernel_rfl) rfl #[.string a0, .string (rdOf ByteArray.empty y323 x7_2), .string a1] rfl (by (try simp only [List.map_toArray, List.map_cons, List.map_nil]); first | done | rfl | (simp only [List.length_drop, List.length_take]; rfl)) ?_; (with_reducible refine (jobshelllaw29_eval.calls a0 (rdOf ByteArray.empty y323 x7_2) a1 t331 t332 _ ?side1 A16.out).mono ?_); (case side1 => repeat (first | exact (AmbC_below HAMB.out HB.out) | (with_reducible refine AmbC_alloc ?_ _) | (with_reducible refine AmbC_drewN ?_ _) | (with_reducible refine AmbC_drew ?_))); rintro e w50 ⟨rfl, hb⟩; refine ⟨_, rfl, ?_⟩; have n0_ := Aside0.mk (Kd.R_below (by (with_reducible repeat (first | apply Kd.R_alloc | apply Kd.R_drewN | apply Kd.R_drew)); exact HO_5.out) hb); have n1_ := Aside0.mk (Kd.R_below (by (with_reducible repeat (first | apply Kd.R_alloc | apply Kd.R_drewN | apply Kd.R_drew)); exact HO_6.out) hb); have n2_ := Aside0.mk (below_step (by repeat (first | (with_reducible first | exact HB.out | apply below_alloc | apply pw_below_drewN | apply below_drew1) | exact HB.out)) hb); clear HO_5; clear HO_6; clear HB; have HO_5 := n0_; have HO_6 := n1_; have HB := n2_; clear n0_ n1_ n2_; (try clear hb); (try clear hb2); (try clear hk); (try clear hi)))
          go_ret
          exact ⟨by first | rfl | (simp [errW_none, errW_some] <;> rfl) | (simp [*, errW_none, errW_some] <;> rfl), by repeat (first | (with_reducible first | exact HB.out | apply below_alloc | apply pw_below_drewN | apply below_drew1) | exact HB.out)⟩
        ·rw [if_neg c15] at H
         exact absurd H (by simp)
       ·rw [if_neg c13] at H
        exact absurd H (by simp)
      ·rw [if_neg c12] at H
       have c12b0 : decide (x7_2 < (y320.length : Int)) = false := decide_eq_false c12
       clear c12
       replace H := Option.bind_eq_some_iff.mp H
       obtain ⟨t326, A510, H⟩ := H
       replace H : (some t326) = some r := H
       have A51 := Aside0.mk A510
       clear A510
       obtain rfl := Option.some.inj H
       obtain ⟨Ao52, co52, eo52⟩ := Kd.R_slice HO_5.out
       subst eo52
       go_wp2_with (first | ((with_reducible refine gate_callee (f := 9) rfl ?_); refine goesL_ (some 76) rfl rfl Tryd.func9 (by kernel_rfl) rfl #[] rfl (by (try simp only [List.map_toArray, List.map_cons, List.map_nil]); first | done | rfl | (simp only [List.length_drop, List.length_take]; rfl)) ?_; (with_reducible refine (jobshelllaw29_awake.calls  t326 _ ?side1 A51.out).mono ?_); (case side1 => repeat (first | exact (AmbC_below HAMB.out HB.out) | (with_reducible refine AmbC_alloc ?_ _) | (with_reducible refine AmbC_drewN ?_ _) | (with_reducible refine AmbC_drew ?_))); rintro e w53 ⟨rfl, hb⟩; refine ⟨_, rfl, ?_⟩; have n0_ := Aside0.mk (Kd.R_below (by (with_reducible repeat (first | apply Kd.R_alloc | apply Kd.R_drewN | apply Kd.R_drew)); exact HO_5.out) hb); have n1_ := Aside0.mk (Kd.R_below (by (with_reducible repeat (first | apply Kd.R_alloc | apply Kd.R_drewN | apply Kd.R_drew)); exact HO_6.out) hb); have n2_ := Aside0.mk (below_step (by repeat (first | (with_reducible first | exact HB.out | apply below_alloc | apply pw_below_drewN | apply below_drew1) | exact HB.out)) hb); clear HO_5; clear HO_6; clear HB; have HO_5 := n0_; have HO_6 := n1_; have HB := n2_; clear n0_ n1_ n2_; (try clear hb); (try clear hb2); (try clear hk); (try clear hi)))
       go_ret
       exact ⟨by first | rfl | (simp [errW_none, errW_some] <;> rfl) | (simp [*, errW_none, errW_some] <;> rfl), by repeat (first | (with_reducible first | exact HB.out | apply below_alloc | apply pw_below_drewN | apply below_drew1) | exact HB.out)⟩
end Go.Proofs.YtoeiohfljaboaaaDoor.F
set_option linter.unusedVariables false
set_option linter.unusedSimpArgs false
namespace Go.Proofs.YtoeiohfljaboaaaDoor.Pure
open Go.RowKit Go.Proofs.YtoeiohfljaboaaaDoor.F Go.Proofs.YtoeiohfljaboaaaDoorW.PrintWords
theorem awake_ok : jobshelllaw29_awake.f = some true := by decide +kernel
theorem opp_step (a b : ByteArray) (L M : List ByteArray) (i k : Nat) (v w : Bool) (e : Int) (hi : i < L.length) (hm : i < M.length) (hs : i < 100)
    (h1 : jobshelllaw29_eval.f a (rdOf ByteArray.empty L i) b = some (v, e)) (h2 : jobshelllaw29_eval.f a (rdOf ByteArray.empty M i) b = some (w, e)) (hv : e = 0 → (v == w) = false) (h0 : i = 0 → e = 0 ∧ v = (a.toList == b.toList)) :
    jobshelllaw29_TestexprOpposites.l0 (k + 1) a b L M i = jobshelllaw29_TestexprOpposites.l0 k a b L M ((i + 1 : Nat) : Int) := by
  rw [jobshelllaw29_TestexprOpposites.l0, if_pos (by omega), if_pos (by omega), h1, Option.bind_some, if_pos (by omega), h2, Option.bind_some, if_pos rfl, wrap_succ (by omega)]
  by_cases he : e = 0
  · rw [if_pos he, hv he, if_neg (by decide)]
    by_cases hi0 : i = 0
    · subst hi0
      have hv0 := (h0 rfl).2
      rw [if_pos (by rfl), hv0]
      rw [if_neg (by simp)]
    · rw [if_neg (by omega)]
  · rw [if_neg he]
    by_cases hi0 : i = 0
    · exact absurd (h0 hi0).1 he
    · rw [if_neg (by omega)]
theorem TestexprOpposites (a0 a1 : ByteArray) (w0 : a0.size ≤ 140737488351232) (w1 : a1.size ≤ 140737488351232) : ∃ k, jobshelllaw29_TestexprOpposites.f k a0 a1 = some true := by
  refine ⟨10, ?_⟩
  have aw : jobshelllaw29_TestexprOpposites.j0 10 a0 a1 true = some true := by rw [jobshelllaw29_TestexprOpposites.j0, if_pos rfl, awake_ok]; rfl
  unfold jobshelllaw29_TestexprOpposites.f
  by_cases h1 : (a0.size : Int) > 40
  · rw [if_pos h1]; exact aw
  rw [if_neg h1]
  by_cases h2 : (a1.size : Int) > 40
  · rw [decide_eq_true h2]; exact aw
  rw [decide_eq_false h2, jobshelllaw29_TestexprOpposites.j0, if_neg (by decide)]
  have num := fun (op : ByteArray) (ho : bB op = true) (n1 : ¬ op.toList = [61]) (n2 : ¬ op.toList = [33, 61]) => law_num a0 op a1 ho n1 n2 (by omega) (by omega)
  have e0 := law_eval a0 (⟨#[61]⟩ : ByteArray) a1 (by decide +kernel) _ _ (tTwo_text a0 _ a1 false (by decide +kernel))
  have e1 := law_eval a0 (⟨#[33, 61]⟩ : ByteArray) a1 (by decide +kernel) _ _ (tTwo_text a0 _ a1 false (by decide +kernel))
  have q0 : ((⟨#[61]⟩ : ByteArray).toList == ([61] : List UInt8)) = true := by decide +kernel
  have q1 : ((⟨#[33, 61]⟩ : ByteArray).toList == ([61] : List UInt8)) = false := by decide +kernel
  rw [q0] at e0
  rw [q1] at e1
  have n0 := num (⟨#[45, 101, 113]⟩ : ByteArray) (by decide +kernel) (by decide +kernel) (by decide +kernel)
  have n1 := num (⟨#[45, 110, 101]⟩ : ByteArray) (by decide +kernel) (by decide +kernel) (by decide +kernel)
  have n2 := num (⟨#[45, 108, 116]⟩ : ByteArray) (by decide +kernel) (by decide +kernel) (by decide +kernel)
  have n3 := num (⟨#[45, 103, 101]⟩ : ByteArray) (by decide +kernel) (by decide +kernel) (by decide +kernel)
  have n4 := num (⟨#[45, 103, 116]⟩ : ByteArray) (by decide +kernel) (by decide +kernel) (by decide +kernel)
  have n5 := num (⟨#[45, 108, 101]⟩ : ByteArray) (by decide +kernel) (by decide +kernel) (by decide +kernel)
  have c0 : ∀ x y, cmpI (⟨#[45, 101, 113]⟩ : ByteArray) x y = (x == y) := fun x y => by unfold cmpI; rw [if_pos (by decide +kernel)]
  have c1 : ∀ x y, cmpI (⟨#[45, 110, 101]⟩ : ByteArray) x y = (x != y) := fun x y => by unfold cmpI; rw [if_neg (by decide +kernel), if_pos (by decide +kernel)]
  have c2 : ∀ x y, cmpI (⟨#[45, 108, 116]⟩ : ByteArray) x y = decide (x < y) := fun x y => by unfold cmpI; rw [if_neg (by decide +kernel), if_neg (by decide +kernel), if_pos (by decide +kernel)]
  have c3 : ∀ x y, cmpI (⟨#[45, 103, 101]⟩ : ByteArray) x y = decide (y ≤ x) := fun x y => by unfold cmpI; rw [if_neg (by decide +kernel), if_neg (by decide +kernel), if_neg (by decide +kernel), if_neg (by decide +kernel), if_neg (by decide +kernel)]
  have c4 : ∀ x y, cmpI (⟨#[45, 103, 116]⟩ : ByteArray) x y = decide (y < x) := fun x y => by unfold cmpI; rw [if_neg (by decide +kernel), if_neg (by decide +kernel), if_neg (by decide +kernel), if_neg (by decide +kernel), if_pos (by decide +kernel)]
  have c5 : ∀ x y, cmpI (⟨#[45, 108, 101]⟩ : ByteArray) x y = decide (x ≤ y) := fun x y => by unfold cmpI; rw [if_neg (by decide +kernel), if_neg (by decide +kernel), if_neg (by decide +kernel), if_pos (by decide +kernel)]
  rw [c0] at n0; rw [c1] at n1; rw [c2] at n2; rw [c3] at n3; rw [c4] at n4; rw [c5] at n5
  generalize (intP a0.data.toList).1 = x at *
  generalize (intP a1.data.toList).1 = y at *
  generalize (intP a0.data.toList).2 = p at *
  generalize (intP a1.data.toList).2 = q at *
  have s0 := opp_step a0 a1 [(⟨#[61]⟩ : ByteArray), (⟨#[45, 101, 113]⟩ : ByteArray), (⟨#[45, 108, 116]⟩ : ByteArray), (⟨#[45, 103, 116]⟩ : ByteArray)] [(⟨#[33, 61]⟩ : ByteArray), (⟨#[45, 110, 101]⟩ : ByteArray), (⟨#[45, 103, 101]⟩ : ByteArray), (⟨#[45, 108, 101]⟩ : ByteArray)]
  have eqc : ∀ u v : Bool, (u == true) = u := by decide
  have fin : ∀ (v w : Bool), (if p = true ∧ q = true then (v, (0 : Int)) else (false, 1)) = (if p = true ∧ q = true then v else false, if p = true ∧ q = true then 0 else 1) := by intro v w; split <;> rfl
  have dif : ∀ (v w : Bool), v = !w → (if p = true ∧ q = true then (0 : Int) else 1) = 0 → ((if p = true ∧ q = true then v else false) == (if p = true ∧ q = true then w else false)) = false := by
    intro v w hv h
    split at h
    · rename_i hc; rw [if_pos hc, if_pos hc, hv]; cases w <;> rfl
    · cases h
  rw [fin _ true] at n0 n1 n2 n3 n4 n5
  show jobshelllaw29_TestexprOpposites.l0 9 a0 a1 _ _ ((0 : Nat) : Int) = some true
  rw [s0 0 8 _ _ 0 (by decide) (by decide) (by decide) e0 e1 (fun _ => by cases (a0.toList == a1.toList) <;> rfl) (fun _ => ⟨rfl, by cases (a0.toList == a1.toList) <;> rfl⟩)]
  rw [s0 1 7 _ _ _ (by decide) (by decide) (by decide) n0 n1 (dif _ _ (by simp [bne])) (fun h => by omega)]
  rw [s0 2 6 _ _ _ (by decide) (by decide) (by decide) n2 n3 (dif _ _ (by by_cases h : x < y <;> simp [h] <;> omega)) (fun h => by omega)]
  rw [s0 3 5 _ _ _ (by decide) (by decide) (by decide) n4 n5 (dif _ _ (by by_cases h : y < x <;> simp [h] <;> omega)) (fun h => by omega)]
  rw [jobshelllaw29_TestexprOpposites.l0, if_neg (by decide), awake_ok]; rfl
end Go.Proofs.YtoeiohfljaboaaaDoor.Pure
namespace Go.Proofs.YtoeiohfljaboaaaDoor.testexprOpposites
open Go.ChangeShapes Go.WideShapes Go.ChangeAt Go.RowKit
open Go.ChangeMaps (open_string shut_string)
open Go.Proofs.YtoeiohfljaboaaaDoor.F Go.Proofs.YtoeiohfljaboaaaDoorW.PrintWords Go.Proofs.YtoeiohfljaboaaaDoor.Opn
set_option linter.unusedVariables false
set_option linter.unusedSimpArgs false
theorem own : ownKnob Tryd.prog.godebug = none := by kernel_rfl
theorem laidOut : laidOutB Tryd.prog = true := by kernel_rfl
set_option maxRecDepth 100000 in
set_option maxHeartbeats 1000000 in
theorem lifted (os : Os) (started : os.Started) (H : Type) (enc : TypeId × Value → H) :
    ReturnsInHanded {} Tryd.checked os 5 .any (fun w args => (Rows.testexprOppositesSpec.pre enc Tryd.prog Tryd.f5 [] false w args ∧ laidMetH Tryd.prog Rows.testexprOppositesRow.laid w) ∧ sizedMet enc Tryd.prog Tryd.f5 (OpenSpec.ofChange Rows.testexprOppositesSpec) false w args)
      (Rows.testexprOppositesSpec.post enc Tryd.prog Tryd.f5 false true false false) := by
  refine handed_and_shaped (C := Tryd.checked) (X := fun w _ => laidMetH Tryd.prog Rows.testexprOppositesRow.laid w) (fun _ _ _ hh h => h.of_heap hh) own started (by kernel_rfl) Tryd.func5
    (ChangeSpec.witness_shaped (enc := enc) (C := Tryd.checked) (os := os) (X := fun w _ => laidMetH Tryd.prog Rows.testexprOppositesRow.laid w) false (World.laidAll Tryd.prog os Rows.testexprOppositesRow.laid) #[.string ByteArray.empty, .string ByteArray.empty] 8 (World.laidAll_os _ _ _)
      (World.shaped_of_ZipB (by kernel_rfl) (by kernel_rfl)) (by kernel_rfl) (by kernel_rfl) (by kernel_rfl)
      (by rw [MakeChecks.laidMetH_plain _ _ _ (by kernel_rfl)]; exact laidMet_laidAll _ (by kernel_rfl) (by kernel_rfl))) ?_
  intro W base args ds gs before hval0 hW _ hsz0 hL hSh
  have hsz : (DataW.weightsEach Tryd.prog (Tryd.f5.params.toList ++ Rows.testexprOppositesSpec.plain.varTypes Tryd.prog) (ds ++ gs)).all (· ≤ reachBytes) = true := hsz0
  have hval : ∀ (j : Nat) t v, Tryd.f5.params[j]? = some t → args[j]? = some v → Value.okWide Tryd.prog W .any base t v := hval0
  have hW' := hW
  obtain ⟨p, q, hA0, hV, rfl, hfz, hnd⟩ := hW
  have hA : DataW.TrodAll enc Tryd.prog W 0 (fun _ => true) true Tryd.f5.params.toList args.toList ds p := hA0
  rw [Tryd.params5] at hA hval hsz
  obtain ⟨v0, vs0, d0, ds0, p0, q0, hargs, rfl, rfl, h0, r0⟩ := trodAll_cons hA
  obtain ⟨v1, vs1, d1, ds1, p1, q1, rfl, rfl, rfl, h1, r1⟩ := trodAll_cons r0
  obtain ⟨rfl, rfl, rfl⟩ := trodAll_nil r1
  obtain rfl : args = #[v0, v1] := by cases args; simp_all
  obtain ⟨rfl, rfl⟩ := trodVars_none hV
  obtain ⟨a0, rfl, rfl, rfl, y0⟩ := open_string Tryd.underlying9 (hval 0 9 v0 rfl rfl) h0
  have w0 : a0.size ≤ 140737488351232 := by
    have z := sized_string hsz (j := 0) (t := 9) rfl rfl
    rw [Array.length_toList] at z
    exact z
  obtain ⟨a1, rfl, rfl, rfl, y1⟩ := open_string Tryd.underlying9 (hval 1 9 v1 rfl rfl) h1
  have w1 : a1.size ≤ 140737488351232 := by
    have z := sized_string hsz (j := 1) (t := 9) rfl rfl
    rw [Array.length_toList] at z
    exact z
  clear hA0 hval0 hsz0 hsz
  obtain ⟨k, hk_⟩ := Go.Proofs.YtoeiohfljaboaaaDoor.Pure.TestexprOpposites a0 a1 w0 w1
  refine (jobshelllaw29_TestexprOpposites.calls k a0 a1 true W (amb_shaped hSh) hk_).mono fun e W' ⟨he, bel0⟩ => ?_
  have bel : Below W.heap.size W W' := bel0
  subst he
  exact ⟨_, rfl, _, _, _, [], _, [], hW', trodAll_mk1 (shut_bool Tryd.underlying4 _), (trodAll_cons_mk (shut_string Tryd.underlying9 y0) (trodAll_cons_mk (shut_string Tryd.underlying9 y1) trodAll_mk0)), rfl, bel.frame _, fun h => by cases h⟩
theorem over : Rows.testexprOppositesRow.holds Tryd.pinned (OpenSpec.ofChange Rows.testexprOppositesSpec) :=
  OpenClaim.holds_of_wide 5 Tryd.f5 rfl rfl rfl rfl rfl rfl rfl ⟨rfl, rfl, rfl, rfl, rfl⟩ rfl rfl rfl rfl rfl (by kernel_rfl) Tryd.func5 (by kernel_rfl)
    (of_decide_eq_true (by kernel_rfl)) (by unfold Func.isWrapper; first | (rw [if_pos (by decide +kernel)]; kernel_rfl) | (rw [if_neg (by decide +kernel)]; exact ⟨rfl, rfl⟩))
    (fun os started H enc _ => lifted os started H enc)
theorem card : Rows.TestexprOppositesCardSaid :=
  Claim7.holds_tied_plain_at .later [] [.data, .pinned] true (true, "aacb5983c18f5337dcd45483c6c156b2b676d1e2300df527b101564bf02ef163") false over (fun _ h => by cases h) (by kernel_rfl) (fun _ h => by cases h) testexprOpposites_row_tie rfl ⟨rfl, rfl⟩ (by kernel_rfl) rfl
    (fun f fn hf hfn => by
      obtain rfl : f = 5 := Option.some.inj ((show Tryd.prog.funcNamed "jobshell/jobshelllaw29.TestexprOpposites" = some 5 by kernel_rfl).symm.trans hf) |>.symm
      obtain rfl : fn = Tryd.f5 := (Option.some.inj (Tryd.func5.symm.trans hfn)).symm
      exact ⟨by kernel_rfl, fun j t ht => by
        rw [Tryd.params5] at ht
        have hm : t ∈ [9, 9] := by simpa using Array.mem_of_getElem? ht
        have hall : ([9, 9].all fun u => !Tryd.prog.wantsStandIn u) = true := by kernel_rfl
        exact (show Tryd.prog.wantsStandIn t = false by simpa using List.all_eq_true.1 hall t hm)⟩)
    (by kernel_rfl)
#print axioms card
end Go.Proofs.YtoeiohfljaboaaaDoor.testexprOpposites
namespace Go.Proofs.YtoeiohfljaboaaaDoor
theorem testexprOpposites_holds : Rows.TestexprOppositesCardSaid := testexprOpposites.card
end Go.Proofs.YtoeiohfljaboaaaDoor
