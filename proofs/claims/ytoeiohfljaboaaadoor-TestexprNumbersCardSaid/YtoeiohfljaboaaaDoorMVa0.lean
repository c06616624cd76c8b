/- The law TestexprNumbers: for every input the call returns true and leaves its arguments as they were; the variables that the row lists are tied to the program's text (a tied card). No condition beyond the row's own. -/
import Derived.Test.YtoeiohfljaboaaaDoorCards
import Derived.Test.YtoeiohfljaboaaaDoorTie
import Derived.WalkKit
import Derived.ProofKit
import Derived.OpenShut
import Derived.ShutString
import Derived.ChangeOld
import Derived.Below
import Derived.SizedLaws
import Derived.LaidMore
import Derived.Lay
import Derived.SevenTiedAt
import Derived.Stop.Joined
import Derived.Carry
import Derived.Test.YtoeiohfljaboaaaDoorB0
import Derived.Test.YtoeiohfljaboaaaDoorB3
import Derived.Test.YtoeiohfljaboaaaDoorB2
namespace Go.Proofs.YtoeiohfljaboaaaDoor.F
open Go.RowKit Go.Proofs.YtoeiohfljaboaaaDoorW.PrintWords Go.Proofs.YtoeiohfljaboaaaDoorW.PrintLast Go.Proofs.YtoeiohfljaboaaaDoorW.PrintMore
attribute [local go_sem] max2_int min2_int max_two min_two max_three min_three max_four min_four
set_option linter.unusedVariables false
set_option linter.unusedSimpArgs false
def jobshellref05_digits.l0 : Nat → Int → ByteArray → Option (ByteArray)
 | 0, _, _ => none
 | k + 1, x0, x3 => if x0 > 9 then ((some (([(IntKind.u64.wrap (48 + (Int.tmod x0 10))) % 256] : List Int) : List Int)).bind fun y333 => (if (strOfNums y333).size + x3.size ≤ 9223372036854775807 then (jobshellref05_digits.l0 k (IntKind.u64.wrap (Int.tdiv x0 10)) ((strOfNums y333) ++ x3)) else (none))) else ((some (([(IntKind.u64.wrap (48 + x0)) % 256] : List Int) : List Int)).bind fun y336 => (if (strOfNums y336).size + x3.size ≤ 9223372036854775807 then (some ((strOfNums y336) ++ x3)) else (none)))
def jobshellref05_digits.f (k : Nat) (a0 : Int) : Option (ByteArray) := jobshellref05_digits.l0 k a0 (⟨#[]⟩ : ByteArray)
theorem jobshellref05_digits.mono_l : ∀ k, (∀ y0 y1, LeO (jobshellref05_digits.l0 k y0 y1) (jobshellref05_digits.l0 (k + 1) y0 y1))
 | 0 => fun _ _ r h => by simp [jobshellref05_digits.l0] at h
 | k + 1 => by
  have ih0 := jobshellref05_digits.mono_l k
  ·intro y0 y1
   unfold jobshellref05_digits.l0
   repeat' first
   | (with_reducible exact ih0 _ _)
   | (with_reducible exact LeO.refl _)
   | (with_reducible exact LeO.none _)
   | (with_reducible refine LeO.ite ?_ ?_)
   | (with_reducible refine LeO.bind ?_ (fun _ => ?_))
   | exact ih0 _ _
   | exact LeO.none _
   | refine LeO.ite ?_ ?_
   | refine LeO.bind ?_ (fun _ => ?_)
theorem jobshellref05_digits.mono : ∀ a0 k, LeO (jobshellref05_digits.f k a0) (jobshellref05_digits.f (k + 1) a0) := by
 intro a0 k
 have ih0 := jobshellref05_digits.mono_l k
 unfold jobshellref05_digits.f
 repeat' first
   | (with_reducible exact ih0 _ _)
   | (with_reducible exact LeO.refl _)
   | (with_reducible exact LeO.none _)
   | (with_reducible refine LeO.ite ?_ ?_)
   | (with_reducible refine LeO.bind ?_ (fun _ => ?_))
   | exact ih0 _ _
   | exact LeO.none _
   | refine LeO.ite ?_ ?_
   | refine LeO.bind ?_ (fun _ => ?_)
set_option maxHeartbeats 8000000 in
set_option maxRecDepth 100000 in
theorem jobshellref05_digits.calls (k : Nat) (a0 : Int) (r : ByteArray) (w : World) (h : jobshellref05_digits.f k a0 = some r) :
  Calls Tryd.prog 21 #[.int .u64 a0] w fun e w' => e = .returned (.string r) ∧ Below w.heap.size w w' := by
 have HB := Aside0.mk (Below.refl w.heap.size w)
 have H : (jobshellref05_digits.l0 k a0 (⟨#[]⟩ : ByteArray)) = some r := h
 clear h
 have H' := Aside0.mk H
 clear H
 go_enter Tryd.func21, Tryd.ntmps21
 go_wp2
 go_loopg [0, 3] k (fun kq v0 v3 w' => ∃ (x0_1 : Int) (x3_1 : ByteArray), v0 = .int .u64 x0_1 ∧ v3 = .string x3_1 ∧ Aside0 (jobshellref05_digits.l0 kq x0_1 x3_1 = some r) ∧ Aside0 (kq ≤ k) ∧ Aside0 (Below w.heap.size w w'))
 case atStart => exact ⟨(a0), ((⟨#[]⟩ : ByteArray)), (by first | rfl | (simp; done) | (simp [*]; done) | (simp [isE_ne]; done)), (by first | rfl | (simp; done) | (simp [*]; done) | (simp [isE_ne]; done)), H', ⟨Nat.le_refl _⟩, ⟨by repeat (first | (with_reducible first | exact HB.out | apply below_alloc | apply pw_below_drewN | apply below_drew1) | exact HB.out)⟩⟩
 case round =>
  clear H'
  obtain ⟨x0_1, x3_1, rfl, rfl, HA, HK1, HB⟩ := hrel
  cases gk with
  | zero => exact absurd HA.out (by simp [jobshellref05_digits.l0])
  | succ k1 =>
   have H := HA.out
   clear HA
   simp only [jobshellref05_digits.l0] at H
   by_cases c2 : x0_1 > 9
   ·rw [if_pos c2] at H
    have c2b0 : decide (9 < x0_1) = true := decide_eq_true c2
    clear c2
    obtain ⟨y333, hy333⟩ : ∃ y_ : List Int, y_ = (([(IntKind.u64.wrap (48 + (Int.tmod x0_1 10))) % 256] : List Int)) := ⟨_, rfl⟩
    replace H : (if (strOfNums y333).size + x3_1.size ≤ 9223372036854775807 then (jobshellref05_digits.l0 k1 (IntKind.u64.wrap (Int.tdiv x0_1 10)) ((strOfNums y333) ++ x3_1)) else (none)) = some r := by first | (rw [hy333]; with_reducible exact H) | (have H2_ := (Option.bind_some _ _).symm.trans H; rw [hy333]; with_reducible exact H2_) | (have H2_ := (Option.bind_some _ _).symm.trans H; with_reducible exact H2_) | with_reducible exact H | (rw [hy333]; exact H) | exact H
    have Ny333 := Aside0.mk hy333
    clear hy333
    by_cases c3 : (strOfNums y333).size + x3_1.size ≤ 9223372036854775807
    ·rw [if_pos c3] at H
     have c3b0 := eq_true c3
     have c3b1 : decide ((strOfNums y333).size + x3_1.size ≤ 9223372036854775807) = true := decide_eq_true c3
     try have c3b2 : (9223372036854775807 < (strOfNums y333).size + x3_1.size) = False := eq_false (Nat.not_lt.2 c3)
     have H' := Aside0.mk H
     clear H
     go_wp2_with (first | ((with_reducible refine gate_dst (N := 10) rfl ?_); refine Kd.R_lit (Kd.int .u8) _ 5 ?hg (N := 10) ?hd (xs := ([(IntKind.u64.wrap (48 + (Int.tmod x0_1 10))) % 256] : List Int)) (inner := [.int .u8 ((IntKind.u64.wrap (48 + (Int.tmod x0_1 10))) % 256)]) (ok := fun _ => True) (okp := fun _ => True) ?hr ?hp (fun _ hk => hk) trivial (Below.refl _ _) (Nat.le_refl _) (by simp) ?_; (case hd => rfl); (case hg => rfl); (case hr => first | (go_simp; done) | (go_simp; rfl)); (case hp => exact (Reps.one (show Kd.M (Kd.int .u8) _ _ _ ((IntKind.u64.wrap (48 + (Int.tmod x0_1 10))) % 256) [.int .u8 ((IntKind.u64.wrap (48 + (Int.tmod x0_1 10))) % 256)] from rfl) (Reps.none _ _))); intro v334 w4 ho5 hb hg_ hnew_; clear hg_ hnew_; (first | rw [← Ny333.out] at ho5 | (simp only [Int.reduceToNat] at ho5; rw [← Ny333.out] at ho5)); have n0_ := Aside0.mk (Kd.R_lower ho5 (below_size (by repeat (first | (with_reducible first | exact HB.out | apply below_alloc | apply pw_below_drewN | apply below_drew1) | exact HB.out)))); have n1_ := Aside0.mk (below_step (by repeat (first | (with_reducible first | exact HB.out | apply below_alloc | apply pw_below_drewN | apply below_drew1) | exact HB.out)) hb); clear HB; have HO335 := n0_; have HB := n1_; clear n0_ n1_; clear hb ho5; have hcv6 := own_string (P := Tryd.prog) Tryd.underlying57 Tryd.underlying5 Tryd.underlying9 (Kd.own_of_R HO335.out)))
     go_roundg k1
     case measure => have := HK1.out; omega
     case rel => exact ⟨(IntKind.u64.wrap (Int.tdiv x0_1 10)), ((strOfNums y333) ++ x3_1), (by first | rfl | (simp; done) | (simp [*]; done) | (simp [isE_ne]; done)), (by first | rfl | (simp; done) | (simp [*]; done) | (simp [isE_ne]; done)), H', ⟨by have := HK1.out; omega⟩, ⟨by repeat (first | (with_reducible first | exact HB.out | apply below_alloc | apply pw_below_drewN | apply below_drew1) | exact HB.out)⟩⟩
    ·rw [if_neg c3] at H
     exact absurd H (by simp)
   ·rw [if_neg c2] at H
    have c2b0 : decide (9 < x0_1) = false := decide_eq_false c2
    clear c2
    obtain ⟨y336, hy336⟩ : ∃ y_ : List Int, y_ = (([(IntKind.u64.wrap (48 + x0_1)) % 256] : List Int)) := ⟨_, rfl⟩
    replace H : (if (strOfNums y336).size + x3_1.size ≤ 9223372036854775807 then (some ((strOfNums y336) ++ x3_1)) else (none)) = some r := by first | (rw [hy336]; with_reducible exact H) | (have H2_ := (Option.bind_some _ _).symm.trans H; rw [hy336]; with_reducible exact H2_) | (have H2_ := (Option.bind_some _ _).symm.trans H; with_reducible exact H2_) | with_reducible exact H | (rw [hy336]; exact H) | exact H
    have Ny336 := Aside0.mk hy336
    clear hy336
    by_cases c7 : (strOfNums y336).size + x3_1.size ≤ 9223372036854775807
    ·rw [if_pos c7] at H
     have c7b0 := eq_true c7
     have c7b1 : decide ((strOfNums y336).size + x3_1.size ≤ 9223372036854775807) = true := decide_eq_true c7
     try have c7b2 : (9223372036854775807 < (strOfNums y336).size + x3_1.size) = False := eq_false (Nat.not_lt.2 c7)
     obtain rfl := Option.some.inj H
     go_wp2_with (first | ((with_reducible refine gate_dst (N := 19) rfl ?_); refine Kd.R_lit (Kd.int .u8) _ 5 ?hg (N := 19) ?hd (xs := ([(IntKind.u64.wrap (48 + x0_1)) % 256] : List Int)) (inner := [.int .u8 ((IntKind.u64.wrap (48 + x0_1)) % 256)]) (ok := fun _ => True) (okp := fun _ => True) ?hr ?hp (fun _ hk => hk) trivial (Below.refl _ _) (Nat.le_refl _) (by simp) ?_; (case hd => rfl); (case hg => rfl); (case hr => first | (go_simp; done) | (go_simp; rfl)); (case hp => exact (Reps.one (show Kd.M (Kd.int .u8) _ _ _ ((IntKind.u64.wrap (48 + x0_1)) % 256) [.int .u8 ((IntKind.u64.wrap (48 + x0_1)) % 256)] from rfl) (Reps.none _ _))); intro v337 w8 ho9 hb hg_ hnew_; clear hg_ hnew_; (first | rw [← Ny336.out] at ho9 | (simp only [Int.reduceToNat] at ho9; rw [← Ny336.out] at ho9)); have n0_ := Aside0.mk (Kd.R_lower ho9 (below_size (by repeat (first | (with_reducible first | exact HB.out | apply below_alloc | apply pw_below_drewN | apply below_drew1) | exact HB.out)))); have n1_ := Aside0.mk (below_step (by repeat (first | (with_reducible first | exact HB.out | apply below_alloc | apply pw_below_drewN | apply below_drew1) | exact HB.out)) hb); clear HB; have HO338 := n0_; have HB := n1_; clear n0_ n1_; clear hb ho9; have hcv10 := own_string (P := Tryd.prog) Tryd.underlying57 Tryd.underlying5 Tryd.underlying9 (Kd.own_of_R HO338.out)))
     go_ret
     exact ⟨by first | rfl | (simp [errW_none, errW_some] <;> rfl) | (simp [*, errW_none, errW_some] <;> rfl), by repeat (first | (with_reducible first | exact HB.out | apply below_alloc | apply pw_below_drewN | apply below_drew1) | exact HB.out)⟩
    ·rw [if_neg c7] at H
     exact absurd H (by simp)
end Go.Proofs.YtoeiohfljaboaaaDoor.F
namespace Go.Proofs.YtoeiohfljaboaaaDoor.F
open Go.RowKit Go.Proofs.YtoeiohfljaboaaaDoorW.PrintWords Go.Proofs.YtoeiohfljaboaaaDoorW.PrintLast Go.Proofs.YtoeiohfljaboaaaDoorW.PrintMore
attribute [local go_sem] max2_int min2_int max_two min_two max_three min_three max_four min_four
set_option linter.unusedVariables false
set_option linter.unusedSimpArgs false
def jobshellref05_Decimal.f (k : Nat) (a0 : Int) : Option (ByteArray) := if a0 < 0 then ((jobshellref05_digits.f k (IntKind.u64.wrap ((IntKind.u64.wrap (wrap64 (-(wrap64 (a0 + 1))))) + 1))).bind fun t339 => (if 1 + t339.size ≤ 9223372036854775807 then (some ((⟨#[45]⟩ : ByteArray) ++ t339)) else (none))) else ((jobshellref05_digits.f k (IntKind.u64.wrap (a0))).bind fun t340 => (some t340))
theorem jobshellref05_Decimal.mono : ∀ a0 k, LeO (jobshellref05_Decimal.f k a0) (jobshellref05_Decimal.f (k + 1) a0) := by
 intro a0 k
 unfold jobshellref05_Decimal.f
 repeat' first
   | (with_reducible exact jobshellref05_digits.mono _ _)
   | (with_reducible exact LeO.refl _)
   | (with_reducible exact LeO.none _)
   | (with_reducible refine LeO.ite ?_ ?_)
   | (with_reducible refine LeO.bind ?_ (fun _ => ?_))
   | exact jobshellref05_digits.mono _ _
   | exact LeO.none _
   | refine LeO.ite ?_ ?_
   | refine LeO.bind ?_ (fun _ => ?_)
set_option maxHeartbeats 8000000 in
set_option maxRecDepth 100000 in
theorem jobshellref05_Decimal.calls (k : Nat) (a0 : Int) (r : ByteArray) (w : World) (h : jobshellref05_Decimal.f k a0 = some r) :
  Calls Tryd.prog 13 #[.int .i64 a0] w fun e w' => e = .returned (.string r) ∧ Below w.heap.size w w' := by
 have HB := Aside0.mk (Below.refl w.heap.size w)
 have H : (if a0 < 0 then ((jobshellref05_digits.f k (IntKind.u64.wrap ((IntKind.u64.wrap (wrap64 (-(wrap64 (a0 + 1))))) + 1))).bind fun t339 => (if 1 + t339.size ≤ 9223372036854775807 then (some ((⟨#[45]⟩ : ByteArray) ++ t339)) else (none))) else ((jobshellref05_digits.f k (IntKind.u64.wrap (a0))).bind fun t340 => (some t340))) = some r := h
 clear h
 by_cases c2 : a0 < 0
 ·rw [if_pos c2] at H
  have c2b0 : decide (a0 < 0) = true := decide_eq_true c2
  clear c2
  replace H := Option.bind_eq_some_iff.mp H
  obtain ⟨t339, A30, H⟩ := H
  replace H : (if 1 + t339.size ≤ 9223372036854775807 then (some ((⟨#[45]⟩ : ByteArray) ++ t339)) else (none)) = some r := H
  have A3 := Aside0.mk A30
  clear A30
  by_cases c4 : 1 + t339.size ≤ 9223372036854775807
  ·rw [if_pos c4] at H
   have c4b0 := eq_true c4
   have c4b1 : decide (1 + t339.size ≤ 9223372036854775807) = true := decide_eq_true c4
   try have c4b2 : (9223372036854775807 < 1 + t339.size) = False := eq_false (Nat.not_lt.2 c4)
   obtain rfl := Option.some.inj H
   go_enter Tryd.func13, Tryd.ntmps13
   go_wp2_with (first | ((with_reducible refine gate_callee (f := 21) rfl ?_); refine goesL_ (some 10) rfl rfl Tryd.func21 (by kernel_rfl) rfl #[.int .u64 (IntKind.u64.wrap ((IntKind.u64.wrap (wrap64 (-(wrap64 (a0 + 1))))) + 1))] rfl (by (try simp only [List.map_toArray, List.map_cons, List.map_nil]); first | done | rfl | (simp only [List.length_drop, List.length_take]; rfl)) ?_; (with_reducible refine (jobshellref05_digits.calls k (IntKind.u64.wrap ((IntKind.u64.wrap (wrap64 (-(wrap64 (a0 + 1))))) + 1)) t339 _ A3.out).mono ?_); rintro e w5 ⟨rfl, hb⟩; refine ⟨_, rfl, ?_⟩; have n0_ := Aside0.mk (below_step (by repeat (first | (with_reducible first | exact HB.out | apply below_alloc | apply pw_below_drewN | apply below_drew1) | exact HB.out)) hb); clear HB; have HB := n0_; clear n0_; (try clear hb); (try clear hb2); (try clear hk); (try clear hi)))
   go_ret
   exact ⟨by first | rfl | (simp [errW_none, errW_some] <;> rfl) | (simp [*, errW_none, errW_some] <;> rfl), by repeat (first | (with_reducible first | exact HB.out | apply below_alloc | apply pw_below_drewN | apply below_drew1) | exact HB.out)⟩
  ·rw [if_neg c4] at H
   exact absurd H (by simp)
 ·rw [if_neg c2] at H
  have c2b0 : decide (a0 < 0) = false := decide_eq_false c2
  clear c2
  replace H := Option.bind_eq_some_iff.mp H
  obtain ⟨t340, A60, H⟩ := H
  replace H : (some t340) = some r := H
  have A6 := Aside0.mk A60
  clear A60
  obtain rfl := Option.some.inj H
  go_enter Tryd.func13, Tryd.ntmps13
  go_wp2_with (first | ((with_reducible refine gate_callee (f := 21) rfl ?_); refine goesL_ (some 14) rfl rfl Tryd.func21 (by kernel_rfl) rfl #[.int .u64 (IntKind.u64.wrap (a0))] rfl (by (try simp only [List.map_toArray, List.map_cons, List.map_nil]); first | done | rfl | (simp only [List.length_drop, List.length_take]; rfl)) ?_; (with_reducible refine (jobshellref05_digits.calls k (IntKind.u64.wrap (a0)) t340 _ A6.out).mono ?_); rintro e w7 ⟨rfl, hb⟩; refine ⟨_, rfl, ?_⟩; have n0_ := Aside0.mk (below_step (by repeat (first | (with_reducible first | exact HB.out | apply below_alloc | apply pw_below_drewN | apply below_drew1) | exact HB.out)) hb); clear HB; have HB := n0_; clear n0_; (try clear hb); (try clear hb2); (try clear hk); (try clear hi)))
  go_ret
  exact ⟨by first | rfl | (simp [errW_none, errW_some] <;> rfl) | (simp [*, errW_none, errW_some] <;> rfl), by repeat (first | (with_reducible first | exact HB.out | apply below_alloc | apply pw_below_drewN | apply below_drew1) | exact HB.out)⟩
end Go.Proofs.YtoeiohfljaboaaaDoor.F
namespace Go.Proofs.YtoeiohfljaboaaaDoor.F
open Go.RowKit Go.Proofs.YtoeiohfljaboaaaDoorW.PrintWords Go.Proofs.YtoeiohfljaboaaaDoorW.PrintLast Go.Proofs.YtoeiohfljaboaaaDoorW.PrintMore
attribute [local go_sem] max2_int min2_int max_two min_two max_three min_three max_four min_four
set_option linter.unusedVariables false
set_option linter.unusedSimpArgs false
def jobshelllaw29_TestexprNumbers.j0 : Nat → Int → Int → ByteArray → ByteArray → Option (Bool)
 | 0, _, _, _, _ => none
 | k + 1, x0, x1, x7, x8 => (jobshelllaw29_eval.f x7 (⟨#[45, 108, 116]⟩ : ByteArray) x8).bind fun bt343 => ((jobshelllaw29_eval.f x7 (⟨#[45, 101, 113]⟩ : ByteArray) x8).bind fun bt345 => ((jobshelllaw29_eval.f x8 (⟨#[45, 108, 101]⟩ : ByteArray) x7).bind fun bt347 => (if bt343.2 = 0 then (if bt345.2 = 0 then (if bt347.2 = 0 then (if (bt343.1 == (decide (x0 < x1))) = true then (if (bt345.1 == (x0 == x1)) = true then (if (bt347.1 == (decide (x1 ≤ x0))) = true then ((jobshelllaw29_awake.f).bind fun t349 => (some t349)) else (some false)) else (some false)) else (some false)) else (some false)) else (some false)) else (some false))))
def jobshelllaw29_TestexprNumbers.f (k : Nat) (a0 : Int) (a1 : Int) (a2 : Int) : Option (Bool) := (jobshellref05_Decimal.f k a0).bind fun t341 => ((jobshellref05_Decimal.f k a1).bind fun t342 => (if a0 ≥ 0 then (if 0 ≤ (Int.tmod a2 9) then (if (Int.tmod a2 9) ≤ 8 then (if 1 + ((⟨#[48, 48, 48, 48, 48, 48, 48, 48]⟩ : ByteArray).extract 0 ((Int.tmod a2 9) : Int).toNat).size ≤ 9223372036854775807 then (if ((⟨#[43]⟩ : ByteArray) ++ ((⟨#[48, 48, 48, 48, 48, 48, 48, 48]⟩ : ByteArray).extract 0 ((Int.tmod a2 9) : Int).toNat)).size + t341.size ≤ 9223372036854775807 then (jobshelllaw29_TestexprNumbers.j0 k a0 a1 (((⟨#[43]⟩ : ByteArray) ++ ((⟨#[48, 48, 48, 48, 48, 48, 48, 48]⟩ : ByteArray).extract 0 ((Int.tmod a2 9) : Int).toNat)) ++ t341) t342) else (none)) else (none)) else (none)) else (none)) else (jobshelllaw29_TestexprNumbers.j0 k a0 a1 t341 t342)))
theorem jobshelllaw29_TestexprNumbers.mono_l : ∀ k, (∀ y0 y1 y2 y3, LeO (jobshelllaw29_TestexprNumbers.j0 k y0 y1 y2 y3) (jobshelllaw29_TestexprNumbers.j0 (k + 1) y0 y1 y2 y3))
 | 0 => fun _ _ _ _ r h => by simp [jobshelllaw29_TestexprNumbers.j0] at h
 | k + 1 => by
  have ih0 := jobshelllaw29_TestexprNumbers.mono_l k
  ·intro y0 y1 y2 y3
   unfold jobshelllaw29_TestexprNumbers.j0
   repeat' first
   | (with_reducible exact ih0 _ _ _ _)
   | (with_reducible exact jobshellref05_Decimal.mono _ _)
   | (with_reducible exact LeO.refl _)
   | (with_reducible exact LeO.none _)
   | (with_reducible refine LeO.ite ?_ ?_)
   | (with_reducible refine LeO.bind ?_ (fun _ => ?_))
   | exact ih0 _ _ _ _
   | exact jobshellref05_Decimal.mono _ _
   | exact LeO.none _
   | refine LeO.ite ?_ ?_
   | refine LeO.bind ?_ (fun _ => ?_)
theorem jobshelllaw29_TestexprNumbers.mono : ∀ a0 a1 a2 k, LeO (jobshelllaw29_TestexprNumbers.f k a0 a1 a2) (jobshelllaw29_TestexprNumbers.f (k + 1) a0 a1 a2) := by
 intro a0 a1 a2 k
 have ih0 := jobshelllaw29_TestexprNumbers.mono_l k
 unfold jobshelllaw29_TestexprNumbers.f
 repeat' first
   | (with_reducible exact ih0 _ _ _ _)
   | (with_reducible exact jobshellref05_Decimal.mono _ _)
   | (with_reducible exact LeO.refl _)
   | (with_reducible exact LeO.none _)
   | (with_reducible refine LeO.ite ?_ ?_)
   | (with_reducible refine LeO.bind ?_ (fun _ => ?_))
   | exact ih0 _ _ _ _
   | exact jobshellref05_Decimal.mono _ _
   | exact LeO.none _
   | refine LeO.ite ?_ ?_
   | refine LeO.bind ?_ (fun _ => ?_)
set_option maxHeartbeats 8000000 in
set_option maxRecDepth 100000 in
theorem jobshelllaw29_TestexprNumbers.calls (k : Nat) (a0 : Int) (a1 : Int) (a2 : Int) (r : Bool) (w : World) (hamb : AmbC w) (h : jobshelllaw29_TestexprNumbers.f k a0 a1 a2 = some r) :
  Calls Tryd.prog 6 #[.int .i64 a0, .int .i64 a1, .int .u8 a2] w fun e w' => e = .returned (.bool r) ∧ Below w.heap.size w w' := by
 have HAMB := Aside0.mk hamb
 clear hamb
 have HB := Aside0.mk (Below.refl w.heap.size w)
 have H : ((jobshellref05_Decimal.f k a0).bind fun t341 => ((jobshellref05_Decimal.f k a1).bind fun t342 => (if a0 ≥ 0 then (if 0 ≤ (Int.tmod a2 9) then (if (Int.tmod a2 9) ≤ 8 then (if 1 + ((⟨#[48, 48, 48, 48, 48, 48, 48, 48]⟩ : ByteArray).extract 0 ((Int.tmod a2 9) : Int).toNat).size ≤ 9223372036854775807 then (if ((⟨#[43]⟩ : ByteArray) ++ ((⟨#[48, 48, 48, 48, 48, 48, 48, 48]⟩ : ByteArray).extract 0 ((Int.tmod a2 9) : Int).toNat)).size + t341.size ≤ 9223372036854775807 then (jobshelllaw29_TestexprNumbers.j0 k a0 a1 (((⟨#[43]⟩ : ByteArray) ++ ((⟨#[48, 48, 48, 48, 48, 48, 48, 48]⟩ : ByteArray).extract 0 ((Int.tmod a2 9) : Int).toNat)) ++ t341) t342) else (none)) else (none)) else (none)) else (none)) else (jobshelllaw29_TestexprNumbers.j0 k a0 a1 t341 t342)))) = some r := h
 clear h
 replace H := Option.bind_eq_some_iff.mp H
 obtain ⟨t341, A40, H⟩ := H
 replace H : ((jobshellref05_Decimal.f k a1).bind fun t342 => (if a0 ≥ 0 then (if 0 ≤ (Int.tmod a2 9) then (if (Int.tmod a2 9) ≤ 8 then (if 1 + ((⟨#[48, 48, 48, 48, 48, 48, 48, 48]⟩ : ByteArray).extract 0 ((Int.tmod a2 9) : Int).toNat).size ≤ 9223372036854775807 then (if ((⟨#[43]⟩ : ByteArray) ++ ((⟨#[48, 48, 48, 48, 48, 48, 48, 48]⟩ : ByteArray).extract 0 ((Int.tmod a2 9) : Int).toNat)).size + t341.size ≤ 9223372036854775807 then (jobshelllaw29_TestexprNumbers.j0 k a0 a1 (((⟨#[43]⟩ : ByteArray) ++ ((⟨#[48, 48, 48, 48, 48, 48, 48, 48]⟩ : ByteArray).extract 0 ((Int.tmod a2 9) : Int).toNat)) ++ t341) t342) else (none)) else (none)) else (none)) else (none)) else (jobshelllaw29_TestexprNumbers.j0 k a0 a1 t341 t342))) = some r := H
 have A4 := Aside0.mk A40
 clear A40
 replace H := Option.bind_eq_some_iff.mp H
 obtain ⟨t342, A50, H⟩ := H
 replace H : (if a0 ≥ 0 then (if 0 ≤ (Int.tmod a2 9) then (if (Int.tmod a2 9) ≤ 8 then (if 1 + ((⟨#[48, 48, 48, 48, 48, 48, 48, 48]⟩ : ByteArray).extract 0 ((Int.tmod a2 9) : Int).toNat).size ≤ 9223372036854775807 then (if ((⟨#[43]⟩ : ByteArray) ++ ((⟨#[48, 48, 48, 48, 48, 48, 48, 48]⟩ : ByteArray).extract 0 ((Int.tmod a2 9) : Int).toNat)).size + t341.size ≤ 9223372036854775807 then (jobshelllaw29_TestexprNumbers.j0 k a0 a1 (((⟨#[43]⟩ : ByteArray) ++ ((⟨#[48, 48, 48, 48, 48, 48, 48, 48]⟩ : ByteArray).extract 0 ((Int.tmod a2 9) : Int).toNat)) ++ t341) t342) else (none)) else (none)) else (none)) else (none)) else (jobshelllaw29_TestexprNumbers.j0 k a0 a1 t341 t342)) = some r := H
 have A5 := Aside0.mk A50
 clear A50
 have HC6 := Aside0.mk H
 clear H
 go_enter Tryd.func6, Tryd.ntmps6
 go_upto_if 20 with (first | ((with_reducible refine gate_callee (f := 13) rfl ?_); refine goesL_ (some 16) rfl rfl Tryd.func13 (by kernel_rfl) rfl #[.int .i64 a0] rfl (by (try simp only [List.map_toArray, List.map_cons, List.map_nil]); first | done | rfl | (simp only [List.length_drop, List.length_take]; rfl)) ?_; (with_reducible refine (jobshellref05_Decimal.calls k a0 t341 _ A4.out).mono ?_); rintro e w7 ⟨rfl, hb⟩; refine ⟨_, rfl, ?_⟩; have n0_ := Aside0.mk (below_step (by repeat (first | (with_reducible first | exact HB.out | apply below_alloc | apply pw_below_drewN | apply below_drew1) | exact HB.out)) hb); clear HB; have HB := n0_; clear n0_; (try clear hb); (try clear hb2); (try clear hk); (try clear hi)) | ((with_reducible refine gate_callee (f := 13) rfl ?_); refine goesL_ (some 18) rfl rfl Tryd.func13 (by kernel_rfl) rfl #[.int .i64 a1] rfl (by (try simp only [List.map_toArray, List.map_cons, List.map_nil]); first | done | rfl | (simp only [List.length_drop, List.length_take]; rfl)) ?_; (with_reducible refine (jobshellref05_Decimal.calls k a1 t342 _ A5.out).mono ?_); rintro e w8 ⟨rfl, hb⟩; refine ⟨_, rfl, ?_⟩; have n0_ := Aside0.mk (below_step (by repeat (first | (with_reducible first | exact HB.out | apply below_alloc | apply pw_below_drewN | apply below_drew1) | exact HB.out)) hb); clear HB; have HB := n0_; clear n0_; (try clear hb); (try clear hb2); (try clear hk); (try clear hi)))
 (try simp only [Act.put, List.setIfInBounds_toArray, List.set_cons_zero, List.set_cons_succ])
 go_cut [7] (fun v7 wc => ∃ (kq : Nat) (x7_5 : ByteArray), v7 = .string x7_5 ∧ Aside0 (jobshelllaw29_TestexprNumbers.j0 kq a0 a1 x7_5 t342 = some r) ∧ Aside0 (kq ≤ k) ∧ Aside0 (Below w.heap.size w wc))
 case first =>
  have H := HC6.out
  clear HC6
  by_cases c9 : a0 ≥ 0
  ·rw [if_pos c9] at H
   have c9b0 : decide (0 ≤ a0) = true := decide_eq_true c9
   clear c9
   (first | rw [c9b0] | (simp only [i64_w, i32_w]; rw [c9b0]) | skip)
   obtain ⟨ji10, hji10⟩ : ∃ j_ : Int, (Int.tmod a2 9) = j_ := ⟨_, rfl⟩
   replace H : (if 0 ≤ (ji10) then (if (ji10) ≤ 8 then (if 1 + ((⟨#[48, 48, 48, 48, 48, 48, 48, 48]⟩ : ByteArray).extract 0 ((ji10) : Int).toNat).size ≤ 9223372036854775807 then (if ((⟨#[43]⟩ : ByteArray) ++ ((⟨#[48, 48, 48, 48, 48, 48, 48, 48]⟩ : ByteArray).extract 0 ((ji10) : Int).toNat)).size + t341.size ≤ 9223372036854775807 then (jobshelllaw29_TestexprNumbers.j0 k a0 a1 (((⟨#[43]⟩ : ByteArray) ++ ((⟨#[48, 48, 48, 48, 48, 48, 48, 48]⟩ : ByteArray).extract 0 ((ji10) : Int).toNat)) ++ t341) t342) else (none)) else (none)) else (none)) else (none)) = some r := by first | (rw [hji10] at H; exact H) | (simp only [hji10] at H ⊢; exact H)
   by_cases c11 : 0 ≤ (ji10)
   ·rw [if_pos c11] at H
    have c11b0 := eq_true c11
    have c11b1 : decide (0 ≤ (ji10)) = true := decide_eq_true c11
    clear c11
    by_cases c12 : (ji10) ≤ 8
    ·rw [if_pos c12] at H
     have c12b0 := eq_true c12
     have c12b1 : decide ((ji10) ≤ 8) = true := decide_eq_true c12
     have f9_ : (9223372036854775807 < 1 + (ji10).toNat) = False := eq_false (by omega)
     clear c12
     by_cases c13 : 1 + ((⟨#[48, 48, 48, 48, 48, 48, 48, 48]⟩ : ByteArray).extract 0 ((ji10) : Int).toNat).size ≤ 9223372036854775807
     ·rw [if_pos c13] at H
      have c13b0 := eq_true c13
      have c13b1 : decide (1 + ((⟨#[48, 48, 48, 48, 48, 48, 48, 48]⟩ : ByteArray).extract 0 ((ji10) : Int).toNat).size ≤ 9223372036854775807) = true := decide_eq_true c13
      try have c13b2 : (9223372036854775807 < 1 + ((⟨#[48, 48, 48, 48, 48, 48, 48, 48]⟩ : ByteArray).extract 0 ((ji10) : Int).toNat).size) = False := eq_false (Nat.not_lt.2 c13)
      by_cases c14 : ((⟨#[43]⟩ : ByteArray) ++ ((⟨#[48, 48, 48, 48, 48, 48, 48, 48]⟩ : ByteArray).extract 0 ((ji10) : Int).toNat)).size + t341.size ≤ 9223372036854775807
      ·rw [if_pos c14] at H
       have c14b0 := eq_true c14
       have c14b1 : decide (((⟨#[43]⟩ : ByteArray) ++ ((⟨#[48, 48, 48, 48, 48, 48, 48, 48]⟩ : ByteArray).extract 0 ((ji10) : Int).toNat)).size + t341.size ≤ 9223372036854775807) = true := decide_eq_true c14
       try have c14b2 : (9223372036854775807 < ((⟨#[43]⟩ : ByteArray) ++ ((⟨#[48, 48, 48, 48, 48, 48, 48, 48]⟩ : ByteArray).extract 0 ((ji10) : Int).toNat)).size + t341.size) = False := eq_false (Nat.not_lt.2 c14)
       have H' := Aside0.mk H
       clear H
       go_wp2
       go_meet
       case rel => exact ⟨_, (((⟨#[43]⟩ : ByteArray) ++ ((⟨#[48, 48, 48, 48, 48, 48, 48, 48]⟩ : ByteArray).extract 0 ((ji10) : Int).toNat)) ++ t341), (by first | rfl | (simp; done) | (simp only [← hji10] <;> (first | rfl | simp)) | (simp [*]; done)), H', ⟨by first | omega | exact Nat.le_refl _⟩, ⟨by repeat (first | (with_reducible first | exact HB.out | apply below_alloc | apply pw_below_drewN | apply below_drew1) | exact HB.out)⟩⟩
      ·rw [if_neg c14] at H
       exact absurd H (by simp)
     ·rw [if_neg c13] at H
      exact absurd H (by simp)
    ·rw [if_neg c12] at H
     exact absurd H (by simp)
   ·rw [if_neg c11] at H
    exact absurd H (by simp)
  ·rw [if_neg c9] at H
   have c9b0 : decide (0 ≤ a0) = false := decide_eq_false c9
   clear c9
   (first | rw [c9b0] | (simp only [i64_w, i32_w]; rw [c9b0]) | skip)
   have H' := Aside0.mk H
   clear H
   go_wp2
   go_meet
   case rel => exact ⟨_, (t341), (by first | rfl | (simp; done) | (simp [*]; done) | (simp [isE_ne]; done)), H', ⟨by first | omega | exact Nat.le_refl _⟩, ⟨by repeat (first | (with_reducible first | exact HB.out | apply below_alloc | apply pw_below_drewN | apply below_drew1) | exact HB.out)⟩⟩
 case rest =>
  clear HC6
  try clear c1
  try clear p2
  try clear c6
  try clear c9
  try clear c9b0
  try clear c11
  try clear c11b0
  try clear c11b1
  try clear c12
  try clear c12b0
  try clear c12b1
  try clear c13
  try clear c13b0
  try clear c13b1
  try clear c13b2
  try clear c14
  try clear c14b0
  try clear c14b1
  try clear c14b2
  obtain ⟨kq, x7_5, rfl, HA, HJ5, HB⟩ := hcut
  cases kq with
  | zero => exact absurd HA.out (by simp [jobshelllaw29_TestexprNumbers.j0])
  | succ kj5 =>
   have H := HA.out
   clear HA
   simp only [jobshelllaw29_TestexprNumbers.j0] at H
   replace H := Option.bind_eq_some_iff.mp H
   obtain ⟨⟨t343, t344⟩, A150, H⟩ := H
   replace H : ((jobshelllaw29_eval.f x7_5 (⟨#[45, 101, 113]⟩ : ByteArray) t342).bind fun bt345 => ((jobshelllaw29_eval.f t342 (⟨#[45, 108, 101]⟩ : ByteArray) x7_5).bind fun bt347 => (if t344 = 0 then (if bt345.2 = 0 then (if bt347.2 = 0 then (if (t343 == (decide (a0 < a1))) = true then (if (bt345.1 == (a0 == a1)) = true then (if (bt347.1 == (decide (a1 ≤ a0))) = true then ((jobshelllaw29_awake.f).bind fun t349 => (some t349)) else (some false)) else (some false)) else (some false)) else (some false)) else (some false)) else (some false)))) = some r := H
   have A15 := Aside0.mk A150
   clear A150
   replace H := Option.bind_eq_some_iff.mp H
   obtain ⟨⟨t345, t346⟩, A160, H⟩ := H
   replace H : ((jobshelllaw29_eval.f t342 (⟨#[45, 108, 101]⟩ : ByteArray) x7_5).bind fun bt347 => (if t344 = 0 then (if t346 = 0 then (if bt347.2 = 0 then (if (t343 == (decide (a0 < a1))) = true then (if (t345 == (a0 == a1)) = true then (if (bt347.1 == (decide (a1 ≤ a0))) = true then ((jobshelllaw29_awake.f).bind fun t349 => (some t349)) else (some false)) else (some false)) else (some false)) else (some false)) else (some false)) else (some false))) = some r := H
   have A16 := Aside0.mk A160
   clear A160
   replace H := Option.bind_eq_some_iff.mp H
   obtain ⟨⟨t347, t348⟩, A170, H⟩ := H
   replace H : (if t344 = 0 then (if t346 = 0 then (if t348 = 0 then (if (t343 == (decide (a0 < a1))) = true then (if (t345 == (a0 == a1)) = true then (if (t347 == (decide (a1 ≤ a0))) = true then ((jobshelllaw29_awake.f).bind fun t349 => (some t349)) else (some false)) else (some false)) else (some false)) else (some false)) else (some false)) else (some false)) = some r := H
   have A17 := Aside0.mk A170
   clear A170
   by_cases c18 : t344 = 0
   ·rw [if_pos c18] at H
    have c18b0 : (t344 == 0) = true := beq_iff_eq.mpr c18
    have c18b1 : (t344 != 0) = false := bne_eq_false_iff_eq.mpr c18
    clear c18
    by_cases c19 : t346 = 0
    ·rw [if_pos c19] at H
     have c19b0 : (t346 == 0) = true := beq_iff_eq.mpr c19
     have c19b1 : (t346 != 0) = false := bne_eq_false_iff_eq.mpr c19
     clear c19
     by_cases c20 : t348 = 0
     ·rw [if_pos c20] at H
      have c20b0 : (t348 == 0) = true := beq_iff_eq.mpr c20
      have c20b1 : (t348 != 0) = false := bne_eq_false_iff_eq.mpr c20
      clear c20
      by_cases c21 : (t343 == (decide (a0 < a1))) = true
      ·rw [if_pos c21] at H
       have c21b0 : (t343 == (decide (a0 < a1))) = true := c21
       (try (have c21b1 : decide (t343 = (decide (a0 < a1))) = true := by simpa using c21))
       (try (have c21b2 : (t343 == (decide (a0 < a1))) = true := by simpa using c21))
       clear c21
       by_cases c22 : (t345 == (a0 == a1)) = true
       ·rw [if_pos c22] at H
        have c22b0 : (t345 == (a0 == a1)) = true := c22
        (try (have c22b1 : decide (t345 = (a0 == a1)) = true := by simpa using c22))
        (try (have c22b2 : (t345 == (a0 == a1)) = true := by simpa using c22))
        clear c22
        by_cases c23 : (t347 == (decide (a1 ≤ a0))) = true
        ·rw [if_pos c23] at H
         have c23b0 : (t347 == (decide (a1 ≤ a0))) = true := c23
         (try (have c23b1 : decide (t347 = (decide (a1 ≤ a0))) = true := by simpa using c23))
         (try (have c23b2 : (t347 == (decide (a1 ≤ a0))) = true := by simpa using c23))
         clear c23
         replace H := Option.bind_eq_some_iff.mp H
         obtain ⟨t349, A240, H⟩ := H
         replace H : (some t349) = some r := H
         have A24 := Aside0.mk A240
         clear A240
         obtain rfl := Option.some.inj H
         go_wp2_with (first | ((with_reducible refine gate_callee (f := 12) rfl ?_); refine goesL_ (some 30) rfl rfl Tryd.func12 (by kernel_rfl) rfl #[.string x7_5, .string (⟨#[45, 108, 116]⟩ : ByteArray), .string t342] rfl (by (try simp only [List.map_toArray, List.map_cons, List.map_nil]); first | done | rfl | (simp only [List.length_drop, List.length_take]; rfl)) ?_; (with_reducible refine (jobshelllaw29_eval.calls x7_5 (⟨#[45, 108, 116]⟩ : ByteArray) t342 t343 t344 _ ?side1 A15.out).mono ?_); (case side1 => repeat (first | exact (AmbC_below HAMB.out HB.out) | (with_reducible refine AmbC_alloc ?_ _) | (with_reducible refine AmbC_drewN ?_ _) | (with_reducible refine AmbC_drew ?_))); rintro e w25 ⟨rfl, hb⟩; refine ⟨_, rfl, ?_⟩; have n0_ := Aside0.mk (below_step (by repeat (first | (with_reducible first | exact HB.out | apply below_alloc | apply pw_below_drewN | apply below_drew1) | exact HB.out)) hb); clear HB; have HB := n0_; clear n0_; (try clear hb); (try clear hb2); (try clear hk); (try clear hi)) | ((with_reducible refine gate_callee (f := 12) rfl ?_); refine goesL_ (some 36) rfl rfl Tryd.func12 (by kernel_rfl) rfl #[.string x7_5, .string (⟨#[45, 101, 113]⟩ : ByteArray), .string t342] rfl (by (try simp only [List.map_toArray, List.map_cons, List.map_nil]); first | done | rfl | (simp only [List.length_drop, List.length_take]; rfl)) ?_; (with_reducible refine (jobshelllaw29_eval.calls x7_5 (⟨#[45, 101, 113]⟩ : ByteArray) t342 t345 t346 _ ?side1 A16.out).mono ?_); (case side1 => repeat (first | exact (AmbC_below HAMB.out HB.out) | (with_reducible refine AmbC_alloc ?_ _) | (with_reducible refine AmbC_drewN ?_ _) | (with_reducible refine AmbC_drew ?_))); rintro e w26 ⟨rfl, hb⟩; refine ⟨_, rfl, ?_⟩; have n0_ := Aside0.mk (below_step (by repeat (first | (with_reducible first | exact HB.out | apply below_alloc | apply pw_below_drewN | apply below_drew1) | exact HB.out)) hb); clear HB; have HB := n0_; clear n0_; (try clear hb); (try clear hb2); (try clear hk); (try clear hi)) | ((with_reducible refine gate_callee (f := 12) rfl ?_); refine goesL_ (some 42) rfl rfl Tryd.func12 (by kernel_rfl) rfl #[.string t342, .string (⟨#[45, 108, 101]⟩ : ByteArray), .string x7_5] rfl (by (try simp only [List.map_toArray, List.map_cons, List.map_nil]); first | done | rfl | (simp only [List.length_drop, List.length_take]; rfl)) ?_; (with_reducible refine (jobshelllaw29_eval.calls t342 (⟨#[45, 108, 101]⟩ : ByteArray) x7_5 t347 t348 _ ?side1 A17.out).mono ?_); (case side1 => repeat (first | exact (AmbC_below HAMB.out HB.out) | (with_reducible refine AmbC_alloc ?_ _) | (with_reducible refine AmbC_drewN ?_ _) | (with_reducible refine AmbC_drew ?_))); rintro e w27 ⟨rfl, hb⟩; refine ⟨_, rfl, ?_⟩; have n0_ := Aside0.mk (below_step (by repeat (first | (with_reducible first | exact HB.out | apply below_alloc | apply pw_below_drewN | apply below_drew1) | exact HB.out)) hb); clear HB; have HB := n0_; clear n0_; (try clear hb); (try clear hb2); (try clear hk); (try clear hi)) | (go_at_call 9; (with_reducible refine (jobshelllaw29_awake.calls  t349 _ ?side1 A24.out).mono ?_); (case side1 => repeat (first | exact (AmbC_below HAMB.out HB.out) | (with_reducible refine AmbC_alloc ?_ _) | (with_reducible refine AmbC_drewN ?_ _) | (with_reducible refine AmbC_drew ?_))); rintro e w28 ⟨rfl, hb⟩; have n0_ := Aside0.mk (below_step (by repeat (first | (with_reducible first | exact HB.out | apply below_alloc | apply pw_below_drewN | apply below_drew1) | exact HB.out)) hb); clear HB; have HB := n0_; clear n0_; (try clear hb); (try clear hb2); (try clear hk); (try clear hi)))
         go_ret
         exact ⟨by first | rfl | (simp [errW_none, errW_some] <;> rfl) | (simp [*, errW_none, errW_some] <;> rfl), by repeat (first | (with_reducible first | exact HB.out | apply below_alloc | apply pw_below_drewN | apply below_drew1) | exact HB.out)⟩
        ·rw [if_neg c23] at H
         have c23b0 : (t347 == (decide (a1 ≤ a0))) = false := by simpa using c23
         (try (have c23b1 : decide (t347 = (decide (a1 ≤ a0))) = false := by simpa using c23))
         (try (have c23b2 : (t347 == (decide (a1 ≤ a0))) = false := by simpa using c23))
         (try (have c23b3 : ¬ (t347 = (decide (a1 ≤ a0))) := by simpa using c23))
         clear c23
         obtain rfl := Option.some.inj H
         go_wp2_with (first | ((with_reducible refine gate_callee (f := 12) rfl ?_); refine goesL_ (some 30) rfl rfl Tryd.func12 (by kernel_rfl) rfl #[.string x7_5, .string (⟨#[45, 108, 116]⟩ : ByteArray), .string t342] rfl (by (try simp only [List.map_toArray, List.map_cons, List.map_nil]); first | done | rfl | (simp only [List.length_drop, List.length_take]; rfl)) ?_; (with_reducible refine (jobshelllaw29_eval.calls x7_5 (⟨#[45, 108, 116]⟩ : ByteArray) t342 t343 t344 _ ?side1 A15.out).mono ?_); (case side1 => repeat (first | exact (AmbC_below HAMB.out HB.out) | (with_reducible refine AmbC_alloc ?_ _) | (with_reducible refine AmbC_drewN ?_ _) | (with_reducible refine AmbC_drew ?_))); rintro e w29 ⟨rfl, hb⟩; refine ⟨_, rfl, ?_⟩; have n0_ := Aside0.mk (below_step (by repeat (first | (with_reducible first | exact HB.out | apply below_alloc | apply pw_below_drewN | apply below_drew1) | exact HB.out)) hb); clear HB; have HB := n0_; clear n0_; (try clear hb); (try clear hb2); (try clear hk); (try clear hi)) | ((with_reducible refine gate_callee (f := 12) rfl ?_); refine goesL_ (some 36) rfl rfl Tryd.func12 (by kernel_rfl) rfl #[.string x7_5, .string (⟨#[45, 101, 113]⟩ : ByteArray), .string t342] rfl (by (try simp only [List.map_toArray, List.map_cons, List.map_nil]); first | done | rfl | (simp only [List.length_drop, List.length_take]; rfl)) ?_; (with_reducible refine (jobshelllaw29_eval.calls x7_5 (⟨#[45, 101, 113]⟩ : ByteArray) t342 t345 t346 _ ?side1 A16.out).mono ?_); (case side1 => repeat (first | exact (AmbC_below HAMB.out HB.out) | (with_reducible refine AmbC_alloc ?_ _) | (with_reducible refine AmbC_drewN ?_ _) | (with_reducible refine AmbC_drew ?_))); rintro e w30 ⟨rfl, hb⟩; refine ⟨_, rfl, ?_⟩; have n0_ := Aside0.mk (below_step (by repeat (first | (with_reducible first | exact HB.out | apply below_alloc | apply pw_below_drewN | apply below_drew1) | exact HB.out)) hb); clear HB; have HB := n0_; clear n0_; (try clear hb); (try clear hb2); (try clear hk); (try clear hi)) | ((with_reducible refine gate_callee (f := 12) rfl ?_); refine goesL_ (some 42) rfl rfl Tryd.func12 (by kernel_rfl) rfl #[.string t342, .string (⟨#[45, 108, 101]⟩ : ByteArray), .string x7_5] rfl (by (try simp only [List.map_toArray, List.map_cons, List.map_nil]); first | done | rfl | (simp only [List.length_drop, List.length_take]; rfl)) ?_; (with_reducible refine (jobshelllaw29_eval.calls t342 (⟨#[45, 108, 101]⟩ : ByteArray) x7_5 t347 t348 _ ?side1 A17.out).mono ?_); (case side1 => repeat (first | exact (AmbC_below HAMB.out HB.out) | (with_reducible refine AmbC_alloc ?_ _) | (with_reducible refine AmbC_drewN ?_ _) | (with_reducible refine AmbC_drew ?_))); rintro e w31 ⟨rfl, hb⟩; refine ⟨_, rfl, ?_⟩; have n0_ := Aside0.mk (below_step (by repeat (first | (with_reducible first | exact HB.out | apply below_alloc | apply pw_below_drewN | apply below_drew1) | exact HB.out)) hb); clear HB; have HB := n0_; clear n0_; (try clear hb); (try clear hb2); (try clear hk); (try clear hi)))
         go_ret
         exact ⟨by first | rfl | (simp [errW_none, errW_some] <;> rfl) | (simp [*, errW_none, errW_some] <;> rfl), by repeat (first | (with_reducible first | exact HB.out | apply below_alloc | apply pw_below_drewN | apply below_drew1) | exact HB.out)⟩
       ·rw [if_neg c22] at H
        have c22b0 : (t345 == (a0 == a1)) = false := by simpa using c22
        (try (have c22b1 : decide (t345 = (a0 == a1)) = false := by simpa using c22))
        (try (have c22b2 : (t345 == (a0 == a1)) = false := by simpa using c22))
        (try (have c22b3 : ¬ (t345 = (a0 == a1)) := by simpa using c22))
        clear c22
        obtain rfl := Option.some.inj H
        go_wp2_with (first | ((with_reducible refine gate_callee (f := 12) rfl ?_); refine goesL_ (some 30) rfl rfl Tryd.func12 (by kernel_rfl) rfl #[.string x7_5, .string (⟨#[45, 108, 116]⟩ : ByteArray), .string t342] rfl (by (try simp only [List.map_toArray, List.map_cons, List.map_nil]); first | done | rfl | (simp only [List.length_drop, List.length_take]; rfl)) ?_; (with_reducible refine (jobshelllaw29_eval.calls x7_5 (⟨#[45, 108, 116]⟩ : ByteArray) t342 t343 t344 _ ?side1 A15.out).mono ?_); (case side1 => repeat (first | exact (AmbC_below HAMB.out HB.out) | (with_reducible refine AmbC_alloc ?_ _) | (with_reducible refine AmbC_drewN ?_ _) | (with_reducible refine AmbC_drew ?_))); rintro e w32 ⟨rfl, hb⟩; refine ⟨_, rfl, ?_⟩; have n0_ := Aside0.mk (below_step (by repeat (first | (with_reducible first | exact HB.out | apply below_alloc | apply pw_below_drewN | apply below_drew1) | exact HB.out)) hb); clear HB; have HB := n0_; clear n0_; (try clear hb); (try clear hb2); (try clear hk); (try clear hi)) | ((with_reducible refine gate_callee (f := 12) rfl ?_); refine goesL_ (some 36) rfl rfl Tryd.func12 (by kernel_rfl) rfl #[.string x7_5, .string (⟨#[45, 101, 113]⟩ : ByteArray), .string t342] rfl (by (try simp only [List.map_toArray, List.map_cons, List.map_nil]); first | done | rfl | (simp only [List.length_drop, List.length_take]; rfl)) ?_; (with_reducible refine (jobshelllaw29_eval.calls x7_5 (⟨#[45, 101, 113]⟩ : ByteArray) t342 t345 t346 _ ?side1 A16.out).mono ?_); (case side1 => repeat (first | exact (AmbC_below HAMB.out HB.out) | (with_reducible refine AmbC_alloc ?_ _) | (with_reducible refine AmbC_drewN ?_ _) | (with_reducible refine AmbC_drew ?_))); rintro e w33 ⟨rfl, hb⟩; refine ⟨_, rfl, ?_⟩; have n0_ := Aside0.mk (below_step (by repeat (first | (with_reducible first | exact HB.out | apply below_alloc | apply pw_below_drewN | apply below_drew1) | exact HB.out)) hb); clear HB; have HB := n0_; clear n0_; (try clear hb); (try clear hb2); (try clear hk); (try clear hi)) | ((with_reducible refine gate_callee (f := 12) rfl ?_); refine goesL_ (some 42) rfl rfl Tryd.func12 (by kernel_rfl) rfl #[.string t342, .string (⟨#[45, 108, 101]⟩ : ByteArray), .string x7_5] rfl (by (try simp only [List.map_toArray, List.map_cons, List.map_nil]); first | done | rfl | (simp only [List.length_drop, List.length_take]; rfl)) ?_; (with_reducible refine (jobshelllaw29_eval.calls t342 (⟨#[45, 108, 101]⟩ : ByteArray) x7_5 t347 t348 _ ?side1 A17.out).mono ?_); (case side1 => repeat (first | exact (AmbC_below HAMB.out HB.out) | (with_reducible refine AmbC_alloc ?_ _) | (with_reducible refine AmbC_drewN ?_ _) | (with_reducible refine AmbC_drew ?_))); rintro e w34 ⟨rfl, hb⟩; refine ⟨_, rfl, ?_⟩; have n0_ := Aside0.mk (below_step (by repeat (first | (with_reducible first | exact HB.out | apply below_alloc | apply pw_below_drewN | apply below_drew1) | exact HB.out)) hb); clear HB; have HB := n0_; clear n0_; (try clear hb); (try clear hb2); (try clear hk); (try clear hi)))
        go_ret
        exact ⟨by first | rfl | (simp [errW_none, errW_some] <;> rfl) | (simp [*, errW_none, errW_some] <;> rfl), by repeat (first | (with_reducible first | exact HB.out | apply below_alloc | apply pw_below_drewN | apply below_drew1) | exact HB.out)⟩
      ·rw [if_neg c21] at H
       have c21b0 : (t343 == (decide (a0 < a1))) = false := by simpa using c21
       (try (have c21b1 : decide (t343 = (decide (a0 < a1))) = false := by simpa using c21))
       (try (have c21b2 : (t343 == (decide (a0 < a1))) = false := by simpa using c21))
       (try (have c21b3 : ¬ (t343 = (decide (a0 < a1))) := by simpa using c21))
       clear c21
       obtain rfl := Option.some.inj H
       go_wp2_with (first | ((with_reducible refine gate_callee (f := 12) rfl ?_); refine goesL_ (some 30) rfl rfl Tryd.func12 (by kernel_rfl) rfl #[.string x7_5, .string (⟨#[45, 108, 116]⟩ : ByteArray), .string t342] rfl (by (try simp only [List.map_toArray, List.map_cons, List.map_nil]); first | done | rfl | (simp only [List.length_drop, List.length_take]; rfl)) ?_; (with_reducible refine (jobshelllaw29_eval.calls x7_5 (⟨#[45, 108, 116]⟩ : ByteArray) t342 t343 t344 _ ?side1 A15.out).mono ?_); (case side1 => repeat (first | exact (AmbC_below HAMB.out HB.out) | (with_reducible refine AmbC_alloc ?_ _) | (with_reducible refine AmbC_drewN ?_ _) | (with_reducible refine AmbC_drew ?_))); rintro e w35 ⟨rfl, hb⟩; refine ⟨_, rfl, ?_⟩; have n0_ := Aside0.mk (below_step (by repeat (first | (with_reducible first | exact HB.out | apply below_alloc | apply pw_below_drewN | apply below_drew1) | exact HB.out)) hb); clear HB; have HB := n0_; clear n0_; (try clear hb); (try clear hb2); (try clear hk); (try clear hi)) | ((with_reducible refine gate_callee (f := 12) rfl ?_); refine goesL_ (some 36) rfl rfl Tryd.func12 (by kernel_rfl) rfl #[.string x7_5, .string (⟨#[45, 101, 113]⟩ : ByteArray), .string t342] rfl (by (try simp only [List.map_toArray, List.map_cons, List.map_nil]); first | done | rfl | (simp only [List.length_drop, List.length_take]; rfl)) ?_; (with_reducible refine (jobshelllaw29_eval.calls x7_5 (⟨#[45, 101, 113]⟩ : ByteArray) t342 t345 t346 _ ?side1 A16.out).mono ?_); (case side1 => repeat (first | exact (AmbC_below HAMB.out HB.out) | (with_reducible refine AmbC_alloc ?_ _) | (with_reducible refine AmbC_drewN ?_ _) | (with_reducible refine AmbC_drew ?_))); rintro e w36 ⟨rfl, hb⟩; refine ⟨_, rfl, ?_⟩; have n0_ := Aside0.mk (below_step (by repeat (first | (with_reducible first | exact HB.out | apply below_alloc | apply pw_below_drewN | apply below_drew1) | exact HB.out)) hb); clear HB; have HB := n0_; clear n0_; (try clear hb); (try clear hb2); (try clear hk); (try clear hi)) | ((with_reducible refine gate_callee (f := 12) rfl ?_); refine goesL_ (some 42) rfl rfl Tryd.func12 (by kernel_rfl) rfl #[.string t342, .string (⟨#[45, 108, 101]⟩ : ByteArray), .string x7_5] rfl (by (try simp only [List.map_toArray, List.map_cons, List.map_nil]); first | done | rfl | (simp only [List.length_drop, List.length_take]; rfl)) ?_; (with_reducible refine (jobshelllaw29_eval.calls t342 (⟨#[45, 108, 101]⟩ : ByteArray) x7_5 t347 t348 _ ?side1 A17.out).mono ?_); (case side1 => repeat (first | exact (AmbC_below HAMB.out HB.out) | (with_reducible refine AmbC_alloc ?_ _) | (with_reducible refine AmbC_drewN ?_ _) | (with_reducible refine AmbC_drew ?_))); rintro e w37 ⟨rfl, hb⟩; refine ⟨_, rfl, ?_⟩; have n0_ := Aside0.mk (below_step (by repeat (first | (with_reducible first | exact HB.out | apply below_alloc | apply pw_below_drewN | apply below_drew1) | exact HB.out)) hb); clear HB; have HB := n0_; clear n0_; (try clear hb); (try clear hb2); (try clear hk); (try clear hi)))
       go_ret
       exact ⟨by first | rfl | (simp [errW_none, errW_some] <;> rfl) | (simp [*, errW_none, errW_some] <;> rfl), by repeat (first | (with_reducible first | exact HB.out | apply below_alloc | apply pw_below_drewN | apply below_drew1) | exact HB.out)⟩
     ·rw [if_neg c20] at H
      have c20b0 : (t348 == 0) = false := beq_eq_false_iff_ne.mpr c20
      have c20b1 : (t348 != 0) = true := bne_iff_ne.mpr c20
      obtain rfl := Option.some.inj H
      go_wp2_with (first | ((with_reducible refine gate_callee (f := 12) rfl ?_); refine goesL_ (some 30) rfl rfl Tryd.func12 (by kernel_rfl) rfl #[.string x7_5, .string (⟨#[45, 108, 116]⟩ : ByteArray), .string t342] rfl (by (try simp only [List.map_toArray, List.map_cons, List.map_nil]); first | done | rfl | (simp only [List.length_drop, List.length_take]; rfl)) ?_; (with_reducible refine (jobshelllaw29_eval.calls x7_5 (⟨#[45, 108, 116]⟩ : ByteArray) t342 t343 t344 _ ?side1 A15.out).mono ?_); (case side1 => repeat (first | exact (AmbC_below HAMB.out HB.out) | (with_reducible refine AmbC_alloc ?_ _) | (with_reducible refine AmbC_drewN ?_ _) | (with_reducible refine AmbC_drew ?_))); rintro e w38 ⟨rfl, hb⟩; refine ⟨_, rfl, ?_⟩; have n0_ := Aside0.mk (below_step (by repeat (first | (with_reducible first | exact HB.out | apply below_alloc | apply pw_below_drewN | apply below_drew1) | exact HB.out)) hb); clear HB; have HB := n0_; clear n0_; (try clear hb); (try clear hb2); (try clear hk); (try clear hi)) | ((with_reducible refine gate_callee (f := 12) rfl ?_); refine goesL_ (some 36) rfl rfl Tryd.func12 (by kernel_rfl) rfl #[.string x7_5, .string (⟨#[45, 101, 113]⟩ : ByteArray), .string t342] rfl (by (try simp only [List.map_toArray, List.map_cons, List.map_nil]); first | done | rfl | (simp only [List.length_drop, List.length_take]; rfl)) ?_; (with_reducible refine (jobshelllaw29_eval.calls x7_5 (⟨#[45, 101, 113]⟩ : ByteArray) t342 t345 t346 _ ?side1 A16.out).mono ?_); (case side1 => repeat (first | exact (AmbC_below HAMB.out HB.out) | (with_reducible refine AmbC_alloc ?_ _) | (with_reducible refine AmbC_drewN ?_ _) | (with_reducible refine AmbC_drew ?_))); rintro e w39 ⟨rfl, hb⟩; refine ⟨_, rfl, ?_⟩; have n0_ := Aside0.mk (below_step (by repeat (first | (with_reducible first | exact HB.out | apply below_alloc | apply pw_below_drewN | apply below_drew1) | exact HB.out)) hb); clear HB; have HB := n0_; clear n0_; (try clear hb); (try clear hb2); (try clear hk); (try clear hi)) | ((with_reducible refine gate_callee (f := 12) rfl ?_); refine goesL_ (some 42) rfl rfl Tryd.func12 (by kernel_rfl) rfl #[.string t342, .string (⟨#[45, 108, 101]⟩ : ByteArray), .string x7_5] rfl (by (try simp only [List.map_toArray, List.map_cons, List.map_nil]); first | done | rfl | (simp only [List.length_drop, List.length_take]; rfl)) ?_; (with_reducible refine (jobshelllaw29_eval.calls t342 (⟨#[45, 108, 101]⟩ : ByteArray) x7_5 t347 t348 _ ?side1 A17.out).mono ?_); (case side1 => repeat (first | exact (AmbC_below HAMB.out HB.out) | (with_reducible refine AmbC_alloc ?_ _) | (with_reducible refine AmbC_drewN ?_ _) | (with_reducible refine AmbC_drew ?_))); rintro e w40 ⟨rfl, hb⟩; refine ⟨_, rfl, ?_⟩; have n0_ := Aside0.mk (below_step (by repeat (first | (with_reducible first | exact HB.out | apply below_alloc | apply pw_below_drewN | apply below_drew1) | exact HB.out)) hb); clear HB; have HB := n0_; clear n0_; (try clear hb); (try clear hb2); (try clear hk); (try clear hi)))
      go_ret
      exact ⟨by first | rfl | (simp [errW_none, errW_some] <;> rfl) | (simp [*, errW_none, errW_some] <;> rfl), by repeat (first | (with_reducible first | exact HB.out | apply below_alloc | apply pw_below_drewN | apply below_drew1) | exact HB.out)⟩
    ·rw [if_neg c19] at H
     have c19b0 : (t346 == 0) = false := beq_eq_false_iff_ne.mpr c19
     have c19b1 : (t346 != 0) = true := bne_iff_ne.mpr c19
     obtain rfl := Option.some.inj H
     go_wp2_with (first | ((with_reducible refine gate_callee (f := 12) rfl ?_); refine goesL_ (some 30) rfl rfl Tryd.func12 (by kernel_rfl) rfl #[.string x7_5, .string (⟨#[45, 108, 116]⟩ : ByteArray), .string t342] rfl (by (try simp only [List.map_toArray, List.map_cons, List.map_nil]); first | done | rfl | (simp only [List.length_drop, List.length_take]; rfl)) ?_; (with_reducible refine (jobshelllaw29_eval.calls x7_5 (⟨#[45, 108, 116]⟩ : ByteArray) t342 t343 t344 _ ?side1 A15.out).mono ?_); (case side1 => repeat (first | exact (AmbC_below HAMB.out HB.out) | (with_reducible refine AmbC_alloc ?_ _) | (with_reducible refine AmbC_drewN ?_ _) | (with_reducible refine AmbC_drew ?_))); rintro e w41 ⟨rfl, hb⟩; refine ⟨_, rfl, ?_⟩; have n0_ := Aside0.mk (below_step (by repeat (first | (with_reducible first | exact HB.out | apply below_alloc | apply pw_below_drewN | apply below_drew1) | exact HB.out)) hb); clear HB; have HB := n0_; clear n0_; (try clear hb); (try clear hb2); (try clear hk); (try clear hi)) | ((with_reducible refine gate_callee (f := 12) rfl ?_); refine goesL_ (some 36) rfl rfl Tryd.func12 (by kernel_rfl) rfl #[.string x7_5, .string (⟨#[45, 101, 113]⟩ : ByteArray), .string t342] rfl (by (try simp only [List.map_toArray, List.map_cons, List.map_nil]); first | done | rfl | (simp only [List.length_drop, List.length_take]; rfl)) ?_; (with_reducible refine (jobshelllaw29_eval.calls x7_5 (⟨#[45, 101, 113]⟩ : ByteArray) t342 t345 t346 _ ?side1 A16.out).mono ?_); (case side1 => repeat (first | exact (AmbC_below HAMB.out HB.out) | (with_reducible refine AmbC_alloc ?_ _) | (with_reducible refine AmbC_drewN ?_ _) | (with_reducible refine AmbC_drew ?_))); rintro e w42 ⟨rfl, hb⟩; refine ⟨_, rfl, ?_⟩; have n0_ := Aside0.mk (below_step (by repeat (first | (with_reducible first | exact HB.out | apply below_alloc | apply pw_below_drewN | apply below_drew1) | exact HB.out)) hb); clear HB; have HB := n0_; clear n0_; (try clear hb); (try clear hb2); (try clear hk); (try clear hi)) | ((with_reducible refine gate_callee (f := 12) rfl ?_); refine goesL_ (some 42) rfl rfl Tryd.func12 (by kernel_rfl) rfl #[.string t342, .string (⟨#[45, 108, 101]⟩ : ByteArray), .string x7_5] rfl (by (try simp only [List.map_toArray, List.map_cons, List.map_nil]); first | done | rfl | (simp only [List.length_drop, List.length_take]; rfl)) ?_; (with_reducible refine (jobshelllaw29_eval.calls t342 (⟨#[45, 108, 101]⟩ : ByteArray) x7_5 t347 t348 _ ?side1 A17.out).mono ?_); (case side1 => repeat (first | exact (AmbC_below HAMB.out HB.out) | (with_reducible refine AmbC_alloc ?_ _) | (with_reducible refine AmbC_drewN ?_ _) | (with_reducible refine AmbC_drew ?_))); rintro e w43 ⟨rfl, hb⟩; refine ⟨_, rfl, ?_⟩; have n0_ := Aside0.mk (below_step (by repeat (first | (with_reducible first | exact HB.out | apply below_alloc | apply pw_below_drewN | apply below_drew1) | exact HB.out)) hb); clear HB; have HB := n0_; clear n0_; (try clear hb); (try clear hb2); (try clear hk); (try clear hi)))
     go_ret
     exact ⟨by first | rfl | (simp [errW_none, errW_some] <;> rfl) | (simp [*, errW_none, errW_some] <;> rfl), by repeat (first | (with_reducible first | exact HB.out | apply below_alloc | apply pw_below_drewN | apply below_drew1) | exact HB.out)⟩
   ·rw [if_neg c18] at H
    have c18b0 : (t344 == 0) = false := beq_eq_false_iff_ne.mpr c18
    have c18b1 : (t344 != 0) = true := bne_iff_ne.mpr c18
    obtain rfl := Option.some.inj H
    go_wp2_with (first | ((with_reducible refine gate_callee (f := 12) rfl ?_); refine goesL_ (some 30) rfl rfl Tryd.func12 (by kernel_rfl) rfl #[.string x7_5, .string (⟨#[45, 108, 116]⟩ : ByteArray), .string t342] rfl (by (try simp only [List.map_toArray, List.map_cons, List.map_nil]); first | done | rfl | (simp only [List.length_drop, List.length_take]; rfl)) ?_; (with_reducible refine (jobshelllaw29_eval.calls x7_5 (⟨#[45, 108, 116]⟩ : ByteArray) t342 t343 t344 _ ?side1 A15.out).mono ?_); (case side1 => repeat (first | exact (AmbC_below HAMB.out HB.out) | (with_reducible refine AmbC_alloc ?_ _) | (with_reducible refine AmbC_drewN ?_ _) | (with_reducible refine AmbC_drew ?_))); rintro e w44 ⟨rfl, hb⟩; refine ⟨_, rfl, ?_⟩; have n0_ := Aside0.mk (below_step (by repeat (first | (with_reducible first | exact HB.out | apply below_alloc | apply pw_below_drewN | apply below_drew1) | exact HB.out)) hb); clear HB; have HB := n0_; clear n0_; (try clear hb); (try clear hb2); (try clear hk); (try clear hi)) | ((with_reducible refine gate_callee (f := 12) rfl ?_); refine goesL_ (some 36) rfl rfl Tryd.func12 (by kernel_rfl) rfl #[.string x7_5, .string (⟨#[45, 101, 113]⟩ : ByteArray), .string t342] rfl (by (try simp only [List.map_toArray, List.map_cons, List.map_nil]); first | done | rfl | (simp only [List.length_drop, List.length_take]; rfl)) ?_; (with_reducible refine (jobshelllaw29_eval.calls x7_5 (⟨#[45, 101, 113]⟩ : ByteArray) t342 t345 t346 _ ?side1 A16.out).mono ?_); (case side1 => repeat (first | exact (AmbC_below HAMB.out HB.out) | (with_reducible refine AmbC_alloc ?_ _) | (with_reducible refine AmbC_drewN ?_ _) | (with_reducible refine AmbC_drew ?_))); rintro e w45 ⟨rfl, hb⟩; refine ⟨_, rfl, ?_⟩; have n0_ := Aside0.mk (below_step (by repeat (first | (with_reducible first | exact HB.out | apply below_alloc | apply pw_below_drewN | apply below_drew1) | exact HB.out)) hb); clear HB; have HB := n0_; clear n0_; (try clear hb); (try clear hb2); (try clear hk); (try clear hi)) | ((with_reducible refine gate_callee (f := 12) rfl ?_); refine goesL_ (some 42) rfl rfl Tryd.func12 (by kernel_rfl) rfl #[.string t342, .string (⟨#[45, 108, 101]⟩ : ByteArray), .string x7_5] rfl (by (try simp only [List.map_toArray, List.map_cons, List.map_nil]); first | done | rfl | (simp only [List.length_drop, List.length_take]; rfl)) ?_; (with_reducible refine (jobshelllaw29_eval.calls t342 (⟨#[45, 108, 101]⟩ : ByteArray) x7_5 t347 t348 _ ?side1 A17.out).mono ?_); (case side1 => repeat (first | exact (AmbC_below HAMB.out HB.out) | (with_reducible refine AmbC_alloc ?_ _) | (with_reducible refine AmbC_drewN ?_ _) | (with_reducible refine AmbC_drew ?_))); rintro e w46 ⟨rfl, hb⟩; refine ⟨_, rfl, ?_⟩; have n0_ := Aside0.mk (below_step (by repeat (first | (with_reducible first | exact HB.out | apply below_alloc | apply pw_below_drewN | apply below_drew1) | exact HB.out)) hb); clear HB; have HB := n0_; clear n0_; (try clear hb); (try clear hb2); (try clear hk); (try clear hi)))
    go_ret
    exact ⟨by first | rfl | (simp [errW_none, errW_some] <;> rfl) | (simp [*, errW_none, errW_some] <;> rfl), by repeat (first | (with_reducible first | exact HB.out | apply below_alloc | apply pw_below_drewN | apply below_drew1) | exact HB.out)⟩
end Go.Proofs.YtoeiohfljaboaaaDoor.F
set_option linter.unusedVariables false
set_option linter.unusedSimpArgs false
namespace Go.Proofs.YtoeiohfljaboaaaDoor.Pure
open Go.RowKit Go.Proofs.YtoeiohfljaboaaaDoor.F Go.Proofs.YtoeiohfljaboaaaDoorW.PrintWords
def dg (u : Nat) : UInt8 := UInt8.ofNat (48 + u % 10)
theorem dg_nat (u : Nat) : (dg u).toNat = 48 + u % 10 := by unfold dg; rw [UInt8.toNat_ofNat']; omega
def digs : Nat → Nat → List UInt8
  | 0, _ => []
  | f + 1, u => if u < 10 then [dg u] else digs f (u / 10) ++ [dg u]
theorem gN_append (c : UInt8) : ∀ (l : List UInt8) (n : Int), gN (l ++ [c]) n = (gN l n).bind fun m => gN [c] m
  | [], n => rfl
  | a :: r, n => by
    rw [List.cons_append, gN, gN]
    split
    · rfl
    split
    · rfl
    · exact gN_append c r _
theorem gN_dg (u : Nat) (m : Int) (h : -9223372036854775808 ≤ 10 * m - ((u % 10 : Nat) : Int)) (h0 : m ≤ 0) : gN [dg u] m = some (10 * m - ((u % 10 : Nat) : Int)) := by
  have hd := dg_nat u
  have e : ((dg u).toNat : Int) - 48 = ((u % 10 : Nat) : Int) := by omega
  rw [gN, e, if_neg (by omega), if_neg, gN]
  have h2 : Int.tdiv (-9223372036854775808 + ((u % 10 : Nat) : Int)) 10 = -(Int.tdiv (9223372036854775808 - ((u % 10 : Nat) : Int)) 10) := by rw [← Int.neg_tdiv]; congr 1; omega
  rw [h2, Int.tdiv_eq_ediv_of_nonneg (by omega)]
  omega
theorem gN_digs : ∀ (f u : Nat), u < 10 ^ f → 1 ≤ f → (u : Int) ≤ 9223372036854775808 → gN (digs f u) 0 = some (-(u : Int)) := by
  intro f
  induction f with
  | zero => intro u _ h; omega
  | succ f ih =>
    intro u hu _ hm
    rw [digs]
    by_cases h10 : u < 10
    · rw [if_pos h10, gN_dg u 0 (by omega) (by omega)]
      congr 1; omega
    · have hf : 1 ≤ f := by
        cases f with
        | zero => simp at hu; omega
        | succ f => omega
      rw [if_neg h10, gN_append, ih (u / 10) (by rw [Nat.pow_succ] at hu; omega) hf (by omega), Option.bind_some, gN_dg u _ (by omega) (by omega)]
      congr 1; omega
theorem digs_length : ∀ (f u : Nat), (digs f u).length ≤ f
  | 0, _ => Nat.le_refl _
  | f + 1, u => by
    have := digs_length f (u / 10)
    rw [digs]; split
    · simp
    · simp; omega
theorem digs_ne (f u : Nat) (h : 1 ≤ f) : ∃ c r, digs f u = c :: r ∧ c ≠ 45 ∧ c ≠ 43 := by
  induction f generalizing u with
  | zero => omega
  | succ f ih =>
    have hne : ∀ u, dg u ≠ 45 ∧ dg u ≠ 43 := by
      intro u
      have := dg_nat u
      refine ⟨fun e => ?_, fun e => ?_⟩ <;> (rw [e] at this; simp at this; omega)
    rw [digs]
    by_cases h10 : u < 10
    · rw [if_pos h10]; exact ⟨_, _, rfl, hne u⟩
    · rw [if_neg h10]
      cases f with
      | zero => exact ⟨dg u, [], rfl, hne u⟩
      | succ f =>
        obtain ⟨c, r, e, h1⟩ := ih (u / 10) (by omega)
        exact ⟨c, r ++ [dg u], by rw [e]; rfl, h1⟩
theorem ba_append (a b : List UInt8) : ba a ++ ba b = ba (a ++ b) := by
  apply ByteArray.ext; rw [ByteArray.data_append]; simp [ba]
theorem str_dg (u : Nat) (x : Int) (hx : x = ((48 + u % 10 : Nat) : Int)) : strOfNums [x] = ba [dg u] := by
  subst hx
  unfold strOfNums ba dg
  simp only [List.map_cons, List.map_nil, Int.toNat_natCast]
theorem u64_id {i : Int} (h0 : 0 ≤ i) (h1 : i < 18446744073709551616) : IntKind.u64.wrap i = i := by
  unfold IntKind.wrap
  simp [IntKind.bits, IntKind.signed]
  omega
theorem dig_l0 : ∀ (f u k : Nat) (acc : List UInt8), u < 10 ^ f → 1 ≤ f → u < 18446744073709551616 → f ≤ k → acc.length ≤ 1100 - f → f ≤ 100 → jobshellref05_digits.l0 k (u : Int) (ba acc) = some (ba (digs f u ++ acc)) := by
  intro f
  induction f with
  | zero => intro u k acc _ h; omega
  | succ f ih =>
    intro u k acc hu _ h64 hk ha hf100
    obtain ⟨m, rfl⟩ : ∃ m, k = m + 1 := ⟨k - 1, by omega⟩
    rw [jobshellref05_digits.l0, digs]
    by_cases h10 : u < 10
    · have e : (IntKind.u64.wrap (48 + (u : Int))) % 256 = ((48 + u % 10 : Nat) : Int) := by rw [u64_id (by omega) (by omega)]; omega
      rw [if_neg (by omega), if_pos h10, Option.bind_some, e, str_dg u _ rfl, ba_size, ba_size, if_pos (by simp; omega), ba_append]
    · have hf : 1 ≤ f := by
        cases f with
        | zero => simp at hu; omega
        | succ f => omega
      have e : (IntKind.u64.wrap (48 + Int.tmod (u : Int) 10)) % 256 = ((48 + u % 10 : Nat) : Int) := by
        rw [Int.tmod_eq_emod_of_nonneg (show (0 : Int) ≤ (u : Int) by omega), u64_id (i := 48 + (u : Int) % 10) (by omega) (by omega)]; omega
      have e2 : IntKind.u64.wrap (Int.tdiv (u : Int) 10) = ((u / 10 : Nat) : Int) := by
        rw [Int.tdiv_eq_ediv_of_nonneg (show (0 : Int) ≤ (u : Int) by omega), u64_id (i := (u : Int) / 10) (by omega) (by omega)]; omega
      have hlt : u / 10 < 10 ^ f := Nat.div_lt_of_lt_mul (by rw [Nat.pow_succ, Nat.mul_comm] at hu; exact hu)
      have hl1 : ([dg u] ++ acc).length ≤ 1100 - f := by simp; omega
      rw [if_pos (by omega), if_neg h10, Option.bind_some, e, str_dg u _ rfl, ba_size, ba_size, if_pos (by simp; omega), e2, ba_append, ih (u / 10) m _ hlt hf (by omega) (by omega) hl1 (by omega), List.append_assoc]
theorem dig_eq (u : Nat) (h : u < 18446744073709551616) {k : Nat} (hk : 20 ≤ k) : jobshellref05_digits.f k (u : Int) = some (ba (digs 20 u)) := by
  have := dig_l0 20 u k [] (by omega) (by omega) h hk (by simp) (by omega)
  rw [List.append_nil] at this
  exact this
def decL (a : Int) : List UInt8 := if a < 0 then 45 :: digs 20 a.natAbs else digs 20 a.natAbs
theorem dec_eq (a : Int) (h0 : -9223372036854775808 ≤ a) (h1 : a ≤ 9223372036854775807) {k : Nat} (hk : 20 ≤ k) : jobshellref05_Decimal.f k a = some (ba (decL a)) := by
  unfold jobshellref05_Decimal.f decL
  by_cases h : a < 0
  · rw [if_pos h, if_pos h]
    have e : IntKind.u64.wrap (IntKind.u64.wrap (wrap64 (-(wrap64 (a + 1)))) + 1) = ((a.natAbs : Nat) : Int) := by
      rw [wrap_id (i := a + 1) (by omega) (by omega), wrap_id (by omega) (by omega), u64_id (i := -(a + 1)) (by omega) (by omega), u64_id (by omega) (by omega)]; omega
    have := digs_length 20 a.natAbs
    rw [e, dig_eq _ (by omega) hk, Option.bind_some, ba_size, if_pos (by omega)]
    show some (ba [45] ++ ba (digs 20 a.natAbs)) = _
    rw [ba_append]; rfl
  · rw [if_neg h, if_neg h, show IntKind.u64.wrap a = ((a.natAbs : Nat) : Int) by rw [u64_id (by omega) (by omega)]; omega, dig_eq _ (by omega) hk]; rfl
theorem gN_zeros : ∀ (n : Nat) (l : List UInt8), gN (List.replicate n 48 ++ l) 0 = gN l 0
  | 0, l => rfl
  | n + 1, l => by
    rw [List.replicate_succ, List.cons_append, gN, if_neg (by decide), if_neg (by decide +kernel)]
    exact gN_zeros n l
theorem body_zeros (n : Nat) (a : Int) (h0 : 0 ≤ a) (h1 : a ≤ 9223372036854775807) : body29 (List.replicate n 48 ++ digs 20 a.natAbs) false = (a, true) := by
  obtain ⟨c, r, e, _⟩ := digs_ne 20 a.natAbs (by omega)
  rw [body29, if_neg (by rw [e]; simp), gN_zeros, gN_digs 20 _ (by omega) (by omega) (by omega)]
  simp only [fin29, Bool.false_eq_true, if_false]
  rw [wrap_id (by omega) (by omega)]
  have : (-(a.natAbs : Int) != -9223372036854775808) = true := bne_iff_ne.mpr (by omega)
  rw [this]
  congr 1; omega
theorem intP_dec (a : Int) (h0 : -9223372036854775808 ≤ a) (h1 : a ≤ 9223372036854775807) : intP (decL a) = (a, true) := by
  unfold decL
  by_cases h : a < 0
  · rw [if_pos h, intP, if_pos rfl, body29]
    obtain ⟨c, r, e, _⟩ := digs_ne 20 a.natAbs (by omega)
    rw [if_neg (by rw [e]; simp), gN_digs 20 _ (by omega) (by omega) (by omega)]
    simp only [fin29, if_true]
    congr 1; omega
  · rw [if_neg h]
    obtain ⟨c, r, e, e1, e2⟩ := digs_ne 20 a.natAbs (by omega)
    have hb := body_zeros 0 a (by omega) h1
    rw [List.replicate_zero, List.nil_append] at hb
    rw [e] at hb ⊢
    rw [intP, if_neg e1, if_neg e2]; exact hb
theorem intP_plus (n : Nat) (a : Int) (h0 : 0 ≤ a) (h1 : a ≤ 9223372036854775807) : intP (43 :: (List.replicate n 48 ++ decL a)) = (a, true) := by
  unfold decL
  rw [if_neg (by omega), intP, if_neg (by decide), if_pos rfl]
  exact body_zeros n a h0 h1
theorem decL_length (a : Int) : (decL a).length ≤ 21 := by
  have := digs_length 20 a.natAbs
  unfold decL; split
  · simp; omega
  · omega
end Go.Proofs.YtoeiohfljaboaaaDoor.Pure
set_option linter.unusedVariables false
set_option linter.unusedSimpArgs false
namespace Go.Proofs.YtoeiohfljaboaaaDoor.Pure
open Go.RowKit Go.Proofs.YtoeiohfljaboaaaDoor.F Go.Proofs.YtoeiohfljaboaaaDoorW.PrintWords
theorem wf64 {a : Int} (h : (Lit.int .i64 a).wf = true) : -9223372036854775808 ≤ a ∧ a ≤ 9223372036854775807 := by
  simp only [Lit.wf, Bool.and_eq_true, decide_eq_true_eq] at h
  exact ⟨h.1, h.2⟩
theorem wf8 {a : Int} (h : (Lit.int .u8 a).wf = true) : 0 ≤ a ∧ a ≤ 255 := by
  simp only [Lit.wf, Bool.and_eq_true, decide_eq_true_eq] at h
  exact ⟨h.1, h.2⟩
theorem num_j0 (a b : Int) (s t : ByteArray) (hs : s.size ≤ 100) (ht : t.size ≤ 100) (h1 : intP s.data.toList = (a, true)) (h2 : intP t.data.toList = (b, true)) (ha : jobshelllaw29_awake.f = some true) (k : Nat) :
    jobshelllaw29_TestexprNumbers.j0 (k + 1) a b s t = some true := by
  have n2 := law_num s (⟨#[45, 108, 116]⟩ : ByteArray) t (by decide +kernel) (by decide +kernel) (by decide +kernel) hs ht
  have n0 := law_num s (⟨#[45, 101, 113]⟩ : ByteArray) t (by decide +kernel) (by decide +kernel) (by decide +kernel) hs ht
  have n5 := law_num t (⟨#[45, 108, 101]⟩ : ByteArray) s (by decide +kernel) (by decide +kernel) (by decide +kernel) ht hs
  have c0 : ∀ x y, cmpI (⟨#[45, 101, 113]⟩ : ByteArray) x y = (x == y) := fun x y => by unfold cmpI; rw [if_pos (by decide +kernel)]
  have c2 : ∀ x y, cmpI (⟨#[45, 108, 116]⟩ : ByteArray) x y = decide (x < y) := fun x y => by unfold cmpI; rw [if_neg (by decide +kernel), if_neg (by decide +kernel), if_pos (by decide +kernel)]
  have c5 : ∀ x y, cmpI (⟨#[45, 108, 101]⟩ : ByteArray) x y = decide (x ≤ y) := fun x y => by unfold cmpI; rw [if_neg (by decide +kernel), if_neg (by decide +kernel), if_neg (by decide +kernel), if_pos (by decide +kernel)]
  rw [h1, h2, if_pos ⟨rfl, rfl⟩] at n2 n0
  rw [h2, h1, if_pos ⟨rfl, rfl⟩] at n5
  rw [c0] at n0; rw [c2] at n2; rw [c5] at n5
  rw [jobshelllaw29_TestexprNumbers.j0, n2, n0, n5, Option.bind_some, Option.bind_some, Option.bind_some, if_pos rfl, if_pos rfl, if_pos rfl]
  rw [if_pos (by simp), if_pos (by simp), if_pos (by simp), ha]; rfl
theorem zeros_eq (n : Nat) (h : n ≤ 8) : ((⟨#[48, 48, 48, 48, 48, 48, 48, 48]⟩ : ByteArray).extract 0 n) = ba (List.replicate n 48) := by
  have : ∀ n : Fin 9, ((⟨#[48, 48, 48, 48, 48, 48, 48, 48]⟩ : ByteArray).extract 0 n.val) = ba (List.replicate n.val 48) := by decide +kernel
  exact this ⟨n, by omega⟩
theorem TestexprNumbers (a0 a1 a2 : Int) (w0 : (Lit.int .i64 a0).wf = true) (w1 : (Lit.int .i64 a1).wf = true) (w2 : (Lit.int .u8 a2).wf = true) : ∃ k, jobshelllaw29_TestexprNumbers.f k a0 a1 a2 = some true := by
  have awake_ok : jobshelllaw29_awake.f = some true := by decide +kernel
  obtain ⟨h0, h1⟩ := wf64 w0
  obtain ⟨h2, h3⟩ := wf64 w1
  obtain ⟨h4, h5⟩ := wf8 w2
  refine ⟨29 + 1, ?_⟩
  unfold jobshelllaw29_TestexprNumbers.f
  rw [dec_eq a0 h0 h1 (by omega), dec_eq a1 h2 h3 (by omega), Option.bind_some, Option.bind_some]
  have l0 := decL_length a0
  have l1 := decL_length a1
  have i1 : intP (ba (decL a1)).data.toList = (a1, true) := by rw [ba_data]; exact intP_dec a1 h2 h3
  by_cases hp : a0 ≥ 0
  · have ht : Int.tmod a2 9 = a2 % 9 := Int.tmod_eq_emod_of_nonneg h4
    obtain ⟨n, hn, hn8⟩ : ∃ n : Nat, a2 % 9 = (n : Int) ∧ n ≤ 8 := ⟨(a2 % 9).toNat, by omega, by omega⟩
    rw [if_pos hp, ht, hn, if_pos (by omega), if_pos (by omega), Int.toNat_natCast, zeros_eq n hn8, ba_size, List.length_replicate, if_pos (by omega)]
    have e : (⟨#[43]⟩ : ByteArray) ++ ba (List.replicate n 48) = ba (43 :: List.replicate n 48) := by show ba [43] ++ ba (List.replicate n 48) = _; rw [ba_append]; rfl
    rw [e, ba_size, ba_size, if_pos (by simp; omega), ba_append]
    exact num_j0 a0 a1 _ _ (by rw [ba_size]; simp; omega) (by rw [ba_size]; omega) (by rw [ba_data]; exact intP_plus n a0 hp h1) i1 awake_ok _
  · rw [if_neg hp]
    exact num_j0 a0 a1 _ _ (by rw [ba_size]; omega) (by rw [ba_size]; omega) (by rw [ba_data]; exact intP_dec a0 h0 h1) i1 awake_ok _
end Go.Proofs.YtoeiohfljaboaaaDoor.Pure
namespace Go.Proofs.YtoeiohfljaboaaaDoor.testexprNumbers
open Go.ChangeShapes Go.WideShapes Go.ChangeAt Go.RowKit
open Go.ChangeMaps (open_string shut_string)
open Go.Proofs.YtoeiohfljaboaaaDoor.F Go.Proofs.YtoeiohfljaboaaaDoorW.PrintWords Go.Proofs.YtoeiohfljaboaaaDoor.Opn
set_option linter.unusedVariables false
set_option linter.unusedSimpArgs false
theorem own : ownKnob Tryd.prog.godebug = none := by kernel_rfl
theorem laidOut : laidOutB Tryd.prog = true := by kernel_rfl
set_option maxRecDepth 100000 in
set_option maxHeartbeats 1000000 in
theorem lifted (os : Os) (started : os.Started) (H : Type) (enc : TypeId × Value → H) :
    ReturnsInHanded {} Tryd.checked os 6 .any (fun w args => (Rows.testexprNumbersSpec.pre enc Tryd.prog Tryd.f6 [] false w args ∧ laidMetH Tryd.prog Rows.testexprNumbersRow.laid w) ∧ sizedMet enc Tryd.prog Tryd.f6 (OpenSpec.ofChange Rows.testexprNumbersSpec) false w args)
      (Rows.testexprNumbersSpec.post enc Tryd.prog Tryd.f6 false true false false) := by
  refine handed_and_shaped (C := Tryd.checked) (X := fun w _ => laidMetH Tryd.prog Rows.testexprNumbersRow.laid w) (fun _ _ _ hh h => h.of_heap hh) own started (by kernel_rfl) Tryd.func6
    (ChangeSpec.witness_shaped (enc := enc) (C := Tryd.checked) (os := os) (X := fun w _ => laidMetH Tryd.prog Rows.testexprNumbersRow.laid w) false (World.laidAll Tryd.prog os Rows.testexprNumbersRow.laid) #[.int .i64 0, .int .i64 0, .int .u8 0] 8 (World.laidAll_os _ _ _)
      (World.shaped_of_ZipB (by kernel_rfl) (by kernel_rfl)) (by kernel_rfl) (by kernel_rfl) (by kernel_rfl)
      (by rw [MakeChecks.laidMetH_plain _ _ _ (by kernel_rfl)]; exact laidMet_laidAll _ (by kernel_rfl) (by kernel_rfl))) ?_
  intro W base args ds gs before hval0 hW _ hsz0 hL hSh
  have hsz : (DataW.weightsEach Tryd.prog (Tryd.f6.params.toList ++ Rows.testexprNumbersSpec.plain.varTypes Tryd.prog) (ds ++ gs)).all (· ≤ reachBytes) = true := hsz0
  have hval : ∀ (j : Nat) t v, Tryd.f6.params[j]? = some t → args[j]? = some v → Value.okWide Tryd.prog W .any base t v := hval0
  have hW' := hW
  obtain ⟨p, q, hA0, hV, rfl, hfz, hnd⟩ := hW
  have hA : DataW.TrodAll enc Tryd.prog W 0 (fun _ => true) true Tryd.f6.params.toList args.toList ds p := hA0
  rw [Tryd.params6] at hA hval hsz
  obtain ⟨v0, vs0, d0, ds0, p0, q0, hargs, rfl, rfl, h0, r0⟩ := trodAll_cons hA
  obtain ⟨v1, vs1, d1, ds1, p1, q1, rfl, rfl, rfl, h1, r1⟩ := trodAll_cons r0
  obtain ⟨v2, vs2, d2, ds2, p2, q2, rfl, rfl, rfl, h2, r2⟩ := trodAll_cons r1
  obtain ⟨rfl, rfl, rfl⟩ := trodAll_nil r2
  obtain rfl : args = #[v0, v1, v2] := by cases args; simp_all
  obtain ⟨rfl, rfl⟩ := trodVars_none hV
  obtain ⟨a0, rfl, rfl, rfl, w0⟩ := open_int Tryd.underlying3 (hval 0 3 v0 rfl rfl) h0
  obtain ⟨a1, rfl, rfl, rfl, w1⟩ := open_int Tryd.underlying3 (hval 1 3 v1 rfl rfl) h1
  obtain ⟨a2, rfl, rfl, rfl, w2⟩ := open_int Tryd.underlying5 (hval 2 5 v2 rfl rfl) h2
  clear hA0 hval0 hsz0 hsz
  obtain ⟨k, hk_⟩ := Go.Proofs.YtoeiohfljaboaaaDoor.Pure.TestexprNumbers a0 a1 a2 w0 w1 w2
  refine (jobshelllaw29_TestexprNumbers.calls k a0 a1 a2 true W (amb_shaped hSh) hk_).mono fun e W' ⟨he, bel0⟩ => ?_
  have bel : Below W.heap.size W W' := bel0
  subst he
  exact ⟨_, rfl, _, _, _, [], _, [], hW', trodAll_mk1 (shut_bool Tryd.underlying4 _), (trodAll_cons_mk (shut_int Tryd.underlying3 w0) (trodAll_cons_mk (shut_int Tryd.underlying3 w1) (trodAll_cons_mk (shut_int Tryd.underlying5 w2) trodAll_mk0))), rfl, bel.frame _, fun h => by cases h⟩
theorem over : Rows.testexprNumbersRow.holds Tryd.pinned (OpenSpec.ofChange Rows.testexprNumbersSpec) :=
  OpenClaim.holds_of_wide 6 Tryd.f6 rfl rfl rfl rfl rfl rfl rfl ⟨rfl, rfl, rfl, rfl, rfl⟩ rfl rfl rfl rfl rfl (by kernel_rfl) Tryd.func6 (by kernel_rfl)
    (of_decide_eq_true (by kernel_rfl)) (by unfold Func.isWrapper; first | (rw [if_pos (by decide +kernel)]; kernel_rfl) | (rw [if_neg (by decide +kernel)]; exact ⟨rfl, rfl⟩))
    (fun os started H enc _ => lifted os started H enc)
theorem card : Rows.TestexprNumbersCardSaid :=
  Claim7.holds_tied_plain_at .later [] [.data, .pinned] true (true, "aacb5983c18f5337dcd45483c6c156b2b676d1e2300df527b101564bf02ef163") false over (fun _ h => by cases h) (by kernel_rfl) (fun _ h => by cases h) testexprNumbers_row_tie rfl ⟨rfl, rfl⟩ (by kernel_rfl) rfl
    (fun f fn hf hfn => by
      obtain rfl : f = 6 := Option.some.inj ((show Tryd.prog.funcNamed "jobshell/jobshelllaw29.TestexprNumbers" = some 6 by kernel_rfl).symm.trans hf) |>.symm
      obtain rfl : fn = Tryd.f6 := (Option.some.inj (Tryd.func6.symm.trans hfn)).symm
      exact ⟨by kernel_rfl, fun j t ht => by
        rw [Tryd.params6] at ht
        have hm : t ∈ [3, 3, 5] := by simpa using Array.mem_of_getElem? ht
        have hall : ([3, 3, 5].all fun u => !Tryd.prog.wantsStandIn u) = true := by kernel_rfl
        exact (show Tryd.prog.wantsStandIn t = false by simpa using List.all_eq_true.1 hall t hm)⟩)
    (by kernel_rfl)
#print axioms card
end Go.Proofs.YtoeiohfljaboaaaDoor.testexprNumbers
namespace Go.Proofs.YtoeiohfljaboaaaDoor
theorem testexprNumbers_holds : Rows.TestexprNumbersCardSaid := testexprNumbers.card
end Go.Proofs.YtoeiohfljaboaaaDoor
