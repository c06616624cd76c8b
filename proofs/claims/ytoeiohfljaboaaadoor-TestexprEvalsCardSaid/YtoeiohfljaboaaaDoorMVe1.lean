/- Texts of this claim, joined. -/
import Derived.Test.YtoeiohfljaboaaaDoorB0
import Derived.Test.YtoeiohfljaboaaaDoorMVe0
import Derived.Test.YtoeiohfljaboaaaDoorB1
namespace Go.Proofs.YtoeiohfljaboaaaDoor.F
open Go.RowKit Go.Proofs.YtoeiohfljaboaaaDoorW.PrintWords Go.Proofs.YtoeiohfljaboaaaDoorW.PrintLast Go.Proofs.YtoeiohfljaboaaaDoorW.PrintMore
attribute [local go_sem] max2_int min2_int max_two min_two max_three min_three max_four min_four
set_option linter.unusedVariables false
set_option linter.unusedSimpArgs false
def jobshellref29_is.l0 : Nat → ByteArray → List ByteArray → Int → Option (Bool)
 | 0, _, _, _ => none
 | k + 1, x0, x1, x5 => if x5 < (x1.length : Int) then (if 0 ≤ x5 then (if (rdOf ByteArray.empty x1 x5).toList = x0.toList then (some true) else (jobshellref29_is.l0 k x0 x1 (wrap64 (x5 + 1)))) else (none)) else (some false)
def jobshellref29_is.f (k : Nat) (a0 : ByteArray) (l1 : List ByteArray) : Option (Bool) := jobshellref29_is.l0 k a0 l1 0
theorem jobshellref29_is.mono_l : ∀ k, (∀ y0 y1 y2, LeO (jobshellref29_is.l0 k y0 y1 y2) (jobshellref29_is.l0 (k + 1) y0 y1 y2))
 | 0 => fun _ _ _ r h => by simp [jobshellref29_is.l0] at h
 | k + 1 => by
  have ih0 := jobshellref29_is.mono_l k
  ·intro y0 y1 y2
   unfold jobshellref29_is.l0
   repeat' first
   | (with_reducible exact ih0 _ _ _)
   | (with_reducible exact LeO.refl _)
   | (with_reducible exact LeO.none _)
   | (with_reducible refine LeO.ite ?_ ?_)
   | (with_reducible refine LeO.bind ?_ (fun _ => ?_))
   | exact ih0 _ _ _
   | exact LeO.none _
   | refine LeO.ite ?_ ?_
   | refine LeO.bind ?_ (fun _ => ?_)
theorem jobshellref29_is.mono : ∀ a0 a1 k, LeO (jobshellref29_is.f k a0 a1) (jobshellref29_is.f (k + 1) a0 a1) := by
 intro a0 a1 k
 have ih0 := jobshellref29_is.mono_l k
 unfold jobshellref29_is.f
 repeat' first
   | (with_reducible exact ih0 _ _ _)
   | (with_reducible exact LeO.refl _)
   | (with_reducible exact LeO.none _)
   | (with_reducible refine LeO.ite ?_ ?_)
   | (with_reducible refine LeO.bind ?_ (fun _ => ?_))
   | exact ih0 _ _ _
   | exact LeO.none _
   | refine LeO.ite ?_ ?_
   | refine LeO.bind ?_ (fun _ => ?_)
set_option maxHeartbeats 8000000 in
set_option maxRecDepth 100000 in
theorem jobshellref29_is.calls (k : Nat) (a0 : ByteArray) (A1 : Option Addr) (c1 : Nat) (l1 : List ByteArray) (r : Bool) (w : World) (hr1 : Kd.C Kd.string w A1 l1.length l1) (hc1 : l1.length ≤ c1) (h : jobshellref29_is.f k a0 l1 = some r) :
  Calls Tryd.prog 43 #[.string a0, .slice A1 l1.length c1] w fun e w' => e = .returned (.bool r) ∧ Drawn0 w w' := by
 have HR1 := Aside0.mk hr1
 have HC1 := Aside0.mk hc1
 clear hr1 hc1
 have H : (jobshellref29_is.l0 k a0 l1 0) = some r := h
 clear h
 have H' := Aside0.mk H
 clear H
 go_enter Tryd.func43, Tryd.ntmps43
 go_wp2
 go_loopg [5] k (fun kq v5 w' => ∃ (x5_1 : Int), v5 = .int .i64 x5_1 ∧ Aside0 (jobshellref29_is.l0 kq a0 l1 x5_1 = some r) ∧ Aside0 (kq ≤ k) ∧ Drawn0 w w')
 case atStart => exact ⟨(0), (by first | rfl | (simp; done) | (simp [*]; done) | (simp [isE_ne]; done)), H', ⟨Nat.le_refl _⟩, by repeat (first | exact Drawn0.refl _ | apply Drawn0.step)⟩
 case round =>
  clear H'
  try clear c1
  try clear p2
  obtain ⟨x5_1, rfl, HA, HK1, ⟨m1, rfl⟩⟩ := hrel
  cases gk with
  | zero => exact absurd HA.out (by simp [jobshellref29_is.l0])
  | succ k1 =>
   have H := HA.out
   clear HA
   simp only [jobshellref29_is.l0] at H
   by_cases c3 : x5_1 < (l1.length : Int)
   ·rw [if_pos c3] at H
    have c3b0 : decide (x5_1 < (l1.length : Int)) = true := decide_eq_true c3
    clear c3
    by_cases c4 : 0 ≤ x5_1
    ·rw [if_pos c4] at H
     have c4b0 : decide (0 ≤ x5_1) = true := decide_eq_true c4
     clear c4
     by_cases c5 : (rdOf ByteArray.empty l1 x5_1).toList = a0.toList
     ·rw [if_pos c5] at H
      have c5b0 : ((rdOf ByteArray.empty l1 x5_1).toList == a0.toList) = true := beq_iff_eq.mpr c5
      have c5b1 : ((rdOf ByteArray.empty l1 x5_1).toList != a0.toList) = false := bne_eq_false_iff_eq.mpr c5
      clear c5
      obtain rfl := Option.some.inj H
      have p208 : 0 ≤ (x5_1 : Int) := of_decide_eq_true (by first | (with_reducible assumption) | assumption)
      have q208 : x5_1 < (l1.length : Int) := of_decide_eq_true (by first | (with_reducible assumption) | assumption)
      obtain ⟨ad208, e208, hx208_0⟩ := Kd.at_string HR1.out x5_1 p208 q208
      cases e208
      replace p208 := eq_true p208
      replace q208 := eq_true q208
      go_wp2
      go_ret
      exact ⟨by first | rfl | (simp; done) | (simp [*]; done), by repeat (first | exact Drawn0.refl _ | apply Drawn0.step)⟩
     ·rw [if_neg c5] at H
      have c5b0 : ((rdOf ByteArray.empty l1 x5_1).toList == a0.toList) = false := beq_eq_false_iff_ne.mpr c5
      have c5b1 : ((rdOf ByteArray.empty l1 x5_1).toList != a0.toList) = true := bne_iff_ne.mpr c5
      have H' := Aside0.mk H
      clear H
      have p208 : 0 ≤ (x5_1 : Int) := of_decide_eq_true (by first | (with_reducible assumption) | assumption)
      have q208 : x5_1 < (l1.length : Int) := of_decide_eq_true (by first | (with_reducible assumption) | assumption)
      obtain ⟨ad208, e208, hx208_0⟩ := Kd.at_string HR1.out x5_1 p208 q208
      cases e208
      replace p208 := eq_true p208
      replace q208 := eq_true q208
      go_wp2
      go_roundg k1
      case measure => have := HK1.out; omega
      case rel => exact ⟨(wrap64 (x5_1 + 1)), (by first | rfl | (simp; done) | (simp [*]; done) | (simp [isE_ne]; done)), H', ⟨by have := HK1.out; omega⟩, by repeat (first | exact Drawn0.refl _ | apply Drawn0.step)⟩
    ·rw [if_neg c4] at H
     exact absurd H (by simp)
   ·rw [if_neg c3] at H
    have c3b0 : decide (x5_1 < (l1.length : Int)) = false := decide_eq_false c3
    clear c3
    obtain rfl := Option.some.inj H
    go_wp2
    go_ret
    exact ⟨by first | rfl | (simp; done) | (simp [*]; done), by repeat (first | exact Drawn0.refl _ | apply Drawn0.step)⟩
end Go.Proofs.YtoeiohfljaboaaaDoor.F
namespace Go.Proofs.YtoeiohfljaboaaaDoor.F
open Go.RowKit Go.Proofs.YtoeiohfljaboaaaDoorW.PrintWords Go.Proofs.YtoeiohfljaboaaaDoorW.PrintLast Go.Proofs.YtoeiohfljaboaaaDoorW.PrintMore
attribute [local go_sem] max2_int min2_int max_two min_two max_three min_three max_four min_four
set_option linter.unusedVariables false
set_option linter.unusedSimpArgs false
def jobshellref29_binary.f (k : Nat) (a0 : ByteArray) : Option (Bool) := (jobshellref29_is.f k a0 (([(⟨#[61]⟩ : ByteArray), (⟨#[33, 61]⟩ : ByteArray), (⟨#[45, 101, 113]⟩ : ByteArray), (⟨#[45, 110, 101]⟩ : ByteArray), (⟨#[45, 108, 116]⟩ : ByteArray), (⟨#[45, 108, 101]⟩ : ByteArray), (⟨#[45, 103, 116]⟩ : ByteArray), (⟨#[45, 103, 101]⟩ : ByteArray)] : List ByteArray))).bind fun t212 => (some t212)
theorem jobshellref29_binary.mono : ∀ a0 k, LeO (jobshellref29_binary.f k a0) (jobshellref29_binary.f (k + 1) a0) := by
 intro a0 k
 unfold jobshellref29_binary.f
 repeat' first
   | (with_reducible exact jobshellref29_is.mono _ _ _)
   | (with_reducible exact LeO.refl _)
   | (with_reducible exact LeO.none _)
   | (with_reducible refine LeO.ite ?_ ?_)
   | (with_reducible refine LeO.bind ?_ (fun _ => ?_))
   | exact jobshellref29_is.mono _ _ _
   | exact LeO.none _
   | refine LeO.ite ?_ ?_
   | refine LeO.bind ?_ (fun _ => ?_)
set_option maxHeartbeats 8000000 in
set_option maxRecDepth 100000 in
theorem jobshellref29_binary.calls (k : Nat) (a0 : ByteArray) (r : Bool) (w : World) (h : jobshellref29_binary.f k a0 = some r) :
  Calls Tryd.prog 29 #[.string a0] w fun e w' => e = .returned (.bool r) ∧ Below w.heap.size w w' := by
 have HB := Aside0.mk (Below.refl w.heap.size w)
 have H : ((jobshellref29_is.f k a0 (([(⟨#[61]⟩ : ByteArray), (⟨#[33, 61]⟩ : ByteArray), (⟨#[45, 101, 113]⟩ : ByteArray), (⟨#[45, 110, 101]⟩ : ByteArray), (⟨#[45, 108, 116]⟩ : ByteArray), (⟨#[45, 108, 101]⟩ : ByteArray), (⟨#[45, 103, 116]⟩ : ByteArray), (⟨#[45, 103, 101]⟩ : ByteArray)] : List ByteArray))).bind fun t212 => (some t212)) = some r := h
 clear h
 obtain ⟨y209, hy209⟩ : ∃ y_ : List ByteArray, y_ = (([(⟨#[61]⟩ : ByteArray), (⟨#[33, 61]⟩ : ByteArray), (⟨#[45, 101, 113]⟩ : ByteArray), (⟨#[45, 110, 101]⟩ : ByteArray), (⟨#[45, 108, 116]⟩ : ByteArray), (⟨#[45, 108, 101]⟩ : ByteArray), (⟨#[45, 103, 116]⟩ : ByteArray), (⟨#[45, 103, 101]⟩ : ByteArray)] : List ByteArray)) := ⟨_, rfl⟩
 replace H : ((jobshellref29_is.f k a0 y209).bind fun t212 => (some t212)) = some r := by first | (rw [hy209]; with_reducible exact H) | (have H2_ := (Option.bind_some _ _).symm.trans H; rw [hy209]; with_reducible exact H2_) | (have H2_ := (Option.bind_some _ _).symm.trans H; with_reducible exact H2_) | with_reducible exact H | (rw [hy209]; exact H) | exact H
 have Ny209 := Aside0.mk hy209
 clear hy209
 replace H := Option.bind_eq_some_iff.mp H
 obtain ⟨t212, A20, H⟩ := H
 replace H : (some t212) = some r := H
 have A2 := Aside0.mk A20
 clear A20
 obtain rfl := Option.some.inj H
 go_enter Tryd.func29, Tryd.ntmps29
 go_wp2_with (first | ((with_reducible refine gate_dst (N := 4) rfl ?_); refine Kd.R_lit Kd.string _ 9 ?hg (N := 4) ?hd (xs := ([(⟨#[61]⟩ : ByteArray), (⟨#[33, 61]⟩ : ByteArray), (⟨#[45, 101, 113]⟩ : ByteArray), (⟨#[45, 110, 101]⟩ : ByteArray), (⟨#[45, 108, 116]⟩ : ByteArray), (⟨#[45, 108, 101]⟩ : ByteArray), (⟨#[45, 103, 116]⟩ : ByteArray), (⟨#[45, 103, 101]⟩ : ByteArray)] : List ByteArray)) (inner := [.string (⟨#[61]⟩ : ByteArray), .string (⟨#[33, 61]⟩ : ByteArray), .string (⟨#[45, 101, 113]⟩ : ByteArray), .string (⟨#[45, 110, 101]⟩ : ByteArray), .string (⟨#[45, 108, 116]⟩ : ByteArray), .string (⟨#[45, 108, 101]⟩ : ByteArray), .string (⟨#[45, 103, 116]⟩ : ByteArray), .string (⟨#[45, 103, 101]⟩ : ByteArray)]) (ok := fun _ => True) (okp := fun _ => True) ?hr ?hp (fun _ hk => hk) trivial (Below.refl _ _) (Nat.le_refl _) (by simp) ?_; (case hd => rfl); (case hg => rfl); (case hr => first | (go_simp; done) | (go_simp; rfl)); (case hp => exact (Reps.one (show Kd.M Kd.string _ _ _ (⟨#[61]⟩ : ByteArray) [.string (⟨#[61]⟩ : ByteArray)] from rfl) (Reps.one (show Kd.M Kd.string _ _ _ (⟨#[33, 61]⟩ : ByteArray) [.string (⟨#[33, 61]⟩ : ByteArray)] from rfl) (Reps.one (show Kd.M Kd.string _ _ _ (⟨#[45, 101, 113]⟩ : ByteArray) [.string (⟨#[45, 101, 113]⟩ : ByteArray)] from rfl) (Reps.one (show Kd.M Kd.string _ _ _ (⟨#[45, 110, 101]⟩ : ByteArray) [.string (⟨#[45, 110, 101]⟩ : ByteArray)] from rfl) (Reps.one (show Kd.M Kd.string _ _ _ (⟨#[45, 108, 116]⟩ : ByteArray) [.string (⟨#[45, 108, 116]⟩ : ByteArray)] from rfl) (Reps.one (show Kd.M Kd.string _ _ _ (⟨#[45, 108, 101]⟩ : ByteArray) [.string (⟨#[45, 108, 101]⟩ : ByteArray)] from rfl) (Reps.one (show Kd.M Kd.string _ _ _ (⟨#[45, 103, 116]⟩ : ByteArray) [.string (⟨#[45, 103, 116]⟩ : ByteArray)] from rfl) (Reps.one (show Kd.M Kd.string _ _ _ (⟨#[45, 103, 101]⟩ : ByteArray) [.string (⟨#[45, 103, 101]⟩ : ByteArray)] from rfl) (Reps.none _ _)))))))))); intro v210 w3 ho4 hb hg_ hnew_; clear hg_ hnew_; (first | rw [← Ny209.out] at ho4 | (simp only [Int.reduceToNat] at ho4; rw [← Ny209.out] at ho4)); have n0_ := Aside0.mk (Kd.R_lower ho4 (below_size (by repeat (first | (with_reducible first | exact HB.out | apply below_alloc | apply pw_below_drewN | apply below_drew1) | exact HB.out)))); have n1_ := Aside0.mk (below_step (by repeat (first | (with_reducible first | exact HB.out | apply below_alloc | apply pw_below_drewN | apply below_drew1) | exact HB.out)) hb); clear HB; have HO211 := n0_; have HB := n1_; clear n0_ n1_; clear hb ho4; obtain ⟨Ao5, co5, eo5⟩ := Kd.R_slice HO211.out; subst eo5) | ((with_reducible refine gate_callee (f := 43) rfl ?_); refine goesL_ (some 5) rfl rfl Tryd.func43 (by kernel_rfl) rfl #[.string a0, .slice Ao5 y209.length co5] rfl (by (try simp only [List.map_toArray, List.map_cons, List.map_nil]); first | done | rfl | (simp only [List.length_drop, List.length_take]; rfl)) ?_; (with_reducible refine (jobshellref29_is.calls k a0 _ _ y209 t212 _ ?side1 ?side2 A2.out).mono ?_); (case side1 => repeat (first | exact (Kd.R_reads' HO211.out).2.2 | (with_reducible refine Kd.C_alloc ?_ _) | (with_reducible refine Kd.C_drewN ?_ _) | (with_reducible refine Kd.C_drew ?_))); (case side2 => exact (Kd.R_reads' HO211.out).2.1); rintro e w' ⟨rfl, ⟨nd, rfl⟩⟩; refine ⟨_, rfl, ?_⟩))
 go_ret
 exact ⟨by first | rfl | (simp [errW_none, errW_some] <;> rfl) | (simp [*, errW_none, errW_some] <;> rfl), by repeat (first | (with_reducible first | exact HB.out | apply below_alloc | apply pw_below_drewN | apply below_drew1) | exact HB.out)⟩
end Go.Proofs.YtoeiohfljaboaaaDoor.F
namespace Go.Proofs.YtoeiohfljaboaaaDoor.F
open Go.RowKit Go.Proofs.YtoeiohfljaboaaaDoorW.PrintWords Go.Proofs.YtoeiohfljaboaaaDoorW.PrintLast Go.Proofs.YtoeiohfljaboaaaDoorW.PrintMore
attribute [local go_sem] max2_int min2_int max_two min_two max_three min_three max_four min_four
set_option linter.unusedVariables false
set_option linter.unusedSimpArgs false
def jobshellref29_unary.f (k : Nat) (a0 : ByteArray) : Option (Bool) := (jobshellref29_is.f k a0 (([(⟨#[45, 101]⟩ : ByteArray), (⟨#[45, 102]⟩ : ByteArray), (⟨#[45, 100]⟩ : ByteArray), (⟨#[45, 115]⟩ : ByteArray), (⟨#[45, 110]⟩ : ByteArray), (⟨#[45, 122]⟩ : ByteArray)] : List ByteArray))).bind fun t224 => (some t224)
theorem jobshellref29_unary.mono : ∀ a0 k, LeO (jobshellref29_unary.f k a0) (jobshellref29_unary.f (k + 1) a0) := by
 intro a0 k
 unfold jobshellref29_unary.f
 repeat' first
   | (with_reducible exact jobshellref29_is.mono _ _ _)
   | (with_reducible exact LeO.refl _)
   | (with_reducible exact LeO.none _)
   | (with_reducible refine LeO.ite ?_ ?_)
   | (with_reducible refine LeO.bind ?_ (fun _ => ?_))
   | exact jobshellref29_is.mono _ _ _
   | exact LeO.none _
   | refine LeO.ite ?_ ?_
   | refine LeO.bind ?_ (fun _ => ?_)
set_option maxHeartbeats 8000000 in
set_option maxRecDepth 100000 in
theorem jobshellref29_unary.calls (k : Nat) (a0 : ByteArray) (r : Bool) (w : World) (h : jobshellref29_unary.f k a0 = some r) :
  Calls Tryd.prog 31 #[.string a0] w fun e w' => e = .returned (.bool r) ∧ Below w.heap.size w w' := by
 have HB := Aside0.mk (Below.refl w.heap.size w)
 have H : ((jobshellref29_is.f k a0 (([(⟨#[45, 101]⟩ : ByteArray), (⟨#[45, 102]⟩ : ByteArray), (⟨#[45, 100]⟩ : ByteArray), (⟨#[45, 115]⟩ : ByteArray), (⟨#[45, 110]⟩ : ByteArray), (⟨#[45, 122]⟩ : ByteArray)] : List ByteArray))).bind fun t224 => (some t224)) = some r := h
 clear h
 obtain ⟨y221, hy221⟩ : ∃ y_ : List ByteArray, y_ = (([(⟨#[45, 101]⟩ : ByteArray), (⟨#[45, 102]⟩ : ByteArray), (⟨#[45, 100]⟩ : ByteArray), (⟨#[45, 115]⟩ : ByteArray), (⟨#[45, 110]⟩ : ByteArray), (⟨#[45, 122]⟩ : ByteArray)] : List ByteArray)) := ⟨_, rfl⟩
 replace H : ((jobshellref29_is.f k a0 y221).bind fun t224 => (some t224)) = some r := by first | (rw [hy221]; with_reducible exact H) | (have H2_ := (Option.bind_some _ _).symm.trans H; rw [hy221]; with_reducible exact H2_) | (have H2_ := (Option.bind_some _ _).symm.trans H; with_reducible exact H2_) | with_reducible exact H | (rw [hy221]; exact H) | exact H
 have Ny221 := Aside0.mk hy221
 clear hy221
 replace H := Option.bind_eq_some_iff.mp H
 obtain ⟨t224, A20, H⟩ := H
 replace H : (some t224) = some r := H
 have A2 := Aside0.mk A20
 clear A20
 obtain rfl := Option.some.inj H
 go_enter Tryd.func31, Tryd.ntmps31
 go_wp2_with (first | ((with_reducible refine gate_dst (N := 4) rfl ?_); refine Kd.R_lit Kd.string _ 9 ?hg (N := 4) ?hd (xs := ([(⟨#[45, 101]⟩ : ByteArray), (⟨#[45, 102]⟩ : ByteArray), (⟨#[45, 100]⟩ : ByteArray), (⟨#[45, 115]⟩ : ByteArray), (⟨#[45, 110]⟩ : ByteArray), (⟨#[45, 122]⟩ : ByteArray)] : List ByteArray)) (inner := [.string (⟨#[45, 101]⟩ : ByteArray), .string (⟨#[45, 102]⟩ : ByteArray), .string (⟨#[45, 100]⟩ : ByteArray), .string (⟨#[45, 115]⟩ : ByteArray), .string (⟨#[45, 110]⟩ : ByteArray), .string (⟨#[45, 122]⟩ : ByteArray)]) (ok := fun _ => True) (okp := fun _ => True) ?hr ?hp (fun _ hk => hk) trivial (Below.refl _ _) (Nat.le_refl _) (by simp) ?_; (case hd => rfl); (case hg => rfl); (case hr => first | (go_simp; done) | (go_simp; rfl)); (case hp => exact (Reps.one (show Kd.M Kd.string _ _ _ (⟨#[45, 101]⟩ : ByteArray) [.string (⟨#[45, 101]⟩ : ByteArray)] from rfl) (Reps.one (show Kd.M Kd.string _ _ _ (⟨#[45, 102]⟩ : ByteArray) [.string (⟨#[45, 102]⟩ : ByteArray)] from rfl) (Reps.one (show Kd.M Kd.string _ _ _ (⟨#[45, 100]⟩ : ByteArray) [.string (⟨#[45, 100]⟩ : ByteArray)] from rfl) (Reps.one (show Kd.M Kd.string _ _ _ (⟨#[45, 115]⟩ : ByteArray) [.string (⟨#[45, 115]⟩ : ByteArray)] from rfl) (Reps.one (show Kd.M Kd.string _ _ _ (⟨#[45, 110]⟩ : ByteArray) [.string (⟨#[45, 110]⟩ : ByteArray)] from rfl) (Reps.one (show Kd.M Kd.string _ _ _ (⟨#[45, 122]⟩ : ByteArray) [.string (⟨#[45, 122]⟩ : ByteArray)] from rfl) (Reps.none _ _)))))))); intro v222 w3 ho4 hb hg_ hnew_; clear hg_ hnew_; (first | rw [← Ny221.out] at ho4 | (simp only [Int.reduceToNat] at ho4; rw [← Ny221.out] at ho4)); have n0_ := Aside0.mk (Kd.R_lower ho4 (below_size (by repeat (first | (with_reducible first | exact HB.out | apply below_alloc | apply pw_below_drewN | apply below_drew1) | exact HB.out)))); have n1_ := Aside0.mk (below_step (by repeat (first | (with_reducible first | exact HB.out | apply below_alloc | apply pw_below_drewN | apply below_drew1) | exact HB.out)) hb); clear HB; have HO223 := n0_; have HB := n1_; clear n0_ n1_; clear hb ho4; obtain ⟨Ao5, co5, eo5⟩ := Kd.R_slice HO223.out; subst eo5) | ((with_reducible refine gate_callee (f := 43) rfl ?_); refine goesL_ (some 5) rfl rfl Tryd.func43 (by kernel_rfl) rfl #[.string a0, .slice Ao5 y221.length co5] rfl (by (try simp only [List.map_toArray, List.map_cons, List.map_nil]); first | done | rfl | (simp only [List.length_drop, List.length_take]; rfl)) ?_; (with_reducible refine (jobshellref29_is.calls k a0 _ _ y221 t224 _ ?side1 ?side2 A2.out).mono ?_); (case side1 => repeat (first | exact (Kd.R_reads' HO223.out).2.2 | (with_reducible refine Kd.C_alloc ?_ _) | (with_reducible refine Kd.C_drewN ?_ _) | (with_reducible refine Kd.C_drew ?_))); (case side2 => exact (Kd.R_reads' HO223.out).2.1); rintro e w' ⟨rfl, ⟨nd, rfl⟩⟩; refine ⟨_, rfl, ?_⟩))
 go_ret
 exact ⟨by first | rfl | (simp [errW_none, errW_some] <;> rfl) | (simp [*, errW_none, errW_some] <;> rfl), by repeat (first | (with_reducible first | exact HB.out | apply below_alloc | apply pw_below_drewN | apply below_drew1) | exact HB.out)⟩
end Go.Proofs.YtoeiohfljaboaaaDoor.F
namespace Go.Proofs.YtoeiohfljaboaaaDoor.F
open Go.RowKit Go.Proofs.YtoeiohfljaboaaaDoorW.PrintWords Go.Proofs.YtoeiohfljaboaaaDoorW.PrintLast Go.Proofs.YtoeiohfljaboaaaDoorW.PrintMore
attribute [local go_sem] max2_int min2_int max_two min_two max_three min_three max_four min_four
set_option linter.unusedVariables false
set_option linter.unusedSimpArgs false
mutual
def jobshellref29_integer.j0 : Nat → ByteArray → Bool → Option (Bool × ByteArray × Bool)
 | 0, _, _ => none
 | k + 1, x0, x5 => if x0.toList = ([] : List UInt8) then (jobshellref29_integer.j1 k x0 x5 false) else (if 0 < (x0.size : Int) then (if (bt x0 0) = 45 then (jobshellref29_integer.j1 k x0 x5 true) else (jobshellref29_integer.j1 k x0 x5 ((bt x0 0) == 43))) else (none))
def jobshellref29_integer.j1 : Nat → ByteArray → Bool → Bool → Option (Bool × ByteArray × Bool)
 | 0, _, _, _ => none
 | k + 1, x0, x5, x26 => if x26 = true then (if 1 ≤ (x0.size : Int) then (jobshellref29_integer.j2 k (x0.extract 1 x0.size) x5) else (none)) else (jobshellref29_integer.j2 k x0 x5)
def jobshellref29_integer.j2 : Nat → ByteArray → Bool → Option (Bool × ByteArray × Bool)
 | 0, _, _ => none
 | k + 1, x0, x5 => if x0.toList = ([] : List UInt8) then (some (false, (⟨#[]⟩ : ByteArray), false)) else (jobshellref29_integer.l0 k x0 x5 0)
def jobshellref29_integer.l0 : Nat → ByteArray → Bool → Int → Option (Bool × ByteArray × Bool)
 | 0, _, _, _ => none
 | k + 1, x0, x5, x6 => if x6 < (x0.size : Int) then (if 0 ≤ x6 then (if (bt x0 x6) < 48 then (some (false, (⟨#[]⟩ : ByteArray), false)) else (if (bt x0 x6) > 57 then (some (false, (⟨#[]⟩ : ByteArray), false)) else (jobshellref29_integer.l0 k x0 x5 (wrap64 (x6 + 1))))) else (none)) else (jobshellref29_integer.l1 k x0 x5)
def jobshellref29_integer.j5 : Nat → ByteArray → Bool → Option (Bool × ByteArray × Bool)
 | 0, _, _ => none
 | k + 1, x0, x5 => if x5 = true then (if (x0.size : Int) > 19 then (some (false, (⟨#[]⟩ : ByteArray), false)) else (if (x0.size : Int) = 19 then (if (Op.bytesLess ([57, 50, 50, 51, 51, 55, 50, 48, 51, 54, 56, 53, 52, 55, 55, 53, 56, 48, 56] : List UInt8) x0.toList) = true then (some (false, (⟨#[]⟩ : ByteArray), false)) else (some ((x0.toList != ([48] : List UInt8)), x0, true))) else (some ((x0.toList != ([48] : List UInt8)), x0, true)))) else (if (x0.size : Int) > 19 then (some (false, (⟨#[]⟩ : ByteArray), false)) else (if (x0.size : Int) = 19 then (if (Op.bytesLess ([57, 50, 50, 51, 51, 55, 50, 48, 51, 54, 56, 53, 52, 55, 55, 53, 56, 48, 55] : List UInt8) x0.toList) = true then (some (false, (⟨#[]⟩ : ByteArray), false)) else (some (false, x0, true))) else (some (false, x0, true))))
def jobshellref29_integer.l1 : Nat → ByteArray → Bool → Option (Bool × ByteArray × Bool)
 | 0, _, _ => none
 | k + 1, x0, x5 => if (x0.size : Int) > 1 then (if 0 < (x0.size : Int) then (if (bt x0 0) = 48 then (if 1 ≤ (x0.size : Int) then (jobshellref29_integer.l1 k (x0.extract 1 x0.size) x5) else (none)) else (jobshellref29_integer.j5 k x0 x5)) else (none)) else (jobshellref29_integer.j5 k x0 x5)
end
def jobshellref29_integer.f (k : Nat) (a0 : ByteArray) : Option (Bool × ByteArray × Bool) := if a0.toList = ([] : List UInt8) then (jobshellref29_integer.j0 k a0 false) else (if 0 < (a0.size : Int) then (jobshellref29_integer.j0 k a0 ((bt a0 0) == 45)) else (none))
theorem jobshellref29_integer.mono_l : ∀ k, (∀ y0 y1, LeO (jobshellref29_integer.j0 k y0 y1) (jobshellref29_integer.j0 (k + 1) y0 y1)) ∧ (∀ y0 y1 y2, LeO (jobshellref29_integer.j1 k y0 y1 y2) (jobshellref29_integer.j1 (k + 1) y0 y1 y2)) ∧ (∀ y0 y1, LeO (jobshellref29_integer.j2 k y0 y1) (jobshellref29_integer.j2 (k + 1) y0 y1)) ∧ (∀ y0 y1 y2, LeO (jobshellref29_integer.l0 k y0 y1 y2) (jobshellref29_integer.l0 (k + 1) y0 y1 y2)) ∧ (∀ y0 y1, LeO (jobshellref29_integer.j5 k y0 y1) (jobshellref29_integer.j5 (k + 1) y0 y1)) ∧ (∀ y0 y1, LeO (jobshellref29_integer.l1 k y0 y1) (jobshellref29_integer.l1 (k + 1) y0 y1))
 | 0 => ⟨fun _ _ r h => by simp [jobshellref29_integer.j0] at h, fun _ _ _ r h => by simp [jobshellref29_integer.j1] at h, fun _ _ r h => by simp [jobshellref29_integer.j2] at h, fun _ _ _ r h => by simp [jobshellref29_integer.l0] at h, fun _ _ r h => by simp [jobshellref29_integer.j5] at h, fun _ _ r h => by simp [jobshellref29_integer.l1] at h⟩
 | k + 1 => by
  obtain ⟨ih0, ih1, ih2, ih3, ih4, ih5⟩ := jobshellref29_integer.mono_l k
  refine ⟨?_, ?_, ?_, ?_, ?_, ?_⟩
  ·intro y0 y1
   unfold jobshellref29_integer.j0
   repeat' first
   | (with_reducible exact ih0 _ _)
   | (with_reducible exact ih1 _ _ _)
   | (with_reducible exact ih2 _ _)
   | (with_reducible exact ih3 _ _ _)
   | (with_reducible exact ih4 _ _)
   | (with_reducible exact ih5 _ _)
   | (with_reducible exact LeO.refl _)
   | (with_reducible exact LeO.none _)
   | (with_reducible refine LeO.ite ?_ ?_)
   | (with_reducible refine LeO.bind ?_ (fun _ => ?_))
   | exact ih0 _ _
   | exact ih1 _ _ _
   | exact ih2 _ _
   | exact ih3 _ _ _
   | exact ih4 _ _
   | exact ih5 _ _
   | exact LeO.none _
   | refine LeO.ite ?_ ?_
   | refine LeO.bind ?_ (fun _ => ?_)
  ·intro y0 y1 y2
   unfold jobshellref29_integer.j1
   repeat' first
   | (with_reducible exact ih0 _ _)
   | (with_reducible exact ih1 _ _ _)
   | (with_reducible exact ih2 _ _)
   | (with_reducible exact ih3 _ _ _)
   | (with_reducible exact ih4 _ _)
   | (with_reducible exact ih5 _ _)
   | (with_reducible exact LeO.refl _)
   | (with_reducible exact LeO.none _)
   | (with_reducible refine LeO.ite ?_ ?_)
   | (with_reducible refine LeO.bind ?_ (fun _ => ?_))
   | exact ih0 _ _
   | exact ih1 _ _ _
   | exact ih2 _ _
   | exact ih3 _ _ _
   | exact ih4 _ _
   | exact ih5 _ _
   | exact LeO.none _
   | refine LeO.ite ?_ ?_
   | refine LeO.bind ?_ (fun _ => ?_)
  ·intro y0 y1
   unfold jobshellref29_integer.j2
   repeat' first
   | (with_reducible exact ih0 _ _)
   | (with_reducible exact ih1 _ _ _)
   | (with_reducible exact ih2 _ _)
   | (with_reducible exact ih3 _ _ _)
   | (with_reducible exact ih4 _ _)
   | (with_reducible exact ih5 _ _)
   | (with_reducible exact LeO.refl _)
   | (with_reducible exact LeO.none _)
   | (with_reducible refine LeO.ite ?_ ?_)
   | (with_reducible refine LeO.bind ?_ (fun _ => ?_))
   | exact ih0 _ _
   | exact ih1 _ _ _
   | exact ih2 _ _
   | exact ih3 _ _ _
   | exact ih4 _ _
   | exact ih5 _ _
   | exact LeO.none _
   | refine LeO.ite ?_ ?_
   | refine LeO.bind ?_ (fun _ => ?_)
  ·intro y0 y1 y2
   unfold jobshellref29_integer.l0
   repeat' first
   | (with_reducible exact ih0 _ _)
   | (with_reducible exact ih1 _ _ _)
   | (with_reducible exact ih2 _ _)
   | (with_reducible exact ih3 _ _ _)
   | (with_reducible exact ih4 _ _)
   | (with_reducible exact ih5 _ _)
   | (with_reducible exact LeO.refl _)
   | (with_reducible exact LeO.none _)
   | (with_reducible refine LeO.ite ?_ ?_)
   | (with_reducible refine LeO.bind ?_ (fun _ => ?_))
   | exact ih0 _ _
   | exact ih1 _ _ _
   | exact ih2 _ _
   | exact ih3 _ _ _
   | exact ih4 _ _
   | exact ih5 _ _
   | exact LeO.none _
   | refine LeO.ite ?_ ?_
   | refine LeO.bind ?_ (fun _ => ?_)
  ·intro y0 y1
   unfold jobshellref29_integer.j5
   repeat' first
   | (with_reducible exact ih0 _ _)
   | (with_reducible exact ih1 _ _ _)
   | (with_reducible exact ih2 _ _)
   | (with_reducible exact ih3 _ _ _)
   | (with_reducible exact ih4 _ _)
   | (with_reducible exact ih5 _ _)
   | (with_reducible exact LeO.refl _)
   | (with_reducible exact LeO.none _)
   | (with_reducible refine LeO.ite ?_ ?_)
   | (with_reducible refine LeO.bind ?_ (fun _ => ?_))
   | exact ih0 _ _
   | exact ih1 _ _ _
   | exact ih2 _ _
   | exact ih3 _ _ _
   | exact ih4 _ _
   | exact ih5 _ _
   | exact LeO.none _
   | refine LeO.ite ?_ ?_
   | refine LeO.bind ?_ (fun _ => ?_)
  ·intro y0 y1
   unfold jobshellref29_integer.l1
   repeat' first
   | (with_reducible exact ih0 _ _)
   | (with_reducible exact ih1 _ _ _)
   | (with_reducible exact ih2 _ _)
   | (with_reducible exact ih3 _ _ _)
   | (with_reducible exact ih4 _ _)
   | (with_reducible exact ih5 _ _)
   | (with_reducible exact LeO.refl _)
   | (with_reducible exact LeO.none _)
   | (with_reducible refine LeO.ite ?_ ?_)
   | (with_reducible refine LeO.bind ?_ (fun _ => ?_))
   | exact ih0 _ _
   | exact ih1 _ _ _
   | exact ih2 _ _
   | exact ih3 _ _ _
   | exact ih4 _ _
   | exact ih5 _ _
   | exact LeO.none _
   | refine LeO.ite ?_ ?_
   | refine LeO.bind ?_ (fun _ => ?_)
theorem jobshellref29_integer.mono : ∀ a0 k, LeO (jobshellref29_integer.f k a0) (jobshellref29_integer.f (k + 1) a0) := by
 intro a0 k
 obtain ⟨ih0, ih1, ih2, ih3, ih4, ih5⟩ := jobshellref29_integer.mono_l k
 unfold jobshellref29_integer.f
 repeat' first
   | (with_reducible exact ih0 _ _)
   | (with_reducible exact ih1 _ _ _)
   | (with_reducible exact ih2 _ _)
   | (with_reducible exact ih3 _ _ _)
   | (with_reducible exact ih4 _ _)
   | (with_reducible exact ih5 _ _)
   | (with_reducible exact LeO.refl _)
   | (with_reducible exact LeO.none _)
   | (with_reducible refine LeO.ite ?_ ?_)
   | (with_reducible refine LeO.bind ?_ (fun _ => ?_))
   | exact ih0 _ _
   | exact ih1 _ _ _
   | exact ih2 _ _
   | exact ih3 _ _ _
   | exact ih4 _ _
   | exact ih5 _ _
   | exact LeO.none _
   | refine LeO.ite ?_ ?_
   | refine LeO.bind ?_ (fun _ => ?_)
set_option maxHeartbeats 8000000 in
set_option maxRecDepth 100000 in
theorem jobshellref29_integer.calls (k : Nat) (a0 : ByteArray) (r1 : Bool) (r2 : ByteArray) (r3 : Bool) (w : World) (h : jobshellref29_integer.f k a0 = some (r1, r2, r3)) :
  Calls Tryd.prog 57 #[.string a0] w fun e w' => e = .returned (.tuple #[.bool r1, .string r2, .bool r3]) ∧ Drawn0 w w' := by
 have H : (if a0.toList = ([] : List UInt8) then (jobshellref29_integer.j0 k a0 false) else (if 0 < (a0.size : Int) then (jobshellref29_integer.j0 k a0 ((bt a0 0) == 45)) else (none))) = some (r1, r2, r3) := h
 clear h
 have HC2 := Aside0.mk H
 clear H
 go_enter Tryd.func57, Tryd.ntmps57
 go_upto_region 1 with (fail)
 go_cut [5] (fun v5 wc => ∃ (kq : Nat) (x5_1 : Bool), v5 = .bool x5_1 ∧ Aside0 (jobshellref29_integer.j0 kq a0 x5_1 = some (r1, r2, r3)) ∧ Aside0 (kq ≤ k) ∧ Drawn0 w wc)
 case first =>
  have H := HC2.out
  clear HC2
  by_cases c3 : a0.toList = ([] : List UInt8)
  ·rw [if_pos c3] at H
   have c3b0 : (a0.toList == ([] : List UInt8)) = true := beq_iff_eq.mpr c3
   have c3b1 : (a0.toList != ([] : List UInt8)) = false := bne_eq_false_iff_eq.mpr c3
   clear c3
   (first | rw [c3b0] | (simp only [i64_w, i32_w]; rw [c3b0]) | skip)
   have H' := Aside0.mk H
   clear H
   go_wp2
   go_meet
   case rel => exact ⟨_, (false), (by first | rfl | (simp; done) | (simp [*]; done) | (simp [isE_ne]; done)), H', ⟨by first | omega | exact Nat.le_refl _⟩, by repeat (first | exact Drawn0.refl _ | apply Drawn0.step)⟩
  ·rw [if_neg c3] at H
   have c3b0 : (a0.toList == ([] : List UInt8)) = false := beq_eq_false_iff_ne.mpr c3
   have c3b1 : (a0.toList != ([] : List UInt8)) = true := bne_iff_ne.mpr c3
   (first | rw [c3b0] | (simp only [i64_w, i32_w]; rw [c3b0]) | skip)
   by_cases c4 : 0 < (a0.size : Int)
   ·rw [if_pos c4] at H
    have c4b0 : decide (0 < (a0.size : Int)) = true := decide_eq_true c4
    have c4b1 : decide (0 < a0.size) = true := decide_eq_true (by omega)
    clear c4
    have H' := Aside0.mk H
    clear H
    have p5 : 0 ≤ (0 : Int) := (by omega)
    have q5 : 0 < a0.size := (by have : (0 : Int) < (a0.size : Int) := of_decide_eq_true (by first | (with_reducible assumption) | assumption); omega)
    have hx5 : ∀ h : 0 < a0.size, ((a0[0]'h).toNat : Int) = bt a0 0 := bt_at a0 0
    clear p5
    have qi5 : (0 < (a0.size : Int)) = True := eq_true (of_decide_eq_true (by first | (with_reducible assumption) | assumption))
    replace q5 := eq_true q5
    go_wp2
    go_meet
    case rel => exact ⟨_, (((bt a0 0) == 45)), (by first | rfl | (simp; done) | (simp [*]; done) | (simp [isE_ne]; done)), H', ⟨by first | omega | exact Nat.le_refl _⟩, by repeat (first | exact Drawn0.refl _ | apply Drawn0.step)⟩
   ·rw [if_neg c4] at H
    exact absurd H (by simp)
 case rest =>
  clear HC2
  try clear p2
  try clear c3
  try clear c3b0
  try clear c3b1
  try clear c4
  try clear c4b0
  try clear c4b1
  try clear c5
  try clear p5
  try clear q5
  try clear hx5
  try clear qi5
  try clear p5
  try clear q5
  obtain ⟨kq, x5_1, rfl, HA, HJ1, ⟨mc1, rfl⟩⟩ := hcut
  cases kq with
  | zero => exact absurd HA.out (by simp [jobshellref29_integer.j0])
  | succ kj1 =>
   have H := HA.out
   clear HA
   simp only [jobshellref29_integer.j0] at H
   have HC6 := Aside0.mk H
   clear H
   go_upto_region 2 with (fail)
   go_cut [26] (fun v26 wc => ∃ (kq : Nat) (x26_5 : Bool), v26 = .bool x26_5 ∧ Aside0 (jobshellref29_integer.j1 kq a0 x5_1 x26_5 = some (r1, r2, r3)) ∧ Aside0 (kq ≤ kj1) ∧ Drawn0 w wc)
   case first =>
    have H := HC6.out
    clear HC6
    by_cases c7 : a0.toList = ([] : List UInt8)
    ·rw [if_pos c7] at H
     have c7b0 : (a0.toList == ([] : List UInt8)) = true := beq_iff_eq.mpr c7
     have c7b1 : (a0.toList != ([] : List UInt8)) = false := bne_eq_false_iff_eq.mpr c7
     clear c7
     (first | rw [c7b0] | (simp only [i64_w, i32_w]; rw [c7b0]) | skip)
     have H' := Aside0.mk H
     clear H
     go_wp2
     go_meet
     case rel => exact ⟨_, (false), (by first | rfl | (simp; done) | (simp [*]; done) | (simp [isE_ne]; done)), H', ⟨by have := HJ1.out; first | omega | exact Nat.le_refl _⟩, by repeat (first | exact Drawn0.refl _ | apply Drawn0.step)⟩
    ·rw [if_neg c7] at H
     have c7b0 : (a0.toList == ([] : List UInt8)) = false := beq_eq_false_iff_ne.mpr c7
     have c7b1 : (a0.toList != ([] : List UInt8)) = true := bne_iff_ne.mpr c7
     (first | rw [c7b0] | (simp only [i64_w, i32_w]; rw [c7b0]) | skip)
     by_cases c8 : 0 < (a0.size : Int)
     ·rw [if_pos c8] at H
      have c8b0 : decide (0 < (a0.size : Int)) = true := decide_eq_true c8
      have c8b1 : decide (0 < a0.size) = true := decide_eq_true (by omega)
      clear c8
      by_cases c10 : (bt a0 0) = 45
      ·rw [if_pos c10] at H
       have c10b0 : ((bt a0 0) == 45) = true := beq_iff_eq.mpr c10
       have c10b1 : ((bt a0 0) != 45) = false := bne_eq_false_iff_eq.mpr c10
       clear c10
       have H' := Aside0.mk H
       clear H
       have p9 : 0 ≤ (0 : Int) := (by omega)
       have q9 : 0 < a0.size := (by have : (0 : Int) < (a0.size : Int) := of_decide_eq_true (by first | (with_reducible assumption) | assumption); omega)
       have hx9 : ∀ h : 0 < a0.size, ((a0[0]'h).toNat : Int) = bt a0 0 := bt_at a0 0
       clear p9
       have qi9 : (0 < (a0.size : Int)) = True := eq_true (of_decide_eq_true (by first | (with_reducible assumption) | assumption))
       replace q9 := eq_true q9
       go_wp2
       go_meet
       case rel => exact ⟨_, (true), (by first | rfl | (simp; done) | (simp [*]; done) | (simp [isE_ne]; done)), H', ⟨by have := HJ1.out; first | omega | exact Nat.le_refl _⟩, by repeat (first | exact Drawn0.refl _ | apply Drawn0.step)⟩
      ·rw [if_neg c10] at H
       have c10b0 : ((bt a0 0) == 45) = false := beq_eq_false_iff_ne.mpr c10
       have c10b1 : ((bt a0 0) != 45) = true := bne_iff_ne.mpr c10
       have H' := Aside0.mk H
       clear H
       have p9 : 0 ≤ (0 : Int) := (by omega)
       have q9 : 0 < a0.size := (by have : (0 : Int) < (a0.size : Int) := of_decide_eq_true (by first | (with_reducible assumption) | assumption); omega)
       have hx9 : ∀ h : 0 < a0.size, ((a0[0]'h).toNat : Int) = bt a0 0 := bt_at a0 0
       clear p9
       have qi9 : (0 < (a0.size : Int)) = True := eq_true (of_decide_eq_true (by first | (with_reducible assumption) | assumption))
       replace q9 := eq_true q9
       have p11 : 0 ≤ (0 : Int) := (by omega)
       have q11 : 0 < a0.size := (by have : (0 : Int) < (a0.size : Int) := of_decide_eq_true (by first | (with_reducible assumption) | assumption); omega)
       have hx11 : ∀ h : 0 < a0.size, ((a0[0]'h).toNat : Int) = bt a0 0 := bt_at a0 0
       clear p11
       have qi11 : (0 < (a0.size : Int)) = True := eq_true (of_decide_eq_true (by first | (with_reducible assumption) | assumption))
       replace q11 := eq_true q11
       go_wp2
       go_meet
       case rel => exact ⟨_, (((bt a0 0) == 43)), (by first | rfl | (simp; done) | (simp [*]; done) | (simp [isE_ne]; done)), H', ⟨by have := HJ1.out; first | omega | exact Nat.le_refl _⟩, by repeat (first | exact Drawn0.refl _ | apply Drawn0.step)⟩
     ·rw [if_neg c8] at H
      exact absurd H (by simp)
   case rest =>
    clear HC6
    try clear c1
    try clear p1
    try clear q1
    try clear hx1
    try clear qi1
    try clear p2
    try clear c3
    try clear c3b0
    try clear c3b1
    try clear c4
    try clear c4b0
    try clear c4b1
    try clear c5
    try clear p5
    try clear q5
    try clear hx5
    try clear qi5
    try clear c7
    try clear c7b0
    try clear c7b1
    try clear c8
    try clear c8b0
    try clear c8b1
    try clear p9
    try clear q9
    try clear hx9
    try clear qi9
    try clear c10
    try clear c10b0
    try clear c10b1
    try clear p11
    try clear q11
    try clear hx11
    try clear qi11
    try clear p11
    try clear p2
    try clear p5
    try clear p9
    try clear q11
    try clear q5
    try clear q9
    obtain ⟨kq, x26_5, rfl, HA, HJ5, ⟨mc5, rfl⟩⟩ := hcut
    cases kq with
    | zero => exact absurd HA.out (by simp [jobshellref29_integer.j1])
    | succ kj5 =>
     have H := HA.out
     clear HA
     simp only [jobshellref29_integer.j1] at H
     have HC12 := Aside0.mk H
     clear H
     go_upto_if 26 with (fail)
     go_cut [0] (fun v0 wc => ∃ (kq : Nat) (x0_11 : ByteArray), v0 = .string x0_11 ∧ Aside0 (jobshellref29_integer.j2 kq x0_11 x5_1 = some (r1, r2, r3)) ∧ Aside0 (kq ≤ kj5) ∧ Drawn0 w wc)
     case first =>
      have H := HC12.out
      clear HC12
      by_cases c13 : x26_5 = true
      ·subst c13
       have H1 : (if 1 ≤ (a0.size : Int) then (jobshellref29_integer.j2 kj5 (a0.extract 1 a0.size) x5_1) else (none)) = some (r1, r2, r3) := by rw [if_pos rfl] at H; exact H
       clear H
       have H := H1
       clear H1
       by_cases c14 : 1 ≤ (a0.size : Int)
       ·rw [if_pos c14] at H
        have c14b0 := eq_true c14
        have c14b1 : decide (1 ≤ (a0.size : Int)) = true := decide_eq_true c14
        clear c14
        have H' := Aside0.mk H
        clear H
        go_wp2
        go_meet
        case rel => exact ⟨_, (a0.extract 1 a0.size), (by first | rfl | (simp; done) | (simp [*]; done) | (simp [isE_ne]; done)), H', ⟨by have := HJ1.out; have := HJ5.out; first | omega | exact Nat.le_refl _⟩, by repeat (first | exact Drawn0.refl _ | apply Drawn0.step)⟩
       ·rw [if_neg c14] at H
        exact absurd H (by simp)
      ·replace c13 := Bool.eq_false_iff.mpr c13
       subst c13
       have H1 : (jobshellref29_integer.j2 kj5 a0 x5_1) = some (r1, r2, r3) := by rw [if_neg (show ¬ (false = true) by decide)] at H; exact H
       clear H
       have H := H1
       clear H1
       have H' := Aside0.mk H
       clear H
       go_wp2
       go_meet
       case rel => exact ⟨_, (a0), (by first | rfl | (simp; done) | (simp [*]; done) | (simp [isE_ne]; done)), H', ⟨by have := HJ1.out; have := HJ5.out; first | omega | exact Nat.le_refl _⟩, by repeat (first | exact Drawn0.refl _ | apply Drawn0.step)⟩
     case rest =>
      clear HC12
      try clear c1
      try clear p1
      try clear q1
      try clear hx1
      try clear qi1
      try clear p2
      try clear c3
      try clear c3b0
      try clear c3b1
      try clear c4
      try clear c4b0
      try clear c4b1
      try clear c5
      try clear p5
      try clear q5
      try clear hx5
      try clear qi5
      try clear c7
      try clear c7b0
      try clear c7b1
      try clear c8
      try clear c8b0
      try clear c8b1
      try clear p9
      try clear q9
      try clear hx9
      try clear qi9
      try clear c10
      try clear c10b0
      try clear c10b1
      try clear p11
      try clear q11
      try clear hx11
      try clear qi11
      try clear c13
      try clear c14
      try clear c14b0
      try clear c14b1
      try clear p1
      try clear p11
      try clear p2
      try clear p5
      try clear p9
      try clear q1
      try clear q11
      try clear q5
      try clear q9
      obtain ⟨kq, x0_11, rfl, HA, HJ11, ⟨mc11, rfl⟩⟩ := hcut
      cases kq with
      | zero => exact absurd HA.out (by simp [jobshellref29_integer.j2])
      | succ kj11 =>
       have H := HA.out
       clear HA
       simp only [jobshellref29_integer.j2] at H
       by_cases c15 : x0_11.toList = ([] : List UInt8)
       ·rw [if_pos c15] at H
        have c15b0 : (x0_11.toList == ([] : List UInt8)) = true := beq_iff_eq.mpr c15
        have c15b1 : (x0_11.toList != ([] : List UInt8)) = false := bne_eq_false_iff_eq.mpr c15
        clear c15
        simp only [Option.some.injEq, Prod.mk.injEq] at H
        obtain ⟨rfl, rfl, rfl⟩ := H
        go_wp2
        go_ret3
        exact ⟨by first | rfl | (simp; done) | (simp [*]; done), by repeat (first | exact Drawn0.refl _ | apply Drawn0.step)⟩
       ·rw [if_neg c15] at H
        have c15b0 : (x0_11.toList == ([] : List UInt8)) = false := beq_eq_false_iff_ne.mpr c15
        have c15b1 : (x0_11.toList != ([] : List UInt8)) = true := bne_iff_ne.mpr c15
        have H' := Aside0.mk H
        clear H
        go_wp2
        go_loopg [6] kj11 (fun kq v6 w' => ∃ (x6_4 : Int), v6 = .int .i64 x6_4 ∧ Aside0 (jobshellref29_integer.l0 kq x0_11 x5_1 x6_4 = some (r1, r2, r3)) ∧ Aside0 (kq ≤ kj11) ∧ Drawn0 w w')
        case atStart => exact ⟨(0), (by first | rfl | (simp; done) | (simp [*]; done) | (simp [isE_ne]; done)), H', ⟨Nat.le_refl _⟩, by repeat (first | exact Drawn0.refl _ | apply Drawn0.step)⟩
        case round =>
         clear H'
         try clear c1
         try clear p1
         try clear q1
         try clear hx1
         try clear qi1
         try clear p2
         try clear c3
         try clear c3b0
         try clear c3b1
         try clear c4
         try clear c4b0
         try clear c4b1
         try clear c5
         try clear p5
         try clear q5
         try clear hx5
         try clear qi5
         try clear c7
         try clear c7b0
         try clear c7b1
         try clear c8
         try clear c8b0
         try clear c8b1
         try clear p9
         try clear q9
         try clear hx9
         try clear qi9
         try clear c10
         try clear c10b0
         try clear c10b1
         try clear c11
         try clear p11
         try clear q11
         try clear hx11
         try clear qi11
         try clear c13
         try clear c14
         try clear c14b0
         try clear c14b1
         try clear c15
         try clear c15b0
         try clear c15b1
         try clear p1
         try clear p11
         try clear p2
         try clear p5
         try clear p9
         try clear q1
         try clear q11
         try clear q5
         try clear q9
         obtain ⟨x6_4, rfl, HA, HK4, ⟨m4, rfl⟩⟩ := hrel
         cases gk with
         | zero => exact absurd HA.out (by simp [jobshellref29_integer.l0])
         | succ k4 =>
          have H := HA.out
          clear HA
          simp only [jobshellref29_integer.l0] at H
          by_cases c16 : x6_4 < (x0_11.size : Int)
          ·rw [if_pos c16] at H
           have c16b0 : decide (x6_4 < (x0_11.size : Int)) = true := decide_eq_true c16
           clear c16
           by_cases c17 : 0 ≤ x6_4
           ·rw [if_pos c17] at H
            have c17b0 : decide (0 ≤ x6_4) = true := decide_eq_true c17
            clear c17
            by_cases c19 : (bt x0_11 x6_4) < 48
            ·rw [if_pos c19] at H
             have c19b0 : decide ((bt x0_11 x6_4) < 48) = true := decide_eq_true c19
             clear c19
             simp only [Option.some.injEq, Prod.mk.injEq] at H
             obtain ⟨rfl, rfl, rfl⟩ := H
             have p18 : 0 ≤ (x6_4 : Int) := of_decide_eq_true (by first | (with_reducible assumption) | assumption)
             have q18 : x6_4 < (x0_11.size : Int) := of_decide_eq_true (by first | (with_reducible assumption) | assumption)
             have hx18 := bt_at x0_11 x6_4
             replace p18 := eq_true p18
             replace q18 := eq_true q18
             go_wp2
             go_ret3
             exact ⟨by first | rfl | (simp; done) | (simp [*]; done), by repeat (first | exact Drawn0.refl _ | apply Drawn0.step)⟩
            ·rw [if_neg c19] at H
             have c19b0 : decide ((bt x0_11 x6_4) < 48) = false := decide_eq_false c19
             clear c19
             by_cases c21 : (bt x0_11 x6_4) > 57
             ·rw [if_pos c21] at H
              have c21b0 : decide (57 < (bt x0_11 x6_4)) = true := decide_eq_true c21
              clear c21
              simp only [Option.some.injEq, Prod.mk.injEq] at H
              obtain ⟨rfl, rfl, rfl⟩ := H
              have p18 : 0 ≤ (x6_4 : Int) := of_decide_eq_true (by first | (with_reducible assumption) | assumption)
              have q18 : x6_4 < (x0_11.size : Int) := of_decide_eq_true (by first | (with_reducible assumption) | assumption)
              have hx18 := bt_at x0_11 x6_4
              replace p18 := eq_true p18
              replace q18 := eq_true q18
              have p20 : 0 ≤ (x6_4 : Int) := of_decide_eq_true (by first | (with_reducible assumption) | assumption)
              have q20 : x6_4 < (x0_11.size : Int) := of_decide_eq_true (by first | (with_reducible assumption) | assumption)
              have hx20 := bt_at x0_11 x6_4
              replace p20 := eq_true p20
              replace q20 := eq_true q20
              go_wp2
              go_ret3
              exact ⟨by first | rfl | (simp; done) | (simp [*]; done), by repeat (first | exact Drawn0.refl _ | apply Drawn0.step)⟩
             ·rw [if_neg c21] at H
              have c21b0 : decide (57 < (bt x0_11 x6_4)) = false := decide_eq_false c21
              clear c21
              have H' := Aside0.mk H
              clear H
              have p18 : 0 ≤ (x6_4 : Int) := of_decide_eq_true (by first | (with_reducible assumption) | assumption)
              have q18 : x6_4 < (x0_11.size : Int) := of_decide_eq_true (by first | (with_reducible assumption) | assumption)
              have hx18 := bt_at x0_11 x6_4
              replace p18 := eq_true p18
              replace q18 := eq_true q18
              have p20 : 0 ≤ (x6_4 : Int) := of_decide_eq_true (by first | (with_reducible assumption) | assumption)
              have q20 : x6_4 < (x0_11.size : Int) := of_decide_eq_true (by first | (with_reducible assumption) | assumption)
              have hx20 := bt_at x0_11 x6_4
              replace p20 := eq_true p20
              replace q20 := eq_true q20
              go_wp2
              go_roundg k4
              case measure => have := HJ1.out; have := HJ5.out; have := HJ11.out; have := HK4.out; omega
              case rel => exact ⟨(wrap64 (x6_4 + 1)), (by first | rfl | (simp; done) | (simp [*]; done) | (simp [isE_ne]; done)), H', ⟨by have := HJ1.out; have := HJ5.out; have := HJ11.out; have := HK4.out; omega⟩, by repeat (first | exact Drawn0.refl _ | apply Drawn0.step)⟩
           ·rw [if_neg c17] at H
            exact absurd H (by simp)
          ·rw [if_neg c16] at H
           have c16b0 : decide (x6_4 < (x0_11.size : Int)) = false := decide_eq_false c16
           clear c16
           have HC22 := Aside0.mk H
           clear H
           go_upto_block 2 with (fail)
           go_cut [0] (fun v0 wc => ∃ (kq : Nat) (x0_21 : ByteArray), v0 = .string x0_21 ∧ Aside0 (jobshellref29_integer.j5 kq x0_21 x5_1 = some (r1, r2, r3)) ∧ Aside0 (kq ≤ k4) ∧ Drawn0 w wc)
           case first =>
            have H := HC22.out
            clear HC22
            have H' := Aside0.mk H
            clear H
            go_wp2
            go_loopg [0] k4 (fun kq v0 w' => ∃ (x0_5 : ByteArray), v0 = .string x0_5 ∧ Aside0 (jobshellref29_integer.l1 kq x0_5 x5_1 = some (r1, r2, r3)) ∧ Aside0 (kq ≤ k4) ∧ Drawn0 w w')
            case atStart => exact ⟨(x0_11), (by first | rfl | (simp; done) | (simp [*]; done) | (simp [isE_ne]; done)), H', ⟨Nat.le_refl _⟩, by repeat (first | exact Drawn0.refl _ | apply Drawn0.step)⟩
            case round =>
             clear H'
             try clear c1
             try clear p1
             try clear q1
             try clear hx1
             try clear qi1
             try clear c2
             try clear p2
             try clear q2
             try clear hx2
             try clear c3
             try clear c3b0
             try clear c3b1
             try clear c4
             try clear c4b0
             try clear c4b1
             try clear c5
             try clear p5
             try clear q5
             try clear hx5
             try clear qi5
             try clear p6
             try clear c7
             try clear c7b0
             try clear c7b1
             try clear c8
             try clear c8b0
             try clear c8b1
             try clear p9
             try clear q9
             try clear hx9
             try clear qi9
             try clear c10
             try clear c10b0
             try clear c10b1
             try clear c11
             try clear p11
             try clear q11
             try clear hx11
             try clear qi11
             try clear c13
             try clear c14
             try clear c14b0
             try clear c14b1
             try clear c15
             try clear c15b0
             try clear c15b1
             try clear c16
             try clear c16b0
             try clear c17
             try clear c17b0
             try clear p18
             try clear q18
             try clear hx18
             try clear c19
             try clear c19b0
             try clear p20
             try clear q20
             try clear hx20
             try clear c21
             try clear c21b0
             try clear p1
             try clear p11
             try clear p18
             try clear p2
             try clear p20
             try clear p5
             try clear p9
             try clear q1
             try clear q11
             try clear q18
             try clear q20
             try clear q5
             try clear q9
             obtain ⟨x0_5, rfl, HA, HK5, ⟨m5, rfl⟩⟩ := hrel
             cases gk with
             | zero => exact absurd HA.out (by simp [jobshellref29_integer.l1])
             | succ k5 =>
              have H := HA.out
              clear HA
              simp only [jobshellref29_integer.l1] at H
              by_cases c23 : (x0_5.size : Int) > 1
              ·rw [if_pos c23] at H
               have c23b0 : decide (1 < (x0_5.size : Int)) = true := decide_eq_true c23
               have c23b1 : decide (1 < x0_5.size) = true := decide_eq_true (by omega)
               clear c23
               (first | rw [c23b0] | (simp only [i64_w, i32_w]; rw [c23b0]) | skip)
               by_cases c24 : 0 < (x0_5.size : Int)
               ·rw [if_pos c24] at H
                have c24b0 : decide (0 < (x0_5.size : Int)) = true := decide_eq_true c24
                have c24b1 : decide (0 < x0_5.size) = true := decide_eq_true (by omega)
                clear c24
                by_cases c26 : (bt x0_5 0) = 48
                ·rw [if_pos c26] at H
                 have c26b0 : ((bt x0_5 0) == 48) = true := beq_iff_eq.mpr c26
                 have c26b1 : ((bt x0_5 0) != 48) = false := bne_eq_false_iff_eq.mpr c26
                 clear c26
                 by_cases c27 : 1 ≤ (x0_5.size : Int)
                 ·rw [if_pos c27] at H
                  have c27b0 := eq_true c27
                  have c27b1 : decide (1 ≤ (x0_5.size : Int)) = true := decide_eq_true c27
                  clear c27
                  have H' := Aside0.mk H
                  clear H
                  have p25 : 0 ≤ (0 : Int) := (by omega)
                  have q25 : 0 < x0_5.size := (by have : (0 : Int) < (x0_5.size : Int) := of_decide_eq_true (by first | (with_reducible assumption) | assumption); omega)
                  have hx25 : ∀ h : 0 < x0_5.size, ((x0_5[0]'h).toNat : Int) = bt x0_5 0 := bt_at x0_5 0
                  clear p25
                  have qi25 : (0 < (x0_5.size : Int)) = True := eq_true (of_decide_eq_true (by first | (with_reducible assumption) | assumption))
                  replace q25 := eq_true q25
                  go_wp2
                  go_roundg k5
                  case measure => have := HJ1.out; have := HJ5.out; have := HJ11.out; have := HK4.out; have := HK5.out; omega
                  case rel => exact ⟨(x0_5.extract 1 x0_5.size), (by first | rfl | (simp; done) | (simp [*]; done) | (simp [isE_ne]; done)), H', ⟨by have := HJ1.out; have := HJ5.out; have := HJ11.out; have := HK4.out; have := HK5.out; omega⟩, by repeat (first | exact Drawn0.refl _ | apply Drawn0.step)⟩
                 ·rw [if_neg c27] at H
                  exact absurd H (by simp)
                ·rw [if_neg c26] at H
                 have c26b0 : ((bt x0_5 0) == 48) = false := beq_eq_false_iff_ne.mpr c26
                 have c26b1 : ((bt x0_5 0) != 48) = true := bne_iff_ne.mpr c26
                 have H' := Aside0.mk H
                 clear H
                 have p25 : 0 ≤ (0 : Int) := (by omega)
                 have q25 : 0 < x0_5.size := (by have : (0 : Int) < (x0_5.size : Int) := of_decide_eq_true (by first | (with_reducible assumption) | assumption); omega)
                 have hx25 : ∀ h : 0 < x0_5.size, ((x0_5[0]'h).toNat : Int) = bt x0_5 0 := bt_at x0_5 0
                 clear p25
                 have qi25 : (0 < (x0_5.size : Int)) = True := eq_true (of_decide_eq_true (by first | (with_reducible assumption) | assumption))
                 replace q25 := eq_true q25
                 go_wp2
                 go_meet
                 case rel => exact ⟨_, (x0_5), (by first | rfl | (simp; done) | (simp [*]; done) | (simp [isE_ne]; done)), H', ⟨by have := HJ1.out; have := HJ5.out; have := HJ11.out; have := HK4.out; have := HK5.out; first | omega | exact Nat.le_refl _⟩, by repeat (first | exact Drawn0.refl _ | apply Drawn0.step)⟩
               ·rw [if_neg c24] at H
                exact absurd H (by simp)
              ·rw [if_neg c23] at H
               have c23b0 : decide (1 < (x0_5.size : Int)) = false := decide_eq_false c23
               have c23b1 : decide (1 < x0_5.size) = false := decide_eq_false (by omega)
               clear c23
               (first | rw [c23b0] | (simp only [i64_w, i32_w]; rw [c23b0]) | skip)
               have H' := Aside0.mk H
               clear H
               go_wp2
               go_meet
               case rel => exact ⟨_, (x0_5), (by first | rfl | (simp; done) | (simp [*]; done) | (simp [isE_ne]; done)), H', ⟨by have := HJ1.out; have := HJ5.out; have := HJ11.out; have := HK4.out; have := HK5.out; first | omega | exact Nat.le_refl _⟩, by repeat (first | exact Drawn0.refl _ | apply Drawn0.step)⟩
           case rest =>
            clear HC22
            try clear c1
            try clear p1
            try clear q1
            try clear hx1
            try clear qi1
            try clear c2
            try clear p2
            try clear q2
            try clear hx2
            try clear qi2
            try clear c3
            try clear c3b0
            try clear c3b1
            try clear c4
            try clear c4b0
            try clear c4b1
            try clear c5
            try clear p5
            try clear q5
            try clear hx5
            try clear qi5
            try clear p6
            try clear c7
            try clear c7b0
            try clear c7b1
            try clear c8
            try clear c8b0
            try clear c8b1
            try clear p9
            try clear q9
            try clear hx9
            try clear qi9
            try clear c10
            try clear c10b0
            try clear c10b1
            try clear c11
            try clear p11
            try clear q11
            try clear hx11
            try clear qi11
            try clear c13
            try clear c14
            try clear c14b0
            try clear c14b1
            try clear c15
            try clear c15b0
            try clear c15b1
            try clear c16
            try clear c16b0
            try clear c17
            try clear c17b0
            try clear p18
            try clear q18
            try clear hx18
            try clear c19
            try clear c19b0
            try clear p20
            try clear q20
            try clear hx20
            try clear c21
            try clear c21b0
            try clear c23
            try clear c23b0
            try clear c23b1
            try clear c24
            try clear c24b0
            try clear c24b1
            try clear p25
            try clear q25
            try clear hx25
            try clear qi25
            try clear c26
            try clear c26b0
            try clear c26b1
            try clear c27
            try clear c27b0
            try clear c27b1
            try clear p1
            try clear p11
            try clear p18
            try clear p2
            try clear p20
            try clear p25
            try clear p5
            try clear p6
            try clear p9
            try clear q1
            try clear q11
            try clear q18
            try clear q2
            try clear q20
            try clear q25
            try clear q5
            try clear q9
            obtain ⟨kq, x0_21, rfl, HA, HJ21, ⟨mc21, rfl⟩⟩ := hcut
            cases kq with
            | zero => exact absurd HA.out (by simp [jobshellref29_integer.j5])
            | succ kj21 =>
             have H := HA.out
             clear HA
             simp only [jobshellref29_integer.j5] at H
             by_cases c28 : x5_1 = true
             ·subst c28
              have H1 : (if (x0_21.size : Int) > 19 then (some (false, (⟨#[]⟩ : ByteArray), false)) else (if (x0_21.size : Int) = 19 then (if (Op.bytesLess ([57, 50, 50, 51, 51, 55, 50, 48, 51, 54, 56, 53, 52, 55, 55, 53, 56, 48, 56] : List UInt8) x0_21.toList) = true then (some (false, (⟨#[]⟩ : ByteArray), false)) else (some ((x0_21.toList != ([48] : List UInt8)), x0_21, true))) else (some ((x0_21.toList != ([48] : List UInt8)), x0_21, true)))) = some (r1, r2, r3) := by rw [if_pos rfl] at H; exact H
              clear H
              have H := H1
              clear H1
              by_cases c29 : (x0_21.size : Int) > 19
              ·rw [if_pos c29] at H
               have c29b0 : decide (19 < (x0_21.size : Int)) = true := decide_eq_true c29
               have c29b1 : decide (19 < x0_21.size) = true := decide_eq_true (by omega)
               clear c29
               simp only [Option.some.injEq, Prod.mk.injEq] at H
               obtain ⟨rfl, rfl, rfl⟩ := H
               go_wp2
               go_ret3
               exact ⟨by first | rfl | (simp; done) | (simp [*]; done), by repeat (first | exact Drawn0.refl _ | apply Drawn0.step)⟩
              ·rw [if_neg c29] at H
               have c29b0 : decide (19 < (x0_21.size : Int)) = false := decide_eq_false c29
               have c29b1 : decide (19 < x0_21.size) = false := decide_eq_false (by omega)
               clear c29
               by_cases c30 : (x0_21.size : Int) = 19
               ·rw [if_pos c30] at H
                have c30b0 : ((x0_21.size : Int) == 19) = true := beq_iff_eq.mpr c30
                have c30b1 : ((x0_21.size : Int) != 19) = false := bne_eq_false_iff_eq.mpr c30
                clear c30
                by_cases c31 : (Op.bytesLess ([57, 50, 50, 51, 51, 55, 50, 48, 51, 54, 56, 53, 52, 55, 55, 53, 56, 48, 56] : List UInt8) x0_21.toList) = true
                ·rw [if_pos c31] at H
                 have c31b0 : (Op.bytesLess ([57, 50, 50, 51, 51, 55, 50, 48, 51, 54, 56, 53, 52, 55, 55, 53, 56, 48, 56] : List UInt8) x0_21.toList) = true := c31
                 have q8_ := bl_asymm _ _ c31b0
                 have q9_ := bl_ne _ _ c31b0
                 clear c31
                 simp only [Option.some.injEq, Prod.mk.injEq] at H
                 obtain ⟨rfl, rfl, rfl⟩ := H
                 go_wp2
                 go_ret3
                 exact ⟨by first | rfl | (simp; done) | (simp [*]; done), by repeat (first | exact Drawn0.refl _ | apply Drawn0.step)⟩
                ·rw [if_neg c31] at H
                 have c31b0 : (Op.bytesLess ([57, 50, 50, 51, 51, 55, 50, 48, 51, 54, 56, 53, 52, 55, 55, 53, 56, 48, 56] : List UInt8) x0_21.toList) = false := by simpa using c31
                 clear c31
                 simp only [Option.some.injEq, Prod.mk.injEq] at H
                 obtain ⟨rfl, rfl, rfl⟩ := H
                 rcases bl_tri _ _ c31b0 with q8_ | ⟨q8_, q9_⟩
                 all_goals
                  go_wp2
                  go_ret3
                  exact ⟨by first | rfl | (simp; done) | (simp [*]; done), by repeat (first | exact Drawn0.refl _ | apply Drawn0.step)⟩
               ·rw [if_neg c30] at H
                have c30b0 : ((x0_21.size : Int) == 19) = false := beq_eq_false_iff_ne.mpr c30
                have c30b1 : ((x0_21.size : Int) != 19) = true := bne_iff_ne.mpr c30
                simp only [Option.some.injEq, Prod.mk.injEq] at H
                obtain ⟨rfl, rfl, rfl⟩ := H
                go_wp2
                go_ret3
                exact ⟨by first | rfl | (simp; done) | (simp [*]; done), by repeat (first | exact Drawn0.refl _ | apply Drawn0.step)⟩
             ·replace c28 := Bool.eq_false_iff.mpr c28
              subst c28
              have H1 : (if (x0_21.size : Int) > 19 then (some (false, (⟨#[]⟩ : ByteArray), false)) else (if (x0_21.size : Int) = 19 then (if (Op.bytesLess ([57, 50, 50, 51, 51, 55, 50, 48, 51, 54, 56, 53, 52, 55, 55, 53, 56, 48, 55] : List UInt8) x0_21.toList) = true then (some (false, (⟨#[]⟩ : ByteArray), false)) else (some (false, x0_21, true))) else (some (false, x0_21, true)))) = some (r1, r2, r3) := by rw [if_neg (show ¬ (false = true) by decide)] at H; exact H
              clear H
              have H := H1
              clear H1
              by_cases c32 : (x0_21.size : Int) > 19
              ·rw [if_pos c32] at H
               have c32b0 : decide (19 < (x0_21.size : Int)) = true := decide_eq_true c32
               have c32b1 : decide (19 < x0_21.size) = true := decide_eq_true (by omega)
               clear c32
               simp only [Option.some.injEq, Prod.mk.injEq] at H
               obtain ⟨rfl, rfl, rfl⟩ := H
               go_wp2
               go_ret3
               exact ⟨by first | rfl | (simp; done) | (simp [*]; done), by repeat (first | exact Drawn0.refl _ | apply Drawn0.step)⟩
              ·rw [if_neg c32] at H
               have c32b0 : decide (19 < (x0_21.size : Int)) = false := decide_eq_false c32
               have c32b1 : decide (19 < x0_21.size) = false := decide_eq_false (by omega)
               clear c32
               by_cases c33 : (x0_21.size : Int) = 19
               ·rw [if_pos c33] at H
                have c33b0 : ((x0_21.size : Int) == 19) = true := beq_iff_eq.mpr c33
                have c33b1 : ((x0_21.size : Int) != 19) = false := bne_eq_false_iff_eq.mpr c33
                clear c33
                by_cases c34 : (Op.bytesLess ([57, 50, 50, 51, 51, 55, 50, 48, 51, 54, 56, 53, 52, 55, 55, 53, 56, 48, 55] : List UInt8) x0_21.toList) = true
                ·rw [if_pos c34] at H
                 have c34b0 : (Op.bytesLess ([57, 50, 50, 51, 51, 55, 50, 48, 51, 54, 56, 53, 52, 55, 55, 53, 56, 48, 55] : List UInt8) x0_21.toList) = true := c34
                 have q8_ := bl_asymm _ _ c34b0
                 have q9_ := bl_ne _ _ c34b0
                 clear c34
                 simp only [Option.some.injEq, Prod.mk.injEq] at H
                 obtain ⟨rfl, rfl, rfl⟩ := H
                 go_wp2
                 go_ret3
                 exact ⟨by first | rfl | (simp; done) | (simp [*]; done), by repeat (first | exact Drawn0.refl _ | apply Drawn0.step)⟩
                ·rw [if_neg c34] at H
                 have c34b0 : (Op.bytesLess ([57, 50, 50, 51, 51, 55, 50, 48, 51, 54, 56, 53, 52, 55, 55, 53, 56, 48, 55] : List UInt8) x0_21.toList) = false := by simpa using c34
                 clear c34
                 simp only [Option.some.injEq, Prod.mk.injEq] at H
                 obtain ⟨rfl, rfl, rfl⟩ := H
                 rcases bl_tri _ _ c34b0 with q8_ | ⟨q8_, q9_⟩
                 all_goals
                  go_wp2
                  go_ret3
                  exact ⟨by first | rfl | (simp; done) | (simp [*]; done), by repeat (first | exact Drawn0.refl _ | apply Drawn0.step)⟩
               ·rw [if_neg c33] at H
                have c33b0 : ((x0_21.size : Int) == 19) = false := beq_eq_false_iff_ne.mpr c33
                have c33b1 : ((x0_21.size : Int) != 19) = true := bne_iff_ne.mpr c33
                simp only [Option.some.injEq, Prod.mk.injEq] at H
                obtain ⟨rfl, rfl, rfl⟩ := H
                go_wp2
                go_ret3
                exact ⟨by first | rfl | (simp; done) | (simp [*]; done), by repeat (first | exact Drawn0.refl _ | apply Drawn0.step)⟩
end Go.Proofs.YtoeiohfljaboaaaDoor.F
namespace Go.Proofs.YtoeiohfljaboaaaDoor.F
open Go.RowKit Go.Proofs.YtoeiohfljaboaaaDoorW.PrintWords Go.Proofs.YtoeiohfljaboaaaDoorW.PrintLast Go.Proofs.YtoeiohfljaboaaaDoorW.PrintMore
attribute [local go_sem] max2_int min2_int max_two min_two max_three min_three max_four min_four
set_option linter.unusedVariables false
set_option linter.unusedSimpArgs false
mutual
def jobshellref29_compare.j0 : Nat → Bool → ByteArray → Bool → ByteArray → Bool → Option (Int × Bool)
 | 0, _, _, _, _, _ => none
 | k + 1, x6, x7, x9, x10, x30 => if x30 = true then (some (0, false)) else (if (x6 != x9) = true then (jobshellref29_compare.j1 k x6 x7 x9 x10 0 x6) else (jobshellref29_compare.j1 k x6 x7 x9 x10 0 false))
def jobshellref29_compare.j1 : Nat → Bool → ByteArray → Bool → ByteArray → Int → Bool → Option (Int × Bool)
 | 0, _, _, _, _, _, _ => none
 | k + 1, x6, x7, x9, x10, x12, x31 => if x31 = true then (some ((-1), true)) else (if (x6 != x9) = true then (some (1, true)) else (if (x7.size : Int) < (x10.size : Int) then (jobshellref29_compare.j2 k x6 x7 x10 x12 true) else (if (x7.size : Int) = (x10.size : Int) then (jobshellref29_compare.j2 k x6 x7 x10 x12 (Op.bytesLess x7.toList x10.toList)) else (jobshellref29_compare.j2 k x6 x7 x10 x12 false))))
def jobshellref29_compare.j2 : Nat → Bool → ByteArray → ByteArray → Int → Bool → Option (Int × Bool)
 | 0, _, _, _, _, _ => none
 | k + 1, x6, x7, x10, x12, x42 => if x42 = true then (if x6 = true then (some (-(-1), true)) else (some ((-1), true))) else (if x7.toList = x10.toList then (if x6 = true then (some (wrap64 (-x12), true)) else (some (x12, true))) else (if x6 = true then (some (-1, true)) else (some (1, true))))
end
def jobshellref29_compare.f (k : Nat) (a0 : ByteArray) (a1 : ByteArray) : Option (Int × Bool) := (jobshellref29_integer.f k a0).bind fun bt213 => ((jobshellref29_integer.f k a1).bind fun bt216 => (if bt213.2.2 = true then (jobshellref29_compare.j0 k bt213.1 bt213.2.1 bt216.1 bt216.2.1 (!bt216.2.2)) else (jobshellref29_compare.j0 k bt213.1 bt213.2.1 bt216.1 bt216.2.1 true)))
theorem jobshellref29_compare.mono_l : ∀ k, (∀ y0 y1 y2 y3 y4, LeO (jobshellref29_compare.j0 k y0 y1 y2 y3 y4) (jobshellref29_compare.j0 (k + 1) y0 y1 y2 y3 y4)) ∧ (∀ y0 y1 y2 y3 y4 y5, LeO (jobshellref29_compare.j1 k y0 y1 y2 y3 y4 y5) (jobshellref29_compare.j1 (k + 1) y0 y1 y2 y3 y4 y5)) ∧ (∀ y0 y1 y2 y3 y4, LeO (jobshellref29_compare.j2 k y0 y1 y2 y3 y4) (jobshellref29_compare.j2 (k + 1) y0 y1 y2 y3 y4))
 | 0 => ⟨fun _ _ _ _ _ r h => by simp [jobshellref29_compare.j0] at h, fun _ _ _ _ _ _ r h => by simp [jobshellref29_compare.j1] at h, fun _ _ _ _ _ r h => by simp [jobshellref29_compare.j2] at h⟩
 | k + 1 => by
  obtain ⟨ih0, ih1, ih2⟩ := jobshellref29_compare.mono_l k
  refine ⟨?_, ?_, ?_⟩
  ·intro y0 y1 y2 y3 y4
   unfold jobshellref29_compare.j0
   repeat' first
   | (with_reducible exact ih0 _ _ _ _ _)
   | (with_reducible exact ih1 _ _ _ _ _ _)
   | (with_reducible exact ih2 _ _ _ _ _)
   | (with_reducible exact jobshellref29_integer.mono _ _)
   | (with_reducible exact LeO.refl _)
   | (with_reducible exact LeO.none _)
   | (with_reducible refine LeO.ite ?_ ?_)
   | (with_reducible refine LeO.bind ?_ (fun _ => ?_))
   | exact ih0 _ _ _ _ _
   | exact ih1 _ _ _ _ _ _
   | exact ih2 _ _ _ _ _
   | exact jobshellref29_integer.mono _ _
   | exact LeO.none _
   | refine LeO.ite ?_ ?_
   | refine LeO.bind ?_ (fun _ => ?_)
  ·intro y0 y1 y2 y3 y4 y5
   unfold jobshellref29_compare.j1
   repeat' first
   | (with_reducible exact ih0 _ _ _ _ _)
   | (with_reducible exact ih1 _ _ _ _ _ _)
   | (with_reducible exact ih2 _ _ _ _ _)
   | (with_reducible exact jobshellref29_integer.mono _ _)
   | (with_reducible exact LeO.refl _)
   | (with_reducible exact LeO.none _)
   | (with_reducible refine LeO.ite ?_ ?_)
   | (with_reducible refine LeO.bind ?_ (fun _ => ?_))
   | exact ih0 _ _ _ _ _
   | exact ih1 _ _ _ _ _ _
   | exact ih2 _ _ _ _ _
   | exact jobshellref29_integer.mono _ _
   | exact LeO.none _
   | refine LeO.ite ?_ ?_
   | refine LeO.bind ?_ (fun _ => ?_)
  ·intro y0 y1 y2 y3 y4
   unfold jobshellref29_compare.j2
   repeat' first
   | (with_reducible exact ih0 _ _ _ _ _)
   | (with_reducible exact ih1 _ _ _ _ _ _)
   | (with_reducible exact ih2 _ _ _ _ _)
   | (with_reducible exact jobshellref29_integer.mono _ _)
   | (with_reducible exact LeO.refl _)
   | (with_reducible exact LeO.none _)
   | (with_reducible refine LeO.ite ?_ ?_)
   | (with_reducible refine LeO.bind ?_ (fun _ => ?_))
   | exact ih0 _ _ _ _ _
   | exact ih1 _ _ _ _ _ _
   | exact ih2 _ _ _ _ _
   | exact jobshellref29_integer.mono _ _
   | exact LeO.none _
   | refine LeO.ite ?_ ?_
   | refine LeO.bind ?_ (fun _ => ?_)
theorem jobshellref29_compare.mono : ∀ a0 a1 k, LeO (jobshellref29_compare.f k a0 a1) (jobshellref29_compare.f (k + 1) a0 a1) := by
 intro a0 a1 k
 obtain ⟨ih0, ih1, ih2⟩ := jobshellref29_compare.mono_l k
 unfold jobshellref29_compare.f
 repeat' first
   | (with_reducible exact ih0 _ _ _ _ _)
   | (with_reducible exact ih1 _ _ _ _ _ _)
   | (with_reducible exact ih2 _ _ _ _ _)
   | (with_reducible exact jobshellref29_integer.mono _ _)
   | (with_reducible exact LeO.refl _)
   | (with_reducible exact LeO.none _)
   | (with_reducible refine LeO.ite ?_ ?_)
   | (with_reducible refine LeO.bind ?_ (fun _ => ?_))
   | exact ih0 _ _ _ _ _
   | exact ih1 _ _ _ _ _ _
   | exact ih2 _ _ _ _ _
   | exact jobshellref29_integer.mono _ _
   | exact LeO.none _
   | refine LeO.ite ?_ ?_
   | refine LeO.bind ?_ (fun _ => ?_)
set_option maxHeartbeats 8000000 in
set_option maxRecDepth 100000 in
theorem jobshellref29_compare.calls (k : Nat) (a0 : ByteArray) (a1 : ByteArray) (r1 : Int) (r2 : Bool) (w : World) (h : jobshellref29_compare.f k a0 a1 = some (r1, r2)) :
  Calls Tryd.prog 44 #[.string a0, .string a1] w fun e w' => e = .returned (.tuple #[.int .i64 r1, .bool r2]) ∧ Drawn0 w w' := by
 have H : ((jobshellref29_integer.f k a0).bind fun bt213 => ((jobshellref29_integer.f k a1).bind fun bt216 => (if bt213.2.2 = true then (jobshellref29_compare.j0 k bt213.1 bt213.2.1 bt216.1 bt216.2.1 (!bt216.2.2)) else (jobshellref29_compare.j0 k bt213.1 bt213.2.1 bt216.1 bt216.2.1 true)))) = some (r1, r2) := h
 clear h
 replace H := Option.bind_eq_some_iff.mp H
 obtain ⟨⟨t213, t214, t215⟩, A30, H⟩ := H
 replace H : ((jobshellref29_integer.f k a1).bind fun bt216 => (if t215 = true then (jobshellref29_compare.j0 k t213 t214 bt216.1 bt216.2.1 (!bt216.2.2)) else (jobshellref29_compare.j0 k t213 t214 bt216.1 bt216.2.1 true))) = some (r1, r2) := H
 have A3 := Aside0.mk A30
 clear A30
 replace H := Option.bind_eq_some_iff.mp H
 obtain ⟨⟨t216, t217, t218⟩, A40, H⟩ := H
 replace H : (if t215 = true then (jobshellref29_compare.j0 k t213 t214 t216 t217 (!t218)) else (jobshellref29_compare.j0 k t213 t214 t216 t217 true)) = some (r1, r2) := H
 have A4 := Aside0.mk A40
 clear A40
 have HC5 := Aside0.mk H
 clear H
 go_enter Tryd.func44, Tryd.ntmps44
 go_upto_region 3 with (first | ((with_reducible refine gate_callee (f := 57) rfl ?_); refine goesL_ (some 15) rfl rfl Tryd.func57 (by kernel_rfl) rfl #[.string a0] rfl (by (try simp only [List.map_toArray, List.map_cons, List.map_nil]); first | done | rfl | (simp only [List.length_drop, List.length_take]; rfl)) ?_; (with_reducible refine (jobshellref29_integer.calls k a0 t213 t214 t215 _ A3.out).mono ?_); rintro e w' ⟨rfl, ⟨nd, rfl⟩⟩; refine ⟨_, rfl, ?_⟩) | ((with_reducible refine gate_callee (f := 57) rfl ?_); refine goesL_ (some 21) rfl rfl Tryd.func57 (by kernel_rfl) rfl #[.string a1] rfl (by (try simp only [List.map_toArray, List.map_cons, List.map_nil]); first | done | rfl | (simp only [List.length_drop, List.length_take]; rfl)) ?_; (with_reducible refine (jobshellref29_integer.calls k a1 t216 t217 t218 _ A4.out).mono ?_); rintro e w' ⟨rfl, ⟨nd, rfl⟩⟩; refine ⟨_, rfl, ?_⟩))
 (try simp only [Act.put, List.setIfInBounds_toArray, List.set_cons_zero, List.set_cons_succ])
 go_cut [30] (fun v30 wc => ∃ (kq : Nat) (x30_4 : Bool), v30 = .bool x30_4 ∧ Aside0 (jobshellref29_compare.j0 kq t213 t214 t216 t217 x30_4 = some (r1, r2)) ∧ Aside0 (kq ≤ k) ∧ Drawn0 w wc)
 case first =>
  have H := HC5.out
  clear HC5
  by_cases c6 : t215 = true
  ·subst c6
   have H1 : (jobshellref29_compare.j0 k t213 t214 t216 t217 (!t218)) = some (r1, r2) := by rw [if_pos rfl] at H; exact H
   clear H
   have H := H1
   clear H1
   have H' := Aside0.mk H
   clear H
   go_wp2
   go_meet
   case rel => exact ⟨_, (!t218), (by first | rfl | (simp; done) | (simp [*]; done) | (simp [isE_ne]; done)), H', ⟨by first | omega | exact Nat.le_refl _⟩, by repeat (first | exact Drawn0.refl _ | apply Drawn0.step)⟩
  ·replace c6 := Bool.eq_false_iff.mpr c6
   subst c6
   have H1 : (jobshellref29_compare.j0 k t213 t214 t216 t217 true) = some (r1, r2) := by rw [if_neg (show ¬ (false = true) by decide)] at H; exact H
   clear H
   have H := H1
   clear H1
   have H' := Aside0.mk H
   clear H
   go_wp2
   go_meet
   case rel => exact ⟨_, (true), (by first | rfl | (simp; done) | (simp [*]; done) | (simp [isE_ne]; done)), H', ⟨by first | omega | exact Nat.le_refl _⟩, by repeat (first | exact Drawn0.refl _ | apply Drawn0.step)⟩
 case rest =>
  clear HC5
  try clear p2
  try clear c4
  try clear c5
  try clear c6
  obtain ⟨kq, x30_4, rfl, HA, HJ4, ⟨mc4, rfl⟩⟩ := hcut
  cases kq with
  | zero => exact absurd HA.out (by simp [jobshellref29_compare.j0])
  | succ kj4 =>
   have H := HA.out
   clear HA
   simp only [jobshellref29_compare.j0] at H
   by_cases c7 : x30_4 = true
   ·subst c7
    have H1 : (some (0, false)) = some (r1, r2) := by rw [if_pos rfl] at H; exact H
    clear H
    have H := H1
    clear H1
    simp only [Option.some.injEq, Prod.mk.injEq] at H
    obtain ⟨rfl, rfl⟩ := H
    go_wp2
    go_ret2
    exact ⟨by first | rfl | (simp; done) | (simp [*]; done) | (simp [*]; decide +kernel), by repeat (first | exact Drawn0.refl _ | apply Drawn0.step)⟩
   ·replace c7 := Bool.eq_false_iff.mpr c7
    subst c7
    have H1 : (if (t213 != t216) = true then (jobshellref29_compare.j1 kj4 t213 t214 t216 t217 0 t213) else (jobshellref29_compare.j1 kj4 t213 t214 t216 t217 0 false)) = some (r1, r2) := by rw [if_neg (show ¬ (false = true) by decide)] at H; exact H
    clear H
    have H := H1
    clear H1
    have HC8 := Aside0.mk H
    clear H
    go_upto_region 6 with (fail)
    go_cut [31] (fun v31 wc => ∃ (kq : Nat) (x31_7 : Bool), v31 = .bool x31_7 ∧ Aside0 (jobshellref29_compare.j1 kq t213 t214 t216 t217 0 x31_7 = some (r1, r2)) ∧ Aside0 (kq ≤ kj4) ∧ Drawn0 w wc)
    case first =>
     have H := HC8.out
     clear HC8
     by_cases c9 : (t213 != t216) = true
     ·rw [if_pos c9] at H
      have c9b0 : (t213 != t216) = true := c9
      (try (have c9b1 : decide (t213 = t216) = false := by simpa using c9))
      (try (have c9b2 : (t213 == t216) = false := by simpa using c9))
      (try (have c9b3 : ¬ (t213 = t216) := by simpa using c9))
      clear c9
      (first | rw [c9b0] | (simp only [i64_w, i32_w]; rw [c9b0]) | skip)
      have H' := Aside0.mk H
      clear H
      go_wp2
      go_meet
      case rel => exact ⟨_, (t213), (by first | rfl | (simp; done) | (simp [*]; done) | (simp [isE_ne]; done)), H', ⟨by have := HJ4.out; first | omega | exact Nat.le_refl _⟩, by repeat (first | exact Drawn0.refl _ | apply Drawn0.step)⟩
     ·rw [if_neg c9] at H
      have c9b0 : (t213 != t216) = false := by simpa using c9
      (try (have c9b1 : decide (t213 = t216) = true := by simpa using c9))
      (try (have c9b2 : (t213 == t216) = true := by simpa using c9))
      clear c9
      (first | rw [c9b0] | (simp only [i64_w, i32_w]; rw [c9b0]) | skip)
      have H' := Aside0.mk H
      clear H
      go_wp2
      go_meet
      case rel => exact ⟨_, (false), (by first | rfl | (simp; done) | (simp [*]; done) | (simp [isE_ne]; done)), H', ⟨by have := HJ4.out; first | omega | exact Nat.le_refl _⟩, by repeat (first | exact Drawn0.refl _ | apply Drawn0.step)⟩
    case rest =>
     clear HC8
     try clear p2
     try clear c4
     try clear c5
     try clear c6
     try clear c7
     try clear c9
     try clear c9b0
     try clear c9b1
     try clear c9b2
     try clear p2
     obtain ⟨kq, x31_7, rfl, HA, HJ7, ⟨mc7, rfl⟩⟩ := hcut
     cases kq with
     | zero => exact absurd HA.out (by simp [jobshellref29_compare.j1])
     | succ kj7 =>
      have H := HA.out
      clear HA
      simp only [jobshellref29_compare.j1] at H
      by_cases c10 : x31_7 = true
      ·subst c10
       have H1 : (some ((-1), true)) = some (r1, r2) := by rw [if_pos rfl] at H; exact H
       clear H
       have H := H1
       clear H1
       simp only [Option.some.injEq, Prod.mk.injEq] at H
       obtain ⟨rfl, rfl⟩ := H
       go_wp2
       go_ret2
       exact ⟨by first | rfl | (simp; done) | (simp [*]; done) | (simp [*]; decide +kernel), by repeat (first | exact Drawn0.refl _ | apply Drawn0.step)⟩
      ·replace c10 := Bool.eq_false_iff.mpr c10
       subst c10
       have H1 : (if (t213 != t216) = true then (some (1, true)) else (if (t214.size : Int) < (t217.size : Int) then (jobshellref29_compare.j2 kj7 t213 t214 t217 0 true) else (if (t214.size : Int) = (t217.size : Int) then (jobshellref29_compare.j2 kj7 t213 t214 t217 0 (Op.bytesLess t214.toList t217.toList)) else (jobshellref29_compare.j2 kj7 t213 t214 t217 0 false)))) = some (r1, r2) := by rw [if_neg (show ¬ (false = true) by decide)] at H; exact H
       clear H
       have H := H1
       clear H1
       by_cases c11 : (t213 != t216) = true
       ·rw [if_pos c11] at H
        have c11b0 : (t213 != t216) = true := c11
        (try (have c11b1 : decide (t213 = t216) = false := by simpa using c11))
        (try (have c11b2 : (t213 == t216) = false := by simpa using c11))
        (try (have c11b3 : ¬ (t213 = t216) := by simpa using c11))
        clear c11
        simp only [Option.some.injEq, Prod.mk.injEq] at H
        obtain ⟨rfl, rfl⟩ := H
        go_wp2
        go_ret2
        exact ⟨by first | rfl | (simp; done) | (simp [*]; done) | (simp [*]; decide +kernel), by repeat (first | exact Drawn0.refl _ | apply Drawn0.step)⟩
       ·rw [if_neg c11] at H
        have c11b0 : (t213 != t216) = false := by simpa using c11
        (try (have c11b1 : decide (t213 = t216) = true := by simpa using c11))
        (try (have c11b2 : (t213 == t216) = true := by simpa using c11))
        clear c11
        have HC12 := Aside0.mk H
        clear H
        go_upto_region 10 with (fail)
        go_cut [42] (fun v42 wc => ∃ (kq : Nat) (x42_11 : Bool), v42 = .bool x42_11 ∧ Aside0 (jobshellref29_compare.j2 kq t213 t214 t217 0 x42_11 = some (r1, r2)) ∧ Aside0 (kq ≤ kj7) ∧ Drawn0 w wc)
        case first =>
         have H := HC12.out
         clear HC12
         by_cases c13 : (t214.size : Int) < (t217.size : Int)
         ·rw [if_pos c13] at H
          have c13b0 : decide ((t214.size : Int) < (t217.size : Int)) = true := decide_eq_true c13
          have c13b1 : decide (t214.size < t217.size) = true := decide_eq_true (Int.ofNat_lt.mp c13)
          clear c13
          (first | rw [c13b0] | (simp only [i64_w, i32_w]; rw [c13b0]) | skip)
          have H' := Aside0.mk H
          clear H
          go_wp2
          go_meet
          case rel => exact ⟨_, (true), (by first | rfl | (simp; done) | (simp [*]; done) | (simp [isE_ne]; done)), H', ⟨by have := HJ4.out; have := HJ7.out; first | omega | exact Nat.le_refl _⟩, by repeat (first | exact Drawn0.refl _ | apply Drawn0.step)⟩
         ·rw [if_neg c13] at H
          have c13b0 : decide ((t214.size : Int) < (t217.size : Int)) = false := decide_eq_false c13
          have c13b1 : decide (t214.size < t217.size) = false := decide_eq_false (fun h => c13 (Int.ofNat_lt.mpr h))
          clear c13
          (first | rw [c13b0] | (simp only [i64_w, i32_w]; rw [c13b0]) | skip)
          by_cases c14 : (t214.size : Int) = (t217.size : Int)
          ·rw [if_pos c14] at H
           have c14b0 : ((t214.size : Int) == (t217.size : Int)) = true := beq_iff_eq.mpr c14
           have c14b1 : ((t214.size : Int) != (t217.size : Int)) = false := bne_eq_false_iff_eq.mpr c14
           have c14b2 : (t214.size == t217.size) = true := by first | simpa using c14 | (simp at c14 ⊢; omega)
           clear c14
           have H' := Aside0.mk H
           clear H
           go_wp2
           go_meet
           case rel => exact ⟨_, ((Op.bytesLess t214.toList t217.toList)), (by first | rfl | (simp; done) | (simp [*]; done) | (simp [isE_ne]; done)), H', ⟨by have := HJ4.out; have := HJ7.out; first | omega | exact Nat.le_refl _⟩, by repeat (first | exact Drawn0.refl _ | apply Drawn0.step)⟩
          ·rw [if_neg c14] at H
           have c14b0 : ((t214.size : Int) == (t217.size : Int)) = false := beq_eq_false_iff_ne.mpr c14
           have c14b1 : ((t214.size : Int) != (t217.size : Int)) = true := bne_iff_ne.mpr c14
           have c14b2 : (t214.size == t217.size) = false := by first | simpa using c14 | (simp at c14 ⊢; omega)
           have H' := Aside0.mk H
           clear H
           go_wp2
           go_meet
           case rel => exact ⟨_, (false), (by first | rfl | (simp; done) | (simp [*]; done) | (simp [isE_ne]; done)), H', ⟨by have := HJ4.out; have := HJ7.out; first | omega | exact Nat.le_refl _⟩, by repeat (first | exact Drawn0.refl _ | apply Drawn0.step)⟩
        case rest =>
         clear HC12
         try clear c1
         try clear p2
         try clear c4
         try clear c5
         try clear c6
         try clear c7
         try clear c9
         try clear c9b0
         try clear c9b1
         try clear c9b2
         try clear c10
         try clear c11
         try clear c11b0
         try clear c11b1
         try clear c11b2
         try clear c13
         try clear c13b0
         try clear c13b1
         try clear c14
         try clear c14b0
         try clear c14b1
         try clear c14b2
         try clear p2
         obtain ⟨kq, x42_11, rfl, HA, HJ11, ⟨mc11, rfl⟩⟩ := hcut
         cases kq with
         | zero => exact absurd HA.out (by simp [jobshellref29_compare.j2])
         | succ kj11 =>
          have H := HA.out
          clear HA
          simp only [jobshellref29_compare.j2] at H
          by_cases c15 : x42_11 = true
          ·subst c15
           have H1 : (if t213 = true then (some (-(-1), true)) else (some ((-1), true))) = some (r1, r2) := by rw [if_pos rfl] at H; exact H
           clear H
           have H := H1
           clear H1
           by_cases c16 : t213 = true
           ·subst c16
            have H1 : (some (-(-1), true)) = some (r1, r2) := by rw [if_pos rfl] at H; exact H
            clear H
            have H := H1
            clear H1
            simp only [Option.some.injEq, Prod.mk.injEq] at H
            obtain ⟨rfl, rfl⟩ := H
            go_wp2
            go_ret2
            exact ⟨by first | rfl | (simp; done) | (simp [*]; done) | (simp [*]; decide +kernel), by repeat (first | exact Drawn0.refl _ | apply Drawn0.step)⟩
           ·replace c16 := Bool.eq_false_iff.mpr c16
            subst c16
            have H1 : (some ((-1), true)) = some (r1, r2) := by rw [if_neg (show ¬ (false = true) by decide)] at H; exact H
            clear H
            have H := H1
            clear H1
            simp only [Option.some.injEq, Prod.mk.injEq] at H
            obtain ⟨rfl, rfl⟩ := H
            go_wp2
            go_ret2
            exact ⟨by first | rfl | (simp; done) | (simp [*]; done) | (simp [*]; decide +kernel), by repeat (first | exact Drawn0.refl _ | apply Drawn0.step)⟩
          ·replace c15 := Bool.eq_false_iff.mpr c15
           subst c15
           have H1 : (if t214.toList = t217.toList then (if t213 = true then (some (wrap64 (-0), true)) else (some (0, true))) else (if t213 = true then (some (-1, true)) else (some (1, true)))) = some (r1, r2) := by rw [if_neg (show ¬ (false = true) by decide)] at H; exact H
           clear H
           have H := H1
           clear H1
           by_cases c17 : t214.toList = t217.toList
           ·rw [if_pos c17] at H
            have c17b0 : (t214.toList == t217.toList) = true := beq_iff_eq.mpr c17
            have c17b1 : (t214.toList != t217.toList) = false := bne_eq_false_iff_eq.mpr c17
            clear c17
            by_cases c18 : t213 = true
            ·subst c18
             have H1 : (some (wrap64 (-0), true)) = some (r1, r2) := by rw [if_pos rfl] at H; exact H
             clear H
             have H := H1
             clear H1
             simp only [Option.some.injEq, Prod.mk.injEq] at H
             obtain ⟨rfl, rfl⟩ := H
             go_wp2
             go_ret2
             exact ⟨by first | rfl | (simp; done) | (simp [*]; done) | (simp [*]; decide +kernel), by repeat (first | exact Drawn0.refl _ | apply Drawn0.step)⟩
            ·replace c18 := Bool.eq_false_iff.mpr c18
             subst c18
             have H1 : (some (0, true)) = some (r1, r2) := by rw [if_neg (show ¬ (false = true) by decide)] at H; exact H
             clear H
             have H := H1
             clear H1
             simp only [Option.some.injEq, Prod.mk.injEq] at H
             obtain ⟨rfl, rfl⟩ := H
             go_wp2
             go_ret2
             exact ⟨by first | rfl | (simp; done) | (simp [*]; done) | (simp [*]; decide +kernel), by repeat (first | exact Drawn0.refl _ | apply Drawn0.step)⟩
           ·rw [if_neg c17] at H
            have c17b0 : (t214.toList == t217.toList) = false := beq_eq_false_iff_ne.mpr c17
            have c17b1 : (t214.toList != t217.toList) = true := bne_iff_ne.mpr c17
            by_cases c19 : t213 = true
            ·subst c19
             have H1 : (some (-1, true)) = some (r1, r2) := by rw [if_pos rfl] at H; exact H
             clear H
             have H := H1
             clear H1
             simp only [Option.some.injEq, Prod.mk.injEq] at H
             obtain ⟨rfl, rfl⟩ := H
             go_wp2
             go_ret2
             exact ⟨by first | rfl | (simp; done) | (simp [*]; done) | (simp [*]; decide +kernel), by repeat (first | exact Drawn0.refl _ | apply Drawn0.step)⟩
            ·replace c19 := Bool.eq_false_iff.mpr c19
             subst c19
             have H1 : (some (1, true)) = some (r1, r2) := by rw [if_neg (show ¬ (false = true) by decide)] at H; exact H
             clear H
             have H := H1
             clear H1
             simp only [Option.some.injEq, Prod.mk.injEq] at H
             obtain ⟨rfl, rfl⟩ := H
             go_wp2
             go_ret2
             exact ⟨by first | rfl | (simp; done) | (simp [*]; done) | (simp [*]; decide +kernel), by repeat (first | exact Drawn0.refl _ | apply Drawn0.step)⟩
end Go.Proofs.YtoeiohfljaboaaaDoor.F
namespace Go.Proofs.YtoeiohfljaboaaaDoor.F
open Go.RowKit Go.Proofs.YtoeiohfljaboaaaDoorW.PrintWords Go.Proofs.YtoeiohfljaboaaaDoorW.PrintLast Go.Proofs.YtoeiohfljaboaaaDoorW.PrintMore
attribute [local go_sem] max2_int min2_int max_two min_two max_three min_three max_four min_four
set_option linter.unusedVariables false
set_option linter.unusedSimpArgs false
mutual
def jobshellref19_Clean.j0 : Nat → ByteArray → ByteArray → Option (ByteArray × Int)
 | 0, _, _ => none
 | k + 1, x1, x6 => (jobshellref19_parts.f k x1).bind fun t226 => (jobshellref19_Clean.l0 k x6 t226 0)
def jobshellref19_Clean.l0 : Nat → ByteArray → List ByteArray → Int → Option (ByteArray × Int)
 | 0, _, _, _ => none
 | k + 1, x6, x7, x8 => if x8 < (x7.length : Int) then (if 0 ≤ x8 then (if (rdOf ByteArray.empty x7 x8).toList = ([] : List UInt8) then (jobshellref19_Clean.j2 k x6 x7 x8 (rdOf ByteArray.empty x7 x8) true) else (jobshellref19_Clean.j2 k x6 x7 x8 (rdOf ByteArray.empty x7 x8) ((rdOf ByteArray.empty x7 x8).toList == ([46] : List UInt8)))) else (none)) else (if (x6.size : Int) > 128 then (some ((⟨#[]⟩ : ByteArray), 3)) else (some (x6, 0)))
def jobshellref19_Clean.j2 : Nat → ByteArray → List ByteArray → Int → ByteArray → Bool → Option (ByteArray × Int)
 | 0, _, _, _, _, _ => none
 | k + 1, x6, x7, x8, x9, x36 => if x36 = true then (jobshellref19_Clean.l0 k x6 x7 (wrap64 (x8 + 1))) else (if x9.toList = ([46, 46] : List UInt8) then ((jobshellref19_Parent.f k x6).bind fun t230 => (jobshellref19_Clean.l0 k t230 x7 (wrap64 (x8 + 1)))) else ((jobshellref19_name.f k x9).bind fun t231 => (if t231 = true then (if x6.toList = ([47] : List UInt8) then (if 0 + 1 ≤ 9223372036854775807 then (if 1 + x9.size ≤ 9223372036854775807 then (jobshellref19_Clean.l0 k (((⟨#[]⟩ : ByteArray) ++ (⟨#[47]⟩ : ByteArray)) ++ x9) x7 (wrap64 (x8 + 1))) else (none)) else (none)) else (if x6.size + 1 ≤ 9223372036854775807 then (if (x6 ++ (⟨#[47]⟩ : ByteArray)).size + x9.size ≤ 9223372036854775807 then (jobshellref19_Clean.l0 k ((x6 ++ (⟨#[47]⟩ : ByteArray)) ++ x9) x7 (wrap64 (x8 + 1))) else (none)) else (none))) else (some ((⟨#[]⟩ : ByteArray), 10)))))
end
def jobshellref19_Clean.f (k : Nat) (a0 : ByteArray) (a1 : ByteArray) : Option (ByteArray × Int) := (jobshellref19_IsPath.f k a0).bind fun t225 => (if t225 = true then (if a1.toList = ([] : List UInt8) then (some ((⟨#[]⟩ : ByteArray), 8)) else (if 0 < (a1.size : Int) then (if (bt a1 0) = 47 then (jobshellref19_Clean.j0 k a1 (⟨#[47]⟩ : ByteArray)) else (jobshellref19_Clean.j0 k a1 a0)) else (none))) else (some ((⟨#[]⟩ : ByteArray), 10)))
theorem jobshellref19_Clean.mono_l : ∀ k, (∀ y0 y1, LeO (jobshellref19_Clean.j0 k y0 y1) (jobshellref19_Clean.j0 (k + 1) y0 y1)) ∧ (∀ y0 y1 y2, LeO (jobshellref19_Clean.l0 k y0 y1 y2) (jobshellref19_Clean.l0 (k + 1) y0 y1 y2)) ∧ (∀ y0 y1 y2 y3 y4, LeO (jobshellref19_Clean.j2 k y0 y1 y2 y3 y4) (jobshellref19_Clean.j2 (k + 1) y0 y1 y2 y3 y4))
 | 0 => ⟨fun _ _ r h => by simp [jobshellref19_Clean.j0] at h, fun _ _ _ r h => by simp [jobshellref19_Clean.l0] at h, fun _ _ _ _ _ r h => by simp [jobshellref19_Clean.j2] at h⟩
 | k + 1 => by
  obtain ⟨ih0, ih1, ih2⟩ := jobshellref19_Clean.mono_l k
  refine ⟨?_, ?_, ?_⟩
  ·intro y0 y1
   unfold jobshellref19_Clean.j0
   repeat' first
   | (with_reducible exact ih0 _ _)
   | (with_reducible exact ih1 _ _ _)
   | (with_reducible exact ih2 _ _ _ _ _)
   | (with_reducible exact jobshellref19_IsPath.mono _ _)
   | (with_reducible exact jobshellref19_Parent.mono _ _)
   | (with_reducible exact jobshellref19_name.mono _ _)
   | (with_reducible exact jobshellref19_parts.mono _ _)
   | (with_reducible exact LeO.refl _)
   | (with_reducible exact LeO.none _)
   | (with_reducible refine LeO.ite ?_ ?_)
   | (with_reducible refine LeO.bind ?_ (fun _ => ?_))
   | exact ih0 _ _
   | exact ih1 _ _ _
   | exact ih2 _ _ _ _ _
   | exact jobshellref19_IsPath.mono _ _
   | exact jobshellref19_Parent.mono _ _
   | exact jobshellref19_name.mono _ _
   | exact jobshellref19_parts.mono _ _
   | exact LeO.none _
   | refine LeO.ite ?_ ?_
   | refine LeO.bind ?_ (fun _ => ?_)
  ·intro y0 y1 y2
   unfold jobshellref19_Clean.l0
   repeat' first
   | (with_reducible exact ih0 _ _)
   | (with_reducible exact ih1 _ _ _)
   | (with_reducible exact ih2 _ _ _ _ _)
   | (with_reducible exact jobshellref19_IsPath.mono _ _)
   | (with_reducible exact jobshellref19_Parent.mono _ _)
   | (with_reducible exact jobshellref19_name.mono _ _)
   | (with_reducible exact jobshellref19_parts.mono _ _)
   | (with_reducible exact LeO.refl _)
   | (with_reducible exact LeO.none _)
   | (with_reducible refine LeO.ite ?_ ?_)
   | (with_reducible refine LeO.bind ?_ (fun _ => ?_))
   | exact ih0 _ _
   | exact ih1 _ _ _
   | exact ih2 _ _ _ _ _
   | exact jobshellref19_IsPath.mono _ _
   | exact jobshellref19_Parent.mono _ _
   | exact jobshellref19_name.mono _ _
   | exact jobshellref19_parts.mono _ _
   | exact LeO.none _
   | refine LeO.ite ?_ ?_
   | refine LeO.bind ?_ (fun _ => ?_)
  ·intro y0 y1 y2 y3 y4
   unfold jobshellref19_Clean.j2
   repeat' first
   | (with_reducible exact ih0 _ _)
   | (with_reducible exact ih1 _ _ _)
   | (with_reducible exact ih2 _ _ _ _ _)
   | (with_reducible exact jobshellref19_IsPath.mono _ _)
   | (with_reducible exact jobshellref19_Parent.mono _ _)
   | (with_reducible exact jobshellref19_name.mono _ _)
   | (with_reducible exact jobshellref19_parts.mono _ _)
   | (with_reducible exact LeO.refl _)
   | (with_reducible exact LeO.none _)
   | (with_reducible refine LeO.ite ?_ ?_)
   | (with_reducible refine LeO.bind ?_ (fun _ => ?_))
   | exact ih0 _ _
   | exact ih1 _ _ _
   | exact ih2 _ _ _ _ _
   | exact jobshellref19_IsPath.mono _ _
   | exact jobshellref19_Parent.mono _ _
   | exact jobshellref19_name.mono _ _
   | exact jobshellref19_parts.mono _ _
   | exact LeO.none _
   | refine LeO.ite ?_ ?_
   | refine LeO.bind ?_ (fun _ => ?_)
theorem jobshellref19_Clean.mono : ∀ a0 a1 k, LeO (jobshellref19_Clean.f k a0 a1) (jobshellref19_Clean.f (k + 1) a0 a1) := by
 intro a0 a1 k
 obtain ⟨ih0, ih1, ih2⟩ := jobshellref19_Clean.mono_l k
 unfold jobshellref19_Clean.f
 repeat' first
   | (with_reducible exact ih0 _ _)
   | (with_reducible exact ih1 _ _ _)
   | (with_reducible exact ih2 _ _ _ _ _)
   | (with_reducible exact jobshellref19_IsPath.mono _ _)
   | (with_reducible exact jobshellref19_Parent.mono _ _)
   | (with_reducible exact jobshellref19_name.mono _ _)
   | (with_reducible exact jobshellref19_parts.mono _ _)
   | (with_reducible exact LeO.refl _)
   | (with_reducible exact LeO.none _)
   | (with_reducible refine LeO.ite ?_ ?_)
   | (with_reducible refine LeO.bind ?_ (fun _ => ?_))
   | exact ih0 _ _
   | exact ih1 _ _ _
   | exact ih2 _ _ _ _ _
   | exact jobshellref19_IsPath.mono _ _
   | exact jobshellref19_Parent.mono _ _
   | exact jobshellref19_name.mono _ _
   | exact jobshellref19_parts.mono _ _
   | exact LeO.none _
   | refine LeO.ite ?_ ?_
   | refine LeO.bind ?_ (fun _ => ?_)
set_option maxHeartbeats 8000000 in
set_option maxRecDepth 100000 in
theorem jobshellref19_Clean.calls (k : Nat) (a0 : ByteArray) (a1 : ByteArray) (r1 : ByteArray) (r2 : Int) (w : World) (h : jobshellref19_Clean.f k a0 a1 = some (r1, r2)) :
  Calls Tryd.prog 45 #[.string a0, .string a1] w fun e w' => e = .returned (.tuple #[.string r1, .int .i64 r2]) ∧ Below w.heap.size w w' := by
 have HB := Aside0.mk (Below.refl w.heap.size w)
 have H : ((jobshellref19_IsPath.f k a0).bind fun t225 => (if t225 = true then (if a1.toList = ([] : List UInt8) then (some ((⟨#[]⟩ : ByteArray), 8)) else (if 0 < (a1.size : Int) then (if (bt a1 0) = 47 then (jobshellref19_Clean.j0 k a1 (⟨#[47]⟩ : ByteArray)) else (jobshellref19_Clean.j0 k a1 a0)) else (none))) else (some ((⟨#[]⟩ : ByteArray), 10)))) = some (r1, r2) := h
 clear h
 replace H := Option.bind_eq_some_iff.mp H
 obtain ⟨t225, A30, H⟩ := H
 replace H : (if t225 = true then (if a1.toList = ([] : List UInt8) then (some ((⟨#[]⟩ : ByteArray), 8)) else (if 0 < (a1.size : Int) then (if (bt a1 0) = 47 then (jobshellref19_Clean.j0 k a1 (⟨#[47]⟩ : ByteArray)) else (jobshellref19_Clean.j0 k a1 a0)) else (none))) else (some ((⟨#[]⟩ : ByteArray), 10))) = some (r1, r2) := H
 have A3 := Aside0.mk A30
 clear A30
 by_cases c4 : t225 = true
 ·subst c4
  have H1 : (if a1.toList = ([] : List UInt8) then (some ((⟨#[]⟩ : ByteArray), 8)) else (if 0 < (a1.size : Int) then (if (bt a1 0) = 47 then (jobshellref19_Clean.j0 k a1 (⟨#[47]⟩ : ByteArray)) else (jobshellref19_Clean.j0 k a1 a0)) else (none))) = some (r1, r2) := by rw [if_pos rfl] at H; exact H
  clear H
  have H := H1
  clear H1
  by_cases c5 : a1.toList = ([] : List UInt8)
  ·rw [if_pos c5] at H
   have c5b0 : (a1.toList == ([] : List UInt8)) = true := beq_iff_eq.mpr c5
   have c5b1 : (a1.toList != ([] : List UInt8)) = false := bne_eq_false_iff_eq.mpr c5
   clear c5
   simp only [Option.some.injEq, Prod.mk.injEq] at H
   obtain ⟨rfl, rfl⟩ := H
   go_enter Tryd.func45, Tryd.ntmps45
   go_wp2_with (first | ((with_reducible refine gate_callee (f := 22) rfl ?_); refine goesL_ (some 11) rfl rfl Tryd.func22 (by kernel_rfl) rfl #[.string a0] rfl (by (try simp only [List.map_toArray, List.map_cons, List.map_nil]); first | done | rfl | (simp only [List.length_drop, List.length_take]; rfl)) ?_; (with_reducible refine (jobshellref19_IsPath.calls k a0 true _ A3.out).mono ?_); rintro e w6 ⟨rfl, hb⟩; refine ⟨_, rfl, ?_⟩; have n0_ := Aside0.mk (below_step (by repeat (first | (with_reducible first | exact HB.out | apply below_alloc | apply pw_below_drewN | apply below_drew1) | exact HB.out)) hb); clear HB; have HB := n0_; clear n0_; (try clear hb); (try clear hb2); (try clear hk); (try clear hi)))
   go_ret2
   exact ⟨by first | rfl | (simp [errW_none, errW_some] <;> rfl) | (simp [*, errW_none, errW_some] <;> rfl), by repeat (first | (with_reducible first | exact HB.out | apply below_alloc | apply pw_below_drewN | apply below_drew1) | exact HB.out)⟩
  ·rw [if_neg c5] at H
   have c5b0 : (a1.toList == ([] : List UInt8)) = false := beq_eq_false_iff_ne.mpr c5
   have c5b1 : (a1.toList != ([] : List UInt8)) = true := bne_iff_ne.mpr c5
   by_cases c7 : 0 < (a1.size : Int)
   ·rw [if_pos c7] at H
    have c7b0 : decide (0 < (a1.size : Int)) = true := decide_eq_true c7
    have c7b1 : decide (0 < a1.size) = true := decide_eq_true (by omega)
    clear c7
    have HC9 := Aside0.mk H
    clear H
    go_enter Tryd.func45, Tryd.ntmps45
    go_upto_if 18 with (first | ((with_reducible refine gate_callee (f := 22) rfl ?_); refine goesL_ (some 11) rfl rfl Tryd.func22 (by kernel_rfl) rfl #[.string a0] rfl (by (try simp only [List.map_toArray, List.map_cons, List.map_nil]); first | done | rfl | (simp only [List.length_drop, List.length_take]; rfl)) ?_; (with_reducible refine (jobshellref19_IsPath.calls k a0 true _ A3.out).mono ?_); rintro e w10 ⟨rfl, hb⟩; refine ⟨_, rfl, ?_⟩; have n0_ := Aside0.mk (below_step (by repeat (first | (with_reducible first | exact HB.out | apply below_alloc | apply pw_below_drewN | apply below_drew1) | exact HB.out)) hb); clear HB; have HB := n0_; clear n0_; (try clear hb); (try clear hb2); (try clear hk); (try clear hi); have p8 : 0 ≤ (0 : Int) := (by omega); have q8 : 0 < a1.size := (by have : (0 : Int) < (a1.size : Int) := of_decide_eq_true (by first | (with_reducible assumption) | assumption); omega); have hx8 : ∀ h : 0 < a1.size, ((a1[0]'h).toNat : Int) = bt a1 0 := bt_at a1 0; clear p8; have qi8 : (0 < (a1.size : Int)) = True := eq_true (of_decide_eq_true (by first | (with_reducible assumption) | assumption)); replace q8 := eq_true q8))
    (try simp only [Act.put, List.setIfInBounds_toArray, List.set_cons_zero, List.set_cons_succ])
    go_cut [6] (fun v6 wc => ∃ (kq : Nat) (x6_8 : ByteArray), v6 = .string x6_8 ∧ Aside0 (jobshellref19_Clean.j0 kq a1 x6_8 = some (r1, r2)) ∧ Aside0 (kq ≤ k) ∧ Aside0 (Below w.heap.size w wc))
    case first =>
     have H := HC9.out
     clear HC9
     by_cases c11 : (bt a1 0) = 47
     ·rw [if_pos c11] at H
      have c11b0 : ((bt a1 0) == 47) = true := beq_iff_eq.mpr c11
      have c11b1 : ((bt a1 0) != 47) = false := bne_eq_false_iff_eq.mpr c11
      clear c11
      (first | rw [c11b0] | (simp only [i64_w, i32_w]; rw [c11b0]) | skip)
      have H' := Aside0.mk H
      clear H
      go_wp2
      go_meet
      case rel => exact ⟨_, ((⟨#[47]⟩ : ByteArray)), (by first | rfl | (simp; done) | (simp [*]; done) | (simp [isE_ne]; done)), H', ⟨by first | omega | exact Nat.le_refl _⟩, ⟨by repeat (first | (with_reducible first | exact HB.out | apply below_alloc | apply pw_below_drewN | apply below_drew1) | exact HB.out)⟩⟩
     ·rw [if_neg c11] at H
      have c11b0 : ((bt a1 0) == 47) = false := beq_eq_false_iff_ne.mpr c11
      have c11b1 : ((bt a1 0) != 47) = true := bne_iff_ne.mpr c11
      (first | rw [c11b0] | (simp only [i64_w, i32_w]; rw [c11b0]) | skip)
      have H' := Aside0.mk H
      clear H
      go_wp2
      go_meet
      case rel => exact ⟨_, (a0), (by first | rfl | (simp; done) | (simp [*]; done) | (simp [isE_ne]; done)), H', ⟨by first | omega | exact Nat.le_refl _⟩, ⟨by repeat (first | (with_reducible first | exact HB.out | apply below_alloc | apply pw_below_drewN | apply below_drew1) | exact HB.out)⟩⟩
    case rest =>
     clear HC9
     try clear c1
     try clear c2
     try clear p2
     try clear c4
     try clear c5
     try clear c5b0
     try clear c5b1
     try clear c7
     try clear c7b0
     try clear c7b1
     try clear p8
     try clear q8
     try clear hx8
     try clear qi8
     try clear c11
     try clear c11b0
     try clear c11b1
     try clear p8
     try clear q8
     obtain ⟨kq, x6_8, rfl, HA, HJ8, HB⟩ := hcut
     cases kq with
     | zero => exact absurd HA.out (by simp [jobshellref19_Clean.j0])
     | succ kj8 =>
      have H := HA.out
      clear HA
      simp only [jobshellref19_Clean.j0] at H
      replace H := Option.bind_eq_some_iff.mp H
      obtain ⟨t226, A120, H⟩ := H
      replace H : (jobshellref19_Clean.l0 kj8 x6_8 t226 0) = some (r1, r2) := H
      have A12 := Aside0.mk A120
      clear A120
      have H' := Aside0.mk H
      clear H
      go_wp2_with (first | ((with_reducible refine gate_callee (f := 34) rfl ?_); refine goesL_ (some 20) rfl rfl Tryd.func34 (by kernel_rfl) rfl #[.string a1] rfl (by (try simp only [List.map_toArray, List.map_cons, List.map_nil]); first | done | rfl | (simp only [List.length_drop, List.length_take]; rfl)) ?_; (with_reducible refine (jobshellref19_parts.calls kj8 a1 t226 _ A12.out).mono ?_); rintro e w13 ⟨v227, rfl, ho0, hb⟩; refine ⟨_, rfl, ?_⟩; have n0_ := Aside0.mk (Kd.R_lower ho0 (below_size (by repeat (first | (with_reducible first | exact HB.out | apply below_alloc | apply pw_below_drewN | apply below_drew1) | exact HB.out)))); have n1_ := Aside0.mk (below_step (by repeat (first | (with_reducible first | exact HB.out | apply below_alloc | apply pw_below_drewN | apply below_drew1) | exact HB.out)) hb); clear HB; have HO228 := n0_; have HB := n1_; clear n0_ n1_; (try clear hb); (try clear hb2); (try clear hk); (try clear hi); (try clear ho0)))
      go_loopg [6, 8] kj8 (fun kq v6 v8 w' => ∃ (x6_2 : ByteArray) (x8_2 : Int), v6 = .string x6_2 ∧ v8 = .int .i64 x8_2 ∧ Aside0 (jobshellref19_Clean.l0 kq x6_2 t226 x8_2 = some (r1, r2)) ∧ Aside0 (kq ≤ kj8) ∧ Aside0 (Kd.R Kd.string 9 w' w.heap.size (fun _ => True) v227 t226) ∧ Aside0 (Below w.heap.size w w'))
      case atStart => exact ⟨(x6_8), (0), (by first | rfl | (simp; done) | (simp [*]; done) | (simp [isE_ne]; done)), (by first | rfl | (simp; done) | (simp [*]; done) | (simp [isE_ne]; done)), H', ⟨Nat.le_refl _⟩, ⟨by (with_reducible repeat (first | apply Kd.R_alloc | apply Kd.R_drewN | apply Kd.R_drew)); exact HO228.out⟩, ⟨by repeat (first | (with_reducible first | exact HB.out | apply below_alloc | apply pw_below_drewN | apply below_drew1) | exact HB.out)⟩⟩
      case round =>
       clear H'
       try clear c1
       try clear c2
       try clear p2
       try clear c3
       try clear c4
       try clear c5
       try clear c5b0
       try clear c5b1
       try clear c7
       try clear c7b0
       try clear c7b1
       try clear p8
       try clear q8
       try clear hx8
       try clear qi8
       try clear c11
       try clear c11b0
       try clear c11b1
       try clear p2
       try clear p8
       try clear q8
       obtain ⟨x6_2, x8_2, rfl, rfl, HA, HK2, HO_7, HB⟩ := hrel
       cases gk with
       | zero => exact absurd HA.out (by simp [jobshellref19_Clean.l0])
       | succ k2 =>
        have H := HA.out
        clear HA
        simp only [jobshellref19_Clean.l0] at H
        by_cases c14 : x8_2 < (t226.length : Int)
        ·rw [if_pos c14] at H
         have c14b0 : decide (x8_2 < (t226.length : Int)) = true := decide_eq_true c14
         clear c14
         by_cases c15 : 0 ≤ x8_2
         ·rw [if_pos c15] at H
          have c15b0 : decide (0 ≤ x8_2) = true := decide_eq_true c15
          clear c15
          have HC16 := Aside0.mk H
          clear H
          obtain ⟨Ao17, co17, eo17⟩ := Kd.R_slice HO_7.out
          subst eo17
          have p229 : 0 ≤ (x8_2 : Int) := of_decide_eq_true (by first | (with_reducible assumption) | assumption)
          have q229 : x8_2 < (t226.length : Int) := of_decide_eq_true (by first | (with_reducible assumption) | assumption)
          obtain ⟨ad229, e229, hx229_0⟩ := Kd.at_string (Kd.R_reads' HO_7.out).2.2 x8_2 p229 q229
          cases e229
          replace p229 := eq_true p229
          replace q229 := eq_true q229
          go_upto_region 13 with (fail)
          go_cut [36] (fun v36 wc => ∃ (kq : Nat) (x36_15 : Bool), v36 = .bool x36_15 ∧ Aside0 (jobshellref19_Clean.j2 kq x6_2 t226 x8_2 (rdOf ByteArray.empty t226 x8_2) x36_15 = some (r1, r2)) ∧ Aside0 (kq ≤ k2) ∧ Aside0 (Kd.R Kd.string 9 wc w.heap.size (fun _ => True) (.slice (some ad229) t226.length co17) t226) ∧ Aside0 (Below w.heap.size w wc))
          case first =>
           have H := HC16.out
           clear HC16
           by_cases c18 : (rdOf ByteArray.empty t226 x8_2).toList = ([] : List UInt8)
           ·rw [if_pos c18] at H
            have c18b0 : ((rdOf ByteArray.empty t226 x8_2).toList == ([] : List UInt8)) = true := beq_iff_eq.mpr c18
            have c18b1 : ((rdOf ByteArray.empty t226 x8_2).toList != ([] : List UInt8)) = false := bne_eq_false_iff_eq.mpr c18
            clear c18
            (first | rw [c18b0] | (simp only [i64_w, i32_w]; rw [c18b0]) | skip)
            have H' := Aside0.mk H
            clear H
            go_wp2
            go_meet
            case rel => exact ⟨_, (true), (by first | rfl | (simp; done) | (simp [*]; done) | (simp [isE_ne]; done)), H', ⟨by have := HJ8.out; have := HK2.out; first | omega | exact Nat.le_refl _⟩, ⟨by (with_reducible repeat (first | apply Kd.R_alloc | apply Kd.R_drewN | apply Kd.R_drew)); exact HO_7.out⟩, ⟨by repeat (first | (with_reducible first | exact HB.out | apply below_alloc | apply pw_below_drewN | apply below_drew1) | exact HB.out)⟩⟩
           ·rw [if_neg c18] at H
            have c18b0 : ((rdOf ByteArray.empty t226 x8_2).toList == ([] : List UInt8)) = false := beq_eq_false_iff_ne.mpr c18
            have c18b1 : ((rdOf ByteArray.empty t226 x8_2).toList != ([] : List UInt8)) = true := bne_iff_ne.mpr c18
            (first | rw [c18b0] | (simp only [i64_w, i32_w]; rw [c18b0]) | skip)
            have H' := Aside0.mk H
            clear H
            go_wp2
            go_meet
            case rel => exact ⟨_, (((rdOf ByteArray.empty t226 x8_2).toList == ([46] : List UInt8))), (by first | rfl | (simp; done) | (simp [*]; done) | (simp [isE_ne]; done)), H', ⟨by have := HJ8.out; have := HK2.out; first | omega | exact Nat.le_refl _⟩, ⟨by (with_reducible repeat (first | apply Kd.R_alloc | apply Kd.R_drewN | apply Kd.R_drew)); exact HO_7.out⟩, ⟨by repeat (first | (with_reducible first | exact HB.out | apply below_alloc | apply pw_below_drewN | apply below_drew1) | exact HB.out)⟩⟩
          case rest =>
           clear HC16
           try clear c1
           try clear c2
           try clear p2
           try clear q2
           try clear hx2
           try clear c3
           try clear c4
           try clear c5
           try clear c5b0
           try clear c5b1
           try clear c7
           try clear c7b0
           try clear c7b1
           try clear p8
           try clear q8
           try clear hx8
           try clear qi8
           try clear c11
           try clear c11b0
           try clear c11b1
           try clear c14
           try clear c14b0
           try clear c15
           try clear c15b0
           try clear c18
           try clear c18b0
           try clear c18b1
           try clear hx229_0
           try clear p2
           try clear p229
           try clear p8
           try clear q229
           try clear q8
           obtain ⟨kq, x36_15, rfl, HA, HJ15, HO_7, HB⟩ := hcut
           cases kq with
           | zero => exact absurd HA.out (by simp [jobshellref19_Clean.j2])
           | succ kj15 =>
            have H := HA.out
            clear HA
            simp only [jobshellref19_Clean.j2] at H
            by_cases c19 : x36_15 = true
            ·subst c19
             have H1 : (jobshellref19_Clean.l0 kj15 x6_2 t226 (wrap64 (x8_2 + 1))) = some (r1, r2) := by rw [if_pos rfl] at H; exact H
             clear H
             have H := H1
             clear H1
             have H' := Aside0.mk H
             clear H
             go_wp2
             go_roundg kj15
             case measure => have := HJ8.out; have := HK2.out; have := HJ15.out; omega
             case rel => exact ⟨(x6_2), (wrap64 (x8_2 + 1)), (by first | rfl | (simp; done) | (simp [*]; done) | (simp [isE_ne]; done)), (by first | rfl | (simp; done) | (simp [*]; done) | (simp [isE_ne]; done)), H', ⟨by have := HJ8.out; have := HK2.out; have := HJ15.out; omega⟩, ⟨by (with_reducible repeat (first | apply Kd.R_alloc | apply Kd.R_drewN | apply Kd.R_drew)); exact HO_7.out⟩, ⟨by repeat (first | (with_reducible first | exact HB.out | apply below_alloc | apply pw_below_drewN | apply below_drew1) | exact HB.out)⟩⟩
            ·replace c19 := Bool.eq_false_iff.mpr c19
             subst c19
             have H1 : (if (rdOf ByteArray.empty t226 x8_2).toList = ([46, 46] : List UInt8) then ((jobshellref19_Parent.f kj15 x6_2).bind fun t230 => (jobshellref19_Clean.l0 kj15 t230 t226 (wrap64 (x8_2 + 1)))) else ((jobshellref19_name.f kj15 (rdOf ByteArray.empty t226 x8_2)).bind fun t231 => (if t231 = true then (if x6_2.toList = ([47] : List UInt8) then (if 0 + 1 ≤ 9223372036854775807 then (if 1 + (rdOf ByteArray.empty t226 x8_2).size ≤ 9223372036854775807 then (jobshellref19_Clean.l0 kj15 (((⟨#[]⟩ : ByteArray) ++ (⟨#[47]⟩ : ByteArray)) ++ (rdOf ByteArray.empty t226 x8_2)) t226 (wrap64 (x8_2 + 1))) else (none)) else (none)) else (if x6_2.size + 1 ≤ 9223372036854775807 then (if (x6_2 ++ (⟨#[47]⟩ : ByteArray)).size + (rdOf ByteArray.empty t226 x8_2).size ≤ 9223372036854775807 then (jobshellref19_Clean.l0 kj15 ((x6_2 ++ (⟨#[47]⟩ : ByteArray)) ++ (rdOf ByteArray.empty t226 x8_2)) t226 (wrap64 (x8_2 + 1))) else (none)) else (none))) else (some ((⟨#[]⟩ : ByteArray), 10))))) = some (r1, r2) := by rw [if_neg (show ¬ (false = true) by decide)] at H; exact H
             clear H
             have H := H1
             clear H1
             by_cases c20 : (rdOf ByteArray.empty t226 x8_2).toList = ([46, 46] : List UInt8)
             ·rw [if_pos c20] at H
              have c20b0 : ((rdOf ByteArray.empty t226 x8_2).toList == ([46, 46] : List UInt8)) = true := beq_iff_eq.mpr c20
              have c20b1 : ((rdOf ByteArray.empty t226 x8_2).toList != ([46, 46] : List UInt8)) = false := bne_eq_false_iff_eq.mpr c20
              clear c20
              replace H := Option.bind_eq_some_iff.mp H
              obtain ⟨t230, A210, H⟩ := H
              replace H : (jobshellref19_Clean.l0 kj15 t230 t226 (wrap64 (x8_2 + 1))) = some (r1, r2) := H
              have A21 := Aside0.mk A210
              clear A210
              have H' := Aside0.mk H
              clear H
              go_wp2_with (first | ((with_reducible refine gate_callee (f := 38) rfl ?_); refine goesL_ (some 40) rfl rfl Tryd.func38 (by kernel_rfl) rfl #[.string x6_2] rfl (by (try simp only [List.map_toArray, List.map_cons, List.map_nil]); first | done | rfl | (simp only [List.length_drop, List.length_take]; rfl)) ?_; (with_reducible refine (jobshellref19_Parent.calls kj15 x6_2 t230 _ A21.out).mono ?_); rintro e w' ⟨rfl, ⟨nd, rfl⟩⟩; refine ⟨_, rfl, ?_⟩))
              go_roundg kj15
              case measure => have := HJ8.out; have := HK2.out; have := HJ15.out; omega
              case rel => exact ⟨(t230), (wrap64 (x8_2 + 1)), (by first | rfl | (simp; done) | (simp [*]; done) | (simp [isE_ne]; done)), (by first | rfl | (simp; done) | (simp [*]; done) | (simp [isE_ne]; done)), H', ⟨by have := HJ8.out; have := HK2.out; have := HJ15.out; omega⟩, ⟨by (with_reducible repeat (first | apply Kd.R_alloc | apply Kd.R_drewN | apply Kd.R_drew)); exact HO_7.out⟩, ⟨by repeat (first | (with_reducible first | exact HB.out | apply below_alloc | apply pw_below_drewN | apply below_drew1) | exact HB.out)⟩⟩
             ·rw [if_neg c20] at H
              have c20b0 : ((rdOf ByteArray.empty t226 x8_2).toList == ([46, 46] : List UInt8)) = false := beq_eq_false_iff_ne.mpr c20
              have c20b1 : ((rdOf ByteArray.empty t226 x8_2).toList != ([46, 46] : List UInt8)) = true := bne_iff_ne.mpr c20
              replace H := Option.bind_eq_some_iff.mp H
              obtain ⟨t231, A220, H⟩ := H
              replace H : (if t231 = true then (if x6_2.toList = ([47] : List UInt8) then (if 0 + 1 ≤ 9223372036854775807 then (if 1 + (rdOf ByteArray.empty t226 x8_2).size ≤ 9223372036854775807 then (jobshellref19_Clean.l0 kj15 (((⟨#[]⟩ : ByteArray) ++ (⟨#[47]⟩ : ByteArray)) ++ (rdOf ByteArray.empty t226 x8_2)) t226 (wrap64 (x8_2 + 1))) else (none)) else (none)) else (if x6_2.size + 1 ≤ 9223372036854775807 then (if (x6_2 ++ (⟨#[47]⟩ : ByteArray)).size + (rdOf ByteArray.empty t226 x8_2).size ≤ 9223372036854775807 then (jobshellref19_Clean.l0 kj15 ((x6_2 ++ (⟨#[47]⟩ : ByteArray)) ++ (rdOf ByteArray.empty t226 x8_2)) t226 (wrap64 (x8_2 + 1))) else (none)) else (none))) else (some ((⟨#[]⟩ : ByteArray), 10))) = some (r1, r2) := H
              have A22 := Aside0.mk A220
              clear A220
              by_cases c23 : t231 = true
              ·subst c23
               have H1 : (if x6_2.toList = ([47] : List UInt8) then (if 0 + 1 ≤ 9223372036854775807 then (if 1 + (rdOf ByteArray.empty t226 x8_2).size ≤ 9223372036854775807 then (jobshellref19_Clean.l0 kj15 (((⟨#[]⟩ : ByteArray) ++ (⟨#[47]⟩ : ByteArray)) ++ (rdOf ByteArray.empty t226 x8_2)) t226 (wrap64 (x8_2 + 1))) else (none)) else (none)) else (if x6_2.size + 1 ≤ 9223372036854775807 then (if (x6_2 ++ (⟨#[47]⟩ : ByteArray)).size + (rdOf ByteArray.empty t226 x8_2).size ≤ 9223372036854775807 then (jobshellref19_Clean.l0 kj15 ((x6_2 ++ (⟨#[47]⟩ : ByteArray)) ++ (rdOf ByteArray.empty t226 x8_2)) t226 (wrap64 (x8_2 + 1))) else (none)) else (none))) = some (r1, r2) := by rw [if_pos rfl] at H; exact H
               clear H
               have H := H1
               clear H1
               by_cases c24 : x6_2.toList = ([47] : List UInt8)
               ·rw [if_pos c24] at H
                have c24b0 : (x6_2.toList == ([47] : List UInt8)) = true := beq_iff_eq.mpr c24
                have c24b1 : (x6_2.toList != ([47] : List UInt8)) = false := bne_eq_false_iff_eq.mpr c24
                clear c24
                by_cases c25 : 0 + 1 ≤ 9223372036854775807
                ·rw [if_pos c25] at H
                 have c25b0 := eq_true c25
                 have c25b1 : decide (0 + 1 ≤ 9223372036854775807) = true := decide_eq_true c25
                 try have c25b2 : (9223372036854775807 < 0 + 1) = False := eq_false (Nat.not_lt.2 c25)
                 by_cases c26 : 1 + (rdOf ByteArray.empty t226 x8_2).size ≤ 9223372036854775807
                 ·rw [if_pos c26] at H
                  have c26b0 := eq_true c26
                  have c26b1 : decide (1 + (rdOf ByteArray.empty t226 x8_2).size ≤ 9223372036854775807) = true := decide_eq_true c26
                  try have c26b2 : (9223372036854775807 < 1 + (rdOf ByteArray.empty t226 x8_2).size) = False := eq_false (Nat.not_lt.2 c26)
                  have H' := Aside0.mk H
                  clear H
                  go_wp2_with (first | ((with_reducible refine gate_callee (f := 35) rfl ?_); refine goesL_ (some 42) rfl rfl Tryd.func35 (by kernel_rfl) rfl #[.string (rdOf ByteArray.empty t226 x8_2)] rfl (by (try simp only [List.map_toArray, List.map_cons, List.map_nil]); first | done | rfl | (simp only [List.length_drop, List.length_take]; rfl)) ?_; (with_reducible refine (jobshellref19_name.calls kj15 (rdOf ByteArray.empty t226 x8_2) true _ A22.out).mono ?_); rintro e w' ⟨rfl, ⟨nd, rfl⟩⟩; refine ⟨_, rfl, ?_⟩))
                  go_roundg kj15
                  case measure => have := HJ8.out; have := HK2.out; have := HJ15.out; omega
                  case rel => exact ⟨(((⟨#[]⟩ : ByteArray) ++ (⟨#[47]⟩ : ByteArray)) ++ (rdOf ByteArray.empty t226 x8_2)), (wrap64 (x8_2 + 1)), (by first | rfl | (simp; done) | (simp [*]; done) | (simp [isE_ne]; done)), (by first | rfl | (simp; done) | (simp [*]; done) | (simp [isE_ne]; done)), H', ⟨by have := HJ8.out; have := HK2.out; have := HJ15.out; omega⟩, ⟨by (with_reducible repeat (first | apply Kd.R_alloc | apply Kd.R_drewN | apply Kd.R_drew)); exact HO_7.out⟩, ⟨by repeat (first | (with_reducible first | exact HB.out | apply below_alloc | apply pw_below_drewN | apply below_drew1) | exact HB.out)⟩⟩
                 ·rw [if_neg c26] at H
                  exact absurd H (by simp)
                ·rw [if_neg c25] at H
                 exact absurd H (by simp)
               ·rw [if_neg c24] at H
                have c24b0 : (x6_2.toList == ([47] : List UInt8)) = false := beq_eq_false_iff_ne.mpr c24
                have c24b1 : (x6_2.toList != ([47] : List UInt8)) = true := bne_iff_ne.mpr c24
                by_cases c27 : x6_2.size + 1 ≤ 9223372036854775807
                ·rw [if_pos c27] at H
                 have c27b0 := eq_true c27
                 have c27b1 : decide (x6_2.size + 1 ≤ 9223372036854775807) = true := decide_eq_true c27
                 try have c27b2 : (9223372036854775807 < x6_2.size + 1) = False := eq_false (Nat.not_lt.2 c27)
                 by_cases c28 : (x6_2 ++ (⟨#[47]⟩ : ByteArray)).size + (rdOf ByteArray.empty t226 x8_2).size ≤ 9223372036854775807
                 ·rw [if_pos c28] at H
                  have c28b0 := eq_true c28
                  have c28b1 : decide ((x6_2 ++ (⟨#[47]⟩ : ByteArray)).size + (rdOf ByteArray.empty t226 x8_2).size ≤ 9223372036854775807) = true := decide_eq_true c28
                  try have c28b2 : (9223372036854775807 < (x6_2 ++ (⟨#[47]⟩ : ByteArray)).size + (rdOf ByteArray.empty t226 x8_2).size) = False := eq_false (Nat.not_lt.2 c28)
                  have H' := Aside0.mk H
                  clear H
                  go_wp2_with (first | ((with_reducible refine gate_callee (f := 35) rfl ?_); refine goesL_ (some 42) rfl rfl Tryd.func35 (by kernel_rfl) rfl #[.string (rdOf ByteArray.empty t226 x8_2)] rfl (by (try simp only [List.map_toArray, List.map_cons, List.map_nil]); first | done | rfl | (simp only [List.length_drop, List.length_take]; rfl)) ?_; (with_reducible refine (jobshellref19_name.calls kj15 (rdOf ByteArray.empty t226 x8_2) true _ A22.out).mono ?_); rintro e w' ⟨rfl, ⟨nd, rfl⟩⟩; refine ⟨_, rfl, ?_⟩))
                  go_roundg kj15
                  case measure => have := HJ8.out; have := HK2.out; have := HJ15.out; omega
                  case rel => exact ⟨((x6_2 ++ (⟨#[47]⟩ : ByteArray)) ++ (rdOf ByteArray.empty t226 x8_2)), (wrap64 (x8_2 + 1)), (by first | rfl | (simp; done) | (simp [*]; done) | (simp [isE_ne]; done)), (by first | rfl | (simp; done) | (simp [*]; done) | (simp [isE_ne]; done)), H', ⟨by have := HJ8.out; have := HK2.out; have := HJ15.out; omega⟩, ⟨by (with_reducible repeat (first | apply Kd.R_alloc | apply Kd.R_drewN | apply Kd.R_drew)); exact HO_7.out⟩, ⟨by repeat (first | (with_reducible first | exact HB.out | apply below_alloc | apply pw_below_drewN | apply below_drew1) | exact HB.out)⟩⟩
                 ·rw [if_neg c28] at H
                  exact absurd H (by simp)
                ·rw [if_neg c27] at H
                 exact absurd H (by simp)
              ·replace c23 := Bool.eq_false_iff.mpr c23
               subst c23
               have H1 : (some ((⟨#[]⟩ : ByteArray), 10)) = some (r1, r2) := by rw [if_neg (show ¬ (false = true) by decide)] at H; exact H
               clear H
               have H := H1
               clear H1
               simp only [Option.some.injEq, Prod.mk.injEq] at H
               obtain ⟨rfl, rfl⟩ := H
               go_wp2_with (first | ((with_reducible refine gate_callee (f := 35) rfl ?_); refine goesL_ (some 42) rfl rfl Tryd.func35 (by kernel_rfl) rfl #[.string (rdOf ByteArray.empty t226 x8_2)] rfl (by (try simp only [List.map_toArray, List.map_cons, List.map_nil]); first | done | rfl | (simp only [List.length_drop, List.length_take]; rfl)) ?_; (with_reducible refine (jobshellref19_name.calls kj15 (rdOf ByteArray.empty t226 x8_2) false _ A22.out).mono ?_); rintro e w' ⟨rfl, ⟨nd, rfl⟩⟩; refine ⟨_, rfl, ?_⟩))
               go_ret2
               exact ⟨by first | rfl | (simp [errW_none, errW_some] <;> rfl) | (simp [*, errW_none, errW_some] <;> rfl), by repeat (first | (with_reducible first | exact HB.out | apply below_alloc | apply pw_below_drewN | apply below_drew1) | exact HB.out)⟩
         ·rw [if_neg c15] at H
          exact absurd H (by simp)
        ·rw [if_neg c14] at H
         have c14b0 : decide (x8_2 < (t226.length : Int)) = false := decide_eq_false c14
         clear c14
         by_cases c29 : (x6_2.size : Int) > 128
         ·rw [if_pos c29] at H
          have c29b0 : decide (128 < (x6_2.size : Int)) = true := decide_eq_true c29
          have c29b1 : decide (128 < x6_2.size) = true := decide_eq_true (by omega)
          clear c29
          simp only [Option.some.injEq, Prod.mk.injEq] at H
          obtain ⟨rfl, rfl⟩ := H
          obtain ⟨Ao30, co30, eo30⟩ := Kd.R_slice HO_7.out
          subst eo30
          go_wp2
          go_ret2
          exact ⟨by first | rfl | (simp [errW_none, errW_some] <;> rfl) | (simp [*, errW_none, errW_some] <;> rfl), by repeat (first | (with_reducible first | exact HB.out | apply below_alloc | apply pw_below_drewN | apply below_drew1) | exact HB.out)⟩
         ·rw [if_neg c29] at H
          have c29b0 : decide (128 < (x6_2.size : Int)) = false := decide_eq_false c29
          have c29b1 : decide (128 < x6_2.size) = false := decide_eq_false (by omega)
          clear c29
          simp only [Option.some.injEq, Prod.mk.injEq] at H
          obtain ⟨rfl, rfl⟩ := H
          obtain ⟨Ao31, co31, eo31⟩ := Kd.R_slice HO_7.out
          subst eo31
          go_wp2
          go_ret2
          exact ⟨by first | rfl | (simp [errW_none, errW_some] <;> rfl) | (simp [*, errW_none, errW_some] <;> rfl), by repeat (first | (with_reducible first | exact HB.out | apply below_alloc | apply pw_below_drewN | apply below_drew1) | exact HB.out)⟩
   ·rw [if_neg c7] at H
    exact absurd H (by simp)
 ·replace c4 := Bool.eq_false_iff.mpr c4
  subst c4
  have H1 : (some ((⟨#[]⟩ : ByteArray), 10)) = some (r1, r2) := by rw [if_neg (show ¬ (false = true) by decide)] at H; exact H
  clear H
  have H := H1
  clear H1
  simp only [Option.some.injEq, Prod.mk.injEq] at H
  obtain ⟨rfl, rfl⟩ := H
  go_enter Tryd.func45, Tryd.ntmps45
  go_wp2_with (first | ((with_reducible refine gate_callee (f := 22) rfl ?_); refine goesL_ (some 11) rfl rfl Tryd.func22 (by kernel_rfl) rfl #[.string a0] rfl (by (try simp only [List.map_toArray, List.map_cons, List.map_nil]); first | done | rfl | (simp only [List.length_drop, List.length_take]; rfl)) ?_; (with_reducible refine (jobshellref19_IsPath.calls k a0 false _ A3.out).mono ?_); rintro e w32 ⟨rfl, hb⟩; refine ⟨_, rfl, ?_⟩; have n0_ := Aside0.mk (below_step (by repeat (first | (with_reducible first | exact HB.out | apply below_alloc | apply pw_below_drewN | apply below_drew1) | exact HB.out)) hb); clear HB; have HB := n0_; clear n0_; (try clear hb); (try clear hb2); (try clear hk); (try clear hi)))
  go_ret2
  exact ⟨by first | rfl | (simp [errW_none, errW_some] <;> rfl) | (simp [*, errW_none, errW_some] <;> rfl), by repeat (first | (with_reducible first | exact HB.out | apply below_alloc | apply pw_below_drewN | apply below_drew1) | exact HB.out)⟩
end Go.Proofs.YtoeiohfljaboaaaDoor.F
namespace Go.Proofs.YtoeiohfljaboaaaDoor.F
open Go.RowKit Go.Proofs.YtoeiohfljaboaaaDoorW.PrintWords Go.Proofs.YtoeiohfljaboaaaDoorW.PrintLast Go.Proofs.YtoeiohfljaboaaaDoorW.PrintMore
attribute [local go_sem] max2_int min2_int max_two min_two max_three min_three max_four min_four
set_option linter.unusedVariables false
set_option linter.unusedSimpArgs false
def jobshellref19_Find.f (k : Nat) (l0 : List (S_File)) (a1 : ByteArray) : Option (ByteArray × Bool × ByteArray × Bool) := (jobshellref19_find.f k l0 a1).bind fun t233 => (if t233 < 0 then (some ((⟨#[]⟩ : ByteArray), false, (⟨#[]⟩ : ByteArray), false)) else (if 0 ≤ t233 then (if t233 < (l0.length : Int) then (some ((rd_File l0 t233).f0, (rd_File l0 t233).f1, (rd_File l0 t233).f2, true)) else (none)) else (none)))
theorem jobshellref19_Find.mono : ∀ a0 a1 k, LeO (jobshellref19_Find.f k a0 a1) (jobshellref19_Find.f (k + 1) a0 a1) := by
 intro a0 a1 k
 unfold jobshellref19_Find.f
 repeat' first
   | (with_reducible exact jobshellref19_find.mono _ _ _)
   | (with_reducible exact LeO.refl _)
   | (with_reducible exact LeO.none _)
   | (with_reducible refine LeO.ite ?_ ?_)
   | (with_reducible refine LeO.bind ?_ (fun _ => ?_))
   | exact jobshellref19_find.mono _ _ _
   | exact LeO.none _
   | refine LeO.ite ?_ ?_
   | refine LeO.bind ?_ (fun _ => ?_)
set_option maxHeartbeats 8000000 in
set_option maxRecDepth 100000 in
theorem jobshellref19_Find.calls (k : Nat) (A0 : Option Addr) (c0 : Nat) (l0 : List (S_File)) (a1 : ByteArray) (r1 : ByteArray) (r2 : Bool) (r3 : ByteArray) (r4 : Bool) (w : World) (hr0 : Kd.C k_File w A0 l0.length l0) (hc0 : l0.length ≤ c0) (h : jobshellref19_Find.f k l0 a1 = some (r1, r2, r3, r4)) :
  Calls Tryd.prog 46 #[.slice A0 l0.length c0, .string a1] w fun e w' => e = .returned (.tuple #[.agg #[.string r1, .bool r2, .string r3], .bool r4]) ∧ Below w.heap.size w w' := by
 have hu37 := Tryd.underlying37
 have HR0 := Aside0.mk hr0
 have HC0 := Aside0.mk hc0
 clear hr0 hc0
 have HB := Aside0.mk (Below.refl w.heap.size w)
 have H : ((jobshellref19_find.f k l0 a1).bind fun t233 => (if t233 < 0 then (some ((⟨#[]⟩ : ByteArray), false, (⟨#[]⟩ : ByteArray), false)) else (if 0 ≤ t233 then (if t233 < (l0.length : Int) then (some ((rd_File l0 t233).f0, (rd_File l0 t233).f1, (rd_File l0 t233).f2, true)) else (none)) else (none)))) = some (r1, r2, r3, r4) := h
 clear h
 replace H := Option.bind_eq_some_iff.mp H
 obtain ⟨t233, A30, H⟩ := H
 replace H : (if t233 < 0 then (some ((⟨#[]⟩ : ByteArray), false, (⟨#[]⟩ : ByteArray), false)) else (if 0 ≤ t233 then (if t233 < (l0.length : Int) then (some ((rd_File l0 t233).f0, (rd_File l0 t233).f1, (rd_File l0 t233).f2, true)) else (none)) else (none))) = some (r1, r2, r3, r4) := H
 have A3 := Aside0.mk A30
 clear A30
 by_cases c4 : t233 < 0
 ·rw [if_pos c4] at H
  have c4b0 : decide (t233 < 0) = true := decide_eq_true c4
  clear c4
  simp only [Option.some.injEq, Prod.mk.injEq] at H
  obtain ⟨rfl, rfl, rfl, rfl⟩ := H
  go_enter Tryd.func46, Tryd.ntmps46
  go_wp2_with (first | ((with_reducible refine gate_dst (N := 4) rfl ?_); refine box_event ?hg (N := 4) ?hd (cs := #[.string (⟨#[]⟩ : ByteArray), .bool false, .string (⟨#[]⟩ : ByteArray)]) (t := 37) ?hr ?_; (case hd => rfl); (case hg => rfl); (case hr => first | (go_simp; done) | (go_simp; rfl)); intro gb232 hg w5 hbox hb; have n0_ := Aside0.mk (below_step (by repeat (first | (with_reducible first | exact HB.out | apply below_alloc | apply pw_below_drewN | apply below_drew1) | exact HB.out)) hb); have n1_ := Aside0.mk (hbox); have n2_ := Aside0.mk ((by rw [hg]; exact (below_size (by repeat (first | (with_reducible first | exact HB.out | apply below_alloc | apply pw_below_drewN | apply below_drew1) | exact HB.out))) : w.heap.size ≤ gb232)); have n3_ := Aside0.mk ((by rw [hg]; exact (below_size (by repeat (first | (with_reducible first | exact HB.out | apply below_alloc | apply pw_below_drewN | apply below_drew1) | exact HB.out))) : w.heap.size ≤ gb232)); clear HB; have HB := n0_; have BK232 := n1_; have GW232 := n2_; have GE232 := n3_; clear n0_ n1_ n2_ n3_; clear hb hbox hg) | ((with_reducible refine gate_callee (f := 37) rfl ?_); refine goesL_ (some 9) rfl rfl Tryd.func37 (by kernel_rfl) rfl #[.slice A0 l0.length c0, .string a1] rfl (by (try simp only [List.map_toArray, List.map_cons, List.map_nil]); first | done | rfl | (simp only [List.length_drop, List.length_take]; rfl)) ?_; (with_reducible refine (jobshellref19_find.calls k _ _ l0 a1 t233 _ ?side1 ?side2 A3.out).mono ?_); (case side1 => repeat (first | exact (Kd.C_below HR0.out HB.out) | (with_reducible refine Kd.C_alloc ?_ _) | (with_reducible refine Kd.C_drewN ?_ _) | (with_reducible refine Kd.C_drew ?_))); (case side2 => exact HC0.out); rintro e w' ⟨rfl, ⟨nd, rfl⟩⟩; refine ⟨_, rfl, ?_⟩; (try (rw [drewN_self w5]; generalize hq_ : World.drewN w5 _ = w5; have n0_ : Aside0 (w5.heap[gb232]? = some (.cells #[.string (⟨#[]⟩ : ByteArray), .bool false, .string (⟨#[]⟩ : ByteArray)] 37 (0, 0))) := ⟨by rw [← hq_]; exact (by (with_reducible repeat (first | refine blk_drewN ?_ _ | refine blk_drew ?_ | refine blk_alloc ?_ _)); exact BK232.out)⟩; have n1_ : Aside0 (Below w.heap.size w w5) := ⟨by rw [← hq_]; exact (by repeat (first | (with_reducible first | exact HB.out | apply below_alloc | apply pw_below_drewN | apply below_drew1 | refine below_set ?_ GE232.out) | exact HB.out))⟩; clear BK232 HB hq_; have BK232 := n0_; have HB := n1_; clear n0_ n1_)); have hcz6_0 : w5.cell? ⟨gb232, 0, none⟩ = some (.string (⟨#[]⟩ : ByteArray)) := (blk_cell BK232.out 0).trans rfl; have hcz6_1 : w5.cell? ⟨gb232, 1, none⟩ = some (.bool false) := (blk_cell BK232.out 1).trans rfl; have hcz6_2 : w5.cell? ⟨gb232, 2, none⟩ = some (.string (⟨#[]⟩ : ByteArray)) := (blk_cell BK232.out 2).trans rfl; have hfz6_0 := blk_frozen BK232.out 0; have hfz6_1 := blk_frozen BK232.out 1; have hfz6_2 := blk_frozen BK232.out 2))
  refine bodyPost_ret (results_ct rfl _ _ gb232 37 #[.string (⟨#[]⟩ : ByteArray), .bool false, .string (⟨#[]⟩ : ByteArray)] (0, 0) _ rfl (by (with_reducible repeat (first | refine blk_drewN ?_ _ | refine blk_drew ?_ | refine blk_alloc ?_ _)); refine blk_put (cs := #[.string (⟨#[]⟩ : ByteArray), .bool false, .string (⟨#[]⟩ : ByteArray)]) ?_ 2 _ rfl; (with_reducible repeat (first | refine blk_drewN ?_ _ | refine blk_drew ?_ | refine blk_alloc ?_ _)); refine blk_put (cs := #[.string (⟨#[]⟩ : ByteArray), .bool false, .string (⟨#[]⟩ : ByteArray)]) ?_ 1 _ rfl; (with_reducible repeat (first | refine blk_drewN ?_ _ | refine blk_drew ?_ | refine blk_alloc ?_ _)); refine blk_put (cs := #[.string (⟨#[]⟩ : ByteArray), .bool false, .string (⟨#[]⟩ : ByteArray)]) ?_ 0 _ rfl; (with_reducible repeat (first | refine blk_drewN ?_ _ | refine blk_drew ?_ | refine blk_alloc ?_ _)); exact BK232.out) Tryd.underlying37 rfl (by kernel_rfl)) rfl ?_
  exact ⟨by first | rfl | (simp [errW_none, errW_some] <;> rfl) | (simp [*, errW_none, errW_some] <;> rfl), by repeat (first | (with_reducible first | exact HB.out | apply below_alloc | apply pw_below_drewN | apply below_drew1 | refine below_set ?_ GE232.out) | exact HB.out)⟩
 ·rw [if_neg c4] at H
  have c4b0 : decide (t233 < 0) = false := decide_eq_false c4
  clear c4
  by_cases c7 : 0 ≤ t233
  ·rw [if_pos c7] at H
   have c7b0 : decide (0 ≤ t233) = true := decide_eq_true c7
   clear c7
   by_cases c8 : t233 < (l0.length : Int)
   ·rw [if_pos c8] at H
    have c8b0 : decide (t233 < (l0.length : Int)) = true := decide_eq_true c8
    clear c8
    simp only [Option.some.injEq, Prod.mk.injEq] at H
    obtain ⟨rfl, rfl, rfl, rfl⟩ := H
    go_enter Tryd.func46, Tryd.ntmps46
    go_wp2_with (first | ((with_reducible refine gate_dst (N := 4) rfl ?_); refine box_event ?hg (N := 4) ?hd (cs := #[.string (⟨#[]⟩ : ByteArray), .bool false, .string (⟨#[]⟩ : ByteArray)]) (t := 37) ?hr ?_; (case hd => rfl); (case hg => rfl); (case hr => first | (go_simp; done) | (go_simp; rfl)); intro gb232 hg w9 hbox hb; have n0_ := Aside0.mk (below_step (by repeat (first | (with_reducible first | exact HB.out | apply below_alloc | apply pw_below_drewN | apply below_drew1) | exact HB.out)) hb); have n1_ := Aside0.mk (hbox); have n2_ := Aside0.mk ((by rw [hg]; exact (below_size (by repeat (first | (with_reducible first | exact HB.out | apply below_alloc | apply pw_below_drewN | apply below_drew1) | exact HB.out))) : w.heap.size ≤ gb232)); have n3_ := Aside0.mk ((by rw [hg]; exact (below_size (by repeat (first | (with_reducible first | exact HB.out | apply below_alloc | apply pw_below_drewN | apply below_drew1) | exact HB.out))) : w.heap.size ≤ gb232)); clear HB; have HB := n0_; have BK232 := n1_; have GW232 := n2_; have GE232 := n3_; clear n0_ n1_ n2_ n3_; clear hb hbox hg) | ((with_reducible refine gate_callee (f := 37) rfl ?_); refine goesL_ (some 9) rfl rfl Tryd.func37 (by kernel_rfl) rfl #[.slice A0 l0.length c0, .string a1] rfl (by (try simp only [List.map_toArray, List.map_cons, List.map_nil]); first | done | rfl | (simp only [List.length_drop, List.length_take]; rfl)) ?_; (with_reducible refine (jobshellref19_find.calls k _ _ l0 a1 t233 _ ?side1 ?side2 A3.out).mono ?_); (case side1 => repeat (first | exact (Kd.C_below HR0.out HB.out) | (with_reducible refine Kd.C_alloc ?_ _) | (with_reducible refine Kd.C_drewN ?_ _) | (with_reducible refine Kd.C_drew ?_))); (case side2 => exact HC0.out); rintro e w' ⟨rfl, ⟨nd, rfl⟩⟩; refine ⟨_, rfl, ?_⟩; (try (rw [drewN_self w9]; generalize hq_ : World.drewN w9 _ = w9; have n0_ : Aside0 (w9.heap[gb232]? = some (.cells #[.string (⟨#[]⟩ : ByteArray), .bool false, .string (⟨#[]⟩ : ByteArray)] 37 (0, 0))) := ⟨by rw [← hq_]; exact (by (with_reducible repeat (first | refine blk_drewN ?_ _ | refine blk_drew ?_ | refine blk_alloc ?_ _)); exact BK232.out)⟩; have n1_ : Aside0 (Below w.heap.size w w9) := ⟨by rw [← hq_]; exact (by repeat (first | (with_reducible first | exact HB.out | apply below_alloc | apply pw_below_drewN | apply below_drew1 | refine below_set ?_ GE232.out) | exact HB.out))⟩; clear BK232 HB hq_; have BK232 := n0_; have HB := n1_; clear n0_ n1_)); have p234 : 0 ≤ (t233 : Int) := of_decide_eq_true (by first | (with_reducible assumption) | assumption); have q234 : t233 < (l0.length : Int) := of_decide_eq_true (by first | (with_reducible assumption) | assumption); obtain ⟨ad234, e234, hx234_0, hx234_1, hx234_2⟩ := at_File HR0.out t233 p234 q234; cases e234; replace hx234_0 := (HB.out.cell (World.block_lt_of_cell? w _ hx234_0)).trans hx234_0; replace hx234_1 := (HB.out.cell (World.block_lt_of_cell? w _ hx234_1)).trans hx234_1; replace hx234_2 := (HB.out.cell (World.block_lt_of_cell? w _ hx234_2)).trans hx234_2; replace p234 := eq_true p234; replace q234 := eq_true q234; have hcz10_0 : w9.cell? ⟨gb232, 0, none⟩ = some (.string (⟨#[]⟩ : ByteArray)) := (blk_cell BK232.out 0).trans rfl; have hcz10_1 : w9.cell? ⟨gb232, 1, none⟩ = some (.bool false) := (blk_cell BK232.out 1).trans rfl; have hcz10_2 : w9.cell? ⟨gb232, 2, none⟩ = some (.string (⟨#[]⟩ : ByteArray)) := (blk_cell BK232.out 2).trans rfl; have hfz10_0 := blk_frozen BK232.out 0; have hfz10_1 := blk_frozen BK232.out 1; have hfz10_2 := blk_frozen BK232.out 2))
    refine bodyPost_ret (results_ct rfl _ _ gb232 37 #[.string ((rd_File l0 t233).f0), .bool ((rd_File l0 t233).f1), .string ((rd_File l0 t233).f2)] (0, 0) _ rfl (by (with_reducible repeat (first | refine blk_drewN ?_ _ | refine blk_drew ?_ | refine blk_alloc ?_ _)); refine blk_put (cs := #[.string ((rd_File l0 t233).f0), .bool ((rd_File l0 t233).f1), .string (⟨#[]⟩ : ByteArray)]) ?_ 2 _ rfl; (with_reducible repeat (first | refine blk_drewN ?_ _ | refine blk_drew ?_ | refine blk_alloc ?_ _)); refine blk_put (cs := #[.string ((rd_File l0 t233).f0), .bool false, .string (⟨#[]⟩ : ByteArray)]) ?_ 1 _ rfl; (with_reducible repeat (first | refine blk_drewN ?_ _ | refine blk_drew ?_ | refine blk_alloc ?_ _)); refine blk_put (cs := #[.string (⟨#[]⟩ : ByteArray), .bool false, .string (⟨#[]⟩ : ByteArray)]) ?_ 0 _ rfl; (with_reducible repeat (first | refine blk_drewN ?_ _ | refine blk_drew ?_ | refine blk_alloc ?_ _)); exact BK232.out) Tryd.underlying37 rfl (by kernel_rfl)) rfl ?_
    exact ⟨by first | rfl | (simp [errW_none, errW_some] <;> rfl) | (simp [*, errW_none, errW_some] <;> rfl), by repeat (first | (with_reducible first | exact HB.out | apply below_alloc | apply pw_below_drewN | apply below_drew1 | refine below_set ?_ GE232.out) | exact HB.out)⟩
   ·rw [if_neg c8] at H
    exact absurd H (by simp)
  ·rw [if_neg c7] at H
   exact absurd H (by simp)
end Go.Proofs.YtoeiohfljaboaaaDoor.F
set_option linter.unusedVariables false
set_option linter.unusedSimpArgs false
namespace Go.Proofs.YtoeiohfljaboaaaDoor.F
open Go.RowKit Go.Proofs.YtoeiohfljaboaaaDoorW.PrintWords Go.Proofs.YtoeiohfljaboaaaDoorW.PrintLast Go.Proofs.YtoeiohfljaboaaaDoorW.PrintMore Go.Proofs.YtoeiohfljaboaaaDoor.Aid
theorem is_eq (s : ByteArray) (l : List ByteArray) (hl : l.length ≤ 100) : ∀ (d i k : Nat), i + d = l.length → d < k → jobshellref29_is.l0 k s l i = some ((l.drop i).any fun x => x.toList == s.toList) := by
  intro d
  induction d with
  | zero =>
    intro i k hi hk
    obtain ⟨m, rfl⟩ : ∃ m, k = m + 1 := ⟨k - 1, by omega⟩
    rw [jobshellref29_is.l0, if_neg (by omega), List.drop_eq_nil_of_le (by omega)]; rfl
  | succ d ih =>
    intro i k hi hk
    obtain ⟨m, rfl⟩ : ∃ m, k = m + 1 := ⟨k - 1, by omega⟩
    have hd : l.drop i = rdOf ByteArray.empty l (i : Int) :: l.drop (i + 1) := by
      unfold rdOf
      rw [List.drop_eq_getElem_cons (by omega), Int.toNat_natCast, List.getD_eq_getElem?_getD, List.getElem?_eq_getElem (by omega)]; rfl
    rw [jobshellref29_is.l0, if_pos (by omega), if_pos (by omega), hd, List.any_cons]
    by_cases h : (rdOf ByteArray.empty l (i : Int)).toList = s.toList
    · rw [if_pos h, beq_iff_eq.mpr h]; rfl
    · rw [if_neg h, beq_eq_false_iff_ne.mpr h, show wrap64 ((i : Int) + 1) = ((i + 1 : Nat) : Int) by unfold wrap64; omega, ih (i + 1) m (by omega) (by omega)]; rfl
theorem beq_swap (a b : List UInt8) : (a == b) = (b == a) := by
  by_cases h : a = b
  · rw [h]
  · rw [beq_eq_false_iff_ne.mpr h, beq_eq_false_iff_ne.mpr (fun e => h e.symm)]
theorem rb_eq (s : ByteArray) {k : Nat} (hk : 20 ≤ k) : jobshellref29_binary.f k s = some (bB s) := by
  have h := is_eq s [(⟨#[61]⟩ : ByteArray), (⟨#[33, 61]⟩ : ByteArray), (⟨#[45, 101, 113]⟩ : ByteArray), (⟨#[45, 110, 101]⟩ : ByteArray), (⟨#[45, 108, 116]⟩ : ByteArray), (⟨#[45, 108, 101]⟩ : ByteArray), (⟨#[45, 103, 116]⟩ : ByteArray), (⟨#[45, 103, 101]⟩ : ByteArray)] (by decide) 8 0 k rfl (by omega)
  unfold jobshellref29_binary.f jobshellref29_is.f
  rw [show ((0 : Int)) = ((0 : Nat) : Int) from rfl, h, Option.bind_some, ← bB_eq]
  unfold testexpr_binary.f
  have e1 : (⟨#[61]⟩ : ByteArray).toList = [61] := by decide +kernel
  have e2 : (⟨#[33, 61]⟩ : ByteArray).toList = [33, 61] := by decide +kernel
  have e3 : (⟨#[45, 101, 113]⟩ : ByteArray).toList = [45, 101, 113] := by decide +kernel
  have e4 : (⟨#[45, 110, 101]⟩ : ByteArray).toList = [45, 110, 101] := by decide +kernel
  have e5 : (⟨#[45, 108, 116]⟩ : ByteArray).toList = [45, 108, 116] := by decide +kernel
  have e6 : (⟨#[45, 108, 101]⟩ : ByteArray).toList = [45, 108, 101] := by decide +kernel
  have e7 : (⟨#[45, 103, 116]⟩ : ByteArray).toList = [45, 103, 116] := by decide +kernel
  have e8 : (⟨#[45, 103, 101]⟩ : ByteArray).toList = [45, 103, 101] := by decide +kernel
  simp only [List.drop_zero, List.any_cons, List.any_nil, e1, e2, e3, e4, e5, e6, e7, e8, Bool.or_false]
  simp only [beq_swap _ s.toList]
  generalize s.toList = t
  by_cases q0 : t = [61]
  · rw [if_pos q0, beq_iff_eq.mpr q0, Bool.true_or]
  rw [if_neg q0, beq_eq_false_iff_ne.mpr q0, Bool.false_or]
  by_cases q1 : t = [33, 61]
  · rw [if_pos q1, beq_iff_eq.mpr q1, Bool.true_or]
  rw [if_neg q1, beq_eq_false_iff_ne.mpr q1, Bool.false_or]
  by_cases q2 : t = [45, 101, 113]
  · rw [if_pos q2, beq_iff_eq.mpr q2, Bool.true_or]
  rw [if_neg q2, beq_eq_false_iff_ne.mpr q2, Bool.false_or]
  by_cases q3 : t = [45, 110, 101]
  · rw [if_pos q3, beq_iff_eq.mpr q3, Bool.true_or]
  rw [if_neg q3, beq_eq_false_iff_ne.mpr q3, Bool.false_or]
  by_cases q4 : t = [45, 108, 116]
  · rw [if_pos q4, beq_iff_eq.mpr q4, Bool.true_or]
  rw [if_neg q4, beq_eq_false_iff_ne.mpr q4, Bool.false_or]
  by_cases q5 : t = [45, 108, 101]
  · rw [if_pos q5, beq_iff_eq.mpr q5, Bool.true_or]
  rw [if_neg q5, beq_eq_false_iff_ne.mpr q5, Bool.false_or]
  by_cases q6 : t = [45, 103, 116]
  · rw [if_pos q6, beq_iff_eq.mpr q6, Bool.true_or]
  rw [if_neg q6, beq_eq_false_iff_ne.mpr q6, Bool.false_or]
  by_cases q7 : t = [45, 103, 101]
  · rw [if_pos q7, beq_iff_eq.mpr q7]
  · rw [if_neg q7, beq_eq_false_iff_ne.mpr q7]
theorem ru_eq (s : ByteArray) {k : Nat} (hk : 20 ≤ k) : jobshellref29_unary.f k s = some (uB s) := by
  have h := is_eq s [(⟨#[45, 101]⟩ : ByteArray), (⟨#[45, 102]⟩ : ByteArray), (⟨#[45, 100]⟩ : ByteArray), (⟨#[45, 115]⟩ : ByteArray), (⟨#[45, 110]⟩ : ByteArray), (⟨#[45, 122]⟩ : ByteArray)] (by decide) 6 0 k rfl (by omega)
  unfold jobshellref29_unary.f jobshellref29_is.f
  rw [show ((0 : Int)) = ((0 : Nat) : Int) from rfl, h, Option.bind_some, ← uB_eq]
  unfold testexpr_unary.f
  have e1 : (⟨#[45, 101]⟩ : ByteArray).toList = [45, 101] := by decide +kernel
  have e2 : (⟨#[45, 102]⟩ : ByteArray).toList = [45, 102] := by decide +kernel
  have e3 : (⟨#[45, 100]⟩ : ByteArray).toList = [45, 100] := by decide +kernel
  have e4 : (⟨#[45, 115]⟩ : ByteArray).toList = [45, 115] := by decide +kernel
  have e5 : (⟨#[45, 110]⟩ : ByteArray).toList = [45, 110] := by decide +kernel
  have e6 : (⟨#[45, 122]⟩ : ByteArray).toList = [45, 122] := by decide +kernel
  simp only [List.drop_zero, List.any_cons, List.any_nil, e1, e2, e3, e4, e5, e6, Bool.or_false]
  simp only [beq_swap _ s.toList]
  generalize s.toList = t
  by_cases q0 : t = [45, 101]
  · rw [if_pos q0, beq_iff_eq.mpr q0, Bool.true_or]
  rw [if_neg q0, beq_eq_false_iff_ne.mpr q0, Bool.false_or]
  by_cases q1 : t = [45, 102]
  · rw [if_pos q1, beq_iff_eq.mpr q1, Bool.true_or]
  rw [if_neg q1, beq_eq_false_iff_ne.mpr q1, Bool.false_or]
  by_cases q2 : t = [45, 100]
  · rw [if_pos q2, beq_iff_eq.mpr q2, Bool.true_or]
  rw [if_neg q2, beq_eq_false_iff_ne.mpr q2, Bool.false_or]
  by_cases q3 : t = [45, 115]
  · rw [if_pos q3, beq_iff_eq.mpr q3, Bool.true_or]
  rw [if_neg q3, beq_eq_false_iff_ne.mpr q3, Bool.false_or]
  by_cases q4 : t = [45, 110]
  · rw [if_pos q4, beq_iff_eq.mpr q4, Bool.true_or]
  rw [if_neg q4, beq_eq_false_iff_ne.mpr q4, Bool.false_or]
  by_cases q5 : t = [45, 122]
  · rw [if_pos q5, beq_iff_eq.mpr q5]
  · rw [if_neg q5, beq_eq_false_iff_ne.mpr q5]
theorem ru_calls (s : ByteArray) (w : World) : Calls Tryd.prog 31 #[.string s] w fun e w' => e = .returned (.bool (uB s)) ∧ Below w.heap.size w w' := jobshellref29_unary.calls 100 s _ w (ru_eq s (by omega))
theorem rb_calls (s : ByteArray) (w : World) : Calls Tryd.prog 29 #[.string s] w fun e w' => e = .returned (.bool (bB s)) ∧ Below w.heap.size w w' := jobshellref29_binary.calls 100 s _ w (rb_eq s (by omega))
structure R29 (w0 w : World) (g : Nat) (A0 : Option Addr) (c0 n0 : Nat) (A2 : Option Addr) (c2 n2 : Nat) (cwd : ByteArray) (at_ : Int) (er : Int) (od : Bool) : Prop where
  hb : w.heap[g]? = some (.cells #[.slice A0 n0 c0, .int .i64 at_, .slice A2 n2 c2, .string cwd, .int .i64 er, .bool od] 49 (0, 0))
  hg : w0.heap.size ≤ g
  below : Below w0.heap.size w0 w
section
variable {w0 w : World} {g : Nat} {A0 : Option Addr} {c0 n0 : Nat} {A2 : Option Addr} {c2 n2 : Nat} {cwd : ByteArray} {at_ er : Int} {od : Bool}
theorem R29.c0_ (h : R29 w0 w g A0 c0 n0 A2 c2 n2 cwd at_ er od) : w.cell? ⟨g, 0, none⟩ = some (.slice A0 n0 c0) := (blk_cell h.hb 0).trans rfl
theorem R29.c1_ (h : R29 w0 w g A0 c0 n0 A2 c2 n2 cwd at_ er od) : w.cell? ⟨g, 1, none⟩ = some (.int .i64 at_) := (blk_cell h.hb 1).trans rfl
theorem R29.c2_ (h : R29 w0 w g A0 c0 n0 A2 c2 n2 cwd at_ er od) : w.cell? ⟨g, 2, none⟩ = some (.slice A2 n2 c2) := (blk_cell h.hb 2).trans rfl
theorem R29.c3_ (h : R29 w0 w g A0 c0 n0 A2 c2 n2 cwd at_ er od) : w.cell? ⟨g, 3, none⟩ = some (.string cwd) := (blk_cell h.hb 3).trans rfl
theorem R29.c4_ (h : R29 w0 w g A0 c0 n0 A2 c2 n2 cwd at_ er od) : w.cell? ⟨g, 4, none⟩ = some (.int .i64 er) := (blk_cell h.hb 4).trans rfl
theorem R29.c5_ (h : R29 w0 w g A0 c0 n0 A2 c2 n2 cwd at_ er od) : w.cell? ⟨g, 5, none⟩ = some (.bool od) := (blk_cell h.hb 5).trans rfl
theorem R29.fz (h : R29 w0 w g A0 c0 n0 A2 c2 n2 cwd at_ er od) (i : Nat) : w.frozen? ⟨g, i, none⟩ = false := blk_frozen h.hb i
theorem R29.step {w1 : World} (h : R29 w0 w g A0 c0 n0 A2 c2 n2 cwd at_ er od) (hb : Below w.heap.size w w1) : R29 w0 w1 g A0 c0 n0 A2 c2 n2 cwd at_ er od :=
  ⟨(hb.block g (blk_lt h.hb)).trans h.hb, h.hg, below_step h.below hb⟩
theorem R29.drewN (h : R29 w0 w g A0 c0 n0 A2 c2 n2 cwd at_ er od) (m : Nat) : R29 w0 (w.drewN m) g A0 c0 n0 A2 c2 n2 cwd at_ er od := ⟨h.hb, h.hg, pw_below_drewN h.below m⟩
theorem R29.setArgs (h : R29 w0 w g A0 c0 n0 A2 c2 n2 cwd at_ er od) (A : Option Addr) (n c : Nat) : R29 w0 (w.setCell ⟨g, 0, none⟩ (.slice A n c)) g A c n A2 c2 n2 cwd at_ er od :=
  ⟨by simpa using blk_set h.hb 0 (.slice A n c), h.hg, below_set h.below h.hg⟩
theorem R29.setAt (h : R29 w0 w g A0 c0 n0 A2 c2 n2 cwd at_ er od) (x : Int) : R29 w0 (w.setCell ⟨g, 1, none⟩ (.int .i64 x)) g A0 c0 n0 A2 c2 n2 cwd x er od :=
  ⟨by simpa using blk_set h.hb 1 (.int .i64 x), h.hg, below_set h.below h.hg⟩
theorem R29.setErr (h : R29 w0 w g A0 c0 n0 A2 c2 n2 cwd at_ er od) (x : Int) : R29 w0 (w.setCell ⟨g, 4, none⟩ (.int .i64 x)) g A0 c0 n0 A2 c2 n2 cwd at_ x od :=
  ⟨by simpa using blk_set h.hb 4 (.int .i64 x), h.hg, below_set h.below h.hg⟩
theorem R29.setOdd (h : R29 w0 w g A0 c0 n0 A2 c2 n2 cwd at_ er od) (x : Bool) : R29 w0 (w.setCell ⟨g, 5, none⟩ (.bool x)) g A0 c0 n0 A2 c2 n2 cwd at_ er x :=
  ⟨by simpa using blk_set h.hb 5 (.bool x), h.hg, below_set h.below h.hg⟩
theorem R29.at_eq {y : Int} (h : R29 w0 w g A0 c0 n0 A2 c2 n2 cwd at_ er od) (e : at_ = y) : R29 w0 w g A0 c0 n0 A2 c2 n2 cwd y er od := e ▸ h
theorem R29.lt (h : R29 w0 w g A0 c0 n0 A2 c2 n2 cwd at_ er od) : g < w.heap.size := blk_lt h.hb
end
def rOne (k : Nat) (fs : List S_File) (cwd op s : ByteArray) : Option Bool :=
  if op.toList = [45, 110] ∨ op.toList = [45, 122] then some ((s.toList == ([] : List UInt8)) == (op.toList == ([45, 122] : List UInt8))) else
  (jobshellref19_Clean.f k cwd s).bind fun p => (jobshellref19_Find.f k fs p.1).bind fun q => if p.2 ≠ 0 ∨ q.2.2.2 = false then some false else
    if op.toList = [45, 102] then some (!q.2.1) else if op.toList = [45, 100] then some q.2.1 else if op.toList = [45, 115] then some (!q.2.1 && (q.2.2.1.toList != ([] : List UInt8))) else some true
def cmpN (op : ByteArray) (n : Int) : Bool :=
  if op.toList = [45, 101, 113] then n == 0 else if op.toList = [45, 110, 101] then n != 0 else if op.toList = [45, 108, 116] then decide (n < 0) else if op.toList = [45, 108, 101] then decide (n ≤ 0) else if op.toList = [45, 103, 116] then decide (0 < n) else decide (0 ≤ n)
def rTwo (k : Nat) (a op b : ByteArray) (od : Bool) : Option (Bool × Bool) :=
  if op.toList = [61] ∨ op.toList = [33, 61] then some ((a.toList == b.toList) == (op.toList == ([61] : List UInt8)), od) else
  (jobshellref29_compare.f k a b).bind fun x => some (cmpN op x.1, od || !x.2)
section
variable {w0 w : World} {g : Nat} {A0 : Option Addr} {c0 n0 : Nat} {A2 : Option Addr} {c2 : Nat} {fs : List S_File} {cwd : ByteArray} {at_ er : Int} {od : Bool}
set_option maxHeartbeats 8000000 in
set_option maxRecDepth 100000 in
theorem rOne_calls (k : Nat) (op s : ByteArray) (r : Bool)
    (hr2 : Kd.C k_File w0 A2 fs.length fs) (hc2 : fs.length ≤ c2) (hT : R29 w0 w g A0 c0 n0 A2 c2 fs.length cwd at_ er od) (h : rOne k fs cwd op s = some r) :
    Calls Tryd.prog 32 #[.pointer (some ⟨g, 0, none⟩), .string op, .string s] w fun e w' => e = .returned (.bool r) ∧ Below w.heap.size w w' := by
  have k2 := hT.c2_
  have k3 := hT.c3_
  have HR := Aside0.mk hr2
  have HT := Aside0.mk hT
  clear hT hr2
  unfold rOne at h
  by_cases d1 : op.toList = [45, 110]
  · rw [if_pos (.inl d1)] at h
    obtain rfl := Option.some.inj h
    have b1 : (op.toList == ([45, 110] : List UInt8)) = true := beq_iff_eq.mpr d1
    have b2 : (op.toList == ([45, 122] : List UInt8)) = false := by rw [d1]; decide
    go_enter Tryd.func32, Tryd.ntmps32
    go_wp2
    go_ret
    exact ⟨by first | rfl | (simp [*]; done) | (simp [isE_ne, *]; done), Below.refl _ _⟩
  have b1 : (op.toList == ([45, 110] : List UInt8)) = false := beq_eq_false_iff_ne.mpr d1
  by_cases d2 : op.toList = [45, 122]
  · rw [if_pos (.inr d2)] at h
    obtain rfl := Option.some.inj h
    have b2 : (op.toList == ([45, 122] : List UInt8)) = true := beq_iff_eq.mpr d2
    go_enter Tryd.func32, Tryd.ntmps32
    go_wp2
    go_ret
    exact ⟨by first | rfl | (simp [*]; done) | (simp [isE_ne, *]; done), Below.refl _ _⟩
  rw [if_neg (fun e => e.elim d1 d2)] at h
  have b2 : (op.toList == ([45, 122] : List UInt8)) = false := beq_eq_false_iff_ne.mpr d2
  obtain ⟨⟨p, e⟩, hc, h⟩ := Option.bind_eq_some_iff.1 h
  obtain ⟨⟨f0, f1, f2, ok⟩, hf, h⟩ := Option.bind_eq_some_iff.1 h
  have HC := Aside0.mk (jobshellref19_Clean.calls k cwd s p e w hc)
  have HF := Aside0.mk hf
  have H := Aside0.mk h
  clear hc hf h d1 d2
  go_enter Tryd.func32, Tryd.ntmps32
  go_wp2_with (first
    | (go_at_call 45; refine HC.out.mono ?_; rintro e w1 ⟨rfl, hb1⟩; have k2 := (HT.out.step hb1).c2_; have HT1 := Aside0.mk (HT.out.step hb1); have HB1 := Aside0.mk hb1; clear hb1)
    | (go_at_call 46; refine (jobshellref19_Find.calls k A2 c2 fs p f0 f1 f2 ok _ (Kd.C_below HR.out HT1.out.below) hc2 HF.out).mono ?_; rintro e w2 ⟨rfl, hb2⟩; have HB2 := Aside0.mk (below_step HB1.out hb2); clear hb2))
  all_goals
    have e_ := H.out
    go_ret
    refine ⟨?_, below_alloc HB2.out _⟩
    clear H HB1 HB2 HT HT1 HC HF HR
    first
    | (simp_all; done)
    | (simp_all [isE_ne]; done)
    | (simp_all [isE_ne]; rw [← e_, Bool.not_not])
set_option maxHeartbeats 8000000 in
set_option maxRecDepth 100000 in
theorem rTwo_calls (k : Nat) (a op b : ByteArray) (r r2 : Bool)
    (hT : R29 w0 w g A0 c0 n0 A2 c2 fs.length cwd at_ er od) (h : rTwo k a op b od = some (r, r2)) :
    Calls Tryd.prog 30 #[.pointer (some ⟨g, 0, none⟩), .string a, .string op, .string b] w fun e w' => e = .returned (.bool r) ∧ R29 w0 w' g A0 c0 n0 A2 c2 fs.length cwd at_ er r2 := by
  have HT := Aside0.mk hT
  unfold rTwo at h
  by_cases d1 : op.toList = [61]
  · rw [if_pos (.inl d1)] at h
    have b1 : (op.toList == ([61] : List UInt8)) = true := beq_iff_eq.mpr d1
    have H := Aside0.mk h
    clear h hT
    go_enter Tryd.func30, Tryd.ntmps30
    go_wp2
    go_ret
    have e := H.out
    obtain ⟨e1, e2⟩ := Prod.mk.inj (Option.some.inj e)
    rw [← e1, ← e2]
    exact ⟨by first | rfl | (simp [*]; done), HT.out⟩
  have b1 : (op.toList == ([61] : List UInt8)) = false := beq_eq_false_iff_ne.mpr d1
  by_cases d2 : op.toList = [33, 61]
  · rw [if_pos (.inr d2)] at h
    have b2 : (op.toList == ([33, 61] : List UInt8)) = true := beq_iff_eq.mpr d2
    have H := Aside0.mk h
    clear h hT
    go_enter Tryd.func30, Tryd.ntmps30
    go_wp2
    go_ret
    have e := H.out
    obtain ⟨e1, e2⟩ := Prod.mk.inj (Option.some.inj e)
    rw [← e1, ← e2]
    exact ⟨by first | rfl | (simp [*]; done), HT.out⟩
  have b2 : (op.toList == ([33, 61] : List UInt8)) = false := beq_eq_false_iff_ne.mpr d2
  rw [if_neg (fun e => e.elim d1 d2)] at h
  obtain ⟨⟨x1, x2⟩, hx, h⟩ := Option.bind_eq_some_iff.1 h
  have HX := Aside0.mk hx
  have H := Aside0.mk h
  clear h hT hx d1 d2
  go_enter Tryd.func30, Tryd.ntmps30
  go_wp2_with (go_at_call 44; refine (jobshellref29_compare.calls k a b x1 x2 w HX.out).mono ?_; rintro e w1 ⟨rfl, hb⟩; have HT1 := Aside0.mk (HT.out.step hb.below); have k5 := HT1.out.c5_; have f5 := HT1.out.fz 5; clear hb)
  all_goals
    have e := H.out
    go_ret
    first
    | (refine ⟨?_, (?_ : R29 w0 (World.setCell _ ⟨g, 5, none⟩ (.bool true)) g A0 c0 n0 A2 c2 fs.length cwd at_ er r2)⟩
       · clear H HX HT HT1
         simp_all [cmpN]
       · have e2 : r2 = true := by clear H HX HT HT1; simp_all
         rw [e2]; exact HT1.out.setOdd true)
    | (have e2 : r2 = od := by clear H HX HT HT1; simp_all
       rw [e2]
       refine ⟨?_, HT1.out⟩
       clear H HX HT HT1
       simp_all [cmpN])
end
end Go.Proofs.YtoeiohfljaboaaaDoor.F
