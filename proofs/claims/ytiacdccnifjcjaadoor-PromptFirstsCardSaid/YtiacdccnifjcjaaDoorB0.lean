/- Texts of this claim, joined. -/
import Derived.Test.YtiacdccnifjcjaaDoorProg
import Derived.Below
import Derived.Deep.Draws
import Derived.Deep.AppendLies
import Derived.Maps.AppendAt
import Derived.OwnWalk
import Derived.Laws.BytesArg
import Derived.Laws.MakeOwn
import Derived.Laws.OwnMore
import Derived.Deep.OwnRows
import Derived.Tactics
import Derived.Lib.ConvBytes
import Derived.Laws.Slices
import Derived.WalkKit
import Derived.KernelRfl
import Derived.RowKit3
import Derived.Deep.LoopGhost
import Derived.Deep.QuietTactic
import Derived.BigQuiet
import Derived.WideLaws
import Derived.Deep.DeepCutAuto
import Derived.Deep.CutBlock
import Derived.Deep.RegionHeld3
import Derived.Laws.Rows
import Derived.Lib.AppendStr
import Derived.ArgAppend
import Derived.Laws.IdiomCopy
import Derived.OrdersHeld
import Derived.Laws.BitsLemmas
import Derived.RowKit
import Derived.Laws.Cover1
import Derived.Lib.LaidTab
import Derived.Lib.SmallJoins
import Derived.Lib.ItoaMem
import Derived.OneCell
import Derived.Lib.Hide
import Derived.Lib.Builder
import Derived.Lib.UnsafeStr
import Derived.Laws.AppendOwn
import Derived.Shelf.LaysM
import Derived.Shelf.Strings.Builder1
import Derived.Shelf.Strings.Builder2
import Derived.Shelf.Strconv.Itoa3
import Derived.Shelf.Strings.Search1
import Derived.Shelf.Small.Strs
import Derived.Laws.RangeAny
import Derived.Lib.Strings
import Derived.Outline
import Derived.Lib.AppendIntMem
import Derived.Lib.Slices
import Derived.Lib.Walk
import Derived.Lib.MakeNoZero
import Derived.Laws.Externs
import Derived.Test.YtiacdccnifjcjaaDoorBW0
namespace Go.Proofs.YtiacdccnifjcjaaDoor.F
open Go.RowKit Go.Proofs.YtiacdccnifjcjaaDoorW.PrintWords Go.Proofs.YtiacdccnifjcjaaDoorW.PrintLast Go.Proofs.YtiacdccnifjcjaaDoorW.PrintMore
attribute [local go_sem] max2_int min2_int max_two min_two max_three min_three max_four min_four
set_option linter.unusedVariables false
set_option linter.unusedSimpArgs false
structure Opq where
 A : Option Addr
 n : Nat
 c : Nat
abbrev zopq : Opq := ⟨none, 0, 0⟩
def kopq : Kd Opq := Kd.scalar (fun x => .slice x.A x.n x.c) (fun _ => rfl)
theorem isE_ne (l : List UInt8) : (l != []) = !l.isEmpty := by cases l <;> rfl
def AmbC (w : World) : Prop := Lib.TabIs Tryd.prog w "internal/strconv.uint64pow10" .u64 Lib.pow10Tab
theorem ambVar0 : (Tryd.prog.globalNamed "internal/strconv.uint64pow10").isSome = true := by kernel_rfl
theorem ambVar : ∃ g, Tryd.prog.globalNamed "internal/strconv.uint64pow10" = some g := Option.isSome_iff_exists.1 ambVar0
theorem AmbC_below {w w' : World} (h : AmbC w) (hb : Below w.heap.size w w') : AmbC w' :=
 let ⟨_, hg⟩ := ambVar
 Joins.tab_stays (w := w) hg h hb (Nat.le_refl w.heap.size)
theorem AmbC_alloc {w : World} (h : AmbC w) (o : Obj) : AmbC (w.alloc o) := AmbC_below h ((Below.refl w.heap.size w).alloc (Nat.le_refl w.heap.size) o)
theorem AmbC_drewN {w : World} (h : AmbC w) (n : Nat) : AmbC (w.drewN n) := AmbC_below h (pw_below_drewN (Below.refl w.heap.size w) n)
theorem AmbC_drew {w : World} (h : AmbC w) : AmbC w.drew := AmbC_below h (Below.drew (Below.refl w.heap.size w))
def errW : Option Int → Value
 | none => .nilIface
 | some c => .iface 0 (.int .i64 c)
theorem errW_none : errW none = .nilIface := rfl
theorem errW_some (c : Int) : errW (some c) = .iface 0 (.int .i64 c) := rfl
structure S_Var where
 f0 : ByteArray
 f1 : ByteArray
 f2 : Bool
 f3 : Bool
 f4 : Bool
def z_Var : S_Var := ⟨(⟨#[]⟩ : ByteArray), (⟨#[]⟩ : ByteArray), false, false, false⟩
def k_Var : Kd S_Var := Kd.iso (Kd.pair Kd.string (Kd.pair Kd.string (Kd.pair Kd.bool (Kd.pair Kd.bool Kd.bool)))) (fun x : S_Var => (x.f0, x.f1, x.f2, x.f3, x.f4))
theorem k_Var_open {w : World} {x : S_Var} {cs : List Value} (h : k_Var.K w x cs) : cs = [.string x.f0, .string x.f1, .bool x.f2, .bool x.f3, .bool x.f4] := by
 obtain ⟨_, _, rfl, rfl, ⟨_, _, rfl, rfl, ⟨_, _, rfl, rfl, ⟨_, _, rfl, rfl, rfl⟩⟩⟩⟩ := h
 exact rfl
theorem k_Var_mkM (w : World) (base : Nat) (ok : Nat → Prop) (x : S_Var)  : k_Var.M w base ok x [.string x.f0, .string x.f1, .bool x.f2, .bool x.f3, .bool x.f4] := ⟨[.string x.f0], [.string x.f1, .bool x.f2, .bool x.f3, .bool x.f4], rfl, rfl, ⟨[.string x.f1], [.bool x.f2, .bool x.f3, .bool x.f4], rfl, rfl, ⟨[.bool x.f2], [.bool x.f3, .bool x.f4], rfl, rfl, ⟨[.bool x.f3], [.bool x.f4], rfl, rfl, rfl⟩⟩⟩⟩
def rd_Var (xs : List S_Var) (i : Int) : S_Var := xs.getD i.toNat z_Var
theorem at_Var {w : World} {A : Option Addr} {n : Nat} {xs : List S_Var} (h : Kd.C k_Var w A n xs) (i : Int) (h0 : 0 ≤ i) (h1 : i < n) : ∃ ad , A = some ad ∧ w.cell? (ad.add (i.toNat * 5)) = some (.string (rd_Var xs i).f0) ∧ w.cell? ⟨(ad.add (i.toNat * 5)).block, (ad.add (i.toNat * 5)).off + 1, none⟩ = some (.string (rd_Var xs i).f1) ∧ w.cell? ⟨(ad.add (i.toNat * 5)).block, (ad.add (i.toNat * 5)).off + 2, none⟩ = some (.bool (rd_Var xs i).f2) ∧ w.cell? ⟨(ad.add (i.toNat * 5)).block, (ad.add (i.toNat * 5)).off + 3, none⟩ = some (.bool (rd_Var xs i).f3) ∧ w.cell? ⟨(ad.add (i.toNat * 5)).block, (ad.add (i.toNat * 5)).off + 4, none⟩ = some (.bool (rd_Var xs i).f4) := by
 obtain ⟨ad, c, e, _, hK, hc0⟩ := Kd.C_get h z_Var i h0 h1
 have hc : ∀ j u, c[j]? = some u → w.cell? (ad.add (i.toNat * 5 + j)) = some u := hc0
 obtain rfl := k_Var_open hK
 exact ⟨ad, e, hc 0 _ rfl, by rw [← add_field _ _ 1 (by omega)]; exact hc 1 _ rfl, by rw [← add_field _ _ 2 (by omega)]; exact hc 2 _ rfl, by rw [← add_field _ _ 3 (by omega)]; exact hc 3 _ rfl, by rw [← add_field _ _ 4 (by omega)]; exact hc 4 _ rfl⟩
structure S_Alias where
 f0 : ByteArray
 f1 : ByteArray
def z_Alias : S_Alias := ⟨(⟨#[]⟩ : ByteArray), (⟨#[]⟩ : ByteArray)⟩
def k_Alias : Kd S_Alias := Kd.iso (Kd.pair Kd.string Kd.string) (fun x : S_Alias => (x.f0, x.f1))
def rd_Alias (xs : List S_Alias) (i : Int) : S_Alias := xs.getD i.toNat z_Alias
structure S_Trap where
 f0 : Int
 f1 : ByteArray
def z_Trap : S_Trap := ⟨(0 : Int), (⟨#[]⟩ : ByteArray)⟩
def k_Trap : Kd S_Trap := Kd.iso (Kd.pair (Kd.int .i64) Kd.string) (fun x : S_Trap => (x.f0, x.f1))
def rd_Trap (xs : List S_Trap) (i : Int) : S_Trap := xs.getD i.toNat z_Trap
def rd_L7 (xs : List (List ByteArray)) (i : Int) : (List ByteArray) := xs.getD i.toNat ([] : List ByteArray)
def rd_L8 (xs : List (List S_Var)) (i : Int) : (List S_Var) := xs.getD i.toNat ([] : List S_Var)
def rd_L10 (xs : List (List S_Alias)) (i : Int) : (List S_Alias) := xs.getD i.toNat ([] : List S_Alias)
def rd_L11 (xs : List (List S_Trap)) (i : Int) : (List S_Trap) := xs.getD i.toNat ([] : List S_Trap)
structure S_OptState where
 f0 : Int
 f1 : Int
def z_OptState : S_OptState := ⟨(0 : Int), (0 : Int)⟩
def k_OptState : Kd S_OptState := Kd.iso (Kd.pair (Kd.int .i64) (Kd.int .i64)) (fun x : S_OptState => (x.f0, x.f1))
theorem k_OptState_open {w : World} {x : S_OptState} {cs : List Value} (h : k_OptState.K w x cs) : cs = [.int .i64 x.f0, .int .i64 x.f1] := by
 obtain ⟨_, _, rfl, rfl, rfl⟩ := h
 exact rfl
def rd_OptState (xs : List S_OptState) (i : Int) : S_OptState := xs.getD i.toNat z_OptState
structure S_Env where
 f0 : ByteArray
 f1 : (List S_Var)
 f2 : (List ByteArray)
 f3 : Opq
 f4 : (List S_Alias)
 f5 : (List S_Trap)
 f6 : Int
 f7 : Int
 f8 : Int
 f9 : Int
 f10 : ByteArray
 f11 : S_OptState
 f12 : Int
 f13 : Bool
def z_Env : S_Env := ⟨(⟨#[]⟩ : ByteArray), ([] : List S_Var), ([] : List ByteArray), zopq, ([] : List S_Alias), ([] : List S_Trap), (0 : Int), (0 : Int), (0 : Int), (0 : Int), (⟨#[]⟩ : ByteArray), z_OptState, (0 : Int), false⟩
def k_Env : Kd S_Env := Kd.iso (Kd.pair Kd.string (Kd.pair (Kd.slice 42 k_Var) (Kd.pair (Kd.slice 9 Kd.string) (Kd.pair kopq (Kd.pair (Kd.slice 126 k_Alias) (Kd.pair (Kd.slice 128 k_Trap) (Kd.pair (Kd.int .i64) (Kd.pair (Kd.int .i64) (Kd.pair (Kd.int .i64) (Kd.pair (Kd.int .i64) (Kd.pair Kd.string (Kd.pair k_OptState (Kd.pair (Kd.int .i64) Kd.bool))))))))))))) (fun x : S_Env => (x.f0, x.f1, x.f2, x.f3, x.f4, x.f5, x.f6, x.f7, x.f8, x.f9, x.f10, x.f11, x.f12, x.f13))
theorem k_Env_open {w : World} {x : S_Env} {cs : List Value} (h : k_Env.K w x cs) : ∃ A1 c1 A2 c2 A4 c4 A5 c5, cs = [.string x.f0, .slice A1 x.f1.length c1, .slice A2 x.f2.length c2, .slice (x.f3).A (x.f3).n (x.f3).c, .slice A4 x.f4.length c4, .slice A5 x.f5.length c5, .int .i64 x.f6, .int .i64 x.f7, .int .i64 x.f8, .int .i64 x.f9, .string x.f10, .int .i64 x.f11.f0, .int .i64 x.f11.f1, .int .i64 x.f12, .bool x.f13] ∧ x.f1.length ≤ c1 ∧ k_Var.C w A1 x.f1.length x.f1 ∧ x.f2.length ≤ c2 ∧ Kd.string.C w A2 x.f2.length x.f2 ∧ x.f4.length ≤ c4 ∧ k_Alias.C w A4 x.f4.length x.f4 ∧ x.f5.length ≤ c5 ∧ k_Trap.C w A5 x.f5.length x.f5 := by
 obtain ⟨_, _, rfl, rfl, ⟨_, _, rfl, ⟨A1, c1, rfl, l1, g1⟩, ⟨_, _, rfl, ⟨A2, c2, rfl, l2, g2⟩, ⟨_, _, rfl, rfl, ⟨_, _, rfl, ⟨A4, c4, rfl, l4, g4⟩, ⟨_, _, rfl, ⟨A5, c5, rfl, l5, g5⟩, ⟨_, _, rfl, rfl, ⟨_, _, rfl, rfl, ⟨_, _, rfl, rfl, ⟨_, _, rfl, rfl, ⟨_, _, rfl, rfl, ⟨_, _, rfl, s11, ⟨_, _, rfl, rfl, rfl⟩⟩⟩⟩⟩⟩⟩⟩⟩⟩⟩⟩⟩ := h
 obtain rfl := k_OptState_open s11
 exact ⟨A1, c1, A2, c2, A4, c4, A5, c5, rfl, l1, g1, l2, g2, l4, g4, l5, g5⟩
def rd_Env (xs : List S_Env) (i : Int) : S_Env := xs.getD i.toNat z_Env
end Go.Proofs.YtiacdccnifjcjaaDoor.F
namespace Go.Proofs.YtiacdccnifjcjaaDoor.F
open Go.RowKit Go.Proofs.YtiacdccnifjcjaaDoorW.PrintWords Go.Proofs.YtiacdccnifjcjaaDoorW.PrintLast Go.Proofs.YtiacdccnifjcjaaDoorW.PrintMore
attribute [local go_sem] max2_int min2_int max_two min_two max_three min_three max_four min_four
set_option linter.unusedVariables false
set_option linter.unusedSimpArgs false
def vars_Get.l0 : Nat → ByteArray → List (S_Var) → Int → Int → Option (ByteArray × ByteArray × Bool × Bool × Bool × Bool)
 | 0, _, _, _, _ => none
 | k + 1, x1, x8, x9, x10 => if x10 < x9 then (if 0 ≤ x10 then (if x10 < (x8.length : Int) then (if ((rd_Var x8 x10).f0).toList = x1.toList then (some ((rd_Var x8 x10).f0, (rd_Var x8 x10).f1, (rd_Var x8 x10).f2, (rd_Var x8 x10).f3, (rd_Var x8 x10).f4, true)) else (vars_Get.l0 k x1 x8 x9 (wrap64 (x10 + 1)))) else (none)) else (none)) else (some ((⟨#[]⟩ : ByteArray), (⟨#[]⟩ : ByteArray), false, false, false, false))
def vars_Get.f (k : Nat) (l0 : List (S_Var)) (a1 : ByteArray) : Option (ByteArray × ByteArray × Bool × Bool × Bool × Bool) := vars_Get.l0 k a1 l0 (l0.length : Int) 0
theorem vars_Get.mono_l : ∀ k, (∀ y0 y1 y2 y3, LeO (vars_Get.l0 k y0 y1 y2 y3) (vars_Get.l0 (k + 1) y0 y1 y2 y3))
 | 0 => fun _ _ _ _ r h => by simp [vars_Get.l0] at h
 | k + 1 => by
  have ih0 := vars_Get.mono_l k
  ·intro y0 y1 y2 y3
   unfold vars_Get.l0
   repeat' first
   | (with_reducible exact ih0 _ _ _ _)
   | (with_reducible exact LeO.refl _)
   | (with_reducible exact LeO.none _)
   | (with_reducible refine LeO.ite ?_ ?_)
   | (with_reducible refine LeO.bind ?_ (fun _ => ?_))
   | exact ih0 _ _ _ _
   | exact LeO.none _
   | refine LeO.ite ?_ ?_
   | refine LeO.bind ?_ (fun _ => ?_)
theorem vars_Get.mono : ∀ a0 a1 k, LeO (vars_Get.f k a0 a1) (vars_Get.f (k + 1) a0 a1) := by
 intro a0 a1 k
 have ih0 := vars_Get.mono_l k
 unfold vars_Get.f
 repeat' first
   | (with_reducible exact ih0 _ _ _ _)
   | (with_reducible exact LeO.refl _)
   | (with_reducible exact LeO.none _)
   | (with_reducible refine LeO.ite ?_ ?_)
   | (with_reducible refine LeO.bind ?_ (fun _ => ?_))
   | exact ih0 _ _ _ _
   | exact LeO.none _
   | refine LeO.ite ?_ ?_
   | refine LeO.bind ?_ (fun _ => ?_)
set_option maxHeartbeats 8000000 in
set_option maxRecDepth 100000 in
theorem vars_Get.calls (k : Nat) (A0 : Option Addr) (c0 : Nat) (l0 : List (S_Var)) (a1 : ByteArray) (r1 : ByteArray) (r2 : ByteArray) (r3 : Bool) (r4 : Bool) (r5 : Bool) (r6 : Bool) (w : World) (hr0 : Kd.C k_Var w A0 l0.length l0) (hc0 : l0.length ≤ c0) (h : vars_Get.f k l0 a1 = some (r1, r2, r3, r4, r5, r6)) :
  Calls Tryd.prog 26 #[.slice A0 l0.length c0, .string a1] w fun e w' => e = .returned (.tuple #[.agg #[.string r1, .string r2, .bool r3, .bool r4, .bool r5], .bool r6]) ∧ Below w.heap.size w w' := by
 have hu42 := Tryd.underlying42
 have HR0 := Aside0.mk hr0
 have HC0 := Aside0.mk hc0
 clear hr0 hc0
 have HB := Aside0.mk (Below.refl w.heap.size w)
 have H : (vars_Get.l0 k a1 l0 (l0.length : Int) 0) = some (r1, r2, r3, r4, r5, r6) := h
 clear h
 have H' := Aside0.mk H
 clear H
 go_enter Tryd.func26, Tryd.ntmps26
 go_wp2_with (first | ((with_reducible refine gate_dst (N := 4) rfl ?_); refine box_event ?hg (N := 4) ?hd (cs := #[.string (⟨#[]⟩ : ByteArray), .string (⟨#[]⟩ : ByteArray), .bool false, .bool false, .bool false]) (t := 42) ?hr ?_; (case hd => rfl); (case hg => rfl); (case hr => first | (go_simp; done) | (go_simp; rfl)); intro gb146 hg w3 hbox hb; have n0_ := Aside0.mk (below_step (by repeat (first | (with_reducible first | exact HB.out | apply below_alloc | apply pw_below_drewN | apply below_drew1) | exact HB.out)) hb); have n1_ := Aside0.mk (hbox); have n2_ := Aside0.mk ((by rw [hg]; exact (below_size (by repeat (first | (with_reducible first | exact HB.out | apply below_alloc | apply pw_below_drewN | apply below_drew1) | exact HB.out))) : w.heap.size ≤ gb146)); have n3_ := Aside0.mk ((by rw [hg]; exact (below_size (by repeat (first | (with_reducible first | exact HB.out | apply below_alloc | apply pw_below_drewN | apply below_drew1) | exact HB.out))) : w.heap.size ≤ gb146)); clear HB; have HB := n0_; have BK146 := n1_; have GW146 := n2_; have GE146 := n3_; clear n0_ n1_ n2_ n3_; clear hb hbox hg))
 go_loopg [10] k (fun kq v10 w' => ∃ (x10_1 : Int) (x147000_1 : ByteArray) (x147001_1 : ByteArray) (x147002_1 : Bool) (x147003_1 : Bool) (x147004_1 : Bool), v10 = .int .i64 x10_1 ∧ Aside0 (vars_Get.l0 kq a1 l0 (l0.length : Int) x10_1 = some (r1, r2, r3, r4, r5, r6)) ∧ Aside0 (kq ≤ k) ∧ Aside0 (w'.heap[gb146]? = some (.cells #[.string x147000_1, .string x147001_1, .bool x147002_1, .bool x147003_1, .bool x147004_1] 42 (0, 0))) ∧ Aside0 (Below w.heap.size w w'))
 case atStart => exact ⟨(0), ((⟨#[]⟩ : ByteArray)), ((⟨#[]⟩ : ByteArray)), (false), (false), (false), (by first | rfl | (simp; done) | (simp [*]; done) | (simp [isE_ne]; done)), H', ⟨Nat.le_refl _⟩, ⟨by (with_reducible repeat (first | refine blk_drewN ?_ _ | refine blk_drew ?_ | refine blk_alloc ?_ _)); exact BK146.out⟩, ⟨by repeat (first | (with_reducible first | exact HB.out | apply below_alloc | apply pw_below_drewN | apply below_drew1 | refine below_set ?_ GE146.out) | exact HB.out)⟩⟩
 case round =>
  clear H'
  try clear c2
  try clear p2
  obtain ⟨x10_1, x147000_1, x147001_1, x147002_1, x147003_1, x147004_1, rfl, HA, HK1, BK146, HB⟩ := hrel
  cases gk with
  | zero => exact absurd HA.out (by simp [vars_Get.l0])
  | succ k1 =>
   have H := HA.out
   clear HA
   simp only [vars_Get.l0] at H
   by_cases c4 : x10_1 < (l0.length : Int)
   ·rw [if_pos c4] at H
    have c4b0 : decide (x10_1 < (l0.length : Int)) = true := decide_eq_true c4
    clear c4
    by_cases c5 : 0 ≤ x10_1
    ·rw [if_pos c5] at H
     have c5b0 : decide (0 ≤ x10_1) = true := decide_eq_true c5
     clear c5
     by_cases c6 : x10_1 < (l0.length : Int)
     ·rw [if_pos c6] at H
      have c6b0 : decide (x10_1 < (l0.length : Int)) = true := decide_eq_true c6
      clear c6
      by_cases c7 : ((rd_Var l0 x10_1).f0).toList = a1.toList
      ·rw [if_pos c7] at H
       have c7b0 : (((rd_Var l0 x10_1).f0).toList == a1.toList) = true := beq_iff_eq.mpr c7
       have c7b1 : (((rd_Var l0 x10_1).f0).toList != a1.toList) = false := bne_eq_false_iff_eq.mpr c7
       clear c7
       simp only [Option.some.injEq, Prod.mk.injEq] at H
       obtain ⟨rfl, rfl, rfl, rfl, rfl, rfl⟩ := H
       have p147 : 0 ≤ (x10_1 : Int) := of_decide_eq_true (by first | (with_reducible assumption) | assumption)
       have q147 : x10_1 < (l0.length : Int) := of_decide_eq_true (by first | (with_reducible assumption) | assumption)
       obtain ⟨ad147, e147, hx147_0, hx147_1, hx147_2, hx147_3, hx147_4⟩ := at_Var HR0.out x10_1 p147 q147
       cases e147
       replace hx147_0 := (HB.out.cell (World.block_lt_of_cell? w _ hx147_0)).trans hx147_0
       replace hx147_1 := (HB.out.cell (World.block_lt_of_cell? w _ hx147_1)).trans hx147_1
       replace hx147_2 := (HB.out.cell (World.block_lt_of_cell? w _ hx147_2)).trans hx147_2
       replace hx147_3 := (HB.out.cell (World.block_lt_of_cell? w _ hx147_3)).trans hx147_3
       replace hx147_4 := (HB.out.cell (World.block_lt_of_cell? w _ hx147_4)).trans hx147_4
       replace p147 := eq_true p147
       replace q147 := eq_true q147
       go_wp2_with (first | ((with_reducible refine gate_dst (N := 7) rfl ?_); refine box_event ?hg (N := 7) ?hd (cs := #[.string (⟨#[]⟩ : ByteArray), .string (⟨#[]⟩ : ByteArray), .bool false, .bool false, .bool false]) (t := 42) ?hr ?_; (case hd => rfl); (case hg => rfl); (case hr => first | (go_simp; done) | (go_simp; rfl)); intro gb148 hg w8 hbox hb; have n0_ := Aside0.mk (blk_below (g := gb146) (o := .cells #[.string x147000_1, .string x147001_1, .bool x147002_1, .bool x147003_1, .bool x147004_1] 42 (0, 0)) (by (with_reducible repeat (first | refine blk_drewN ?_ _ | refine blk_drew ?_ | refine blk_alloc ?_ _)); exact BK146.out) hb); have n1_ := Aside0.mk (below_step (by repeat (first | (with_reducible first | exact HB.out | apply below_alloc | apply pw_below_drewN | apply below_drew1 | refine below_set ?_ GE146.out) | exact HB.out)) hb); have n2_ := Aside0.mk (hbox); have n3_ := Aside0.mk ((by rw [hg]; exact (below_size (by repeat (first | (with_reducible first | exact HB.out | apply below_alloc | apply pw_below_drewN | apply below_drew1 | refine below_set ?_ GE146.out) | exact HB.out))) : w.heap.size ≤ gb148)); have n4_ := Aside0.mk ((by rw [hg]; exact (below_size (by repeat (first | (with_reducible first | exact HB.out | apply below_alloc | apply pw_below_drewN | apply below_drew1 | refine below_set ?_ GE146.out) | exact HB.out))) : w.heap.size ≤ gb148)); have n5_ := Aside0.mk ((by rw [hg]; exact Nat.ne_of_lt (blk_lt (g := gb146) (o := .cells #[.string x147000_1, .string x147001_1, .bool x147002_1, .bool x147003_1, .bool x147004_1] 42 (0, 0)) (by (with_reducible repeat (first | refine blk_drewN ?_ _ | refine blk_drew ?_ | refine blk_alloc ?_ _)); exact BK146.out)) : gb146 ≠ gb148)); have n6_ := Aside0.mk ((by rw [hg]; exact Nat.ne_of_gt (blk_lt (g := gb146) (o := .cells #[.string x147000_1, .string x147001_1, .bool x147002_1, .bool x147003_1, .bool x147004_1] 42 (0, 0)) (by (with_reducible repeat (first | refine blk_drewN ?_ _ | refine blk_drew ?_ | refine blk_alloc ?_ _)); exact BK146.out)) : gb148 ≠ gb146)); clear BK146; clear HB; have BK146 := n0_; have HB := n1_; have BK148 := n2_; have GW148 := n3_; have GE148 := n4_; have NB146_148 := n5_; have NB148_146 := n6_; clear n0_ n1_ n2_ n3_ n4_ n5_ n6_; clear hb hbox hg; have hnb9 := NB148_146.out; have hnc9 := NB146_148.out; have hcz10_0 : w8.cell? ⟨gb148, 0, none⟩ = some (.string (⟨#[]⟩ : ByteArray)) := (blk_cell BK148.out 0).trans rfl; have hcz10_1 : w8.cell? ⟨gb148, 1, none⟩ = some (.string (⟨#[]⟩ : ByteArray)) := (blk_cell BK148.out 1).trans rfl; have hcz10_2 : w8.cell? ⟨gb148, 2, none⟩ = some (.bool false) := (blk_cell BK148.out 2).trans rfl; have hcz10_3 : w8.cell? ⟨gb148, 3, none⟩ = some (.bool false) := (blk_cell BK148.out 3).trans rfl; have hcz10_4 : w8.cell? ⟨gb148, 4, none⟩ = some (.bool false) := (blk_cell BK148.out 4).trans rfl; have hfz10_0 := blk_frozen BK148.out 0; have hfz10_1 := blk_frozen BK148.out 1; have hfz10_2 := blk_frozen BK148.out 2; have hfz10_3 := blk_frozen BK148.out 3; have hfz10_4 := blk_frozen BK148.out 4; have hcz11_0 : w8.cell? ⟨gb146, 0, none⟩ = some (.string x147000_1) := (blk_cell BK146.out 0).trans rfl; have hcz11_1 : w8.cell? ⟨gb146, 1, none⟩ = some (.string x147001_1) := (blk_cell BK146.out 1).trans rfl; have hcz11_2 : w8.cell? ⟨gb146, 2, none⟩ = some (.bool x147002_1) := (blk_cell BK146.out 2).trans rfl; have hcz11_3 : w8.cell? ⟨gb146, 3, none⟩ = some (.bool x147003_1) := (blk_cell BK146.out 3).trans rfl; have hcz11_4 : w8.cell? ⟨gb146, 4, none⟩ = some (.bool x147004_1) := (blk_cell BK146.out 4).trans rfl; have hfz11_0 := blk_frozen BK146.out 0; have hfz11_1 := blk_frozen BK146.out 1; have hfz11_2 := blk_frozen BK146.out 2; have hfz11_3 := blk_frozen BK146.out 3; have hfz11_4 := blk_frozen BK146.out 4))
       refine bodyPost_ret (results_ct rfl _ _ gb146 42 #[.string ((rd_Var l0 x10_1).f0), .string ((rd_Var l0 x10_1).f1), .bool ((rd_Var l0 x10_1).f2), .bool ((rd_Var l0 x10_1).f3), .bool ((rd_Var l0 x10_1).f4)] (0, 0) _ rfl (by (with_reducible repeat (first | refine blk_drewN ?_ _ | refine blk_drew ?_ | refine blk_alloc ?_ _)); refine blk_put (cs := #[.string ((rd_Var l0 x10_1).f0), .string ((rd_Var l0 x10_1).f1), .bool ((rd_Var l0 x10_1).f2), .bool ((rd_Var l0 x10_1).f3), .bool x147004_1]) ?_ 4 _ rfl; (with_reducible repeat (first | refine blk_drewN ?_ _ | refine blk_drew ?_ | refine blk_alloc ?_ _)); refine blk_put (cs := #[.string ((rd_Var l0 x10_1).f0), .string ((rd_Var l0 x10_1).f1), .bool ((rd_Var l0 x10_1).f2), .bool x147003_1, .bool x147004_1]) ?_ 3 _ rfl; (with_reducible repeat (first | refine blk_drewN ?_ _ | refine blk_drew ?_ | refine blk_alloc ?_ _)); refine blk_put (cs := #[.string ((rd_Var l0 x10_1).f0), .string ((rd_Var l0 x10_1).f1), .bool x147002_1, .bool x147003_1, .bool x147004_1]) ?_ 2 _ rfl; (with_reducible repeat (first | refine blk_drewN ?_ _ | refine blk_drew ?_ | refine blk_alloc ?_ _)); refine blk_put (cs := #[.string ((rd_Var l0 x10_1).f0), .string x147001_1, .bool x147002_1, .bool x147003_1, .bool x147004_1]) ?_ 1 _ rfl; (with_reducible repeat (first | refine blk_drewN ?_ _ | refine blk_drew ?_ | refine blk_alloc ?_ _)); refine blk_put (cs := #[.string x147000_1, .string x147001_1, .bool x147002_1, .bool x147003_1, .bool x147004_1]) ?_ 0 _ rfl; (with_reducible repeat (first | refine blk_drewN ?_ _ | refine blk_drew ?_ | refine blk_alloc ?_ _)); refine blk_far ?_ NB146_148.out _; (with_reducible repeat (first | refine blk_drewN ?_ _ | refine blk_drew ?_ | refine blk_alloc ?_ _)); refine blk_far ?_ NB146_148.out _; (with_reducible repeat (first | refine blk_drewN ?_ _ | refine blk_drew ?_ | refine blk_alloc ?_ _)); refine blk_far ?_ NB146_148.out _; (with_reducible repeat (first | refine blk_drewN ?_ _ | refine blk_drew ?_ | refine blk_alloc ?_ _)); refine blk_far ?_ NB146_148.out _; (with_reducible repeat (first | refine blk_drewN ?_ _ | refine blk_drew ?_ | refine blk_alloc ?_ _)); refine blk_far ?_ NB146_148.out _; (with_reducible repeat (first | refine blk_drewN ?_ _ | refine blk_drew ?_ | refine blk_alloc ?_ _)); exact BK146.out) Tryd.underlying42 rfl (by kernel_rfl)) rfl ?_
       exact ⟨by first | rfl | (simp [errW_none, errW_some] <;> rfl) | (simp [*, errW_none, errW_some] <;> rfl), by repeat (first | (with_reducible first | exact HB.out | apply below_alloc | apply pw_below_drewN | apply below_drew1 | refine below_set ?_ GE146.out | refine below_set ?_ GE148.out) | exact HB.out)⟩
      ·rw [if_neg c7] at H
       have c7b0 : (((rd_Var l0 x10_1).f0).toList == a1.toList) = false := beq_eq_false_iff_ne.mpr c7
       have c7b1 : (((rd_Var l0 x10_1).f0).toList != a1.toList) = true := bne_iff_ne.mpr c7
       have H' := Aside0.mk H
       clear H
       have p147 : 0 ≤ (x10_1 : Int) := of_decide_eq_true (by first | (with_reducible assumption) | assumption)
       have q147 : x10_1 < (l0.length : Int) := of_decide_eq_true (by first | (with_reducible assumption) | assumption)
       obtain ⟨ad147, e147, hx147_0, hx147_1, hx147_2, hx147_3, hx147_4⟩ := at_Var HR0.out x10_1 p147 q147
       cases e147
       replace hx147_0 := (HB.out.cell (World.block_lt_of_cell? w _ hx147_0)).trans hx147_0
       replace hx147_1 := (HB.out.cell (World.block_lt_of_cell? w _ hx147_1)).trans hx147_1
       replace hx147_2 := (HB.out.cell (World.block_lt_of_cell? w _ hx147_2)).trans hx147_2
       replace hx147_3 := (HB.out.cell (World.block_lt_of_cell? w _ hx147_3)).trans hx147_3
       replace hx147_4 := (HB.out.cell (World.block_lt_of_cell? w _ hx147_4)).trans hx147_4
       replace p147 := eq_true p147
       replace q147 := eq_true q147
       go_wp2_with (first | ((with_reducible refine gate_dst (N := 7) rfl ?_); refine box_event ?hg (N := 7) ?hd (cs := #[.string (⟨#[]⟩ : ByteArray), .string (⟨#[]⟩ : ByteArray), .bool false, .bool false, .bool false]) (t := 42) ?hr ?_; (case hd => rfl); (case hg => rfl); (case hr => first | (go_simp; done) | (go_simp; rfl)); intro gb148 hg w12 hbox hb; have n0_ := Aside0.mk (blk_below (g := gb146) (o := .cells #[.string x147000_1, .string x147001_1, .bool x147002_1, .bool x147003_1, .bool x147004_1] 42 (0, 0)) (by (with_reducible repeat (first | refine blk_drewN ?_ _ | refine blk_drew ?_ | refine blk_alloc ?_ _)); exact BK146.out) hb); have n1_ := Aside0.mk (below_step (by repeat (first | (with_reducible first | exact HB.out | apply below_alloc | apply pw_below_drewN | apply below_drew1 | refine below_set ?_ GE146.out) | exact HB.out)) hb); have n2_ := Aside0.mk (hbox); have n3_ := Aside0.mk ((by rw [hg]; exact (below_size (by repeat (first | (with_reducible first | exact HB.out | apply below_alloc | apply pw_below_drewN | apply below_drew1 | refine below_set ?_ GE146.out) | exact HB.out))) : w.heap.size ≤ gb148)); have n4_ := Aside0.mk ((by rw [hg]; exact (below_size (by repeat (first | (with_reducible first | exact HB.out | apply below_alloc | apply pw_below_drewN | apply below_drew1 | refine below_set ?_ GE146.out) | exact HB.out))) : w.heap.size ≤ gb148)); have n5_ := Aside0.mk ((by rw [hg]; exact Nat.ne_of_lt (blk_lt (g := gb146) (o := .cells #[.string x147000_1, .string x147001_1, .bool x147002_1, .bool x147003_1, .bool x147004_1] 42 (0, 0)) (by (with_reducible repeat (first | refine blk_drewN ?_ _ | refine blk_drew ?_ | refine blk_alloc ?_ _)); exact BK146.out)) : gb146 ≠ gb148)); have n6_ := Aside0.mk ((by rw [hg]; exact Nat.ne_of_gt (blk_lt (g := gb146) (o := .cells #[.string x147000_1, .string x147001_1, .bool x147002_1, .bool x147003_1, .bool x147004_1] 42 (0, 0)) (by (with_reducible repeat (first | refine blk_drewN ?_ _ | refine blk_drew ?_ | refine blk_alloc ?_ _)); exact BK146.out)) : gb148 ≠ gb146)); clear BK146; clear HB; have BK146 := n0_; have HB := n1_; have BK148 := n2_; have GW148 := n3_; have GE148 := n4_; have NB146_148 := n5_; have NB148_146 := n6_; clear n0_ n1_ n2_ n3_ n4_ n5_ n6_; clear hb hbox hg; have hnb13 := NB148_146.out; have hnc13 := NB146_148.out; have hcz14_0 : w12.cell? ⟨gb148, 0, none⟩ = some (.string (⟨#[]⟩ : ByteArray)) := (blk_cell BK148.out 0).trans rfl; have hcz14_1 : w12.cell? ⟨gb148, 1, none⟩ = some (.string (⟨#[]⟩ : ByteArray)) := (blk_cell BK148.out 1).trans rfl; have hcz14_2 : w12.cell? ⟨gb148, 2, none⟩ = some (.bool false) := (blk_cell BK148.out 2).trans rfl; have hcz14_3 : w12.cell? ⟨gb148, 3, none⟩ = some (.bool false) := (blk_cell BK148.out 3).trans rfl; have hcz14_4 : w12.cell? ⟨gb148, 4, none⟩ = some (.bool false) := (blk_cell BK148.out 4).trans rfl; have hfz14_0 := blk_frozen BK148.out 0; have hfz14_1 := blk_frozen BK148.out 1; have hfz14_2 := blk_frozen BK148.out 2; have hfz14_3 := blk_frozen BK148.out 3; have hfz14_4 := blk_frozen BK148.out 4))
       go_roundg k1
       case measure => have := HK1.out; omega
       case rel => exact ⟨(wrap64 (x10_1 + 1)), (x147000_1), (x147001_1), (x147002_1), (x147003_1), (x147004_1), (by first | rfl | (simp; done) | (simp [*]; done) | (simp [isE_ne]; done)), H', ⟨by have := HK1.out; omega⟩, ⟨by (with_reducible repeat (first | refine blk_drewN ?_ _ | refine blk_drew ?_ | refine blk_alloc ?_ _)); refine blk_far ?_ NB146_148.out _; (with_reducible repeat (first | refine blk_drewN ?_ _ | refine blk_drew ?_ | refine blk_alloc ?_ _)); refine blk_far ?_ NB146_148.out _; (with_reducible repeat (first | refine blk_drewN ?_ _ | refine blk_drew ?_ | refine blk_alloc ?_ _)); refine blk_far ?_ NB146_148.out _; (with_reducible repeat (first | refine blk_drewN ?_ _ | refine blk_drew ?_ | refine blk_alloc ?_ _)); refine blk_far ?_ NB146_148.out _; (with_reducible repeat (first | refine blk_drewN ?_ _ | refine blk_drew ?_ | refine blk_alloc ?_ _)); refine blk_far ?_ NB146_148.out _; (with_reducible repeat (first | refine blk_drewN ?_ _ | refine blk_drew ?_ | refine blk_alloc ?_ _)); exact BK146.out⟩, ⟨by repeat (first | (with_reducible first | exact HB.out | apply below_alloc | apply pw_below_drewN | apply below_drew1 | refine below_set ?_ GE146.out | refine below_set ?_ GE148.out) | exact HB.out)⟩⟩
     ·rw [if_neg c6] at H
      exact absurd H (by simp)
    ·rw [if_neg c5] at H
     exact absurd H (by simp)
   ·rw [if_neg c4] at H
    have c4b0 : decide (x10_1 < (l0.length : Int)) = false := decide_eq_false c4
    clear c4
    simp only [Option.some.injEq, Prod.mk.injEq] at H
    obtain ⟨rfl, rfl, rfl, rfl, rfl, rfl⟩ := H
    have hcz15_0 : wr.cell? ⟨gb146, 0, none⟩ = some (.string x147000_1) := (blk_cell BK146.out 0).trans rfl
    have hcz15_1 : wr.cell? ⟨gb146, 1, none⟩ = some (.string x147001_1) := (blk_cell BK146.out 1).trans rfl
    have hcz15_2 : wr.cell? ⟨gb146, 2, none⟩ = some (.bool x147002_1) := (blk_cell BK146.out 2).trans rfl
    have hcz15_3 : wr.cell? ⟨gb146, 3, none⟩ = some (.bool x147003_1) := (blk_cell BK146.out 3).trans rfl
    have hcz15_4 : wr.cell? ⟨gb146, 4, none⟩ = some (.bool x147004_1) := (blk_cell BK146.out 4).trans rfl
    have hfz15_0 := blk_frozen BK146.out 0
    have hfz15_1 := blk_frozen BK146.out 1
    have hfz15_2 := blk_frozen BK146.out 2
    have hfz15_3 := blk_frozen BK146.out 3
    have hfz15_4 := blk_frozen BK146.out 4
    go_wp2
    refine bodyPost_ret (results_ct rfl _ _ gb146 42 #[.string (⟨#[]⟩ : ByteArray), .string (⟨#[]⟩ : ByteArray), .bool false, .bool false, .bool false] (0, 0) _ rfl (by (with_reducible repeat (first | refine blk_drewN ?_ _ | refine blk_drew ?_ | refine blk_alloc ?_ _)); refine blk_put (cs := #[.string (⟨#[]⟩ : ByteArray), .string (⟨#[]⟩ : ByteArray), .bool false, .bool false, .bool x147004_1]) ?_ 4 _ rfl; (with_reducible repeat (first | refine blk_drewN ?_ _ | refine blk_drew ?_ | refine blk_alloc ?_ _)); refine blk_put (cs := #[.string (⟨#[]⟩ : ByteArray), .string (⟨#[]⟩ : ByteArray), .bool false, .bool x147003_1, .bool x147004_1]) ?_ 3 _ rfl; (with_reducible repeat (first | refine blk_drewN ?_ _ | refine blk_drew ?_ | refine blk_alloc ?_ _)); refine blk_put (cs := #[.string (⟨#[]⟩ : ByteArray), .string (⟨#[]⟩ : ByteArray), .bool x147002_1, .bool x147003_1, .bool x147004_1]) ?_ 2 _ rfl; (with_reducible repeat (first | refine blk_drewN ?_ _ | refine blk_drew ?_ | refine blk_alloc ?_ _)); refine blk_put (cs := #[.string (⟨#[]⟩ : ByteArray), .string x147001_1, .bool x147002_1, .bool x147003_1, .bool x147004_1]) ?_ 1 _ rfl; (with_reducible repeat (first | refine blk_drewN ?_ _ | refine blk_drew ?_ | refine blk_alloc ?_ _)); refine blk_put (cs := #[.string x147000_1, .string x147001_1, .bool x147002_1, .bool x147003_1, .bool x147004_1]) ?_ 0 _ rfl; (with_reducible repeat (first | refine blk_drewN ?_ _ | refine blk_drew ?_ | refine blk_alloc ?_ _)); exact BK146.out) Tryd.underlying42 rfl (by kernel_rfl)) rfl ?_
    exact ⟨by first | rfl | (simp [errW_none, errW_some] <;> rfl) | (simp [*, errW_none, errW_some] <;> rfl), by repeat (first | (with_reducible first | exact HB.out | apply below_alloc | apply pw_below_drewN | apply below_drew1 | refine below_set ?_ GE146.out) | exact HB.out)⟩
end Go.Proofs.YtiacdccnifjcjaaDoor.F
set_option linter.unusedVariables false
namespace Go.Proofs.YtiacdccnifjcjaaDoor.Aid
open Go.RowKit
structure Wrote (e : TypeId) (B b : Nat) (w w' : World) : Prop where
  below : Below B w w'
  other : ∀ i o, w.heap[i]? = some o → i ≠ b → (∀ cs fr, o ≠ .cells cs e fr) → w'.heap[i]? = some o
theorem Wrote.refl (e B b : Nat) (w : World) : Wrote e B b w w := ⟨Below.refl _ _, fun _ _ h _ _ => h⟩
theorem Wrote.trans {e B b : Nat} {w w1 w2 : World} (h : Wrote e B b w w1) (k : Wrote e B b w1 w2) : Wrote e B b w w2 :=
  ⟨h.below.trans k.below, fun i o hi hb ho => k.other i o (h.other i o hi hb ho) hb ho⟩
theorem setCell_grownBy (w : World) (b j : Nat) (v : Value) : w.grownBy (w.setCell ⟨b, j, none⟩ v) (some b) :=
  ⟨rfl, rfl, rfl, by simp, fun i _ hi => Below.heap_setCell _ _ _ _ (fun e => hi (by rw [e]))⟩
theorem grownBy_refl (w : World) (row : Option Nat) : w.grownBy w row := ⟨rfl, rfl, rfl, Nat.le_refl _, fun _ _ _ => rfl⟩
theorem owned_typed {w : World} {base : Nat} {e : TypeId} {size n : Nat} {v : Value} {xs : List Value} (h : w.ownsRow base e size v n xs) (k : Nat) (hk : v.ownBlock = some k) : ∃ cells, w.heap[k]? = some (.cells cells e (0, 0)) := by
  rcases h.2 with ⟨rfl, _⟩ | ⟨g, cap, cur, rfl, hg, hh, r⟩
  · simp [Value.ownBlock] at hk
  · have : g = k := by simpa [Value.ownBlock] using hk
    subst this
    exact ⟨cur, hh⟩
theorem lt_of_some {w : World} {i : Nat} {o : Obj} (h : w.heap[i]? = some o) : i < w.heap.size := lt_of_block h
theorem wrote_of {e : TypeId} {B b : Nat} {w w1 w2 : World} {v : Value} {n : Nat} {xs : List Value} (x : Value) (hB : B ≤ b) (hBw : B ≤ w.heap.size) (h1 : w.grownBy w1 (some b)) (hown : w1.ownsRow B e 1 v n xs) (h2 : w1.grownBy w2 v.ownBlock) :
    Wrote e B b w (w2.setCell ⟨b, 1, none⟩ x) := by
  refine ⟨?_, fun i o hi hb ho => ?_⟩
  · have b1 : Below B w w1 := (Below.refl B w).grown h1 hBw (fun k hk => by cases hk; exact hB)
    exact (b1.grown h2 (Nat.le_trans hBw h1.size) (fun k hk => (hown.lt k hk).1)).setCell (p := ⟨b, 1, none⟩) hB _
  · have e1 : w1.heap[i]? = some o := (h1.block i (lt_of_some hi) (fun e => hb (by injection e))).trans hi
    rw [Below.heap_setCell _ _ _ _ (fun e => hb (by rw [e])), h2.block i (lt_of_some e1) (fun e => ?_)]
    · exact e1
    · obtain ⟨cs, hcs⟩ := owned_typed hown i e.symm
      rw [e1] at hcs
      injection hcs with hcs
      exact ho _ _ hcs
theorem builderAt_below {T e : TypeId} {B b : Nat} {p : Value} {bs : List Value} {w w' : World} (h : Lib.BuilderAt T e B b p bs w) (hb : Below w.heap.size w w') : Lib.BuilderAt T e B b p bs w' := by
  obtain ⟨h1, v, h2, h3, h4⟩ := h
  refine ⟨h1, v, ?_, h3.kept (row := none) ⟨hb.os, hb.tape, hb.output, hb.size, fun i hi _ => hb.block i hi⟩ (by cases v.ownBlock <;> simp), h4⟩
  rw [hb.block b (lt_of_some h2)]; exact h2
theorem isBuilder_below {T e : TypeId} {B b : Nat} {bs : List Value} {w w' : World} (h : Lib.IsBuilder T e B b bs w) (hb : Below w.heap.size w w') : Lib.IsBuilder T e B b bs w' :=
  h.imp (fun h => builderAt_below h hb) (fun h => builderAt_below h hb)
theorem below_one (w : World) (o : Obj) : Below w.heap.size w (w.alloc o) := (Below.refl _ _).alloc (Nat.le_refl _) o
theorem below_up {B : Nat} {w w1 w2 : World} (h : Below B w w1) (hB : B ≤ w1.heap.size) (k : Below w1.heap.size w1 w2) : Below B w w2 :=
  h.trans ⟨k.os, k.tape, k.output, k.size, fun i hi => k.block i (Nat.lt_of_lt_of_le hi hB)⟩
theorem byteCells_str (s : ByteArray) : Lib.strCells s = Lib.byteCells s.data.toList := by simp [Lib.strCells, Lib.byteCells]
theorem byteCells_length (a : List UInt8) : (Lib.byteCells a).length = a.length := by simp [Lib.byteCells]
end Go.Proofs.YtiacdccnifjcjaaDoor.Aid
namespace Go.Proofs
open Go.Shelf
def Tryd.lays165_ren : Go.Shelf.Ren := ⟨fun | 165 => 55 | 240 => 29 | 241 => 64 | 276 => 51 | 277 => 70 | n => n, fun | 70 => 44 | 3 => 3 | 0 => 0 | 4 => 4 | 9 => 9 | 20 => 20 | 72 => 47 | 37 => 45 | 164 => 75 | 5 => 5 | n => n, fun | n => n⟩
theorem Tryd.lays165 : Go.Proofs.Lays.n165 Tryd.prog Tryd.lays165_ren := {
  mixed := by kernel_rfl
  f165 := Tryd.func55.trans (congrArg some (by kernel_rfl))
  f240 := Tryd.func29.trans (congrArg some (by kernel_rfl))
  f241 := Tryd.func64.trans (congrArg some (by kernel_rfl))
  f276 := Tryd.func51.trans (congrArg some (by kernel_rfl))
  f277 := Tryd.func70.trans (congrArg some (by kernel_rfl))
  t0 := Tryd.underlying0
  a0 := Tryd.isAgg0
  z0 := Tryd.sizeOf0
  v0 := Tryd.zeroValue0
  t3 := Tryd.underlying3
  a3 := Tryd.isAgg3
  z3 := Tryd.sizeOf3
  v3 := Tryd.zeroValue3
  t4 := Tryd.underlying4
  a4 := Tryd.isAgg4
  z4 := Tryd.sizeOf4
  v4 := Tryd.zeroValue4
  t9 := Tryd.underlying9
  a9 := Tryd.isAgg9
  z9 := Tryd.sizeOf9
  v9 := Tryd.zeroValue9
  t20 := Tryd.underlying20
  a20 := Tryd.isAgg20
  z20 := Tryd.sizeOf20
  v20 := Tryd.zeroValue20
  t37 := Tryd.underlying45
  a37 := Tryd.isAgg45
  z37 := Tryd.sizeOf45
  v37 := Tryd.zeroValue45
  t70 := Tryd.underlying44
  a70 := Tryd.isAgg44
  z70 := Tryd.sizeOf44
  v70 := Tryd.zeroValue44
  t72 := Tryd.underlying47
  a72 := Tryd.isAgg47
  z72 := Tryd.sizeOf47
  v72 := Tryd.zeroValue47
  t164 := Tryd.underlying75
  a164 := Tryd.isAgg75
  z164 := Tryd.sizeOf75
  v164 := Tryd.zeroValue75 }
theorem Tryd.Builder_Extra_165 : Builder.Extra Tryd.prog Tryd.lays165_ren := {
  sizeBuilder := by kernel_rfl
  liesBuilder := by kernel_rfl
  t5 := Tryd.underlying5
  a5 := Tryd.isAgg5
  z5 := Tryd.sizeOf5
  v5 := Tryd.zeroValue5
  infoByte := by kernel_rfl
  cellsByte := by kernel_rfl
  sizeByte := by kernel_rfl
  neB5 := by decide }
open Go.RowKit in
theorem Tryd.Builder_Grow_fresh (B b n : Nat) (w : World) (hB : B ≤ b) (hbk : w.heap[b]? = some (.cells #[.pointer none, .slice none 0 0] 47 (0, 0))) (hBw : B ≤ w.heap.size) (hn : n ≤ 281474976710656) :
    Calls Tryd.prog 55 #[.pointer (some ⟨b, 0, none⟩), .int .i64 n] w fun e w' => e = .returned (.tuple #[]) ∧ (Lib.BuilderAt 47 5 B b (.pointer (some ⟨b, 0, none⟩)) [] w' ∧ Below B w w') := Any.Builder_Grow_fresh Tryd.lays165 Tryd.Builder_Extra_165 B b n w hB hbk hBw hn
def Tryd.lays169_ren : Go.Shelf.Ren := ⟨fun | 169 => 22 | n => n, fun | 70 => 44 | 9 => 9 | 0 => 0 | 72 => 47 | 37 => 45 | 127 => 71 | 3 => 3 | 5 => 5 | n => n, fun | n => n⟩
theorem Tryd.lays169 : Go.Proofs.Lays.n169 Tryd.prog Tryd.lays169_ren := {
  mixed := by kernel_rfl
  f169 := Tryd.func22.trans (congrArg some (by kernel_rfl))
  t0 := Tryd.underlying0
  a0 := Tryd.isAgg0
  z0 := Tryd.sizeOf0
  v0 := Tryd.zeroValue0
  t3 := Tryd.underlying3
  a3 := Tryd.isAgg3
  z3 := Tryd.sizeOf3
  v3 := Tryd.zeroValue3
  t9 := Tryd.underlying9
  a9 := Tryd.isAgg9
  z9 := Tryd.sizeOf9
  v9 := Tryd.zeroValue9
  t37 := Tryd.underlying45
  a37 := Tryd.isAgg45
  z37 := Tryd.sizeOf45
  v37 := Tryd.zeroValue45
  t70 := Tryd.underlying44
  a70 := Tryd.isAgg44
  z70 := Tryd.sizeOf44
  v70 := Tryd.zeroValue44
  t72 := Tryd.underlying47
  a72 := Tryd.isAgg47
  z72 := Tryd.sizeOf47
  v72 := Tryd.zeroValue47
  t127 := Tryd.underlying71
  a127 := Tryd.isAgg71
  z127 := Tryd.sizeOf71
  v127 := Tryd.zeroValue71 }
theorem Tryd.Builder_Extra_169 : Builder.Extra Tryd.prog Tryd.lays169_ren := {
  sizeBuilder := by kernel_rfl
  liesBuilder := by kernel_rfl
  t5 := Tryd.underlying5
  a5 := Tryd.isAgg5
  z5 := Tryd.sizeOf5
  v5 := Tryd.zeroValue5
  infoByte := by kernel_rfl
  cellsByte := by kernel_rfl
  sizeByte := by kernel_rfl
  neB5 := by decide }
def Tryd.laysM171_ren : Go.Shelf.Ren := ⟨fun | 171 => 21 | 243 => 38 | 246 => 59 | 283 => 65 | 284 => 66 | 285 => 67 | 286 => 68 | 129 => 72 | 317 => 71 | 318 => 73 | 319 => 74 | 320 => 75 | 337 => 76 | 338 => 77 | n => n, fun | 3 => 3 | 9 => 9 | 2 => 2 | 4 => 4 | 171 => 86 | 0 => 0 | 53 => 84 | 37 => 45 | 5 => 5 | 173 => 89 | 212 => 94 | 51 => 95 | 20 => 20 | 213 => 96 | 46 => 98 | 232 => 101 | 233 => 102 | n => n, fun | 17 => 0 | 18 => 2 | 19 => 3 | n => n⟩
theorem Tryd.laysM171 : Go.Proofs.LaysM.n171 Tryd.prog Tryd.laysM171_ren := {
  mixed := by kernel_rfl
  f129 := Tryd.func72.trans (congrArg some (by kernel_rfl))
  f171 := Tryd.func21.trans (congrArg some (by kernel_rfl))
  f243 := Tryd.func38.trans (congrArg some (by kernel_rfl))
  f246 := Tryd.func59.trans (congrArg some (by kernel_rfl))
  f283 := Tryd.func65.trans (congrArg some (by kernel_rfl))
  f284 := Tryd.func66.trans (congrArg some (by kernel_rfl))
  f285 := Tryd.func67.trans (congrArg some (by kernel_rfl))
  f286 := Tryd.func68.trans (congrArg some (by kernel_rfl))
  f317 := Tryd.func71.trans (congrArg some (by kernel_rfl))
  f318 := Tryd.func73.trans (congrArg some (by kernel_rfl))
  f319 := Tryd.func74.trans (congrArg some (by kernel_rfl))
  f320 := Tryd.func75.trans (congrArg some (by kernel_rfl))
  f337 := Tryd.func76.trans (congrArg some (by kernel_rfl))
  f338 := Tryd.func77.trans (congrArg some (by kernel_rfl))
  t0 := Tryd.underlying0
  a0 := Tryd.isAgg0
  z0 := Tryd.sizeOf0
  v0 := Tryd.zeroValue0
  t2 := Tryd.underlying2
  a2 := Tryd.isAgg2
  z2 := Tryd.sizeOf2
  v2 := Tryd.zeroValue2
  t3 := Tryd.underlying3
  a3 := Tryd.isAgg3
  z3 := Tryd.sizeOf3
  v3 := Tryd.zeroValue3
  t4 := Tryd.underlying4
  a4 := Tryd.isAgg4
  z4 := Tryd.sizeOf4
  v4 := Tryd.zeroValue4
  t5 := Tryd.underlying5
  a5 := Tryd.isAgg5
  z5 := Tryd.sizeOf5
  v5 := Tryd.zeroValue5
  t9 := Tryd.underlying9
  a9 := Tryd.isAgg9
  z9 := Tryd.sizeOf9
  v9 := Tryd.zeroValue9
  t20 := Tryd.underlying20
  a20 := Tryd.isAgg20
  z20 := Tryd.sizeOf20
  v20 := Tryd.zeroValue20
  t37 := Tryd.underlying45
  a37 := Tryd.isAgg45
  z37 := Tryd.sizeOf45
  v37 := Tryd.zeroValue45
  t46 := Tryd.underlying98
  a46 := Tryd.isAgg98
  z46 := Tryd.sizeOf98
  v46 := Tryd.zeroValue98
  t51 := Tryd.underlying95
  a51 := Tryd.isAgg95
  z51 := Tryd.sizeOf95
  v51 := Tryd.zeroValue95
  t53 := Tryd.underlying84
  a53 := Tryd.isAgg84
  z53 := Tryd.sizeOf84
  v53 := Tryd.zeroValue84
  t171 := Tryd.underlying86
  a171 := Tryd.isAgg86
  z171 := Tryd.sizeOf86
  v171 := Tryd.zeroValue86
  t173 := Tryd.underlying89
  a173 := Tryd.isAgg89
  z173 := Tryd.sizeOf89
  v173 := Tryd.zeroValue89
  t212 := Tryd.underlying94
  a212 := Tryd.isAgg94
  z212 := Tryd.sizeOf94
  v212 := Tryd.zeroValue94
  t213 := Tryd.underlying96
  a213 := Tryd.isAgg96
  z213 := Tryd.sizeOf96
  t232 := Tryd.underlying101
  a232 := Tryd.isAgg101
  z232 := Tryd.sizeOf101
  v232 := Tryd.zeroValue101
  t233 := Tryd.underlying102
  a233 := Tryd.isAgg102
  z233 := Tryd.sizeOf102
  v233 := Tryd.zeroValue102
  g17 := by kernel_rfl
  g18 := by kernel_rfl
  g19 := by kernel_rfl
  i0 := by kernel_rfl
  i2 := by kernel_rfl
  i3 := by kernel_rfl
  i4 := by kernel_rfl
  i5 := by kernel_rfl
  i9 := by kernel_rfl
  i20 := by kernel_rfl
  i37 := by kernel_rfl
  i46 := by kernel_rfl
  i51 := by kernel_rfl
  i53 := by kernel_rfl
  i171 := by kernel_rfl
  i173 := by kernel_rfl
  i212 := by kernel_rfl
  i232 := by kernel_rfl
  i233 := by kernel_rfl
  m17 := by kernel_rfl
  m18 := by kernel_rfl
  m19 := by kernel_rfl }
open Go.RowKit Go.Sort Go.Lib in
theorem Tryd.strconv_Itoa (n : Int) (h0 : -9223372036854775808 ≤ n) (h1 : n ≤ 9223372036854775807) (w : World) (htab : Lib.TabIs Tryd.prog w "internal/strconv.uint64pow10" .u64 Lib.pow10Tab) :
    Calls Tryd.prog 21 #[.int .i64 n] w fun e w' => e = .returned (.string ⟨(Lib.itoa n).toArray⟩) ∧ ∃ k os, w' = grow (w.drewN k) os := Any.strconv_Itoa Tryd.laysM171 n h0 h1 w htab
def Tryd.lays137_ren : Go.Shelf.Ren := ⟨fun | 137 => 52 | 217 => 63 | 266 => 69 | n => n, fun | 9 => 9 | 5 => 5 | 3 => 3 | n => n, fun | n => n⟩
theorem Tryd.lays137 : Go.Proofs.Lays.n137 Tryd.prog Tryd.lays137_ren := {
  mixed := by kernel_rfl
  f137 := Tryd.func52.trans (congrArg some (by kernel_rfl))
  f217 := Tryd.func63.trans (congrArg some (by kernel_rfl))
  f266 := Tryd.func69.trans (congrArg some (by kernel_rfl))
  t3 := Tryd.underlying3
  a3 := Tryd.isAgg3
  z3 := Tryd.sizeOf3
  v3 := Tryd.zeroValue3
  t5 := Tryd.underlying5
  a5 := Tryd.isAgg5
  z5 := Tryd.sizeOf5
  v5 := Tryd.zeroValue5
  t9 := Tryd.underlying9
  a9 := Tryd.isAgg9
  z9 := Tryd.sizeOf9
  v9 := Tryd.zeroValue9 }
open Go.RowKit in
theorem Tryd.strings_IndexByte (s : ByteArray) (c : Int) (w : World) :
    Calls Tryd.prog 52 #[.string s, .int .u8 c] w fun e w' => e = .returned (.int .i64 (Lib.indexByte s.data.toList c.toNat.toUInt8)) ∧ w' = w := Any.strings_IndexByte Tryd.lays137 s c w
end Go.Proofs
set_option linter.unusedVariables false
namespace Go.Proofs.YtiacdccnifjcjaaDoor.F
open Go.RowKit Go.Proofs.YtiacdccnifjcjaaDoor.Aid
def strings_IndexByte.f (a0 : ByteArray) (a1 : Int) : Option Int := some (Lib.indexByte a0.data.toList a1.toNat.toUInt8)
theorem strings_IndexByte.calls (a0 : ByteArray) (a1 : Int) (r : Int) (w : World) (h : strings_IndexByte.f a0 a1 = some r) :
    Calls Tryd.prog 52 #[.string a0, .int .u8 a1] w fun e w' => e = .returned (.int .i64 r) ∧ Below w.heap.size w w' := by
  obtain rfl := Option.some.inj h
  refine (Tryd.strings_IndexByte a0 a1 w).mono ?_
  rintro e w' ⟨rfl, rfl⟩
  exact ⟨rfl, Below.refl _ _⟩
end Go.Proofs.YtiacdccnifjcjaaDoor.F
namespace Go.Proofs.YtiacdccnifjcjaaDoor.F
open Go.RowKit Go.Proofs.YtiacdccnifjcjaaDoorW.PrintWords Go.Proofs.YtiacdccnifjcjaaDoorW.PrintLast Go.Proofs.YtiacdccnifjcjaaDoorW.PrintMore
attribute [local go_sem] max2_int min2_int max_two min_two max_three min_three max_four min_four
set_option linter.unusedVariables false
set_option linter.unusedSimpArgs false
def prompt_special.f (a0 : ByteArray) : Option (Bool) := if a0.toList = ([] : List UInt8) then (some false) else (if 0 < (a0.size : Int) then ((strings_IndexByte.f (⟨#[64, 42, 35, 63, 45, 36, 33]⟩ : ByteArray) (bt a0 0)).bind fun t119 => (some (decide (t119 ≥ 0)))) else (none))
set_option maxHeartbeats 8000000 in
set_option maxRecDepth 100000 in
theorem prompt_special.calls (a0 : ByteArray) (r : Bool) (w : World) (h : prompt_special.f a0 = some r) :
  Calls Tryd.prog 30 #[.string a0] w fun e w' => e = .returned (.bool r) ∧ Below w.heap.size w w' := by
 have HB := Aside0.mk (Below.refl w.heap.size w)
 have H : (if a0.toList = ([] : List UInt8) then (some false) else (if 0 < (a0.size : Int) then ((strings_IndexByte.f (⟨#[64, 42, 35, 63, 45, 36, 33]⟩ : ByteArray) (bt a0 0)).bind fun t119 => (some (decide (t119 ≥ 0)))) else (none))) = some r := h
 clear h
 by_cases c2 : a0.toList = ([] : List UInt8)
 ·rw [if_pos c2] at H
  have c2b0 : (a0.toList == ([] : List UInt8)) = true := beq_iff_eq.mpr c2
  have c2b1 : (a0.toList != ([] : List UInt8)) = false := bne_eq_false_iff_eq.mpr c2
  clear c2
  obtain rfl := Option.some.inj H
  go_enter Tryd.func30, Tryd.ntmps30
  go_wp2
  go_ret
  exact ⟨by first | rfl | (simp [errW_none, errW_some] <;> rfl) | (simp [*, errW_none, errW_some] <;> rfl), by repeat (first | (with_reducible first | exact HB.out | apply below_alloc | apply pw_below_drewN | apply below_drew1) | exact HB.out)⟩
 ·rw [if_neg c2] at H
  have c2b0 : (a0.toList == ([] : List UInt8)) = false := beq_eq_false_iff_ne.mpr c2
  have c2b1 : (a0.toList != ([] : List UInt8)) = true := bne_iff_ne.mpr c2
  by_cases c3 : 0 < (a0.size : Int)
  ·rw [if_pos c3] at H
   have c3b0 : decide (0 < (a0.size : Int)) = true := decide_eq_true c3
   have c3b1 : decide (0 < a0.size) = true := decide_eq_true (by omega)
   clear c3
   replace H := Option.bind_eq_some_iff.mp H
   obtain ⟨t119, A50, H⟩ := H
   replace H : (some (decide (t119 ≥ 0))) = some r := H
   have A5 := Aside0.mk A50
   clear A50
   obtain rfl := Option.some.inj H
   have p4 : 0 ≤ (0 : Int) := (by omega)
   have q4 : 0 < a0.size := (by have : (0 : Int) < (a0.size : Int) := of_decide_eq_true (by first | (with_reducible assumption) | assumption); omega)
   have hx4 : ∀ h : 0 < a0.size, ((a0[0]'h).toNat : Int) = bt a0 0 := bt_at a0 0
   clear p4
   have qi4 : (0 < (a0.size : Int)) = True := eq_true (of_decide_eq_true (by first | (with_reducible assumption) | assumption))
   replace q4 := eq_true q4
   go_enter Tryd.func30, Tryd.ntmps30
   go_wp2_with (first | (go_at_call 52; (with_reducible refine (strings_IndexByte.calls (⟨#[64, 42, 35, 63, 45, 36, 33]⟩ : ByteArray) (bt a0 0) t119 _ A5.out).mono ?_); rintro e w6 ⟨rfl, hb⟩; have n0_ := Aside0.mk (below_step (by repeat (first | (with_reducible first | exact HB.out | apply below_alloc | apply pw_below_drewN | apply below_drew1) | exact HB.out)) hb); clear HB; have HB := n0_; clear n0_; (try clear hb); (try clear hb2); (try clear hk); (try clear hi)))
   go_ret
   exact ⟨by first | rfl | (simp [errW_none, errW_some] <;> rfl) | (simp [*, errW_none, errW_some] <;> rfl), by repeat (first | (with_reducible first | exact HB.out | apply below_alloc | apply pw_below_drewN | apply below_drew1) | exact HB.out)⟩
  ·rw [if_neg c3] at H
   exact absurd H (by simp)
end Go.Proofs.YtiacdccnifjcjaaDoor.F
namespace Go.Proofs.YtiacdccnifjcjaaDoor.F
open Go.RowKit Go.Proofs.YtiacdccnifjcjaaDoorW.PrintWords Go.Proofs.YtiacdccnifjcjaaDoorW.PrintLast Go.Proofs.YtiacdccnifjcjaaDoorW.PrintMore
attribute [local go_sem] max2_int min2_int max_two min_two max_three min_three max_four min_four
set_option linter.unusedVariables false
set_option linter.unusedSimpArgs false
def prompt_word.f (a0 : Int) : Option (Bool) := if a0 = 95 then (some true) else (if a0 ≥ 48 then (if a0 ≤ 57 then (some true) else (if a0 ≥ 97 then (if a0 ≤ 122 then (some true) else (if a0 ≥ 65 then (some (decide (a0 ≤ 90))) else (some false))) else (if a0 ≥ 65 then (some (decide (a0 ≤ 90))) else (some false)))) else (if a0 ≥ 97 then (if a0 ≤ 122 then (some true) else (if a0 ≥ 65 then (some (decide (a0 ≤ 90))) else (some false))) else (if a0 ≥ 65 then (some (decide (a0 ≤ 90))) else (some false))))
set_option maxHeartbeats 8000000 in
set_option maxRecDepth 100000 in
theorem prompt_word.calls (a0 : Int) (r : Bool) (w : World) (h : prompt_word.f a0 = some r) :
  Calls Tryd.prog 53 #[.int .u8 a0] w fun e w' => e = .returned (.bool r) ∧ Drawn0 w w' := by
 have H : (if a0 = 95 then (some true) else (if a0 ≥ 48 then (if a0 ≤ 57 then (some true) else (if a0 ≥ 97 then (if a0 ≤ 122 then (some true) else (if a0 ≥ 65 then (some (decide (a0 ≤ 90))) else (some false))) else (if a0 ≥ 65 then (some (decide (a0 ≤ 90))) else (some false)))) else (if a0 ≥ 97 then (if a0 ≤ 122 then (some true) else (if a0 ≥ 65 then (some (decide (a0 ≤ 90))) else (some false))) else (if a0 ≥ 65 then (some (decide (a0 ≤ 90))) else (some false))))) = some r := h
 clear h
 by_cases c2 : a0 = 95
 ·rw [if_pos c2] at H
  have c2b0 : (a0 == 95) = true := beq_iff_eq.mpr c2
  have c2b1 : (a0 != 95) = false := bne_eq_false_iff_eq.mpr c2
  clear c2
  obtain rfl := Option.some.inj H
  go_enter Tryd.func53, Tryd.ntmps53
  go_wp2
  go_ret
  exact ⟨by first | rfl | (simp; done) | (simp [*]; done), by repeat (first | exact Drawn0.refl _ | apply Drawn0.step)⟩
 ·rw [if_neg c2] at H
  have c2b0 : (a0 == 95) = false := beq_eq_false_iff_ne.mpr c2
  have c2b1 : (a0 != 95) = true := bne_iff_ne.mpr c2
  by_cases c3 : a0 ≥ 48
  ·rw [if_pos c3] at H
   have c3b0 : decide (48 ≤ a0) = true := decide_eq_true c3
   clear c3
   by_cases c4 : a0 ≤ 57
   ·rw [if_pos c4] at H
    have c4b0 : decide (a0 ≤ 57) = true := decide_eq_true c4
    clear c4
    obtain rfl := Option.some.inj H
    go_enter Tryd.func53, Tryd.ntmps53
    go_wp2
    go_ret
    exact ⟨by first | rfl | (simp; done) | (simp [*]; done), by repeat (first | exact Drawn0.refl _ | apply Drawn0.step)⟩
   ·rw [if_neg c4] at H
    have c4b0 : decide (a0 ≤ 57) = false := decide_eq_false c4
    clear c4
    by_cases c5 : a0 ≥ 97
    ·rw [if_pos c5] at H
     have c5b0 : decide (97 ≤ a0) = true := decide_eq_true c5
     clear c5
     by_cases c6 : a0 ≤ 122
     ·rw [if_pos c6] at H
      have c6b0 : decide (a0 ≤ 122) = true := decide_eq_true c6
      clear c6
      obtain rfl := Option.some.inj H
      go_enter Tryd.func53, Tryd.ntmps53
      go_wp2
      go_ret
      exact ⟨by first | rfl | (simp; done) | (simp [*]; done), by repeat (first | exact Drawn0.refl _ | apply Drawn0.step)⟩
     ·rw [if_neg c6] at H
      have c6b0 : decide (a0 ≤ 122) = false := decide_eq_false c6
      clear c6
      by_cases c7 : a0 ≥ 65
      ·rw [if_pos c7] at H
       have c7b0 : decide (65 ≤ a0) = true := decide_eq_true c7
       clear c7
       obtain rfl := Option.some.inj H
       go_enter Tryd.func53, Tryd.ntmps53
       go_wp2
       go_ret
       exact ⟨by first | rfl | (simp; done) | (simp [*]; done), by repeat (first | exact Drawn0.refl _ | apply Drawn0.step)⟩
      ·rw [if_neg c7] at H
       have c7b0 : decide (65 ≤ a0) = false := decide_eq_false c7
       clear c7
       obtain rfl := Option.some.inj H
       go_enter Tryd.func53, Tryd.ntmps53
       go_wp2
       go_ret
       exact ⟨by first | rfl | (simp; done) | (simp [*]; done), by repeat (first | exact Drawn0.refl _ | apply Drawn0.step)⟩
    ·rw [if_neg c5] at H
     have c5b0 : decide (97 ≤ a0) = false := decide_eq_false c5
     clear c5
     by_cases c8 : a0 ≥ 65
     ·rw [if_pos c8] at H
      have c8b0 : decide (65 ≤ a0) = true := decide_eq_true c8
      clear c8
      obtain rfl := Option.some.inj H
      go_enter Tryd.func53, Tryd.ntmps53
      go_wp2
      go_ret
      exact ⟨by first | rfl | (simp; done) | (simp [*]; done), by repeat (first | exact Drawn0.refl _ | apply Drawn0.step)⟩
     ·rw [if_neg c8] at H
      have c8b0 : decide (65 ≤ a0) = false := decide_eq_false c8
      clear c8
      obtain rfl := Option.some.inj H
      go_enter Tryd.func53, Tryd.ntmps53
      go_wp2
      go_ret
      exact ⟨by first | rfl | (simp; done) | (simp [*]; done), by repeat (first | exact Drawn0.refl _ | apply Drawn0.step)⟩
  ·rw [if_neg c3] at H
   have c3b0 : decide (48 ≤ a0) = false := decide_eq_false c3
   clear c3
   by_cases c9 : a0 ≥ 97
   ·rw [if_pos c9] at H
    have c9b0 : decide (97 ≤ a0) = true := decide_eq_true c9
    clear c9
    by_cases c10 : a0 ≤ 122
    ·rw [if_pos c10] at H
     have c10b0 : decide (a0 ≤ 122) = true := decide_eq_true c10
     clear c10
     obtain rfl := Option.some.inj H
     go_enter Tryd.func53, Tryd.ntmps53
     go_wp2
     go_ret
     exact ⟨by first | rfl | (simp; done) | (simp [*]; done), by repeat (first | exact Drawn0.refl _ | apply Drawn0.step)⟩
    ·rw [if_neg c10] at H
     have c10b0 : decide (a0 ≤ 122) = false := decide_eq_false c10
     clear c10
     by_cases c11 : a0 ≥ 65
     ·rw [if_pos c11] at H
      have c11b0 : decide (65 ≤ a0) = true := decide_eq_true c11
      clear c11
      obtain rfl := Option.some.inj H
      go_enter Tryd.func53, Tryd.ntmps53
      go_wp2
      go_ret
      exact ⟨by first | rfl | (simp; done) | (simp [*]; done), by repeat (first | exact Drawn0.refl _ | apply Drawn0.step)⟩
     ·rw [if_neg c11] at H
      have c11b0 : decide (65 ≤ a0) = false := decide_eq_false c11
      clear c11
      obtain rfl := Option.some.inj H
      go_enter Tryd.func53, Tryd.ntmps53
      go_wp2
      go_ret
      exact ⟨by first | rfl | (simp; done) | (simp [*]; done), by repeat (first | exact Drawn0.refl _ | apply Drawn0.step)⟩
   ·rw [if_neg c9] at H
    have c9b0 : decide (97 ≤ a0) = false := decide_eq_false c9
    clear c9
    by_cases c12 : a0 ≥ 65
    ·rw [if_pos c12] at H
     have c12b0 : decide (65 ≤ a0) = true := decide_eq_true c12
     clear c12
     obtain rfl := Option.some.inj H
     go_enter Tryd.func53, Tryd.ntmps53
     go_wp2
     go_ret
     exact ⟨by first | rfl | (simp; done) | (simp [*]; done), by repeat (first | exact Drawn0.refl _ | apply Drawn0.step)⟩
    ·rw [if_neg c12] at H
     have c12b0 : decide (65 ≤ a0) = false := decide_eq_false c12
     clear c12
     obtain rfl := Option.some.inj H
     go_enter Tryd.func53, Tryd.ntmps53
     go_wp2
     go_ret
     exact ⟨by first | rfl | (simp; done) | (simp [*]; done), by repeat (first | exact Drawn0.refl _ | apply Drawn0.step)⟩
end Go.Proofs.YtiacdccnifjcjaaDoor.F
namespace Go.Proofs.YtiacdccnifjcjaaDoor.F
open Go.RowKit Go.Proofs.YtiacdccnifjcjaaDoorW.PrintWords Go.Proofs.YtiacdccnifjcjaaDoorW.PrintLast Go.Proofs.YtiacdccnifjcjaaDoorW.PrintMore
attribute [local go_sem] max2_int min2_int max_two min_two max_three min_three max_four min_four
set_option linter.unusedVariables false
set_option linter.unusedSimpArgs false
def prompt_run.l0 : Nat → ByteArray → Int → Option (ByteArray)
 | 0, _, _ => none
 | k + 1, x0, x3 => if x3 < (x0.size : Int) then (if 0 ≤ x3 then ((prompt_word.f (bt x0 x3)).bind fun t120 => (if t120 = true then (prompt_run.l0 k x0 (wrap64 (x3 + 1))) else (if x3 ≤ (x0.size : Int) then (some (x0.extract 0 (x3 : Int).toNat)) else (none)))) else (none)) else (if 0 ≤ x3 then (if x3 ≤ (x0.size : Int) then (some (x0.extract 0 (x3 : Int).toNat)) else (none)) else (none))
def prompt_run.f (k : Nat) (a0 : ByteArray) : Option (ByteArray) := prompt_run.l0 k a0 0
theorem prompt_run.mono_l : ∀ k, (∀ y0 y1, LeO (prompt_run.l0 k y0 y1) (prompt_run.l0 (k + 1) y0 y1))
 | 0 => fun _ _ r h => by simp [prompt_run.l0] at h
 | k + 1 => by
  have ih0 := prompt_run.mono_l k
  ·intro y0 y1
   unfold prompt_run.l0
   repeat' first
   | (with_reducible exact ih0 _ _)
   | (with_reducible exact LeO.refl _)
   | (with_reducible exact LeO.none _)
   | (with_reducible refine LeO.ite ?_ ?_)
   | (with_reducible refine LeO.bind ?_ (fun _ => ?_))
   | exact ih0 _ _
   | exact LeO.none _
   | refine LeO.ite ?_ ?_
   | refine LeO.bind ?_ (fun _ => ?_)
theorem prompt_run.mono : ∀ a0 k, LeO (prompt_run.f k a0) (prompt_run.f (k + 1) a0) := by
 intro a0 k
 have ih0 := prompt_run.mono_l k
 unfold prompt_run.f
 repeat' first
   | (with_reducible exact ih0 _ _)
   | (with_reducible exact LeO.refl _)
   | (with_reducible exact LeO.none _)
   | (with_reducible refine LeO.ite ?_ ?_)
   | (with_reducible refine LeO.bind ?_ (fun _ => ?_))
   | exact ih0 _ _
   | exact LeO.none _
   | refine LeO.ite ?_ ?_
   | refine LeO.bind ?_ (fun _ => ?_)
set_option maxHeartbeats 8000000 in
set_option maxRecDepth 100000 in
theorem prompt_run.calls (k : Nat) (a0 : ByteArray) (r : ByteArray) (w : World) (h : prompt_run.f k a0 = some r) :
  Calls Tryd.prog 31 #[.string a0] w fun e w' => e = .returned (.string r) ∧ Drawn0 w w' := by
 have H : (prompt_run.l0 k a0 0) = some r := h
 clear h
 have H' := Aside0.mk H
 clear H
 go_enter Tryd.func31, Tryd.ntmps31
 go_wp2
 go_loopg [3] k (fun kq v3 w' => ∃ (x3_1 : Int), v3 = .int .i64 x3_1 ∧ Aside0 (prompt_run.l0 kq a0 x3_1 = some r) ∧ Aside0 (kq ≤ k) ∧ Drawn0 w w')
 case atStart => exact ⟨(0), (by first | rfl | (simp; done) | (simp [*]; done) | (simp [isE_ne]; done)), H', ⟨Nat.le_refl _⟩, by repeat (first | exact Drawn0.refl _ | apply Drawn0.step)⟩
 case round =>
  clear H'
  obtain ⟨x3_1, rfl, HA, HK1, ⟨m1, rfl⟩⟩ := hrel
  cases gk with
  | zero => exact absurd HA.out (by simp [prompt_run.l0])
  | succ k1 =>
   have H := HA.out
   clear HA
   simp only [prompt_run.l0] at H
   by_cases c2 : x3_1 < (a0.size : Int)
   ·rw [if_pos c2] at H
    have c2b0 : decide (x3_1 < (a0.size : Int)) = true := decide_eq_true c2
    clear c2
    by_cases c3 : 0 ≤ x3_1
    ·rw [if_pos c3] at H
     have c3b0 : decide (0 ≤ x3_1) = true := decide_eq_true c3
     clear c3
     replace H := Option.bind_eq_some_iff.mp H
     obtain ⟨t120, A50, H⟩ := H
     replace H : (if t120 = true then (prompt_run.l0 k1 a0 (wrap64 (x3_1 + 1))) else (if x3_1 ≤ (a0.size : Int) then (some (a0.extract 0 (x3_1 : Int).toNat)) else (none))) = some r := H
     have A5 := Aside0.mk A50
     clear A50
     by_cases c6 : t120 = true
     ·subst c6
      have H1 : (prompt_run.l0 k1 a0 (wrap64 (x3_1 + 1))) = some r := by rw [if_pos rfl] at H; exact H
      clear H
      have H := H1
      clear H1
      have H' := Aside0.mk H
      clear H
      have p4 : 0 ≤ (x3_1 : Int) := of_decide_eq_true (by first | (with_reducible assumption) | assumption)
      have q4 : x3_1 < (a0.size : Int) := of_decide_eq_true (by first | (with_reducible assumption) | assumption)
      have hx4 := bt_at a0 x3_1
      replace p4 := eq_true p4
      replace q4 := eq_true q4
      go_wp2_with (first | (go_at_call 53; (with_reducible refine (prompt_word.calls (bt a0 x3_1) true _ A5.out).mono ?_); rintro e w' ⟨rfl, ⟨nd, rfl⟩⟩))
      go_roundg k1
      case measure => have := HK1.out; omega
      case rel => exact ⟨(wrap64 (x3_1 + 1)), (by first | rfl | (simp; done) | (simp [*]; done) | (simp [isE_ne]; done)), H', ⟨by have := HK1.out; omega⟩, by repeat (first | exact Drawn0.refl _ | apply Drawn0.step)⟩
     ·replace c6 := Bool.eq_false_iff.mpr c6
      subst c6
      have H1 : (if x3_1 ≤ (a0.size : Int) then (some (a0.extract 0 (x3_1 : Int).toNat)) else (none)) = some r := by rw [if_neg (show ¬ (false = true) by decide)] at H; exact H
      clear H
      have H := H1
      clear H1
      have c7b0 := eq_true (of_decide_eq_true (by first | (with_reducible assumption) | assumption) : 0 ≤ x3_1)
      by_cases c8 : x3_1 ≤ (a0.size : Int)
      ·rw [if_pos c8] at H
       have c8b0 := eq_true c8
       have c8b1 : decide (x3_1 ≤ (a0.size : Int)) = true := decide_eq_true c8
       clear c8
       obtain rfl := Option.some.inj H
       have p4 : 0 ≤ (x3_1 : Int) := of_decide_eq_true (by first | (with_reducible assumption) | assumption)
       have q4 : x3_1 < (a0.size : Int) := of_decide_eq_true (by first | (with_reducible assumption) | assumption)
       have hx4 := bt_at a0 x3_1
       replace p4 := eq_true p4
       replace q4 := eq_true q4
       go_wp2_with (first | (go_at_call 53; (with_reducible refine (prompt_word.calls (bt a0 x3_1) false _ A5.out).mono ?_); rintro e w' ⟨rfl, ⟨nd, rfl⟩⟩))
       go_ret
       exact ⟨by first | rfl | (simp; done) | (simp [*]; done), by repeat (first | exact Drawn0.refl _ | apply Drawn0.step)⟩
      ·rw [if_neg c8] at H
       exact absurd H (by simp)
    ·rw [if_neg c3] at H
     exact absurd H (by simp)
   ·rw [if_neg c2] at H
    have c2b0 : decide (x3_1 < (a0.size : Int)) = false := decide_eq_false c2
    clear c2
    by_cases c9 : 0 ≤ x3_1
    ·rw [if_pos c9] at H
     have c9b0 := eq_true c9
     have c9b1 : decide (0 ≤ x3_1) = true := decide_eq_true c9
     clear c9
     by_cases c10 : x3_1 ≤ (a0.size : Int)
     ·rw [if_pos c10] at H
      have c10b0 := eq_true c10
      have c10b1 : decide (x3_1 ≤ (a0.size : Int)) = true := decide_eq_true c10
      clear c10
      obtain rfl := Option.some.inj H
      go_wp2
      go_ret
      exact ⟨by first | rfl | (simp; done) | (simp [*]; done), by repeat (first | exact Drawn0.refl _ | apply Drawn0.step)⟩
     ·rw [if_neg c10] at H
      exact absurd H (by simp)
    ·rw [if_neg c9] at H
     exact absurd H (by simp)
end Go.Proofs.YtiacdccnifjcjaaDoor.F
namespace Go.Proofs.YtiacdccnifjcjaaDoor.F
open Go.RowKit Go.Proofs.YtiacdccnifjcjaaDoorW.PrintWords Go.Proofs.YtiacdccnifjcjaaDoorW.PrintLast Go.Proofs.YtiacdccnifjcjaaDoorW.PrintMore
attribute [local go_sem] max2_int min2_int max_two min_two max_three min_three max_four min_four
set_option linter.unusedVariables false
set_option linter.unusedSimpArgs false
def stringslite_HasPrefix.f (a0 : ByteArray) (a1 : ByteArray) : Option (Bool) := if (a0.size : Int) ≥ (a1.size : Int) then (if 0 ≤ (a1.size : Int) then (if (a1.size : Int) ≤ (a0.size : Int) then (some ((a0.extract 0 ((a1.size : Int) : Int).toNat).toList == a1.toList)) else (none)) else (none)) else (some false)
set_option maxHeartbeats 8000000 in
set_option maxRecDepth 100000 in
theorem stringslite_HasPrefix.calls (a0 : ByteArray) (a1 : ByteArray) (r : Bool) (w : World) (h : stringslite_HasPrefix.f a0 a1 = some r) :
  Calls Tryd.prog 54 #[.string a0, .string a1] w fun e w' => e = .returned (.bool r) ∧ Drawn0 w w' := by
 have H : (if (a0.size : Int) ≥ (a1.size : Int) then (if 0 ≤ (a1.size : Int) then (if (a1.size : Int) ≤ (a0.size : Int) then (some ((a0.extract 0 ((a1.size : Int) : Int).toNat).toList == a1.toList)) else (none)) else (none)) else (some false)) = some r := h
 clear h
 by_cases c3 : (a0.size : Int) ≥ (a1.size : Int)
 ·rw [if_pos c3] at H
  have c3b0 : decide ((a1.size : Int) ≤ (a0.size : Int)) = true := decide_eq_true c3
  have c3b1 : decide (a1.size ≤ a0.size) = true := decide_eq_true (Int.ofNat_le.mp c3)
  clear c3
  by_cases c4 : 0 ≤ (a1.size : Int)
  ·rw [if_pos c4] at H
   have c4b0 := eq_true c4
   have c4b1 : decide (0 ≤ (a1.size : Int)) = true := decide_eq_true c4
   clear c4
   by_cases c5 : (a1.size : Int) ≤ (a0.size : Int)
   ·rw [if_pos c5] at H
    have c5b0 := eq_true c5
    have c5b1 : decide ((a1.size : Int) ≤ (a0.size : Int)) = true := decide_eq_true c5
    clear c5
    obtain rfl := Option.some.inj H
    go_enter Tryd.func54, Tryd.ntmps54
    go_wp2
    go_ret
    exact ⟨by first | rfl | (simp; done) | (simp [*]; done), by repeat (first | exact Drawn0.refl _ | apply Drawn0.step)⟩
   ·rw [if_neg c5] at H
    exact absurd H (by simp)
  ·rw [if_neg c4] at H
   exact absurd H (by simp)
 ·rw [if_neg c3] at H
  have c3b0 : decide ((a1.size : Int) ≤ (a0.size : Int)) = false := decide_eq_false c3
  have c3b1 : decide (a1.size ≤ a0.size) = false := decide_eq_false (fun h => c3 (Int.ofNat_le.mpr h))
  clear c3
  obtain rfl := Option.some.inj H
  go_enter Tryd.func54, Tryd.ntmps54
  go_wp2
  go_ret
  exact ⟨by first | rfl | (simp; done) | (simp [*]; done), by repeat (first | exact Drawn0.refl _ | apply Drawn0.step)⟩
end Go.Proofs.YtiacdccnifjcjaaDoor.F
namespace Go.Proofs.YtiacdccnifjcjaaDoor.F
open Go.RowKit Go.Proofs.YtiacdccnifjcjaaDoorW.PrintWords Go.Proofs.YtiacdccnifjcjaaDoorW.PrintLast Go.Proofs.YtiacdccnifjcjaaDoorW.PrintMore
attribute [local go_sem] max2_int min2_int max_two min_two max_three min_three max_four min_four
set_option linter.unusedVariables false
set_option linter.unusedSimpArgs false
def strings_HasPrefix.f (a0 : ByteArray) (a1 : ByteArray) : Option (Bool) := (stringslite_HasPrefix.f a0 a1).bind fun t121 => (some t121)
set_option maxHeartbeats 8000000 in
set_option maxRecDepth 100000 in
theorem strings_HasPrefix.calls (a0 : ByteArray) (a1 : ByteArray) (r : Bool) (w : World) (h : strings_HasPrefix.f a0 a1 = some r) :
  Calls Tryd.prog 32 #[.string a0, .string a1] w fun e w' => e = .returned (.bool r) ∧ Drawn0 w w' := by
 have H : ((stringslite_HasPrefix.f a0 a1).bind fun t121 => (some t121)) = some r := h
 clear h
 replace H := Option.bind_eq_some_iff.mp H
 obtain ⟨t121, A30, H⟩ := H
 replace H : (some t121) = some r := H
 have A3 := Aside0.mk A30
 clear A30
 obtain rfl := Option.some.inj H
 go_enter Tryd.func32, Tryd.ntmps32
 go_wp2_with (first | ((with_reducible refine gate_callee (f := 54) rfl ?_); refine goesL_ (some 7) rfl rfl Tryd.func54 (by kernel_rfl) rfl #[.string a0, .string a1] rfl (by (try simp only [List.map_toArray, List.map_cons, List.map_nil]); first | done | rfl | (simp only [List.length_drop, List.length_take]; rfl)) ?_; (with_reducible refine (stringslite_HasPrefix.calls a0 a1 t121 _ A3.out).mono ?_); rintro e w' ⟨rfl, ⟨nd, rfl⟩⟩; refine ⟨_, rfl, ?_⟩))
 go_ret
 exact ⟨by first | rfl | (simp; done) | (simp [*]; done), by repeat (first | exact Drawn0.refl _ | apply Drawn0.step)⟩
end Go.Proofs.YtiacdccnifjcjaaDoor.F
namespace Go.Proofs.YtiacdccnifjcjaaDoor.F
open Go.RowKit Go.Proofs.YtiacdccnifjcjaaDoorW.PrintWords Go.Proofs.YtiacdccnifjcjaaDoorW.PrintLast Go.Proofs.YtiacdccnifjcjaaDoorW.PrintMore
attribute [local go_sem] max2_int min2_int max_two min_two max_three min_three max_four min_four
set_option linter.unusedVariables false
set_option linter.unusedSimpArgs false
mutual
def prompt_parameter.j0 : Nat → ByteArray → Bool → Option (ByteArray × Int)
 | 0, _, _ => none
 | k + 1, x0, x9 => if x9 = true then (prompt_parameter.j1 k x0 x9) else ((prompt_special.f x0).bind fun t122 => (prompt_parameter.j1 k x0 t122))
def prompt_parameter.j1 : Nat → ByteArray → Bool → Option (ByteArray × Int)
 | 0, _, _ => none
 | k + 1, x0, x9 => if x9 = true then (if 0 ≤ 1 then (if 1 ≤ (x0.size : Int) then (some (x0.extract 0 1, 1)) else (none)) else (none)) else (if 0 < (x0.size : Int) then (if (bt x0 0) = 123 then (if 1 ≤ (x0.size : Int) then ((prompt_run.f k (x0.extract 1 x0.size)).bind fun t123 => (if t123.toList = ([] : List UInt8) then ((prompt_special.f (x0.extract 1 x0.size)).bind fun t124 => (prompt_parameter.j2 k x0 t123 t124)) else (prompt_parameter.j2 k x0 t123 false))) else (none)) else ((prompt_run.f k x0).bind fun t126 => (some (t126, (t126.size : Int))))) else (none))
def prompt_parameter.j2 : Nat → ByteArray → ByteArray → Bool → Option (ByteArray × Int)
 | 0, _, _, _ => none
 | k + 1, x0, x4, x35 => if x35 = true then (if 1 ≤ 2 then (if 2 ≤ (x0.size : Int) then (prompt_parameter.j3 k x0 (x0.extract 1 2)) else (none)) else (none)) else (prompt_parameter.j3 k x0 x4)
def prompt_parameter.j3 : Nat → ByteArray → ByteArray → Option (ByteArray × Int)
 | 0, _, _ => none
 | k + 1, x0, x4 => if x4.toList = ([] : List UInt8) then (some ((⟨#[]⟩ : ByteArray), 0)) else (if 0 ≤ (wrap64 (1 + (x4.size : Int))) then (if (wrap64 (1 + (x4.size : Int))) ≤ (x0.size : Int) then ((strings_HasPrefix.f (x0.extract ((wrap64 (1 + (x4.size : Int))) : Int).toNat x0.size) (⟨#[125]⟩ : ByteArray)).bind fun t125 => (if t125 = true then (some (x4, wrap64 ((x4.size : Int) + 2))) else (some ((⟨#[]⟩ : ByteArray), 0)))) else (none)) else (none))
end
def prompt_parameter.f (k : Nat) (a0 : ByteArray) : Option (ByteArray × Int) := if a0.toList = ([] : List UInt8) then (some ((⟨#[]⟩ : ByteArray), 0)) else (if 0 < (a0.size : Int) then (if (bt a0 0) ≥ 48 then (prompt_parameter.j0 k a0 (decide ((bt a0 0) ≤ 57))) else (prompt_parameter.j0 k a0 false)) else (none))
theorem prompt_parameter.mono_l : ∀ k, (∀ y0 y1, LeO (prompt_parameter.j0 k y0 y1) (prompt_parameter.j0 (k + 1) y0 y1)) ∧ (∀ y0 y1, LeO (prompt_parameter.j1 k y0 y1) (prompt_parameter.j1 (k + 1) y0 y1)) ∧ (∀ y0 y1 y2, LeO (prompt_parameter.j2 k y0 y1 y2) (prompt_parameter.j2 (k + 1) y0 y1 y2)) ∧ (∀ y0 y1, LeO (prompt_parameter.j3 k y0 y1) (prompt_parameter.j3 (k + 1) y0 y1))
 | 0 => ⟨fun _ _ r h => by simp [prompt_parameter.j0] at h, fun _ _ r h => by simp [prompt_parameter.j1] at h, fun _ _ _ r h => by simp [prompt_parameter.j2] at h, fun _ _ r h => by simp [prompt_parameter.j3] at h⟩
 | k + 1 => by
  obtain ⟨ih0, ih1, ih2, ih3⟩ := prompt_parameter.mono_l k
  refine ⟨?_, ?_, ?_, ?_⟩
  ·intro y0 y1
   unfold prompt_parameter.j0
   repeat' first
   | (with_reducible exact ih0 _ _)
   | (with_reducible exact ih1 _ _)
   | (with_reducible exact ih2 _ _ _)
   | (with_reducible exact ih3 _ _)
   | (with_reducible exact prompt_run.mono _ _)
   | (with_reducible exact LeO.refl _)
   | (with_reducible exact LeO.none _)
   | (with_reducible refine LeO.ite ?_ ?_)
   | (with_reducible refine LeO.bind ?_ (fun _ => ?_))
   | exact ih0 _ _
   | exact ih1 _ _
   | exact ih2 _ _ _
   | exact ih3 _ _
   | exact prompt_run.mono _ _
   | exact LeO.none _
   | refine LeO.ite ?_ ?_
   | refine LeO.bind ?_ (fun _ => ?_)
  ·intro y0 y1
   unfold prompt_parameter.j1
   repeat' first
   | (with_reducible exact ih0 _ _)
   | (with_reducible exact ih1 _ _)
   | (with_reducible exact ih2 _ _ _)
   | (with_reducible exact ih3 _ _)
   | (with_reducible exact prompt_run.mono _ _)
   | (with_reducible exact LeO.refl _)
   | (with_reducible exact LeO.none _)
   | (with_reducible refine LeO.ite ?_ ?_)
   | (with_reducible refine LeO.bind ?_ (fun _ => ?_))
   | exact ih0 _ _
   | exact ih1 _ _
   | exact ih2 _ _ _
   | exact ih3 _ _
   | exact prompt_run.mono _ _
   | exact LeO.none _
   | refine LeO.ite ?_ ?_
   | refine LeO.bind ?_ (fun _ => ?_)
  ·intro y0 y1 y2
   unfold prompt_parameter.j2
   repeat' first
   | (with_reducible exact ih0 _ _)
   | (with_reducible exact ih1 _ _)
   | (with_reducible exact ih2 _ _ _)
   | (with_reducible exact ih3 _ _)
   | (with_reducible exact prompt_run.mono _ _)
   | (with_reducible exact LeO.refl _)
   | (with_reducible exact LeO.none _)
   | (with_reducible refine LeO.ite ?_ ?_)
   | (with_reducible refine LeO.bind ?_ (fun _ => ?_))
   | exact ih0 _ _
   | exact ih1 _ _
   | exact ih2 _ _ _
   | exact ih3 _ _
   | exact prompt_run.mono _ _
   | exact LeO.none _
   | refine LeO.ite ?_ ?_
   | refine LeO.bind ?_ (fun _ => ?_)
  ·intro y0 y1
   unfold prompt_parameter.j3
   repeat' first
   | (with_reducible exact ih0 _ _)
   | (with_reducible exact ih1 _ _)
   | (with_reducible exact ih2 _ _ _)
   | (with_reducible exact ih3 _ _)
   | (with_reducible exact prompt_run.mono _ _)
   | (with_reducible exact LeO.refl _)
   | (with_reducible exact LeO.none _)
   | (with_reducible refine LeO.ite ?_ ?_)
   | (with_reducible refine LeO.bind ?_ (fun _ => ?_))
   | exact ih0 _ _
   | exact ih1 _ _
   | exact ih2 _ _ _
   | exact ih3 _ _
   | exact prompt_run.mono _ _
   | exact LeO.none _
   | refine LeO.ite ?_ ?_
   | refine LeO.bind ?_ (fun _ => ?_)
theorem prompt_parameter.mono : ∀ a0 k, LeO (prompt_parameter.f k a0) (prompt_parameter.f (k + 1) a0) := by
 intro a0 k
 obtain ⟨ih0, ih1, ih2, ih3⟩ := prompt_parameter.mono_l k
 unfold prompt_parameter.f
 repeat' first
   | (with_reducible exact ih0 _ _)
   | (with_reducible exact ih1 _ _)
   | (with_reducible exact ih2 _ _ _)
   | (with_reducible exact ih3 _ _)
   | (with_reducible exact prompt_run.mono _ _)
   | (with_reducible exact LeO.refl _)
   | (with_reducible exact LeO.none _)
   | (with_reducible refine LeO.ite ?_ ?_)
   | (with_reducible refine LeO.bind ?_ (fun _ => ?_))
   | exact ih0 _ _
   | exact ih1 _ _
   | exact ih2 _ _ _
   | exact ih3 _ _
   | exact prompt_run.mono _ _
   | exact LeO.none _
   | refine LeO.ite ?_ ?_
   | refine LeO.bind ?_ (fun _ => ?_)
set_option maxHeartbeats 8000000 in
set_option maxRecDepth 100000 in
theorem prompt_parameter.calls (k : Nat) (a0 : ByteArray) (r1 : ByteArray) (r2 : Int) (w : World) (h : prompt_parameter.f k a0 = some (r1, r2)) :
  Calls Tryd.prog 19 #[.string a0] w fun e w' => e = .returned (.tuple #[.string r1, .int .i64 r2]) ∧ Below w.heap.size w w' := by
 have HB := Aside0.mk (Below.refl w.heap.size w)
 have H : (if a0.toList = ([] : List UInt8) then (some ((⟨#[]⟩ : ByteArray), 0)) else (if 0 < (a0.size : Int) then (if (bt a0 0) ≥ 48 then (prompt_parameter.j0 k a0 (decide ((bt a0 0) ≤ 57))) else (prompt_parameter.j0 k a0 false)) else (none))) = some (r1, r2) := h
 clear h
 by_cases c2 : a0.toList = ([] : List UInt8)
 ·rw [if_pos c2] at H
  have c2b0 : (a0.toList == ([] : List UInt8)) = true := beq_iff_eq.mpr c2
  have c2b1 : (a0.toList != ([] : List UInt8)) = false := bne_eq_false_iff_eq.mpr c2
  clear c2
  simp only [Option.some.injEq, Prod.mk.injEq] at H
  obtain ⟨rfl, rfl⟩ := H
  go_enter Tryd.func19, Tryd.ntmps19
  go_wp2
  go_ret2
  exact ⟨by first | rfl | (simp [errW_none, errW_some] <;> rfl) | (simp [*, errW_none, errW_some] <;> rfl), by repeat (first | (with_reducible first | exact HB.out | apply below_alloc | apply pw_below_drewN | apply below_drew1) | exact HB.out)⟩
 ·rw [if_neg c2] at H
  have c2b0 : (a0.toList == ([] : List UInt8)) = false := beq_eq_false_iff_ne.mpr c2
  have c2b1 : (a0.toList != ([] : List UInt8)) = true := bne_iff_ne.mpr c2
  have HC3 := Aside0.mk H
  clear H
  go_enter Tryd.func19, Tryd.ntmps19
  go_upto_region 3 with (fail)
  go_cut [9] (fun v9 wc => ∃ (kq : Nat) (x9_2 : Bool), v9 = .bool x9_2 ∧ Aside0 (prompt_parameter.j0 kq a0 x9_2 = some (r1, r2)) ∧ Aside0 (kq ≤ k) ∧ Aside0 (Below w.heap.size w wc))
  case first =>
   have H := HC3.out
   clear HC3
   by_cases c4 : 0 < (a0.size : Int)
   ·rw [if_pos c4] at H
    have c4b0 : decide (0 < (a0.size : Int)) = true := decide_eq_true c4
    have c4b1 : decide (0 < a0.size) = true := decide_eq_true (by omega)
    clear c4
    (first | rw [c4b0] | (simp only [i64_w, i32_w]; rw [c4b0]) | skip)
    by_cases c6 : (bt a0 0) ≥ 48
    ·rw [if_pos c6] at H
     have c6b0 : decide (48 ≤ (bt a0 0)) = true := decide_eq_true c6
     clear c6
     have H' := Aside0.mk H
     clear H
     have p5 : 0 ≤ (0 : Int) := (by omega)
     have q5 : 0 < a0.size := (by have : (0 : Int) < (a0.size : Int) := of_decide_eq_true (by first | (with_reducible assumption) | assumption); omega)
     have hx5 : ∀ h : 0 < a0.size, ((a0[0]'h).toNat : Int) = bt a0 0 := bt_at a0 0
     clear p5
     have qi5 : (0 < (a0.size : Int)) = True := eq_true (of_decide_eq_true (by first | (with_reducible assumption) | assumption))
     replace q5 := eq_true q5
     have p7 : 0 ≤ (0 : Int) := (by omega)
     have q7 : 0 < a0.size := (by have : (0 : Int) < (a0.size : Int) := of_decide_eq_true (by first | (with_reducible assumption) | assumption); omega)
     have hx7 : ∀ h : 0 < a0.size, ((a0[0]'h).toNat : Int) = bt a0 0 := bt_at a0 0
     clear p7
     have qi7 : (0 < (a0.size : Int)) = True := eq_true (of_decide_eq_true (by first | (with_reducible assumption) | assumption))
     replace q7 := eq_true q7
     go_wp2
     go_meet
     case rel => exact ⟨_, (decide ((bt a0 0) ≤ 57)), (by first | rfl | (simp; done) | (simp [*]; done) | (simp [isE_ne]; done)), H', ⟨by first | omega | exact Nat.le_refl _⟩, ⟨by repeat (first | (with_reducible first | exact HB.out | apply below_alloc | apply pw_below_drewN | apply below_drew1) | exact HB.out)⟩⟩
    ·rw [if_neg c6] at H
     have c6b0 : decide (48 ≤ (bt a0 0)) = false := decide_eq_false c6
     clear c6
     have H' := Aside0.mk H
     clear H
     have p5 : 0 ≤ (0 : Int) := (by omega)
     have q5 : 0 < a0.size := (by have : (0 : Int) < (a0.size : Int) := of_decide_eq_true (by first | (with_reducible assumption) | assumption); omega)
     have hx5 : ∀ h : 0 < a0.size, ((a0[0]'h).toNat : Int) = bt a0 0 := bt_at a0 0
     clear p5
     have qi5 : (0 < (a0.size : Int)) = True := eq_true (of_decide_eq_true (by first | (with_reducible assumption) | assumption))
     replace q5 := eq_true q5
     go_wp2
     go_meet
     case rel => exact ⟨_, (false), (by first | rfl | (simp; done) | (simp [*]; done) | (simp [isE_ne]; done)), H', ⟨by first | omega | exact Nat.le_refl _⟩, ⟨by repeat (first | (with_reducible first | exact HB.out | apply below_alloc | apply pw_below_drewN | apply below_drew1) | exact HB.out)⟩⟩
   ·rw [if_neg c4] at H
    exact absurd H (by simp)
  case rest =>
   clear HC3
   try clear c1
   try clear c2
   try clear c2b0
   try clear c2b1
   try clear p2
   try clear c4
   try clear c4b0
   try clear c4b1
   try clear p5
   try clear q5
   try clear hx5
   try clear qi5
   try clear c6
   try clear c6b0
   try clear p7
   try clear q7
   try clear hx7
   try clear qi7
   try clear p5
   try clear p7
   try clear q5
   try clear q7
   obtain ⟨kq, x9_2, rfl, HA, HJ2, HB⟩ := hcut
   cases kq with
   | zero => exact absurd HA.out (by simp [prompt_parameter.j0])
   | succ kj2 =>
    have H := HA.out
    clear HA
    simp only [prompt_parameter.j0] at H
    have HC8 := Aside0.mk H
    clear H
    go_upto_if 9 with (fail)
    go_cut [9] (fun v9 wc => ∃ (kq : Nat) (x9_7 : Bool), v9 = .bool x9_7 ∧ Aside0 (prompt_parameter.j1 kq a0 x9_7 = some (r1, r2)) ∧ Aside0 (kq ≤ kj2) ∧ Aside0 (Below w.heap.size w wc))
    case first =>
     have H := HC8.out
     clear HC8
     by_cases c9 : x9_2 = true
     ·subst c9
      have H1 : (prompt_parameter.j1 kj2 a0 true) = some (r1, r2) := by rw [if_pos rfl] at H; exact H
      clear H
      have H := H1
      clear H1
      have H' := Aside0.mk H
      clear H
      go_wp2
      go_meet
      case rel => exact ⟨_, (true), (by first | rfl | (simp; done) | (simp [*]; done) | (simp [isE_ne]; done)), H', ⟨by have := HJ2.out; first | omega | exact Nat.le_refl _⟩, ⟨by repeat (first | (with_reducible first | exact HB.out | apply below_alloc | apply pw_below_drewN | apply below_drew1) | exact HB.out)⟩⟩
     ·replace c9 := Bool.eq_false_iff.mpr c9
      subst c9
      have H1 : ((prompt_special.f a0).bind fun t122 => (prompt_parameter.j1 kj2 a0 t122)) = some (r1, r2) := by rw [if_neg (show ¬ (false = true) by decide)] at H; exact H
      clear H
      have H := H1
      clear H1
      replace H := Option.bind_eq_some_iff.mp H
      obtain ⟨t122, A100, H⟩ := H
      replace H : (prompt_parameter.j1 kj2 a0 t122) = some (r1, r2) := H
      have A10 := Aside0.mk A100
      clear A100
      have H' := Aside0.mk H
      clear H
      go_wp2_with (first | ((with_reducible refine gate_callee (f := 30) rfl ?_); refine goesL_ (some 19) rfl rfl Tryd.func30 (by kernel_rfl) rfl #[.string a0] rfl (by (try simp only [List.map_toArray, List.map_cons, List.map_nil]); first | done | rfl | (simp only [List.length_drop, List.length_take]; rfl)) ?_; (with_reducible refine (prompt_special.calls a0 t122 _ A10.out).mono ?_); rintro e w11 ⟨rfl, hb⟩; refine ⟨_, rfl, ?_⟩; have n0_ := Aside0.mk (below_step (by repeat (first | (with_reducible first | exact HB.out | apply below_alloc | apply pw_below_drewN | apply below_drew1) | exact HB.out)) hb); clear HB; have HB := n0_; clear n0_; (try clear hb); (try clear hb2); (try clear hk); (try clear hi)))
      go_meet
      case rel => exact ⟨_, (t122), (by first | rfl | (simp; done) | (simp [*]; done) | (simp [isE_ne]; done)), H', ⟨by have := HJ2.out; first | omega | exact Nat.le_refl _⟩, ⟨by repeat (first | (with_reducible first | exact HB.out | apply below_alloc | apply pw_below_drewN | apply below_drew1) | exact HB.out)⟩⟩
    case rest =>
     clear HC8
     try clear c1
     try clear c2
     try clear c2b0
     try clear c2b1
     try clear p2
     try clear c3
     try clear c4
     try clear c4b0
     try clear c4b1
     try clear p5
     try clear q5
     try clear hx5
     try clear qi5
     try clear c6
     try clear c6b0
     try clear p7
     try clear q7
     try clear hx7
     try clear qi7
     try clear c9
     try clear p2
     try clear p5
     try clear p7
     try clear q5
     try clear q7
     obtain ⟨kq, x9_7, rfl, HA, HJ7, HB⟩ := hcut
     cases kq with
     | zero => exact absurd HA.out (by simp [prompt_parameter.j1])
     | succ kj7 =>
      have H := HA.out
      clear HA
      simp only [prompt_parameter.j1] at H
      by_cases c12 : x9_7 = true
      ·subst c12
       have H1 : (if 0 ≤ 1 then (if 1 ≤ (a0.size : Int) then (some (a0.extract 0 1, 1)) else (none)) else (none)) = some (r1, r2) := by rw [if_pos rfl] at H; exact H
       clear H
       have H := H1
       clear H1
       by_cases c13 : 0 ≤ 1
       ·rw [if_pos c13] at H
        have c13b0 := eq_true c13
        have c13b1 : decide (0 ≤ 1) = true := decide_eq_true c13
        clear c13
        by_cases c14 : 1 ≤ (a0.size : Int)
        ·rw [if_pos c14] at H
         have c14b0 := eq_true c14
         have c14b1 : decide (1 ≤ (a0.size : Int)) = true := decide_eq_true c14
         clear c14
         simp only [Option.some.injEq, Prod.mk.injEq] at H
         obtain ⟨rfl, rfl⟩ := H
         go_wp2
         go_ret2
         exact ⟨by first | rfl | (simp [errW_none, errW_some] <;> rfl) | (simp [*, errW_none, errW_some] <;> rfl), by repeat (first | (with_reducible first | exact HB.out | apply below_alloc | apply pw_below_drewN | apply below_drew1) | exact HB.out)⟩
        ·rw [if_neg c14] at H
         exact absurd H (by simp)
       ·rw [if_neg c13] at H
        exact absurd H (by simp)
      ·replace c12 := Bool.eq_false_iff.mpr c12
       subst c12
       have H1 : (if 0 < (a0.size : Int) then (if (bt a0 0) = 123 then (if 1 ≤ (a0.size : Int) then ((prompt_run.f kj7 (a0.extract 1 a0.size)).bind fun t123 => (if t123.toList = ([] : List UInt8) then ((prompt_special.f (a0.extract 1 a0.size)).bind fun t124 => (prompt_parameter.j2 kj7 a0 t123 t124)) else (prompt_parameter.j2 kj7 a0 t123 false))) else (none)) else ((prompt_run.f kj7 a0).bind fun t126 => (some (t126, (t126.size : Int))))) else (none)) = some (r1, r2) := by rw [if_neg (show ¬ (false = true) by decide)] at H; exact H
       clear H
       have H := H1
       clear H1
       by_cases c15 : 0 < (a0.size : Int)
       ·rw [if_pos c15] at H
        have c15b0 : decide (0 < (a0.size : Int)) = true := decide_eq_true c15
        have c15b1 : decide (0 < a0.size) = true := decide_eq_true (by omega)
        clear c15
        by_cases c17 : (bt a0 0) = 123
        ·rw [if_pos c17] at H
         have c17b0 : ((bt a0 0) == 123) = true := beq_iff_eq.mpr c17
         have c17b1 : ((bt a0 0) != 123) = false := bne_eq_false_iff_eq.mpr c17
         clear c17
         by_cases c18 : 1 ≤ (a0.size : Int)
         ·rw [if_pos c18] at H
          have c18b0 := eq_true c18
          have c18b1 : decide (1 ≤ (a0.size : Int)) = true := decide_eq_true c18
          clear c18
          replace H := Option.bind_eq_some_iff.mp H
          obtain ⟨t123, A190, H⟩ := H
          replace H : (if t123.toList = ([] : List UInt8) then ((prompt_special.f (a0.extract 1 a0.size)).bind fun t124 => (prompt_parameter.j2 kj7 a0 t123 t124)) else (prompt_parameter.j2 kj7 a0 t123 false)) = some (r1, r2) := H
          have A19 := Aside0.mk A190
          clear A190
          have HC20 := Aside0.mk H
          clear H
          have p16 : 0 ≤ (0 : Int) := (by omega)
          have q16 : 0 < a0.size := (by have : (0 : Int) < (a0.size : Int) := of_decide_eq_true (by first | (with_reducible assumption) | assumption); omega)
          have hx16 : ∀ h : 0 < a0.size, ((a0[0]'h).toNat : Int) = bt a0 0 := bt_at a0 0
          clear p16
          have qi16 : (0 < (a0.size : Int)) = True := eq_true (of_decide_eq_true (by first | (with_reducible assumption) | assumption))
          replace q16 := eq_true q16
          go_upto_region 8 with (first | ((with_reducible refine gate_callee (f := 31) rfl ?_); refine goesL_ (some 28) rfl rfl Tryd.func31 (by kernel_rfl) rfl #[.string (a0.extract 1 a0.size)] rfl (by (try simp only [List.map_toArray, List.map_cons, List.map_nil]); first | done | rfl | (simp only [List.length_drop, List.length_take]; rfl)) ?_; (with_reducible refine (prompt_run.calls kj7 (a0.extract 1 a0.size) t123 _ A19.out).mono ?_); rintro e w' ⟨rfl, ⟨nd, rfl⟩⟩; refine ⟨_, rfl, ?_⟩))
          (try simp only [Act.put, List.setIfInBounds_toArray, List.set_cons_zero, List.set_cons_succ])
          go_cut [35] (fun v35 wc => ∃ (kq : Nat) (x35_19 : Bool), v35 = .bool x35_19 ∧ Aside0 (prompt_parameter.j2 kq a0 t123 x35_19 = some (r1, r2)) ∧ Aside0 (kq ≤ kj7) ∧ Aside0 (Below w.heap.size w wc))
          case first =>
           have H := HC20.out
           clear HC20
           by_cases c21 : t123.toList = ([] : List UInt8)
           ·rw [if_pos c21] at H
            have c21b0 : (t123.toList == ([] : List UInt8)) = true := beq_iff_eq.mpr c21
            have c21b1 : (t123.toList != ([] : List UInt8)) = false := bne_eq_false_iff_eq.mpr c21
            clear c21
            (first | rw [c21b0] | (simp only [i64_w, i32_w]; rw [c21b0]) | skip)
            have c22b0 := eq_true (of_decide_eq_true (by first | (with_reducible assumption) | assumption) : 1 ≤ (a0.size : Int))
            replace H := Option.bind_eq_some_iff.mp H
            obtain ⟨t124, A230, H⟩ := H
            replace H : (prompt_parameter.j2 kj7 a0 t123 t124) = some (r1, r2) := H
            have A23 := Aside0.mk A230
            clear A230
            have H' := Aside0.mk H
            clear H
            go_wp2_with (first | (go_at_call 30; (with_reducible refine (prompt_special.calls (a0.extract 1 a0.size) t124 _ A23.out).mono ?_); rintro e w24 ⟨rfl, hb⟩; have n0_ := Aside0.mk (below_step (by repeat (first | (with_reducible first | exact HB.out | apply below_alloc | apply pw_below_drewN | apply below_drew1) | exact HB.out)) hb); clear HB; have HB := n0_; clear n0_; (try clear hb); (try clear hb2); (try clear hk); (try clear hi)))
            go_meet
            case rel => exact ⟨_, (t124), (by first | rfl | (simp; done) | (simp [*]; done) | (simp [isE_ne]; done)), H', ⟨by have := HJ2.out; have := HJ7.out; first | omega | exact Nat.le_refl _⟩, ⟨by repeat (first | (with_reducible first | exact HB.out | apply below_alloc | apply pw_below_drewN | apply below_drew1) | exact HB.out)⟩⟩
           ·rw [if_neg c21] at H
            have c21b0 : (t123.toList == ([] : List UInt8)) = false := beq_eq_false_iff_ne.mpr c21
            have c21b1 : (t123.toList != ([] : List UInt8)) = true := bne_iff_ne.mpr c21
            (first | rw [c21b0] | (simp only [i64_w, i32_w]; rw [c21b0]) | skip)
            have H' := Aside0.mk H
            clear H
            go_wp2
            go_meet
            case rel => exact ⟨_, (false), (by first | rfl | (simp; done) | (simp [*]; done) | (simp [isE_ne]; done)), H', ⟨by have := HJ2.out; have := HJ7.out; first | omega | exact Nat.le_refl _⟩, ⟨by repeat (first | (with_reducible first | exact HB.out | apply below_alloc | apply pw_below_drewN | apply below_drew1) | exact HB.out)⟩⟩
          case rest =>
           clear HC20
           try clear c1
           try clear p1
           try clear q1
           try clear hx1
           try clear qi1
           try clear c2
           try clear c2b0
           try clear c2b1
           try clear p2
           try clear c3
           try clear c4
           try clear c4b0
           try clear c4b1
           try clear p5
           try clear q5
           try clear hx5
           try clear qi5
           try clear c6
           try clear c6b0
           try clear p7
           try clear q7
           try clear hx7
           try clear qi7
           try clear c9
           try clear c12
           try clear c13
           try clear c13b0
           try clear c13b1
           try clear c14
           try clear c14b0
           try clear c14b1
           try clear c15
           try clear c15b0
           try clear c15b1
           try clear p16
           try clear q16
           try clear hx16
           try clear qi16
           try clear c17
           try clear c17b0
           try clear c17b1
           try clear c18
           try clear c18b0
           try clear c18b1
           try clear c19
           try clear c21
           try clear c21b0
           try clear c21b1
           try clear c22
           try clear c22b0
           try clear p16
           try clear p2
           try clear p5
           try clear p7
           try clear q16
           try clear q5
           try clear q7
           obtain ⟨kq, x35_19, rfl, HA, HJ19, HB⟩ := hcut
           cases kq with
           | zero => exact absurd HA.out (by simp [prompt_parameter.j2])
           | succ kj19 =>
            have H := HA.out
            clear HA
            simp only [prompt_parameter.j2] at H
            have HC25 := Aside0.mk H
            clear H
            go_upto_if 35 with (fail)
            go_cut [4] (fun v4 wc => ∃ (kq : Nat) (x4_24 : ByteArray), v4 = .string x4_24 ∧ Aside0 (prompt_parameter.j3 kq a0 x4_24 = some (r1, r2)) ∧ Aside0 (kq ≤ kj19) ∧ Aside0 (Below w.heap.size w wc))
            case first =>
             have H := HC25.out
             clear HC25
             by_cases c26 : x35_19 = true
             ·subst c26
              have H1 : (if 1 ≤ 2 then (if 2 ≤ (a0.size : Int) then (prompt_parameter.j3 kj19 a0 (a0.extract 1 2)) else (none)) else (none)) = some (r1, r2) := by rw [if_pos rfl] at H; exact H
              clear H
              have H := H1
              clear H1
              by_cases c27 : 1 ≤ 2
              ·rw [if_pos c27] at H
               have c27b0 := eq_true c27
               have c27b1 : decide (1 ≤ 2) = true := decide_eq_true c27
               clear c27
               by_cases c28 : 2 ≤ (a0.size : Int)
               ·rw [if_pos c28] at H
                have c28b0 := eq_true c28
                have c28b1 : decide (2 ≤ (a0.size : Int)) = true := decide_eq_true c28
                clear c28
                have H' := Aside0.mk H
                clear H
                go_wp2
                go_meet
                case rel => exact ⟨_, (a0.extract 1 2), (by first | rfl | (simp; done) | (simp [*]; done) | (simp [isE_ne]; done)), H', ⟨by have := HJ2.out; have := HJ7.out; have := HJ19.out; first | omega | exact Nat.le_refl _⟩, ⟨by repeat (first | (with_reducible first | exact HB.out | apply below_alloc | apply pw_below_drewN | apply below_drew1) | exact HB.out)⟩⟩
               ·rw [if_neg c28] at H
                exact absurd H (by simp)
              ·rw [if_neg c27] at H
               exact absurd H (by simp)
             ·replace c26 := Bool.eq_false_iff.mpr c26
              subst c26
              have H1 : (prompt_parameter.j3 kj19 a0 t123) = some (r1, r2) := by rw [if_neg (show ¬ (false = true) by decide)] at H; exact H
              clear H
              have H := H1
              clear H1
              have H' := Aside0.mk H
              clear H
              go_wp2
              go_meet
              case rel => exact ⟨_, (t123), (by first | rfl | (simp; done) | (simp [*]; done) | (simp [isE_ne]; done)), H', ⟨by have := HJ2.out; have := HJ7.out; have := HJ19.out; first | omega | exact Nat.le_refl _⟩, ⟨by repeat (first | (with_reducible first | exact HB.out | apply below_alloc | apply pw_below_drewN | apply below_drew1) | exact HB.out)⟩⟩
            case rest =>
             clear HC25
             try clear c1
             try clear p1
             try clear q1
             try clear hx1
             try clear qi1
             try clear c2
             try clear c2b0
             try clear c2b1
             try clear p2
             try clear c3
             try clear c4
             try clear c4b0
             try clear c4b1
             try clear p5
             try clear q5
             try clear hx5
             try clear qi5
             try clear c6
             try clear c6b0
             try clear p7
             try clear q7
             try clear hx7
             try clear qi7
             try clear c9
             try clear c12
             try clear c13
             try clear c13b0
             try clear c13b1
             try clear c14
             try clear c14b0
             try clear c14b1
             try clear c15
             try clear c15b0
             try clear c15b1
             try clear p16
             try clear q16
             try clear hx16
             try clear qi16
             try clear c17
             try clear c17b0
             try clear c17b1
             try clear c18
             try clear c18b0
             try clear c18b1
             try clear c19
             try clear c21
             try clear c21b0
             try clear c21b1
             try clear c22
             try clear c22b0
             try clear c26
             try clear c27
             try clear c27b0
             try clear c27b1
             try clear c28
             try clear c28b0
             try clear c28b1
             try clear p1
             try clear p16
             try clear p2
             try clear p5
             try clear p7
             try clear q1
             try clear q16
             try clear q5
             try clear q7
             obtain ⟨kq, x4_24, rfl, HA, HJ24, HB⟩ := hcut
             cases kq with
             | zero => exact absurd HA.out (by simp [prompt_parameter.j3])
             | succ kj24 =>
              have H := HA.out
              clear HA
              simp only [prompt_parameter.j3] at H
              by_cases c29 : x4_24.toList = ([] : List UInt8)
              ·rw [if_pos c29] at H
               have c29b0 : (x4_24.toList == ([] : List UInt8)) = true := beq_iff_eq.mpr c29
               have c29b1 : (x4_24.toList != ([] : List UInt8)) = false := bne_eq_false_iff_eq.mpr c29
               clear c29
               simp only [Option.some.injEq, Prod.mk.injEq] at H
               obtain ⟨rfl, rfl⟩ := H
               go_wp2
               go_ret2
               exact ⟨by first | rfl | (simp [errW_none, errW_some] <;> rfl) | (simp [*, errW_none, errW_some] <;> rfl), by repeat (first | (with_reducible first | exact HB.out | apply below_alloc | apply pw_below_drewN | apply below_drew1) | exact HB.out)⟩
              ·rw [if_neg c29] at H
               have c29b0 : (x4_24.toList == ([] : List UInt8)) = false := beq_eq_false_iff_ne.mpr c29
               have c29b1 : (x4_24.toList != ([] : List UInt8)) = true := bne_iff_ne.mpr c29
               obtain ⟨ji30, hji30⟩ : ∃ j_ : Int, (wrap64 (1 + (x4_24.size : Int))) = j_ := ⟨_, rfl⟩
               replace H : (if 0 ≤ (ji30) then (if (ji30) ≤ (a0.size : Int) then ((strings_HasPrefix.f (a0.extract ((ji30) : Int).toNat a0.size) (⟨#[125]⟩ : ByteArray)).bind fun t125 => (if t125 = true then (some (x4_24, wrap64 ((x4_24.size : Int) + 2))) else (some ((⟨#[]⟩ : ByteArray), 0)))) else (none)) else (none)) = some (r1, r2) := by first | (rw [hji30] at H; exact H) | (simp only [hji30] at H ⊢; exact H)
               have hji30w : (IntKind.i64.wrap (1 + (x4_24.size : Int))) = ji30 := (i64_w _).trans hji30
               by_cases c31 : 0 ≤ (ji30)
               ·rw [if_pos c31] at H
                have c31b0 := eq_true c31
                have c31b1 : decide (0 ≤ (ji30)) = true := decide_eq_true c31
                clear c31
                by_cases c32 : (ji30) ≤ (a0.size : Int)
                ·rw [if_pos c32] at H
                 have c32b0 := eq_true c32
                 have c32b1 : decide ((ji30) ≤ (a0.size : Int)) = true := decide_eq_true c32
                 clear c32
                 replace H := Option.bind_eq_some_iff.mp H
                 obtain ⟨t125, A330, H⟩ := H
                 replace H : (if t125 = true then (some (x4_24, wrap64 ((x4_24.size : Int) + 2))) else (some ((⟨#[]⟩ : ByteArray), 0))) = some (r1, r2) := H
                 have A33 := Aside0.mk A330
                 clear A330
                 by_cases c34 : t125 = true
                 ·subst c34
                  have H1 : (some (x4_24, wrap64 ((x4_24.size : Int) + 2))) = some (r1, r2) := by rw [if_pos rfl] at H; exact H
                  clear H
                  have H := H1
                  clear H1
                  simp only [Option.some.injEq, Prod.mk.injEq] at H
                  obtain ⟨rfl, rfl⟩ := H
                  go_wp2_with (first | (go_at_call 32; (with_reducible refine (strings_HasPrefix.calls (a0.extract ((ji30) : Int).toNat a0.size) (⟨#[125]⟩ : ByteArray) true _ A33.out).mono ?_); rintro e w' ⟨rfl, ⟨nd, rfl⟩⟩))
                  go_ret2
                  exact ⟨by first | rfl | (simp [errW_none, errW_some] <;> rfl) | (simp only [← hji30]; first | rfl | (simp [errW_none, errW_some] <;> rfl)) | (simp [*, errW_none, errW_some] <;> rfl), by repeat (first | (with_reducible first | exact HB.out | apply below_alloc | apply pw_below_drewN | apply below_drew1) | exact HB.out)⟩
                 ·replace c34 := Bool.eq_false_iff.mpr c34
                  subst c34
                  have H1 : (some ((⟨#[]⟩ : ByteArray), 0)) = some (r1, r2) := by rw [if_neg (show ¬ (false = true) by decide)] at H; exact H
                  clear H
                  have H := H1
                  clear H1
                  simp only [Option.some.injEq, Prod.mk.injEq] at H
                  obtain ⟨rfl, rfl⟩ := H
                  go_wp2_with (first | (go_at_call 32; (with_reducible refine (strings_HasPrefix.calls (a0.extract ((ji30) : Int).toNat a0.size) (⟨#[125]⟩ : ByteArray) false _ A33.out).mono ?_); rintro e w' ⟨rfl, ⟨nd, rfl⟩⟩))
                  go_ret2
                  exact ⟨by first | rfl | (simp [errW_none, errW_some] <;> rfl) | (simp only [← hji30]; first | rfl | (simp [errW_none, errW_some] <;> rfl)) | (simp [*, errW_none, errW_some] <;> rfl), by repeat (first | (with_reducible first | exact HB.out | apply below_alloc | apply pw_below_drewN | apply below_drew1) | exact HB.out)⟩
                ·rw [if_neg c32] at H
                 exact absurd H (by simp)
               ·rw [if_neg c31] at H
                exact absurd H (by simp)
         ·rw [if_neg c18] at H
          exact absurd H (by simp)
        ·rw [if_neg c17] at H
         have c17b0 : ((bt a0 0) == 123) = false := beq_eq_false_iff_ne.mpr c17
         have c17b1 : ((bt a0 0) != 123) = true := bne_iff_ne.mpr c17
         replace H := Option.bind_eq_some_iff.mp H
         obtain ⟨t126, A350, H⟩ := H
         replace H : (some (t126, (t126.size : Int))) = some (r1, r2) := H
         have A35 := Aside0.mk A350
         clear A350
         simp only [Option.some.injEq, Prod.mk.injEq] at H
         obtain ⟨rfl, rfl⟩ := H
         have p16 : 0 ≤ (0 : Int) := (by omega)
         have q16 : 0 < a0.size := (by have : (0 : Int) < (a0.size : Int) := of_decide_eq_true (by first | (with_reducible assumption) | assumption); omega)
         have hx16 : ∀ h : 0 < a0.size, ((a0[0]'h).toNat : Int) = bt a0 0 := bt_at a0 0
         clear p16
         have qi16 : (0 < (a0.size : Int)) = True := eq_true (of_decide_eq_true (by first | (with_reducible assumption) | assumption))
         replace q16 := eq_true q16
         go_wp2_with (first | ((with_reducible refine gate_callee (f := 31) rfl ?_); refine goesL_ (some 54) rfl rfl Tryd.func31 (by kernel_rfl) rfl #[.string a0] rfl (by (try simp only [List.map_toArray, List.map_cons, List.map_nil]); first | done | rfl | (simp only [List.length_drop, List.length_take]; rfl)) ?_; (with_reducible refine (prompt_run.calls kj7 a0 t126 _ A35.out).mono ?_); rintro e w' ⟨rfl, ⟨nd, rfl⟩⟩; refine ⟨_, rfl, ?_⟩))
         go_ret2
         exact ⟨by first | rfl | (simp [errW_none, errW_some] <;> rfl) | (simp [*, errW_none, errW_some] <;> rfl), by repeat (first | (with_reducible first | exact HB.out | apply below_alloc | apply pw_below_drewN | apply below_drew1) | exact HB.out)⟩
       ·rw [if_neg c15] at H
        exact absurd H (by simp)
end Go.Proofs.YtiacdccnifjcjaaDoor.F
namespace Go.Proofs.YtiacdccnifjcjaaDoor.F
open Go.RowKit Go.Proofs.YtiacdccnifjcjaaDoorW.PrintWords Go.Proofs.YtiacdccnifjcjaaDoorW.PrintLast Go.Proofs.YtiacdccnifjcjaaDoorW.PrintMore
attribute [local go_sem] max2_int min2_int max_two min_two max_three min_three max_four min_four
set_option linter.unusedVariables false
set_option linter.unusedSimpArgs false
def param_separator.f (k : Nat) (l0 : List (S_Var)) : Option (ByteArray) := (vars_Get.f k l0 (⟨#[73, 70, 83]⟩ : ByteArray)).bind fun bt149 => (if bt149.2.2.1 = true then (if bt149.2.1.toList = ([] : List UInt8) then (some (⟨#[]⟩ : ByteArray)) else (if 0 ≤ 1 then (if 1 ≤ (bt149.2.1.size : Int) then (some (bt149.2.1.extract 0 1)) else (none)) else (none))) else (some (⟨#[32]⟩ : ByteArray)))
theorem param_separator.mono : ∀ a0 k, LeO (param_separator.f k a0) (param_separator.f (k + 1) a0) := by
 intro a0 k
 unfold param_separator.f
 repeat' first
   | (with_reducible exact vars_Get.mono _ _ _)
   | (with_reducible exact LeO.refl _)
   | (with_reducible exact LeO.none _)
   | (with_reducible refine LeO.ite ?_ ?_)
   | (with_reducible refine LeO.bind ?_ (fun _ => ?_))
   | exact vars_Get.mono _ _ _
   | exact LeO.none _
   | refine LeO.ite ?_ ?_
   | refine LeO.bind ?_ (fun _ => ?_)
set_option maxHeartbeats 8000000 in
set_option maxRecDepth 100000 in
theorem param_separator.calls (k : Nat) (A0 : Option Addr) (c0 : Nat) (l0 : List (S_Var)) (r : ByteArray) (w : World) (hr0 : Kd.C k_Var w A0 l0.length l0) (hc0 : l0.length ≤ c0) (h : param_separator.f k l0 = some r) :
  Calls Tryd.prog 35 #[.slice A0 l0.length c0] w fun e w' => e = .returned (.string r) ∧ Below w.heap.size w w' := by
 have hu42 := Tryd.underlying42
 have HR0 := Aside0.mk hr0
 have HC0 := Aside0.mk hc0
 clear hr0 hc0
 have HB := Aside0.mk (Below.refl w.heap.size w)
 have H : ((vars_Get.f k l0 (⟨#[73, 70, 83]⟩ : ByteArray)).bind fun bt149 => (if bt149.2.2.1 = true then (if bt149.2.1.toList = ([] : List UInt8) then (some (⟨#[]⟩ : ByteArray)) else (if 0 ≤ 1 then (if 1 ≤ (bt149.2.1.size : Int) then (some (bt149.2.1.extract 0 1)) else (none)) else (none))) else (some (⟨#[32]⟩ : ByteArray)))) = some r := h
 clear h
 replace H := Option.bind_eq_some_iff.mp H
 obtain ⟨⟨t149, t150, t151, t152, t153, t154⟩, A20, H⟩ := H
 replace H : (if t151 = true then (if t150.toList = ([] : List UInt8) then (some (⟨#[]⟩ : ByteArray)) else (if 0 ≤ 1 then (if 1 ≤ (t150.size : Int) then (some (t150.extract 0 1)) else (none)) else (none))) else (some (⟨#[32]⟩ : ByteArray))) = some r := H
 have A2 := Aside0.mk A20
 clear A20
 by_cases c3 : t151 = true
 ·subst c3
  have H1 : (if t150.toList = ([] : List UInt8) then (some (⟨#[]⟩ : ByteArray)) else (if 0 ≤ 1 then (if 1 ≤ (t150.size : Int) then (some (t150.extract 0 1)) else (none)) else (none))) = some r := by rw [if_pos rfl] at H; exact H
  clear H
  have H := H1
  clear H1
  by_cases c4 : t150.toList = ([] : List UInt8)
  ·rw [if_pos c4] at H
   have c4b0 : (t150.toList == ([] : List UInt8)) = true := beq_iff_eq.mpr c4
   have c4b1 : (t150.toList != ([] : List UInt8)) = false := bne_eq_false_iff_eq.mpr c4
   clear c4
   obtain rfl := Option.some.inj H
   go_enter Tryd.func35, Tryd.ntmps35
   go_wp2_with (first | ((with_reducible refine gate_callee (f := 26) rfl ?_); refine goesL_ (some 7) rfl rfl Tryd.func26 (by kernel_rfl) rfl #[.slice A0 l0.length c0, .string (⟨#[73, 70, 83]⟩ : ByteArray)] rfl (by (try simp only [List.map_toArray, List.map_cons, List.map_nil]); first | done | rfl | (simp only [List.length_drop, List.length_take]; rfl)) ?_; (with_reducible refine (vars_Get.calls k _ _ l0 (⟨#[73, 70, 83]⟩ : ByteArray) t149 t150 true t152 t153 t154 _ ?side1 ?side2 A2.out).mono ?_); (case side1 => repeat (first | exact HR0.out | (with_reducible refine Kd.C_alloc ?_ _) | (with_reducible refine Kd.C_drewN ?_ _) | (with_reducible refine Kd.C_drew ?_))); (case side2 => exact HC0.out); rintro e w5 ⟨rfl, hb⟩; refine ⟨_, rfl, ?_⟩; have n0_ := Aside0.mk (below_step (by repeat (first | (with_reducible first | exact HB.out | apply below_alloc | apply pw_below_drewN | apply below_drew1) | exact HB.out)) hb); clear HB; have HB := n0_; clear n0_; (try clear hb); (try clear hb2); (try clear hk); (try clear hi)) | ((with_reducible refine gate_dst (N := 3) rfl ?_); refine box_event ?hg (N := 3) ?hd (cs := #[.string (⟨#[]⟩ : ByteArray), .string (⟨#[]⟩ : ByteArray), .bool false, .bool false, .bool false]) (t := 42) ?hr ?_; (case hd => rfl); (case hg => rfl); (case hr => first | (go_simp; done) | (go_simp; rfl)); intro gb155 hg w6 hbox hb; have n0_ := Aside0.mk (below_step (by repeat (first | (with_reducible first | exact HB.out | apply below_alloc | apply pw_below_drewN | apply below_drew1) | exact HB.out)) hb); have n1_ := Aside0.mk (hbox); have n2_ := Aside0.mk ((by rw [hg]; exact (below_size (by repeat (first | (with_reducible first | exact HB.out | apply below_alloc | apply pw_below_drewN | apply below_drew1) | exact HB.out))) : w.heap.size ≤ gb155)); have n3_ := Aside0.mk ((by rw [hg]; exact (below_size (by repeat (first | (with_reducible first | exact HB.out | apply below_alloc | apply pw_below_drewN | apply below_drew1) | exact HB.out))) : w.heap.size ≤ gb155)); clear HB; have HB := n0_; have BK155 := n1_; have GW155 := n2_; have GE155 := n3_; clear n0_ n1_ n2_ n3_; clear hb hbox hg; have hcz7_0 : w6.cell? ⟨gb155, 0, none⟩ = some (.string (⟨#[]⟩ : ByteArray)) := (blk_cell BK155.out 0).trans rfl; have hcz7_1 : w6.cell? ⟨gb155, 1, none⟩ = some (.string (⟨#[]⟩ : ByteArray)) := (blk_cell BK155.out 1).trans rfl; have hcz7_2 : w6.cell? ⟨gb155, 2, none⟩ = some (.bool false) := (blk_cell BK155.out 2).trans rfl; have hcz7_3 : w6.cell? ⟨gb155, 3, none⟩ = some (.bool false) := (blk_cell BK155.out 3).trans rfl; have hcz7_4 : w6.cell? ⟨gb155, 4, none⟩ = some (.bool false) := (blk_cell BK155.out 4).trans rfl; have hfz7_0 := blk_frozen BK155.out 0; have hfz7_1 := blk_frozen BK155.out 1; have hfz7_2 := blk_frozen BK155.out 2; have hfz7_3 := blk_frozen BK155.out 3; have hfz7_4 := blk_frozen BK155.out 4))
   go_ret
   exact ⟨by first | rfl | (simp [errW_none, errW_some] <;> rfl) | (simp [*, errW_none, errW_some] <;> rfl), by repeat (first | (with_reducible first | exact HB.out | apply below_alloc | apply pw_below_drewN | apply below_drew1 | refine below_set ?_ GE155.out) | exact HB.out)⟩
  ·rw [if_neg c4] at H
   have c4b0 : (t150.toList == ([] : List UInt8)) = false := beq_eq_false_iff_ne.mpr c4
   have c4b1 : (t150.toList != ([] : List UInt8)) = true := bne_iff_ne.mpr c4
   by_cases c8 : 0 ≤ 1
   ·rw [if_pos c8] at H
    have c8b0 := eq_true c8
    have c8b1 : decide (0 ≤ 1) = true := decide_eq_true c8
    clear c8
    by_cases c9 : 1 ≤ (t150.size : Int)
    ·rw [if_pos c9] at H
     have c9b0 := eq_true c9
     have c9b1 : decide (1 ≤ (t150.size : Int)) = true := decide_eq_true c9
     clear c9
     obtain rfl := Option.some.inj H
     go_enter Tryd.func35, Tryd.ntmps35
     go_wp2_with (first | ((with_reducible refine gate_callee (f := 26) rfl ?_); refine goesL_ (some 7) rfl rfl Tryd.func26 (by kernel_rfl) rfl #[.slice A0 l0.length c0, .string (⟨#[73, 70, 83]⟩ : ByteArray)] rfl (by (try simp only [List.map_toArray, List.map_cons, List.map_nil]); first | done | rfl | (simp only [List.length_drop, List.length_take]; rfl)) ?_; (with_reducible refine (vars_Get.calls k _ _ l0 (⟨#[73, 70, 83]⟩ : ByteArray) t149 t150 true t152 t153 t154 _ ?side1 ?side2 A2.out).mono ?_); (case side1 => repeat (first | exact HR0.out | (with_reducible refine Kd.C_alloc ?_ _) | (with_reducible refine Kd.C_drewN ?_ _) | (with_reducible refine Kd.C_drew ?_))); (case side2 => exact HC0.out); rintro e w10 ⟨rfl, hb⟩; refine ⟨_, rfl, ?_⟩; have n0_ := Aside0.mk (below_step (by repeat (first | (with_reducible first | exact HB.out | apply below_alloc | apply pw_below_drewN | apply below_drew1) | exact HB.out)) hb); clear HB; have HB := n0_; clear n0_; (try clear hb); (try clear hb2); (try clear hk); (try clear hi)) | ((with_reducible refine gate_dst (N := 3) rfl ?_); refine box_event ?hg (N := 3) ?hd (cs := #[.string (⟨#[]⟩ : ByteArray), .string (⟨#[]⟩ : ByteArray), .bool false, .bool false, .bool false]) (t := 42) ?hr ?_; (case hd => rfl); (case hg => rfl); (case hr => first | (go_simp; done) | (go_simp; rfl)); intro gb155 hg w11 hbox hb; have n0_ := Aside0.mk (below_step (by repeat (first | (with_reducible first | exact HB.out | apply below_alloc | apply pw_below_drewN | apply below_drew1) | exact HB.out)) hb); have n1_ := Aside0.mk (hbox); have n2_ := Aside0.mk ((by rw [hg]; exact (below_size (by repeat (first | (with_reducible first | exact HB.out | apply below_alloc | apply pw_below_drewN | apply below_drew1) | exact HB.out))) : w.heap.size ≤ gb155)); have n3_ := Aside0.mk ((by rw [hg]; exact (below_size (by repeat (first | (with_reducible first | exact HB.out | apply below_alloc | apply pw_below_drewN | apply below_drew1) | exact HB.out))) : w.heap.size ≤ gb155)); clear HB; have HB := n0_; have BK155 := n1_; have GW155 := n2_; have GE155 := n3_; clear n0_ n1_ n2_ n3_; clear hb hbox hg; have hcz12_0 : w11.cell? ⟨gb155, 0, none⟩ = some (.string (⟨#[]⟩ : ByteArray)) := (blk_cell BK155.out 0).trans rfl; have hcz12_1 : w11.cell? ⟨gb155, 1, none⟩ = some (.string (⟨#[]⟩ : ByteArray)) := (blk_cell BK155.out 1).trans rfl; have hcz12_2 : w11.cell? ⟨gb155, 2, none⟩ = some (.bool false) := (blk_cell BK155.out 2).trans rfl; have hcz12_3 : w11.cell? ⟨gb155, 3, none⟩ = some (.bool false) := (blk_cell BK155.out 3).trans rfl; have hcz12_4 : w11.cell? ⟨gb155, 4, none⟩ = some (.bool false) := (blk_cell BK155.out 4).trans rfl; have hfz12_0 := blk_frozen BK155.out 0; have hfz12_1 := blk_frozen BK155.out 1; have hfz12_2 := blk_frozen BK155.out 2; have hfz12_3 := blk_frozen BK155.out 3; have hfz12_4 := blk_frozen BK155.out 4))
     go_ret
     exact ⟨by first | rfl | (simp [errW_none, errW_some] <;> rfl) | (simp [*, errW_none, errW_some] <;> rfl), by repeat (first | (with_reducible first | exact HB.out | apply below_alloc | apply pw_below_drewN | apply below_drew1 | refine below_set ?_ GE155.out) | exact HB.out)⟩
    ·rw [if_neg c9] at H
     exact absurd H (by simp)
   ·rw [if_neg c8] at H
    exact absurd H (by simp)
 ·replace c3 := Bool.eq_false_iff.mpr c3
  subst c3
  have H1 : (some (⟨#[32]⟩ : ByteArray)) = some r := by rw [if_neg (show ¬ (false = true) by decide)] at H; exact H
  clear H
  have H := H1
  clear H1
  obtain rfl := Option.some.inj H
  go_enter Tryd.func35, Tryd.ntmps35
  go_wp2_with (first | ((with_reducible refine gate_callee (f := 26) rfl ?_); refine goesL_ (some 7) rfl rfl Tryd.func26 (by kernel_rfl) rfl #[.slice A0 l0.length c0, .string (⟨#[73, 70, 83]⟩ : ByteArray)] rfl (by (try simp only [List.map_toArray, List.map_cons, List.map_nil]); first | done | rfl | (simp only [List.length_drop, List.length_take]; rfl)) ?_; (with_reducible refine (vars_Get.calls k _ _ l0 (⟨#[73, 70, 83]⟩ : ByteArray) t149 t150 false t152 t153 t154 _ ?side1 ?side2 A2.out).mono ?_); (case side1 => repeat (first | exact HR0.out | (with_reducible refine Kd.C_alloc ?_ _) | (with_reducible refine Kd.C_drewN ?_ _) | (with_reducible refine Kd.C_drew ?_))); (case side2 => exact HC0.out); rintro e w13 ⟨rfl, hb⟩; refine ⟨_, rfl, ?_⟩; have n0_ := Aside0.mk (below_step (by repeat (first | (with_reducible first | exact HB.out | apply below_alloc | apply pw_below_drewN | apply below_drew1) | exact HB.out)) hb); clear HB; have HB := n0_; clear n0_; (try clear hb); (try clear hb2); (try clear hk); (try clear hi)) | ((with_reducible refine gate_dst (N := 3) rfl ?_); refine box_event ?hg (N := 3) ?hd (cs := #[.string (⟨#[]⟩ : ByteArray), .string (⟨#[]⟩ : ByteArray), .bool false, .bool false, .bool false]) (t := 42) ?hr ?_; (case hd => rfl); (case hg => rfl); (case hr => first | (go_simp; done) | (go_simp; rfl)); intro gb155 hg w14 hbox hb; have n0_ := Aside0.mk (below_step (by repeat (first | (with_reducible first | exact HB.out | apply below_alloc | apply pw_below_drewN | apply below_drew1) | exact HB.out)) hb); have n1_ := Aside0.mk (hbox); have n2_ := Aside0.mk ((by rw [hg]; exact (below_size (by repeat (first | (with_reducible first | exact HB.out | apply below_alloc | apply pw_below_drewN | apply below_drew1) | exact HB.out))) : w.heap.size ≤ gb155)); have n3_ := Aside0.mk ((by rw [hg]; exact (below_size (by repeat (first | (with_reducible first | exact HB.out | apply below_alloc | apply pw_below_drewN | apply below_drew1) | exact HB.out))) : w.heap.size ≤ gb155)); clear HB; have HB := n0_; have BK155 := n1_; have GW155 := n2_; have GE155 := n3_; clear n0_ n1_ n2_ n3_; clear hb hbox hg; have hcz15_0 : w14.cell? ⟨gb155, 0, none⟩ = some (.string (⟨#[]⟩ : ByteArray)) := (blk_cell BK155.out 0).trans rfl; have hcz15_1 : w14.cell? ⟨gb155, 1, none⟩ = some (.string (⟨#[]⟩ : ByteArray)) := (blk_cell BK155.out 1).trans rfl; have hcz15_2 : w14.cell? ⟨gb155, 2, none⟩ = some (.bool false) := (blk_cell BK155.out 2).trans rfl; have hcz15_3 : w14.cell? ⟨gb155, 3, none⟩ = some (.bool false) := (blk_cell BK155.out 3).trans rfl; have hcz15_4 : w14.cell? ⟨gb155, 4, none⟩ = some (.bool false) := (blk_cell BK155.out 4).trans rfl; have hfz15_0 := blk_frozen BK155.out 0; have hfz15_1 := blk_frozen BK155.out 1; have hfz15_2 := blk_frozen BK155.out 2; have hfz15_3 := blk_frozen BK155.out 3; have hfz15_4 := blk_frozen BK155.out 4))
  go_ret
  exact ⟨by first | rfl | (simp [errW_none, errW_some] <;> rfl) | (simp [*, errW_none, errW_some] <;> rfl), by repeat (first | (with_reducible first | exact HB.out | apply below_alloc | apply pw_below_drewN | apply below_drew1 | refine below_set ?_ GE155.out) | exact HB.out)⟩
end Go.Proofs.YtiacdccnifjcjaaDoor.F
set_option linter.unusedVariables false
set_option linter.unusedSimpArgs false
namespace Go.Proofs.YtiacdccnifjcjaaDoor.F
open Go.RowKit Go.Proofs.YtiacdccnifjcjaaDoorW.PrintWords Go.Proofs.YtiacdccnifjcjaaDoorW.PrintLast Go.Proofs.YtiacdccnifjcjaaDoorW.PrintMore Go.Proofs.YtiacdccnifjcjaaDoor.Aid
def digGo : List UInt8 → Int → Option Int
  | [], n => some n
  | c :: r, n => if 48 ≤ (c.toNat : Int) ∧ (c.toNat : Int) ≤ 57 then digGo r (10 * n + ((c.toNat : Int) - 48)) else none
def chars_Digits.f (a0 : ByteArray) : Option (Int × Bool) :=
  if a0.size = 0 then some (0, false) else if 10 < a0.size then some (0, false) else if 1 < a0.size ∧ bt a0 0 = 48 then some (0, false) else
  some (match digGo a0.data.toList 0 with | none => (0, false) | some n => if n > 2147483647 then (0, false) else (n, true))
theorem byte_drop (s : ByteArray) (i : Nat) (h : i < s.size) : s.data.toList.drop i = s[i] :: s.data.toList.drop (i + 1) := by
  rw [List.drop_eq_getElem_cons (by simpa using h)]; rfl
def pow10 : Nat → Int
  | 0 => 1
  | k + 1 => 10 * pow10 k
set_option maxHeartbeats 4000000 in
theorem digits_loop (s : ByteArray) (w : World) (h1 : 0 < s.size) (h2 : s.size ≤ 10) (h3 : s.size ≤ 1 ∨ ¬ bt s 0 = 48) (v : Int × Bool) (hv : (match digGo s.data.toList 0 with | none => (0, false) | some n => if n > 2147483647 then (0, false) else (n, true)) = v) :
    Calls Tryd.prog 56 #[.string s] w fun e w' => e = .returned (.tuple #[.int .i64 v.1, .bool v.2]) ∧ Below w.heap.size w w' := by
  have HV := Lib.hid hv
  clear hv
  have e0 : s.toList.isEmpty = false := by
    rw [Lib.toList_data]
    have hl : s.data.toList.length = s.size := by simp
    cases h : s.data.toList with
    | nil => rw [h] at hl; simp at hl; omega
    | cons _ _ => rfl
  have e0' : (!s.toList.isEmpty) = true := by rw [e0]; rfl
  have e1 : decide ((10 : Int) < (s.size : Int)) = false := decide_eq_false (by omega)
  have hb0 : ∀ h : 0 < s.size, ((s[0]'h).toNat : Int) = bt s 0 := fun h => bt_at s 0 h
  have hcase : decide ((1 : Int) < (s.size : Int)) = false ∨ (decide ((1 : Int) < (s.size : Int)) = true ∧ (((s[0]'h1).toNat : Int) == 48) = false) := by
    rcases h3 with h | h
    · exact .inl (decide_eq_false (by omega))
    · rcases Nat.lt_or_ge 1 s.size with h' | h'
      · exact .inr ⟨decide_eq_true (by omega), beq_eq_false_iff_ne.2 (by rw [hb0]; exact h)⟩
      · exact .inl (decide_eq_false (by omega))
  clear h3 hb0
  rcases hcase with hc | ⟨hc, hc2⟩
  all_goals
    go_enter Tryd.func56, Tryd.ntmps56
    go_wp2
    go_loopw [4] (fun v4 wr => ∃ (p : Nat) (n : Int), v4 = .int .i64 n ∧ p ≤ s.size ∧ 0 ≤ n ∧ n < pow10 p ∧ wr = w.iter s p ∧ digGo (s.data.toList.drop p) n = digGo s.data.toList 0) (fun _ wr => s.size - wr.iterPos w.heap.size)
    case atStart => exact ⟨0, 0, rfl, by omega, by omega, by decide, rfl, rfl⟩
    case round =>
      obtain ⟨p, n, rfl, hp, hn0, hn1, rfl, hd⟩ := hrel
      have Hd := Lib.hid hd
      clear hd
      have hpow : pow10 p ≤ 10000000000 := by
        have : ∀ k, k ≤ 10 → pow10 k ≤ 10000000000 := by decide
        exact this p (by omega)
      by_cases hlt : p < s.size
      · have hnx := fun ty => run_next_any (P := Tryd.prog) w s p ty hlt
        have hbd := byte_drop s p hlt
        have Hb := Lib.hid hbd
        clear hbd
        by_cases hc : 48 ≤ (s[p].toNat : Int) ∧ (s[p].toNat : Int) ≤ 57
        · have hdec := decode_ascii s p hlt (by omega)
          have hnx2 := hnx
          rw [hdec] at hnx2
          clear hnx hdec
          have hgo : digGo (s[p] :: s.data.toList.drop (p + 1)) n = digGo (s.data.toList.drop (p + 1)) (10 * n + ((s[p].toNat : Int) - 48)) := by simp only [digGo]; rw [if_pos hc]
          have Hg := Lib.hid hgo
          clear hgo
          have hp1 : pow10 (p + 1) = 10 * pow10 p := rfl
          have Hp1 := Lib.hid hp1
          clear hp1
          go_wp2
          go_roundw
          case rel => exact ⟨p + 1, _, rfl, by omega, by omega, by rw [Hp1.out]; omega, rfl, by rw [← Hd.out, Hb.out, Hg.out]⟩
          case measure => rw [World.iterPos_iter, World.iterPos_iter]; omega
        · have hgo : digGo s.data.toList 0 = none := by rw [← Hd.out, Hb.out]; simp only [digGo]; rw [if_neg hc]
          have HV2 : Hid (v = (0, false)) := Lib.hid (by rw [← HV.out, hgo])
          have hdc : ¬ (48 ≤ ((Utf8.decode s p).1 : Int) ∧ ((Utf8.decode s p).1 : Int) ≤ 57) := by
            rcases Nat.lt_or_ge s[p].toNat 128 with h | h
            · rw [decode_ascii s p hlt h]; exact hc
            · have := (decode_high s p hlt h).1; omega
          have hdle := decode_le s p
          clear hgo
          rcases (by omega : ((Utf8.decode s p).1 : Int) < 48 ∨ 57 < ((Utf8.decode s p).1 : Int)) with hr | hr
          · clear hc hdc
            go_wp2
            go_ret2
            rw [HV2.out]
            exact ⟨rfl, (Below.refl _ _).alloc (Nat.le_refl _) _⟩
          · have hq : decide (((Utf8.decode s p).1 : Int) ≤ 57) = false := decide_eq_false (by omega)
            clear hc hdc
            go_wp2
            go_ret2
            rw [HV2.out]
            exact ⟨rfl, (Below.refl _ _).alloc (Nat.le_refl _) _⟩
      · have hnx := fun ty => run_next_end (P := Tryd.prog) w s p ty hlt
        have hgo : digGo s.data.toList 0 = some n := by rw [← Hd.out, List.drop_eq_nil_of_le (by simp; omega)]; rfl
        have HV2 : Hid (v = if n > 2147483647 then (0, false) else (n, true)) := Lib.hid (by rw [← HV.out, hgo])
        clear hgo
        rcases (by omega : n > 2147483647 ∨ n ≤ 2147483647) with hr | hr
        · have HV3 : Hid (v = (0, false)) := Lib.hid (by rw [HV2.out, if_pos hr])
          clear HV2
          go_wp2
          go_ret2
          rw [HV3.out]
          exact ⟨rfl, (Below.refl _ _).alloc (Nat.le_refl _) _⟩
        · have HV3 : Hid (v = (n, true)) := Lib.hid (by rw [HV2.out, if_neg (by omega)])
          clear HV2
          go_wp2
          go_ret2
          rw [HV3.out]
          exact ⟨rfl, (Below.refl _ _).alloc (Nat.le_refl _) _⟩
theorem chars_Digits.calls (a0 : ByteArray) (r1 : Int) (r2 : Bool) (w : World) (h : chars_Digits.f a0 = some (r1, r2)) :
    Calls Tryd.prog 56 #[.string a0] w fun e w' => e = .returned (.tuple #[.int .i64 r1, .bool r2]) ∧ Below w.heap.size w w' := by
  unfold chars_Digits.f at h
  split at h
  · rename_i h0
    simp only [Option.some.injEq, Prod.mk.injEq] at h
    obtain ⟨rfl, rfl⟩ := h
    have e0 : a0.toList.isEmpty = true := by
      rw [Lib.toList_data]
      have hl : a0.data.toList.length = a0.size := by simp
      cases h : a0.data.toList with
      | nil => rfl
      | cons _ _ => rw [h] at hl; simp at hl; omega
    have e0' : (!a0.toList.isEmpty) = false := by rw [e0]; rfl
    clear h0
    go_enter Tryd.func56, Tryd.ntmps56
    go_wp2
    go_ret2
    exact ⟨rfl, Below.refl _ _⟩
  · rename_i h0
    have e0 : a0.toList.isEmpty = false := by
      rw [Lib.toList_data]
      have hl : a0.data.toList.length = a0.size := by simp
      cases h : a0.data.toList with
      | nil => rw [h] at hl; simp at hl; omega
      | cons _ _ => rfl
    have e0' : (!a0.toList.isEmpty) = true := by rw [e0]; rfl
    split at h
    · rename_i h1
      simp only [Option.some.injEq, Prod.mk.injEq] at h
      obtain ⟨rfl, rfl⟩ := h
      have e1 : decide ((10 : Int) < (a0.size : Int)) = true := decide_eq_true (by omega)
      clear h0 h1
      go_enter Tryd.func56, Tryd.ntmps56
      go_wp2
      go_ret2
      exact ⟨rfl, Below.refl _ _⟩
    · rename_i h1
      split at h
      · rename_i h2
        simp only [Option.some.injEq, Prod.mk.injEq] at h
        obtain ⟨rfl, rfl⟩ := h
        have e1 : decide ((10 : Int) < (a0.size : Int)) = false := decide_eq_false (by omega)
        have e2 : decide ((1 : Int) < (a0.size : Int)) = true := decide_eq_true (by omega)
        have h3 : 0 < a0.size := by omega
        have e3 : (((a0[0]'h3).toNat : Int) == 48) = true := beq_iff_eq.2 ((bt_at a0 0 h3).trans h2.2)
        clear h0 h1 h2
        go_enter Tryd.func56, Tryd.ntmps56
        go_wp2
        go_ret2
        exact ⟨rfl, Below.refl _ _⟩
      · rename_i h2
        injection h with h
        exact digits_loop a0 w (by omega) (by omega) (by rcases Nat.lt_or_ge 1 a0.size with h3 | h3
                                                         · exact .inr fun h4 => h2 ⟨h3, h4⟩
                                                         · exact .inl h3) (r1, r2) h
end Go.Proofs.YtiacdccnifjcjaaDoor.F
namespace Go.Proofs.YtiacdccnifjcjaaDoor.F
open Go.RowKit Go.Proofs.YtiacdccnifjcjaaDoorW.PrintWords Go.Proofs.YtiacdccnifjcjaaDoorW.PrintLast Go.Proofs.YtiacdccnifjcjaaDoorW.PrintMore
attribute [local go_sem] max2_int min2_int max_two min_two max_three min_three max_four min_four
set_option linter.unusedVariables false
set_option linter.unusedSimpArgs false
def param_position.f (a0 : ByteArray) : Option (Int × Bool) := (chars_Digits.f a0).bind fun bt156 => (if bt156.2 = true then (some (bt156.1, decide (bt156.1 > 0))) else (some (bt156.1, false)))
set_option maxHeartbeats 8000000 in
set_option maxRecDepth 100000 in
theorem param_position.calls (a0 : ByteArray) (r1 : Int) (r2 : Bool) (w : World) (h : param_position.f a0 = some (r1, r2)) :
  Calls Tryd.prog 36 #[.string a0] w fun e w' => e = .returned (.tuple #[.int .i64 r1, .bool r2]) ∧ Below w.heap.size w w' := by
 have HB := Aside0.mk (Below.refl w.heap.size w)
 have H : ((chars_Digits.f a0).bind fun bt156 => (if bt156.2 = true then (some (bt156.1, decide (bt156.1 > 0))) else (some (bt156.1, false)))) = some (r1, r2) := h
 clear h
 replace H := Option.bind_eq_some_iff.mp H
 obtain ⟨⟨t156, t157⟩, A20, H⟩ := H
 replace H : (if t157 = true then (some (t156, decide (t156 > 0))) else (some (t156, false))) = some (r1, r2) := H
 have A2 := Aside0.mk A20
 clear A20
 by_cases c3 : t157 = true
 ·subst c3
  have H1 : (some (t156, decide (t156 > 0))) = some (r1, r2) := by rw [if_pos rfl] at H; exact H
  clear H
  have H := H1
  clear H1
  simp only [Option.some.injEq, Prod.mk.injEq] at H
  obtain ⟨rfl, rfl⟩ := H
  go_enter Tryd.func36, Tryd.ntmps36
  go_wp2_with (first | ((with_reducible refine gate_callee (f := 56) rfl ?_); refine goesL_ (some 8) rfl rfl Tryd.func56 (by kernel_rfl) rfl #[.string a0] rfl (by (try simp only [List.map_toArray, List.map_cons, List.map_nil]); first | done | rfl | (simp only [List.length_drop, List.length_take]; rfl)) ?_; (with_reducible refine (chars_Digits.calls a0 t156 true _ A2.out).mono ?_); rintro e w4 ⟨rfl, hb⟩; refine ⟨_, rfl, ?_⟩; have n0_ := Aside0.mk (below_step (by repeat (first | (with_reducible first | exact HB.out | apply below_alloc | apply pw_below_drewN | apply below_drew1) | exact HB.out)) hb); clear HB; have HB := n0_; clear n0_; (try clear hb); (try clear hb2); (try clear hk); (try clear hi)))
  go_ret2
  exact ⟨by first | rfl | (simp [errW_none, errW_some] <;> rfl) | (simp [*, errW_none, errW_some] <;> rfl), by repeat (first | (with_reducible first | exact HB.out | apply below_alloc | apply pw_below_drewN | apply below_drew1) | exact HB.out)⟩
 ·replace c3 := Bool.eq_false_iff.mpr c3
  subst c3
  have H1 : (some (t156, false)) = some (r1, r2) := by rw [if_neg (show ¬ (false = true) by decide)] at H; exact H
  clear H
  have H := H1
  clear H1
  simp only [Option.some.injEq, Prod.mk.injEq] at H
  obtain ⟨rfl, rfl⟩ := H
  go_enter Tryd.func36, Tryd.ntmps36
  go_wp2_with (first | ((with_reducible refine gate_callee (f := 56) rfl ?_); refine goesL_ (some 8) rfl rfl Tryd.func56 (by kernel_rfl) rfl #[.string a0] rfl (by (try simp only [List.map_toArray, List.map_cons, List.map_nil]); first | done | rfl | (simp only [List.length_drop, List.length_take]; rfl)) ?_; (with_reducible refine (chars_Digits.calls a0 t156 false _ A2.out).mono ?_); rintro e w5 ⟨rfl, hb⟩; refine ⟨_, rfl, ?_⟩; have n0_ := Aside0.mk (below_step (by repeat (first | (with_reducible first | exact HB.out | apply below_alloc | apply pw_below_drewN | apply below_drew1) | exact HB.out)) hb); clear HB; have HB := n0_; clear n0_; (try clear hb); (try clear hb2); (try clear hk); (try clear hi)))
  go_ret2
  exact ⟨by first | rfl | (simp [errW_none, errW_some] <;> rfl) | (simp [*, errW_none, errW_some] <;> rfl), by repeat (first | (with_reducible first | exact HB.out | apply below_alloc | apply pw_below_drewN | apply below_drew1) | exact HB.out)⟩
end Go.Proofs.YtiacdccnifjcjaaDoor.F
set_option linter.unusedVariables false
namespace Go.Proofs.YtiacdccnifjcjaaDoor.F
open Go.RowKit Go.Proofs.YtiacdccnifjcjaaDoor.Aid
def strconv_Itoa.f (a0 : Int) : Option ByteArray :=
  if -9223372036854775808 ≤ a0 ∧ a0 ≤ 9223372036854775807 then some ⟨(Lib.itoa a0).toArray⟩ else none
theorem strconv_Itoa.calls (a0 : Int) (r : ByteArray) (w : World) (hamb : AmbC w) (h : strconv_Itoa.f a0 = some r) :
    Calls Tryd.prog 21 #[.int .i64 a0] w fun e w' => e = .returned (.string r) ∧ Below w.heap.size w w' := by
  unfold strconv_Itoa.f at h
  split at h
  · rename_i h0
    obtain rfl := Option.some.inj h
    refine (Tryd.strconv_Itoa a0 h0.1 h0.2 w hamb).mono ?_
    rintro e w' ⟨rfl, k, os, rfl⟩
    exact ⟨rfl, Lib.below_grow _ w (Nat.le_refl _) k os⟩
  · cases h
end Go.Proofs.YtiacdccnifjcjaaDoor.F
set_option linter.unusedVariables false
namespace Go.Proofs.YtiacdccnifjcjaaDoor.Bld
open Go.RowKit Go.Proofs.YtiacdccnifjcjaaDoor.Aid
theorem sizeBuilder : (Tryd.prog.info? 47).map (·.size) = some 2 := by kernel_rfl
theorem liesBuilder : liesAt Tryd.prog Tryd.prog.depth 47 (2 / Tryd.prog.cellsOf 47) 0 47 1 = true := by kernel_rfl
theorem infoByte : (Tryd.prog.info? 5).map (fun i => (i.zero, i.size, i.bytes)) = some (some (.int .u8 0), 1, 1) := by kernel_rfl
set_option maxHeartbeats 1000000 in
set_option maxRecDepth 100000 in
theorem check_used (b : Nat) (w : World) (h0 : w.cell? ⟨b, 0, none⟩ = some (.pointer (some ⟨b, 0, none⟩))) :
    Calls Tryd.prog 29 #[.pointer (some ⟨b, 0, none⟩)] w fun e w' => e = .returned (.tuple #[]) ∧ w = w' := by
  obtain ⟨j, hj, _⟩ := Option.map_eq_some_iff.1 sizeBuilder
  go_enter Tryd.func29, Tryd.ntmps29
  go_wp2
  rw [Lib.run_neq_ptr_same w _ Tryd.underlying44 hj]
  go_wp2
  go_end0
  exact ⟨rfl, rfl⟩
set_option maxHeartbeats 1000000 in
set_option maxRecDepth 100000 in
theorem check_fresh (b : Nat) (w : World) (h0 : w.cell? ⟨b, 0, none⟩ = some (.pointer none)) (hsh : w.shape? b = some (47, 2)) (hfz : w.frozen? ⟨b, 0, none⟩ = false) :
    Calls Tryd.prog 29 #[.pointer (some ⟨b, 0, none⟩)] w fun e w' => e = .returned (.tuple #[]) ∧ w' = w.setCell ⟨b, 0, none⟩ (.pointer (some ⟨b, 0, none⟩)) := by
  obtain ⟨j, hj, hjs⟩ := Option.map_eq_some_iff.1 sizeBuilder
  go_enter Tryd.func29, Tryd.ntmps29
  go_wp2
  rw [Lib.run_to_unsafe w ⟨b, 0, none⟩ Tryd.underlying44 Tryd.underlying75 hj (by rw [hjs]; decide) hsh (Nat.zero_lt_succ 1)]
  simp only [Result.andThen]
  rw [Oper.upon_value]
  go_wp2
  rw [run_callFunc_extern Tryd.func51 (by kernel_rfl) (by kernel_rfl) (by kernel_rfl) (e := Extern.AbiNoEscape.same) (by kernel_rfl)]
  rw [Lib.run_noEscape]
  simp only [Result.andThen]
  rw [Oper.upon_value]
  go_wp2
  rw [Lib.run_from_unsafe w ⟨b, 0, none⟩ Tryd.underlying75 Tryd.underlying44 hj hsh liesBuilder]
  simp only [Result.andThen]
  rw [Oper.upon_value]
  go_wp2
  go_end0
  exact ⟨rfl, rfl⟩
theorem check_any (B b : Nat) (bs : List Value) (w : World) (h : Lib.IsBuilder 47 5 B b bs w) :
    Calls Tryd.prog 29 #[.pointer (some ⟨b, 0, none⟩)] w fun e w' => e = .returned (.tuple #[]) ∧ (Lib.BuilderAt 47 5 B b (.pointer (some ⟨b, 0, none⟩)) bs w' ∧ w.grownBy w' (some b)) := by
  rcases h with h | h
  · refine (check_fresh b w h.cell0 h.shape h.frozen0).mono ?_
    rintro e w' ⟨rfl, rfl⟩
    exact ⟨rfl, h.used _, setCell_grownBy w b 0 _⟩
  · refine (check_used b w h.cell0).mono ?_
    rintro e w' ⟨rfl, rfl⟩
    exact ⟨rfl, h, grownBy_refl _ _⟩
set_option maxHeartbeats 2000000 in
set_option maxRecDepth 100000 in
theorem write (B b : Nat) (bs : List Value) (s : ByteArray) (w : World) (h : Lib.IsBuilder 47 5 B b bs w) (hlen : bs.length + s.size ≤ 140737488355328) (hBw : B ≤ w.heap.size) :
    Calls Tryd.prog 18 #[.pointer (some ⟨b, 0, none⟩), .string s] w fun e w' => e = .returned (.tuple #[.int .i64 s.size, .nilIface]) ∧ (Lib.BuilderAt 47 5 B b (.pointer (some ⟨b, 0, none⟩)) (bs ++ Lib.strCells s) w' ∧ Wrote 5 B b w w') := by
  obtain ⟨i0, hi, hz0, hz1, hz2⟩ := info_parts infoByte
  go_enter Tryd.func18, Tryd.ntmps18
  go_wp2_with (go_at_call 29; refine (check_any B b bs _ h).mono ?_)
  rintro e w1 ⟨rfl, h1, hb1⟩
  obtain ⟨hB, v, hbk, hown, hne⟩ := h1
  have c0 : w1.cell? ⟨b, 0, none⟩ = some (.pointer (some ⟨b, 0, none⟩)) := by rw [Lib.cell_of_heap hbk]; rfl
  have c1 : w1.cell? ⟨b, 1, none⟩ = some v := by rw [Lib.cell_of_heap hbk]; rfl
  go_wp2_with (at_builtin; refine Lib.wpList_append_own_string _ rfl _ _ 45 9 rfl B 5 i0 Tryd.underlying45 Tryd.underlying9 hi hz0 hz1 hz2 _ _ _ rfl hown s rfl ?c3 ?c4 ?c5 ?_)
  case c3 => unfold maxLen; omega
  case c4 => omega
  case c5 => have := hb1.size; omega
  intro v' w2 hown' hgrow _
  have hlt : b < w1.heap.size := by
    rcases Nat.lt_or_ge b w1.heap.size with h' | h'
    · exact h'
    · simp [Array.getElem?_eq_none h'] at hbk
  have hb2 : w2.heap[b]? = some (.cells #[.pointer (some ⟨b, 0, none⟩), v] 47 (0, 0)) := by
    rw [hgrow.block b hlt (fun e => hne e.symm)]
    exact hbk
  have d0 : w2.cell? ⟨b, 0, none⟩ = some (.pointer (some ⟨b, 0, none⟩)) := by rw [Lib.cell_of_heap hb2]; rfl
  have d1 : w2.cell? ⟨b, 1, none⟩ = some v := by rw [Lib.cell_of_heap hb2]; rfl
  have f1 : w2.frozen? ⟨b, 1, none⟩ = false := Lib.frozen_of_heap hb2 1
  obtain ⟨ao, n', cap, rfl⟩ : ∃ ao n' cap, v' = .slice ao n' cap := by
    rcases hown'.2 with ⟨hv, _⟩ | ⟨g, cap, cur, hv, _⟩
    · exact ⟨_, _, _, hv⟩
    · exact ⟨_, _, _, hv⟩
  go_wp2
  go_ret2
  refine ⟨rfl, ?_, ?_⟩
  · exact Lib.BuilderAt.put (T := 47) (e := 5) hB hb2 (bs' := bs ++ Lib.strCells s) (by simpa [Lib.strCells_length] using hown') (by decide)
  · exact wrote_of _ hB hBw hb1 hown hgrow
theorem str (B b : Nat) (l : List UInt8) (w : World) (h : Lib.IsBuilder 47 5 B b (Lib.byteCells l) w) (hBw : B ≤ w.heap.size) :
    Calls Tryd.prog 22 #[.pointer (some ⟨b, 0, none⟩)] w fun e w' => e = .returned (.string ⟨l.toArray⟩) ∧ Below B w w' := Any.Builder_String_any Tryd.lays169 Tryd.Builder_Extra_169 B b l w h hBw
end Go.Proofs.YtiacdccnifjcjaaDoor.Bld
set_option linter.unusedVariables false
set_option linter.unusedSimpArgs false
namespace Go.Proofs.YtiacdccnifjcjaaDoor.F
open Go.RowKit Go.Proofs.YtiacdccnifjcjaaDoorW.PrintWords Go.Proofs.YtiacdccnifjcjaaDoorW.PrintLast Go.Proofs.YtiacdccnifjcjaaDoorW.PrintMore Go.Proofs.YtiacdccnifjcjaaDoor.Aid
def joinTail (sep : ByteArray) : List ByteArray → List UInt8
  | [] => []
  | x :: r => sep.data.toList ++ x.data.toList ++ joinTail sep r
def joinGo (sep : ByteArray) : List ByteArray → List UInt8
  | [] => []
  | x :: r => x.data.toList ++ joinTail sep r
def szs : List ByteArray → Nat
  | [] => 0
  | x :: r => x.size + szs r
theorem tail_len (sep : ByteArray) : ∀ l, (joinTail sep l).length = sep.size * l.length + szs l
  | [] => rfl
  | x :: r => by
    have hs : ∀ b : ByteArray, b.data.toList.length = b.size := fun b => by simp
    show (sep.data.toList ++ x.data.toList ++ joinTail sep r).length = _
    rw [List.length_append, List.length_append, tail_len sep r, hs, hs]
    show _ = sep.size * (r.length + 1) + (x.size + szs r)
    rw [Nat.mul_succ]; omega
theorem wrap_idJ {i : Int} (h0 : -9223372036854775808 ≤ i) (h1 : i ≤ 9223372036854775807) : wrap64 i = i := by unfold wrap64; omega
def strings_Join.f (l0 : List ByteArray) (a1 : ByteArray) : Option ByteArray :=
  if (joinGo a1 l0).length ≤ 140737488355328 then some ⟨(joinGo a1 l0).toArray⟩ else none
structure JAt (w wr : World) (s : ByteArray) (l : List ByteArray) (j : Nat) (acc out : List UInt8) : Prop where
  below : Below w.heap.size w wr
  bld : Lib.IsBuilder 47 5 w.heap.size w.heap.size (Lib.byteCells acc) wr
  go : acc ++ joinTail s (l.drop (j + 1)) = out
set_option maxHeartbeats 8000000 in
set_option maxRecDepth 100000 in
theorem join_many (A0 : Option Addr) (c0 : Nat) (l0 : List ByteArray) (a1 : ByteArray) (out : List UInt8) (w : World) (hr0 : Kd.string.C w A0 l0.length l0) (hc0 : l0.length ≤ c0)
    (h2 : 2 ≤ l0.length) (ho : joinGo a1 l0 = out) (hlen : out.length ≤ 140737488355328) :
    Calls Tryd.prog 34 #[.slice A0 l0.length c0, .string a1] w fun e w' => e = .returned (.string ⟨out.toArray⟩) ∧ Below w.heap.size w w' := by
  have HR := Aside0.mk hr0
  have hm : l0.length ≤ 9223372036854775807 := hr0.2.1
  clear hr0
  have hu := Tryd.underlying47
  have htot : a1.size * (l0.length - 1) + szs l0 = out.length := by
    rw [← ho]
    cases l0 with
    | nil => simp at h2
    | cons x r =>
      have hs : ∀ b : ByteArray, b.data.toList.length = b.size := fun b => by simp
      show a1.size * r.length + (x.size + szs r) = (x.data.toList ++ joinTail a1 r).length
      rw [List.length_append, tail_len, hs]; omega
  have HO := Aside0.mk ho
  clear ho
  have hl0 : ((l0.length : Int) == 0) = false := beq_eq_false_iff_ne.2 (by omega)
  have hl1 : ((l0.length : Int) == 1) = false := beq_eq_false_iff_ne.2 (by omega)
  have hcase : (a1.size = 0 ∧ decide ((0 : Int) < (a1.size : Int)) = false ∧ a1.size * (l0.length - 1) = 0) ∨ (0 < a1.size ∧ decide ((0 : Int) < (a1.size : Int)) = true ∧ decide (9223372036854775807 / ((l0.length : Int) - 1) ≤ (a1.size : Int)) = false) := by
    by_cases hz : 0 < a1.size
    · refine .inr ⟨hz, decide_eq_true (by omega), decide_eq_false ?_⟩
      have hq0 : (a1.size : Int) < 9223372036854775807 / ((l0.length : Int) - 1) := by
        have e1 : ((l0.length : Int) - 1) = ((l0.length - 1 : Nat) : Int) := by omega
        rw [e1]
        have hpos : 0 < l0.length - 1 := by omega
        rw [Int.lt_iff_add_one_le, Int.le_ediv_iff_mul_le (by omega)]
        have h3 : l0.length - 1 ≤ a1.size * (l0.length - 1) := Nat.le_mul_of_pos_left _ hz
        have h4 : (a1.size + 1) * (l0.length - 1) ≤ 9223372036854775807 := by rw [Nat.succ_mul]; omega
        have h5 := Int.ofNat_le.2 h4
        rw [Int.natCast_mul, Int.natCast_add] at h5
        exact h5
      omega
    · refine .inl ⟨by omega, decide_eq_false (by omega), ?_⟩
      rw [show a1.size = 0 by omega, Nat.zero_mul]
  have hwr : wrap64 (wrap64 ((a1.size : Int) * ((l0.length : Int) - 1))) = ((a1.size * (l0.length - 1) : Nat) : Int) := by
    have e1 : ((a1.size : Int) * ((l0.length : Int) - 1)) = ((a1.size * (l0.length - 1) : Nat) : Int) := by
      rw [Int.natCast_mul]; congr 1; omega
    have h6 : a1.size * (l0.length - 1) ≤ 140737488355328 := by omega
    rw [e1]
    generalize a1.size * (l0.length - 1) = z at h6 ⊢
    rw [wrap_idJ (i := (z : Int)) (by omega) (by omega), wrap_idJ (by omega) (by omega)]
  have HWR := Aside0.mk hwr
  clear hwr
  generalize hn0 : a1.size * (l0.length - 1) = n0 at hcase htot HWR
  rcases hcase with ⟨hz, hz1, hn1⟩ | ⟨hz, hz1, hq⟩
  all_goals
    go_enter Tryd.func34, Tryd.ntmps34
    go_wp2
    go_loopw [5, 41] (fun v5 v41 wr => ∃ (n i : Nat), v5 = .int .i64 n ∧ v41 = .int .i64 i ∧ i ≤ l0.length ∧ n + szs (l0.drop i) = out.length ∧ w = wr) (fun _ v41 _ => l0.length - (intOf v41).toNat)
    case atStart => exact ⟨n0, 0, by first | rw [HWR.out] | (rw [hn1]; rfl), rfl, by omega, htot, rfl⟩
    case round =>
      obtain ⟨n, i, rfl, rfl, hi, hn, rfl⟩ := hrel
      have HN := Aside0.mk hn
      clear hn
      by_cases hlt : i < l0.length
      · obtain ⟨ad, rfl, hx⟩ := Kd.at_string HR.out (i : Int) (by omega) (by omega)
        have hgt : rdOf ByteArray.empty l0 (i : Int) = l0[i] := by
          simp [rdOf, List.getD, List.getElem?_eq_getElem hlt]
        have hdr : szs (l0.drop i) = l0[i].size + szs (l0.drop (i + 1)) := by rw [List.drop_eq_getElem_cons hlt]; rfl
        have hn2 := HN.out
        rw [hdr] at hn2
        rw [hgt] at hx
        have hx' : w.cell? (ad.add i) = some (.string l0[i]) := hx
        have HN2 := Aside0.mk hn2
        have hb : n + l0[i].size ≤ 140737488355328 := by omega
        clear hn2 hdr hgt
        go_wp2
        go_roundw
        case rel => exact ⟨n + l0[i].size, i + 1, by first | rfl | go_num, by first | rfl | go_num, by omega, by rw [← HN2.out]; omega, by first | rfl | trivial⟩
        case measure => simp [intOf] <;> omega
      · have hn3 : n = out.length := by
          have := HN.out
          rw [List.drop_eq_nil_of_le (by omega)] at this
          exact this
        subst hn3
        clear HN
        go_wp2_with (go_at_call 55; refine (Tryd.Builder_Grow_fresh w.heap.size w.heap.size out.length _ (Nat.le_refl _) (heap_alloc_new w _) (by simp) (by omega)).mono ?_)
        rintro e w1 ⟨rfl, hbd, hb1⟩
        have hB1 := Aside0.mk ((below_one w _).trans hb1)
        have HD := Aside0.mk hbd
        clear hbd hb1
        have HR1 := Aside0.mk (Kd.C_below HR.out hB1.out)
        obtain ⟨ad, rfl, hx⟩ := Kd.at_string HR1.out 0 (by omega) (by omega)
        have hx' : w1.cell? (ad.add 0) = some (.string (l0[0]'(by omega))) := by
          rw [show rdOf ByteArray.empty l0 0 = l0[0]'(by omega) by simp [rdOf, List.getD, List.getElem?_eq_getElem (show 0 < l0.length by omega)]] at hx
          exact hx
        have hx0 : w1.cell? ad = some (.string (l0[0]'(by omega))) := by
          have : ad.add 0 = ad := by cases ad; rfl
          rw [← this]; exact hx'
        clear hx
        have HGO : Aside0 ((l0[0]'(by omega)).data.toList ++ joinTail a1 (l0.drop 1) = out) := Aside0.mk (by
          have h0 := HO.out
          cases l0 with
          | nil => simp at h2
          | cons x r => exact h0)
        have hs0 : (l0[0]'(by omega)).size ≤ out.length := by
          have h0 := congrArg List.length HGO.out
          rw [List.length_append] at h0
          have : ∀ b : ByteArray, b.data.toList.length = b.size := fun b => by simp
          rw [this] at h0; omega
        go_wp2_with fail
        refine (Bld.write w.heap.size w.heap.size _ _ _ (.inr HD.out) (by simp; omega) hB1.out.size).mono ?_
        rintro e w2 ⟨rfl, hbd, hwr⟩
        have HW := Aside0.mk hwr
        have HD2 := Aside0.mk hbd
        clear hwr hbd
        go_wp2_with fail
        have hj0 : Aside0 (JAt w w2 a1 l0 0 (l0[0]'(by omega)).data.toList out) := Aside0.mk (by
          refine ⟨hB1.out.trans HW.out.below, .inr ?_, HGO.out⟩
          have := HD2.out
          rw [List.nil_append] at this
          rw [byteCells_str] at this; exact this)
        go_loopw [65] (fun v65 wr => ∃ (j : Nat) (acc : List UInt8), v65 = .int .i64 j ∧ j ≤ l0.length - 1 ∧ Aside0 (JAt w wr a1 l0 j acc out)) (fun v65 _ => l0.length - (intOf v65).toNat)
        case atStart => exact ⟨0, _, rfl, by omega, hj0⟩
        case round =>
          obtain ⟨j, acc, rfl, hj, HJ⟩ := hrel
          by_cases hlt2 : j < l0.length - 1
          · have HRJ := Kd.C_below HR.out HJ.out.below
            obtain ⟨ad', had, hy⟩ := Kd.at_string HRJ ((j : Int) + 1) (by omega) (by omega)
            injection had with had
            subst had
            have hj1 : j + 1 < l0.length := by omega
            have hy1 : wr.cell? (ad.add (j + 1)) = some (.string (l0[j + 1]'hj1)) := by
              rw [show rdOf ByteArray.empty l0 ((j : Int) + 1) = l0[j + 1]'hj1 by
                simp only [rdOf, List.getD, show ((j : Int) + 1).toNat = j + 1 by omega, List.getElem?_eq_getElem hj1, Option.getD_some]] at hy
              exact hy
            have hy2 : wr.cell? ((ad.add 1).add j) = some (.string (l0[j + 1]'hj1)) := by
              have : (ad.add 1).add j = ad.add (j + 1) := by rw [add_add, Nat.add_comm 1 j]
              rw [this]; exact hy1
            have hy3 : wr.cell? { block := ad.block, off := ad.off + 1 + j, spot := none } = some (.string (l0[j + 1]'hj1)) := by
              have : ({ block := ad.block, off := ad.off + 1 + j, spot := none } : Addr) = ad.add (j + 1) := by unfold Addr.add; rw [if_neg (by omega), Nat.add_assoc, Nat.add_comm 1 j]
              rw [this]; exact hy1
            clear hy HRJ
            have hst : joinTail a1 (l0.drop (j + 1)) = a1.data.toList ++ (l0[j + 1]'hj1).data.toList ++ joinTail a1 (l0.drop (j + 1 + 1)) := by rw [List.drop_eq_getElem_cons hj1]; rfl
            have HG : Aside0 (acc ++ a1.data.toList ++ (l0[j + 1]'hj1).data.toList ++ joinTail a1 (l0.drop (j + 1 + 1)) = out) := Aside0.mk (by
              rw [← HJ.out.go, hst]; simp only [List.append_assoc])
            clear hst
            have hsz : acc.length + a1.size + (l0[j + 1]'hj1).size ≤ out.length := by
              have h0 := congrArg List.length HG.out
              rw [List.length_append, List.length_append, List.length_append] at h0
              have : ∀ b : ByteArray, b.data.toList.length = b.size := fun b => by simp
              rw [this, this] at h0; omega
            go_wp2_with fail
            refine (Bld.write w.heap.size w.heap.size _ a1 _ HJ.out.bld (by rw [byteCells_length]; omega) HJ.out.below.size).mono ?_
            rintro e wx ⟨rfl, hbd, hwr⟩
            have HW3 := Aside0.mk hwr
            have HD3 := Aside0.mk hbd
            clear hwr hbd
            go_wp2_with fail
            refine (Bld.write w.heap.size w.heap.size _ (l0[j + 1]'hj1) _ (.inr HD3.out) (by rw [List.length_append, byteCells_length, Lib.strCells_length]; omega) (Nat.le_trans HJ.out.below.size HW3.out.below.size)).mono ?_
            rintro e wy ⟨rfl, hbd, hwr⟩
            have HW4 := Aside0.mk hwr
            have HD4 := Aside0.mk hbd
            clear hwr hbd
            go_wp2_with fail
            go_roundw
            case rel =>
              refine ⟨j + 1, acc ++ a1.data.toList ++ (l0[j + 1]'hj1).data.toList, by first | rfl | go_num, by omega, Aside0.mk ⟨HJ.out.below.trans (HW3.out.below.trans HW4.out.below), .inr ?_, HG.out⟩⟩
              have := HD4.out
              rw [byteCells_str, byteCells_str, ← Lib.byteCells_append, ← Lib.byteCells_append] at this
              exact this
            case measure => simp [intOf] <;> omega
          · have hout : acc = out := by
              have h0 := HJ.out.go
              rw [List.drop_eq_nil_of_le (by omega)] at h0
              rw [← h0]; exact (List.append_nil acc).symm
            subst hout
            go_wp2_with fail
            refine (Bld.str w.heap.size w.heap.size acc wr HJ.out.bld HJ.out.below.size).mono ?_
            rintro e w3 ⟨rfl, hb3⟩
            have HB3 := Aside0.mk hb3
            clear hb3
            go_wp2
            go_ret
            exact ⟨rfl, HJ.out.below.trans HB3.out⟩
set_option maxHeartbeats 2000000 in
theorem strings_Join.calls (A0 : Option Addr) (c0 : Nat) (l0 : List ByteArray) (a1 : ByteArray) (r : ByteArray) (w : World) (hr0 : Kd.string.C w A0 l0.length l0) (hc0 : l0.length ≤ c0) (h : strings_Join.f l0 a1 = some r) :
    Calls Tryd.prog 34 #[.slice A0 l0.length c0, .string a1] w fun e w' => e = .returned (.string r) ∧ Below w.heap.size w w' := by
  unfold strings_Join.f at h
  split at h
  · rename_i hlen
    obtain rfl := Option.some.inj h
    clear h
    match l0, hr0, hc0, hlen with
    | [], hr0, hc0, hlen =>
      go_enter Tryd.func34, Tryd.ntmps34
      go_wp2
      go_ret
      exact ⟨rfl, Below.refl _ _⟩
    | [x], hr0, hc0, hlen =>
      obtain ⟨ad, rfl, hx⟩ := Kd.at_string hr0 0 (by omega) (show (0 : Int) < 1 by decide)
      have hx' : w.cell? (ad.add 0) = some (.string x) := hx
      have hx0 : w.cell? ad = some (.string x) := by
        have : ad.add 0 = ad := by cases ad; rfl
        rw [← this]; exact hx'
      have hj : (⟨(joinGo a1 [x]).toArray⟩ : ByteArray) = x := by
        show ByteArray.mk (x.data.toList ++ []).toArray = x
        rw [List.append_nil]
      rw [hj]
      clear hx hr0 hlen hj
      go_enter Tryd.func34, Tryd.ntmps34
      go_wp2
      go_ret
      exact ⟨rfl, Below.refl _ _⟩
    | x :: y :: r, hr0, hc0, hlen => exact join_many _ _ _ a1 _ w hr0 hc0 (by simp) rfl hlen
  · cases h
end Go.Proofs.YtiacdccnifjcjaaDoor.F
set_option linter.unusedVariables false
set_option linter.unusedSimpArgs false
namespace Go.Proofs.YtiacdccnifjcjaaDoor.F
open Go.RowKit Go.Proofs.YtiacdccnifjcjaaDoorW.PrintWords Go.Proofs.YtiacdccnifjcjaaDoorW.PrintLast Go.Proofs.YtiacdccnifjcjaaDoorW.PrintMore Go.Proofs.YtiacdccnifjcjaaDoor.Aid
def flagTab : List (Int × UInt8) := [(32, 97), (128, 67), (1, 101), (8, 102), (64, 109), (16, 110), (2, 117), (4, 120)]
def flagsOf (o : Int) : List (Int × UInt8) → List UInt8
  | [] => []
  | x :: r => if Go.bits .and .i64 o x.1 = 0 then flagsOf o r else x.2 :: flagsOf o r
def param_flags.f (a0 : Int) : Option ByteArray := some ⟨(flagsOf a0 flagTab).toArray⟩
theorem put_byte (t : List UInt8) (c : UInt8) : (⟨t.toArray⟩ : ByteArray) ++ ⟨#[c]⟩ = ⟨(t ++ [c]).toArray⟩ := by
  apply ByteArray.ext
  rw [ByteArray.data_append]
  simp
set_option maxHeartbeats 8000000 in
set_option maxRecDepth 100000 in
theorem param_flags.calls (a0 : Int) (r : ByteArray) (w : World) (h : param_flags.f a0 = some r) :
    Calls Tryd.prog 33 #[.int .i64 a0] w fun e w' => e = .returned (.string r) ∧ Below w.heap.size w w' := by
  have HR : Hid (r = ⟨(flagsOf a0 flagTab).toArray⟩) := Lib.hid (Option.some.inj h).symm
  clear h
  have i0 : ∀ w : World, (Instr.index 79 (.agg #[.int .i64 32, .string ⟨#[97]⟩, .int .i64 128, .string ⟨#[67]⟩, .int .i64 1, .string ⟨#[101]⟩, .int .i64 8, .string ⟨#[102]⟩, .int .i64 64, .string ⟨#[109]⟩, .int .i64 16, .string ⟨#[110]⟩, .int .i64 2, .string ⟨#[117]⟩, .int .i64 4, .string ⟨#[120]⟩]) (.int .i64 0)).run Tryd.prog w = .ok (.agg #[.int .i64 32, .string ⟨#[97]⟩]) w := fun _ => by kernel_rfl
  have i1 : ∀ w : World, (Instr.index 79 (.agg #[.int .i64 32, .string ⟨#[97]⟩, .int .i64 128, .string ⟨#[67]⟩, .int .i64 1, .string ⟨#[101]⟩, .int .i64 8, .string ⟨#[102]⟩, .int .i64 64, .string ⟨#[109]⟩, .int .i64 16, .string ⟨#[110]⟩, .int .i64 2, .string ⟨#[117]⟩, .int .i64 4, .string ⟨#[120]⟩]) (.int .i64 1)).run Tryd.prog w = .ok (.agg #[.int .i64 128, .string ⟨#[67]⟩]) w := fun _ => by kernel_rfl
  have i2 : ∀ w : World, (Instr.index 79 (.agg #[.int .i64 32, .string ⟨#[97]⟩, .int .i64 128, .string ⟨#[67]⟩, .int .i64 1, .string ⟨#[101]⟩, .int .i64 8, .string ⟨#[102]⟩, .int .i64 64, .string ⟨#[109]⟩, .int .i64 16, .string ⟨#[110]⟩, .int .i64 2, .string ⟨#[117]⟩, .int .i64 4, .string ⟨#[120]⟩]) (.int .i64 2)).run Tryd.prog w = .ok (.agg #[.int .i64 1, .string ⟨#[101]⟩]) w := fun _ => by kernel_rfl
  have i3 : ∀ w : World, (Instr.index 79 (.agg #[.int .i64 32, .string ⟨#[97]⟩, .int .i64 128, .string ⟨#[67]⟩, .int .i64 1, .string ⟨#[101]⟩, .int .i64 8, .string ⟨#[102]⟩, .int .i64 64, .string ⟨#[109]⟩, .int .i64 16, .string ⟨#[110]⟩, .int .i64 2, .string ⟨#[117]⟩, .int .i64 4, .string ⟨#[120]⟩]) (.int .i64 3)).run Tryd.prog w = .ok (.agg #[.int .i64 8, .string ⟨#[102]⟩]) w := fun _ => by kernel_rfl
  have i4 : ∀ w : World, (Instr.index 79 (.agg #[.int .i64 32, .string ⟨#[97]⟩, .int .i64 128, .string ⟨#[67]⟩, .int .i64 1, .string ⟨#[101]⟩, .int .i64 8, .string ⟨#[102]⟩, .int .i64 64, .string ⟨#[109]⟩, .int .i64 16, .string ⟨#[110]⟩, .int .i64 2, .string ⟨#[117]⟩, .int .i64 4, .string ⟨#[120]⟩]) (.int .i64 4)).run Tryd.prog w = .ok (.agg #[.int .i64 64, .string ⟨#[109]⟩]) w := fun _ => by kernel_rfl
  have i5 : ∀ w : World, (Instr.index 79 (.agg #[.int .i64 32, .string ⟨#[97]⟩, .int .i64 128, .string ⟨#[67]⟩, .int .i64 1, .string ⟨#[101]⟩, .int .i64 8, .string ⟨#[102]⟩, .int .i64 64, .string ⟨#[109]⟩, .int .i64 16, .string ⟨#[110]⟩, .int .i64 2, .string ⟨#[117]⟩, .int .i64 4, .string ⟨#[120]⟩]) (.int .i64 5)).run Tryd.prog w = .ok (.agg #[.int .i64 16, .string ⟨#[110]⟩]) w := fun _ => by kernel_rfl
  have i6 : ∀ w : World, (Instr.index 79 (.agg #[.int .i64 32, .string ⟨#[97]⟩, .int .i64 128, .string ⟨#[67]⟩, .int .i64 1, .string ⟨#[101]⟩, .int .i64 8, .string ⟨#[102]⟩, .int .i64 64, .string ⟨#[109]⟩, .int .i64 16, .string ⟨#[110]⟩, .int .i64 2, .string ⟨#[117]⟩, .int .i64 4, .string ⟨#[120]⟩]) (.int .i64 6)).run Tryd.prog w = .ok (.agg #[.int .i64 2, .string ⟨#[117]⟩]) w := fun _ => by kernel_rfl
  have i7 : ∀ w : World, (Instr.index 79 (.agg #[.int .i64 32, .string ⟨#[97]⟩, .int .i64 128, .string ⟨#[67]⟩, .int .i64 1, .string ⟨#[101]⟩, .int .i64 8, .string ⟨#[102]⟩, .int .i64 64, .string ⟨#[109]⟩, .int .i64 16, .string ⟨#[110]⟩, .int .i64 2, .string ⟨#[117]⟩, .int .i64 4, .string ⟨#[120]⟩]) (.int .i64 7)).run Tryd.prog w = .ok (.agg #[.int .i64 4, .string ⟨#[120]⟩]) w := fun _ => by kernel_rfl
  go_enter Tryd.func33, Tryd.ntmps33
  go_wp2
  go_loopw [3, 15] (fun v3 v15 wr => ∃ (k : Nat) (t : List UInt8), v3 = .string ⟨t.toArray⟩ ∧ v15 = .int .i64 k ∧ k ≤ 8 ∧ t.length ≤ k ∧ Below w.heap.size w wr ∧ t ++ flagsOf a0 (flagTab.drop k) = flagsOf a0 flagTab) (fun _ v15 _ => 8 - (intOf v15).toNat)
  case atStart => exact ⟨0, [], rfl, rfl, by omega, Nat.le_refl _, Below.refl _ _, rfl⟩
  case round =>
    obtain ⟨k, t, rfl, rfl, hk, hl, hb, ht⟩ := hrel
    have Hb := Lib.hid hb
    have Ht := Lib.hid ht
    clear hb ht
    rcases (by omega : k = 8 ∨ k = 0 ∨ k = 1 ∨ k = 2 ∨ k = 3 ∨ k = 4 ∨ k = 5 ∨ k = 6 ∨ k = 7) with rfl | hk2
    · have HR2 : Hid (r = ⟨t.toArray⟩) := Lib.hid (by rw [HR.out, ← Ht.out, show flagsOf a0 (flagTab.drop 8) = [] from rfl, List.append_nil])
      go_wp2
      go_ret
      rw [HR2.out]
      exact ⟨rfl, Hb.out⟩
    clear hk
    rcases hk2 with rfl | rfl | rfl | rfl | rfl | rfl | rfl | rfl
    · have hst : flagsOf a0 (flagTab.drop 0) = if Go.bits .and .i64 a0 32 = 0 then flagsOf a0 (flagTab.drop 1) else 97 :: flagsOf a0 (flagTab.drop 1) := rfl
      have Hst := Lib.hid hst
      clear hst
      by_cases hc : Go.bits .and .i64 a0 32 = 0
      · have hcb : (Go.bits .and .i64 a0 32 != 0) = false := by rw [bne_eq_false_iff_eq]; exact hc
        have Ht2 : Hid (t ++ flagsOf a0 (flagTab.drop 1) = flagsOf a0 flagTab) := Lib.hid (by rw [← Ht.out, Hst.out, if_pos hc])
        clear hc
        go_wp2
        go_roundw
        case rel => exact ⟨1, t, rfl, rfl, by omega, by omega, Hb.out.alloc Hb.out.size _, Ht2.out⟩
        case measure => show 8 - (1 : Int).toNat < 8 - (0 : Int).toNat; omega
      · have hcb : (Go.bits .and .i64 a0 32 != 0) = true := by rw [bne_iff_ne]; exact hc
        have Ht2 : Hid ((t ++ [97]) ++ flagsOf a0 (flagTab.drop 1) = flagsOf a0 flagTab) := Lib.hid (by rw [← Ht.out, Hst.out, if_neg hc, List.append_assoc]; rfl)
        clear hc
        go_wp2
        go_roundw
        case rel => exact ⟨1, t ++ [97], congrArg Value.string (put_byte t 97), rfl, by omega, by rw [List.length_append]; exact Nat.succ_le_succ hl, Hb.out.alloc Hb.out.size _, Ht2.out⟩
        case measure => show 8 - (1 : Int).toNat < 8 - (0 : Int).toNat; omega
    · have hst : flagsOf a0 (flagTab.drop 1) = if Go.bits .and .i64 a0 128 = 0 then flagsOf a0 (flagTab.drop 2) else 67 :: flagsOf a0 (flagTab.drop 2) := rfl
      have Hst := Lib.hid hst
      clear hst
      by_cases hc : Go.bits .and .i64 a0 128 = 0
      · have hcb : (Go.bits .and .i64 a0 128 != 0) = false := by rw [bne_eq_false_iff_eq]; exact hc
        have Ht2 : Hid (t ++ flagsOf a0 (flagTab.drop 2) = flagsOf a0 flagTab) := Lib.hid (by rw [← Ht.out, Hst.out, if_pos hc])
        clear hc
        go_wp2
        go_roundw
        case rel => exact ⟨2, t, rfl, rfl, by omega, by omega, Hb.out.alloc Hb.out.size _, Ht2.out⟩
        case measure => show 8 - (2 : Int).toNat < 8 - (1 : Int).toNat; omega
      · have hcb : (Go.bits .and .i64 a0 128 != 0) = true := by rw [bne_iff_ne]; exact hc
        have Ht2 : Hid ((t ++ [67]) ++ flagsOf a0 (flagTab.drop 2) = flagsOf a0 flagTab) := Lib.hid (by rw [← Ht.out, Hst.out, if_neg hc, List.append_assoc]; rfl)
        clear hc
        go_wp2
        go_roundw
        case rel => exact ⟨2, t ++ [67], congrArg Value.string (put_byte t 67), rfl, by omega, by rw [List.length_append]; exact Nat.succ_le_succ hl, Hb.out.alloc Hb.out.size _, Ht2.out⟩
        case measure => show 8 - (2 : Int).toNat < 8 - (1 : Int).toNat; omega
    · have hst : flagsOf a0 (flagTab.drop 2) = if Go.bits .and .i64 a0 1 = 0 then flagsOf a0 (flagTab.drop 3) else 101 :: flagsOf a0 (flagTab.drop 3) := rfl
      have Hst := Lib.hid hst
      clear hst
      by_cases hc : Go.bits .and .i64 a0 1 = 0
      · have hcb : (Go.bits .and .i64 a0 1 != 0) = false := by rw [bne_eq_false_iff_eq]; exact hc
        have Ht2 : Hid (t ++ flagsOf a0 (flagTab.drop 3) = flagsOf a0 flagTab) := Lib.hid (by rw [← Ht.out, Hst.out, if_pos hc])
        clear hc
        go_wp2
        go_roundw
        case rel => exact ⟨3, t, rfl, rfl, by omega, by omega, Hb.out.alloc Hb.out.size _, Ht2.out⟩
        case measure => show 8 - (3 : Int).toNat < 8 - (2 : Int).toNat; omega
      · have hcb : (Go.bits .and .i64 a0 1 != 0) = true := by rw [bne_iff_ne]; exact hc
        have Ht2 : Hid ((t ++ [101]) ++ flagsOf a0 (flagTab.drop 3) = flagsOf a0 flagTab) := Lib.hid (by rw [← Ht.out, Hst.out, if_neg hc, List.append_assoc]; rfl)
        clear hc
        go_wp2
        go_roundw
        case rel => exact ⟨3, t ++ [101], congrArg Value.string (put_byte t 101), rfl, by omega, by rw [List.length_append]; exact Nat.succ_le_succ hl, Hb.out.alloc Hb.out.size _, Ht2.out⟩
        case measure => show 8 - (3 : Int).toNat < 8 - (2 : Int).toNat; omega
    · have hst : flagsOf a0 (flagTab.drop 3) = if Go.bits .and .i64 a0 8 = 0 then flagsOf a0 (flagTab.drop 4) else 102 :: flagsOf a0 (flagTab.drop 4) := rfl
      have Hst := Lib.hid hst
      clear hst
      by_cases hc : Go.bits .and .i64 a0 8 = 0
      · have hcb : (Go.bits .and .i64 a0 8 != 0) = false := by rw [bne_eq_false_iff_eq]; exact hc
        have Ht2 : Hid (t ++ flagsOf a0 (flagTab.drop 4) = flagsOf a0 flagTab) := Lib.hid (by rw [← Ht.out, Hst.out, if_pos hc])
        clear hc
        go_wp2
        go_roundw
        case rel => exact ⟨4, t, rfl, rfl, by omega, by omega, Hb.out.alloc Hb.out.size _, Ht2.out⟩
        case measure => show 8 - (4 : Int).toNat < 8 - (3 : Int).toNat; omega
      · have hcb : (Go.bits .and .i64 a0 8 != 0) = true := by rw [bne_iff_ne]; exact hc
        have Ht2 : Hid ((t ++ [102]) ++ flagsOf a0 (flagTab.drop 4) = flagsOf a0 flagTab) := Lib.hid (by rw [← Ht.out, Hst.out, if_neg hc, List.append_assoc]; rfl)
        clear hc
        go_wp2
        go_roundw
        case rel => exact ⟨4, t ++ [102], congrArg Value.string (put_byte t 102), rfl, by omega, by rw [List.length_append]; exact Nat.succ_le_succ hl, Hb.out.alloc Hb.out.size _, Ht2.out⟩
        case measure => show 8 - (4 : Int).toNat < 8 - (3 : Int).toNat; omega
    · have hst : flagsOf a0 (flagTab.drop 4) = if Go.bits .and .i64 a0 64 = 0 then flagsOf a0 (flagTab.drop 5) else 109 :: flagsOf a0 (flagTab.drop 5) := rfl
      have Hst := Lib.hid hst
      clear hst
      by_cases hc : Go.bits .and .i64 a0 64 = 0
      · have hcb : (Go.bits .and .i64 a0 64 != 0) = false := by rw [bne_eq_false_iff_eq]; exact hc
        have Ht2 : Hid (t ++ flagsOf a0 (flagTab.drop 5) = flagsOf a0 flagTab) := Lib.hid (by rw [← Ht.out, Hst.out, if_pos hc])
        clear hc
        go_wp2
        go_roundw
        case rel => exact ⟨5, t, rfl, rfl, by omega, by omega, Hb.out.alloc Hb.out.size _, Ht2.out⟩
        case measure => show 8 - (5 : Int).toNat < 8 - (4 : Int).toNat; omega
      · have hcb : (Go.bits .and .i64 a0 64 != 0) = true := by rw [bne_iff_ne]; exact hc
        have Ht2 : Hid ((t ++ [109]) ++ flagsOf a0 (flagTab.drop 5) = flagsOf a0 flagTab) := Lib.hid (by rw [← Ht.out, Hst.out, if_neg hc, List.append_assoc]; rfl)
        clear hc
        go_wp2
        go_roundw
        case rel => exact ⟨5, t ++ [109], congrArg Value.string (put_byte t 109), rfl, by omega, by rw [List.length_append]; exact Nat.succ_le_succ hl, Hb.out.alloc Hb.out.size _, Ht2.out⟩
        case measure => show 8 - (5 : Int).toNat < 8 - (4 : Int).toNat; omega
    · have hst : flagsOf a0 (flagTab.drop 5) = if Go.bits .and .i64 a0 16 = 0 then flagsOf a0 (flagTab.drop 6) else 110 :: flagsOf a0 (flagTab.drop 6) := rfl
      have Hst := Lib.hid hst
      clear hst
      by_cases hc : Go.bits .and .i64 a0 16 = 0
      · have hcb : (Go.bits .and .i64 a0 16 != 0) = false := by rw [bne_eq_false_iff_eq]; exact hc
        have Ht2 : Hid (t ++ flagsOf a0 (flagTab.drop 6) = flagsOf a0 flagTab) := Lib.hid (by rw [← Ht.out, Hst.out, if_pos hc])
        clear hc
        go_wp2
        go_roundw
        case rel => exact ⟨6, t, rfl, rfl, by omega, by omega, Hb.out.alloc Hb.out.size _, Ht2.out⟩
        case measure => show 8 - (6 : Int).toNat < 8 - (5 : Int).toNat; omega
      · have hcb : (Go.bits .and .i64 a0 16 != 0) = true := by rw [bne_iff_ne]; exact hc
        have Ht2 : Hid ((t ++ [110]) ++ flagsOf a0 (flagTab.drop 6) = flagsOf a0 flagTab) := Lib.hid (by rw [← Ht.out, Hst.out, if_neg hc, List.append_assoc]; rfl)
        clear hc
        go_wp2
        go_roundw
        case rel => exact ⟨6, t ++ [110], congrArg Value.string (put_byte t 110), rfl, by omega, by rw [List.length_append]; exact Nat.succ_le_succ hl, Hb.out.alloc Hb.out.size _, Ht2.out⟩
        case measure => show 8 - (6 : Int).toNat < 8 - (5 : Int).toNat; omega
    · have hst : flagsOf a0 (flagTab.drop 6) = if Go.bits .and .i64 a0 2 = 0 then flagsOf a0 (flagTab.drop 7) else 117 :: flagsOf a0 (flagTab.drop 7) := rfl
      have Hst := Lib.hid hst
      clear hst
      by_cases hc : Go.bits .and .i64 a0 2 = 0
      · have hcb : (Go.bits .and .i64 a0 2 != 0) = false := by rw [bne_eq_false_iff_eq]; exact hc
        have Ht2 : Hid (t ++ flagsOf a0 (flagTab.drop 7) = flagsOf a0 flagTab) := Lib.hid (by rw [← Ht.out, Hst.out, if_pos hc])
        clear hc
        go_wp2
        go_roundw
        case rel => exact ⟨7, t, rfl, rfl, by omega, by omega, Hb.out.alloc Hb.out.size _, Ht2.out⟩
        case measure => show 8 - (7 : Int).toNat < 8 - (6 : Int).toNat; omega
      · have hcb : (Go.bits .and .i64 a0 2 != 0) = true := by rw [bne_iff_ne]; exact hc
        have Ht2 : Hid ((t ++ [117]) ++ flagsOf a0 (flagTab.drop 7) = flagsOf a0 flagTab) := Lib.hid (by rw [← Ht.out, Hst.out, if_neg hc, List.append_assoc]; rfl)
        clear hc
        go_wp2
        go_roundw
        case rel => exact ⟨7, t ++ [117], congrArg Value.string (put_byte t 117), rfl, by omega, by rw [List.length_append]; exact Nat.succ_le_succ hl, Hb.out.alloc Hb.out.size _, Ht2.out⟩
        case measure => show 8 - (7 : Int).toNat < 8 - (6 : Int).toNat; omega
    · have hst : flagsOf a0 (flagTab.drop 7) = if Go.bits .and .i64 a0 4 = 0 then flagsOf a0 (flagTab.drop 8) else 120 :: flagsOf a0 (flagTab.drop 8) := rfl
      have Hst := Lib.hid hst
      clear hst
      by_cases hc : Go.bits .and .i64 a0 4 = 0
      · have hcb : (Go.bits .and .i64 a0 4 != 0) = false := by rw [bne_eq_false_iff_eq]; exact hc
        have Ht2 : Hid (t ++ flagsOf a0 (flagTab.drop 8) = flagsOf a0 flagTab) := Lib.hid (by rw [← Ht.out, Hst.out, if_pos hc])
        clear hc
        go_wp2
        go_roundw
        case rel => exact ⟨8, t, rfl, rfl, by omega, by omega, Hb.out.alloc Hb.out.size _, Ht2.out⟩
        case measure => show 8 - (8 : Int).toNat < 8 - (7 : Int).toNat; omega
      · have hcb : (Go.bits .and .i64 a0 4 != 0) = true := by rw [bne_iff_ne]; exact hc
        have Ht2 : Hid ((t ++ [120]) ++ flagsOf a0 (flagTab.drop 8) = flagsOf a0 flagTab) := Lib.hid (by rw [← Ht.out, Hst.out, if_neg hc, List.append_assoc]; rfl)
        clear hc
        go_wp2
        go_roundw
        case rel => exact ⟨8, t ++ [120], congrArg Value.string (put_byte t 120), rfl, by omega, by rw [List.length_append]; exact Nat.succ_le_succ hl, Hb.out.alloc Hb.out.size _, Ht2.out⟩
        case measure => show 8 - (8 : Int).toNat < 8 - (7 : Int).toNat; omega
end Go.Proofs.YtiacdccnifjcjaaDoor.F
set_option linter.unusedVariables false
set_option linter.unusedSimpArgs false
namespace Go.Proofs.YtiacdccnifjcjaaDoor.F
open Go.RowKit Go.Proofs.YtiacdccnifjcjaaDoorW.PrintWords Go.Proofs.YtiacdccnifjcjaaDoorW.PrintLast Go.Proofs.YtiacdccnifjcjaaDoorW.PrintMore Go.Proofs.YtiacdccnifjcjaaDoor.Aid
def isLet (x : Int) : Bool := (decide (97 ≤ x) && decide (x ≤ 122)) || (decide (65 ≤ x) && decide (x ≤ 90))
def isDig (x : Int) : Bool := decide (48 ≤ x) && decide (x ≤ 57)
def nameCh (first : Bool) (x : Int) : Bool := (x == 95) || isLet x || (!first && isDig x)
def nameGo : List UInt8 → Bool → Bool
  | [], _ => true
  | c :: r, first => if nameCh first (c.toNat : Int) then nameGo r false else false
def chars_Name.f (a0 : ByteArray) : Option Bool :=
  if a0.size = 0 then some false else if 32 < a0.size then some false else some (nameGo a0.data.toList true)
theorem byte_dropE (s : ByteArray) (i : Nat) (h : i < s.size) : s.data.toList.drop i = s[i] :: s.data.toList.drop (i + 1) := by
  rw [List.drop_eq_getElem_cons (by simpa using h)]; rfl
theorem nameCh_high (b : Bool) (x : Int) (h : 127 < x) : nameCh b x = false := by
  have h1 : (x == 95) = false := beq_eq_false_iff_ne.2 (by omega)
  have h2 : decide (x ≤ 122) = false := decide_eq_false (by omega)
  have h3 : decide (x ≤ 90) = false := decide_eq_false (by omega)
  have h4 : decide (x ≤ 57) = false := decide_eq_false (by omega)
  unfold nameCh isLet isDig
  rw [h1, h2, h3, h4, Bool.and_false, Bool.and_false, Bool.and_false, Bool.and_false]; rfl
theorem name_cls (x : Int) (p : Nat) :
    (nameCh (decide (p = 0)) x = true ∧ ((x != 95) = false ∨
      ((x != 95) = true ∧ decide (97 ≤ x) = true ∧ decide (x ≤ 122) = true) ∨
      ((x != 95) = true ∧ decide (97 ≤ x) = false ∧ decide (65 ≤ x) = true ∧ decide (x ≤ 90) = true) ∨
      (((p : Int) == 0) = false ∧ (x != 95) = true ∧ decide (97 ≤ x) = false ∧ decide (65 ≤ x) = false ∧ decide (48 ≤ x) = true ∧ decide (x ≤ 57) = true))) ∨
    (nameCh (decide (p = 0)) x = false ∧ (
      ((x != 95) = true ∧ decide (97 ≤ x) = true ∧ decide (x ≤ 122) = false ∧ decide (65 ≤ x) = true ∧ decide (x ≤ 90) = false ∧ ((p : Int) == 0) = true) ∨
      ((x != 95) = true ∧ decide (97 ≤ x) = true ∧ decide (x ≤ 122) = false ∧ decide (65 ≤ x) = true ∧ decide (x ≤ 90) = false ∧ ((p : Int) == 0) = false ∧ decide (48 ≤ x) = true ∧ decide (x ≤ 57) = false) ∨
      ((x != 95) = true ∧ decide (97 ≤ x) = false ∧ decide (65 ≤ x) = true ∧ decide (x ≤ 90) = false ∧ ((p : Int) == 0) = true) ∨
      ((x != 95) = true ∧ decide (97 ≤ x) = false ∧ decide (65 ≤ x) = true ∧ decide (x ≤ 90) = false ∧ ((p : Int) == 0) = false ∧ decide (48 ≤ x) = true ∧ decide (x ≤ 57) = false) ∨
      ((x != 95) = true ∧ decide (97 ≤ x) = false ∧ decide (65 ≤ x) = false ∧ ((p : Int) == 0) = true) ∨
      ((x != 95) = true ∧ decide (97 ≤ x) = false ∧ decide (65 ≤ x) = false ∧ ((p : Int) == 0) = false ∧ decide (48 ≤ x) = true ∧ decide (x ≤ 57) = false) ∨
      ((x != 95) = true ∧ decide (97 ≤ x) = false ∧ decide (65 ≤ x) = false ∧ ((p : Int) == 0) = false ∧ decide (48 ≤ x) = false))) := by
  have hb : (x == 95) = decide (x = 95) := by by_cases h : x = 95 <;> simp [h]
  have hb' : (x != 95) = !decide (x = 95) := by by_cases h : x = 95 <;> simp [h]
  have hp : ((p : Int) == 0) = decide (p = 0) := by by_cases h : p = 0 <;> simp [h]
  have hp' : (decide (p = 0)) = !(decide (p ≠ 0)) := by by_cases h : p = 0 <;> simp [h]
  unfold nameCh isLet isDig
  rw [hb, hb', hp]
  by_cases h0 : x = 95
  · subst h0; simp
  · by_cases h1 : 97 ≤ x <;> by_cases h2 : x ≤ 122 <;> by_cases h3 : 65 ≤ x <;> by_cases h4 : x ≤ 90 <;> by_cases h5 : 48 ≤ x <;> by_cases h6 : x ≤ 57 <;> by_cases h7 : p = 0 <;> first | (exfalso; omega) | simp [h0, h1, h2, h3, h4, h5, h6, h7]
set_option maxHeartbeats 8000000 in
theorem name_loop (s : ByteArray) (w : World) (h1 : 0 < s.size) (h2 : s.size ≤ 32) (v : Bool) (hv : nameGo s.data.toList true = v) :
    Calls Tryd.prog 37 #[.string s] w fun e w' => e = .returned (.bool v) ∧ Below w.heap.size w w' := by
  have HV := Lib.hid hv
  clear hv
  have e1 : decide ((32 : Int) < (s.size : Int)) = false := decide_eq_false (by omega)
  have e0' : (!s.toList.isEmpty) = true := by
    rw [Lib.toList_data]
    have hl : s.data.toList.length = s.size := by simp
    cases h : s.data.toList with
    | nil => rw [h] at hl; simp at hl; omega
    | cons _ _ => rfl
  have e0 : s.toList.isEmpty = false := by simpa using e0'
  go_enter Tryd.func37, Tryd.ntmps37
  go_wp2
  go_loopw [] (fun wr => ∃ (p : Nat), p ≤ s.size ∧ wr = w.iter s p ∧ nameGo (s.data.toList.drop p) (decide (p = 0)) = nameGo s.data.toList true) (fun wr => s.size - wr.iterPos w.heap.size)
  case atStart => exact ⟨0, by omega, rfl, rfl⟩
  case round =>
    obtain ⟨p, hp, rfl, hd⟩ := hrel
    have Hd := Lib.hid hd
    clear hd
    by_cases hlt : p < s.size
    · have hnx := fun ty => run_next_any (P := Tryd.prog) w s p ty hlt
      have hbd := byte_dropE s p hlt
      have Hb := Lib.hid hbd
      clear hbd
      have hgo : nameGo (s[p] :: s.data.toList.drop (p + 1)) (decide (p = 0)) = if nameCh (decide (p = 0)) (s[p].toNat : Int) then nameGo (s.data.toList.drop (p + 1)) false else false := rfl
      have Hg := Lib.hid hgo
      clear hgo
      have hcls := name_cls ((Utf8.decode s p).1 : Int) p
      rcases hcls with ⟨hc, hr⟩ | ⟨hc, hr⟩
      ·
        have ha : s[p].toNat < 128 := by
          rcases Nat.lt_or_ge s[p].toNat 128 with h | h
          · exact h
          · exact absurd hc (by rw [nameCh_high _ _ (by have := (decode_high s p hlt h).1; omega)]; decide)
        have hdec := decode_ascii s p hlt ha
        have hnx2 := hnx
        rw [hdec] at hc hr hnx2
        have Hc := Lib.hid hc
        clear hc hnx hdec
        rcases hr with h95 | ⟨h95, h97, h122⟩ | ⟨h95, h97, h65, h90⟩ | ⟨hp0, h95, h97, h65, h48, h57⟩
        all_goals
          go_wp2
          go_roundw
          case rel => exact ⟨p + 1, by omega, rfl, by rw [← Hd.out, Hb.out, Hg.out, if_pos Hc.out]; rfl⟩
          case measure => rw [World.iterPos_iter, World.iterPos_iter]; omega
      · have HV2 : Hid (v = false) := Lib.hid (by
          rw [← HV.out, ← Hd.out, Hb.out, Hg.out]
          rw [if_neg]
          intro h
          rcases Nat.lt_or_ge s[p].toNat 128 with h' | h'
          · rw [decode_ascii s p hlt h'] at hc; rw [hc] at h; cases h
          · rw [nameCh_high _ _ (by omega)] at h; cases h)
        clear hc
        rcases hr with ⟨h1, h2, h3, h4, h5, h6⟩ | ⟨h1, h2, h3, h4, h5, h6, h7, h8⟩ | ⟨h1, h2, h3, h4, h5⟩ | ⟨h1, h2, h3, h4, h5, h6, h7⟩ | ⟨h1, h2, h3, h4⟩ | ⟨h1, h2, h3, h4, h5, h6⟩ | ⟨h1, h2, h3, h4, h5⟩
        all_goals
          go_wp2
          go_ret
          rw [HV2.out]
          exact ⟨rfl, (Below.refl _ _).alloc (Nat.le_refl _) _⟩
    · have hnx := fun ty => run_next_end (P := Tryd.prog) w s p ty hlt
      have HV2 : Hid (v = true) := Lib.hid (by rw [← HV.out, ← Hd.out, List.drop_eq_nil_of_le (by simp; omega)]; rfl)
      go_wp2
      go_ret
      rw [HV2.out]
      exact ⟨rfl, (Below.refl _ _).alloc (Nat.le_refl _) _⟩
theorem chars_Name.calls (a0 : ByteArray) (r : Bool) (w : World) (h : chars_Name.f a0 = some r) :
    Calls Tryd.prog 37 #[.string a0] w fun e w' => e = .returned (.bool r) ∧ Below w.heap.size w w' := by
  unfold chars_Name.f at h
  split at h
  · rename_i h0
    obtain rfl := Option.some.inj h
    clear h
    have e0 : a0.toList.isEmpty = true := by
      rw [Lib.toList_data]
      have hl : a0.data.toList.length = a0.size := by simp
      cases h : a0.data.toList with
      | nil => rfl
      | cons _ _ => rw [h] at hl; simp at hl; omega
    have e0' : (!a0.toList.isEmpty) = false := by rw [e0]; rfl
    clear h0
    go_enter Tryd.func37, Tryd.ntmps37
    go_wp2
    go_ret
    exact ⟨rfl, Below.refl _ _⟩
  · rename_i h0
    split at h
    · rename_i h1
      obtain rfl := Option.some.inj h
      clear h
      have e0 : a0.toList.isEmpty = false := by
        rw [Lib.toList_data]
        have hl : a0.data.toList.length = a0.size := by simp
        cases h : a0.data.toList with
        | nil => rw [h] at hl; simp at hl; omega
        | cons _ _ => rfl
      have e0' : (!a0.toList.isEmpty) = true := by rw [e0]; rfl
      have e1 : decide ((32 : Int) < (a0.size : Int)) = true := decide_eq_true (by omega)
      clear h0 h1
      go_enter Tryd.func37, Tryd.ntmps37
      go_wp2
      go_ret
      exact ⟨rfl, Below.refl _ _⟩
    · rename_i h1
      exact name_loop a0 w (by omega) (by omega) r (Option.some.inj h)
end Go.Proofs.YtiacdccnifjcjaaDoor.F
