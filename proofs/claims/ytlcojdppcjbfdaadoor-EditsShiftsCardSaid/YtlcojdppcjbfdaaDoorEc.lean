/- edits.Apply: what the call comes to. -/
import Derived.Test.YtlcojdppcjbfdaaDoorF19
import Derived.Test.YtlcojdppcjbfdaaDoorBld
import Derived.Outline
set_option linter.unusedVariables false
namespace Go.Proofs.YtlcojdppcjbfdaaDoor.F
open Go.RowKit Go.Proofs.YtlcojdppcjbfdaaDoorW.PrintWords Go.Proofs.YtlcojdppcjbfdaaDoorW.PrintLast Go.Proofs.YtlcojdppcjbfdaaDoorW.PrintMore Go.Proofs.YtlcojdppcjbfdaaDoor.Aid

/-- The edited string from edit i on; `none` where the code would leave the string or grow past the model's bound. -/
def applyGo (s : ByteArray) : List S53 → Int → List UInt8 → Option (List UInt8)
  | [], at', out => if 0 ≤ at' then if at' ≤ s.size then if out.length + s.size ≤ 140737488355328 then some (out ++ (s.extract at'.toNat s.size).data.toList) else none else none else none
  | e :: r, at', out => if 0 ≤ at' then if at' ≤ e.f0 then if e.f0 ≤ s.size then if out.length + s.size + e.f2.size ≤ 140737488355328 then applyGo s r e.f1 (out ++ (s.extract at'.toNat e.f0.toNat).data.toList ++ e.f2.data.toList) else none else none else none else none
def edits_Apply.f (k : Nat) (a0 : ByteArray) (l1 : List S53) : Option (ByteArray × Int) :=
  (edits_Valid.f k a0 l1).bind fun e => if e = 0 then (applyGo a0 l1 0 []).bind fun out => some (⟨out.toArray⟩, 0) else some (a0, e)
theorem edits_Apply.mono : ∀ a0 a1 k, LeO (edits_Apply.f k a0 a1) (edits_Apply.f (k + 1) a0 a1) := by
  intro a0 a1 k
  unfold edits_Apply.f
  refine LeO.bind (edits_Valid.mono _ _ _) (fun _ => LeO.refl _)

structure ApAt (w wr : World) (s : ByteArray) (l : List S53) (i a : Int) (acc out : List UInt8) : Prop where
  below : Below w.heap.size w wr
  big : w.heap.size < wr.heap.size
  bld : Lib.IsBuilder 60 5 w.heap.size w.heap.size (Lib.byteCells acc) wr
  go : applyGo s (l.drop i.toNat) a acc = some out

set_option maxHeartbeats 8000000 in
set_option maxRecDepth 100000 in
theorem apply_ok (k : Nat) (a0 : ByteArray) (A1 : Option Addr) (c1 : Nat) (l1 : List S53) (out : List UInt8) (w : World) (hr1 : Kd.C k53 w A1 l1.length l1) (hc1 : l1.length ≤ c1)
    (hv : edits_Valid.f k a0 l1 = some 0) (h : applyGo a0 l1 0 [] = some out) :
    Calls Tryd.prog 17 #[.string a0, .slice A1 l1.length c1] w fun e w' => e = .returned (.tuple #[.string ⟨out.toArray⟩, .int .i64 0]) ∧ Below w.heap.size w w' := by
  have HR := Aside0.mk hr1
  have HC := Aside0.mk hc1
  have HV := Aside0.mk hv
  have HH := Aside0.mk h
  have hm : l1.length ≤ 9223372036854775807 := hr1.2.1
  clear hr1 hc1 hv h
  have hu53 := Tryd.underlying53
  have hu60 := Tryd.underlying60
  go_enter Tryd.func17, Tryd.ntmps17
  go_wp2_with (go_at_call 19; refine (edits_Valid.calls k _ _ _ _ 0 _ HR.out HC.out HV.out).mono ?_)
  rintro e w1 ⟨rfl, hb1⟩
  have HB := Aside0.mk hb1
  clear hb1
  go_wp2
  go_loopw [8, 20] (fun v8 v20 wr => ∃ (a i : Int) (acc : List UInt8), v8 = .int .i64 a ∧ v20 = .int .i64 i ∧ 0 ≤ i ∧ i ≤ l1.length ∧ Aside0 (ApAt w1 wr a0 l1 i a acc out)) (fun _ v20 _ => l1.length - (intOf v20).toNat)
  case atStart => exact ⟨0, 0, [], rfl, rfl, by omega, by omega, ⟨below_one _ _, by simp, Lib.fresh_isBuilder 60 5 w1, HH.out⟩⟩
  case round =>
    obtain ⟨a, i, acc, rfl, rfl, hi0, hil, HP⟩ := hrel
    by_cases hlt : i < l1.length
    · obtain ⟨ad, e_, hx0, hx1, hx2⟩ := at_T53 (Kd.C_below (Kd.C_below HR.out HB.out) ⟨HP.out.below.os, HP.out.below.tape, HP.out.below.output, HP.out.below.size, HP.out.below.block⟩) i hi0 hlt
      cases e_
      have hgo := HP.out.go
      rw [List.drop_eq_getElem_cons (by omega : i.toNat < l1.length)] at hgo
      have hrd : l1[i.toNat]'(by omega) = rd_T53 l1 i := by simp [rd_T53, List.getD, List.getElem?_eq_getElem (show i.toNat < l1.length by omega)]
      rw [hrd] at hgo
      simp only [applyGo] at hgo
      by_cases b1 : 0 ≤ a
      · rw [if_pos b1] at hgo
        by_cases b2 : a ≤ (rd_T53 l1 i).f0
        · rw [if_pos b2] at hgo
          by_cases b3 : (rd_T53 l1 i).f0 ≤ a0.size
          · rw [if_pos b3] at hgo
            by_cases b4 : acc.length + a0.size + (rd_T53 l1 i).f2.size ≤ 140737488355328
            · rw [if_pos b4] at hgo
              have HG := Aside0.mk hgo
              clear hgo hrd
              have hB0 : w1.heap.size < wr.heap.size := HP.out.big
              have hE : (a0.extract a.toNat (rd_T53 l1 i).f0.toNat).size ≤ a0.size := by simp; omega
              go_wp2_with fail
              refine (Bld.write w1.heap.size w1.heap.size _ _ _ (isBuilder_below HP.out.bld (below_one _ _)) (by rw [byteCells_length]; omega) (by simp; omega)).mono ?_
              rintro e w2 ⟨rfl, hbd, hwr⟩
              have hcell : w2.heap[wr.heap.size]? = some (.cells #[.int .i64 (rd_T53 l1 i).f0, .int .i64 (rd_T53 l1 i).f1, .string (rd_T53 l1 i).f2] 53 (0, 0)) := hwr.other _ _ (block_new _ _) (by omega) (by rintro cs fr h; cases h)
              have d0 : w2.cell? ⟨wr.heap.size, 0, none⟩ = some (.int .i64 (rd_T53 l1 i).f0) := by rw [Lib.cell_of_heap hcell]; rfl
              have d1 : w2.cell? ⟨wr.heap.size, 1, none⟩ = some (.int .i64 (rd_T53 l1 i).f1) := by rw [Lib.cell_of_heap hcell]; rfl
              have d2 : w2.cell? ⟨wr.heap.size, 2, none⟩ = some (.string (rd_T53 l1 i).f2) := by rw [Lib.cell_of_heap hcell]; rfl
              have HW := Aside0.mk hwr
              have HD := Aside0.mk hbd
              have HC2 := Aside0.mk hcell
              clear hwr hbd hcell
              go_wp2_with fail
              refine (Bld.write w1.heap.size w1.heap.size _ _ _ (.inr HD.out) (by rw [List.length_append, byteCells_length, Lib.strCells_length]; omega) (by have := HW.out.below.size; simp at this; omega)).mono ?_
              rintro e w3 ⟨rfl, hbd, hwr⟩
              have hcell : w3.heap[wr.heap.size]? = some (.cells #[.int .i64 (rd_T53 l1 i).f0, .int .i64 (rd_T53 l1 i).f1, .string (rd_T53 l1 i).f2] 53 (0, 0)) := hwr.other _ _ HC2.out (by omega) (by rintro cs fr h; cases h)
              have d0 : w3.cell? ⟨wr.heap.size, 0, none⟩ = some (.int .i64 (rd_T53 l1 i).f0) := by rw [Lib.cell_of_heap hcell]; rfl
              have d1 : w3.cell? ⟨wr.heap.size, 1, none⟩ = some (.int .i64 (rd_T53 l1 i).f1) := by rw [Lib.cell_of_heap hcell]; rfl
              have HW2 := Aside0.mk hwr
              have HD2 := Aside0.mk hbd
              clear hwr hbd hcell
              go_wp2_with fail
              go_roundw
              case rel =>
                have hs2 := HW.out.below.size
                have hs3 := HW2.out.below.size
                refine ⟨_, i + 1, acc ++ (a0.extract a.toNat (rd_T53 l1 i).f0.toNat).data.toList ++ (rd_T53 l1 i).f2.data.toList, rfl, by go_num, by omega, by omega, ⟨?_, ?_, .inr ?_, ?_⟩⟩
                · refine HP.out.below.trans (Below.trans ?_ (HW.out.below.trans HW2.out.below))
                  exact (Below.refl _ _).alloc (by omega) _
                · simp at hs2; omega
                · have := HD2.out
                  rw [byteCells_str, byteCells_str, ← Lib.byteCells_append, ← Lib.byteCells_append] at this
                  exact this
                · have e1 : (i + 1).toNat = i.toNat + 1 := by omega
                  rw [e1]
                  exact HG.out
              case measure => simp [intOf] <;> omega
            · rw [if_neg b4] at hgo; cases hgo
          · rw [if_neg b3] at hgo; cases hgo
        · rw [if_neg b2] at hgo; cases hgo
      · rw [if_neg b1] at hgo; cases hgo
    · obtain rfl : i = l1.length := by omega
      have hgo := HP.out.go
      rw [List.drop_eq_nil_of_le (by simp)] at hgo
      simp only [applyGo] at hgo
      by_cases b1 : 0 ≤ a
      · rw [if_pos b1] at hgo
        by_cases b2 : a ≤ a0.size
        · rw [if_pos b2] at hgo
          by_cases b4 : acc.length + a0.size ≤ 140737488355328
          · rw [if_pos b4] at hgo
            injection hgo with hgo
            have HG := Aside0.mk hgo
            clear hgo
            go_wp2_with fail
            have hE : (a0.extract a.toNat a0.size).size ≤ a0.size := by simp
            refine (Bld.write w1.heap.size w1.heap.size _ _ _ HP.out.bld (by rw [byteCells_length]; omega) (by have := HP.out.big; omega)).mono ?_
            rintro e w2 ⟨rfl, hbd, hwr⟩
            have HW := Aside0.mk hwr
            have HD := Aside0.mk hbd
            clear hwr hbd
            go_wp2_with fail
            have HD2 : Lib.IsBuilder 60 5 w1.heap.size w1.heap.size (Lib.byteCells out) w2 := by
              have := HD.out
              rw [byteCells_str, ← Lib.byteCells_append, HG.out] at this
              exact .inr this
            have hz : w1.heap.size ≤ w2.heap.size := by have := HP.out.big; have := HW.out.below.size; omega
            refine (Bld.str w1.heap.size w1.heap.size out w2 HD2 hz).mono ?_
            rintro e w3 ⟨rfl, hb3⟩
            have HB3 := Aside0.mk hb3
            clear hb3
            go_wp2
            go_ret2
            refine ⟨rfl, ?_⟩
            have e1 : Below w1.heap.size w1 w3 := HP.out.below.trans (HW.out.below.trans HB3.out)
            exact below_up HB.out HB.out.size e1
          · rw [if_neg b4] at hgo; cases hgo
        · rw [if_neg b2] at hgo; cases hgo
      · rw [if_neg b1] at hgo; cases hgo

set_option maxHeartbeats 2000000 in
theorem edits_Apply.calls (k : Nat) (a0 : ByteArray) (A1 : Option Addr) (c1 : Nat) (l1 : List S53) (r1 : ByteArray) (r2 : Int) (w : World) (hr1 : Kd.C k53 w A1 l1.length l1) (hc1 : l1.length ≤ c1) (h : edits_Apply.f k a0 l1 = some (r1, r2)) :
    Calls Tryd.prog 17 #[.string a0, .slice A1 l1.length c1] w fun e w' => e = .returned (.tuple #[.string r1, .int .i64 r2]) ∧ Below w.heap.size w w' := by
  unfold edits_Apply.f at h
  cases hv : edits_Valid.f k a0 l1 with
  | none => rw [hv] at h; cases h
  | some e =>
    rw [hv] at h
    simp only [Option.bind_some] at h
    by_cases h0 : e = 0
    · rw [if_pos h0] at h
      subst h0
      cases hg : applyGo a0 l1 0 [] with
      | none => rw [hg] at h; cases h
      | some out =>
        rw [hg] at h
        simp only [Option.bind_some, Option.some.injEq, Prod.mk.injEq] at h
        obtain ⟨rfl, rfl⟩ := h
        exact apply_ok k a0 A1 c1 l1 out w hr1 hc1 hv hg
    · rw [if_neg h0] at h
      simp only [Option.some.injEq, Prod.mk.injEq] at h
      obtain ⟨rfl, rfl⟩ := h
      have HR := Aside0.mk hr1
      have HC := Aside0.mk hc1
      have HV := Aside0.mk hv
      have hne : (e != 0) = true := bne_iff_ne.2 h0
      clear hr1 hc1 hv h0
      go_enter Tryd.func17, Tryd.ntmps17
      go_wp2_with (go_at_call 19; refine (edits_Valid.calls k _ _ _ _ e _ HR.out HC.out HV.out).mono ?_)
      rintro e' w1 ⟨rfl, hb1⟩
      have HB := Aside0.mk hb1
      clear hb1
      go_wp2
      go_ret2
      exact ⟨rfl, HB.out⟩
end Go.Proofs.YtlcojdppcjbfdaaDoor.F
