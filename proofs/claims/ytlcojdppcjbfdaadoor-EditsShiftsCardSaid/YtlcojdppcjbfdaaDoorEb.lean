/- edits.Lines: what the call comes to (strings.Split at a line feed). -/
import Derived.Test.YtlcojdppcjbfdaaDoorF0
import Derived.Test.YtlcojdppcjbfdaaDoorLay
import Derived.Shelf.Strings.Split
import Derived.Shelf.Strings.SplitCore
import Derived.Shelf.Strings.Search3
import Derived.Shelf.Strings.Count
import Derived.WalkKit
import Derived.Lib.Hide
namespace Go.Proofs.YtlcojdppcjbfdaaDoor.F
open Go.RowKit Go.Proofs.YtlcojdppcjbfdaaDoorW.PrintWords Go.Proofs.YtlcojdppcjbfdaaDoorW.PrintLast Go.Proofs.YtlcojdppcjbfdaaDoorW.PrintMore

/-- The line feed. -/
abbrev lf : ByteArray := ⟨#[10]⟩
def edits_Lines.f (a0 : ByteArray) : Option (List ByteArray) := if a0.size < 4294967281 then some (Lib.splitB lf 0 (Lib.countB a0 lf) a0) else none

theorem index_lf (x : ByteArray) (w : World) : Calls Tryd.prog 39 #[.string x, .string lf] w fun e w' => e = .returned (.int .i64 (Lib.indexB x lf)) ∧ w' = w := by
  refine (Any.strings_Index_one (ρ := Tryd.lays146_ren) { Tryd.lays146 with } x 10 w).mono fun e w' ⟨he, hw⟩ => ⟨?_, hw⟩
  rw [he]
  show _ = Ending.returned (Value.int .i64 (Lib.index x.data.toList [10]))
  rw [Lib.index_one]
theorem count_lf (x : ByteArray) (w : World) : Calls Tryd.prog 38 #[.string x, .string lf] w fun e w' => e = .returned (.int .i64 (Lib.countB x lf)) ∧ w' = w := by
  refine (Any.strings_Count_one (ρ := Tryd.lays146_ren) { Tryd.lays146 with } x 10 w).mono fun e w' ⟨he, hw⟩ => ⟨?_, hw⟩
  rw [he]
  show _ = Ending.returned (Value.int .i64 ((Lib.count x.data.toList [10] : Nat) : Int))
  rw [Lib.count_one]
  rfl
theorem info9s : (Tryd.prog.info? 9).map (fun i => (i.zero, i.size, i.bytes)) = some (some (.string ByteArray.empty), 1, 16) := by kernel_rfl
theorem gen_lf (s : ByteArray) (w : World) (hs : s.size < 4294967281) :
    Calls Tryd.prog 35 #[.string s, .string lf, .int .i64 0, .int .i64 (-1)] w fun e w' =>
      e = .returned (.slice (some ⟨w.heap.size, 0, none⟩) (Lib.splitB lf 0 (Lib.countB s lf) s).length (Lib.countB s lf + 1)) ∧ w' = w.alloc (.cells ((Lib.splitB lf 0 (Lib.countB s lf) s).map Value.string).toArray 9) := by
  have hle : Lib.countB s lf ≤ s.size := Lib.countB_le lf (by decide) s.size s (Nat.le_refl _)
  have hlen := Lib.splitB_all lf (by decide) 0 _ s rfl
  have c := Any.strings_genSplit_core (ρ := Tryd.lays146_ren) { Tryd.lays146 with } info9s s lf 0 (-1) (Lib.countB s lf + 1) w hs (by decide) (Nat.zero_le _) (fun x c _ => index_lf x _) (count_lf s w) (by decide) (by decide) (by rw [if_pos (by decide)]; omega)
  have e1 : Lib.countB s lf + 1 - 1 = Lib.countB s lf := by omega
  rw [e1] at c
  have e2 : Lib.cellsOf (Lib.splitB lf 0 (Lib.countB s lf) s) (Lib.countB s lf + 1) = ((Lib.splitB lf 0 (Lib.countB s lf) s).map Value.string).toArray := by rw [← hlen]; exact Lib.cellsOf_full _
  rw [e2] at c
  exact c
set_option maxHeartbeats 1000000 in
theorem split_lf (s : ByteArray) (w : World) (hs : s.size < 4294967281) :
    Calls Tryd.prog 30 #[.string s, .string lf] w fun e w' =>
      e = .returned (.slice (some ⟨w.heap.size, 0, none⟩) (Lib.splitB lf 0 (Lib.countB s lf) s).length (Lib.countB s lf + 1)) ∧ w' = w.alloc (.cells ((Lib.splitB lf 0 (Lib.countB s lf) s).map Value.string).toArray 9) := by
  go_enter Tryd.func30, Tryd.ntmps30
  go_wp2_with (go_at_call 35; refine (gen_lf s _ hs).mono ?_; rintro e w' ⟨rfl, hw⟩; rw [hw])
  go_ret
  exact ⟨rfl, rfl⟩
theorem strs_made : ∀ xs : List ByteArray, Reps (fun (x : ByteArray) cs => cs = [Value.string x]) 1 xs (xs.map Value.string) := by
  intro xs
  refine ⟨by simp, fun j p hj => ?_⟩
  have hlt : j < xs.length := (List.getElem?_eq_some_iff.1 hj).1
  have hv : xs[j] = p := (List.getElem?_eq_some_iff.1 hj).2
  rw [Nat.mul_one, List.drop_eq_getElem_cons (by simpa using hlt)]
  simp [hv]
theorem row_made (W : World) (xs : List ByteArray) (hm : xs.length ≤ 9223372036854775807) :
    Kd.R Kd.string 9 (W.alloc (.cells (xs.map Value.string).toArray 9)) W.heap.size (fun _ => True) (.slice (some ⟨W.heap.size, 0, none⟩) xs.length xs.length) xs :=
  ⟨fun _ _ => trivial, OwnRow.lit W W.heap.size (strs_made xs) (Nat.le_refl _) hm⟩
set_option maxHeartbeats 1000000 in
theorem edits_Lines.calls (a0 : ByteArray) (r : List ByteArray) (w : World) (h : edits_Lines.f a0 = some r) :
    Calls Tryd.prog 15 #[.string a0] w fun e w' => ∃ v0_ : Value, e = .returned (v0_) ∧ Kd.R Kd.string 9 w' w.heap.size (fun _ => True) v0_ r ∧ Below w.heap.size w w' := by
  unfold edits_Lines.f at h
  split at h
  · rename_i hs
    injection h with h
    have hle : Lib.countB a0 lf ≤ a0.size := Lib.countB_le lf (by decide) a0.size a0 (Nat.le_refl _)
    have hlen := Lib.splitB_all lf (by decide) 0 _ a0 rfl
    have c := split_lf a0 w hs
    rw [h] at c hlen
    clear h
    have Hlen := Lib.hid hlen
    clear hlen
    have fin : Calls Tryd.prog 15 #[.string a0] w fun e w' => e = .returned (.slice (some ⟨w.heap.size, 0, none⟩) r.length (Lib.countB a0 lf + 1)) ∧ w' = w.alloc (.cells (r.map Value.string).toArray 9) := by
      go_enter Tryd.func15, Tryd.ntmps15
      go_wp2_with (go_at_call 30; refine c.mono ?_; rintro e w' ⟨rfl, hw⟩; rw [hw])
      go_ret
      exact ⟨rfl, rfl⟩
    refine fin.mono fun e w' ⟨he, hw⟩ => ⟨_, he, ?_, ?_⟩
    · rw [hw, ← Hlen.out]
      exact row_made w r (by rw [Hlen.out]; omega)
    · rw [hw]; exact (Below.refl _ _).alloc (Nat.le_refl _) _
  · cases h
end Go.Proofs.YtlcojdppcjbfdaaDoor.F
