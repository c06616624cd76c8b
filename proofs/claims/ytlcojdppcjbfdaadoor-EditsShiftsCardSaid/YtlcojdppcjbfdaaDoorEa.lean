/- edits.Place: what the call comes to (a loop over a closure that holds two variables). -/
import Derived.Test.YtlcojdppcjbfdaaDoorF0
import Derived.Test.YtlcojdppcjbfdaaDoorAid
import Derived.WalkKit
import Derived.OneCell
import Derived.Deep.QuietTactic
import Derived.BigQuiet
import Derived.WalkSpells
import Derived.Lib.Hide
set_option linter.unusedVariables false
set_option linter.unusedSimpArgs false
namespace Go.Proofs.YtlcojdppcjbfdaaDoor.F
open Go.RowKit Go.Proofs.YtlcojdppcjbfdaaDoor.Aid

/-- The line and the start of the line at offset k. -/
def plc : List UInt8 → Int → Int → Int → Int × Int
  | [], _, l, b => (l, b)
  | c :: r, i, l, b => if (c.toNat : Int) = 10 then plc r (i + 1) (l + 1) (i + 1) else plc r (i + 1) l b

structure PlcAt (w wr : World) (s : ByteArray) (l b : Int) : Prop where
  below : Below w.heap.size w wr
  size : wr.heap.size = w.heap.size + 1 + 1 + 1
  h0 : wr.heap[w.heap.size]? = some (.cells #[.string s] 9 (0, 0))
  h1 : wr.heap[w.heap.size + 1]? = some (.cells #[.int .i64 l] 3 (0, 0))
  h2 : wr.heap[w.heap.size + 1 + 1]? = some (.cells #[.int .i64 b] 3 (0, 0))
theorem PlcAt.start (w : World) (s : ByteArray) : PlcAt w (((w.alloc (.cells #[.string s] 9)).alloc (.cells #[.int .i64 1] 3)).alloc (.cells #[.int .i64 0] 3)) s 1 0 := by
  have hsz : ∀ (W : World) o, (W.alloc o).heap.size = W.heap.size + 1 := fun W o => by simp
  have e0 : ∀ (W : World) o, (W.alloc o).heap[W.heap.size]? = some o := fun W o => heap_alloc_new W o
  have e1 : ∀ (W : World) o (k : Nat), k < W.heap.size → (W.alloc o).heap[k]? = W.heap[k]? := fun W o k hk => heap_alloc_old W o hk
  refine ⟨(((Below.refl _ _).alloc (Nat.le_refl _) _).alloc (by simp) _).alloc (by simp; omega) _, by simp, ?_, ?_, ?_⟩
  · rw [e1 _ _ _ (by simp; omega), e1 _ _ _ (by simp), e0]
  · rw [e1 _ _ _ (by simp)]; have := e0 (w.alloc (.cells #[.string s] 9)) (.cells #[.int .i64 1] 3); rw [hsz] at this; exact this
  · have := e0 ((w.alloc (.cells #[.string s] 9)).alloc (.cells #[.int .i64 1] 3)) (.cells #[.int .i64 0] 3); rw [hsz, hsz] at this; exact this
theorem PlcAt.step {w wr : World} {s : ByteArray} {l b : Int} (h : PlcAt w wr s l b) (l' b' : Int) :
    PlcAt w ((wr.setCell ⟨w.heap.size + 1, 0, none⟩ (.int .i64 l')).setCell ⟨w.heap.size + 1 + 1, 0, none⟩ (.int .i64 b')) s l' b' := by
  refine ⟨(h.below.setCell (by simp) _).setCell (by simp; omega) _, by simp [h.size], ?_, ?_, ?_⟩
  · rw [Below.heap_setCell _ _ _ _ (by simp; omega), Below.heap_setCell _ _ _ _ (by simp)]; exact h.h0
  · rw [Below.heap_setCell _ _ _ _ (by simp)]; exact one_setCell h.h1
  · refine one_setCell (v := .int .i64 b) ?_
    rw [Below.heap_setCell _ _ _ _ (by simp)]; exact h.h2
theorem plc_step (s : ByteArray) (n k : Nat) (hn : n ≤ s.size) (hk : k < n) (l b : Int) (hs : k < s.size) :
    plc ((s.data.toList.take n).drop k) k l b = if (s[k].toNat : Int) = 10 then plc ((s.data.toList.take n).drop (k + 1)) (k + 1) (l + 1) (k + 1) else plc ((s.data.toList.take n).drop (k + 1)) (k + 1) l b := by
  have hlen : (s.data.toList.take n).length = n := by simp; omega
  rw [List.drop_eq_getElem_cons (by omega)]
  have : (s.data.toList.take n)[k]'(by omega) = s[k] := by simp; rfl
  rw [this]
  rfl

set_option maxHeartbeats 400000 in
theorem place_at (s : ByteArray) (n : Nat) (a : Int) (w : World) (hs : s.size ≤ 140737488351232) (hn : n ≤ s.size) (hw : PlcAt w (((w.alloc (.cells #[.string s] 9)).alloc (.cells #[.int .i64 1] 3)).alloc (.cells #[.int .i64 0] 3)) s 1 0)
    (h0 : a < 0 → n = 0) (h1 : 0 ≤ a → a ≤ s.size → a = n) (h2 : s.size < a → n = s.size) :
   Calls Tryd.prog 11 #[.string s, .int .i64 a] w fun e w' => e = .returned (.tuple #[.int .i64 (plc (s.data.toList.take n) 0 1 0).1, .int .i64 (n - (plc (s.data.toList.take n) 0 1 0).2 + 1)]) ∧ Below w.heap.size w w' := by
  have Hw := Lib.hid hw
  clear hw
  rcases (by omega : a < 0 ∨ (0 ≤ a ∧ a ≤ s.size) ∨ s.size < a) with ha | ha | ha
  · obtain rfl := h0 ha
    clear h0 h1 h2
    go_enter Tryd.func11, Tryd.ntmps11
    go_wp2
    go_loopw [9] (fun i wr => ∃ k : Nat, i = .int .i64 k ∧ k ≤ 0 ∧ ∃ l b : Int, 1 ≤ l ∧ l ≤ k + 1 ∧ 0 ≤ b ∧ b ≤ k ∧ PlcAt w wr s l b ∧ plc ((s.data.toList.take 0).drop k) k l b = plc (s.data.toList.take 0) 0 1 0) (fun i _ => 0 - (intOf i).toNat)
    case atStart => exact ⟨0, rfl, by omega, 1, 0, by omega, by omega, by omega, by omega, Hw.out, rfl⟩
    case round =>
      obtain ⟨k, rfl, hk, l, b, hl1, hl2, hb1, hb2, hP, hp⟩ := hrel
      have Hp := Lib.hid hp
      clear hp
      have c0 := cell_of_one hP.h0
      have c1 := cell_of_one hP.h1
      have c2 := cell_of_one hP.h2
      have f1 := free_of_one hP.h1
      have f2 := free_of_one hP.h2
      by_cases hlt : k < 0
      · exact absurd hlt (by omega)
      · obtain rfl : k = 0 := by omega
        go_wp2
        go_region
        go_wp2
        go_ret2
        have e := Hp.out
        rw [List.drop_eq_nil_of_le (by rw [List.length_take]; exact Nat.min_le_left _ _)] at e
        simp only [plc] at e
        refine ⟨ret_ints (by rw [← e]) (by rw [← e]; try simp), ?_⟩
        exact hP.below.drew

  · obtain rfl := h1 ha.1 ha.2
    clear h0 h1 h2
    go_enter Tryd.func11, Tryd.ntmps11
    go_wp2
    go_loopw [9] (fun i wr => ∃ k : Nat, i = .int .i64 k ∧ k ≤ n ∧ ∃ l b : Int, 1 ≤ l ∧ l ≤ k + 1 ∧ 0 ≤ b ∧ b ≤ k ∧ PlcAt w wr s l b ∧ plc ((s.data.toList.take n).drop k) k l b = plc (s.data.toList.take n) 0 1 0) (fun i _ => n - (intOf i).toNat)
    case atStart => exact ⟨0, rfl, by omega, 1, 0, by omega, by omega, by omega, by omega, Hw.out, rfl⟩
    case round =>
      obtain ⟨k, rfl, hk, l, b, hl1, hl2, hb1, hb2, hP, hp⟩ := hrel
      have Hp := Lib.hid hp
      clear hp
      have c0 := cell_of_one hP.h0
      have c1 := cell_of_one hP.h1
      have c2 := cell_of_one hP.h2
      have f1 := free_of_one hP.h1
      have f2 := free_of_one hP.h2
      by_cases hlt : k < n
      · have hlt2 : k < s.size := by omega
        have Hs := Lib.hid (plc_step s n k (by omega) hlt l b hlt2)
        go_wp2
        all_goals
          go_end0
          go_wp2
        · have hc : (s[k].toNat : Int) = 10 := by simpa using (by assumption : ((s[k].toNat : Int) == 10) = true)
          go_roundw
          case rel => exact ⟨k + 1, by go_num, by omega, l + 1, k + 1, by omega, by omega, by omega, by omega, hP.step (l + 1) (k + 1), by rw [← Hp.out, Hs.out, if_pos hc]; rfl⟩
          case measure => simp [intOf] <;> omega
        · have hc : ¬ (s[k].toNat : Int) = 10 := by simpa using (by assumption : ((s[k].toNat : Int) == 10) = false)
          go_roundw
          case rel => exact ⟨k + 1, by go_num, by omega, l, b, by omega, by omega, by omega, by omega, hP, by rw [← Hp.out, Hs.out, if_neg hc]; rfl⟩
          case measure => simp [intOf] <;> omega
      · obtain rfl : k = n := by omega
        go_wp2
        go_region
        go_wp2
        go_ret2
        have e := Hp.out
        rw [List.drop_eq_nil_of_le (by rw [List.length_take]; exact Nat.min_le_left _ _)] at e
        simp only [plc] at e
        refine ⟨ret_ints (by rw [← e]) (by rw [← e]; try simp), ?_⟩
        exact hP.below.drew

  · obtain rfl := h2 ha
    clear h0 h1 h2
    go_enter Tryd.func11, Tryd.ntmps11
    go_wp2
    go_loopw [9] (fun i wr => ∃ k : Nat, i = .int .i64 k ∧ k ≤ s.size ∧ ∃ l b : Int, 1 ≤ l ∧ l ≤ k + 1 ∧ 0 ≤ b ∧ b ≤ k ∧ PlcAt w wr s l b ∧ plc ((s.data.toList.take s.size).drop k) k l b = plc (s.data.toList.take s.size) 0 1 0) (fun i _ => s.size - (intOf i).toNat)
    case atStart => exact ⟨0, rfl, by omega, 1, 0, by omega, by omega, by omega, by omega, Hw.out, rfl⟩
    case round =>
      obtain ⟨k, rfl, hk, l, b, hl1, hl2, hb1, hb2, hP, hp⟩ := hrel
      have Hp := Lib.hid hp
      clear hp
      have c0 := cell_of_one hP.h0
      have c1 := cell_of_one hP.h1
      have c2 := cell_of_one hP.h2
      have f1 := free_of_one hP.h1
      have f2 := free_of_one hP.h2
      by_cases hlt : k < s.size
      · have hlt2 : k < s.size := by omega
        have Hs := Lib.hid (plc_step s s.size k (by omega) hlt l b hlt2)
        go_wp2
        all_goals
          go_end0
          go_wp2
        · have hc : (s[k].toNat : Int) = 10 := by simpa using (by assumption : ((s[k].toNat : Int) == 10) = true)
          go_roundw
          case rel => exact ⟨k + 1, by go_num, by omega, l + 1, k + 1, by omega, by omega, by omega, by omega, hP.step (l + 1) (k + 1), by rw [← Hp.out, Hs.out, if_pos hc]; rfl⟩
          case measure => simp [intOf] <;> omega
        · have hc : ¬ (s[k].toNat : Int) = 10 := by simpa using (by assumption : ((s[k].toNat : Int) == 10) = false)
          go_roundw
          case rel => exact ⟨k + 1, by go_num, by omega, l, b, by omega, by omega, by omega, by omega, hP, by rw [← Hp.out, Hs.out, if_neg hc]; rfl⟩
          case measure => simp [intOf] <;> omega
      · obtain rfl : k = s.size := by omega
        go_wp2
        go_region
        go_wp2
        go_ret2
        have e := Hp.out
        rw [List.drop_eq_nil_of_le (by rw [List.length_take]; exact Nat.min_le_left _ _)] at e
        simp only [plc] at e
        refine ⟨ret_ints (by rw [← e]) (by rw [← e]; try simp), ?_⟩
        exact hP.below.drew


/-- The offset, held within the string. -/
def clampAt (s : ByteArray) (a : Int) : Nat := if a < 0 then 0 else if a ≤ s.size then a.toNat else s.size
def edits_Place.f (a0 : ByteArray) (a1 : Int) : Option (Int × Int) :=
  if a0.size ≤ 140737488351232 then some ((plc (a0.data.toList.take (clampAt a0 a1)) 0 1 0).1, (clampAt a0 a1 : Int) - (plc (a0.data.toList.take (clampAt a0 a1)) 0 1 0).2 + 1) else none
theorem edits_Place.calls (a0 : ByteArray) (a1 : Int) (r1 r2 : Int) (w : World) (h : edits_Place.f a0 a1 = some (r1, r2)) :
    Calls Tryd.prog 11 #[.string a0, .int .i64 a1] w fun e w' => e = .returned (.tuple #[.int .i64 r1, .int .i64 r2]) ∧ Below w.heap.size w w' := by
  unfold edits_Place.f at h
  split at h
  · rename_i hs
    simp only [Option.some.injEq, Prod.mk.injEq] at h
    obtain ⟨rfl, rfl⟩ := h
    refine place_at a0 (clampAt a0 a1) a1 w hs ?_ (PlcAt.start w a0) ?_ ?_ ?_
    · unfold clampAt; split
      · omega
      · split <;> omega
    · intro h; unfold clampAt; rw [if_pos h]
    · intro h h2; unfold clampAt; rw [if_neg (by omega), if_pos h2]; omega
    · intro h; unfold clampAt; rw [if_neg (by omega), if_neg (by omega)]
  · cases h
end Go.Proofs.YtlcojdppcjbfdaaDoor.F
