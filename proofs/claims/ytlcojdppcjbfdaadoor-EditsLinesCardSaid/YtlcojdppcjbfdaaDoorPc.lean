/- Plain lemmas: Offset, of the program and of the reference, against the lines. No program. -/
import Derived.Test.YtlcojdppcjbfdaaDoorPb
set_option linter.unusedVariables false
set_option linter.unusedSimpArgs false
namespace Go.Proofs.YtlcojdppcjbfdaaDoor.Pure
open Go.RowKit Go.Proofs.YtlcojdppcjbfdaaDoor.F Go.Proofs.YtlcojdppcjbfdaaDoorW.PrintWords

abbrev lns (s : ByteArray) : List (List UInt8) := lnsAcc [] s.data.toList
theorem lns_tot (s : ByteArray) : tot (lns s) = s.size + 1 := by unfold lns; rw [tot_lns, size_data]; simp
theorem lns_le (s : ByteArray) : (lns s).length ≤ s.size + 1 := by have := lnsAcc_len s.data.toList []; rw [size_data] at this; exact this
theorem wf_i64 {a : Int} (h : (Lit.int .i64 a).wf = true) : -9223372036854775808 ≤ a ∧ a ≤ 9223372036854775807 := by
  simp only [Lit.wf, Bool.and_eq_true, decide_eq_true_eq] at h
  exact ⟨h.1, h.2⟩
theorem offset_eq (s : ByteArray) (line col : Int) (hs : s.size ≤ 17000) (hl : -9223372036854775808 ≤ line ∧ line ≤ 9223372036854775807) {k : Nat} (hk : 40000 ≤ k) :
    edits_Offset.f k s line col = some (offs (lns s) line col 0) := by
  have ht := lns_tot s
  have hn := lns_le s
  unfold edits_Offset.f
  rw [lines_eq s hs]
  simp only [Option.bind_some]
  have := ed_offs (lns s) line col (by omega) (by omega) hl.1 hl.2 (lns s) k 0 0 rfl (by omega) (by omega) (by omega) (by omega)
  simpa using this
theorem ref_offset_eq (s : ByteArray) (line col : Int) (hs : s.size ≤ 17000) (hl : -9223372036854775808 ≤ line ∧ line ≤ 9223372036854775807) (hc : -9223372036854775808 ≤ col ∧ col ≤ 9223372036854775807) {k : Nat} (hk : 40000 ≤ k) :
    jobshellref02_Offset.f k s line col = some (offs (lns s) line col 0) := by
  have ht := lns_tot s
  have hn := lns_le s
  unfold jobshellref02_Offset.f
  rw [ref_lines_eq s hs (by omega)]
  simp only [Option.bind_some]
  obtain ⟨k, rfl⟩ := succ_of (n := 0) (k := k) (by omega)
  have ht2 : jobshellref02_Offset.j0 (k + 1) line col ((lns s).map ba) true = some (0, 2) := by simp [jobshellref02_Offset.j0]
  by_cases c1 : line < 1
  · rw [if_pos c1, ht2, offs_out _ _ _ _ (.inl c1)]
  · rw [if_neg c1]
    have hlen : ((List.map ba (lns s)).length : Int) = (lns s).length := by simp
    by_cases c2 : line > ((lns s).length : Int)
    · rw [if_pos (by rw [hlen]; exact c2), ht2, offs_out _ _ _ _ (.inr c2)]
    · rw [if_neg (by rw [hlen]; exact c2)]
      have hlt : (line - 1).toNat < (lns s).length := by omega
      have hx : (lns s)[(line - 1).toNat]? = some (lns s)[(line - 1).toNat] := List.getElem?_eq_getElem hlt
      by_cases c3 : col < 1
      · rw [if_pos c3, ht2, offs_col _ _ _ _ _ (by omega) hx (.inl c3)]
      · rw [if_neg c3, wrap_id (i := line - 1) (by omega) (by omega), if_pos (by omega), if_pos (by rw [hlen]; omega)]
        obtain ⟨hlt', hsz, _, _⟩ := rd_map (lns s) (line - 1).toNat _ _ (List.drop_eq_getElem_cons hlt)
        have e1 : (((line - 1).toNat : Nat) : Int) = line - 1 := by omega
        rw [e1] at hsz
        rw [hsz, wrap_id (i := col - 1) (by omega) (by omega)]
        by_cases c4 : (col - 1 : Int) > ((lns s)[(line - 1).toNat].length : Int)
        · rw [decide_eq_true c4, ht2, offs_col _ _ _ _ _ (by omega) hx (.inr (by omega))]
        · rw [decide_eq_false c4]
          simp only [jobshellref02_Offset.j0]
          rw [if_neg (by simp)]
          have := ref_offs (lns s) line col (by omega) (by omega) (by omega) (lns s) k 0 0 rfl (by omega) (by omega) (by omega) (by omega) (by omega) (fun x h => by rw [hx] at h; injection h with h; subst h; omega)
          simpa using this
end Go.Proofs.YtlcojdppcjbfdaaDoor.Pure
