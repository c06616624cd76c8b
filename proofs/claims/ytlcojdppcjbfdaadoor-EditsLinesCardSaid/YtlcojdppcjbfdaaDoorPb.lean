/- Plain lemmas: Place and Offset against the lines. No program. -/
import Derived.Test.YtlcojdppcjbfdaaDoorPa
set_option linter.unusedVariables false
set_option linter.unusedSimpArgs false
namespace Go.Proofs.YtlcojdppcjbfdaaDoor.Pure
open Go.RowKit Go.Proofs.YtlcojdppcjbfdaaDoor.F Go.Proofs.YtlcojdppcjbfdaaDoorW.PrintWords

theorem plc_bounds (u : List UInt8) : ∀ (i l b : Int), 0 ≤ b → b ≤ i → l ≤ (plc u i l b).1 ∧ (plc u i l b).1 ≤ l + u.length ∧ 0 ≤ (plc u i l b).2 ∧ (plc u i l b).2 ≤ i + u.length := by
  induction u with
  | nil => intro i l b h0 h1; simp [plc]; omega
  | cons c r ih =>
    intro i l b h0 h1
    simp only [plc, List.length_cons]
    split
    · have := ih (i + 1) (l + 1) (i + 1) (by omega) (by omega); omega
    · have := ih (i + 1) l b (by omega) (by omega); omega
/-- The lines of u ++ v: those that end in u, then the one in which v begins. -/
theorem lns_place (v u : List UInt8) : ∀ (cur : List UInt8) (i l b : Int), (cur.length : Int) = i - b → ∃ (pre : List (List UInt8)) (cur' : List UInt8),
    lnsAcc cur (u ++ v) = pre ++ lnsAcc cur' v ∧ (pre.length : Int) = (plc u i l b).1 - l ∧ (tot pre : Int) = (plc u i l b).2 - b ∧ (cur'.length : Int) = i + u.length - (plc u i l b).2 := by
  induction u with
  | nil => intro cur i l b h; exact ⟨[], cur, by simp, by simp [plc], by simp [plc, tot], by simp [plc]; omega⟩
  | cons c r ih =>
    intro cur i l b h
    simp only [plc, List.cons_append, lnsAcc, List.length_cons]
    by_cases h10 : (c.toNat : Int) = 10
    · rw [if_pos h10, if_pos h10]
      obtain ⟨pre, cur', h1, h2, h3, h4⟩ := ih [] (i + 1) (l + 1) (i + 1) (by simp)
      exact ⟨cur :: pre, cur', by rw [h1]; rfl, by simp; omega, by simp only [tot]; omega, by omega⟩
    · rw [if_neg h10, if_neg h10]
      obtain ⟨pre, cur', h1, h2, h3, h4⟩ := ih (cur ++ [c]) (i + 1) l b (by simp; omega)
      exact ⟨pre, cur', h1, h2, h3, by omega⟩
theorem lns_head (v : List UInt8) : ∀ cur : List UInt8, ∃ x r, lnsAcc cur v = x :: r ∧ cur.length ≤ x.length := by
  induction v with
  | nil => intro cur; exact ⟨cur, [], rfl, Nat.le_refl _⟩
  | cons c r ih =>
    intro cur
    simp only [lnsAcc]
    split
    · exact ⟨cur, _, rfl, Nat.le_refl _⟩
    · obtain ⟨x, q, h1, h2⟩ := ih (cur ++ [c])
      exact ⟨x, q, h1, by simp at h2; omega⟩

theorem drop_take_cons {α : Type} (l : List α) (n i : Nat) (h : i < n) (c : α) (hc : l.drop i = c :: l.drop (i + 1)) : (l.take n).drop i = c :: (l.take n).drop (i + 1) := by
  have hl : i < l.length := by
    rcases Nat.lt_or_ge i l.length with h' | h'
    · exact h'
    · rw [List.drop_eq_nil_of_le h'] at hc; cases hc
  have hl2 : i < (l.take n).length := by rw [List.length_take]; omega
  rw [List.drop_eq_getElem_cons hl] at hc
  rw [List.drop_eq_getElem_cons hl2]
  injection hc with h1 _
  rw [List.getElem_take, h1]
theorem ref_place (s : ByteArray) (n : Nat) (hn : n ≤ s.size) (hs : s.size ≤ 17000) (d : Nat) : ∀ (k i : Nat) (l b : Int), i ≤ n → n - i = d → d < k → 1 ≤ l → l ≤ i + 1 → 0 ≤ b → b ≤ i →
    jobshellref02_Place.l0 k s n l b i = some ((plc ((s.data.toList.take n).drop i) i l b).1, n - (plc ((s.data.toList.take n).drop i) i l b).2 + 1) := by
  induction d with
  | zero =>
    intro k i l b h0 hd hk h1 h2 h3 h4
    obtain ⟨k, rfl⟩ := succ_of hk
    have hi : i = n := by omega
    subst hi
    have en : (s.data.toList.take i).drop i = [] := List.drop_eq_nil_of_le (by simp; omega)
    rw [en]
    simp only [jobshellref02_Place.l0, plc]
    rw [if_neg (by omega), wrap_id (i := (i : Int) - b) (by omega) (by omega), wrap_id (by omega) (by omega)]
  | succ d ih =>
    intro k i l b h0 hd hk h1 h2 h3 h4
    obtain ⟨k, rfl⟩ := succ_of hk
    obtain ⟨c, hc, hbt⟩ := bt_drop s i (by omega)
    have e2 := drop_take_cons s.data.toList n i (by omega) c hc
    rw [e2]
    simp only [jobshellref02_Place.l0, plc]
    rw [if_pos (by omega), if_pos (by omega), if_pos (by omega), hbt, wrap_succ (by omega)]
    by_cases h10 : (c.toNat : Int) = 10
    · rw [if_pos h10, if_pos h10, wrap_id (by omega) (by omega), ih k (i + 1) (l + 1) _ (by omega) (by omega) (by omega) (by omega) (by omega) (by omega) (by omega)]
      simp
    · rw [if_neg h10, if_neg h10, ih k (i + 1) l b (by omega) (by omega) (by omega) (by omega) (by omega) (by omega) (by omega)]
      simp
theorem place_eq (s : ByteArray) (a : Int) (hs : s.size ≤ 17000) {k : Nat} (hk : 20000 ≤ k) : jobshellref02_Place.f k s a = edits_Place.f s a := by
  unfold jobshellref02_Place.f jobshellref02_limited.f edits_Place.f
  rw [if_pos (show s.size ≤ 140737488351232 by omega)]
  have key : ∀ n : Nat, n ≤ s.size → clampAt s a = n → jobshellref02_Place.l0 k s n 1 0 0 = some ((plc (s.data.toList.take (clampAt s a)) 0 1 0).1, (clampAt s a : Int) - (plc (s.data.toList.take (clampAt s a)) 0 1 0).2 + 1) := by
    intro n hn e
    have := ref_place s n hn hs n k 0 1 0 (by omega) (by omega) (by omega) (by omega) (by omega) (by omega) (by omega)
    rw [e]
    simpa using this
  by_cases h0 : a < 0
  · rw [if_pos h0]
    exact key 0 (by omega) (by unfold clampAt; rw [if_pos h0])
  · rw [if_neg h0]
    by_cases h1 : a > (s.size : Int)
    · rw [if_pos h1]
      exact key s.size (by omega) (by unfold clampAt; rw [if_neg h0, if_neg (by omega)])
    · rw [if_neg h1]
      have := key a.toNat (by omega) (by unfold clampAt; rw [if_neg h0, if_pos (by omega)])
      have ea : ((a.toNat : Nat) : Int) = a := by omega
      rw [ea] at this
      exact this

/-! ### Offset -/
/-- The offset of a line and a column, the lines being ls and the first of them beginning at `at'`. -/
def offs : List (List UInt8) → Int → Int → Int → Int × Int
  | [], _, _, _ => (0, 2)
  | x :: r, line, col, at' => if line = 1 then (if col < 1 then (0, 2) else if col > (x.length : Int) + 1 then (0, 2) else (at' + col - 1, 0)) else offs r (line - 1) col (at' + (x.length + 1))
theorem rd_map (ls : List (List UInt8)) (i : Nat) (x : List UInt8) (r : List (List UInt8)) (h : ls.drop i = x :: r) : i < ls.length ∧ ((rdOf ByteArray.empty (ls.map ba) i).size : Int) = x.length ∧ rdOf ByteArray.empty (ls.map ba) i = ba x ∧ ls.drop (i + 1) = r := by
  have hlt : i < ls.length := by
    rcases Nat.lt_or_ge i ls.length with h' | h'
    · exact h'
    · rw [List.drop_eq_nil_of_le h'] at h; cases h
  rw [List.drop_eq_getElem_cons hlt] at h
  injection h with h1 h2
  have e : rdOf ByteArray.empty (ls.map ba) i = ba x := by
    unfold rdOf
    have : ((i : Int)).toNat = i := by omega
    rw [this, List.getD_eq_getElem?_getD, List.getElem?_map, List.getElem?_eq_getElem hlt]
    simp [h1]
  exact ⟨hlt, by rw [e, ba_size], e, h2⟩
theorem ed_offs (ls : List (List UInt8)) (line col : Int) (hT : tot ls ≤ 40000) (hL : (ls.length : Int) ≤ 40000) (hl0 : -9223372036854775808 ≤ line) (hl1 : line ≤ 9223372036854775807) (rest : List (List UInt8)) : ∀ (k i : Nat) (at' : Int), ls.drop i = rest → i ≤ ls.length → rest.length < k → 0 ≤ at' → at' + tot rest ≤ 40000 →
    edits_Offset.l0 k line col at' (ls.map ba) ((ls.map ba).length : Nat) i = some (offs rest (line - i) col at') := by
  induction rest with
  | nil =>
    intro k i at' h hi hk h0 h1
    obtain ⟨k, rfl⟩ := succ_of hk
    have hlen : (ls.map ba).length = ls.length := by simp
    have : ls.length ≤ i := List.drop_eq_nil_iff.1 h
    simp only [edits_Offset.l0, offs]
    rw [if_neg (by omega)]
  | cons x r ih =>
    intro k i at' h hi hk h0 h1
    obtain ⟨k, rfl⟩ := succ_of (Nat.lt_of_le_of_lt (Nat.zero_le _) hk)
    obtain ⟨hlt, hsz, _, hdr⟩ := rd_map ls i x r h
    simp only [tot] at h1
    simp only [List.length_cons] at hk
    have hlen : (ls.map ba).length = ls.length := by simp
    simp only [edits_Offset.l0, offs]
    rw [if_pos (by omega), if_pos (by omega), if_pos (by omega), hsz, wrap_succ (by omega), wrap_id (i := (x.length : Int) + 1) (by omega) (by omega)]
    by_cases hl : (line - i : Int) = 1
    · rw [if_pos (by omega), if_pos hl]
      by_cases c1 : col < 1
      · rw [if_pos c1, if_pos c1]
      · rw [if_neg c1, if_neg c1]
        by_cases c2 : col > (x.length : Int) + 1
        · rw [if_pos c2, if_pos c2]
        · rw [if_neg c2, if_neg c2, wrap_id (i := at' + col) (by omega) (by omega), wrap_id (by omega) (by omega)]
    · rw [if_neg (by omega), if_neg hl, wrap_id (i := at' + ((x.length : Int) + 1)) (by omega) (by omega), ih k (i + 1) _ hdr (by omega) (by omega) (by omega) (by omega)]
      congr 2
      omega
theorem ref_offs (ls : List (List UInt8)) (line col : Int) (hT : tot ls ≤ 40000) (hL : (ls.length : Int) ≤ 40000) (hl1 : line ≤ ls.length) (rest : List (List UInt8)) : ∀ (k i : Nat) (at' : Int), ls.drop i = rest → (i : Int) < line → rest.length < k → 0 ≤ at' → at' + tot rest ≤ 40000 →
    1 ≤ col → (∀ x, ls[(line - 1).toNat]? = some x → col ≤ (x.length : Int) + 1) →
    jobshellref02_Offset.l0 k line col (ls.map ba) at' i = some (offs rest (line - i) col at') := by
  induction rest with
  | nil =>
    intro k i at' h hi hk h0 h1 hc hc2
    have : ls.length ≤ i := List.drop_eq_nil_iff.1 h
    omega
  | cons x r ih =>
    intro k i at' h hi hk h0 h1 hc hc2
    obtain ⟨k, rfl⟩ := succ_of (Nat.lt_of_le_of_lt (Nat.zero_le _) hk)
    obtain ⟨hlt, hsz, _, hdr⟩ := rd_map ls i x r h
    simp only [tot] at h1
    simp only [List.length_cons] at hk
    have hlen : (ls.map ba).length = ls.length := by simp
    have hx : ls[i]? = some x := by
      have := List.getElem?_eq_getElem hlt
      rw [this]
      rw [List.drop_eq_getElem_cons hlt] at h
      injection h with h _
      rw [h]
    simp only [jobshellref02_Offset.l0, offs]
    rw [wrap_id (i := line - 1) (by omega) (by omega)]
    by_cases hl : (line - i : Int) = 1
    · have hcx := hc2 x (by rw [show (line - 1).toNat = i by omega]; exact hx)
      rw [if_neg (by omega), if_pos hl, if_neg (by omega), if_neg (by omega), wrap_id (i := at' + col) (by omega) (by omega), wrap_id (by omega) (by omega)]
    · rw [if_pos (by omega), if_pos (by omega), if_pos (by omega), hsz, wrap_succ (by omega), if_neg hl, wrap_id (i := at' + (x.length : Int)) (by omega) (by omega), wrap_id (by omega) (by omega)]
      rw [ih k (i + 1) _ hdr (by omega) (by omega) (by omega) (by omega) hc hc2]
      congr 2
      · omega
      · omega
theorem offs_out (rest : List (List UInt8)) : ∀ (line col at' : Int), (line < 1 ∨ (rest.length : Int) < line) → offs rest line col at' = (0, 2) := by
  induction rest with
  | nil => intro line col at' _; rfl
  | cons x r ih =>
    intro line col at' h
    simp only [offs, List.length_cons] at *
    rw [if_neg (by omega)]
    exact ih _ _ _ (by omega)
theorem offs_col (rest : List (List UInt8)) : ∀ (line col at' : Int) (x : List UInt8), 1 ≤ line → rest[(line - 1).toNat]? = some x → (col < 1 ∨ (x.length : Int) + 1 < col) → offs rest line col at' = (0, 2) := by
  induction rest with
  | nil => intro line col at' x _ h _; simp at h
  | cons y r ih =>
    intro line col at' x h0 h hc
    simp only [offs]
    by_cases hl : line = 1
    · subst hl
      simp at h
      subst h
      rw [if_pos rfl]
      rcases hc with hc | hc
      · rw [if_pos hc]
      · rw [if_neg (by omega), if_pos (by omega)]
    · rw [if_neg hl]
      refine ih _ _ _ x (by omega) ?_ hc
      rw [show (line - 1).toNat = (line - 1 - 1).toNat + 1 by omega] at h
      simpa using h
end Go.Proofs.YtlcojdppcjbfdaaDoor.Pure
