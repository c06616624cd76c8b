/- Plain lemmas: lines and positions. No program. -/
import Derived.Test.YtlcojdppcjbfdaaDoorF3
import Derived.Test.YtlcojdppcjbfdaaDoorF4
import Derived.Test.YtlcojdppcjbfdaaDoorF5
set_option linter.unusedVariables false
set_option linter.unusedSimpArgs false
namespace Go.Proofs.YtlcojdppcjbfdaaDoor.Pure
open Go.RowKit Go.Proofs.YtlcojdppcjbfdaaDoor.F Go.Proofs.YtlcojdppcjbfdaaDoorW.PrintWords

theorem awake_ok {k : Nat} (h : 40 ≤ k) : jobshelllaw02_awake.f k = some true :=
  at_rounds (g := fun k => jobshelllaw02_awake.f k) (fun k => jobshelllaw02_awake.mono k) h (by decide +kernel)
theorem wrap_id {i : Int} (h0 : -9223372036854775808 ≤ i) (h1 : i ≤ 9223372036854775807) : wrap64 i = i := by unfold wrap64; omega
theorem wrap_succ {i : Nat} (h : i < 9223372036854775807) : wrap64 ((i : Int) + 1) = ((i + 1 : Nat) : Int) := by rw [wrap_id (by omega) (by omega)]; omega
theorem succ_of {n k : Nat} (h : n < k) : ∃ m, k = m + 1 := ⟨k - 1, by omega⟩
theorem bt_drop (s : ByteArray) (i : Nat) (h : i < s.size) : ∃ c : UInt8, s.data.toList.drop i = c :: s.data.toList.drop (i + 1) ∧ bt s i = (c.toNat : Int) := by
  refine ⟨s.data.toList[i]'(by simpa using h), List.drop_eq_getElem_cons _, ?_⟩
  have h' : ((i : Int)).toNat < s.size := by omega
  unfold bt
  rw [dif_pos h']
  have : s[((i : Int)).toNat]'h' = s.data.toList[i]'(by simpa using h) := by
    have e : ((i : Int)).toNat = i := by omega
    simp only [e]
    simp; rfl
  rw [this]

/-- The lines, the first of which begins with cur. -/
def lnsAcc (cur : List UInt8) : List UInt8 → List (List UInt8)
  | [] => [cur]
  | c :: r => if (c.toNat : Int) = 10 then cur :: lnsAcc [] r else lnsAcc (cur ++ [c]) r
def ba (l : List UInt8) : ByteArray := ⟨l.toArray⟩
theorem ba_data (l : List UInt8) : (ba l).data.toList = l := by simp [ba]
theorem ba_size (l : List UInt8) : (ba l).size = l.length := rfl
theorem ba_of (s : ByteArray) : ba s.data.toList = s := by simp [ba]
theorem size_data (s : ByteArray) : s.data.toList.length = s.size := by simp
theorem extract_data (s : ByteArray) (a b : Nat) : (s.extract a b).data.toList = (s.data.toList.take b).drop a := by rw [Lib.extract_data, List.drop_take]
theorem extract_ba (s : ByteArray) (a b : Nat) : s.extract a b = ba ((s.data.toList.take b).drop a) := by
  rw [← extract_data, ba_of]

theorem lnsAcc_ne (l : List UInt8) : ∀ cur, lnsAcc cur l ≠ [] := by
  induction l with
  | nil => intro cur; simp [lnsAcc]
  | cons c r ih => intro cur; simp only [lnsAcc]; split <;> simp_all
theorem lnsAcc_len (l : List UInt8) : ∀ cur, (lnsAcc cur l).length ≤ l.length + 1 := by
  induction l with
  | nil => intro cur; simp [lnsAcc]
  | cons c r ih => intro cur; simp only [lnsAcc]; split
                   · simp; exact ih []
                   · have := ih (cur ++ [c]); simp; omega
/-- The sum of the lines' lengths, each with its line feed. -/
def tot : List (List UInt8) → Nat
  | [] => 0
  | l :: r => l.length + 1 + tot r
theorem tot_lns (l : List UInt8) : ∀ cur, tot (lnsAcc cur l) = cur.length + l.length + 1 := by
  induction l with
  | nil => intro cur; simp [lnsAcc, tot]
  | cons c r ih =>
    intro cur; simp only [lnsAcc]; split
    · simp [tot, ih]; omega
    · rw [ih]; simp; omega
theorem tot_append (a b : List (List UInt8)) : tot (a ++ b) = tot a + tot b := by
  induction a with
  | nil => simp [tot]
  | cons x r ih => simp [tot, ih]; omega
theorem lns_no (a : List UInt8) (h : ∀ c ∈ a, ¬ (c.toNat : Int) = 10) : ∀ cur, lnsAcc cur a = [cur ++ a] := by
  induction a with
  | nil => intro cur; simp [lnsAcc]
  | cons c r ih =>
    intro cur
    simp only [lnsAcc]
    rw [if_neg (h c List.mem_cons_self), ih (fun x hx => h x (List.mem_cons_of_mem _ hx))]
    simp
theorem lns_hit (a b : List UInt8) (c : UInt8) (hc : (c.toNat : Int) = 10) (h : ∀ x ∈ a, ¬ (x.toNat : Int) = 10) : ∀ cur, lnsAcc cur (a ++ c :: b) = (cur ++ a) :: lnsAcc [] b := by
  induction a with
  | nil => intro cur; simp [lnsAcc, hc]
  | cons x r ih =>
    intro cur
    simp only [List.cons_append, lnsAcc]
    rw [if_neg (h x List.mem_cons_self), ih (fun y hy => h y (List.mem_cons_of_mem _ hy))]
    simp

/-! ### strings.Split tells the lines -/
theorem idx_lf (s : ByteArray) : (Lib.indexB s lf = -1 ∧ (∀ c ∈ s.data.toList, ¬ (c.toNat : Int) = 10) ∧ Lib.countB s lf = 0) ∨
    ∃ i : Nat, Lib.indexB s lf = i ∧ i < s.size ∧ ∃ c, s.data.toList = s.data.toList.take i ++ c :: s.data.toList.drop (i + 1) ∧ (c.toNat : Int) = 10 ∧ (∀ x ∈ s.data.toList.take i, ¬ (x.toNat : Int) = 10) ∧
      Lib.countB s lf = Lib.countB (s.extract (i + 1) s.size) lf + 1 := by
  have e1 : Lib.indexB s lf = Lib.indexByte s.data.toList 10 := by show Lib.index s.data.toList [10] = _; rw [Lib.index_one]
  have e2 : ∀ x : ByteArray, Lib.countB x lf = x.data.toList.count 10 := fun x => by show Lib.count x.data.toList [10] = _; rw [Lib.count_one]
  simp only [e1, e2]
  have ten : ∀ c : UInt8, (c.toNat : Int) = 10 ↔ c = 10 := fun c => ⟨fun h => by apply UInt8.toNat_inj.1; show c.toNat = 10; omega, fun h => by rw [h]; rfl⟩
  have key : ∀ l : List UInt8, (Lib.indexByte l 10 = -1 ∧ (∀ c ∈ l, ¬ (c.toNat : Int) = 10) ∧ l.count 10 = 0) ∨
      ∃ i : Nat, Lib.indexByte l 10 = i ∧ i < l.length ∧ ∃ c, l = l.take i ++ c :: l.drop (i + 1) ∧ (c.toNat : Int) = 10 ∧ (∀ x ∈ l.take i, ¬ (x.toNat : Int) = 10) ∧ l.count 10 = (l.drop (i + 1)).count 10 + 1 := by
    intro l
    induction l with
    | nil => left; exact ⟨rfl, by simp, rfl⟩
    | cons b r ih =>
      by_cases hb : b = 10
      · right
        subst hb
        exact ⟨0, by simp [Lib.indexByte], by simp, 10, by simp, rfl, by simp, by simp⟩
      · have hb' : (b == 10) = false := beq_eq_false_iff_ne.2 hb
        rcases ih with ⟨h1, h2, h3⟩ | ⟨i, h1, h2, c, h3, h4, h5, h6⟩
        · left
          refine ⟨by simp [Lib.indexByte, hb, h1], ?_, by rw [List.count_cons, h3, hb']; simp⟩
          intro c hc
          rcases List.mem_cons.1 hc with rfl | hc
          · rw [ten]; exact hb
          · exact h2 c hc
        · right
          refine ⟨i + 1, ?_, by simp; omega, c, ?_, h4, ?_, ?_⟩
          · simp only [Lib.indexByte, hb', h1]
            have : ¬ ((i : Int) == -1) = true := by simp
            simp [this]
          · simp only [List.take_succ_cons, List.drop_succ_cons, List.cons_append]
            rw [← h3]
          · intro x hx
            rw [List.take_succ_cons] at hx
            rcases List.mem_cons.1 hx with rfl | hx
            · rw [ten]; exact hb
            · exact h5 x hx
          · rw [List.count_cons, h6, hb', List.drop_succ_cons]; simp
  rcases key s.data.toList with h | ⟨i, h1, h2, c, h3, h4, h5, h6⟩
  · left; exact h
  · right
    refine ⟨i, h1, by rw [size_data] at h2; exact h2, c, h3, h4, h5, ?_⟩
    rw [h6, extract_data, List.take_of_length_le (by simp)]
theorem split_lns : ∀ (n : Nat) (s : ByteArray), Lib.countB s lf = n → Lib.splitB lf 0 n s = (lnsAcc [] s.data.toList).map ba := by
  intro n
  induction n with
  | zero =>
    intro s hs
    rcases idx_lf s with ⟨_, h2, _⟩ | ⟨i, _, _, c, _, _, _, h6⟩
    · rw [Lib.splitB_zero, lns_no _ h2]; simp [ba]
    · omega
  | succ n ih =>
    intro s hs
    rcases idx_lf s with ⟨_, _, h3⟩ | ⟨i, h1, h2, c, h3, h4, h5, h6⟩
    · omega
    · rw [Lib.splitB_hit lf 0 n s i h1]
      have hsz : lf.size = 1 := rfl
      rw [hsz, ih _ (by omega)]
      have e : lnsAcc [] s.data.toList = (s.data.toList.take i) :: lnsAcc [] (s.data.toList.drop (i + 1)) := by
        conv => lhs; rw [h3]
        rw [lns_hit _ _ _ h4 h5]; simp
      rw [e, List.map_cons, extract_data, List.take_of_length_le (by simp), extract_ba]
      simp
theorem lines_eq (s : ByteArray) (hs : s.size ≤ 17000) : edits_Lines.f s = some ((lnsAcc [] s.data.toList).map ba) := by
  unfold edits_Lines.f
  rw [if_pos (by omega), split_lns _ s rfl]

/-! ### the reference's lines -/
theorem ref_lines (s : ByteArray) (hs : s.size ≤ 17000) (d : Nat) : ∀ (k b i : Nat) (acc : List ByteArray), b ≤ i → i ≤ s.size → s.size - i = d → d + 1 < k → acc.length ≤ i →
    jobshellref02_Lines.l0 k s acc b i = some (acc ++ (lnsAcc ((s.data.toList.take i).drop b) (s.data.toList.drop i)).map ba) := by
  induction d with
  | zero =>
    intro k b i acc h0 h1 hd hk ha
    have hi : i = s.size := by omega
    obtain ⟨k, rfl⟩ := succ_of hk
    obtain ⟨k, rfl⟩ := succ_of (n := 0) (k := k) (by omega)
    simp only [jobshellref02_Lines.l0]
    rw [if_pos (by omega), if_pos (by omega), if_pos (by omega), if_pos (by omega), if_pos (by omega), wrap_succ (by omega), if_neg (by omega)]
    have en : s.data.toList.drop i = [] := List.drop_eq_nil_of_le (by rw [size_data]; omega)
    rw [en]
    simp only [lnsAcc, List.map_cons, List.map_nil, Int.toNat_natCast]
    rw [extract_ba]
  | succ d ih =>
    intro k b i acc h0 h1 hd hk ha
    obtain ⟨k, rfl⟩ := succ_of hk
    obtain ⟨c, hc, hbt⟩ := bt_drop s i (by omega)
    have e2 : (s.data.toList.take (i + 1)).drop b = (s.data.toList.take i).drop b ++ [c] := by
      have : s.data.toList.take (i + 1) = s.data.toList.take i ++ [c] := by
        have hlt : i < s.data.toList.length := by rw [size_data]; omega
        rw [List.take_succ_eq_append_getElem hlt]
        have := List.drop_eq_getElem_cons hlt
        rw [hc] at this
        injection this with h1 _
        rw [h1]
      rw [this, List.drop_append_of_le_length (by simp; omega)]
    simp only [jobshellref02_Lines.l0]
    rw [if_pos (by omega), if_neg (by omega), if_pos (by omega), if_pos (by omega), hbt, hc, wrap_succ (by omega)]
    simp only [lnsAcc]
    by_cases h10 : (c.toNat : Int) = 10
    · rw [if_pos h10, if_pos (by omega), if_pos (by omega), if_pos (by omega), if_pos h10]
      rw [ih k (i + 1) (i + 1) _ (by omega) (by omega) (by omega) (by omega) (by simp; omega)]
      have en : (s.data.toList.take (i + 1)).drop (i + 1) = [] := List.drop_eq_nil_of_le (by simp; omega)
      rw [en]
      simp [extract_ba]
    · rw [if_neg h10, if_neg h10, ih k b (i + 1) _ (by omega) (by omega) (by omega) (by omega) (by omega), e2]
theorem ref_lines_eq (s : ByteArray) (hs : s.size ≤ 17000) {k : Nat} (hk : 20000 ≤ k) : jobshellref02_Lines.f k s = some ((lnsAcc [] s.data.toList).map ba) := by
  unfold jobshellref02_Lines.f
  have := ref_lines s hs s.size k 0 0 [] (by omega) (by omega) (by omega) (by omega) (by simp)
  simpa using this
end Go.Proofs.YtlcojdppcjbfdaaDoor.Pure
