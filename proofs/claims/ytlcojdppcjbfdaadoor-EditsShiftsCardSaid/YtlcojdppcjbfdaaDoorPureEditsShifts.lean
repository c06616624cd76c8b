/- EditsShifts over numbers and lists. -/
import Derived.Test.YtlcojdppcjbfdaaDoorPd
import Derived.Test.YtlcojdppcjbfdaaDoorEd
set_option linter.unusedVariables false
set_option linter.unusedSimpArgs false
namespace Go.Proofs.YtlcojdppcjbfdaaDoor.Pure
open Go.RowKit Go.Proofs.YtlcojdppcjbfdaaDoor.F Go.Proofs.YtlcojdppcjbfdaaDoorW.PrintWords Go.Proofs.YtlcojdppcjbfdaaDoor.Opn
/-- Where offset x goes, as the reference counts. -/
def shR : List S53 → Int → Int → Int
  | [], x, m => x + m
  | e :: r, x, m => if e.f0 < x then (if x < e.f1 then e.f0 + m else shR r x (m + e.f2.size - (e.f1 - e.f0))) else shR r x m
theorem shR_low (n : Int) (l : List S53) : ∀ (a x m : Int), Chain n a l → x ≤ a → shR l x m = x + m := by
  induction l with
  | nil => intro a x m h hx; rfl
  | cons e r ih =>
    intro a x m h hx
    obtain ⟨h0, h1, h2, h3, h4⟩ := h
    simp only [shR]
    rw [if_neg (by omega)]
    exact ih e.f1 x m h4 (by omega)
theorem shR_ge (n : Int) (l : List S53) : ∀ (a y m : Int), Chain n a l → a ≤ y → a + m ≤ shR l y m := by
  induction l with
  | nil => intro a y m h hy; simp only [shR]; omega
  | cons e r ih =>
    intro a y m h hy
    obtain ⟨h0, h1, h2, h3, h4⟩ := h
    simp only [shR]
    split
    · split
      · omega
      · have := ih e.f1 y (m + e.f2.size - (e.f1 - e.f0)) h4 (by omega); omega
    · rw [shR_low n r e.f1 y m h4 (by omega)]; omega
theorem shR_mono (n : Int) (l : List S53) : ∀ (a x y m : Int), Chain n a l → 0 ≤ x → x ≤ y → shR l x m ≤ shR l y m := by
  induction l with
  | nil => intro a x y m h h0 hx; simp only [shR]; omega
  | cons e r ih =>
    intro a x y m h hx0 hxy
    have hall := h
    obtain ⟨h0, h1, h2, h3, h4⟩ := h
    by_cases c : e.f0 < x
    · by_cases c2 : x < e.f1
      · have e1 : shR (e :: r) x m = e.f0 + m := by simp only [shR]; rw [if_pos c, if_pos c2]
        rw [e1]
        simp only [shR]
        rw [if_pos (by omega)]
        by_cases c3 : y < e.f1
        · rw [if_pos c3]; omega
        · rw [if_neg c3]
          have := shR_ge n r e.f1 y (m + e.f2.size - (e.f1 - e.f0)) h4 (by omega); omega
      · simp only [shR]
        rw [if_pos c, if_neg c2, if_pos (by omega), if_neg (by omega)]
        exact ih e.f1 x y _ h4 hx0 hxy
    · have e1 : shR (e :: r) x m = x + m := by
        simp only [shR]; rw [if_neg c]; exact shR_low n r e.f1 x m h4 (by omega)
      rw [e1]
      exact shR_ge n (e :: r) x y m ⟨hx0, by omega, h2, h3, h4⟩ hxy
theorem ed_shift (n x : Int) (hn : n ≤ 17000) (hx0 : 0 ≤ x) (hx : x ≤ 16384) (l : List S53) (hl : l.length ≤ 300) (rest : List S53) : ∀ (k i : Nat) (a b m : Int), l.drop i = rest → i ≤ l.length → Chain n a rest → Sh rest → (b = m ∨ x ≤ a) → -(40000 * (i + 1) : Int) ≤ m → m ≤ 40000 * (i + 1) → -(40000 * (i + 1) : Int) ≤ b → b ≤ 40000 * (i + 1) → 2 * rest.length < k →
    edits_Shift.l0 k x b m l (l.length : Nat) i = some (shR rest x m) := by
  induction rest with
  | nil =>
    intro k i a b m h hi hc hsh hbm m0 m1 b0 b1 hk
    obtain ⟨k, rfl⟩ := succ_of (n := 0) (k := k) (by omega)
    have : l.length ≤ i := List.drop_eq_nil_iff.1 h
    simp only [edits_Shift.l0, shR]
    rw [if_neg (by omega), wrap_id (by omega) (by omega)]
  | cons e r ih =>
    intro k i a b m h hi hc hsh hbm m0 m1 b0 b1 hk
    obtain ⟨c0, c1, c2, c3, c4⟩ := hc
    have he : e.f2.size ≤ 17000 := hsh e List.mem_cons_self
    have hsr : Sh r := fun x hx => hsh x (List.mem_cons_of_mem _ hx)
    rw [List.length_cons] at hk
    obtain ⟨k, rfl⟩ := succ_of (n := 0) (k := k) (by omega)
    obtain ⟨k, rfl⟩ := succ_of (n := 0) (k := k) (by omega)
    obtain ⟨hlt, hrd, hdr⟩ := rd_at l i e r h
    rw [edits_Shift.l0, if_pos (by omega), if_pos (by omega), if_pos (by omega), hrd]
    have hw : wrap64 ((e.f2.size : Int) - wrap64 (e.f1 - e.f0)) = (e.f2.size : Int) - (e.f1 - e.f0) := by rw [wrap_id (i := e.f1 - e.f0) (by omega) (by omega), wrap_id (by omega) (by omega)]
    simp only [shR]
    by_cases d1 : e.f0 < x
    · rw [if_pos d1, if_pos d1]
      by_cases d2 : x < e.f1
      · rw [decide_eq_true d2, if_pos d2, edits_Shift.j1, if_pos rfl, wrap_id (by omega) (by omega)]
        congr 1; omega
      · rw [decide_eq_false d2, if_neg d2, edits_Shift.j1, if_neg (by simp), if_pos (by omega), if_pos d1, hw, wrap_id (i := b + ((e.f2.size : Int) - (e.f1 - e.f0))) (by omega) (by omega), wrap_id (i := m + ((e.f2.size : Int) - (e.f1 - e.f0))) (by omega) (by omega), wrap_succ (by omega)]
        rw [ih k (i + 1) e.f1 _ _ hdr (by omega) c4 hsr (by omega) (by omega) (by omega) (by omega) (by omega) (by omega)]
        congr 2; omega
    · rw [if_neg d1, if_neg d1, edits_Shift.j1, if_neg (by simp)]
      have fin : edits_Shift.l0 k x (b + ((e.f2.size : Int) - (e.f1 - e.f0))) m l (l.length : Nat) ((i + 1 : Nat) : Int) = some (shR r x m) :=
        ih k (i + 1) e.f1 _ _ hdr (by omega) c4 hsr (.inr (by omega)) (by omega) (by omega) (by omega) (by omega) (by omega)
      rw [hw, wrap_id (i := b + ((e.f2.size : Int) - (e.f1 - e.f0))) (by omega) (by omega), wrap_succ (by omega)]
      by_cases d3 : e.f1 ≤ x
      · rw [if_pos d3, if_neg d1]; exact fin
      · rw [if_neg d3]; exact fin
theorem ref_shift (n x : Int) (hn : n ≤ 17000) (hx0 : 0 ≤ x) (hx : x ≤ 16384) (l : List S53) (hl : l.length ≤ 300) (rest : List S53) : ∀ (k i : Nat) (a m : Int), l.drop i = rest → i ≤ l.length → Chain n a rest → Sh rest → -(40000 * (i + 1) : Int) ≤ m → m ≤ 40000 * (i + 1) → 2 * rest.length < k →
    jobshellref02_Shift.l0 k l x m i = some (shR rest x m) := by
  induction rest with
  | nil =>
    intro k i a m h hi hc hsh m0 m1 hk
    obtain ⟨k, rfl⟩ := succ_of (n := 0) (k := k) (by omega)
    have : l.length ≤ i := List.drop_eq_nil_iff.1 h
    simp only [jobshellref02_Shift.l0, shR]
    rw [if_neg (by omega), wrap_id (by omega) (by omega)]
  | cons e r ih =>
    intro k i a m h hi hc hsh m0 m1 hk
    obtain ⟨c0, c1, c2, c3, c4⟩ := hc
    have he : e.f2.size ≤ 17000 := hsh e List.mem_cons_self
    have hsr : Sh r := fun x hx => hsh x (List.mem_cons_of_mem _ hx)
    rw [List.length_cons] at hk
    obtain ⟨k, rfl⟩ := succ_of (n := 0) (k := k) (by omega)
    obtain ⟨k, rfl⟩ := succ_of (n := 0) (k := k) (by omega)
    obtain ⟨hlt, hrd, hdr⟩ := rd_at l i e r h
    rw [jobshellref02_Shift.l0, if_pos (by omega), if_pos (by omega), hrd]
    simp only [shR]
    by_cases d1 : e.f0 < x
    · rw [if_pos d1, if_pos d1]
      by_cases d2 : x < e.f1
      · rw [decide_eq_true d2, if_pos d2, jobshellref02_Shift.j1, if_pos rfl, if_pos (by omega), if_pos (by omega), hrd, wrap_id (by omega) (by omega)]
      · rw [decide_eq_false d2, if_neg d2, jobshellref02_Shift.j1, if_neg (by simp), if_pos (by omega), if_pos (by omega), hrd, if_pos d1, if_pos (by omega), wrap_id (i := e.f1 - e.f0) (by omega) (by omega), wrap_id (i := m + (e.f2.size : Int)) (by omega) (by omega), wrap_id (i := m + (e.f2.size : Int) - (e.f1 - e.f0)) (by omega) (by omega), wrap_succ (by omega)]
        exact ih k (i + 1) e.f1 _ hdr (by omega) c4 hsr (by omega) (by omega) (by omega)
    · rw [if_neg d1, if_neg d1, jobshellref02_Shift.j1, if_neg (by simp), if_pos (by omega), if_pos (by omega), hrd, if_neg d1, wrap_succ (by omega)]
      exact ih k (i + 1) e.f1 _ hdr (by omega) c4 hsr (by omega) (by omega) (by omega)
theorem EditsShifts (a0 : ByteArray) (l1 : List S53) (x2 : Int × Int) (w0 : a0.size ≤ 140737488351232) (w1 : l1.length ≤ maxLen ∧ ∀ x ∈ l1, ok53 x) (w2 : (Lit.int .u16 x2.1).wf = true ∧ (Lit.int .u16 x2.2).wf = true) : ∃ k, lawShifts.f k a0 l1 x2.1 x2.2 = some true := by
  obtain ⟨k, hk⟩ : ∃ k, 40000 ≤ k := ⟨_, Nat.le_refl _⟩
  refine ⟨k, ?_⟩
  obtain ⟨x, y⟩ := x2
  have bd : ∀ z : Int, (Lit.int .u16 z).wf = true → 0 ≤ z ∧ z ≤ 65535 := by
    intro z h
    simp only [Lit.wf, Bool.and_eq_true, decide_eq_true_eq] at h
    exact ⟨h.1, h.2⟩
  have hx := bd x w2.1
  have hy := bd y w2.2
  show lawShifts.f k a0 l1 x y = some true
  unfold lawShifts.f
  rw [if_pos ⟨hx.1, hx.2, hy.1, hy.2⟩]
  obtain ⟨b, h1, h2⟩ := few_eq a0 l1 (k := k) (by omega)
  rw [h1]
  simp only [Option.bind_some]
  rw [awake_ok (by omega)]
  cases b with
  | false => rfl
  | true =>
    obtain ⟨h3, h4, h5⟩ := h2 rfl
    rw [if_pos rfl, ed_vld_eq a0 h3 l1 h5 (by omega)]
    simp only [Option.bind_some]
    by_cases h : vldOf a0 l1 = 0
    · rw [if_pos h]
      obtain ⟨g1, g2, g3⟩ := vldOf_zero h
      have es : ∀ z : Int, 0 ≤ z → edits_Shift.f k l1 (cap16 z) = some (shR l1 (cap16 z) 0) := fun z hz =>
        ed_shift a0.size (cap16 z) (by omega) (by unfold cap16; omega) (by unfold cap16; omega) l1 (by omega) l1 k 0 0 0 0 rfl (by omega) g2 h5 (.inl rfl) (by omega) (by omega) (by omega) (by omega) (by omega)
      have rs : jobshellref02_Shift.f k l1 (cap16 x) = some (shR l1 (cap16 x) 0) :=
        ref_shift a0.size (cap16 x) (by omega) (by unfold cap16; omega) (by unfold cap16; omega) l1 (by omega) l1 k 0 0 0 rfl (by omega) g2 h5 (by omega) (by omega) (by omega)
      rw [es x hx.1, es y hy.1, rs]
      simp only [Option.bind_some]
      rw [if_pos ⟨trivial, fun hle => shR_mono a0.size l1 0 _ _ 0 g2 (by unfold cap16; omega) hle⟩]
    · rw [if_neg h]
end Go.Proofs.YtlcojdppcjbfdaaDoor.Pure
