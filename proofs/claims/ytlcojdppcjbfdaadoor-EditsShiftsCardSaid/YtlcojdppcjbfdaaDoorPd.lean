/- Plain lemmas: Valid and Apply, of the program and of the reference. No program. -/
import Derived.Test.YtlcojdppcjbfdaaDoorPz
import Derived.Test.YtlcojdppcjbfdaaDoorF16
import Derived.Test.YtlcojdppcjbfdaaDoorF18
import Derived.Test.YtlcojdppcjbfdaaDoorOks
set_option linter.unusedVariables false
set_option linter.unusedSimpArgs false
namespace Go.Proofs.YtlcojdppcjbfdaaDoor.Pure
open Go.RowKit Go.Proofs.YtlcojdppcjbfdaaDoor.F Go.Proofs.YtlcojdppcjbfdaaDoorW.PrintWords Go.Proofs.YtlcojdppcjbfdaaDoor.Opn

theorem rd_at (l : List S53) (i : Nat) (e : S53) (r : List S53) (h : l.drop i = e :: r) : i < l.length ∧ rd_T53 l i = e ∧ l.drop (i + 1) = r := by
  have hlt : i < l.length := by
    rcases Nat.lt_or_ge i l.length with h' | h'
    · exact h'
    · rw [List.drop_eq_nil_of_le h'] at h; cases h
  rw [List.drop_eq_getElem_cons hlt] at h
  injection h with h1 h2
  refine ⟨hlt, ?_, h2⟩
  unfold rd_T53
  have : ((i : Int)).toNat = i := by omega
  rw [this, List.getD_eq_getElem?_getD, List.getElem?_eq_getElem hlt]
  simpa using h1
/-- The error of a list of edits of a string of n bytes. -/
def vld (n : Int) : List S53 → Int → Int → Int
  | [], size, _ => if size > 16384 then 3 else 0
  | e :: r, size, last => if e.f0 < 0 then 2 else if e.f1 < e.f0 then 2 else if n < e.f1 then 2 else if e.f0 < last then 25 else vld n r (size + e.f2.size - (e.f1 - e.f0)) e.f1
/-- The texts are short. -/
def Sh (l : List S53) : Prop := ∀ e ∈ l, e.f2.size ≤ 17000
def I64 (l : List S53) : Prop := ∀ e ∈ l, (-9223372036854775808 ≤ e.f0 ∧ e.f0 ≤ 9223372036854775807) ∧ (-9223372036854775808 ≤ e.f1 ∧ e.f1 ≤ 9223372036854775807)
theorem ed_vld (s : ByteArray) (hs : s.size ≤ 17000) (l : List S53) (hl : l.length ≤ 300) (rest : List S53) : ∀ (k i : Nat) (size last : Int), l.drop i = rest → Sh rest → i ≤ l.length → 2 * rest.length < k → -(40000 * (i + 1) : Int) ≤ size → size ≤ 40000 * (i + 1) →
    edits_Valid.l0 k s size last l (l.length : Nat) i = some (vld s.size rest size last) := by
  induction rest with
  | nil =>
    intro k i size last h hsh hi hk h0 h1
    obtain ⟨k, rfl⟩ := succ_of (n := 0) (k := k) (by omega)
    have : l.length ≤ i := List.drop_eq_nil_iff.1 h
    simp only [edits_Valid.l0, vld]
    rw [if_neg (by omega)]
    split <;> rfl
  | cons e r ih =>
    intro k i size last h hsh hi hk h0 h1
    rw [List.length_cons] at hk
    obtain ⟨k, rfl⟩ := succ_of (n := 0) (k := k) (by omega)
    obtain ⟨k, rfl⟩ := succ_of (n := 0) (k := k) (by omega)
    obtain ⟨hlt, hrd, hdr⟩ := rd_at l i e r h
    have he : e.f2.size ≤ 17000 := hsh e List.mem_cons_self
    have hj : ∀ size last, edits_Valid.j1 (k + 1) s size last l (l.length : Nat) i true e.f0 e.f1 e.f2 = some 2 := fun size last => by simp [edits_Valid.j1]
    rw [edits_Valid.l0]
    rw [if_pos (by omega), if_pos (by omega), if_pos (by omega), hrd]
    simp only [vld]
    by_cases c1 : e.f0 < 0
    · rw [if_pos c1, if_pos c1, hj]
    · rw [if_neg c1, if_neg c1]
      by_cases c2 : e.f1 < e.f0
      · rw [if_pos c2, if_pos c2, hj]
      · rw [if_neg c2, if_neg c2]
        by_cases c3 : (s.size : Int) < e.f1
        · rw [decide_eq_true (show e.f1 > (s.size : Int) from c3), if_pos c3, hj]
        · rw [decide_eq_false (show ¬ e.f1 > (s.size : Int) from c3), if_neg c3, edits_Valid.j1, if_neg (by simp)]
          by_cases c4 : e.f0 < last
          · rw [if_pos c4, if_pos c4]
          · rw [if_neg c4, if_neg c4, wrap_succ (by omega), wrap_id (i := e.f1 - e.f0) (by omega) (by omega), wrap_id (i := (e.f2.size : Int) - (e.f1 - e.f0)) (by omega) (by omega), wrap_id (i := size + ((e.f2.size : Int) - (e.f1 - e.f0))) (by omega) (by omega)]
            have e1 : size + ((e.f2.size : Int) - (e.f1 - e.f0)) = size + e.f2.size - (e.f1 - e.f0) := by omega
            rw [e1]
            exact ih k (i + 1) _ _ hdr (fun x hx => hsh x (List.mem_cons_of_mem _ hx)) (by omega) (by omega) (by omega) (by omega)
theorem ref_vld (s : ByteArray) (hs : s.size ≤ 17000) (l : List S53) (hl : l.length ≤ 300) (rest : List S53) : ∀ (k i : Nat) (size last : Int), l.drop i = rest → Sh rest → i ≤ l.length → 2 * rest.length < k → -(40000 * (i + 1) : Int) ≤ size → size ≤ 40000 * (i + 1) →
    jobshellref02_Valid.l0 k s l size last i = some (vld s.size rest size last) := by
  induction rest with
  | nil =>
    intro k i size last h hsh hi hk h0 h1
    obtain ⟨k, rfl⟩ := succ_of (n := 0) (k := k) (by omega)
    have : l.length ≤ i := List.drop_eq_nil_iff.1 h
    simp only [jobshellref02_Valid.l0, vld]
    rw [if_neg (by omega)]
    split <;> rfl
  | cons e r ih =>
    intro k i size last h hsh hi hk h0 h1
    rw [List.length_cons] at hk
    obtain ⟨k, rfl⟩ := succ_of (n := 0) (k := k) (by omega)
    obtain ⟨k, rfl⟩ := succ_of (n := 0) (k := k) (by omega)
    obtain ⟨hlt, hrd, hdr⟩ := rd_at l i e r h
    have he : e.f2.size ≤ 17000 := hsh e List.mem_cons_self
    have hj : ∀ size last, jobshellref02_Valid.j1 (k + 1) s l size last i true = some 2 := fun size last => by simp [jobshellref02_Valid.j1]
    rw [jobshellref02_Valid.l0]
    rw [if_pos (by omega), if_pos (by omega), hrd]
    simp only [vld]
    by_cases c1 : e.f0 < 0
    · rw [if_pos c1, if_pos c1, hj]
    · rw [if_neg c1, if_neg c1]
      by_cases c2 : e.f1 < e.f0
      · rw [if_pos (show e.f0 > e.f1 from c2), if_pos c2, hj]
      · rw [if_neg (show ¬ e.f0 > e.f1 from c2), if_neg c2]
        by_cases c3 : (s.size : Int) < e.f1
        · rw [decide_eq_true (show e.f1 > (s.size : Int) from c3), if_pos c3, hj]
        · rw [decide_eq_false (show ¬ e.f1 > (s.size : Int) from c3), if_neg c3, jobshellref02_Valid.j1, if_neg (by simp), if_pos (by omega), if_pos (by omega), hrd]
          by_cases c4 : e.f0 < last
          · rw [if_pos c4, if_pos c4]
          · rw [if_neg c4, if_neg c4, wrap_succ (by omega), wrap_id (i := e.f1 - e.f0) (by omega) (by omega), wrap_id (i := size + (e.f2.size : Int)) (by omega) (by omega), wrap_id (i := size + (e.f2.size : Int) - (e.f1 - e.f0)) (by omega) (by omega)]
            exact ih k (i + 1) _ _ hdr (fun x hx => hsh x (List.mem_cons_of_mem _ hx)) (by omega) (by omega) (by omega) (by omega)
/-- The error that Valid tells. -/
def vldOf (s : ByteArray) (l : List S53) : Int := if (l.length : Int) > 256 then 4 else vld s.size l s.size 0
theorem ed_vld_eq (s : ByteArray) (hs : s.size ≤ 17000) (l : List S53) (hsh : Sh l) {k : Nat} (hk : 1000 ≤ k) : edits_Valid.f k s l = some (vldOf s l) := by
  unfold edits_Valid.f vldOf
  by_cases h : (l.length : Int) > 256
  · rw [if_pos h, if_pos h]
  · rw [if_neg h, if_neg h]
    exact ed_vld s hs l (by omega) l k 0 s.size 0 rfl hsh (by omega) (by omega) (by omega) (by omega)
theorem ref_vld_eq (s : ByteArray) (hs : s.size ≤ 17000) (l : List S53) (hsh : Sh l) {k : Nat} (hk : 1000 ≤ k) : jobshellref02_Valid.f k s l = some (vldOf s l) := by
  unfold jobshellref02_Valid.f vldOf
  by_cases h : (l.length : Int) > 256
  · rw [if_pos h, if_pos h]
  · rw [if_neg h, if_neg h]
    exact ref_vld s hs l (by omega) l k 0 s.size 0 rfl hsh (by omega) (by omega) (by omega) (by omega)
/-- The edits lie in order within n bytes. -/
def Chain (n : Int) : Int → List S53 → Prop
  | a, [] => 0 ≤ a ∧ a ≤ n
  | a, e :: r => 0 ≤ a ∧ a ≤ e.f0 ∧ e.f0 ≤ e.f1 ∧ e.f1 ≤ n ∧ Chain n e.f1 r
/-- By how much the edits lengthen. -/
def grow : List S53 → Int
  | [] => 0
  | e :: r => e.f2.size - (e.f1 - e.f0) + grow r
theorem vld_chain (n : Int) (l : List S53) : ∀ (size last : Int), 0 ≤ last → last ≤ n → vld n l size last = 0 → Chain n last l ∧ size + grow l ≤ 16384 := by
  induction l with
  | nil =>
    intro size last h0 h1 h
    simp only [vld] at h
    split at h
    · cases h
    · exact ⟨⟨h0, h1⟩, by simp [grow]; omega⟩
  | cons e r ih =>
    intro size last h0 h1 h
    simp only [vld] at h
    split at h
    · cases h
    split at h
    · cases h
    split at h
    · cases h
    split at h
    · cases h
    obtain ⟨h2, h3⟩ := ih _ _ (by omega) (by omega) h
    exact ⟨⟨h0, by omega, by omega, by omega, h2⟩, by simp only [grow]; omega⟩
theorem vldOf_zero {s : ByteArray} {l : List S53} (h : vldOf s l = 0) : l.length ≤ 256 ∧ Chain s.size 0 l ∧ (s.size : Int) + grow l ≤ 16384 := by
  unfold vldOf at h
  split at h
  · cases h
  · obtain ⟨h1, h2⟩ := vld_chain s.size l s.size 0 (by omega) (by omega) h
    exact ⟨by omega, h1, h2⟩
/-- The edited string. -/
def app (s : List UInt8) : List S53 → Int → List UInt8
  | [], a => s.drop a.toNat
  | e :: r, a => (s.take e.f0.toNat).drop a.toNat ++ e.f2.data.toList ++ app s r e.f1
theorem applyGo_eq (s : ByteArray) (hs : s.size ≤ 17000) (l : List S53) : ∀ (a : Int) (out : List UInt8), Chain s.size a l → Sh l → (out.length : Int) + 40000 * l.length ≤ 100000000 → applyGo s l a out = some (out ++ app s.data.toList l a) := by
  induction l with
  | nil =>
    intro a out h hsh hl
    obtain ⟨h0, h1⟩ := h
    simp only [applyGo, app]
    rw [if_pos h0, if_pos h1, if_pos (by simp at hl; omega), extract_data, List.take_of_length_le (by simp)]
  | cons e r ih =>
    intro a out h hsh hl
    obtain ⟨h0, h1, h2, h3, h4⟩ := h
    have he : e.f2.size ≤ 17000 := hsh e List.mem_cons_self
    rw [List.length_cons] at hl
    simp only [applyGo, app]
    rw [if_pos h0, if_pos h1, if_pos (by omega), if_pos (by omega), extract_data]
    have hx : ((s.data.toList.take e.f0.toNat).drop a.toNat).length ≤ 17000 := by rw [List.length_drop, List.length_take, size_data]; omega
    have hy : e.f2.data.toList.length ≤ 17000 := by rw [size_data]; exact he
    rw [ih _ _ h4 (fun x hx => hsh x (List.mem_cons_of_mem _ hx)) (by rw [List.length_append, List.length_append]; omega)]
    simp
theorem size_ba_append (a b : ByteArray) : (a ++ b).size = a.size + b.size := by simp
theorem ref_apply (s : ByteArray) (hs : s.size ≤ 17000) (l : List S53) (hll : l.length ≤ 300) (rest : List S53) : ∀ (k i : Nat) (a : Int) (out : ByteArray), l.drop i = rest → i ≤ l.length → Chain s.size a rest → Sh rest → (out.size : Int) + 40000 * rest.length ≤ 100000000 → rest.length < k →
    jobshellref02_apply.l0 k s l out a i = some (ba (out.data.toList ++ app s.data.toList rest a)) := by
  induction rest with
  | nil =>
    intro k i a out h hi hc hsh hl hk
    obtain ⟨h0, h1⟩ := hc
    obtain ⟨k, rfl⟩ := succ_of (n := 0) (k := k) (by omega)
    have : l.length ≤ i := List.drop_eq_nil_iff.1 h
    have hx : (s.extract a.toNat s.size).size ≤ 17000 := by simp; omega
    simp only [jobshellref02_apply.l0, app]
    rw [if_neg (by omega), if_pos h0, if_pos h1, if_pos (by simp at hl; omega), extract_ba, List.take_of_length_le (by simp)]
    congr 1
  | cons e r ih =>
    intro k i a out h hi hc hsh hl hk
    obtain ⟨h0, h1, h2, h3, h4⟩ := hc
    have he : e.f2.size ≤ 17000 := hsh e List.mem_cons_self
    rw [List.length_cons] at hl hk
    obtain ⟨k, rfl⟩ := succ_of (n := 0) (k := k) (by omega)
    obtain ⟨hlt, hrd, hdr⟩ := rd_at l i e r h
    have hx : (s.extract a.toNat e.f0.toNat).size ≤ 17000 := by simp; omega
    have hx2 : (out ++ s.extract a.toNat e.f0.toNat).size ≤ out.size + 17000 := by rw [size_ba_append]; omega
    simp only [jobshellref02_apply.l0, app]
    rw [if_pos (by omega), if_pos (by omega), if_pos h0, hrd, if_pos h1, if_pos (by omega), if_pos (by omega), if_pos (by omega), wrap_succ (by omega)]
    rw [ih k (i + 1) _ _ hdr (by omega) h4 (fun x hx => hsh x (List.mem_cons_of_mem _ hx)) (by rw [size_ba_append, size_ba_append]; omega) (by omega)]
    congr 2
    have : (out ++ s.extract a.toNat e.f0.toNat ++ e.f2).data.toList = out.data.toList ++ (s.extract a.toNat e.f0.toNat).data.toList ++ e.f2.data.toList := by simp
    rw [this, extract_data]
    simp
theorem ed_apply_eq (s : ByteArray) (hs : s.size ≤ 17000) (l : List S53) (hsh : Sh l) {k : Nat} (hk : 1000 ≤ k) : edits_Apply.f k s l = some (if vldOf s l = 0 then (ba (app s.data.toList l 0), 0) else (s, vldOf s l)) := by
  unfold edits_Apply.f
  rw [ed_vld_eq s hs l hsh hk]
  simp only [Option.bind_some]
  by_cases h : vldOf s l = 0
  · obtain ⟨h1, h2, h3⟩ := vldOf_zero h
    rw [if_pos h, if_pos h, applyGo_eq s hs l 0 [] h2 hsh (by simp; omega)]
    rfl
  · rw [if_neg h, if_neg h]
theorem ref_apply_eq (s : ByteArray) (hs : s.size ≤ 17000) (l : List S53) (hsh : Sh l) {k : Nat} (hk : 1000 ≤ k) : jobshellref02_Apply.f k s l = some (if vldOf s l = 0 then (ba (app s.data.toList l 0), 0) else (s, vldOf s l)) := by
  unfold jobshellref02_Apply.f
  rw [ref_vld_eq s hs l hsh hk]
  simp only [Option.bind_some]
  by_cases h : vldOf s l = 0
  · obtain ⟨h1, h2, h3⟩ := vldOf_zero h
    rw [if_pos h, if_pos h]
    unfold jobshellref02_apply.f
    have := ref_apply s hs l (by omega) l k 0 0 (ba []) rfl (by omega) h2 hsh (by rw [ba_size]; simp; omega) (by omega)
    rw [show jobshellref02_apply.l0 k s l (⟨#[]⟩ : ByteArray) 0 0 = _ from this]
    rfl
  · rw [if_neg h, if_neg h]
/-! ### few -/
theorem few_loop (l : List S53) (hl : l.length ≤ 300) (rest : List S53) : ∀ (k i : Nat), l.drop i = rest → i ≤ l.length → rest.length < k → ∃ b, jobshelllaw02_few.l0 k l i = some b ∧ (b = true → Sh rest) := by
  induction rest with
  | nil =>
    intro k i h hi hk
    obtain ⟨k, rfl⟩ := succ_of (n := 0) (k := k) (by omega)
    have : l.length ≤ i := List.drop_eq_nil_iff.1 h
    simp only [jobshelllaw02_few.l0]
    rw [if_neg (by omega)]
    exact ⟨true, rfl, fun _ e he => by cases he⟩
  | cons e r ih =>
    intro k i h hi hk
    rw [List.length_cons] at hk
    obtain ⟨k, rfl⟩ := succ_of (n := 0) (k := k) (by omega)
    obtain ⟨hlt, hrd, hdr⟩ := rd_at l i e r h
    simp only [jobshelllaw02_few.l0]
    rw [if_pos (by omega), if_pos (by omega), hrd]
    by_cases c : ((e.f2).size : Int) > 17000
    · rw [if_pos c]; exact ⟨false, rfl, fun h => by cases h⟩
    · rw [if_neg c, wrap_succ (by omega)]
      obtain ⟨b, h1, h2⟩ := ih k (i + 1) hdr (by omega) (by omega)
      refine ⟨b, h1, fun hb x hx => ?_⟩
      rcases List.mem_cons.1 hx with rfl | hx
      · omega
      · exact h2 hb x hx
theorem few_eq (s : ByteArray) (l : List S53) {k : Nat} (hk : 1000 ≤ k) : ∃ b, jobshelllaw02_few.f k s l = some b ∧ (b = true → s.size ≤ 17000 ∧ l.length ≤ 300 ∧ Sh l) := by
  obtain ⟨k, rfl⟩ := succ_of (n := 0) (k := k) (by omega)
  unfold jobshelllaw02_few.f
  have hj : jobshelllaw02_few.j0 (k + 1) l true = some false := by simp [jobshelllaw02_few.j0]
  by_cases c : (s.size : Int) > 17000
  · rw [if_pos c, hj]; exact ⟨false, rfl, fun h => by cases h⟩
  · rw [if_neg c]
    by_cases c2 : (l.length : Int) > 300
    · rw [decide_eq_true c2, hj]; exact ⟨false, rfl, fun h => by cases h⟩
    · rw [decide_eq_false c2, jobshelllaw02_few.j0, if_neg (by simp)]
      obtain ⟨b, h1, h2⟩ := few_loop l (by omega) l k 0 rfl (by omega) (by omega)
      exact ⟨b, h1, fun hb => ⟨by omega, by omega, h2 hb⟩⟩
end Go.Proofs.YtlcojdppcjbfdaaDoor.Pure
