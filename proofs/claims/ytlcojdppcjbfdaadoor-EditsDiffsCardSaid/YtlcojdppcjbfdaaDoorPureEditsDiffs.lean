/- EditsDiffs over numbers and lists. -/
import Derived.Test.YtlcojdppcjbfdaaDoorPd
import Derived.Test.YtlcojdppcjbfdaaDoorF8
set_option linter.unusedVariables false
set_option linter.unusedSimpArgs false
namespace Go.Proofs.YtlcojdppcjbfdaaDoor.Pure
open Go.RowKit Go.Proofs.YtlcojdppcjbfdaaDoor.F Go.Proofs.YtlcojdppcjbfdaaDoorW.PrintWords Go.Proofs.YtlcojdppcjbfdaaDoor.Opn
theorem diff_same_l : ∀ k : Nat, (∀ a b x, jobshellref02_Diff.j1 k a b x = edits_Diff.j1 k a b x) ∧ (∀ a b x y, jobshellref02_Diff.l1 k a b x y = edits_Diff.l1 k a b x y) ∧ (∀ a b x, jobshellref02_Diff.l0 k a b x = edits_Diff.l0 k a b x) := by
  intro k
  induction k with
  | zero => exact ⟨fun _ _ _ => rfl, fun _ _ _ _ => rfl, fun _ _ _ => rfl⟩
  | succ k ih =>
    obtain ⟨h1, h2, h3⟩ := ih
    refine ⟨fun a b x => ?_, fun a b x y => ?_, fun a b x => ?_⟩
    · simp only [jobshellref02_Diff.j1, edits_Diff.j1, h2]
    · simp only [jobshellref02_Diff.l1, edits_Diff.l1, h2]
    · simp only [jobshellref02_Diff.l0, edits_Diff.l0, h1, h3]
theorem diff_same (k : Nat) (a b : ByteArray) : jobshellref02_Diff.f k a b = edits_Diff.f k a b := by
  unfold jobshellref02_Diff.f edits_Diff.f
  rw [(diff_same_l k).2.2]
theorem same_self (l : List S53) (hl : l.length ≤ 1000) (rest : List S53) : ∀ (k i : Nat), l.drop i = rest → i ≤ l.length → rest.length < k → jobshellref02_Same.l0 k l l i = some true := by
  induction rest with
  | nil =>
    intro k i h hi hk
    obtain ⟨k, rfl⟩ := succ_of (n := 0) (k := k) (by omega)
    have : l.length ≤ i := List.drop_eq_nil_iff.1 h
    simp only [jobshellref02_Same.l0]
    rw [if_neg (by omega)]
  | cons e r ih =>
    intro k i h hi hk
    rw [List.length_cons] at hk
    obtain ⟨k, rfl⟩ := succ_of (n := 0) (k := k) (by omega)
    obtain ⟨hlt, hrd, hdr⟩ := rd_at l i e r h
    simp only [jobshellref02_Same.l0]
    rw [if_pos (by omega), if_pos (by omega), if_pos (by omega), if_neg (by simp), wrap_succ (by omega)]
    exact ih k (i + 1) hdr (by omega) (by omega)
theorem same_eq (l : List S53) (hl : l.length ≤ 1000) {k : Nat} (hk : 2000 ≤ k) : jobshellref02_Same.f k l l = some true := by
  unfold jobshellref02_Same.f
  rw [if_pos rfl]
  exact same_self l hl l k 0 rfl (by omega) (by omega)
/-- What the difference of a and b is: a common prefix, then a common suffix. -/
def IsDiff (a b : ByteArray) (e : S53) : Prop :=
  0 ≤ e.f0 ∧ e.f0 ≤ e.f1 ∧ e.f1 ≤ a.size ∧ ∃ j : Nat, (b.size : Int) - (a.size - e.f1) = j ∧ e.f0 ≤ j ∧ (j : Int) ≤ b.size ∧ e.f2 = b.extract e.f0.toNat j ∧
    a.data.toList.take e.f0.toNat = b.data.toList.take e.f0.toNat ∧ a.data.toList.drop e.f1.toNat = b.data.toList.drop j
theorem get_bt (s : ByteArray) (i : Nat) (h : i < s.size) : ∃ c : UInt8, s.data.toList[i]? = some c ∧ bt s i = (c.toNat : Int) := by
  obtain ⟨c, h1, h2⟩ := bt_drop s i h
  refine ⟨c, ?_, h2⟩
  have hl : i < s.data.toList.length := by rw [size_data]; exact h
  rw [List.drop_eq_getElem_cons hl] at h1
  injection h1 with h1 _
  rw [List.getElem?_eq_getElem hl, h1]
theorem byte_inj {c d : UInt8} (h : (c.toNat : Int) = d.toNat) : c = d := by apply UInt8.toNat_inj.1; omega
theorem diff_l1 (a b : ByteArray) (ha : a.size ≤ 17000) (hb : b.size ≤ 17000) (i : Nat) (hia : i ≤ a.size) (hib : i ≤ b.size) (hp : a.data.toList.take i = b.data.toList.take i) (d : Nat) : ∀ (k j : Nat), a.size - i - j = d → j ≤ a.size - i → j ≤ b.size - i → d < k →
    a.data.toList.drop (a.size - j) = b.data.toList.drop (b.size - j) → ∃ e, edits_Diff.l1 k a b i j = some [e] ∧ IsDiff a b e := by
  have fin : ∀ (j : Nat), j ≤ a.size - i → j ≤ b.size - i → a.data.toList.drop (a.size - j) = b.data.toList.drop (b.size - j) → IsDiff a b (⟨(i : Int), (a.size : Int) - j, b.extract ((i : Int)).toNat ((b.size : Int) - j).toNat⟩ : S53) := by
    intro j h1 h2 h3
    refine ⟨by show (0 : Int) ≤ i; omega, by show (i : Int) ≤ a.size - j; omega, by show (a.size : Int) - j ≤ a.size; omega, b.size - j, by show (b.size : Int) - (a.size - (a.size - j)) = _; omega, by show (i : Int) ≤ _; omega, by omega, ?_, ?_, ?_⟩
    · show b.extract _ _ = b.extract _ _
      congr 1; omega
    · show a.data.toList.take ((i : Int)).toNat = b.data.toList.take ((i : Int)).toNat
      rw [Int.toNat_natCast]; exact hp
    · show a.data.toList.drop ((a.size : Int) - j).toNat = _
      rw [show ((a.size : Int) - j).toNat = a.size - j by omega]; exact h3
  induction d with
  | zero =>
    intro k j hd h1 h2 hk hs
    obtain ⟨k, rfl⟩ := succ_of (n := 0) (k := k) (by omega)
    simp only [edits_Diff.l1]
    rw [wrap_id (i := (a.size : Int) - i) (by omega) (by omega), if_neg (by omega), if_pos (by omega), wrap_id (i := (b.size : Int) - j) (by omega) (by omega), wrap_id (i := (a.size : Int) - j) (by omega) (by omega), if_pos (by omega), if_pos (by omega)]
    exact ⟨_, rfl, fin j h1 h2 hs⟩
  | succ d ih =>
    intro k j hd h1 h2 hk hs
    obtain ⟨k, rfl⟩ := succ_of (n := 0) (k := k) (by omega)
    simp only [edits_Diff.l1]
    rw [wrap_id (i := (a.size : Int) - i) (by omega) (by omega), if_pos (by omega), wrap_id (i := (b.size : Int) - i) (by omega) (by omega)]
    by_cases c : (j : Int) < (b.size : Int) - i
    · rw [if_pos c, wrap_id (i := (a.size : Int) - 1) (by omega) (by omega), wrap_id (i := (a.size : Int) - 1 - j) (by omega) (by omega), wrap_id (i := (b.size : Int) - 1) (by omega) (by omega), wrap_id (i := (b.size : Int) - 1 - j) (by omega) (by omega), if_pos (by omega), if_pos (by omega), if_pos (by omega), if_pos (by omega)]
      have ea : (a.size : Int) - 1 - j = ((a.size - 1 - j : Nat) : Int) := by omega
      have eb : (b.size : Int) - 1 - j = ((b.size - 1 - j : Nat) : Int) := by omega
      rw [ea, eb]
      obtain ⟨ca, ha1, ha2⟩ := bt_drop a (a.size - 1 - j) (by omega)
      obtain ⟨cb, hb1, hb2⟩ := bt_drop b (b.size - 1 - j) (by omega)
      rw [ha2, hb2]
      by_cases c2 : (ca.toNat : Int) = cb.toNat
      · rw [if_pos c2, wrap_succ (by omega)]
        refine ih k (j + 1) (by omega) (by omega) (by omega) (by omega) ?_
        rw [show a.size - (j + 1) = a.size - 1 - j by omega, show b.size - (j + 1) = b.size - 1 - j by omega, ha1, hb1, show a.size - 1 - j + 1 = a.size - j by omega, show b.size - 1 - j + 1 = b.size - j by omega, hs, byte_inj c2]
      · rw [if_neg c2, if_pos (by omega), wrap_id (i := (b.size : Int) - j) (by omega) (by omega), wrap_id (i := (a.size : Int) - j) (by omega) (by omega), if_pos (by omega), if_pos (by omega)]
        exact ⟨_, rfl, fin j h1 h2 hs⟩
    · rw [if_neg c, if_pos (by omega), wrap_id (i := (b.size : Int) - j) (by omega) (by omega), wrap_id (i := (a.size : Int) - j) (by omega) (by omega), if_pos (by omega), if_pos (by omega)]
      exact ⟨_, rfl, fin j h1 h2 hs⟩
theorem diff_l0 (a b : ByteArray) (ha : a.size ≤ 17000) (hb : b.size ≤ 17000) (d : Nat) : ∀ (k i : Nat), a.size - i = d → i ≤ a.size → i ≤ b.size → d + 20000 < k → a.data.toList.take i = b.data.toList.take i → ∃ e, edits_Diff.l0 k a b i = some [e] ∧ IsDiff a b e := by
  have out : ∀ (k i : Nat), i ≤ a.size → i ≤ b.size → 20000 ≤ k → a.data.toList.take i = b.data.toList.take i → ∃ e, edits_Diff.j1 k a b i = some [e] ∧ IsDiff a b e := by
    intro k i h1 h2 hk hp
    obtain ⟨k, rfl⟩ := succ_of (n := 0) (k := k) (by omega)
    rw [edits_Diff.j1]
    refine diff_l1 a b ha hb i h1 h2 hp (a.size - i) k 0 (by omega) (by omega) (by omega) (by omega) ?_
    rw [List.drop_eq_nil_of_le (by rw [size_data]; omega), List.drop_eq_nil_of_le (by rw [size_data]; omega)]
  induction d with
  | zero =>
    intro k i hd h1 h2 hk hp
    obtain ⟨k, rfl⟩ := succ_of (n := 0) (k := k) (by omega)
    simp only [edits_Diff.l0]
    rw [if_neg (by omega)]
    exact out k i h1 h2 (by omega) hp
  | succ d ih =>
    intro k i hd h1 h2 hk hp
    obtain ⟨k, rfl⟩ := succ_of (n := 0) (k := k) (by omega)
    simp only [edits_Diff.l0]
    rw [if_pos (by omega)]
    by_cases c : (i : Int) < b.size
    · obtain ⟨ca, ha1, ha2⟩ := get_bt a i (by omega)
      obtain ⟨cb, hb1, hb2⟩ := get_bt b i (by omega)
      rw [if_pos c, if_pos (by omega), ha2, hb2]
      by_cases c2 : (ca.toNat : Int) = cb.toNat
      · rw [if_pos c2, wrap_succ (by omega)]
        refine ih k (i + 1) (by omega) (by omega) (by omega) (by omega) ?_
        rw [List.take_add_one, List.take_add_one, ha1, hb1, hp, byte_inj c2]
      · rw [if_neg c2]; exact out k i h1 h2 (by omega) hp
    · rw [if_neg c]; exact out k i h1 h2 (by omega) hp
theorem app_diff {a b : ByteArray} {e : S53} (h : IsDiff a b e) : app a.data.toList [e] 0 = b.data.toList := by
  obtain ⟨h0, h1, h2, j, h3, h4, h5, h6, h7, h8⟩ := h
  simp only [app]
  rw [h6, extract_data, h8, h7]
  have hm : e.f0.toNat ≤ j := by omega
  simp only [Int.toNat_zero, List.drop_zero]
  rw [show List.take e.f0.toNat b.data.toList = List.take e.f0.toNat (List.take j b.data.toList) by rw [List.take_take, Nat.min_eq_left hm], List.take_append_drop, List.take_append_drop]
theorem EditsDiffs (a0 : ByteArray) (a1 : ByteArray) (w0 : a0.size ≤ 140737488351232) (w1 : a1.size ≤ 140737488351232) : ∃ k, jobshelllaw02_EditsDiffs.f k a0 a1 = some true := by
  obtain ⟨k, hk⟩ : ∃ k, 50000 ≤ k := ⟨_, Nat.le_refl _⟩
  refine ⟨k + 1, ?_⟩
  unfold jobshelllaw02_EditsDiffs.f
  have hj : jobshelllaw02_EditsDiffs.j0 (k + 1) a0 a1 true = some true := by rw [jobshelllaw02_EditsDiffs.j0, if_pos rfl, awake_ok (by omega)]; rfl
  by_cases c : (a0.size : Int) > 17000
  · rw [if_pos c, hj]
  · rw [if_neg c]
    by_cases c2 : (a1.size : Int) > 17000
    · rw [decide_eq_true c2, hj]
    · rw [decide_eq_false c2, jobshelllaw02_EditsDiffs.j0, if_neg (by simp), diff_same]
      have ha : a0.size ≤ 17000 := by omega
      have hb : a1.size ≤ 17000 := by omega
      have fin : ∀ l, edits_Diff.f k a0 a1 = some l → l.length ≤ 1000 → Sh l → ((a1.size : Int) ≤ 16384 → vldOf a0 l = 0 ∧ app a0.data.toList l 0 = a1.data.toList) →
          ((edits_Diff.f k a0 a1).bind fun t216 => (edits_Diff.f k a0 a1).bind fun t219 => (jobshellref02_Same.f k t216 t219).bind fun t222 => if t222 = true then (edits_Apply.f k a0 t216).bind fun bt223 => if (a1.size : Int) > 16384 then (jobshelllaw02_awake.f k).bind fun t225 => some t225 else if bt223.2 = 0 then if bt223.1.toList = a1.toList then (jobshelllaw02_awake.f k).bind fun t226 => some t226 else some false else some false else some false) = some true := by
        intro l hl hlen hsh hv
        rw [hl]
        simp only [Option.bind_some]
        rw [same_eq l hlen (by omega)]
        simp only [Option.bind_some, if_true]
        rw [ed_apply_eq a0 ha l hsh (by omega), awake_ok (by omega)]
        simp only [Option.bind_some]
        by_cases c3 : (a1.size : Int) > 16384
        · rw [if_pos c3]
        · rw [if_neg c3]
          obtain ⟨h1, h2⟩ := hv (by omega)
          rw [if_pos h1, if_pos rfl, if_pos]
          rw [Lib.toList_data, Lib.toList_data, ba_data, h2]
      by_cases c4 : a0.toList = a1.toList
      · have hd : edits_Diff.f k a0 a1 = some [] := by unfold edits_Diff.f; rw [if_pos c4]
        refine fin [] hd (by simp) (fun x hx => by cases hx) (fun h => ?_)
        rw [Lib.toList_data, Lib.toList_data] at c4
        have hsz : a0.size = a1.size := by rw [← size_data, ← size_data, c4]
        refine ⟨?_, by simp [app, c4]⟩
        unfold vldOf
        rw [if_neg (by simp), vld, if_neg (by omega)]
      · obtain ⟨e, he, hi⟩ := diff_l0 a0 a1 ha hb a0.size k 0 (by omega) (by omega) (by omega) (by omega) (by simp)
        have hd : edits_Diff.f k a0 a1 = some [e] := by unfold edits_Diff.f; rw [if_neg c4]; exact he
        have happ := app_diff hi
        obtain ⟨h0, h1, h2, j, h3, h4, h5, h6, h7, h8⟩ := hi
        have hsz : e.f2.size = j - e.f0.toNat := by rw [h6]; simp; omega
        refine fin [e] hd (by simp) (fun x hx => by rw [List.mem_singleton.1 hx]; omega) (fun h => ⟨?_, happ⟩)
        unfold vldOf
        rw [if_neg (by simp)]
        simp only [vld]
        rw [if_neg (by omega), if_neg (by omega), if_neg (by omega), if_neg (by omega), if_neg (by omega)]
end Go.Proofs.YtlcojdppcjbfdaaDoor.Pure
