/- EditsInverts over numbers and lists. -/
import Derived.Test.YtlcojdppcjbfdaaDoorPd
import Derived.Test.YtlcojdppcjbfdaaDoorF9
set_option linter.unusedVariables false
set_option linter.unusedSimpArgs false
namespace Go.Proofs.YtlcojdppcjbfdaaDoor.Pure
open Go.RowKit Go.Proofs.YtlcojdppcjbfdaaDoor.F Go.Proofs.YtlcojdppcjbfdaaDoorW.PrintWords Go.Proofs.YtlcojdppcjbfdaaDoor.Opn
theorem same_self (l : List S53) (hl : l.length ≤ 1000) (rest : List S53) : ∀ (k i : Nat), l.drop i = rest → i ≤ l.length → rest.length < k → jobshellref02_Same.l0 k l l i = some true := by
  induction rest with
  | nil =>
    intro k i h hi hk
    obtain ⟨k, rfl⟩ := succ_of (n := 0) (k := k) (by omega)
    have : l.length ≤ i := List.drop_eq_nil_iff.1 h
    simp only [jobshellref02_Same.l0]
    rw [if_neg (by omega)]
  | cons e r ih =>
    intro k i h hi hk
    rw [List.length_cons] at hk
    obtain ⟨k, rfl⟩ := succ_of (n := 0) (k := k) (by omega)
    obtain ⟨hlt, hrd, hdr⟩ := rd_at l i e r h
    simp only [jobshellref02_Same.l0]
    rw [if_pos (by omega), if_pos (by omega), if_pos (by omega), if_neg (by simp), wrap_succ (by omega)]
    exact ih k (i + 1) hdr (by omega) (by omega)
theorem same_eq (l : List S53) (hl : l.length ≤ 1000) {k : Nat} (hk : 2000 ≤ k) : jobshellref02_Same.f k l l = some true := by
  unfold jobshellref02_Same.f
  rw [if_pos rfl]
  exact same_self l hl l k 0 rfl (by omega) (by omega)
/-- The edits that undo edits. -/
def inv (s : ByteArray) : List S53 → Int → List S53
  | [], _ => []
  | e :: r, m => ⟨e.f0 + m, e.f0 + m + e.f2.size, s.extract e.f0.toNat e.f1.toNat⟩ :: inv s r (m + e.f2.size - (e.f1 - e.f0))
theorem inv_len (s : ByteArray) (l : List S53) : ∀ m, (inv s l m).length = l.length := by
  induction l with
  | nil => intro m; rfl
  | cons e r ih => intro m; simp [inv, ih]
theorem ed_inv (s : ByteArray) (hs : s.size ≤ 17000) (l : List S53) (hl : l.length ≤ 300) (rest : List S53) : ∀ (k i : Nat) (m a : Int) (acc : List S53), l.drop i = rest → i ≤ l.length → Chain s.size a rest → Sh rest → -(40000 * (i + 1) : Int) ≤ m → m ≤ 40000 * (i + 1) → acc.length ≤ i → rest.length < k →
    edits_Invert.l0 k s acc m l (l.length : Nat) i = some (acc ++ inv s rest m, 0) := by
  induction rest with
  | nil =>
    intro k i m a acc h hi hc hsh h0 h1 ha hk
    obtain ⟨k, rfl⟩ := succ_of (n := 0) (k := k) (by omega)
    have : l.length ≤ i := List.drop_eq_nil_iff.1 h
    simp only [edits_Invert.l0, inv]
    rw [if_neg (by omega)]; simp
  | cons e r ih =>
    intro k i m a acc h hi hc hsh h0 h1 ha hk
    obtain ⟨c0, c1, c2, c3, c4⟩ := hc
    have he : e.f2.size ≤ 17000 := hsh e List.mem_cons_self
    rw [List.length_cons] at hk
    obtain ⟨k, rfl⟩ := succ_of (n := 0) (k := k) (by omega)
    obtain ⟨hlt, hrd, hdr⟩ := rd_at l i e r h
    simp only [edits_Invert.l0, inv]
    rw [if_pos (by omega), if_pos (by omega), if_pos (by omega), hrd, if_pos (by omega), if_pos c2, if_pos c3, if_pos (by omega), wrap_succ (by omega)]
    rw [wrap_id (i := e.f0 + m) (by omega) (by omega), wrap_id (i := e.f0 + m + (e.f2.size : Int)) (by omega) (by omega), wrap_id (i := e.f1 - e.f0) (by omega) (by omega), wrap_id (i := (e.f2.size : Int) - (e.f1 - e.f0)) (by omega) (by omega), wrap_id (i := m + ((e.f2.size : Int) - (e.f1 - e.f0))) (by omega) (by omega)]
    have e1 : m + ((e.f2.size : Int) - (e.f1 - e.f0)) = m + e.f2.size - (e.f1 - e.f0) := by omega
    rw [e1, ih k (i + 1) _ e.f1 _ hdr (by omega) c4 (fun x hx => hsh x (List.mem_cons_of_mem _ hx)) (by omega) (by omega) (by rw [List.length_append, List.length_singleton]; omega) (by omega)]
    simp
theorem ref_inv (s : ByteArray) (hs : s.size ≤ 17000) (l : List S53) (hl : l.length ≤ 300) (rest : List S53) : ∀ (k i : Nat) (m a : Int) (acc : List S53), l.drop i = rest → i ≤ l.length → Chain s.size a rest → Sh rest → -(40000 * (i + 1) : Int) ≤ m → m ≤ 40000 * (i + 1) → acc.length ≤ i → rest.length < k →
    jobshellref02_Invert.l0 k s l acc m i = some (acc ++ inv s rest m, 0) := by
  induction rest with
  | nil =>
    intro k i m a acc h hi hc hsh h0 h1 ha hk
    obtain ⟨k, rfl⟩ := succ_of (n := 0) (k := k) (by omega)
    have : l.length ≤ i := List.drop_eq_nil_iff.1 h
    simp only [jobshellref02_Invert.l0, inv]
    rw [if_neg (by omega)]; simp
  | cons e r ih =>
    intro k i m a acc h hi hc hsh h0 h1 ha hk
    obtain ⟨c0, c1, c2, c3, c4⟩ := hc
    have he : e.f2.size ≤ 17000 := hsh e List.mem_cons_self
    rw [List.length_cons] at hk
    obtain ⟨k, rfl⟩ := succ_of (n := 0) (k := k) (by omega)
    obtain ⟨hlt, hrd, hdr⟩ := rd_at l i e r h
    simp only [jobshellref02_Invert.l0, inv]
    rw [if_pos (by omega), if_pos (by omega), hrd, if_pos (by omega), if_pos c2, if_pos c3, if_pos (by omega), wrap_succ (by omega)]
    rw [wrap_id (i := e.f0 + m) (by omega) (by omega), wrap_id (i := e.f0 + m + (e.f2.size : Int)) (by omega) (by omega), wrap_id (i := e.f1 - e.f0) (by omega) (by omega), wrap_id (i := m + (e.f2.size : Int)) (by omega) (by omega), wrap_id (i := m + (e.f2.size : Int) - (e.f1 - e.f0)) (by omega) (by omega)]
    rw [ih k (i + 1) _ e.f1 _ hdr (by omega) c4 (fun x hx => hsh x (List.mem_cons_of_mem _ hx)) (by omega) (by omega) (by rw [List.length_append, List.length_singleton]; omega) (by omega)]
    simp
def invOf (s : ByteArray) (l : List S53) : List S53 × Int := if vldOf s l = 0 then (inv s l 0, 0) else ([], vldOf s l)
theorem ed_inv_eq (s : ByteArray) (hs : s.size ≤ 17000) (l : List S53) (hsh : Sh l) {k : Nat} (hk : 1000 ≤ k) : edits_Invert.f k s l = some (invOf s l) := by
  unfold edits_Invert.f invOf
  rw [ed_vld_eq s hs l hsh hk]
  simp only [Option.bind_some]
  by_cases h : vldOf s l = 0
  · obtain ⟨h1, h2, h3⟩ := vldOf_zero h
    rw [if_pos h, if_pos h]
    have := ed_inv s hs l (by omega) l k 0 0 0 [] rfl (by omega) h2 hsh (by omega) (by omega) (by simp) (by omega)
    simpa using this
  · rw [if_neg h, if_neg h]
theorem ref_inv_eq (s : ByteArray) (hs : s.size ≤ 17000) (l : List S53) (hsh : Sh l) {k : Nat} (hk : 1000 ≤ k) : jobshellref02_Invert.f k s l = some (invOf s l) := by
  unfold jobshellref02_Invert.f invOf
  rw [ref_vld_eq s hs l hsh hk]
  simp only [Option.bind_some]
  by_cases h : vldOf s l = 0
  · obtain ⟨h1, h2, h3⟩ := vldOf_zero h
    rw [if_pos h, if_pos h]
    have := ref_inv s hs l (by omega) l k 0 0 0 [] rfl (by omega) h2 hsh (by omega) (by omega) (by simp) (by omega)
    simpa using this
  · rw [if_neg h, if_neg h]
/-! ### the undone string -/
theorem app_len (s : ByteArray) (l : List S53) : ∀ a : Int, Chain s.size a l → ((app s.data.toList l a).length : Int) = s.size - a + grow l := by
  induction l with
  | nil => intro a h; obtain ⟨h0, h1⟩ := h; simp only [app, grow, List.length_drop, size_data]; omega
  | cons e r ih =>
    intro a h
    obtain ⟨h0, h1, h2, h3, h4⟩ := h
    have := ih e.f1 h4
    simp only [app, grow, List.length_append, List.length_drop, List.length_take, size_data]
    omega
theorem inv_chain (s : ByteArray) (l : List S53) : ∀ a m : Int, Chain s.size a l → 0 ≤ a + m → Chain (s.size + m + grow l) (a + m) (inv s l m) ∧ grow (inv s l m) = - grow l := by
  induction l with
  | nil => intro a m h hm; obtain ⟨h0, h1⟩ := h; simp only [inv, grow, Chain]; omega
  | cons e r ih =>
    intro a m h hm
    obtain ⟨h0, h1, h2, h3, h4⟩ := h
    obtain ⟨k1, k2⟩ := ih e.f1 (m + e.f2.size - (e.f1 - e.f0)) h4 (by omega)
    have hx : ((s.extract e.f0.toNat e.f1.toNat).size : Int) = e.f1 - e.f0 := by simp; omega
    have hr := app_len s r e.f1 h4
    simp only [inv, grow, Chain]
    have e1 : (s.size : Int) + (m + e.f2.size - (e.f1 - e.f0)) + grow r = s.size + m + (e.f2.size - (e.f1 - e.f0) + grow r) := by omega
    have e2 : e.f1 + (m + e.f2.size - (e.f1 - e.f0)) = e.f0 + m + e.f2.size := by omega
    rw [e1, e2] at k1
    exact ⟨⟨by omega, by omega, by omega, by omega, k1⟩, by rw [hx, k2]; omega⟩
theorem chain_vld (n : Int) (l : List S53) : ∀ (size last : Int), Chain n last l → size + grow l ≤ 16384 → vld n l size last = 0 := by
  induction l with
  | nil => intro size last h hz; simp only [grow] at hz; simp only [vld]; rw [if_neg (by omega)]
  | cons e r ih =>
    intro size last h hz
    obtain ⟨h0, h1, h2, h3, h4⟩ := h
    simp only [grow] at hz
    simp only [vld]
    rw [if_neg (by omega), if_neg (by omega), if_neg (by omega), if_neg (by omega)]
    exact ih _ _ h4 (by omega)
theorem app_inv (s : ByteArray) (l : List S53) (t : List UInt8) : ∀ (a m : Int) (out : List UInt8), Chain s.size a l → (out.length : Int) = a + m → t = out ++ app s.data.toList l a → app t (inv s l m) (a + m) = s.data.toList.drop a.toNat := by
  induction l with
  | nil =>
    intro a m out h ho ht
    simp only [inv, app] at *
    rw [ht, List.drop_append_of_le_length (by omega), List.drop_eq_nil_of_le (by omega)]; simp
  | cons e r ih =>
    intro a m out h ho ht
    obtain ⟨h0, h1, h2, h3, h4⟩ := h
    simp only [inv, app] at *
    have hx : (((s.data.toList.take e.f0.toNat).drop a.toNat).length : Int) = e.f0 - a := by rw [List.length_drop, List.length_take, size_data]; omega
    have hy : ((out ++ (s.data.toList.take e.f0.toNat).drop a.toNat ++ e.f2.data.toList).length : Int) = e.f1 + (m + e.f2.size - (e.f1 - e.f0)) := by
      rw [List.length_append, List.length_append, size_data]; omega
    have hi := ih e.f1 (m + e.f2.size - (e.f1 - e.f0)) _ h4 hy (by rw [ht]; simp)
    have e2 : e.f1 + (m + e.f2.size - (e.f1 - e.f0)) = e.f0 + m + e.f2.size := by omega
    rw [e2] at hi
    rw [hi, extract_data]
    have e3 : (t.take (e.f0 + m).toNat).drop (a + m).toNat = (s.data.toList.take e.f0.toNat).drop a.toNat := by
      have e4 : (e.f0 + m).toNat = (out ++ (s.data.toList.take e.f0.toNat).drop a.toNat).length := by rw [List.length_append]; omega
      have e5 : (a + m).toNat = out.length := by omega
      rw [ht, ← List.append_assoc, ← List.append_assoc, List.append_assoc (out ++ _), List.take_append_of_le_length (by omega), e4, List.take_length, e5, List.drop_left]
    rw [e3]
    have e6 : ∀ (q : List UInt8) (x y z : Nat), x ≤ y → y ≤ z → (q.take y).drop x ++ (q.take z).drop y ++ q.drop z = q.drop x := by
      intro q x y z hxy hyz
      have h1 : (q.take z).drop y ++ q.drop z = q.drop y := by
        rw [List.drop_take]
        have : q.drop z = (q.drop y).drop (z - y) := by rw [List.drop_drop]; congr 1; omega
        rw [this, List.take_append_drop]
      rw [List.append_assoc, h1, List.drop_take]
      have : q.drop y = (q.drop x).drop (y - x) := by rw [List.drop_drop]; congr 1; omega
      rw [this, List.take_append_drop]
    exact e6 _ _ _ _ (by omega) (by omega)
theorem EditsInverts (a0 : ByteArray) (l1 : List S53) (w0 : a0.size ≤ 140737488351232) (w1 : l1.length ≤ maxLen ∧ ∀ x ∈ l1, ok53 x) : ∃ k, jobshelllaw02_EditsInverts.f k a0 l1 = some true := by
  obtain ⟨k, hk⟩ : ∃ k, 40000 ≤ k := ⟨_, Nat.le_refl _⟩
  refine ⟨k + 1 + 1, ?_⟩
  unfold jobshelllaw02_EditsInverts.f
  obtain ⟨b, h1, h2⟩ := few_eq a0 l1 (k := k + 1 + 1) (by omega)
  rw [h1]
  simp only [Option.bind_some]
  cases b with
  | false => simp only [Bool.false_eq_true, if_false]; rw [awake_ok (by omega)]; rfl
  | true =>
    obtain ⟨h3, h4, h5⟩ := h2 rfl
    rw [if_pos rfl, ed_inv_eq a0 h3 l1 h5 (by omega), ref_inv_eq a0 h3 l1 h5 (by omega)]
    simp only [Option.bind_some, if_true]
    have hlen : (invOf a0 l1).1.length ≤ 1000 := by
      unfold invOf; split
      · simp [inv_len]; omega
      · simp
    rw [same_eq _ hlen (by omega)]
    simp only [Option.bind_some]
    have hj : jobshelllaw02_EditsInverts.j1 (k + 1) a0 l1 (invOf a0 l1).1 true = some true := by rw [jobshelllaw02_EditsInverts.j1, if_pos rfl, awake_ok (by omega)]; rfl
    rw [jobshelllaw02_EditsInverts.j0, if_neg (by simp)]
    by_cases h : vldOf a0 l1 = 0
    · have hi : invOf a0 l1 = (inv a0 l1 0, 0) := by unfold invOf; rw [if_pos h]
      rw [hi] at hj ⊢
      simp only [if_true]
      by_cases c : (a0.size : Int) > 16384
      · rw [decide_eq_true c]; exact hj
      · rw [decide_eq_false c, jobshelllaw02_EditsInverts.j1, if_neg (by simp), ed_apply_eq a0 h3 l1 h5 (by omega), if_pos h]
        simp only [Option.bind_some]
        obtain ⟨g1, g2, g3⟩ := vldOf_zero h
        have hl := app_len a0 l1 0 g2
        have hts : (ba (app a0.data.toList l1 0)).size ≤ 17000 := by rw [ba_size]; omega
        obtain ⟨k1, k2⟩ := inv_chain a0 l1 0 0 g2 (by omega)
        have hsh : Sh (inv a0 l1 0) := by
          have : ∀ (l : List S53) (m : Int), Sh (inv a0 l m) := by
            intro l
            induction l with
            | nil => intro m e he; cases he
            | cons x r ih =>
              intro m e he
              rcases List.mem_cons.1 he with rfl | he
              · show (a0.extract _ _).size ≤ 17000
                simp; omega
              · exact ih _ e he
          exact this l1 0
        have hv : vldOf (ba (app a0.data.toList l1 0)) (inv a0 l1 0) = 0 := by
          unfold vldOf
          rw [if_neg (by rw [inv_len]; omega)]
          have e1 : ((ba (app a0.data.toList l1 0)).size : Int) = a0.size + 0 + grow l1 := by rw [ba_size]; omega
          refine chain_vld _ _ _ _ ?_ (by rw [k2]; omega)
          rw [e1]
          exact k1
        rw [ed_apply_eq _ hts _ hsh (by omega), if_pos hv, awake_ok (by omega)]
        simp only [Option.bind_some, if_true]
        have happ := app_inv a0 l1 (app a0.data.toList l1 0) 0 0 [] g2 (by simp) (by simp)
        rw [if_pos]
        rw [Lib.toList_data, Lib.toList_data, ba_data, ba_data]
        simpa using happ
    · have hi : invOf a0 l1 = ([], vldOf a0 l1) := by unfold invOf; rw [if_neg h]
      rw [hi] at hj ⊢
      simp only
      rw [if_neg h]; exact hj
end Go.Proofs.YtlcojdppcjbfdaaDoor.Pure
