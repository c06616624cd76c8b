/- The law TestexprEvals: for every input the call returns true and leaves its arguments as they were; the variables that the row lists are tied to the program's text (a tied card). No condition beyond the row's own. -/
import Derived.Test.YtoeiohfljaboaaaDoorCards
import Derived.Test.YtoeiohfljaboaaaDoorTie
import Derived.WalkKit
import Derived.ProofKit
import Derived.OpenShut
import Derived.ShutString
import Derived.ChangeOld
import Derived.Below
import Derived.SizedLaws
import Derived.LaidMore
import Derived.Lay
import Derived.SevenTiedAt
import Derived.Stop.Joined
import Derived.Carry
import Derived.Test.YtoeiohfljaboaaaDoorMVe2
import Derived.Test.YtoeiohfljaboaaaDoorMVe1
import Derived.Test.YtoeiohfljaboaaaDoorB3
set_option linter.unusedVariables false
set_option linter.unusedSimpArgs false
namespace Go.Proofs.YtoeiohfljaboaaaDoor.Pure
open Go.RowKit Go.Proofs.YtoeiohfljaboaaaDoor.F Go.Proofs.YtoeiohfljaboaaaDoorW.PrintWords
def digs (l : List UInt8) : Prop := ∀ c ∈ l, 48 ≤ (c.toNat : Int) ∧ (c.toNat : Int) ≤ 57
def W10 : List UInt8 → Int → Int
  | [], a => a
  | c :: r, a => W10 r (10 * a + ((c.toNat : Int) - 48))
theorem digs_tail {c : UInt8} {r : List UInt8} (h : digs (c :: r)) : digs r := fun x hx => h x (by simp [hx])
theorem digs_head {c : UInt8} {r : List UInt8} (h : digs (c :: r)) : 48 ≤ (c.toNat : Int) ∧ (c.toNat : Int) ≤ 57 := h c (by simp)
theorem W_ge : ∀ (l : List UInt8) (a : Int), digs l → 0 ≤ a → a ≤ W10 l a
  | [], a, _, _ => Int.le_refl _
  | c :: r, a, h, ha => by
    have hc := digs_head h
    have := W_ge r (10 * a + ((c.toNat : Int) - 48)) (digs_tail h) (by omega)
    rw [W10]; omega
theorem W_append : ∀ (p q : List UInt8) (a : Int), W10 (p ++ q) a = W10 q (W10 p a)
  | [], _, _ => rfl
  | c :: p, q, a => by rw [List.cons_append, W10, W10, W_append p q]
theorem W_lt : ∀ (x y : List UInt8) (a b : Int), digs x → digs y → x.length = y.length → a < b → W10 x a < W10 y b
  | [], [], _, _, _, _, _, h => h
  | [], _ :: _, _, _, _, _, h, _ => by simp at h
  | _ :: _, [], _, _, _, _, h, _ => by simp at h
  | c :: x, d :: y, a, b, hx, hy, hl, h => by
    have hc := digs_head hx
    have hd := digs_head hy
    rw [W10, W10]
    exact W_lt x y _ _ (digs_tail hx) (digs_tail hy) (by simpa using hl) (by omega)
theorem W_cmp : ∀ (x y : List UInt8) (a : Int), digs x → digs y → x.length = y.length → (Op.bytesLess x y = true ↔ W10 x a < W10 y a) ∧ (x = y ↔ W10 x a = W10 y a)
  | [], [], a, _, _, _ => by simp [Op.bytesLess, W10]
  | [], _ :: _, _, _, _, h => by simp at h
  | _ :: _, [], _, _, _, h => by simp at h
  | c :: x, d :: y, a, hx, hy, hl => by
    have hc := digs_head hx
    have hd := digs_head hy
    have hl2 : x.length = y.length := by simpa using hl
    rw [W10, W10]
    simp only [Op.bytesLess, Bool.or_eq_true, Bool.and_eq_true, decide_eq_true_eq, beq_iff_eq, List.cons.injEq]
    rcases Nat.lt_trichotomy c.toNat d.toNat with h | h | h
    · have hw := W_lt x y (10 * a + ((c.toNat : Int) - 48)) (10 * a + ((d.toNat : Int) - 48)) (digs_tail hx) (digs_tail hy) hl2 (by omega)
      have hne : c ≠ d := fun e => by rw [e] at h; omega
      refine ⟨⟨fun _ => hw, fun _ => Or.inl (UInt8.lt_iff_toNat_lt.2 h)⟩, ⟨fun e => absurd e.1 hne, fun e => by omega⟩⟩
    · have he : c = d := UInt8.toNat_inj.1 h
      subst he
      obtain ⟨i1, i2⟩ := W_cmp x y (10 * a + ((c.toNat : Int) - 48)) (digs_tail hx) (digs_tail hy) hl2
      refine ⟨⟨fun e => ?_, fun e => Or.inr ⟨rfl, i1.2 e⟩⟩, ⟨fun e => i2.1 e.2, fun e => ⟨rfl, i2.2 e⟩⟩⟩
      rcases e with e | e
      · rw [UInt8.lt_iff_toNat_lt] at e; omega
      · exact i1.1 e.2
    · have hw := W_lt y x (10 * a + ((d.toNat : Int) - 48)) (10 * a + ((c.toNat : Int) - 48)) (digs_tail hy) (digs_tail hx) hl2.symm (by omega)
      have hne : c ≠ d := fun e => by rw [e] at h; omega
      refine ⟨⟨fun e => ?_, fun e => by omega⟩, ⟨fun e => absurd e.1 hne, fun e => by omega⟩⟩
      rcases e with e | e
      · rw [UInt8.lt_iff_toNat_lt] at e; omega
      · exact absurd e.1 hne
def bare (l : List UInt8) : Prop := l ≠ [] ∧ (2 ≤ l.length → l.head? ≠ some 48)
theorem W_short (x y : List UInt8) (hx : digs x) (hy : digs y) (hb : bare y) (h : x.length < y.length) (h1 : 1 ≤ x.length) : W10 x 0 < W10 y 0 := by
  have e : y = y.take (y.length - x.length) ++ y.drop (y.length - x.length) := (List.take_append_drop _ _).symm
  rw [e, W_append]
  refine W_lt _ _ _ _ hx (fun c hc => hy c (List.mem_of_mem_drop hc)) (by rw [List.length_drop]; omega) ?_
  have hh := hb.2 (by omega)
  cases y with
  | nil => simp at h
  | cons c t =>
    obtain ⟨n, hn⟩ : ∃ n, (c :: t).length - x.length = n + 1 := ⟨(c :: t).length - x.length - 1, by omega⟩
    rw [hn, List.take_succ_cons, W10]
    have hc := digs_head hy
    have hne : c.toNat ≠ 48 := fun e => hh (by rw [show c = 48 from UInt8.toNat_inj.1 e]; rfl)
    have := W_ge (t.take n) (10 * 0 + ((c.toNat : Int) - 48)) (fun x hx => hy x (by simp [List.mem_of_mem_take hx])) (by omega)
    omega
theorem gN_W : ∀ (l : List UInt8) (a : Int), 0 ≤ a → a ≤ 9223372036854775808 → digs l → gN l (-a) = if W10 l a ≤ 9223372036854775808 then some (-(W10 l a)) else none
  | [], a, h0, h1, _ => by rw [gN, W10, if_pos h1]
  | c :: r, a, h0, h1, h => by
    have hc := digs_head h
    rw [gN, if_neg (by omega), W10]
    have h2 : Int.tdiv (-9223372036854775808 + ((c.toNat : Int) - 48)) 10 = -(Int.tdiv (9223372036854775808 - ((c.toNat : Int) - 48)) 10) := by rw [← Int.neg_tdiv]; congr 1; omega
    rw [h2, Int.tdiv_eq_ediv_of_nonneg (by omega)]
    have hg := W_ge r (10 * a + ((c.toNat : Int) - 48)) (digs_tail h) (by omega)
    by_cases hov : -a < -((9223372036854775808 - ((c.toNat : Int) - 48)) / 10)
    · rw [if_pos hov, if_neg (by omega)]
    · rw [if_neg hov]
      rw [show 10 * -a - ((c.toNat : Int) - 48) = -(10 * a + ((c.toNat : Int) - 48)) by omega]
      exact gN_W r _ (by omega) (by omega) (digs_tail h)
theorem gN_bad : ∀ (l : List UInt8) (n : Int), ¬ digs l → gN l n = none
  | [], n, h => absurd (fun c hc => by cases hc) h
  | c :: r, n, h => by
    rw [gN]
    by_cases h1 : (c.toNat : Int) < 48 ∨ (c.toNat : Int) > 57
    · rw [if_pos h1]
    · rw [if_neg h1]
      split
      · rfl
      · refine gN_bad r _ (fun e => h (fun x hx => ?_))
        rcases List.mem_cons.1 hx with rfl | hx
        · omega
        · exact e x hx
def strip : List UInt8 → List UInt8
  | [] => []
  | [c] => [c]
  | c :: d :: r => if c = 48 then strip (d :: r) else c :: d :: r
theorem strip_facts : ∀ l : List UInt8, l ≠ [] → digs l → bare (strip l) ∧ digs (strip l) ∧ W10 (strip l) 0 = W10 l 0 ∧ (strip l).length ≤ l.length
  | [], h, _ => absurd rfl h
  | [c], _, hd => ⟨⟨by simp [strip], fun h => by simp [strip] at h⟩, hd, rfl, Nat.le_refl _⟩
  | c :: d :: r, _, hd => by
    rw [strip]
    by_cases h : c = 48
    · subst h
      rw [if_pos rfl]
      obtain ⟨a, b, e, f⟩ := strip_facts (d :: r) (by simp) (digs_tail hd)
      refine ⟨a, b, ?_, by simp at f ⊢; omega⟩
      rw [e]; rfl
    · rw [if_neg h]
      exact ⟨⟨by simp, fun _ => by simpa using h⟩, hd, rfl, Nat.le_refl _⟩
def lim (neg : Bool) : Int := if neg = true then 9223372036854775808 else 9223372036854775807
def limD (neg : Bool) : List UInt8 := if neg = true then [57, 50, 50, 51, 51, 55, 50, 48, 51, 54, 56, 53, 52, 55, 55, 53, 56, 48, 56] else [57, 50, 50, 51, 51, 55, 50, 48, 51, 54, 56, 53, 52, 55, 55, 53, 56, 48, 55]
theorem lim_eq (neg : Bool) : W10 (limD neg) 0 = lim neg ∧ (limD neg).length = 19 ∧ bare (limD neg) ∧ digs (limD neg) := by
  have hd : ∀ l : List UInt8, (l.all fun c => decide (48 ≤ (c.toNat : Int) ∧ (c.toNat : Int) ≤ 57)) = true → digs l := fun l h c hc => of_decide_eq_true (List.all_eq_true.1 h c hc)
  cases neg
  · exact ⟨by decide, by decide, ⟨by decide, fun _ => by decide⟩, hd _ (by decide)⟩
  · exact ⟨by decide, by decide, ⟨by decide, fun _ => by decide⟩, hd _ (by decide)⟩
def okI (s : List UInt8) (neg : Bool) : Bool × List UInt8 × Bool := if W10 s 0 ≤ lim neg then (neg && (s != [48]), s, true) else (false, [], false)
def toI (x : Bool × List UInt8 × Bool) : Bool × ByteArray × Bool := (x.1, ba x.2.1, x.2.2)
theorem j5_p (s : List UInt8) (hb : bare s) (hd : digs s) (neg : Bool) (k : Nat) : jobshellref29_integer.j5 (k + 1) (ba s) neg = some (toI (okI s neg)) := by
  obtain ⟨l1, l2, l3, l4⟩ := lim_eq neg
  have h1 : 1 ≤ s.length := by
    cases s with
    | nil => exact absurd rfl hb.1
    | cons a t => simp
  have big : s.length > 19 → ¬ W10 s 0 ≤ lim neg := fun h => by
    have := W_short (limD neg) s l4 hd hb (by omega) (by omega); omega
  have eq19 : s.length = 19 → (Op.bytesLess (limD neg) s = true ↔ ¬ W10 s 0 ≤ lim neg) := fun h => by
    have := (W_cmp (limD neg) s 0 l4 hd (by omega)).1
    rw [this, l1]; omega
  have small : s.length < 19 → W10 s 0 ≤ lim neg := fun h => by
    have := W_short s (limD neg) hd l4 l3 (by omega) h1; omega
  rw [jobshellref29_integer.j5, ba_size, toL, ba_data]
  unfold okI
  cases neg with
  | true =>
    rw [if_pos rfl, Bool.true_and]
    by_cases c1 : (s.length : Int) > 19
    · rw [if_pos c1, if_neg (big (by omega))]; rfl
    rw [if_neg c1]
    by_cases c2 : (s.length : Int) = 19
    · rw [if_pos c2]
      have := eq19 (by omega)
      by_cases c3 : Op.bytesLess (limD true) s = true
      · rw [if_neg (this.1 c3)]; exact if_pos c3
      · rw [if_pos (Classical.byContradiction fun e => c3 (this.2 e))]; exact if_neg c3
    · rw [if_neg c2, if_pos (small (by omega))]; rfl
  | false =>
    rw [if_neg (by decide), Bool.false_and]
    by_cases c1 : (s.length : Int) > 19
    · rw [if_pos c1, if_neg (big (by omega))]; rfl
    rw [if_neg c1]
    by_cases c2 : (s.length : Int) = 19
    · rw [if_pos c2]
      have := eq19 (by omega)
      by_cases c3 : Op.bytesLess (limD false) s = true
      · rw [if_neg (this.1 c3)]; exact if_pos c3
      · rw [if_pos (Classical.byContradiction fun e => c3 (this.2 e))]; exact if_neg c3
    · rw [if_neg c2, if_pos (small (by omega))]; rfl
theorem bt_ba (c : UInt8) (r : List UInt8) : bt (ba (c :: r)) 0 = (c.toNat : Int) := by
  obtain ⟨d, hd, hb⟩ := bt_drop (ba (c :: r)) 0 (by rw [ba_size]; simp)
  rw [ba_data, List.drop_zero] at hd
  have e := (List.cons.inj hd).1
  exact hb.trans (by rw [← e])
theorem tail_ba (c : UInt8) (r : List UInt8) : (ba (c :: r)).extract 1 (ba (c :: r)).size = ba r := by
  rw [← ba_of ((ba (c :: r)).extract 1 (ba (c :: r)).size), extract_one, ba_data]; rfl
theorem tail_ba2 (c : UInt8) (r : List UInt8) : (ba (c :: r)).extract 1 (c :: r).length = ba r := tail_ba c r
theorem l1_p (neg : Bool) : ∀ (s : List UInt8) (k : Nat), s ≠ [] → digs s → s.length + 1 ≤ k → jobshellref29_integer.l1 k (ba s) neg = some (toI (okI (strip s) neg))
  | [], _, h, _, _ => absurd rfl h
  | [c], k, _, hd, hk => by
    obtain ⟨k, rfl, hk⟩ := fuel (k := k) (n := 1) (by simpa using hk)
    obtain ⟨k, rfl, hk⟩ := fuel (k := k) (n := 0) (by omega)
    rw [jobshellref29_integer.l1, ba_size, if_neg (by simp)]
    exact j5_p [c] ⟨by simp, fun h => by simp at h⟩ hd neg k
  | c :: d :: r, k, _, hd, hk => by
    obtain ⟨k, rfl, hk⟩ := fuel (k := k) (n := r.length + 2) (by simp at hk; omega)
    rw [jobshellref29_integer.l1, ba_size, if_pos (by simp <;> omega), if_pos (by simp <;> omega), bt_ba, tail_ba2, strip]
    by_cases h : c = 48
    · rw [if_pos (by rw [h]; rfl), if_pos (by simp <;> omega), if_pos h]
      exact l1_p neg (d :: r) k (by simp) (digs_tail hd) (by simp <;> omega)
    · have n1 : ¬ (c.toNat : Int) = 48 := fun e => h ((byte_eq c 48 48 rfl).1 e)
      rw [if_neg n1, if_neg h]
      obtain ⟨k, rfl, hk⟩ := fuel (k := k) (n := 0) (by omega)
      exact j5_p _ ⟨by simp, fun _ => by simpa using h⟩ hd neg k
open Classical in
noncomputable def refB (l : List UInt8) (neg : Bool) : Bool × List UInt8 × Bool := if l = [] then (false, [], false) else if digs l then okI (strip l) neg else (false, [], false)
theorem l0_p (s : List UInt8) (hs : s.length ≤ 100) (hne : s ≠ []) (neg : Bool) : ∀ (d n k : Nat), n ≤ s.length → s.length - n = d → d + 103 ≤ k → digs (s.take n) → jobshellref29_integer.l0 k (ba s) neg (n : Int) = some (toI (refB s neg)) := by
  intro d
  induction d with
  | zero =>
    intro n k hn hd hk ht
    obtain ⟨k, rfl, hk⟩ := fuel (k := k) (n := 102) (by omega)
    rw [List.take_of_length_le (by omega)] at ht
    rw [jobshellref29_integer.l0, if_neg (by rw [ba_size]; omega), l1_p neg s k hne ht (by omega)]
    unfold refB
    rw [if_neg hne, if_pos ht]
  | succ d ih =>
    intro n k hn hd hk ht
    obtain ⟨k, rfl, hk⟩ := fuel (k := k) (n := d + 103) (by omega)
    obtain ⟨c, hc, hb⟩ := bt_drop (ba s) n (by rw [ba_size]; omega)
    rw [ba_data] at hc
    have hmem : c ∈ s := List.mem_of_mem_drop (by rw [hc]; simp : c ∈ s.drop n)
    rw [jobshellref29_integer.l0, if_pos (by rw [ba_size]; omega), if_pos (by omega), hb]
    have bad : ¬ (48 ≤ (c.toNat : Int) ∧ (c.toNat : Int) ≤ 57) → refB s neg = (false, [], false) := fun h => by
      unfold refB
      rw [if_neg hne, if_neg (fun e => h (e c hmem))]
    by_cases h1 : (c.toNat : Int) < 48
    · rw [if_pos h1, bad (by omega)]; rfl
    rw [if_neg h1]
    by_cases h2 : (c.toNat : Int) > 57
    · rw [if_pos h2, bad (by omega)]; rfl
    rw [if_neg h2, wrap_succ (by omega)]
    refine ih (n + 1) k (by omega) (by omega) (by omega) ?_
    intro x hx
    have hlen : n < s.length := by omega
    have hget : s[n]'hlen = c := by
      have := List.drop_eq_getElem_cons hlen
      rw [hc] at this
      exact (List.cons.inj this).1.symm
    rw [← List.take_append_getElem hlen, hget] at hx
    rcases List.mem_append.1 hx with h | h
    · exact ht x h
    · rw [List.mem_singleton.1 h]; omega
theorem j2_p (s : List UInt8) (hs : s.length ≤ 100) (neg : Bool) (k : Nat) (hk : 210 ≤ k) : jobshellref29_integer.j2 k (ba s) neg = some (toI (refB s neg)) := by
  obtain ⟨k, rfl, hk⟩ := fuel (k := k) (n := 209) (by omega)
  rw [jobshellref29_integer.j2, toL, ba_data]
  by_cases h : s = []
  · rw [if_pos h]; unfold refB; rw [if_pos h]; rfl
  · rw [if_neg h]
    exact l0_p s hs h neg s.length 0 k (by omega) (by omega) (by omega) (fun c hc => by simp at hc)
noncomputable def refI : List UInt8 → Bool × List UInt8 × Bool
  | [] => (false, [], false)
  | c :: r => if c = 45 then refB r true else if c = 43 then refB r false else refB (c :: r) false
theorem refI_cons (c : UInt8) (r : List UInt8) : refI (c :: r) = if c = 45 then refB r true else if c = 43 then refB r false else refB (c :: r) false := rfl
theorem intP_cons (c : UInt8) (r : List UInt8) : intP (c :: r) = if c = 45 then body29 r true else if c = 43 then body29 r false else body29 (c :: r) false := rfl
theorem int_ref (s : List UInt8) (hs : s.length ≤ 100) (k : Nat) (hk : 220 ≤ k) : jobshellref29_integer.f k (ba s) = some (toI (refI s)) := by
  obtain ⟨k, rfl, hk⟩ := fuel (k := k) (n := 219) (by omega)
  obtain ⟨k, rfl, hk⟩ := fuel (k := k) (n := 218) (by omega)
  unfold jobshellref29_integer.f
  rw [toL, ba_data]
  cases s with
  | nil =>
    rw [if_pos rfl, jobshellref29_integer.j0, toL, ba_data, if_pos rfl, jobshellref29_integer.j1, if_neg (by decide), j2_p [] (by simp) false k (by omega)]
    rfl
  | cons c r =>
    have hr : r.length ≤ 100 := by simp at hs; omega
    have j1t : ∀ neg, jobshellref29_integer.j1 (k + 1) (ba (c :: r)) neg true = some (toI (refB r neg)) := fun neg => by
      rw [jobshellref29_integer.j1, if_pos rfl, if_pos (by rw [ba_size]; simp <;> omega), tail_ba]
      exact j2_p r hr neg k (by omega)
    have j1f : ∀ neg, jobshellref29_integer.j1 (k + 1) (ba (c :: r)) neg false = some (toI (refB (c :: r) neg)) := fun neg => by
      rw [jobshellref29_integer.j1, if_neg (by decide)]
      exact j2_p _ hs neg k (by omega)
    rw [if_neg (by simp), if_pos (by rw [ba_size]; simp <;> omega), bt_ba, jobshellref29_integer.j0, toL, ba_data, if_neg (by simp), if_pos (by rw [ba_size]; simp <;> omega), bt_ba]
    rw [refI_cons]
    by_cases h1 : c = 45
    · have n1 : (c.toNat : Int) = 45 := by rw [h1]; rfl
      rw [if_pos n1, if_pos h1, show ((c.toNat : Int) == 45) = true from beq_iff_eq.2 n1, j1t]
    · have n1 : ¬ (c.toNat : Int) = 45 := fun e => h1 ((byte_eq c 45 45 rfl).1 e)
      rw [show ((c.toNat : Int) == 45) = false from beq_eq_false_iff_ne.2 n1, if_neg n1, if_neg h1]
      by_cases h2 : c = 43
      · have n2 : (c.toNat : Int) = 43 := by rw [h2]; rfl
        rw [if_pos h2, show ((c.toNat : Int) == 43) = true from beq_iff_eq.2 n2, j1t]
      · have n2 : ¬ (c.toNat : Int) = 43 := fun e => h2 ((byte_eq c 43 43 rfl).1 e)
        rw [show ((c.toNat : Int) == 43) = false from beq_eq_false_iff_ne.2 n2, if_neg h2, j1f]
def sameI (a : Int × Bool) (b : Bool × List UInt8 × Bool) : Prop := a.2 = b.2.2 ∧ (b.2.2 = true → bare b.2.1 ∧ digs b.2.1 ∧ a.1 = (if b.1 = true then -(W10 b.2.1 0) else W10 b.2.1 0) ∧ (b.1 = true → 0 < W10 b.2.1 0))
theorem same_B (l : List UInt8) (neg : Bool) : sameI (body29 l neg) (refB l neg) := by
  unfold body29 refB
  by_cases h : l = []
  · rw [if_pos h, if_pos h]; exact ⟨rfl, fun e => by cases e⟩
  rw [if_neg h, if_neg h]
  by_cases hd : digs l
  · rw [if_pos hd]
    obtain ⟨s1, s2, s3, -⟩ := strip_facts l h hd
    have hg := gN_W l 0 (by omega) (by omega) hd
    rw [show (-(0 : Int)) = 0 from rfl] at hg
    rw [hg, ← s3]
    have hge := W_ge (strip l) 0 s2 (by omega)
    unfold okI
    cases neg with
    | true =>
      by_cases hl : W10 (strip l) 0 ≤ 9223372036854775808
      · rw [if_pos hl, if_pos (show W10 (strip l) 0 ≤ lim true from hl)]
        refine ⟨rfl, fun _ => ⟨s1, s2, ?_, fun e => ?_⟩⟩
        · by_cases hz : strip l = [48]
          · rw [hz]; rfl
          · rw [show (strip l != [48]) = true from bne_iff_ne.2 hz]; rfl
        · have hz : strip l ≠ [48] := by simpa using e
          cases hsl : strip l with
          | nil => exact absurd hsl s1.1
          | cons c t =>
            rw [hsl] at s1 s2 hz
            have hc := digs_head s2
            rw [W10]
            have hge2 := W_ge t (10 * 0 + ((c.toNat : Int) - 48)) (digs_tail s2) (by omega)
            cases t with
            | nil =>
              have : c.toNat ≠ 48 := fun e => hz (by rw [show c = 48 from UInt8.toNat_inj.1 e])
              rw [W10]; omega
            | cons d u =>
              have : c.toNat ≠ 48 := fun e => s1.2 (by simp) (by rw [show c = 48 from UInt8.toNat_inj.1 e]; rfl)
              omega
      · rw [if_neg hl, if_neg (show ¬ W10 (strip l) 0 ≤ lim true from hl)]
        exact ⟨rfl, fun e => by cases e⟩
    | false =>
      by_cases hl : W10 (strip l) 0 ≤ 9223372036854775807
      · rw [if_pos (by omega), if_pos (show W10 (strip l) 0 ≤ lim false from hl)]
        unfold fin29
        dsimp only
        rw [if_neg (by decide), Int.neg_neg, wrap_id (by omega) (by omega)]
        refine ⟨bne_iff_ne.2 (by omega), fun _ => ⟨s1, s2, rfl, fun e => by simp at e⟩⟩
      · rw [if_neg (show ¬ W10 (strip l) 0 ≤ lim false from hl)]
        refine ⟨?_, fun e => by cases e⟩
        split
        · unfold fin29
          dsimp only
          rw [if_neg (by decide)]
          have : W10 (strip l) 0 = 9223372036854775808 := by omega
          rw [this]; rfl
        · rfl
  · rw [if_neg hd, gN_bad l 0 hd]; exact ⟨rfl, fun e => by cases e⟩
theorem same_I : ∀ l : List UInt8, sameI (intP l) (refI l)
  | [] => ⟨rfl, fun e => by cases e⟩
  | c :: r => by
    rw [intP_cons, refI_cons]
    by_cases h1 : c = 45
    · rw [if_pos h1, if_pos h1]; exact same_B r true
    · rw [if_neg h1, if_neg h1]
      by_cases h2 : c = 43
      · rw [if_pos h2, if_pos h2]; exact same_B r false
      · rw [if_neg h2, if_neg h2]; exact same_B (c :: r) false
end Go.Proofs.YtoeiohfljaboaaaDoor.Pure
set_option linter.unusedVariables false
set_option linter.unusedSimpArgs false
namespace Go.Proofs.YtoeiohfljaboaaaDoor.Pure
open Go.RowKit Go.Proofs.YtoeiohfljaboaaaDoor.F Go.Proofs.YtoeiohfljaboaaaDoorW.PrintWords
theorem less_p (x y : List UInt8) (bx : bare x) (by_ : bare y) (hx : digs x) (hy : digs y) :
    ((x.length < y.length ∨ (x.length = y.length ∧ Op.bytesLess x y = true)) ↔ W10 x 0 < W10 y 0) ∧ (x = y ↔ W10 x 0 = W10 y 0) := by
  have px : 1 ≤ x.length := by cases x with | nil => exact absurd rfl bx.1 | cons a t => simp
  have py : 1 ≤ y.length := by cases y with | nil => exact absurd rfl by_.1 | cons a t => simp
  rcases Nat.lt_trichotomy x.length y.length with h | h | h
  · have hw := W_short x y hx hy by_ h px
    exact ⟨⟨fun _ => hw, fun _ => Or.inl h⟩, ⟨fun e => by rw [e] at h; omega, fun e => by omega⟩⟩
  · obtain ⟨c1, c2⟩ := W_cmp x y 0 hx hy h
    refine ⟨⟨fun e => ?_, fun e => Or.inr ⟨h, c1.2 e⟩⟩, c2⟩
    rcases e with e | e
    · omega
    · exact c1.1 e.2
  · have hw := W_short y x hy hx bx h py
    exact ⟨⟨fun e => by rcases e with e | e <;> omega, fun e => by omega⟩, ⟨fun e => by rw [e] at h; omega, fun e => by omega⟩⟩
def valI (x : Bool × List UInt8 × Bool) : Int := if x.1 = true then -(W10 x.2.1 0) else W10 x.2.1 0
def goodI (x : Bool × List UInt8 × Bool) : Prop := bare x.2.1 ∧ digs x.2.1 ∧ (x.1 = true → 0 < W10 x.2.1 0)
theorem cmp_j0 (x y : Bool × List UInt8 × Bool) (gx : goodI x) (gy : goodI y) (k : Nat) : ∃ c, jobshellref29_compare.j0 (k + 3) x.1 (ba x.2.1) y.1 (ba y.2.1) false = some (c, true) ∧ (c < 0 ↔ valI x < valI y) ∧ (c = 0 ↔ valI x = valI y) := by
  obtain ⟨n1, d1, o1⟩ := x
  obtain ⟨n2, d2, o2⟩ := y
  obtain ⟨b1, g1, p1⟩ := gx
  obtain ⟨b2, g2, p2⟩ := gy
  obtain ⟨l1, l2⟩ := less_p d1 d2 b1 b2 g1 g2
  have w1 := W_ge d1 0 g1 (by omega)
  have w2 := W_ge d2 0 g2 (by omega)
  dsimp only at *
  unfold valI
  dsimp only
  rw [jobshellref29_compare.j0, if_neg (by decide)]
  have j2 : ∀ (neg less : Bool), (less = true ↔ W10 d1 0 < W10 d2 0) → ∃ c, jobshellref29_compare.j2 (k + 1) neg (ba d1) (ba d2) 0 less = some (c, true) ∧
      (c < 0 ↔ (if neg = true then -(W10 d1 0) else W10 d1 0) < (if neg = true then -(W10 d2 0) else W10 d2 0)) ∧ (c = 0 ↔ (if neg = true then -(W10 d1 0) else W10 d1 0) = (if neg = true then -(W10 d2 0) else W10 d2 0)) := by
    intro neg less hl
    rw [jobshellref29_compare.j2, toL, toL, ba_data, ba_data]
    cases less with
    | true =>
      have hw := hl.1 rfl
      rw [if_pos rfl]
      cases neg with
      | true => exact ⟨1, rfl, by rw [if_pos rfl, if_pos rfl]; omega, by rw [if_pos rfl, if_pos rfl]; omega⟩
      | false => exact ⟨-1, rfl, by rw [if_neg (by decide), if_neg (by decide)]; omega, by rw [if_neg (by decide), if_neg (by decide)]; omega⟩
    | false =>
      have hw : ¬ W10 d1 0 < W10 d2 0 := fun e => by have := hl.2 e; cases this
      rw [if_neg (by decide)]
      by_cases he : d1 = d2
      · rw [if_pos he]
        have hq := l2.1 he
        cases neg with
        | true => exact ⟨0, by rw [if_pos rfl, show wrap64 (-0) = 0 from wrap_id (by omega) (by omega)], by rw [if_pos rfl, if_pos rfl]; omega, by rw [if_pos rfl, if_pos rfl]; omega⟩
        | false => exact ⟨0, rfl, by rw [if_neg (by decide), if_neg (by decide)]; omega, by rw [if_neg (by decide), if_neg (by decide)]; omega⟩
      · rw [if_neg he]
        have hq : W10 d1 0 ≠ W10 d2 0 := fun e => he (l2.2 e)
        cases neg with
        | true => exact ⟨-1, rfl, by rw [if_pos rfl, if_pos rfl]; omega, by rw [if_pos rfl, if_pos rfl]; omega⟩
        | false => exact ⟨1, rfl, by rw [if_neg (by decide), if_neg (by decide)]; omega, by rw [if_neg (by decide), if_neg (by decide)]; omega⟩
  have same : ∀ neg, ∃ c, jobshellref29_compare.j1 (k + 2) neg (ba d1) neg (ba d2) 0 false = some (c, true) ∧
      (c < 0 ↔ (if neg = true then -(W10 d1 0) else W10 d1 0) < (if neg = true then -(W10 d2 0) else W10 d2 0)) ∧ (c = 0 ↔ (if neg = true then -(W10 d1 0) else W10 d1 0) = (if neg = true then -(W10 d2 0) else W10 d2 0)) := by
    intro neg
    rw [jobshellref29_compare.j1, if_neg (by decide), if_neg (by cases neg <;> decide), ba_size, ba_size, toL, toL, ba_data, ba_data]
    by_cases h1 : (d1.length : Int) < (d2.length : Int)
    · rw [if_pos h1]; exact j2 neg true ⟨fun _ => l1.1 (Or.inl (by omega)), fun _ => rfl⟩
    · rw [if_neg h1]
      by_cases h2 : (d1.length : Int) = (d2.length : Int)
      · rw [if_pos h2]
        refine j2 neg _ ⟨fun e => l1.1 (Or.inr ⟨by omega, e⟩), fun e => ?_⟩
        rcases l1.2 e with e | e
        · omega
        · exact e.2
      · rw [if_neg h2]
        refine j2 neg false ⟨fun e => (by cases e), fun e => ?_⟩
        rcases l1.2 e with e | e <;> omega
  cases n1 with
  | true =>
    cases n2 with
    | true => rw [if_neg (by decide)]; exact same true
    | false =>
      have := p1 rfl
      rw [if_pos (by decide), jobshellref29_compare.j1, if_pos rfl]
      exact ⟨-1, rfl, by rw [if_pos rfl, if_neg (by decide)]; omega, by rw [if_pos rfl, if_neg (by decide)]; omega⟩
  | false =>
    cases n2 with
    | true =>
      have := p2 rfl
      rw [if_pos (by decide), jobshellref29_compare.j1, if_neg (by decide), if_pos (by decide)]
      exact ⟨1, rfl, by rw [if_neg (by decide), if_pos rfl]; omega, by rw [if_neg (by decide), if_pos rfl]; omega⟩
    | false => rw [if_neg (by decide)]; exact same false
theorem compare_p (a b : ByteArray) (ha : a.size ≤ 100) (hb : b.size ≤ 100) (k : Nat) (hk : 220 ≤ k) :
    (¬ ((intP a.data.toList).2 = true ∧ (intP b.data.toList).2 = true) → jobshellref29_compare.f k a b = some (0, false)) ∧
    ((intP a.data.toList).2 = true ∧ (intP b.data.toList).2 = true → ∃ c, jobshellref29_compare.f k a b = some (c, true) ∧ (c < 0 ↔ (intP a.data.toList).1 < (intP b.data.toList).1) ∧ (c = 0 ↔ (intP a.data.toList).1 = (intP b.data.toList).1)) := by
  obtain ⟨k, rfl⟩ : ∃ m, k = m + 3 := ⟨k - 3, by omega⟩
  have ea := int_ref a.data.toList (by rw [size_data]; exact ha) (k + 3) hk
  have eb := int_ref b.data.toList (by rw [size_data]; exact hb) (k + 3) hk
  rw [ba_of] at ea eb
  obtain ⟨sa, ga⟩ := same_I a.data.toList
  obtain ⟨sb, gb⟩ := same_I b.data.toList
  unfold jobshellref29_compare.f
  rw [ea, eb, Option.bind_some, Option.bind_some]
  rw [sa, sb]
  generalize refI a.data.toList = x at *
  generalize refI b.data.toList = y at *
  unfold toI
  dsimp only
  have jt : jobshellref29_compare.j0 (k + 3) x.1 (ba x.2.1) y.1 (ba y.2.1) true = some (0, false) := by rw [jobshellref29_compare.j0, if_pos rfl]
  constructor
  · intro h
    cases hx : x.2.2 with
    | false => rw [if_neg (by decide)]; exact jt
    | true =>
      rw [if_pos rfl]
      cases hy : y.2.2 with
      | false => exact jt
      | true => exact absurd ⟨hx, hy⟩ h
  · rintro ⟨hx, hy⟩
    rw [if_pos hx, hy]
    obtain ⟨a1, a2, a3, a4⟩ := ga hx
    obtain ⟨b1, b2, b3, b4⟩ := gb hy
    rw [a3, b3]
    exact cmp_j0 x y ⟨a1, a2, a4⟩ ⟨b1, b2, b4⟩ k
theorem cmp_eq (op : ByteArray) (x y c : Int) (h1 : c < 0 ↔ x < y) (h2 : c = 0 ↔ x = y) : cmpI op x y = cmpN op c := by
  unfold cmpI cmpN
  repeat' split
  · rw [Bool.eq_iff_iff, beq_iff_eq, beq_iff_eq]; exact h2.symm
  · rw [Bool.eq_iff_iff, bne_iff_ne, bne_iff_ne]; exact not_congr h2.symm
  · rw [decide_eq_decide]; exact h1.symm
  · rw [decide_eq_decide]; omega
  · rw [decide_eq_decide]; omega
  · rw [decide_eq_decide]; omega
theorem two_rel (a op b : ByteArray) (bd : Bool) (ha : a.size ≤ 100) (hb : b.size ≤ 100) (k : Nat) (hk : 220 ≤ k) :
    ∃ v u, tTwo k a op b bd = some v ∧ rTwo k a op b bd = some u ∧ v.2 = u.2 ∧ (v.2 = false → v.1 = u.1) ∧ (bd = true → v.2 = true) := by
  unfold tTwo rTwo
  by_cases ho : op.toList = [61] ∨ op.toList = [33, 61]
  · rw [if_pos ho, if_pos ho]
    exact ⟨_, _, rfl, rfl, rfl, fun _ => rfl, fun h => h⟩
  · rw [if_neg ho, if_neg ho, int_eq a ha (k := k) hk, int_eq b hb (k := k) hk, Option.bind_some, Option.bind_some]
    obtain ⟨c1, c2⟩ := compare_p a b ha hb k hk
    by_cases hc : (intP a.data.toList).2 = true ∧ (intP b.data.toList).2 = true
    · obtain ⟨c, e, h1, h2⟩ := c2 hc
      rw [if_pos hc, e, Option.bind_some]
      exact ⟨_, _, rfl, rfl, by simp, fun _ => cmp_eq op _ _ c h1 h2, fun h => h⟩
    · rw [if_neg hc, c1 hc, Option.bind_some]
      exact ⟨_, _, rfl, rfl, by simp, fun h => absurd h (by simp), fun _ => rfl⟩
theorem one_rel (fs : List S_File) (cwd op s : ByteArray) (k : Nat) (hk : 1900 ≤ k) (hs : s.size ≤ 200) (hl : fs.length ≤ 1000) : ∃ r, tOne k fs cwd op s = some r ∧ rOne k fs cwd op s = some r := by
  obtain ⟨r, hr⟩ := tOne_f fs cwd op s k (by omega) (by omega) (by omega)
  refine ⟨r, hr, ?_⟩
  rw [← hr]
  unfold tOne rOne
  by_cases h1 : op.toList = [45, 110]
  · rw [if_pos h1, if_pos (Or.inl h1), h1]
    cases he : (s.toList == ([] : List UInt8)) with
    | true => rw [beq_iff_eq.1 he]; rfl
    | false => rw [show (s.toList != ([] : List UInt8)) = true from bne_iff_ne.2 (beq_eq_false_iff_ne.1 he)]; rfl
  rw [if_neg h1]
  by_cases h2 : op.toList = [45, 122]
  · rw [if_pos h2, if_pos (Or.inr h2), h2]
    cases he : (s.toList == ([] : List UInt8)) <;> rfl
  rw [if_neg h2, if_neg (fun e => e.elim h1 h2), clean_p cwd s k (by omega) hs, Clean_p cwd s k hk hs, Option.bind_some, Option.bind_some, Find_eq fs _ hl k (by omega)]
  generalize toBA (cleanF cwd.data.toList s.data.toList) = p
  obtain ⟨q, hq⟩ := find_f fs p.1 (by omega)
  rw [hq, Option.bind_some]
  by_cases hz : p.2 = 0
  · rw [if_pos hz, Option.bind_some]
    cases hf : q.2.2.2 with
    | false => rw [if_pos (show p.2 ≠ 0 ∨ false = false from Or.inr rfl), if_neg (show ¬ false = true by decide)]
    | true =>
      rw [if_neg (show ¬ (p.2 ≠ 0 ∨ true = false) by simp [hz]), if_pos (show true = true from rfl)]
      by_cases h3 : op.toList = [45, 100]
      · simp [h3]
      by_cases h4 : op.toList = [45, 115]
      · by_cases he : q.2.2.1.toList = []
        · simp [h4, he]
        · simp [h4, he, bne]
      simp [h3, h4]
  · rw [if_neg hz, if_pos (Or.inl hz)]
end Go.Proofs.YtoeiohfljaboaaaDoor.Pure
set_option linter.unusedVariables false
set_option linter.unusedSimpArgs false
namespace Go.Proofs.YtoeiohfljaboaaaDoor.Pure
open Go.RowKit Go.Proofs.YtoeiohfljaboaaaDoor.F Go.Proofs.YtoeiohfljaboaaaDoorW.PrintWords
structure Fit (k : Nat) (fs : List S_File) (args : List ByteArray) : Prop where
  hk : 1900 ≤ k
  hl : fs.length ≤ 1000
  hs : ∀ a ∈ args, a.size ≤ 40
theorem Fit.drop {k fs args} (F : Fit k fs args) {i : Nat} {l : List ByteArray} (h : args.drop i = l) : ∀ a ∈ l, a.size ≤ 40 := fun a ha => F.hs a (List.mem_of_mem_drop (h ▸ ha))
theorem Fit.third {k fs args} (F : Fit k fs args) {i : Nat} {a b : ByteArray} {r : List ByteArray} (h : args.drop i = a :: b :: r) : (r.getD 0 ByteArray.empty).size ≤ 40 := by
  cases r with
  | nil => decide
  | cons c t => exact F.drop h c (by simp)
def cP (args : List ByteArray) (v : Bool × Nat × Bool × Bool) : Option (Bool × Nat × Bool × Bool) := if v.2.1 < args.length ∧ (args.getD v.2.1 ByteArray.empty).toList = [41] then some (v.1, v.2.1 + 1, v.2.2.1, v.2.2.2) else some (false, v.2.1, true, v.2.2.2)
def cQ (args : List ByteArray) (v : Bool × Nat × Int × Bool) : Option (Bool × Nat × Int × Bool) := if v.2.1 < args.length ∧ (args.getD v.2.1 ByteArray.empty).toList = [41] then some (v.1, v.2.1 + 1, v.2.2.1, v.2.2.2) else some (false, v.2.1, 27, v.2.2.2)
def GoodP (L i : Nat) (wr bd : Bool) (o : Option (Bool × Nat × Bool × Bool)) : Prop := ∃ v, o = some v ∧ i ≤ v.2.1 ∧ v.2.1 ≤ L ∧ (wr = true → v.2.2.1 = true) ∧ (bd = true → v.2.2.2 = true)
def GoodQ (L i : Nat) (wr : Int) (bd : Bool) (o : Option (Bool × Nat × Int × Bool)) : Prop := ∃ v, o = some v ∧ i ≤ v.2.1 ∧ v.2.1 ≤ L ∧ (wr = 27 → v.2.2.1 = 27) ∧ (bd = true → v.2.2.2 = true)
theorem cP_good {args i wr bd} {o : Option (Bool × Nat × Bool × Bool)} (h : GoodP args.length (i + 1) wr bd o) : GoodP args.length i wr bd (o.bind (cP args)) := by
  obtain ⟨v, rfl, h1, h2, h3, h4⟩ := h
  rw [Option.bind_some]
  unfold cP
  split
  · rename_i hc; exact ⟨_, rfl, by dsimp only; omega, by dsimp only; omega, h3, h4⟩
  · exact ⟨_, rfl, by dsimp only; omega, h2, fun _ => rfl, h4⟩
theorem cQ_good {args i wr bd} {o : Option (Bool × Nat × Int × Bool)} (h : GoodQ args.length (i + 1) wr bd o) : GoodQ args.length i wr bd (o.bind (cQ args)) := by
  obtain ⟨v, rfl, h1, h2, h3, h4⟩ := h
  rw [Option.bind_some]
  unfold cQ
  split
  · rename_i hc; exact ⟨_, rfl, by dsimp only; omega, by dsimp only; omega, h3, h4⟩
  · exact ⟨_, rfl, by dsimp only; omega, h2, fun _ => rfl, h4⟩
theorem p_total (k : Nat) (fs : List S_File) (cwd : ByteArray) (args : List ByteArray) (F : Fit k fs args) : ∀ n : Nat,
    (∀ i wr bd, i ≤ args.length → 4 * (args.length - i) + 1 ≤ n → GoodP args.length i wr bd (pNot k fs cwd args n i wr bd)) ∧
    (∀ i wr bd, i ≤ args.length → 4 * (args.length - i) + 2 ≤ n → GoodP args.length i wr bd (pAnd k fs cwd args n i wr bd)) ∧
    (∀ x i wr bd, i ≤ args.length → 4 * (args.length - i) + 1 ≤ n → GoodP args.length i wr bd (pAndL k fs cwd args n x i wr bd)) ∧
    (∀ i wr bd, i ≤ args.length → 4 * (args.length - i) + 3 ≤ n → GoodP args.length i wr bd (pOr k fs cwd args n i wr bd)) ∧
    (∀ x i wr bd, i ≤ args.length → 4 * (args.length - i) + 2 ≤ n → GoodP args.length i wr bd (pOrL k fs cwd args n x i wr bd)) := by
  intro n
  induction n with
  | zero => exact ⟨fun i wr bd h1 h2 => by omega, fun i wr bd h1 h2 => by omega, fun x i wr bd h1 h2 => by omega, fun i wr bd h1 h2 => by omega, fun x i wr bd h1 h2 => by omega⟩
  | succ n ih =>
    obtain ⟨iN, iA, iAL, iO, iOL⟩ := ih
    refine ⟨?_, ?_, ?_, ?_, ?_⟩
    · intro i wr bd hi hn
      rw [pNot, if_neg (by omega)]
      have hlen : (args.drop i).length = args.length - i := List.length_drop
      rcases hdr : args.drop i with _ | ⟨a, _ | ⟨b, r⟩⟩
      · exact ⟨_, rfl, Nat.le_refl _, hi, fun _ => rfl, fun h => h⟩
      · rw [hdr] at hlen
        have hlen : args.length - i = 1 := by simpa using hlen.symm
        dsimp only
        split
        · exact cP_good (iO (i + 1) wr bd (by omega) (by omega))
        · exact ⟨_, rfl, by dsimp only; omega, by dsimp only; omega, fun h => h, fun h => h⟩
      · rw [hdr] at hlen
        have hlen : args.length - i = r.length + 2 := by simpa using hlen.symm
        have hz := F.drop hdr
        dsimp only
        split
        · rename_i hc
          obtain ⟨v, u, e1, e2, e3, -, e5⟩ := two_rel a b (r.getD 0 ByteArray.empty) bd (by have := hz a (by simp); omega) (by have := F.third hdr; omega) k (by have := F.hk; omega)
          rw [e1, Option.bind_some]
          exact ⟨_, rfl, by dsimp only; omega, by dsimp only; omega, fun h => h, e5⟩
        · split
          · obtain ⟨v, e, h1, h2, h3, h4⟩ := iN (i + 1) wr bd (by omega) (by omega)
            rw [e, Option.bind_some]
            exact ⟨_, rfl, by dsimp only; omega, h2, h3, h4⟩
          · split
            · exact cP_good (iO (i + 1) wr bd (by omega) (by omega))
            · split
              · obtain ⟨v, e1, e2⟩ := one_rel fs cwd a b k F.hk (by have := hz b (by simp); omega) F.hl
                rw [e1, Option.bind_some]
                exact ⟨_, rfl, by dsimp only; omega, by dsimp only; omega, fun h => h, fun h => h⟩
              · exact ⟨_, rfl, by dsimp only; omega, by dsimp only; omega, fun h => h, fun h => h⟩
    · intro i wr bd hi hn
      rw [pAnd]
      obtain ⟨v, e, h1, h2, h3, h4⟩ := iN i wr bd hi (by omega)
      rw [e, Option.bind_some]
      obtain ⟨u, f, g1, g2, g3, g4⟩ := iAL v.1 v.2.1 v.2.2.1 v.2.2.2 h2 (by omega)
      exact ⟨u, f, by omega, g2, fun h => g3 (h3 h), fun h => g4 (h4 h)⟩
    · intro x i wr bd hi hn
      rw [pAndL]
      split
      · rename_i hc
        obtain ⟨v, e, h1, h2, h3, h4⟩ := iN (i + 1) wr bd (by omega) (by omega)
        rw [e, Option.bind_some]
        obtain ⟨u, f, g1, g2, g3, g4⟩ := iAL (x && v.1) v.2.1 v.2.2.1 v.2.2.2 h2 (by omega)
        exact ⟨u, f, by omega, g2, fun h => g3 (h3 h), fun h => g4 (h4 h)⟩
      · exact ⟨_, rfl, Nat.le_refl _, hi, fun h => h, fun h => h⟩
    · intro i wr bd hi hn
      rw [pOr]
      obtain ⟨v, e, h1, h2, h3, h4⟩ := iA i wr bd hi (by omega)
      rw [e, Option.bind_some]
      obtain ⟨u, f, g1, g2, g3, g4⟩ := iOL v.1 v.2.1 v.2.2.1 v.2.2.2 h2 (by omega)
      exact ⟨u, f, by omega, g2, fun h => g3 (h3 h), fun h => g4 (h4 h)⟩
    · intro x i wr bd hi hn
      rw [pOrL]
      split
      · rename_i hc
        obtain ⟨v, e, h1, h2, h3, h4⟩ := iA (i + 1) wr bd (by omega) (by omega)
        rw [e, Option.bind_some]
        obtain ⟨u, f, g1, g2, g3, g4⟩ := iOL (x || v.1) v.2.1 v.2.2.1 v.2.2.2 h2 (by omega)
        exact ⟨u, f, by omega, g2, fun h => g3 (h3 h), fun h => g4 (h4 h)⟩
      · exact ⟨_, rfl, Nat.le_refl _, hi, fun h => h, fun h => h⟩
theorem q_total (k : Nat) (fs : List S_File) (cwd : ByteArray) (args : List ByteArray) (F : Fit k fs args) : ∀ n : Nat,
    (∀ i wr bd, i ≤ args.length → 4 * (args.length - i) + 1 ≤ n → GoodQ args.length i wr bd (qNot k fs cwd args n i wr bd)) ∧
    (∀ i wr bd, i ≤ args.length → 4 * (args.length - i) + 2 ≤ n → GoodQ args.length i wr bd (qAnd k fs cwd args n i wr bd)) ∧
    (∀ x i wr bd, i ≤ args.length → 4 * (args.length - i) + 1 ≤ n → GoodQ args.length i wr bd (qAndL k fs cwd args n x i wr bd)) ∧
    (∀ i wr bd, i ≤ args.length → 4 * (args.length - i) + 3 ≤ n → GoodQ args.length i wr bd (qOr k fs cwd args n i wr bd)) ∧
    (∀ x i wr bd, i ≤ args.length → 4 * (args.length - i) + 2 ≤ n → GoodQ args.length i wr bd (qOrL k fs cwd args n x i wr bd)) := by
  intro n
  induction n with
  | zero => exact ⟨fun i wr bd h1 h2 => by omega, fun i wr bd h1 h2 => by omega, fun x i wr bd h1 h2 => by omega, fun i wr bd h1 h2 => by omega, fun x i wr bd h1 h2 => by omega⟩
  | succ n ih =>
    obtain ⟨iN, iA, iAL, iO, iOL⟩ := ih
    refine ⟨?_, ?_, ?_, ?_, ?_⟩
    · intro i wr bd hi hn
      rw [qNot, if_neg (by omega)]
      have hlen : (args.drop i).length = args.length - i := List.length_drop
      rcases hdr : args.drop i with _ | ⟨a, _ | ⟨b, r⟩⟩
      · exact ⟨_, rfl, Nat.le_refl _, hi, fun _ => rfl, fun h => h⟩
      · rw [hdr] at hlen
        have hlen : args.length - i = 1 := by simpa using hlen.symm
        dsimp only
        split
        · exact cQ_good (iO (i + 1) wr bd (by omega) (by omega))
        · exact ⟨_, rfl, by dsimp only; omega, by dsimp only; omega, fun h => h, fun h => h⟩
      · rw [hdr] at hlen
        have hlen : args.length - i = r.length + 2 := by simpa using hlen.symm
        have hz := F.drop hdr
        dsimp only
        split
        · rename_i hc
          obtain ⟨v, u, e1, e2, e3, -, e5⟩ := two_rel a b (r.getD 0 ByteArray.empty) bd (by have := hz a (by simp); omega) (by have := F.third hdr; omega) k (by have := F.hk; omega)
          rw [e2, Option.bind_some]
          exact ⟨_, rfl, by dsimp only; omega, by dsimp only; omega, fun h => h, fun h => e3 ▸ e5 h⟩
        · split
          · obtain ⟨v, e, h1, h2, h3, h4⟩ := iN (i + 1) wr bd (by omega) (by omega)
            rw [e, Option.bind_some]
            exact ⟨_, rfl, by dsimp only; omega, h2, h3, h4⟩
          · split
            · exact cQ_good (iO (i + 1) wr bd (by omega) (by omega))
            · split
              · obtain ⟨v, e1, e2⟩ := one_rel fs cwd a b k F.hk (by have := hz b (by simp); omega) F.hl
                rw [e2, Option.bind_some]
                exact ⟨_, rfl, by dsimp only; omega, by dsimp only; omega, fun h => h, fun h => h⟩
              · exact ⟨_, rfl, by dsimp only; omega, by dsimp only; omega, fun h => h, fun h => h⟩
    · intro i wr bd hi hn
      rw [qAnd]
      obtain ⟨v, e, h1, h2, h3, h4⟩ := iN i wr bd hi (by omega)
      rw [e, Option.bind_some]
      obtain ⟨u, f, g1, g2, g3, g4⟩ := iAL v.1 v.2.1 v.2.2.1 v.2.2.2 h2 (by omega)
      exact ⟨u, f, by omega, g2, fun h => g3 (h3 h), fun h => g4 (h4 h)⟩
    · intro x i wr bd hi hn
      rw [qAndL]
      split
      · rename_i hc
        obtain ⟨v, e, h1, h2, h3, h4⟩ := iN (i + 1) wr bd (by omega) (by omega)
        rw [e, Option.bind_some]
        obtain ⟨u, f, g1, g2, g3, g4⟩ := iAL (x && v.1) v.2.1 v.2.2.1 v.2.2.2 h2 (by omega)
        exact ⟨u, f, by omega, g2, fun h => g3 (h3 h), fun h => g4 (h4 h)⟩
      · exact ⟨_, rfl, Nat.le_refl _, hi, fun h => h, fun h => h⟩
    · intro i wr bd hi hn
      rw [qOr]
      obtain ⟨v, e, h1, h2, h3, h4⟩ := iA i wr bd hi (by omega)
      rw [e, Option.bind_some]
      obtain ⟨u, f, g1, g2, g3, g4⟩ := iOL v.1 v.2.1 v.2.2.1 v.2.2.2 h2 (by omega)
      exact ⟨u, f, by omega, g2, fun h => g3 (h3 h), fun h => g4 (h4 h)⟩
    · intro x i wr bd hi hn
      rw [qOrL]
      split
      · rename_i hc
        obtain ⟨v, e, h1, h2, h3, h4⟩ := iA (i + 1) wr bd (by omega) (by omega)
        rw [e, Option.bind_some]
        obtain ⟨u, f, g1, g2, g3, g4⟩ := iOL (x || v.1) v.2.1 v.2.2.1 v.2.2.2 h2 (by omega)
        exact ⟨u, f, by omega, g2, fun h => g3 (h3 h), fun h => g4 (h4 h)⟩
      · exact ⟨_, rfl, Nat.le_refl _, hi, fun h => h, fun h => h⟩
def Rel (v : Bool × Nat × Bool × Bool) (u : Bool × Nat × Int × Bool) : Prop :=
  (v.2.2.1 = true ∧ u.2.2.1 = 27) ∨ (v.2.2.1 = false ∧ u.2.2.1 = 0 ∧ v.2.1 = u.2.1 ∧ v.2.2.2 = u.2.2.2 ∧ (v.2.2.2 = false → v.1 = u.1))
def Both (L i : Nat) (bd : Bool) (o : Option (Bool × Nat × Bool × Bool)) (o' : Option (Bool × Nat × Int × Bool)) : Prop :=
  ∃ v u, o = some v ∧ o' = some u ∧ i ≤ v.2.1 ∧ v.2.1 ≤ L ∧ (bd = true → v.2.2.2 = true) ∧ i ≤ u.2.1 ∧ u.2.1 ≤ L ∧ Rel v u
theorem c_both {args i bd o o'} (h : Both (List.length args) (i + 1) bd o o') : Both args.length i bd (o.bind (cP args)) (o'.bind (cQ args)) := by
  obtain ⟨v, u, rfl, rfl, h1, h2, h3, h4, h5, h6⟩ := h
  obtain ⟨v1, v2, v3, v4⟩ := v
  obtain ⟨u1, u2, u3, u4⟩ := u
  dsimp only at *
  rw [Option.bind_some, Option.bind_some]
  unfold cP cQ
  dsimp only
  rcases h6 with ⟨r1, r2⟩ | ⟨r1, r2, r3, r4, r5⟩
  · dsimp only at *
    subst r1; subst r2
    split
    · split
      · exact ⟨_, _, rfl, rfl, by dsimp only; omega, by dsimp only; omega, h3, by dsimp only; omega, by dsimp only; omega, Or.inl ⟨rfl, rfl⟩⟩
      · exact ⟨_, _, rfl, rfl, by dsimp only; omega, by dsimp only; omega, h3, by dsimp only; omega, by dsimp only; omega, Or.inl ⟨rfl, rfl⟩⟩
    · split
      · exact ⟨_, _, rfl, rfl, by dsimp only; omega, by dsimp only; omega, h3, by dsimp only; omega, by dsimp only; omega, Or.inl ⟨rfl, rfl⟩⟩
      · exact ⟨_, _, rfl, rfl, by dsimp only; omega, by dsimp only; omega, h3, by dsimp only; omega, by dsimp only; omega, Or.inl ⟨rfl, rfl⟩⟩
  · dsimp only at *
    subst r1; subst r2; subst r3; subst r4
    split
    · exact ⟨_, _, rfl, rfl, by dsimp only; omega, by dsimp only; omega, h3, by dsimp only; omega, by dsimp only; omega, Or.inr ⟨rfl, rfl, rfl, rfl, r5⟩⟩
    · exact ⟨_, _, rfl, rfl, by dsimp only; omega, by dsimp only; omega, h3, by dsimp only; omega, by dsimp only; omega, Or.inl ⟨rfl, rfl⟩⟩
theorem seq_both {L i bd o o'} {f : Bool × Nat × Bool × Bool → Option (Bool × Nat × Bool × Bool)} {g : Bool × Nat × Int × Bool → Option (Bool × Nat × Int × Bool)} (j : Nat) (hj : i ≤ j) (h : Both L j bd o o')
    (hp : ∀ v : Bool × Nat × Bool × Bool, j ≤ v.2.1 → v.2.1 ≤ L → GoodP L v.2.1 v.2.2.1 v.2.2.2 (f v)) (hq : ∀ v : Bool × Nat × Int × Bool, j ≤ v.2.1 → v.2.1 ≤ L → GoodQ L v.2.1 v.2.2.1 v.2.2.2 (g v))
    (hb : ∀ x y j' b, j ≤ j' → j' ≤ L → (b = false → x = y) → (bd = true → b = true) → Both L j' b (f (x, j', false, b)) (g (y, j', 0, b))) : Both L i bd (o.bind f) (o'.bind g) := by
  obtain ⟨v, u, rfl, rfl, h1, h2, h3, h4, h5, h6⟩ := h
  rw [Option.bind_some, Option.bind_some]
  obtain ⟨v1, v2, v3, v4⟩ := v
  obtain ⟨u1, u2, u3, u4⟩ := u
  dsimp only at *
  rcases h6 with ⟨r1, r2⟩ | ⟨r1, r2, r3, r4, r5⟩
  · dsimp only at *
    obtain ⟨a, e, a1, a2, a3, a4⟩ := hp (v1, v2, v3, v4) h1 h2
    obtain ⟨b, e', b1, b2, b3, b4⟩ := hq (u1, u2, u3, u4) h4 h5
    dsimp only at *
    exact ⟨a, b, e, e', by omega, a2, fun h => a4 (h3 h), by omega, b2, Or.inl ⟨a3 r1, b3 r2⟩⟩
  · dsimp only at *
    subst r1; subst r2; subst r3; subst r4
    obtain ⟨a, b, e, e', a1, a2, a3, b1, b2, R⟩ := hb v1 u1 v2 v4 h1 h2 r5 h3
    exact ⟨a, b, e, e', by omega, a2, fun h => a3 (h3 h), by omega, b2, R⟩
theorem rel_all (k : Nat) (fs : List S_File) (cwd : ByteArray) (args : List ByteArray) (F : Fit k fs args) : ∀ n : Nat,
    (∀ i bd, i ≤ args.length → 4 * (args.length - i) + 1 ≤ n → Both args.length i bd (pNot k fs cwd args n i false bd) (qNot k fs cwd args n i 0 bd)) ∧
    (∀ i bd, i ≤ args.length → 4 * (args.length - i) + 2 ≤ n → Both args.length i bd (pAnd k fs cwd args n i false bd) (qAnd k fs cwd args n i 0 bd)) ∧
    (∀ x y i bd, i ≤ args.length → 4 * (args.length - i) + 1 ≤ n → (bd = false → x = y) → Both args.length i bd (pAndL k fs cwd args n x i false bd) (qAndL k fs cwd args n y i 0 bd)) ∧
    (∀ i bd, i ≤ args.length → 4 * (args.length - i) + 3 ≤ n → Both args.length i bd (pOr k fs cwd args n i false bd) (qOr k fs cwd args n i 0 bd)) ∧
    (∀ x y i bd, i ≤ args.length → 4 * (args.length - i) + 2 ≤ n → (bd = false → x = y) → Both args.length i bd (pOrL k fs cwd args n x i false bd) (qOrL k fs cwd args n y i 0 bd)) := by
  intro n
  induction n with
  | zero => exact ⟨fun i bd h1 h2 => by omega, fun i bd h1 h2 => by omega, fun x y i bd h1 h2 => by omega, fun i bd h1 h2 => by omega, fun x y i bd h1 h2 => by omega⟩
  | succ n ih =>
    obtain ⟨iN, iA, iAL, iO, iOL⟩ := ih
    obtain ⟨-, -, pAL, -, pOL⟩ := p_total k fs cwd args F n
    obtain ⟨-, -, qAL, -, qOL⟩ := q_total k fs cwd args F n
    refine ⟨?_, ?_, ?_, ?_, ?_⟩
    · intro i bd hi hn
      rw [pNot, qNot, if_neg (by omega), if_neg (by omega)]
      have hlen : (args.drop i).length = args.length - i := List.length_drop
      rcases hdr : args.drop i with _ | ⟨a, _ | ⟨b, r⟩⟩
      · exact ⟨_, _, rfl, rfl, Nat.le_refl _, hi, fun h => h, Nat.le_refl _, hi, Or.inl ⟨rfl, rfl⟩⟩
      · rw [hdr] at hlen
        have hlen : args.length - i = 1 := by simpa using hlen.symm
        dsimp only
        split
        · exact c_both (iO (i + 1) bd (by omega) (by omega))
        · exact ⟨_, _, rfl, rfl, by dsimp only; omega, by dsimp only; omega, fun h => h, by dsimp only; omega, by dsimp only; omega, Or.inr ⟨rfl, rfl, rfl, rfl, fun _ => rfl⟩⟩
      · rw [hdr] at hlen
        have hlen : args.length - i = r.length + 2 := by simpa using hlen.symm
        have hz := F.drop hdr
        dsimp only
        split
        · rename_i hc
          obtain ⟨v, u, e1, e2, e3, e4, e5⟩ := two_rel a b (r.getD 0 ByteArray.empty) bd (by have := hz a (by simp); omega) (by have := F.third hdr; omega) k (by have := F.hk; omega)
          rw [e1, e2, Option.bind_some, Option.bind_some]
          exact ⟨_, _, rfl, rfl, by dsimp only; omega, by dsimp only; omega, e5, by dsimp only; omega, by dsimp only; omega, Or.inr ⟨rfl, rfl, rfl, e3, e4⟩⟩
        · split
          · obtain ⟨v, u, e1, e2, h1, h2, h3, h4, h5, h6⟩ := iN (i + 1) bd (by omega) (by omega)
            rw [e1, e2, Option.bind_some, Option.bind_some]
            refine ⟨_, _, rfl, rfl, by dsimp only; omega, h2, h3, by dsimp only; omega, h5, ?_⟩
            rcases h6 with ⟨r1, r2⟩ | ⟨r1, r2, r3, r4, r5⟩
            · exact Or.inl ⟨r1, r2⟩
            · exact Or.inr ⟨r1, r2, r3, r4, fun h => by dsimp only; rw [r5 h]⟩
          · split
            · exact c_both (iO (i + 1) bd (by omega) (by omega))
            · split
              · obtain ⟨v, e1, e2⟩ := one_rel fs cwd a b k F.hk (by have := hz b (by simp); omega) F.hl
                rw [e1, e2, Option.bind_some, Option.bind_some]
                exact ⟨_, _, rfl, rfl, by dsimp only; omega, by dsimp only; omega, fun h => h, by dsimp only; omega, by dsimp only; omega, Or.inr ⟨rfl, rfl, rfl, rfl, fun _ => rfl⟩⟩
              · exact ⟨_, _, rfl, rfl, by dsimp only; omega, by dsimp only; omega, fun h => h, by dsimp only; omega, by dsimp only; omega, Or.inr ⟨rfl, rfl, rfl, rfl, fun _ => rfl⟩⟩
    · intro i bd hi hn
      rw [pAnd, qAnd]
      exact seq_both i (Nat.le_refl _) (iN i bd hi (by omega)) (fun v h1 h2 => pAL v.1 v.2.1 v.2.2.1 v.2.2.2 h2 (by omega)) (fun v h1 h2 => qAL v.1 v.2.1 v.2.2.1 v.2.2.2 h2 (by omega)) (fun x y j b h1 h2 h3 _ => iAL x y j b h2 (by omega) h3)
    · intro x y i bd hi hn hxy
      rw [pAndL, qAndL]
      by_cases hc : i < args.length ∧ (args.getD i ByteArray.empty).toList = [45, 97]
      · rw [if_pos hc, if_pos ⟨rfl, hc⟩]
        refine seq_both (i + 1) (by omega) (iN (i + 1) bd (by omega) (by omega)) (fun v h1 h2 => pAL (x && v.1) v.2.1 v.2.2.1 v.2.2.2 h2 (by omega)) (fun v h1 h2 => qAL (y && v.1) v.2.1 v.2.2.1 v.2.2.2 h2 (by omega)) (fun a b j d h1 h2 h3 h4 => iAL (x && a) (y && b) j d h2 (by omega) (fun h => ?_))
        have hbd : bd = false := by cases bd with | false => rfl | true => rw [h4 rfl] at h; cases h
        rw [h3 h, hxy hbd]
      · rw [if_neg hc, if_neg (fun e => hc e.2)]
        exact ⟨_, _, rfl, rfl, Nat.le_refl _, hi, fun h => h, Nat.le_refl _, hi, Or.inr ⟨rfl, rfl, rfl, rfl, hxy⟩⟩
    · intro i bd hi hn
      rw [pOr, qOr]
      exact seq_both i (Nat.le_refl _) (iA i bd hi (by omega)) (fun v h1 h2 => pOL v.1 v.2.1 v.2.2.1 v.2.2.2 h2 (by omega)) (fun v h1 h2 => qOL v.1 v.2.1 v.2.2.1 v.2.2.2 h2 (by omega)) (fun x y j b h1 h2 h3 _ => iOL x y j b h2 (by omega) h3)
    · intro x y i bd hi hn hxy
      rw [pOrL, qOrL]
      by_cases hc : i < args.length ∧ (args.getD i ByteArray.empty).toList = [45, 111]
      · rw [if_pos hc, if_pos ⟨rfl, hc⟩]
        refine seq_both (i + 1) (by omega) (iA (i + 1) bd (by omega) (by omega)) (fun v h1 h2 => pOL (x || v.1) v.2.1 v.2.2.1 v.2.2.2 h2 (by omega)) (fun v h1 h2 => qOL (y || v.1) v.2.1 v.2.2.1 v.2.2.2 h2 (by omega)) (fun a b j d h1 h2 h3 h4 => iOL (x || a) (y || b) j d h2 (by omega) (fun h => ?_))
        have hbd : bd = false := by cases bd with | false => rfl | true => rw [h4 rfl] at h; cases h
        rw [h3 h, hxy hbd]
      · rw [if_neg hc, if_neg (fun e => hc e.2)]
        exact ⟨_, _, rfl, rfl, Nat.le_refl _, hi, fun h => h, Nat.le_refl _, hi, Or.inr ⟨rfl, rfl, rfl, rfl, hxy⟩⟩
end Go.Proofs.YtoeiohfljaboaaaDoor.Pure
set_option linter.unusedVariables false
set_option linter.unusedSimpArgs false
namespace Go.Proofs.YtoeiohfljaboaaaDoor.Pure
open Go.RowKit Go.Proofs.YtoeiohfljaboaaaDoor.F Go.Proofs.YtoeiohfljaboaaaDoorW.PrintWords
theorem awake_evals : jobshelllaw29_awake.f = some true := by decide +kernel
def R3 (v : Bool × Bool × Bool × Bool) (u : Bool × Int × Bool) : Prop :=
  (v.2.2.1 = true ∧ u.2.1 = 27) ∨ (v.2.2.1 = false ∧ u.2.1 = 0 ∧ v.2.2.2 = u.2.2 ∧ (v.2.2.2 = false → v.1 = u.1))
theorem R3_end (v : Bool × Bool × Bool × Bool) (u : Bool × Int × Bool) (h : R3 v u) : resE v.1 v.2.2.1 v.2.2.2 = resR u.1 u.2.1 u.2.2 := by
  obtain ⟨v1, v2, v3, v4⟩ := v
  obtain ⟨u1, u2, u3⟩ := u
  unfold resE resR
  rcases h with ⟨r1, r2⟩ | ⟨r1, r2, r3, r4⟩
  · dsimp only at *
    rw [if_pos r1, if_neg (by omega), r2]
  · dsimp only at *
    rw [if_neg (by rw [r1]; decide), if_pos r2, ← r3]
    cases v4 with
    | true => rw [if_pos rfl, if_pos rfl]
    | false => rw [if_neg (by decide), if_neg (by decide), r4 rfl]
section
variable (k : Nat) (fs : List S_File) (cwd : ByteArray)
theorem q1 (a : ByteArray) (n : Nat) (er : Int) (od : Bool) : qExpr k fs cwd (n + 1) [a] er od = some (a.toList != ([] : List UInt8), er, od) := rfl
theorem q2 (a b : ByteArray) (n : Nat) (er : Int) (od : Bool) : qExpr k fs cwd (n + 1) [a, b] er od =
    if a.toList = [33] then (qExpr k fs cwd n [b] er od).bind fun v => some (!v.1, v.2.1, v.2.2) else if uB a = true then (rOne k fs cwd a b).bind fun v => some (v, er, od) else some (false, 27, od) := rfl
theorem q3 (a b c : ByteArray) (n : Nat) (er : Int) (od : Bool) : qExpr k fs cwd (n + 1) [a, b, c] er od =
    if bB b = true then (rTwo k a b c od).bind fun v => some (v.1, er, v.2)
      else if b.toList = [45, 97] then some (a.toList != ([] : List UInt8) && c.toList != ([] : List UInt8), er, od)
      else if b.toList = [45, 111] then some (a.toList != ([] : List UInt8) || c.toList != ([] : List UInt8), er, od)
      else if a.toList = [33] then (qExpr k fs cwd n [b, c] er od).bind fun v => some (!v.1, v.2.1, v.2.2)
      else if a.toList = [40] ∧ c.toList = [41] then qExpr k fs cwd n [b] er od
      else some (false, 27, od) := rfl
theorem q4 (a b c d : ByteArray) (n : Nat) (er : Int) (od : Bool) : qExpr k fs cwd (n + 1) [a, b, c, d] er od =
    if a.toList = [33] then (qExpr k fs cwd n [b, c, d] er od).bind fun v => some (!v.1, v.2.1, v.2.2)
      else if a.toList = [40] ∧ d.toList = [41] then qExpr k fs cwd n [b, c] er od
      else qGen k fs cwd [a, b, c, d] er od := rfl
theorem t2 (a b : ByteArray) (n : Nat) (wr bd : Bool) : tShort k fs cwd (n + 1) [a, b] wr bd =
    if a.toList = [33] then some (b.toList == ([] : List UInt8), false, wr, bd) else if uB a = true then (tOne k fs cwd a b).bind fun v => some (v, false, wr, bd) else some (false, false, true, bd) := rfl
theorem t3 (a b c : ByteArray) (n : Nat) (wr bd : Bool) : tShort k fs cwd (n + 1) [a, b, c] wr bd =
    if bB b = true then (tTwo k a b c bd).bind fun v => some (v.1, false, wr, v.2)
      else if b.toList = [45, 97] then some (a.toList != ([] : List UInt8) && c.toList != ([] : List UInt8), false, wr, bd)
      else if b.toList = [45, 111] then some (a.toList != ([] : List UInt8) || c.toList != ([] : List UInt8), false, wr, bd)
      else if a.toList = [33] then (tShort k fs cwd n [b, c] wr bd).bind fun v => some (!v.1, false, v.2.2.1, v.2.2.2)
      else if a.toList = [40] ∧ c.toList = [41] then some (b.toList != ([] : List UInt8), false, wr, bd)
      else some (false, false, true, bd) := rfl
theorem t4 (a b c d : ByteArray) (n : Nat) (wr bd : Bool) : tShort k fs cwd (n + 1) [a, b, c, d] wr bd =
    if a.toList = [33] then (tShort k fs cwd n [b, c, d] wr bd).bind fun v => some (!v.1, false, v.2.2.1, v.2.2.2)
      else if a.toList = [40] ∧ d.toList = [41] then tShort k fs cwd n [b, c] wr bd
      else some (false, true, wr, bd) := rfl
end
def Short (k : Nat) (fs : List S_File) (cwd : ByteArray) (n m : Nat) (l : List ByteArray) : Prop :=
  ∃ v u, tShort k fs cwd n l false false = some v ∧ qExpr k fs cwd m l 0 false = some u ∧ v.2.1 = false ∧ R3 v u
theorem not_R3 {v u} (h : R3 v u) : R3 (!v.1, false, v.2.2.1, v.2.2.2) (!u.1, u.2.1, u.2.2) := by
  rcases h with ⟨r1, r2⟩ | ⟨r1, r2, r3, r4⟩
  · exact Or.inl ⟨r1, r2⟩
  · exact Or.inr ⟨r1, r2, r3, fun h => by dsimp only; rw [r4 h]⟩
theorem short_two (k : Nat) (hk : 1900 ≤ k) (fs : List S_File) (hl : fs.length ≤ 1000) (cwd a b : ByteArray) (hb : b.size ≤ 40) (n m : Nat) : Short k fs cwd (n + 1) (m + 2) [a, b] := by
  unfold Short
  rw [t2, q2]
  by_cases h1 : a.toList = [33]
  · rw [if_pos h1, if_pos h1, q1, Option.bind_some]
    exact ⟨_, _, rfl, rfl, rfl, Or.inr ⟨rfl, rfl, rfl, fun _ => by simp [bne]⟩⟩
  rw [if_neg h1, if_neg h1]
  by_cases h2 : uB a = true
  · obtain ⟨r, e1, e2⟩ := one_rel fs cwd a b k hk (by omega) hl
    rw [if_pos h2, if_pos h2, e1, e2, Option.bind_some, Option.bind_some]
    exact ⟨_, _, rfl, rfl, rfl, Or.inr ⟨rfl, rfl, rfl, fun _ => rfl⟩⟩
  · rw [if_neg h2, if_neg h2]
    exact ⟨_, _, rfl, rfl, rfl, Or.inl ⟨rfl, rfl⟩⟩
theorem short_three (k : Nat) (hk : 1900 ≤ k) (fs : List S_File) (hl : fs.length ≤ 1000) (cwd a b c : ByteArray) (ha : a.size ≤ 40) (hc : c.size ≤ 40) (n m : Nat) : Short k fs cwd (n + 2) (m + 3) [a, b, c] := by
  unfold Short
  rw [t3, q3]
  by_cases h1 : bB b = true
  · obtain ⟨v, u, e1, e2, e3, e4, -⟩ := two_rel a b c false (by omega) (by omega) k (by omega)
    rw [if_pos h1, if_pos h1, e1, e2, Option.bind_some, Option.bind_some]
    exact ⟨_, _, rfl, rfl, rfl, Or.inr ⟨rfl, rfl, e3, e4⟩⟩
  rw [if_neg h1, if_neg h1]
  by_cases h2 : b.toList = [45, 97]
  · rw [if_pos h2, if_pos h2]
    exact ⟨_, _, rfl, rfl, rfl, Or.inr ⟨rfl, rfl, rfl, fun _ => rfl⟩⟩
  rw [if_neg h2, if_neg h2]
  by_cases h3 : b.toList = [45, 111]
  · rw [if_pos h3, if_pos h3]
    exact ⟨_, _, rfl, rfl, rfl, Or.inr ⟨rfl, rfl, rfl, fun _ => rfl⟩⟩
  rw [if_neg h3, if_neg h3]
  by_cases h4 : a.toList = [33]
  · obtain ⟨v, u, e1, e2, e3, e4⟩ := short_two k hk fs hl cwd b c hc n m
    rw [if_pos h4, if_pos h4, e1, e2, Option.bind_some, Option.bind_some]
    exact ⟨_, _, rfl, rfl, rfl, not_R3 e4⟩
  rw [if_neg h4, if_neg h4]
  by_cases h5 : a.toList = [40] ∧ c.toList = [41]
  · rw [if_pos h5, if_pos h5, q1]
    exact ⟨_, _, rfl, rfl, rfl, Or.inr ⟨rfl, rfl, rfl, fun _ => rfl⟩⟩
  · rw [if_neg h5, if_neg h5]
    exact ⟨_, _, rfl, rfl, rfl, Or.inl ⟨rfl, rfl⟩⟩
theorem evals_short (fs : List S_File) (cwd : ByteArray) (args : List ByteArray) (hA : args.length ≤ 1000000) (h : Short EK fs cwd 5 6 args) : ∃ r, testexpr_Eval.f args fs cwd = some r ∧ jobshellref29_Eval.f args fs cwd = some r := by
  obtain ⟨v, u, e1, e2, e3, e4⟩ := h
  unfold testexpr_Eval.f jobshellref29_Eval.f
  rw [if_pos hA, if_pos hA, e1, e2, Option.bind_some, Option.bind_some, e3, if_neg (by decide), R3_end v u e4]
  exact ⟨_, rfl, rfl⟩
theorem evals_gen (fs : List S_File) (cwd : ByteArray) (args : List ByteArray) (F : Fit EK fs args) (hA : args.length ≤ 12) (h1 : tShort EK fs cwd 5 args false false = some (false, true, false, false)) (h2 : qExpr EK fs cwd 6 args 0 false = qGen EK fs cwd args 0 false) :
    ∃ r, testexpr_Eval.f args fs cwd = some r ∧ jobshellref29_Eval.f args fs cwd = some r := by
  have hn : 4 * (args.length - 0) + 3 ≤ EK := by show _ ≤ 2000; omega
  obtain ⟨v, u, e1, e2, -, b1, -, -, b2, R⟩ := (rel_all EK fs cwd args F EK).2.2.2.1 0 false (by omega) hn
  unfold testexpr_Eval.f jobshellref29_Eval.f
  rw [if_pos (by omega), if_pos (by omega), h1, h2, Option.bind_some, if_pos rfl]
  dsimp only
  unfold qGen
  rw [e1, e2, Option.bind_some, Option.bind_some, Option.bind_some]
  obtain ⟨v1, v2, v3, v4⟩ := v
  obtain ⟨u1, u2, u3, u4⟩ := u
  have fin : R3 (v1, true, (v3 || decide (v2 < args.length)), v4) (u1, (if u2 < args.length then 27 else u3), u4) := by
    rcases R with ⟨r1, r2⟩ | ⟨r1, r2, r3, r4, r5⟩
    · dsimp only at *
      subst r1; subst r2
      exact Or.inl ⟨rfl, by dsimp only; split <;> rfl⟩
    · dsimp only at *
      subst r1; subst r2; subst r3; subst r4
      by_cases hlt : v2 < args.length
      · exact Or.inl ⟨by simp [hlt], by simp [hlt]⟩
      · exact Or.inr ⟨by simp [hlt], by simp [hlt], rfl, r5⟩
  have := R3_end _ _ fin
  dsimp only at this ⊢
  rw [this]
  exact ⟨_, rfl, rfl⟩
theorem evals_eq (fs : List S_File) (cwd : ByteArray) (args : List ByteArray) (F : Fit EK fs args) (hA : args.length ≤ 12) : ∃ r, testexpr_Eval.f args fs cwd = some r ∧ jobshellref29_Eval.f args fs cwd = some r := by
  have hk : 1900 ≤ EK := by decide
  match args, F, hA with
  | [], F, hA => exact evals_short fs cwd [] (by simp) ⟨_, _, rfl, rfl, rfl, Or.inr ⟨rfl, rfl, rfl, fun _ => rfl⟩⟩
  | [a], F, hA => exact evals_short fs cwd [a] (by simp) ⟨_, _, rfl, rfl, rfl, Or.inr ⟨rfl, rfl, rfl, fun _ => rfl⟩⟩
  | [a, b], F, hA => exact evals_short fs cwd [a, b] (by simp) (short_two EK hk fs F.hl cwd a b (F.hs b (by simp)) 4 4)
  | [a, b, c], F, hA => exact evals_short fs cwd [a, b, c] (by simp) (short_three EK hk fs F.hl cwd a b c (F.hs a (by simp)) (F.hs c (by simp)) 3 3)
  | [a, b, c, d], F, hA =>
    by_cases h1 : a.toList = [33]
    · refine evals_short fs cwd [a, b, c, d] (by simp) ?_
      obtain ⟨v, u, e1, e2, e3, e4⟩ := short_three EK hk fs F.hl cwd b c d (F.hs b (by simp)) (F.hs d (by simp)) 2 2
      unfold Short
      rw [t4, q4, if_pos h1, if_pos h1, e1, e2, Option.bind_some, Option.bind_some]
      exact ⟨_, _, rfl, rfl, rfl, not_R3 e4⟩
    by_cases h2 : a.toList = [40] ∧ d.toList = [41]
    · refine evals_short fs cwd [a, b, c, d] (by simp) ?_
      obtain ⟨v, u, e1, e2, e3, e4⟩ := short_two EK hk fs F.hl cwd b c (F.hs c (by simp)) 3 3
      unfold Short
      rw [t4, q4, if_neg h1, if_neg h1, if_pos h2, if_pos h2]
      exact ⟨_, _, e1, e2, e3, e4⟩
    · exact evals_gen fs cwd _ F hA (by rw [t4, if_neg h1, if_neg h2]) (by rw [q4, if_neg h1, if_neg h2])
  | a :: b :: c :: d :: e :: r, F, hA => exact evals_gen fs cwd _ F hA rfl rfl
theorem TestexprEvals (l0 : List ByteArray) (l1 : List S_File) (a2 : ByteArray) {P Q R : Prop} (w0 : P) (w1 : Q) (w2 : R) : ∃ k, jobshelllaw29_TestexprEvals.f k l0 l1 a2 = some true := by
  refine ⟨2000, ?_⟩
  unfold jobshelllaw29_TestexprEvals.f
  obtain ⟨b, h, hb⟩ := guard_f l0 l1 a2 2000 (by decide)
  rw [h, Option.bind_some]
  cases b with
  | false => rw [if_neg (by decide), awake_evals]; rfl
  | true =>
    rw [if_pos rfl]
    obtain ⟨hn, hs, hl, -, -⟩ := hb rfl
    have F : Fit EK l1 l0 := ⟨by decide, by omega, fun a ha => by
      obtain ⟨i, hi, rfl⟩ := List.mem_iff_getElem.1 ha
      have := hs i hi
      unfold rdOf at this
      simpa [List.getD, hi] using this⟩
    obtain ⟨r, e1, e2⟩ := evals_eq l1 a2 l0 F hn
    rw [e1, e2, Option.bind_some, Option.bind_some, if_pos (by cases r.1 <;> rfl), if_pos rfl, awake_evals]; rfl
end Go.Proofs.YtoeiohfljaboaaaDoor.Pure
namespace Go.Proofs.YtoeiohfljaboaaaDoor.testexprEvals
open Go.ChangeShapes Go.WideShapes Go.ChangeAt Go.RowKit
open Go.ChangeMaps (open_string shut_string)
open Go.Proofs.YtoeiohfljaboaaaDoor.F Go.Proofs.YtoeiohfljaboaaaDoorW.PrintWords Go.Proofs.YtoeiohfljaboaaaDoor.Opn
set_option linter.unusedVariables false
set_option linter.unusedSimpArgs false
theorem own : ownKnob Tryd.prog.godebug = none := by kernel_rfl
theorem laidOut : laidOutB Tryd.prog = true := by kernel_rfl
set_option maxRecDepth 100000 in
set_option maxHeartbeats 1000000 in
theorem lifted (os : Os) (started : os.Started) (H : Type) (enc : TypeId × Value → H) :
    ReturnsInHanded {} Tryd.checked os 3 .any (fun w args => (Rows.testexprEvalsSpec.pre enc Tryd.prog Tryd.f3 [] false w args ∧ laidMetH Tryd.prog Rows.testexprEvalsRow.laid w) ∧ sizedMet enc Tryd.prog Tryd.f3 (OpenSpec.ofChange Rows.testexprEvalsSpec) false w args)
      (Rows.testexprEvalsSpec.post enc Tryd.prog Tryd.f3 false true false false) := by
  refine handed_and_shaped (C := Tryd.checked) (X := fun w _ => laidMetH Tryd.prog Rows.testexprEvalsRow.laid w) (fun _ _ _ hh h => h.of_heap hh) own started (by kernel_rfl) Tryd.func3
    (ChangeSpec.witness_shaped (enc := enc) (C := Tryd.checked) (os := os) (X := fun w _ => laidMetH Tryd.prog Rows.testexprEvalsRow.laid w) false (World.laidAll Tryd.prog os Rows.testexprEvalsRow.laid) #[.slice none 0 0, .slice none 0 0, .string ByteArray.empty] 8 (World.laidAll_os _ _ _)
      (World.shaped_of_ZipB (by kernel_rfl) (by kernel_rfl)) (by kernel_rfl) (by kernel_rfl) (by kernel_rfl)
      (by rw [MakeChecks.laidMetH_plain _ _ _ (by kernel_rfl)]; exact laidMet_laidAll _ (by kernel_rfl) (by kernel_rfl))) ?_
  intro W base args ds gs before hval0 hW _ hsz0 hL hSh
  have hsz : (DataW.weightsEach Tryd.prog (Tryd.f3.params.toList ++ Rows.testexprEvalsSpec.plain.varTypes Tryd.prog) (ds ++ gs)).all (· ≤ reachBytes) = true := hsz0
  have hval : ∀ (j : Nat) t v, Tryd.f3.params[j]? = some t → args[j]? = some v → Value.okWide Tryd.prog W .any base t v := hval0
  have hW' := hW
  obtain ⟨p, q, hA0, hV, rfl, hfz, hnd⟩ := hW
  have hA : DataW.TrodAll enc Tryd.prog W 0 (fun _ => true) true Tryd.f3.params.toList args.toList ds p := hA0
  rw [Tryd.params3] at hA hval hsz
  obtain ⟨v0, vs0, d0, ds0, p0, q0, hargs, rfl, rfl, h0, r0⟩ := trodAll_cons hA
  obtain ⟨v1, vs1, d1, ds1, p1, q1, rfl, rfl, rfl, h1, r1⟩ := trodAll_cons r0
  obtain ⟨v2, vs2, d2, ds2, p2, q2, rfl, rfl, rfl, h2, r2⟩ := trodAll_cons r1
  obtain ⟨rfl, rfl, rfl⟩ := trodAll_nil r2
  obtain rfl : args = #[v0, v1, v2] := by cases args; simp_all
  obtain ⟨rfl, rfl⟩ := trodVars_none hV
  have k0 := h0
  have lt0 : ∀ x ∈ p0, x.block < W.heap.size := by obtain ⟨m, hm⟩ := k0; exact DataW.trod_lt m _ _ _ hm
  obtain ⟨A0, c0, l0, rfl, hc0, hr0, w0⟩ := arg_slice (opens_slice Tryd.underlying22 (opens_string Tryd.underlying9) (by kernel_rfl)) (okWide_slice Tryd.underlying22 (hval 0 22 v0 rfl rfl)) h0
  have k1 := h1
  have lt1 : ∀ x ∈ p1, x.block < W.heap.size := by obtain ⟨m, hm⟩ := k1; exact DataW.trod_lt m _ _ _ hm
  obtain ⟨A1, c1, l1, rfl, hc1, hr1, w1⟩ := arg_slice (opens_slice Tryd.underlying23 opens37 (by kernel_rfl)) (okWide_slice Tryd.underlying23 (hval 1 23 v1 rfl rfl)) h1
  obtain ⟨a2, rfl, rfl, rfl, y2⟩ := open_string Tryd.underlying9 (hval 2 9 v2 rfl rfl) h2
  have w2 : a2.size ≤ 140737488351232 := by
    have z := sized_string hsz (j := 2) (t := 9) rfl rfl
    rw [Array.length_toList] at z
    exact z
  clear hA0 hval0 hsz0 hsz
  obtain ⟨k, hk_⟩ := Go.Proofs.YtoeiohfljaboaaaDoor.Pure.TestexprEvals l0 l1 a2 w0 w1 w2
  refine (jobshelllaw29_TestexprEvals.calls k A0 c0 l0 A1 c1 l1 a2 true W hr0 hc0 hr1 hc1 (amb_shaped hSh) hk_).mono fun e W' ⟨he, bel0⟩ => ?_
  have bel : Below W.heap.size W W' := bel0
  subst he
  exact ⟨_, rfl, _, _, _, [], _, [], hW', trodAll_mk1 (shut_bool Tryd.underlying4 _), (trodAll_cons_mk (Below.trod laidOut (by kernel_rfl) (of_decide_eq_true (by kernel_rfl)) k0 bel lt0) (trodAll_cons_mk (Below.trod laidOut (by kernel_rfl) (of_decide_eq_true (by kernel_rfl)) k1 bel lt1) (trodAll_cons_mk (shut_string Tryd.underlying9 y2) trodAll_mk0))), rfl, bel.frame _, fun h => by cases h⟩
theorem over : Rows.testexprEvalsRow.holds Tryd.pinned (OpenSpec.ofChange Rows.testexprEvalsSpec) :=
  OpenClaim.holds_of_wide 3 Tryd.f3 rfl rfl rfl rfl rfl rfl rfl ⟨rfl, rfl, rfl, rfl, rfl⟩ rfl rfl rfl rfl rfl (by kernel_rfl) Tryd.func3 (by kernel_rfl)
    (of_decide_eq_true (by kernel_rfl)) (by unfold Func.isWrapper; first | (rw [if_pos (by decide +kernel)]; kernel_rfl) | (rw [if_neg (by decide +kernel)]; exact ⟨rfl, rfl⟩))
    (fun os started H enc _ => lifted os started H enc)
theorem card : Rows.TestexprEvalsCardSaid :=
  Claim7.holds_tied_plain_at .later [] [.data, .pinned] true (true, "aacb5983c18f5337dcd45483c6c156b2b676d1e2300df527b101564bf02ef163") false over (fun _ h => by cases h) (by kernel_rfl) (fun _ h => by cases h) testexprEvals_row_tie rfl ⟨rfl, rfl⟩ (by kernel_rfl) rfl
    (fun f fn hf hfn => by
      obtain rfl : f = 3 := Option.some.inj ((show Tryd.prog.funcNamed "jobshell/jobshelllaw29.TestexprEvals" = some 3 by kernel_rfl).symm.trans hf) |>.symm
      obtain rfl : fn = Tryd.f3 := (Option.some.inj (Tryd.func3.symm.trans hfn)).symm
      exact ⟨by kernel_rfl, fun j t ht => by
        rw [Tryd.params3] at ht
        have hm : t ∈ [22, 23, 9] := by simpa using Array.mem_of_getElem? ht
        have hall : ([22, 23, 9].all fun u => !Tryd.prog.wantsStandIn u) = true := by kernel_rfl
        exact (show Tryd.prog.wantsStandIn t = false by simpa using List.all_eq_true.1 hall t hm)⟩)
    (by kernel_rfl)
#print axioms card
end Go.Proofs.YtoeiohfljaboaaaDoor.testexprEvals
namespace Go.Proofs.YtoeiohfljaboaaaDoor
theorem testexprEvals_holds : Rows.TestexprEvalsCardSaid := testexprEvals.card
end Go.Proofs.YtoeiohfljaboaaaDoor
