/- Texts of this claim, joined. -/
import Derived.ProofKit
import Derived.DataElems
import Derived.OpenShut
import Derived.HandedShaped
import Derived.Shelf.Vars
import Derived.Test.YtoeiohfljaboaaaDoorChecked
import Derived.Test.YtoeiohfljaboaaaDoorBW0
import Derived.Test.YtoeiohfljaboaaaDoorB0
import Derived.Test.YtoeiohfljaboaaaDoorB1
set_option linter.unusedVariables false
set_option linter.unusedSimpArgs false
namespace Go.Proofs.YtoeiohfljaboaaaDoor.Opn
open Go.RowKit Go.Proofs.YtoeiohfljaboaaaDoorW.PrintWords
variable {P : Program}
def Opens {α : Type} (P : Program) (t : TypeId) (d : Kd α) (ok : α → Prop) : Prop :=
  ∀ (H : Type) (enc : TypeId × Value → H) (W : World) (sp : Nat → Bool) (held : Bool) (fuel : Nat) (cs : List Value) (x : DataW H × List MemPlace),
    DataW.trod enc P W 0 sp held fuel t cs = some x → ∃ y : α, d.K W y cs ∧ ok y
theorem opens_int {t : TypeId} {k : IntKind} (ht : P.underlying t = some (.int k)) : Opens P t (Kd.int k) (fun n => (Lit.int k n).wf = true) := by
  intro H enc W sp held fuel cs x h
  obtain ⟨n, rfl, _, hw⟩ := DataW.trod_int ht h
  exact ⟨n, rfl, hw⟩
theorem opens_bool {t : TypeId} (ht : P.underlying t = some .bool) : Opens P t Kd.bool (fun _ => True) := by
  intro H enc W sp held fuel cs x h
  obtain ⟨b, rfl, _⟩ := DataW.trod_bool ht h
  exact ⟨b, rfl, trivial⟩
theorem opens_string {t : TypeId} (ht : P.underlying t = some .string) : Opens P t Kd.string (fun s => s.size ≤ maxLen) := by
  intro H enc W sp held fuel cs x h
  obtain ⟨s, rfl, _, hs⟩ := DataW.trod_string ht h
  exact ⟨s, rfl, hs⟩
theorem mapM_length {α β : Type} {f : α → Option β} : ∀ {l : List α} {xs : List β}, l.mapM f = some xs → xs.length = l.length
  | [], xs, h => by simp at h; simp [← h]
  | a :: r, xs, h => by
    rw [List.mapM_cons] at h
    cases h1 : f a with
    | none => simp [h1] at h
    | some y =>
      cases h2 : r.mapM f with
      | none => simp [h1, h2] at h
      | some ys =>
        simp [h1, h2] at h
        rw [← h]
        simp [mapM_length h2]
theorem cells_get {w : World} {a : Addr} {n : Nat} {cs : List Value} (h : w.cells? 0 a n = some cs) : cs.length = n ∧ ∀ i u, cs[i]? = some u → w.cell? (a.add i) = some u := by
  unfold World.cells? at h
  rw [if_pos (Nat.zero_le _)] at h
  have hl := mapM_length h
  rw [List.length_range] at hl
  refine ⟨hl, fun i u hu => ?_⟩
  have hi : i < n := by have := (List.getElem?_eq_some_iff.1 hu).1; omega
  have key : ∀ {l : List Nat} {xs : List Value}, l.mapM (fun i => w.cell? (a.add i)) = some xs → ∀ (j : Nat) (k : Nat), l[j]? = some k → xs[j]? = w.cell? (a.add k) := by
    intro l
    induction l with
    | nil => intro xs _ j k hk; simp at hk
    | cons b r ih =>
      intro xs hx j k hk
      rw [List.mapM_cons] at hx
      cases h1 : w.cell? (a.add b) with
      | none => simp [h1] at hx
      | some y =>
        cases h2 : r.mapM (fun i => w.cell? (a.add i)) with
        | none => simp [h1, h2] at hx
        | some ys =>
          simp [h1, h2] at hx
          subst hx
          cases j with
          | zero => simp at hk; subst hk; simp [h1]
          | succ j => simp at hk ⊢; exact ih h2 j k hk
  have := key h i i (by simp [hi])
  rw [← this]; exact hu
theorem choose_list {α : Type} {Q : Nat → α → Prop} : ∀ n : Nat, (∀ i, i < n → ∃ y, Q i y) → ∃ ys : List α, ys.length = n ∧ ∀ i y, ys[i]? = some y → Q i y
  | 0, _ => ⟨[], rfl, fun i y h => by simp at h⟩
  | n + 1, h => by
    obtain ⟨ys, hl, hy⟩ := choose_list n (fun i hi => h i (by omega))
    obtain ⟨z, hz⟩ := h n (by omega)
    refine ⟨ys ++ [z], by simp [hl], fun i y hi => ?_⟩
    rcases Nat.lt_or_ge i ys.length with hlt | hge
    · rw [List.getElem?_append_left hlt] at hi; exact hy i y hi
    · have hlt := (List.getElem?_eq_some_iff.1 hi).1
      simp at hlt
      have : i = ys.length := by omega
      subst this
      simp at hi
      subst hi
      rw [hl]; exact hz
theorem opens_slice {α : Type} {t e : TypeId} {d : Kd α} {ok : α → Prop} (ht : P.underlying t = some (.slice e)) (hd : Opens P e d ok) (hs : P.cellsOf e = d.sz) : Opens P t (Kd.slice e d) (fun xs => xs.length ≤ maxLen ∧ ∀ x ∈ xs, ok x) := by
  intro H enc W sp held fuel cs x h
  rcases DataW.trod_slice ht h with ⟨rfl, _⟩ | ⟨a, len, cap, els, rest, n, _, rfl, _, _, hb1, hb2, hl0, hel, _⟩
  · exact ⟨[], ⟨none, 0, rfl, Nat.le_refl _, rfl, by simp, fun h => absurd h (by simp)⟩, by simp, fun x hx => by cases hx⟩
  · have hgot : ∀ i, i < len → ∃ y : α, ok y ∧ ∃ c : List Value, c.length = d.sz ∧ d.K W y c ∧ ∀ j u, c[j]? = some u → W.cell? (a.add (i * d.sz + j)) = some u := by
      intro i hi
      have hz := hel i hi
      rw [List.getElem?_eq_getElem (by omega)] at hz
      cases hc : W.cells? 0 (a.add (i * P.cellsOf e)) (P.cellsOf e) with
      | none => rw [hc] at hz; simp at hz
      | some c =>
        rw [hc] at hz
        simp only [Option.bind_some] at hz
        obtain ⟨y, hK, hok⟩ := hd H enc W sp held n c _ hz
        obtain ⟨hcl, hcc⟩ := cells_get hc
        refine ⟨y, hok, c, by rw [hcl, hs], hK, fun j u hu => ?_⟩
        have := hcc j u hu
        rw [Addr.add_add, hs] at this
        exact this
    obtain ⟨ys, hl, hy⟩ := choose_list len hgot
    refine ⟨ys, ⟨some a, cap, by rw [hl], by rw [hl]; exact hb1, rfl, ?_, fun _ => ⟨a, rfl, fun j p hp => ?_⟩⟩, by rw [hl]; exact Nat.le_trans hb1 hb2, fun x hx => ?_⟩
    · rw [hl]; simp only [maxLen] at hb2; omega
    · obtain ⟨_, c, h1, h2, h3⟩ := hy j p hp
      exact ⟨c, h1, h2, h3⟩
    · obtain ⟨i, hi, rfl⟩ := List.getElem_of_mem hx
      exact (hy i _ (List.getElem?_eq_getElem hi)).1
theorem opens_opq {α : Type} {t e : TypeId} {d : Kd α} (g : Option Addr → Nat → Nat → α) (hd : ∀ W A n c, d.K W (g A n c) [.slice A n c]) (ht : P.underlying t = some (.slice e)) : Opens P t d (fun _ => True) := by
  intro H enc W sp held fuel cs x h
  rcases DataW.trod_slice ht h with ⟨rfl, _⟩ | ⟨a, len, cap, els, rest, n, _, rfl, _⟩
  · exact ⟨g none 0 0, hd _ _ _ _, trivial⟩
  · exact ⟨g (some a) len cap, hd _ _ _ _, trivial⟩
def OpensFields {α : Type} (P : Program) (fs : List Field) (off : Nat) (d : Kd α) (ok : α → Prop) : Prop :=
  ∀ (H : Type) (enc : TypeId × Value → H) (W : World) (sp : Nat → Bool) (held : Bool) (fuel : Nat) (cs : List Value),
    cs.length = off + d.sz → (∀ f ∈ fs, ∃ z, DataW.trod enc P W 0 sp held fuel f.type ((cs.drop f.offset).take (P.cellsOf f.type)) = some z) → ∃ y : α, d.K W y (cs.drop off) ∧ ok y
theorem fields_one {α : Type} {f : Field} {off : Nat} {d : Kd α} {ok : α → Prop} (ho : f.offset = off) (hd : Opens P f.type d ok) (hs : P.cellsOf f.type = d.sz) : OpensFields P [f] off d ok := by
  intro H enc W sp held fuel cs hl h
  obtain ⟨z, hz⟩ := h f (List.mem_singleton.2 rfl)
  rw [ho, hs, List.take_of_length_le (by simp; omega)] at hz
  exact hd H enc W sp held fuel _ z hz
theorem fields_cons {α β : Type} {f : Field} {fs : List Field} {off : Nat} {d : Kd α} {d' : Kd β} {ok : α → Prop} {ok' : β → Prop} (ho : f.offset = off) (hd : Opens P f.type d ok) (hs : P.cellsOf f.type = d.sz) (hr : OpensFields P fs (off + d.sz) d' ok') :
    OpensFields P (f :: fs) off (Kd.pair d d') (fun y => ok y.1 ∧ ok' y.2) := by
  intro H enc W sp held fuel cs hl h
  obtain ⟨z, hz⟩ := h f List.mem_cons_self
  rw [ho, hs] at hz
  obtain ⟨y, hy, oy⟩ := hd H enc W sp held fuel _ z hz
  obtain ⟨y', hy', oy'⟩ := hr H enc W sp held fuel cs (by rw [hl]; show off + (d.sz + d'.sz) = _; omega) (fun g hg => h g (List.mem_cons_of_mem _ hg))
  refine ⟨(y, y'), ⟨(cs.drop off).take d.sz, cs.drop (off + d.sz), ?_, hy, hy'⟩, oy, oy'⟩
  rw [← List.drop_drop, List.take_append_drop]
theorem opens_struct {α β : Type} {t : TypeId} {fs : Array Field} {d : Kd α} {ok : α → Prop} {f : β → α} (ht : P.underlying t = some (.struct fs)) (hr : OpensFields P fs.toList 0 d ok) (hs : P.cellsOf t = d.sz) (g : α → β) (hg : ∀ a, f (g a) = a) :
    Opens P t (Kd.iso d f) (fun y => ok (f y)) := by
  intro H enc W sp held fuel cs x h
  obtain ⟨xs, n, _, _, hl, hlen, hf⟩ := DataW.trod_struct ht h
  obtain ⟨y, hy, oy⟩ := hr H enc W sp held n cs (by rw [hl, hs]; omega) (fun q hq => by
    obtain ⟨i, hi, rfl⟩ := List.getElem_of_mem hq
    have := hf i _ (by simpa using Array.getElem?_eq_getElem (xs := fs) (i := i) (by simpa using hi))
    rw [List.getElem?_eq_getElem (by rw [hlen]; simpa using hi)] at this
    exact ⟨_, by simpa using this⟩)
  exact ⟨g y, by show d.K W (f (g y)) cs; rw [hg]; exact hy, by show ok (f (g y)); rw [hg]; exact oy⟩
theorem opens_array2 {α : Type} {t e : TypeId} {d : Kd α} {ok : α → Prop} (ht : P.underlying t = some (.array 2 e)) (hd : Opens P e d ok) (hs : P.cellsOf e = d.sz) (hz : P.cellsOf t = 2 * d.sz) :
    Opens P t (Kd.pair d d) (fun y => ok y.1 ∧ ok y.2) := by
  intro H enc W sp held fuel cs x h
  obtain ⟨xs, m, _, _, hl, hlen, hf⟩ := DataW.trod_array ht h
  have h0 := hf 0 (by omega)
  have h1 := hf 1 (by omega)
  rw [List.getElem?_eq_getElem (by omega)] at h0 h1
  obtain ⟨y0, k0, o0⟩ := hd H enc W sp held m _ _ h0
  obtain ⟨y1, k1, o1⟩ := hd H enc W sp held m _ _ h1
  rw [hs] at k0 k1
  rw [List.take_of_length_le (by simp; omega)] at k1
  simp only [Nat.zero_mul, List.drop_zero, Nat.one_mul] at k0 k1
  exact ⟨(y0, y1), ⟨_, _, (List.take_append_drop d.sz cs).symm, k0, k1⟩, o0, o1⟩
theorem opens_imp {α : Type} {t : TypeId} {d : Kd α} {ok ok' : α → Prop} (h : Opens P t d ok) (hi : ∀ x, ok x → ok' x) : Opens P t d ok' :=
  fun H enc W sp held fuel cs x hx => let ⟨y, hy, oy⟩ := h H enc W sp held fuel cs x hx; ⟨y, hy, hi y oy⟩
theorem arg_slice {α : Type} {H : Type} {enc : TypeId × Value → H} {W : World} {sp : Nat → Bool} {held : Bool} {t e : TypeId} {v : Value} {d : DataW H} {p : List MemPlace} {k : Kd α} {ok : List α → Prop} (ho : Opens P t (Kd.slice e k) ok) (hv : ∃ a len cap, v = .slice a len cap) (h : DataW.Trod enc P W 0 sp held t v d p) :
    ∃ A c xs, v = .slice A xs.length c ∧ xs.length ≤ c ∧ k.C W A xs.length xs ∧ ok xs := by
  obtain ⟨a, len, cap, rfl⟩ := hv
  obtain ⟨fuel, hf⟩ := h
  obtain ⟨xs, ⟨A, c, h1, h2, h3⟩, oy⟩ := ho H enc W sp held fuel _ _ hf
  simp [Value.cells] at h1
  obtain ⟨rfl, rfl, rfl⟩ := h1
  exact ⟨_, _, xs, rfl, h2, h3, oy⟩
theorem arg_struct {α : Type} {H : Type} {enc : TypeId × Value → H} {W : World} {sp : Nat → Bool} {held : Bool} {t : TypeId} {v : Value} {d : DataW H} {p : List MemPlace} {k : Kd α} {ok : α → Prop} (ho : Opens P t k ok) (hv : ∃ cs : Array Value, v = .agg cs) (h : DataW.Trod enc P W 0 sp held t v d p) :
    ∃ (cs : List Value) (x : α), v = .agg cs.toArray ∧ k.K W x cs ∧ ok x := by
  obtain ⟨cs, rfl⟩ := hv
  obtain ⟨fuel, hf⟩ := h
  obtain ⟨x, h1, oy⟩ := ho H enc W sp held fuel _ _ hf
  exact ⟨cs.toList, x, by simp, by simpa [Value.cells] using h1, oy⟩
theorem okWide_array2 {n : Nat} {e t : TypeId} {w : World} {r : Reach} {base : Nat} {v : Value} (ht : P.underlying t = some (.array n e)) (h : Value.okWide P w r base t v) : ∃ cs : Array Value, v = .agg cs := by
  simp only [Value.okWide, ht] at h
  obtain ⟨cs, h1, _⟩ := h
  exact ⟨cs, h1⟩
end Go.Proofs.YtoeiohfljaboaaaDoor.Opn
set_option linter.unusedVariables false
namespace Go.Proofs.YtoeiohfljaboaaaDoor.Opn
open Go.RowKit Go.Proofs.YtoeiohfljaboaaaDoorW.PrintWords Go.Proofs.YtoeiohfljaboaaaDoor.F
def ok37 (x : S_File) : Prop := (fun s => s.size ≤ maxLen) x.f0 ∧ (fun _ => True) x.f1 ∧ (fun s => s.size ≤ maxLen) x.f2
theorem opens37 : Opens Tryd.prog 37 k_File ok37 := opens_imp (opens_struct Tryd.underlying37 (fields_cons rfl (opens_string Tryd.underlying9) (by kernel_rfl) (fields_cons rfl (opens_bool Tryd.underlying4) (by kernel_rfl) (fields_one rfl (opens_string Tryd.underlying9) (by kernel_rfl)))) (by kernel_rfl) (fun x => (⟨x.1, x.2.1, x.2.2⟩ : S_File)) (fun _ => rfl)) (fun x h => h)
end Go.Proofs.YtoeiohfljaboaaaDoor.Opn
set_option linter.unusedVariables false
set_option linter.unusedSimpArgs false
namespace Go.Proofs.YtoeiohfljaboaaaDoor.Pure
open Go.RowKit Go.Proofs.YtoeiohfljaboaaaDoor.F Go.Proofs.YtoeiohfljaboaaaDoorW.PrintWords
theorem wrap_id {i : Int} (h0 : -9223372036854775808 ≤ i) (h1 : i ≤ 9223372036854775807) : wrap64 i = i := by unfold wrap64; omega
theorem wrap_succ {i : Nat} (h : i < 1000000000) : wrap64 ((i : Int) + 1) = ((i + 1 : Nat) : Int) := by rw [wrap_id (by omega) (by omega)]; omega
theorem bt_drop (s : ByteArray) (i : Nat) (h : i < s.size) : ∃ c : UInt8, s.data.toList.drop i = c :: s.data.toList.drop (i + 1) ∧ bt s i = (c.toNat : Int) := by
  refine ⟨s.data.toList[i]'(by simpa using h), List.drop_eq_getElem_cons _, ?_⟩
  rw [← bt_nat s i h]
  have : s[i]'h = s.data.toList[i]'(by simpa using h) := by simp; rfl
  rw [this]
def ba (l : List UInt8) : ByteArray := ⟨l.toArray⟩
theorem ba_data (l : List UInt8) : (ba l).data.toList = l := by simp [ba]
theorem ba_size (l : List UInt8) : (ba l).size = l.length := rfl
theorem ba_of (s : ByteArray) : ba s.data.toList = s := by simp [ba]
theorem size_data (s : ByteArray) : s.data.toList.length = s.size := by simp
theorem extract_data (s : ByteArray) (a b : Nat) : (s.extract a b).data.toList = (s.data.toList.take b).drop a := by rw [Lib.extract_data, List.drop_take]
theorem extract_ba (s : ByteArray) (a b : Nat) : s.extract a b = ba ((s.data.toList.take b).drop a) := by rw [← extract_data, ba_of]
theorem toL (s : ByteArray) : s.toList = s.data.toList := Lib.toList_data s
theorem byte_eq (c u : UInt8) (n : Nat) (hn : u.toNat = n) : ((c.toNat : Int) = (n : Int)) ↔ c = u := by
  constructor
  · intro h
    have h2 : c.toNat = u.toNat := by omega
    exact UInt8.toNat_inj.1 h2
  · rintro rfl
    rw [hn]
theorem prefix_one (x : ByteArray) (p : UInt8) : strings_HasPrefix.f x (⟨#[p]⟩ : ByteArray) = some (decide (x.data.toList.head? = some p)) := by
  unfold strings_HasPrefix.f stringslite_HasPrefix.f
  have h1 : ((⟨#[p]⟩ : ByteArray).size : Int) = 1 := rfl
  rw [h1]
  by_cases h : x.size = 0
  · have : x.data.toList = [] := List.length_eq_zero_iff.1 (by rw [size_data]; exact h)
    rw [if_neg (by omega), this]; rfl
  · obtain ⟨c, hc, hb⟩ := bt_drop x 0 (by omega)
    rw [List.drop_zero] at hc
    obtain ⟨t, ht⟩ : ∃ t, x.data.toList = c :: t := ⟨_, hc⟩
    rw [if_pos (by omega), if_pos (by omega), if_pos (by omega), extract_ba, List.drop_zero, ht]
    rw [Option.bind_some]
    congr 1
    rw [show (1 : Int).toNat = 1 from rfl, toL, ba_data, List.take_succ_cons, List.take_zero, toL]
    have e : (⟨#[p]⟩ : ByteArray).data.toList = [p] := rfl
    rw [e]
    by_cases hc2 : c = p
    · subst hc2; simp
    · rw [beq_eq_false_iff_ne.2 (by simpa using hc2), decide_eq_false (show ¬ (c :: t).head? = some p by simpa using hc2)]
def gN : List UInt8 → Int → Option Int
  | [], n => some n
  | c :: r, n => if (c.toNat : Int) < 48 ∨ (c.toNat : Int) > 57 then none else if n < Int.tdiv (-9223372036854775808 + ((c.toNat : Int) - 48)) 10 then none else gN r (10 * n - ((c.toNat : Int) - 48))
def fin29 (neg : Bool) : Option Int → Int × Bool
  | none => (0, false)
  | some m => if neg = true then (m, true) else (wrap64 (-m), m != -9223372036854775808)
def body29 (l : List UInt8) (neg : Bool) : Int × Bool := if l = [] then (0, false) else fin29 neg (gN l 0)
def intP : List UInt8 → Int × Bool
  | [] => (0, false)
  | c :: r => if c = 45 then body29 r true else if c = 43 then body29 r false else body29 (c :: r) false
theorem tdiv_low (d : Int) (h0 : 0 ≤ d) (h1 : d ≤ 9) (n : Int) (h : ¬ n < Int.tdiv (-9223372036854775808 + d) 10) (hn : n ≤ 0) : -9223372036854775808 ≤ 10 * n - d ∧ 10 * n - d ≤ 0 := by
  have h2 : Int.tdiv (-9223372036854775808 + d) 10 = -(Int.tdiv (9223372036854775808 - d) 10) := by rw [← Int.neg_tdiv]; congr 1; omega
  rw [h2, Int.tdiv_eq_ediv_of_nonneg (by omega)] at h
  omega
theorem int_l0 (s : ByteArray) (hs : s.size ≤ 100) (neg : Bool) : ∀ (d i k : Nat) (n : Int), i + d = s.size → 2 * d + 2 < k → -9223372036854775808 ≤ n → n ≤ 0 →
    testexpr_integer.l0 k s neg n (s.size : Int) i = some (fin29 neg (gN (s.data.toList.drop i) n)) := by
  intro d
  induction d with
  | zero =>
    intro i k n hi hk _ _
    obtain ⟨m, rfl⟩ : ∃ m, k = m + 1 := ⟨k - 1, by omega⟩
    rw [testexpr_integer.l0, if_neg (by omega), List.drop_eq_nil_of_le (by rw [size_data]; omega)]
    cases neg <;> rfl
  | succ d ih =>
    intro i k n hi hk h0 h1
    obtain ⟨m, rfl⟩ : ∃ m, k = m + 2 := ⟨k - 2, by omega⟩
    obtain ⟨c, hc, hb⟩ := bt_drop s i (by omega)
    have hc255 : c.toNat < 256 := c.toNat_lt
    rw [testexpr_integer.l0, if_pos (by omega), if_pos (by omega), if_pos (by omega), hb, hc, gN]
    by_cases h48 : (c.toNat : Int) < 48
    · rw [if_pos h48, if_pos (.inl h48), testexpr_integer.j3, if_pos rfl]; rfl
    rw [if_neg h48]
    by_cases h57 : (c.toNat : Int) > 57
    · rw [decide_eq_true h57, if_pos (.inr h57), testexpr_integer.j3, if_pos rfl]; rfl
    have hm : ((c.toNat : Int) - 48) % 256 = (c.toNat : Int) - 48 := by omega
    rw [decide_eq_false h57, if_neg (fun e => e.elim h48 h57), testexpr_integer.j3, if_neg (by decide), if_pos (by omega), if_pos (by omega), hb, hm, tdiv_ten _ (by omega) (by omega)]
    by_cases hov : n < Int.tdiv (-9223372036854775808 + ((c.toNat : Int) - 48)) 10
    · rw [if_pos hov, if_pos hov]; rfl
    · obtain ⟨l1, l2⟩ := tdiv_low ((c.toNat : Int) - 48) (by omega) (by omega) n hov h1
      rw [if_neg hov, if_neg hov, wrap_succ (by omega)]
      have e : wrap64 (wrap64 (10 * n) - ((c.toNat : Int) - 48)) = 10 * n - ((c.toNat : Int) - 48) := by
        rw [wrap_id (i := 10 * n) (by omega) (by omega), wrap_id (by omega) (by omega)]
      rw [e, ih (i + 1) m _ (by omega) (by omega) l1 l2]
theorem int_j1 (s : ByteArray) (hs : s.size ≤ 100) (neg : Bool) {k : Nat} (hk : 210 ≤ k) : testexpr_integer.j1 k s neg = some (body29 s.data.toList neg) := by
  obtain ⟨m, rfl⟩ : ∃ m, k = m + 1 := ⟨k - 1, by omega⟩
  rw [testexpr_integer.j1, toL, body29]
  by_cases h : s.data.toList = []
  · rw [if_pos h, if_pos h]
  · rw [if_neg h, if_neg h]
    have := int_l0 s hs neg s.size 0 m 0 (by omega) (by omega) (by omega) (by omega)
    rw [List.drop_zero] at this
    exact this
theorem int_eq (s : ByteArray) (hs : s.size ≤ 100) {k : Nat} (hk : 220 ≤ k) : testexpr_integer.f k s = some (intP s.data.toList) := by
  obtain ⟨m, rfl⟩ : ∃ m, k = m + 1 := ⟨k - 1, by omega⟩
  unfold testexpr_integer.f
  rw [prefix_one, Option.bind_some, prefix_one, Option.bind_some]
  have hx : (s.extract 1 s.size).data.toList = s.data.toList.drop 1 := by rw [extract_data, List.take_of_length_le (by rw [size_data]; omega)]
  have hxs : (s.extract 1 s.size).size ≤ 100 := by rw [ByteArray.size_extract]; omega
  have hsz := size_data s
  cases hl : s.data.toList with
  | nil =>
    rw [List.head?_nil, if_neg (by decide), testexpr_integer.j0]
    rw [decide_eq_false (by simp), if_neg (by decide), decide_eq_false (by simp), int_j1 s hs _ (by omega), hl]; rfl
  | cons c r =>
    rw [hl] at hx hsz
    rw [List.length_cons] at hsz
    rw [List.head?_cons, intP]
    by_cases h45 : c = 45
    · rw [decide_eq_true (by rw [h45]), if_pos rfl, if_pos h45, testexpr_integer.j0, if_pos rfl, if_pos (by omega), int_j1 _ hxs _ (by omega), hx]; rfl
    · have n45 : ¬ (some c = some (45 : UInt8)) := fun e => h45 (Option.some.inj e)
      rw [decide_eq_false n45, if_neg (by decide), if_neg h45, testexpr_integer.j0]
      by_cases h43 : c = 43
      · rw [decide_eq_true (by rw [h43]), if_pos rfl, if_pos h43, if_pos (by omega), int_j1 _ hxs _ (by omega), hx]; rfl
      · have n43 : ¬ (some c = some (43 : UInt8)) := fun e => h43 (Option.some.inj e)
        rw [decide_eq_false n43, if_neg (by decide), if_neg h43, int_j1 s hs _ (by omega), hl]
end Go.Proofs.YtoeiohfljaboaaaDoor.Pure
namespace Go.Proofs.YtoeiohfljaboaaaDoor.F
open Go.RowKit Go.Proofs.YtoeiohfljaboaaaDoorW.PrintWords Go.Proofs.YtoeiohfljaboaaaDoorW.PrintLast Go.Proofs.YtoeiohfljaboaaaDoorW.PrintMore
attribute [local go_sem] max2_int min2_int max_two min_two max_three min_three max_four min_four
set_option linter.unusedVariables false
set_option linter.unusedSimpArgs false
def jobshellref19_New.f  : Option ((List (S_File))) := some (([(⟨(⟨#[47]⟩ : ByteArray), true, (⟨#[]⟩ : ByteArray)⟩ : S_File)] : List (S_File)))
set_option maxHeartbeats 8000000 in
set_option maxRecDepth 100000 in
theorem jobshellref19_New.calls  (r : List (S_File)) (w : World) (h : jobshellref19_New.f  = some r) :
  Calls Tryd.prog 20 #[] w fun e w' => ∃ v0_ : Value, e = .returned (v0_) ∧ Kd.R k_File 37 w' w.heap.size (fun _ => True) v0_ r ∧ Below w.heap.size w w' := by
 have hu37 := Tryd.underlying37
 have HB := Aside0.mk (Below.refl w.heap.size w)
 have H : (some (([(⟨(⟨#[47]⟩ : ByteArray), true, (⟨#[]⟩ : ByteArray)⟩ : S_File)] : List (S_File)))) = some r := h
 clear h
 obtain ⟨y308, hy308⟩ : ∃ y_ : List (S_File), y_ = (([(⟨(⟨#[47]⟩ : ByteArray), true, (⟨#[]⟩ : ByteArray)⟩ : S_File)] : List (S_File))) := ⟨_, rfl⟩
 replace H : (some y308) = some r := by first | (rw [hy308]; with_reducible exact H) | (have H2_ := (Option.bind_some _ _).symm.trans H; rw [hy308]; with_reducible exact H2_) | (have H2_ := (Option.bind_some _ _).symm.trans H; with_reducible exact H2_) | with_reducible exact H | (rw [hy308]; exact H) | exact H
 have Ny308 := Aside0.mk hy308
 clear hy308
 obtain rfl := Option.some.inj H
 go_enter Tryd.func20, Tryd.ntmps20
 go_wp2_with (first | ((with_reducible refine gate_dst (N := 2) rfl ?_); refine Kd.R_lit k_File _ 37 ?hg (N := 2) ?hd (xs := ([(⟨(⟨#[47]⟩ : ByteArray), true, (⟨#[]⟩ : ByteArray)⟩ : S_File)] : List (S_File))) (inner := [.string (⟨#[47]⟩ : ByteArray), .bool true, .string (⟨#[]⟩ : ByteArray)]) (ok := fun _ => True) (okp := fun _ => True) ?hr ?hp (fun _ hk => hk) trivial (Below.refl _ _) (Nat.le_refl _) (by simp) ?_; (case hd => rfl); (case hg => rfl); (case hr => first | (go_simp; done) | (go_simp; rfl)); (case hp => exact (Reps.c3 (show Kd.M k_File _ _ _ (⟨(⟨#[47]⟩ : ByteArray), true, (⟨#[]⟩ : ByteArray)⟩ : S_File) [.string (⟨#[47]⟩ : ByteArray), .bool true, .string (⟨#[]⟩ : ByteArray)] from (k_File_mkM _ _ _ (⟨(⟨#[47]⟩ : ByteArray), true, (⟨#[]⟩ : ByteArray)⟩ : S_File) )) (Reps.none _ _))); intro v309 w1 ho2 hb hg_ hnew_; clear hg_ hnew_; (first | rw [← Ny308.out] at ho2 | (simp only [Int.reduceToNat] at ho2; rw [← Ny308.out] at ho2)); have n0_ := Aside0.mk (Kd.R_lower ho2 (below_size (by repeat (first | (with_reducible first | exact HB.out | apply below_alloc | apply pw_below_drewN | apply below_drew1) | exact HB.out)))); have n1_ := Aside0.mk (below_step (by repeat (first | (with_reducible first | exact HB.out | apply below_alloc | apply pw_below_drewN | apply below_drew1) | exact HB.out)) hb); clear HB; have HO310 := n0_; have HB := n1_; clear n0_ n1_; clear hb ho2))
 go_ret
 exact ⟨_, by first | rfl | (simp [errW_none, errW_some] <;> rfl) | (simp [*, errW_none, errW_some] <;> rfl), by (with_reducible repeat (first | apply Kd.R_alloc | apply Kd.R_drewN | apply Kd.R_drew)); exact HO310.out, by repeat (first | (with_reducible first | exact HB.out | apply below_alloc | apply pw_below_drewN | apply below_drew1) | exact HB.out)⟩
end Go.Proofs.YtoeiohfljaboaaaDoor.F
namespace Go.Proofs.YtoeiohfljaboaaaDoor.F
open Go.RowKit Go.Proofs.YtoeiohfljaboaaaDoorW.PrintWords Go.Proofs.YtoeiohfljaboaaaDoorW.PrintLast Go.Proofs.YtoeiohfljaboaaaDoorW.PrintMore
attribute [local go_sem] max2_int min2_int max_two min_two max_three min_three max_four min_four
set_option linter.unusedVariables false
set_option linter.unusedSimpArgs false
def jobshelllaw29_eval.f (a0 : ByteArray) (a1 : ByteArray) (a2 : ByteArray) : Option (Bool × Int) := (jobshellref19_New.f).bind fun t314 => ((testexpr_Eval.f (([a0, a1, a2] : List ByteArray)) t314 (⟨#[47]⟩ : ByteArray)).bind fun bt317 => (some (bt317.1, bt317.2)))
set_option maxHeartbeats 8000000 in
set_option maxRecDepth 100000 in
theorem jobshelllaw29_eval.calls (a0 : ByteArray) (a1 : ByteArray) (a2 : ByteArray) (r1 : Bool) (r2 : Int) (w : World) (hamb : AmbC w) (h : jobshelllaw29_eval.f a0 a1 a2 = some (r1, r2)) :
  Calls Tryd.prog 12 #[.string a0, .string a1, .string a2] w fun e w' => e = .returned (.tuple #[.bool r1, .int .i64 r2]) ∧ Below w.heap.size w w' := by
 have HAMB := Aside0.mk hamb
 clear hamb
 have HB := Aside0.mk (Below.refl w.heap.size w)
 have H : ((jobshellref19_New.f).bind fun t314 => ((testexpr_Eval.f (([a0, a1, a2] : List ByteArray)) t314 (⟨#[47]⟩ : ByteArray)).bind fun bt317 => (some (bt317.1, bt317.2)))) = some (r1, r2) := h
 clear h
 obtain ⟨y311, hy311⟩ : ∃ y_ : List ByteArray, y_ = (([a0, a1, a2] : List ByteArray)) := ⟨_, rfl⟩
 replace H : ((jobshellref19_New.f).bind fun t314 => ((testexpr_Eval.f y311 t314 (⟨#[47]⟩ : ByteArray)).bind fun bt317 => (some (bt317.1, bt317.2)))) = some (r1, r2) := by first | (rw [hy311]; with_reducible exact H) | (have H2_ := (Option.bind_some _ _).symm.trans H; rw [hy311]; with_reducible exact H2_) | (have H2_ := (Option.bind_some _ _).symm.trans H; with_reducible exact H2_) | with_reducible exact H | (rw [hy311]; exact H) | exact H
 have Ny311 := Aside0.mk hy311
 clear hy311
 replace H := Option.bind_eq_some_iff.mp H
 obtain ⟨t314, A40, H⟩ := H
 replace H : ((testexpr_Eval.f y311 t314 (⟨#[47]⟩ : ByteArray)).bind fun bt317 => (some (bt317.1, bt317.2))) = some (r1, r2) := H
 have A4 := Aside0.mk A40
 clear A40
 replace H := Option.bind_eq_some_iff.mp H
 obtain ⟨⟨t317, t318⟩, A50, H⟩ := H
 replace H : (some (t317, t318)) = some (r1, r2) := H
 have A5 := Aside0.mk A50
 clear A50
 simp only [Option.some.injEq, Prod.mk.injEq] at H
 obtain ⟨rfl, rfl⟩ := H
 go_enter Tryd.func12, Tryd.ntmps12
 go_wp2_with (first | ((with_reducible refine gate_dst (N := 11) rfl ?_); refine Kd.R_lit Kd.string _ 9 ?hg (N := 11) ?hd (xs := ([a0, a1, a2] : List ByteArray)) (inner := [.string a0, .string a1, .string a2]) (ok := fun _ => True) (okp := fun _ => True) ?hr ?hp (fun _ hk => hk) trivial (Below.refl _ _) (Nat.le_refl _) (by simp) ?_; (case hd => rfl); (case hg => rfl); (case hr => first | (go_simp; done) | (go_simp; rfl)); (case hp => exact (Reps.one (show Kd.M Kd.string _ _ _ a0 [.string a0] from rfl) (Reps.one (show Kd.M Kd.string _ _ _ a1 [.string a1] from rfl) (Reps.one (show Kd.M Kd.string _ _ _ a2 [.string a2] from rfl) (Reps.none _ _))))); intro v312 w6 ho7 hb hg_ hnew_; clear hg_ hnew_; (first | rw [← Ny311.out] at ho7 | (simp only [Int.reduceToNat] at ho7; rw [← Ny311.out] at ho7)); have n0_ := Aside0.mk (Kd.R_lower ho7 (below_size (by repeat (first | (with_reducible first | exact HB.out | apply below_alloc | apply pw_below_drewN | apply below_drew1) | exact HB.out)))); have n1_ := Aside0.mk (below_step (by repeat (first | (with_reducible first | exact HB.out | apply below_alloc | apply pw_below_drewN | apply below_drew1) | exact HB.out)) hb); clear HB; have HO313 := n0_; have HB := n1_; clear n0_ n1_; clear hb ho7) | ((with_reducible refine gate_callee (f := 20) rfl ?_); refine goesL_ (some 12) rfl rfl Tryd.func20 (by kernel_rfl) rfl #[] rfl (by (try simp only [List.map_toArray, List.map_cons, List.map_nil]); first | done | rfl | (simp only [List.length_drop, List.length_take]; rfl)) ?_; (with_reducible refine (jobshellref19_New.calls  t314 _ A4.out).mono ?_); rintro e w8 ⟨v315, rfl, ho0, hb⟩; refine ⟨_, rfl, ?_⟩; have n0_ := Aside0.mk (Kd.R_below (by (with_reducible repeat (first | apply Kd.R_alloc | apply Kd.R_drewN | apply Kd.R_drew)); exact HO313.out) hb); have n1_ := Aside0.mk (Kd.R_lower ho0 (below_size (by repeat (first | (with_reducible first | exact HB.out | apply below_alloc | apply pw_below_drewN | apply below_drew1) | exact HB.out)))); have n2_ := Aside0.mk (below_step (by repeat (first | (with_reducible first | exact HB.out | apply below_alloc | apply pw_below_drewN | apply below_drew1) | exact HB.out)) hb); clear HO313; clear HB; have HO313 := n0_; have HO316 := n1_; have HB := n2_; clear n0_ n1_ n2_; (try clear hb); (try clear hb2); (try clear hk); (try clear hi); (try clear ho0); obtain ⟨Ao9, co9, eo9⟩ := Kd.R_slice HO313.out; subst eo9; obtain ⟨Ao10, co10, eo10⟩ := Kd.R_slice HO316.out; subst eo10) | ((with_reducible refine gate_callee (f := 10) rfl ?_); refine goesL_ (some 13) rfl rfl Tryd.func10 (by kernel_rfl) rfl #[.slice Ao9 y311.length co9, .slice Ao10 t314.length co10, .string (⟨#[47]⟩ : ByteArray)] rfl (by (try simp only [List.map_toArray, List.map_cons, List.map_nil]); first | done | rfl | (simp only [List.length_drop, List.length_take]; rfl)) ?_; (with_reducible refine (testexpr_Eval.calls _ _ y311 _ _ t314 (⟨#[47]⟩ : ByteArray) t317 t318 _ ?side1 ?side2 ?side3 ?side4 ?side5 A5.out).mono ?_); (case side1 => repeat (first | exact (Kd.R_reads' HO313.out).2.2 | (with_reducible refine Kd.C_alloc ?_ _) | (with_reducible refine Kd.C_drewN ?_ _) | (with_reducible refine Kd.C_drew ?_))); (case side2 => exact (Kd.R_reads' HO313.out).2.1); (case side3 => repeat (first | exact (Kd.R_reads' HO316.out).2.2 | (with_reducible refine Kd.C_alloc ?_ _) | (with_reducible refine Kd.C_drewN ?_ _) | (with_reducible refine Kd.C_drew ?_))); (case side4 => exact (Kd.R_reads' HO316.out).2.1); (case side5 => repeat (first | exact (AmbC_below HAMB.out HB.out) | (with_reducible refine AmbC_alloc ?_ _) | (with_reducible refine AmbC_drewN ?_ _) | (with_reducible refine AmbC_drew ?_))); rintro e w11 ⟨rfl, hb⟩; refine ⟨_, rfl, ?_⟩; have n0_ := Aside0.mk (Kd.R_below (by (with_reducible repeat (first | apply Kd.R_alloc | apply Kd.R_drewN | apply Kd.R_drew)); exact HO313.out) hb); have n1_ := Aside0.mk (Kd.R_below (by (with_reducible repeat (first | apply Kd.R_alloc | apply Kd.R_drewN | apply Kd.R_drew)); exact HO316.out) hb); have n2_ := Aside0.mk (below_step (by repeat (first | (with_reducible first | exact HB.out | apply below_alloc | apply pw_below_drewN | apply below_drew1) | exact HB.out)) hb); clear HO313; clear HO316; clear HB; have HO313 := n0_; have HO316 := n1_; have HB := n2_; clear n0_ n1_ n2_; (try clear hb); (try clear hb2); (try clear hk); (try clear hi)))
 go_ret2
 exact ⟨by first | rfl | (simp [errW_none, errW_some] <;> rfl) | (simp [*, errW_none, errW_some] <;> rfl), by repeat (first | (with_reducible first | exact HB.out | apply below_alloc | apply pw_below_drewN | apply below_drew1) | exact HB.out)⟩
end Go.Proofs.YtoeiohfljaboaaaDoor.F
set_option linter.unusedVariables false
set_option linter.unusedSimpArgs false
namespace Go.Proofs.YtoeiohfljaboaaaDoor.Pure
open Go.RowKit Go.Proofs.YtoeiohfljaboaaaDoor.F Go.Proofs.YtoeiohfljaboaaaDoorW.PrintWords
theorem tTwo_num (a op b : ByteArray) (bd : Bool) (h1 : ¬ op.toList = [61]) (h2 : ¬ op.toList = [33, 61]) (ha : a.size ≤ 100) (hb : b.size ≤ 100) :
    tTwo EK a op b bd = some (if (intP a.data.toList).2 = true ∧ (intP b.data.toList).2 = true then (cmpI op (intP a.data.toList).1 (intP b.data.toList).1, bd) else (false, true)) := by
  unfold tTwo
  rw [if_neg (fun e => e.elim h1 h2), int_eq a ha (k := EK) (by decide), int_eq b hb (k := EK) (by decide), Option.bind_some, Option.bind_some]
  split <;> rfl
theorem tTwo_text (a op b : ByteArray) (bd : Bool) (h : op.toList = [61] ∨ op.toList = [33, 61]) : tTwo EK a op b bd = some ((a.toList == b.toList) == (op.toList == ([61] : List UInt8)), bd) := by
  unfold tTwo; rw [if_pos h]
theorem eval3 (a op b : ByteArray) (fs : List S_File) (cwd : ByteArray) (hop : bB op = true) (v bd : Bool) (h : tTwo EK a op b false = some (v, bd)) : testexpr_Eval.f [a, op, b] fs cwd = some (resE v false bd) := by
  unfold testexpr_Eval.f
  rw [if_pos (by simp)]
  simp only [tShort, if_pos hop, h, Option.bind_some]
  rfl
theorem law_eval (a op b : ByteArray) (hop : bB op = true) (v bd : Bool) (h : tTwo EK a op b false = some (v, bd)) : jobshelllaw29_eval.f a op b = some (resE v false bd) := by
  unfold jobshelllaw29_eval.f jobshellref19_New.f
  rw [Option.bind_some, eval3 a op b _ _ hop v bd h]; rfl
theorem law_num (a op b : ByteArray) (hop : bB op = true) (h1 : ¬ op.toList = [61]) (h2 : ¬ op.toList = [33, 61]) (ha : a.size ≤ 100) (hb : b.size ≤ 100) :
    jobshelllaw29_eval.f a op b = some (if (intP a.data.toList).2 = true ∧ (intP b.data.toList).2 = true then (cmpI op (intP a.data.toList).1 (intP b.data.toList).1, 0) else (false, 1)) := by
  have h := tTwo_num a op b false h1 h2 ha hb
  by_cases hc : (intP a.data.toList).2 = true ∧ (intP b.data.toList).2 = true
  · rw [if_pos hc] at h ⊢
    rw [law_eval a op b hop _ _ h]; rfl
  · rw [if_neg hc] at h ⊢
    rw [law_eval a op b hop _ _ h]; rfl
end Go.Proofs.YtoeiohfljaboaaaDoor.Pure
set_option linter.unusedVariables false
namespace Go
open Go.RowKit
section
variable {H : Type} {enc : TypeId × Value → H}
theorem handed_and_shaped {a : Assume} {C : Checked} {os : Os} {f : FuncId} {fn : Func} {s : ChangeSpec} {conds : List PathCond} {apart fresh handsOn again : Bool} {X : World → Array Value → Prop}
    (hX : ∀ (w w' : World) (args : Array Value), w.heap = w'.heap → X w args → X w' args)
    (own : ownKnob C.prog.godebug = none) (started : os.Started) (noInit : C.prog.inits.idxOf? f = none) (hfn : C.prog.funcs[f]? = some fn)
    (witness : ∃ (w : World) (tape : Tape) (i : Input), w.os = os ∧ (w.forCall tape i).Shaped C.prog ∧ i.vars = [] ∧ Input.okWide C.prog (w.forCall tape i) .any w.heap.size f i ∧
      ((s.pre enc C.prog fn conds apart (w.forCall tape i).memory i.args ∧ X (w.forCall tape i).memory i.args) ∧ sizedMet enc C.prog fn (OpenSpec.ofChange s) apart (w.forCall tape i).memory i.args) ∧ a.holds C.prog (lone (Frame.enter C.prog f i.args .normal) [] (w.forCall tape i)))
    (contract : ∀ (W : World) (base : Nat) (args : Array Value) (ds gs : List (DataW H)) (before : List MemPlace),
      (∀ (j : Nat) t v, fn.params[j]? = some t → args[j]? = some v → Value.okWide C.prog W .any base t v) →
      DataW.Whole enc C.prog fn.params.toList s.vars apart W args.toList ds gs before →
      conds.all (PathCond.test C.prog ⟨fn.params.toList, ds, s.plain.varTypes C.prog, gs⟩) = true →
      (DataW.weightsEach C.prog (fn.params.toList ++ s.plain.varTypes C.prog) (ds ++ gs)).all (· ≤ reachBytes) = true → X W args →
      W.ShapedOpen C.prog →
      Calls C.prog f args W fun e W' => ∃ v, e = .returned v ∧ s.post enc C.prog fn apart fresh handsOn again W args v W') :
    ReturnsInHanded a C os f .any (fun w args => (s.pre enc C.prog fn conds apart w args ∧ X w args) ∧ sizedMet enc C.prog fn (OpenSpec.ofChange s) apart w args) (s.post enc C.prog fn apart fresh handsOn again) := by
  refine returnsInHanded_of_calls own started noInit witness ?_
  intro w tape i _ hsh _ hok hpre hholds
  obtain ⟨_, _, _, fn', hfn', _, _, _, _, hval⟩ := hok
  have e : fn' = fn := Option.some.inj (hfn'.symm.trans hfn)
  subst e
  obtain ⟨⟨⟨ds, gs, before, hw, hc⟩, hx⟩, hz⟩ := hpre
  have hw' := DataW.Whole.of_heap (w' := w.forCall tape i) (by rfl) hw
  refine (contract (w.forCall tape i) w.heap.size i.args ds gs before hval hw' hc (hz.weights hw) (hX _ _ _ (by rfl) hx) hsh).mono fun e W' ⟨v, he, hp⟩ => ?_
  subst he
  exact ChangeSpec.post_blind hp
end
end Go
namespace Go.Proofs.YtoeiohfljaboaaaDoor.F
open Go.RowKit
theorem amb_shaped {W : World} (h : W.ShapedOpen Tryd.prog) : AmbC W :=
  cell_of_shapedOpen_int (zero := #[.int .i64 0]) (t := 3) h (of_decide_eq_true (by kernel_rfl)) (by kernel_rfl) rfl (by kernel_rfl) (by kernel_rfl) (by kernel_rfl)
end Go.Proofs.YtoeiohfljaboaaaDoor.F
