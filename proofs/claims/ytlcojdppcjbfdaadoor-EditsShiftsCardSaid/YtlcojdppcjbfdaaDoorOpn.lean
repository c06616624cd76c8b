/- An argument that reads as data, opened by its kind: whole numbers, bools, strings, slices, structs, in any nesting. No program in it. -/
import Derived.Test.YtlcojdppcjbfdaaDoorWWords
import Derived.ProofKit
import Derived.DataElems
import Derived.OpenShut
set_option linter.unusedVariables false
set_option linter.unusedSimpArgs false
namespace Go.Proofs.YtlcojdppcjbfdaaDoor.Opn
open Go.RowKit Go.Proofs.YtlcojdppcjbfdaaDoorW.PrintWords

variable {P : Program}
/-- Whatever reads as data of type t is told by the kind d, and what it tells meets ok. -/
def Opens {α : Type} (P : Program) (t : TypeId) (d : Kd α) (ok : α → Prop) : Prop :=
  ∀ (H : Type) (enc : TypeId × Value → H) (W : World) (sp : Nat → Bool) (held : Bool) (fuel : Nat) (cs : List Value) (x : DataW H × List MemPlace),
    DataW.trod enc P W 0 sp held fuel t cs = some x → ∃ y : α, d.K W y cs ∧ ok y
theorem opens_int {t : TypeId} {k : IntKind} (ht : P.underlying t = some (.int k)) : Opens P t (Kd.int k) (fun n => (Lit.int k n).wf = true) := by
  intro H enc W sp held fuel cs x h
  obtain ⟨n, rfl, _, hw⟩ := DataW.trod_int ht h
  exact ⟨n, rfl, hw⟩
theorem opens_bool {t : TypeId} (ht : P.underlying t = some .bool) : Opens P t Kd.bool (fun _ => True) := by
  intro H enc W sp held fuel cs x h
  obtain ⟨b, rfl, _⟩ := DataW.trod_bool ht h
  exact ⟨b, rfl, trivial⟩
theorem opens_string {t : TypeId} (ht : P.underlying t = some .string) : Opens P t Kd.string (fun s => s.size ≤ maxLen) := by
  intro H enc W sp held fuel cs x h
  obtain ⟨s, rfl, _, hs⟩ := DataW.trod_string ht h
  exact ⟨s, rfl, hs⟩
theorem mapM_length {α β : Type} {f : α → Option β} : ∀ {l : List α} {xs : List β}, l.mapM f = some xs → xs.length = l.length
  | [], xs, h => by simp at h; simp [← h]
  | a :: r, xs, h => by
    rw [List.mapM_cons] at h
    cases h1 : f a with
    | none => simp [h1] at h
    | some y =>
      cases h2 : r.mapM f with
      | none => simp [h1, h2] at h
      | some ys =>
        simp [h1, h2] at h
        rw [← h]
        simp [mapM_length h2]
theorem cells_get {w : World} {a : Addr} {n : Nat} {cs : List Value} (h : w.cells? 0 a n = some cs) : cs.length = n ∧ ∀ i u, cs[i]? = some u → w.cell? (a.add i) = some u := by
  unfold World.cells? at h
  rw [if_pos (Nat.zero_le _)] at h
  have hl := mapM_length h
  rw [List.length_range] at hl
  refine ⟨hl, fun i u hu => ?_⟩
  have hi : i < n := by have := (List.getElem?_eq_some_iff.1 hu).1; omega
  have key : ∀ {l : List Nat} {xs : List Value}, l.mapM (fun i => w.cell? (a.add i)) = some xs → ∀ (j : Nat) (k : Nat), l[j]? = some k → xs[j]? = w.cell? (a.add k) := by
    intro l
    induction l with
    | nil => intro xs _ j k hk; simp at hk
    | cons b r ih =>
      intro xs hx j k hk
      rw [List.mapM_cons] at hx
      cases h1 : w.cell? (a.add b) with
      | none => simp [h1] at hx
      | some y =>
        cases h2 : r.mapM (fun i => w.cell? (a.add i)) with
        | none => simp [h1, h2] at hx
        | some ys =>
          simp [h1, h2] at hx
          subst hx
          cases j with
          | zero => simp at hk; subst hk; simp [h1]
          | succ j => simp at hk ⊢; exact ih h2 j k hk
  have := key h i i (by simp [hi])
  rw [← this]; exact hu
theorem choose_list {α : Type} {Q : Nat → α → Prop} : ∀ n : Nat, (∀ i, i < n → ∃ y, Q i y) → ∃ ys : List α, ys.length = n ∧ ∀ i y, ys[i]? = some y → Q i y
  | 0, _ => ⟨[], rfl, fun i y h => by simp at h⟩
  | n + 1, h => by
    obtain ⟨ys, hl, hy⟩ := choose_list n (fun i hi => h i (by omega))
    obtain ⟨z, hz⟩ := h n (by omega)
    refine ⟨ys ++ [z], by simp [hl], fun i y hi => ?_⟩
    rcases Nat.lt_or_ge i ys.length with hlt | hge
    · rw [List.getElem?_append_left hlt] at hi; exact hy i y hi
    · have hlt := (List.getElem?_eq_some_iff.1 hi).1
      simp at hlt
      have : i = ys.length := by omega
      subst this
      simp at hi
      subst hi
      rw [hl]; exact hz
theorem opens_slice {α : Type} {t e : TypeId} {d : Kd α} {ok : α → Prop} (ht : P.underlying t = some (.slice e)) (hd : Opens P e d ok) (hs : P.cellsOf e = d.sz) : Opens P t (Kd.slice e d) (fun xs => xs.length ≤ maxLen ∧ ∀ x ∈ xs, ok x) := by
  intro H enc W sp held fuel cs x h
  rcases DataW.trod_slice ht h with ⟨rfl, _⟩ | ⟨a, len, cap, els, rest, n, _, rfl, _, _, hb1, hb2, hl0, hel, _⟩
  · exact ⟨[], ⟨none, 0, rfl, Nat.le_refl _, rfl, by simp, fun h => absurd h (by simp)⟩, by simp, fun x hx => by cases hx⟩
  · have hgot : ∀ i, i < len → ∃ y : α, ok y ∧ ∃ c : List Value, c.length = d.sz ∧ d.K W y c ∧ ∀ j u, c[j]? = some u → W.cell? (a.add (i * d.sz + j)) = some u := by
      intro i hi
      have hz := hel i hi
      rw [List.getElem?_eq_getElem (by omega)] at hz
      cases hc : W.cells? 0 (a.add (i * P.cellsOf e)) (P.cellsOf e) with
      | none => rw [hc] at hz; simp at hz
      | some c =>
        rw [hc] at hz
        simp only [Option.bind_some] at hz
        obtain ⟨y, hK, hok⟩ := hd H enc W sp held n c _ hz
        obtain ⟨hcl, hcc⟩ := cells_get hc
        refine ⟨y, hok, c, by rw [hcl, hs], hK, fun j u hu => ?_⟩
        have := hcc j u hu
        rw [Addr.add_add, hs] at this
        exact this
    obtain ⟨ys, hl, hy⟩ := choose_list len hgot
    refine ⟨ys, ⟨some a, cap, by rw [hl], by rw [hl]; exact hb1, rfl, ?_, fun _ => ⟨a, rfl, fun j p hp => ?_⟩⟩, by rw [hl]; exact Nat.le_trans hb1 hb2, fun x hx => ?_⟩
    · rw [hl]; simp only [maxLen] at hb2; omega
    · obtain ⟨_, c, h1, h2, h3⟩ := hy j p hp
      exact ⟨c, h1, h2, h3⟩
    · obtain ⟨i, hi, rfl⟩ := List.getElem_of_mem hx
      exact (hy i _ (List.getElem?_eq_getElem hi)).1
/-- The fields from place off on. -/
def OpensFields {α : Type} (P : Program) (fs : List Field) (off : Nat) (d : Kd α) (ok : α → Prop) : Prop :=
  ∀ (H : Type) (enc : TypeId × Value → H) (W : World) (sp : Nat → Bool) (held : Bool) (fuel : Nat) (cs : List Value),
    cs.length = off + d.sz → (∀ f ∈ fs, ∃ z, DataW.trod enc P W 0 sp held fuel f.type ((cs.drop f.offset).take (P.cellsOf f.type)) = some z) → ∃ y : α, d.K W y (cs.drop off) ∧ ok y
theorem fields_one {α : Type} {f : Field} {off : Nat} {d : Kd α} {ok : α → Prop} (ho : f.offset = off) (hd : Opens P f.type d ok) (hs : P.cellsOf f.type = d.sz) : OpensFields P [f] off d ok := by
  intro H enc W sp held fuel cs hl h
  obtain ⟨z, hz⟩ := h f (List.mem_singleton.2 rfl)
  rw [ho, hs, List.take_of_length_le (by simp; omega)] at hz
  exact hd H enc W sp held fuel _ z hz
theorem fields_cons {α β : Type} {f : Field} {fs : List Field} {off : Nat} {d : Kd α} {d' : Kd β} {ok : α → Prop} {ok' : β → Prop} (ho : f.offset = off) (hd : Opens P f.type d ok) (hs : P.cellsOf f.type = d.sz) (hr : OpensFields P fs (off + d.sz) d' ok') :
    OpensFields P (f :: fs) off (Kd.pair d d') (fun y => ok y.1 ∧ ok' y.2) := by
  intro H enc W sp held fuel cs hl h
  obtain ⟨z, hz⟩ := h f List.mem_cons_self
  rw [ho, hs] at hz
  obtain ⟨y, hy, oy⟩ := hd H enc W sp held fuel _ z hz
  obtain ⟨y', hy', oy'⟩ := hr H enc W sp held fuel cs (by rw [hl]; show off + (d.sz + d'.sz) = _; omega) (fun g hg => h g (List.mem_cons_of_mem _ hg))
  refine ⟨(y, y'), ⟨(cs.drop off).take d.sz, cs.drop (off + d.sz), ?_, hy, hy'⟩, oy, oy'⟩
  rw [← List.drop_drop, List.take_append_drop]
theorem opens_struct {α β : Type} {t : TypeId} {fs : Array Field} {d : Kd α} {ok : α → Prop} {f : β → α} (ht : P.underlying t = some (.struct fs)) (hr : OpensFields P fs.toList 0 d ok) (hs : P.cellsOf t = d.sz) (g : α → β) (hg : ∀ a, f (g a) = a) :
    Opens P t (Kd.iso d f) (fun y => ok (f y)) := by
  intro H enc W sp held fuel cs x h
  obtain ⟨xs, n, _, _, hl, hlen, hf⟩ := DataW.trod_struct ht h
  obtain ⟨y, hy, oy⟩ := hr H enc W sp held n cs (by rw [hl, hs]; omega) (fun q hq => by
    obtain ⟨i, hi, rfl⟩ := List.getElem_of_mem hq
    have := hf i _ (by simpa using Array.getElem?_eq_getElem (xs := fs) (i := i) (by simpa using hi))
    rw [List.getElem?_eq_getElem (by rw [hlen]; simpa using hi)] at this
    exact ⟨_, by simpa using this⟩)
  exact ⟨g y, by show d.K W (f (g y)) cs; rw [hg]; exact hy, by show ok (f (g y)); rw [hg]; exact oy⟩
theorem opens_array2 {α : Type} {t e : TypeId} {d : Kd α} {ok : α → Prop} (ht : P.underlying t = some (.array 2 e)) (hd : Opens P e d ok) (hs : P.cellsOf e = d.sz) (hz : P.cellsOf t = 2 * d.sz) :
    Opens P t (Kd.pair d d) (fun y => ok y.1 ∧ ok y.2) := by
  intro H enc W sp held fuel cs x h
  obtain ⟨xs, m, _, _, hl, hlen, hf⟩ := DataW.trod_array ht h
  have h0 := hf 0 (by omega)
  have h1 := hf 1 (by omega)
  rw [List.getElem?_eq_getElem (by omega)] at h0 h1
  obtain ⟨y0, k0, o0⟩ := hd H enc W sp held m _ _ h0
  obtain ⟨y1, k1, o1⟩ := hd H enc W sp held m _ _ h1
  rw [hs] at k0 k1
  rw [List.take_of_length_le (by simp; omega)] at k1
  simp only [Nat.zero_mul, List.drop_zero, Nat.one_mul] at k0 k1
  exact ⟨(y0, y1), ⟨_, _, (List.take_append_drop d.sz cs).symm, k0, k1⟩, o0, o1⟩
theorem opens_imp {α : Type} {t : TypeId} {d : Kd α} {ok ok' : α → Prop} (h : Opens P t d ok) (hi : ∀ x, ok x → ok' x) : Opens P t d ok' :=
  fun H enc W sp held fuel cs x hx => let ⟨y, hy, oy⟩ := h H enc W sp held fuel cs x hx; ⟨y, hy, hi y oy⟩
/-- A slice that came in. -/
theorem arg_slice {α : Type} {H : Type} {enc : TypeId × Value → H} {W : World} {sp : Nat → Bool} {held : Bool} {t e : TypeId} {v : Value} {d : DataW H} {p : List MemPlace} {k : Kd α} {ok : List α → Prop} (ho : Opens P t (Kd.slice e k) ok) (hv : ∃ a len cap, v = .slice a len cap) (h : DataW.Trod enc P W 0 sp held t v d p) :
    ∃ A c xs, v = .slice A xs.length c ∧ xs.length ≤ c ∧ k.C W A xs.length xs ∧ ok xs := by
  obtain ⟨a, len, cap, rfl⟩ := hv
  obtain ⟨fuel, hf⟩ := h
  obtain ⟨xs, ⟨A, c, h1, h2, h3⟩, oy⟩ := ho H enc W sp held fuel _ _ hf
  simp [Value.cells] at h1
  obtain ⟨rfl, rfl, rfl⟩ := h1
  exact ⟨_, _, xs, rfl, h2, h3, oy⟩
/-- A struct that came in by value. -/
theorem arg_struct {α : Type} {H : Type} {enc : TypeId × Value → H} {W : World} {sp : Nat → Bool} {held : Bool} {t : TypeId} {v : Value} {d : DataW H} {p : List MemPlace} {k : Kd α} {ok : α → Prop} (ho : Opens P t k ok) (hv : ∃ cs : Array Value, v = .agg cs) (h : DataW.Trod enc P W 0 sp held t v d p) :
    ∃ (cs : List Value) (x : α), v = .agg cs.toArray ∧ k.K W x cs ∧ ok x := by
  obtain ⟨cs, rfl⟩ := hv
  obtain ⟨fuel, hf⟩ := h
  obtain ⟨x, h1, oy⟩ := ho H enc W sp held fuel _ _ hf
  exact ⟨cs.toList, x, by simp, by simpa [Value.cells] using h1, oy⟩
theorem okWide_array2 {n : Nat} {e t : TypeId} {w : World} {r : Reach} {base : Nat} {v : Value} (ht : P.underlying t = some (.array n e)) (h : Value.okWide P w r base t v) : ∃ cs : Array Value, v = .agg cs := by
  simp only [Value.okWide, ht] at h
  obtain ⟨cs, h1, _⟩ := h
  exact ⟨cs, h1⟩
end Go.Proofs.YtlcojdppcjbfdaaDoor.Opn
