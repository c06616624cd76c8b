/- Small lemmas on worlds, blocks and builders that the hand-written contracts of this seat share. No program in it. -/
import Derived.Below
import Derived.OneCell
import Derived.Lib.Hide
import Derived.Lib.Builder
import Derived.Lib.UnsafeStr
import Derived.Lib.AppendStr
import Derived.Laws.AppendOwn
import Derived.Laws.Rows
set_option linter.unusedVariables false
namespace Go.Proofs.YtlcojdppcjbfdaaDoor.Aid
open Go.RowKit

theorem ret_ints {a b c d : Int} (h1 : a = c) (h2 : b = d) : Ending.returned (.tuple #[.int .i64 a, .int .i64 b]) = .returned (.tuple #[.int .i64 c, .int .i64 d]) := by rw [h1, h2]

/-- What a write to the builder in block b leaves: what lay below B; and every other block that is no row of type e. -/
structure Wrote (e : TypeId) (B b : Nat) (w w' : World) : Prop where
  below : Below B w w'
  other : ∀ i o, w.heap[i]? = some o → i ≠ b → (∀ cs fr, o ≠ .cells cs e fr) → w'.heap[i]? = some o
theorem Wrote.refl (e B b : Nat) (w : World) : Wrote e B b w w := ⟨Below.refl _ _, fun _ _ h _ _ => h⟩
theorem Wrote.trans {e B b : Nat} {w w1 w2 : World} (h : Wrote e B b w w1) (k : Wrote e B b w1 w2) : Wrote e B b w w2 :=
  ⟨h.below.trans k.below, fun i o hi hb ho => k.other i o (h.other i o hi hb ho) hb ho⟩
theorem setCell_grownBy (w : World) (b j : Nat) (v : Value) : w.grownBy (w.setCell ⟨b, j, none⟩ v) (some b) :=
  ⟨rfl, rfl, rfl, by simp, fun i _ hi => Below.heap_setCell _ _ _ _ (fun e => hi (by rw [e]))⟩
theorem grownBy_refl (w : World) (row : Option Nat) : w.grownBy w row := ⟨rfl, rfl, rfl, Nat.le_refl _, fun _ _ _ => rfl⟩
theorem owned_typed {w : World} {base : Nat} {e : TypeId} {size n : Nat} {v : Value} {xs : List Value} (h : w.ownsRow base e size v n xs) (k : Nat) (hk : v.ownBlock = some k) : ∃ cells, w.heap[k]? = some (.cells cells e (0, 0)) := by
  rcases h.2 with ⟨rfl, _⟩ | ⟨g, cap, cur, rfl, hg, hh, r⟩
  · simp [Value.ownBlock] at hk
  · have : g = k := by simpa [Value.ownBlock] using hk
    subst this
    exact ⟨cur, hh⟩
theorem lt_of_some {w : World} {i : Nat} {o : Obj} (h : w.heap[i]? = some o) : i < w.heap.size := lt_of_block h
theorem wrote_of {e : TypeId} {B b : Nat} {w w1 w2 : World} {v : Value} {n : Nat} {xs : List Value} (x : Value) (hB : B ≤ b) (hBw : B ≤ w.heap.size) (h1 : w.grownBy w1 (some b)) (hown : w1.ownsRow B e 1 v n xs) (h2 : w1.grownBy w2 v.ownBlock) :
    Wrote e B b w (w2.setCell ⟨b, 1, none⟩ x) := by
  refine ⟨?_, fun i o hi hb ho => ?_⟩
  · have b1 : Below B w w1 := (Below.refl B w).grown h1 hBw (fun k hk => by cases hk; exact hB)
    exact (b1.grown h2 (Nat.le_trans hBw h1.size) (fun k hk => (hown.lt k hk).1)).setCell (p := ⟨b, 1, none⟩) hB _
  · have e1 : w1.heap[i]? = some o := (h1.block i (lt_of_some hi) (fun e => hb (by injection e))).trans hi
    rw [Below.heap_setCell _ _ _ _ (fun e => hb (by rw [e])), h2.block i (lt_of_some e1) (fun e => ?_)]
    · exact e1
    · obtain ⟨cs, hcs⟩ := owned_typed hown i e.symm
      rw [e1] at hcs
      injection hcs with hcs
      exact ho _ _ hcs
theorem builderAt_below {T e : TypeId} {B b : Nat} {p : Value} {bs : List Value} {w w' : World} (h : Lib.BuilderAt T e B b p bs w) (hb : Below w.heap.size w w') : Lib.BuilderAt T e B b p bs w' := by
  obtain ⟨h1, v, h2, h3, h4⟩ := h
  refine ⟨h1, v, ?_, h3.kept (row := none) ⟨hb.os, hb.tape, hb.output, hb.size, fun i hi _ => hb.block i hi⟩ (by cases v.ownBlock <;> simp), h4⟩
  rw [hb.block b (lt_of_some h2)]; exact h2
theorem isBuilder_below {T e : TypeId} {B b : Nat} {bs : List Value} {w w' : World} (h : Lib.IsBuilder T e B b bs w) (hb : Below w.heap.size w w') : Lib.IsBuilder T e B b bs w' :=
  h.imp (fun h => builderAt_below h hb) (fun h => builderAt_below h hb)
theorem below_one (w : World) (o : Obj) : Below w.heap.size w (w.alloc o) := (Below.refl _ _).alloc (Nat.le_refl _) o
theorem block_new (w : World) (o : Obj) : (w.alloc o).heap[w.heap.size]? = some o := heap_alloc_new w o
theorem below_up {B : Nat} {w w1 w2 : World} (h : Below B w w1) (hB : B ≤ w1.heap.size) (k : Below w1.heap.size w1 w2) : Below B w w2 :=
  h.trans ⟨k.os, k.tape, k.output, k.size, fun i hi => k.block i (Nat.lt_of_lt_of_le hi hB)⟩
theorem byteCells_str (s : ByteArray) : Lib.strCells s = Lib.byteCells s.data.toList := by simp [Lib.strCells, Lib.byteCells]
theorem byteCells_length (a : List UInt8) : (Lib.byteCells a).length = a.length := by simp [Lib.byteCells]
end Go.Proofs.YtlcojdppcjbfdaaDoor.Aid
