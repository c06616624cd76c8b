/- Texts of this claim, joined. -/
import Derived.Deep.RegionHeld3
import Derived.Deep.QuietTactic
import Derived.BigQuiet
import Derived.Test.YtoeiohfljaboaaaDoorB0
set_option linter.unusedVariables false
set_option linter.unusedSimpArgs false
namespace Go.Proofs.YtoeiohfljaboaaaDoor.F
open Go.RowKit Go.Proofs.YtoeiohfljaboaaaDoorW.PrintWords Go.Proofs.YtoeiohfljaboaaaDoorW.PrintLast Go.Proofs.YtoeiohfljaboaaaDoorW.PrintMore Go.Proofs.YtoeiohfljaboaaaDoor.Aid
def tShort (k : Nat) (fs : List S_File) (cwd : ByteArray) : Nat → List ByteArray → Bool → Bool → Option (Bool × Bool × Bool × Bool)
  | 0, _, _, _ => none
  | n + 1, l, wr, bd => match l with
    | [] => some (false, false, wr, bd)
    | [a] => some (a.toList != ([] : List UInt8), false, wr, bd)
    | [a, b] => if a.toList = [33] then some (b.toList == ([] : List UInt8), false, wr, bd) else if uB a = true then (tOne k fs cwd a b).bind fun v => some (v, false, wr, bd) else some (false, false, true, bd)
    | [a, b, c] => if bB b = true then (tTwo k a b c bd).bind fun v => some (v.1, false, wr, v.2)
      else if b.toList = [45, 97] then some (a.toList != ([] : List UInt8) && c.toList != ([] : List UInt8), false, wr, bd)
      else if b.toList = [45, 111] then some (a.toList != ([] : List UInt8) || c.toList != ([] : List UInt8), false, wr, bd)
      else if a.toList = [33] then (tShort k fs cwd n [b, c] wr bd).bind fun v => some (!v.1, false, v.2.2.1, v.2.2.2)
      else if a.toList = [40] ∧ c.toList = [41] then some (b.toList != ([] : List UInt8), false, wr, bd)
      else some (false, false, true, bd)
    | [a, b, c, d] => if a.toList = [33] then (tShort k fs cwd n [b, c, d] wr bd).bind fun v => some (!v.1, false, v.2.2.1, v.2.2.2)
      else if a.toList = [40] ∧ d.toList = [41] then tShort k fs cwd n [b, c] wr bd
      else some (false, true, wr, bd)
    | _ => some (false, true, wr, bd)
theorem cells_at {w0 : World} {A : Option Addr} {xs : List ByteArray} (h : Kd.C Kd.string w0 A xs.length xs) (h0 : 0 < xs.length) : ∃ ad, A = some ad ∧ ∀ w, Below w0.heap.size w0 w → ∀ (i : Nat) (x : ByteArray), xs[i]? = some x → w.cell? (ad.add i) = some (.string x) := by
  obtain ⟨ad, e, _⟩ := Kd.at_string h (0 : Int) (by omega) (by omega)
  refine ⟨ad, e, fun w hb i x hx => ?_⟩
  obtain ⟨hi, hx'⟩ := List.getElem?_eq_some_iff.1 hx
  obtain ⟨ad', e', hc⟩ := Kd.at_string (Kd.C_below h hb) (i : Int) (by omega) (by omega)
  rw [e] at e'
  obtain rfl := Option.some.inj e'
  simp only [rdOf, Int.toNat_natCast, List.getD_eq_getElem?_getD, hx, Option.getD_some] at hc
  exact hc
theorem add0 (ad : Addr) : ad.add 0 = ad := by cases ad; simp [Addr.add]
theorem addS (ad : Addr) (n : Nat) (h : n ≠ 0) : ad.add n = ⟨ad.block, ad.off + n, none⟩ := by unfold Addr.add; rw [if_neg h]
theorem cut_at {w0 : World} {ad : Addr} {c m : Nat} {xs : List ByteArray} (h : Kd.C Kd.string w0 (some ad) xs.length xs) (hm : m < xs.length) (hc : xs.length ≤ c) : Kd.C Kd.string w0 (some (ad.add m)) (xs.drop m).length (xs.drop m) := by
  have h2 := Kd.C_drop h (Nat.le_of_lt hm) hc
  rw [if_neg (by omega)] at h2
  have e : Kd.string.sz = 1 := rfl
  simpa [e] using h2
theorem str_at {w0 w : World} {A : Option Addr} {n : Nat} {xs : List ByteArray} (h : Kd.C Kd.string w0 A n xs) (hb : Below w0.heap.size w0 w) (i : Nat) (hi : i < n) : ∃ ad, A = some ad ∧ w.cell? (ad.add i) = some (.string (xs.getD i ByteArray.empty)) := by
  obtain ⟨ad, e, hc⟩ := Kd.at_string (Kd.C_below h hb) (i : Int) (by omega) (by omega)
  exact ⟨ad, e, by simpa [rdOf] using hc⟩
section
variable {w0 : World} {g : Nat} {A0 : Option Addr} {c0 : Nat} {args : List ByteArray} {A2 : Option Addr} {c2 : Nat} {fs : List S_File} {cwd : ByteArray}
set_option maxHeartbeats 16000000 in
set_option maxRecDepth 100000 in
theorem tShort_calls (k : Nat) (hS : TS w0 A0 c0 args A2 c2 fs) : ∀ (n : Nat) (l : List ByteArray) (A : Option Addr) (c : Nat) (w : World) (at_ : Int) (wr bd r1 r2 r3 r4 : Bool),
    Kd.C Kd.string w0 A l.length l → l.length ≤ c → T29 w0 w g A0 c0 args.length A2 c2 fs.length cwd at_ wr bd → tShort k fs cwd n l wr bd = some (r1, r2, r3, r4) →
    Calls Tryd.prog 17 #[.pointer (some ⟨g, 0, none⟩), .slice A l.length c] w fun e w' => e = .returned (.tuple #[.bool r1, .bool r2]) ∧ T29 w0 w' g A0 c0 args.length A2 c2 fs.length cwd at_ r3 r4 := by
  intro n
  induction n with
  | zero => intro l A c w at_ wr bd r1 r2 r3 r4 _ _ _ h; cases h
  | succ n ih =>
    intro l A c w at_ wr bd r1 r2 r3 r4 hl hlc hT h
    have HT := Aside0.mk hT
    have HS := Aside0.mk hS
    have IH := Aside0.mk ih
    clear hT ih
    match l, hl, hlc, h with
    | [], hl, hlc, h =>
      simp only [tShort] at h
      simp only [Option.some.injEq, Prod.mk.injEq] at h
      obtain ⟨rfl, rfl, rfl, rfl⟩ := h
      go_enter Tryd.func17, Tryd.ntmps17
      go_wp2
      all_goals
        go_ret2
        exact ⟨by first | rfl | (simp [*]; done) | (simp [isE_ne, *]; done), HT.out⟩
    | [a], hl, hlc, h =>
      obtain ⟨ad, rfl, hq⟩ := cells_at hl (by simp)
      have HQ := Aside0.mk hq
      clear hq
      simp only [List.length_cons, List.length_nil] at hlc
      have q0w : World.cell? w ad = some (.string a) := (by have e_ := HQ.out w HT.out.below 0 a rfl; rwa [add0] at e_)
      have k4w := HT.out.c4_
      have f4w := HT.out.fz 4
      simp only [tShort] at h
      simp only [Option.some.injEq, Prod.mk.injEq] at h
      obtain ⟨rfl, rfl, rfl, rfl⟩ := h
      go_enter Tryd.func17, Tryd.ntmps17
      go_wp2
      all_goals
        go_ret2
        exact ⟨by first | rfl | (simp [*]; done) | (simp [isE_ne, *]; done), HT.out⟩
    | [a, b], hl, hlc, h =>
      obtain ⟨ad, rfl, hq⟩ := cells_at hl (by simp)
      have HQ := Aside0.mk hq
      clear hq
      simp only [List.length_cons, List.length_nil] at hlc
      have q0w : World.cell? w ad = some (.string a) := (by have e_ := HQ.out w HT.out.below 0 a rfl; rwa [add0] at e_)
      have q1w : World.cell? w ⟨ad.block, ad.off + 1, none⟩ = some (.string b) := (by have e_ := HQ.out w HT.out.below 1 b rfl; rwa [addS _ _ (by decide)] at e_)
      have k4w := HT.out.c4_
      have f4w := HT.out.fz 4
      simp only [tShort] at h
      by_cases d1 : a.toList = [33]
      · rw [if_pos d1] at h
        simp only [Option.some.injEq, Prod.mk.injEq] at h
        obtain ⟨rfl, rfl, rfl, rfl⟩ := h
        have bd1 : (a.toList == ([33] : List UInt8)) = true := beq_iff_eq.mpr d1
        go_enter Tryd.func17, Tryd.ntmps17
        go_wp2
        all_goals
          go_ret2
          exact ⟨by first | rfl | (simp [*]; done) | (simp [isE_ne, *]; done), HT.out⟩
      rw [if_neg d1] at h
      have bd1 : (a.toList == ([33] : List UInt8)) = false := beq_eq_false_iff_ne.mpr d1
      by_cases d2 : uB a = true
      · rw [if_pos d2] at h
        obtain ⟨v, hv, h⟩ := Option.bind_eq_some_iff.1 h
        simp only [Option.some.injEq, Prod.mk.injEq] at h
        obtain ⟨rfl, rfl, rfl, rfl⟩ := h
        have HV := Aside0.mk hv
        clear hv
        go_enter Tryd.func17, Tryd.ntmps17
        go_wp2_with (first
          | (go_at_call 24; (with_reducible refine (uB_calls a w).mono ?_); rintro e w1 ⟨rfl, hb⟩; have HT1 := Aside0.mk (HT.out.step hb); have q0w1 : World.cell? w1 ad = some (.string a) := (by have e_ := HQ.out w1 HT1.out.below 0 a rfl; rwa [add0] at e_); have q1w1 : World.cell? w1 ⟨ad.block, ad.off + 1, none⟩ = some (.string b) := (by have e_ := HQ.out w1 HT1.out.below 1 b rfl; rwa [addS _ _ (by decide)] at e_); have k4w1 := HT1.out.c4_; have f4w1 := HT1.out.fz 4; clear hb))
        go_region_held3 (fun w' => World.cell? w' ad = some (.string a) ∧ World.cell? w' ⟨ad.block, ad.off + 1, none⟩ = some (.string b))
          (first | go_keep | exact ⟨q0w2, q1w2⟩)
          (first | (go_at_call 25; refine (tOne_calls k a b v HS.out (T29.drewN HT1.out _) HV.out).mono ?_; rintro e w2 ⟨rfl, hb⟩; have HT2 := Aside0.mk ((T29.drewN HT1.out _).step hb); have q0w2 : World.cell? w2 ad = some (.string a) := (by have e_ := HQ.out w2 HT2.out.below 0 a rfl; rwa [add0] at e_); have q1w2 : World.cell? w2 ⟨ad.block, ad.off + 1, none⟩ = some (.string b) := (by have e_ := HQ.out w2 HT2.out.below 1 b rfl; rwa [addS _ _ (by decide)] at e_); clear hb))
        go_wp2
        all_goals
          go_ret2
          exact ⟨by first | rfl | (simp [*]; done) | (simp [isE_ne, *]; done), HT2.out⟩
      · rw [if_neg d2] at h
        have d2' := Bool.eq_false_iff.mpr d2
        simp only [Option.some.injEq, Prod.mk.injEq] at h
        obtain ⟨rfl, rfl, rfl, rfl⟩ := h
        go_enter Tryd.func17, Tryd.ntmps17
        go_wp2_with (first
          | (go_at_call 24; (with_reducible refine (uB_calls a w).mono ?_); rintro e w1 ⟨rfl, hb⟩; have HT1 := Aside0.mk (HT.out.step hb); have q0w1 : World.cell? w1 ad = some (.string a) := (by have e_ := HQ.out w1 HT1.out.below 0 a rfl; rwa [add0] at e_); have q1w1 : World.cell? w1 ⟨ad.block, ad.off + 1, none⟩ = some (.string b) := (by have e_ := HQ.out w1 HT1.out.below 1 b rfl; rwa [addS _ _ (by decide)] at e_); have k4w1 := HT1.out.c4_; have f4w1 := HT1.out.fz 4; clear hb))
        all_goals
          go_ret2
          exact ⟨by first | rfl | (simp [*]; done) | (simp [isE_ne, *]; done), HT1.out.setWrong true⟩
    | [a, b, c3], hl, hlc, h =>
      obtain ⟨ad, rfl, hq⟩ := cells_at hl (by simp)
      have HQ := Aside0.mk hq
      clear hq
      simp only [List.length_cons, List.length_nil] at hlc
      have q0w : World.cell? w ad = some (.string a) := (by have e_ := HQ.out w HT.out.below 0 a rfl; rwa [add0] at e_)
      have q1w : World.cell? w ⟨ad.block, ad.off + 1, none⟩ = some (.string b) := (by have e_ := HQ.out w HT.out.below 1 b rfl; rwa [addS _ _ (by decide)] at e_)
      have q2w : World.cell? w ⟨ad.block, ad.off + 2, none⟩ = some (.string c3) := (by have e_ := HQ.out w HT.out.below 2 c3 rfl; rwa [addS _ _ (by decide)] at e_)
      have k4w := HT.out.c4_
      have f4w := HT.out.fz 4
      simp only [tShort] at h
      by_cases d1 : bB b = true
      · rw [if_pos d1] at h
        obtain ⟨⟨v1, v2⟩, hv, h⟩ := Option.bind_eq_some_iff.1 h
        simp only [Option.some.injEq, Prod.mk.injEq] at h
        obtain ⟨rfl, rfl, rfl, rfl⟩ := h
        have HV := Aside0.mk hv
        clear hv
        go_enter Tryd.func17, Tryd.ntmps17
        go_wp2_with (first
          | (go_at_call 26; (with_reducible refine (bB_calls b w).mono ?_); rintro e w1 ⟨rfl, hb⟩; have HT1 := Aside0.mk (HT.out.step hb); have q0w1 : World.cell? w1 ad = some (.string a) := (by have e_ := HQ.out w1 HT1.out.below 0 a rfl; rwa [add0] at e_); have q1w1 : World.cell? w1 ⟨ad.block, ad.off + 1, none⟩ = some (.string b) := (by have e_ := HQ.out w1 HT1.out.below 1 b rfl; rwa [addS _ _ (by decide)] at e_); have q2w1 : World.cell? w1 ⟨ad.block, ad.off + 2, none⟩ = some (.string c3) := (by have e_ := HQ.out w1 HT1.out.below 2 c3 rfl; rwa [addS _ _ (by decide)] at e_); have k4w1 := HT1.out.c4_; have f4w1 := HT1.out.fz 4; clear hb))
        go_region_held3 (fun w' => World.cell? w' ad = some (.string a) ∧ World.cell? w' ⟨ad.block, ad.off + 1, none⟩ = some (.string b) ∧ World.cell? w' ⟨ad.block, ad.off + 2, none⟩ = some (.string c3))
          (first | go_keep | exact ⟨q0w2, q1w2, q2w2⟩)
          (first | (go_at_call 27; refine (tTwo_calls k a b c3 v1 v2 (T29.drewN HT1.out _) HV.out).mono ?_; rintro e w2 ⟨rfl, ht⟩; have HT2 := Aside0.mk ht; have q0w2 : World.cell? w2 ad = some (.string a) := (by have e_ := HQ.out w2 HT2.out.below 0 a rfl; rwa [add0] at e_); have q1w2 : World.cell? w2 ⟨ad.block, ad.off + 1, none⟩ = some (.string b) := (by have e_ := HQ.out w2 HT2.out.below 1 b rfl; rwa [addS _ _ (by decide)] at e_); have q2w2 : World.cell? w2 ⟨ad.block, ad.off + 2, none⟩ = some (.string c3) := (by have e_ := HQ.out w2 HT2.out.below 2 c3 rfl; rwa [addS _ _ (by decide)] at e_); clear ht))
        go_wp2
        all_goals
          go_ret2
          exact ⟨by first | rfl | (simp [*]; done) | (simp [isE_ne, *]; done), HT2.out⟩
      rw [if_neg d1] at h
      have d1' := Bool.eq_false_iff.mpr d1
      by_cases d2 : b.toList = [45, 97]
      · rw [if_pos d2] at h
        simp only [Option.some.injEq, Prod.mk.injEq] at h
        obtain ⟨rfl, rfl, rfl, rfl⟩ := h
        have bd2 : (b.toList == ([45, 97] : List UInt8)) = true := beq_iff_eq.mpr d2
        go_enter Tryd.func17, Tryd.ntmps17
        go_wp2_with (first
          | (go_at_call 26; (with_reducible refine (bB_calls b w).mono ?_); rintro e w1 ⟨rfl, hb⟩; have HT1 := Aside0.mk (HT.out.step hb); have q0w1 : World.cell? w1 ad = some (.string a) := (by have e_ := HQ.out w1 HT1.out.below 0 a rfl; rwa [add0] at e_); have q1w1 : World.cell? w1 ⟨ad.block, ad.off + 1, none⟩ = some (.string b) := (by have e_ := HQ.out w1 HT1.out.below 1 b rfl; rwa [addS _ _ (by decide)] at e_); have q2w1 : World.cell? w1 ⟨ad.block, ad.off + 2, none⟩ = some (.string c3) := (by have e_ := HQ.out w1 HT1.out.below 2 c3 rfl; rwa [addS _ _ (by decide)] at e_); have k4w1 := HT1.out.c4_; have f4w1 := HT1.out.fz 4; clear hb))
        all_goals
          go_ret2
          exact ⟨by first | rfl | (simp [*]; done) | (simp [isE_ne, *]; done), HT1.out⟩
      rw [if_neg d2] at h
      have bd2 : (b.toList == ([45, 97] : List UInt8)) = false := beq_eq_false_iff_ne.mpr d2
      by_cases d3 : b.toList = [45, 111]
      · rw [if_pos d3] at h
        simp only [Option.some.injEq, Prod.mk.injEq] at h
        obtain ⟨rfl, rfl, rfl, rfl⟩ := h
        have bd3 : (b.toList == ([45, 111] : List UInt8)) = true := beq_iff_eq.mpr d3
        go_enter Tryd.func17, Tryd.ntmps17
        go_wp2_with (first
          | (go_at_call 26; (with_reducible refine (bB_calls b w).mono ?_); rintro e w1 ⟨rfl, hb⟩; have HT1 := Aside0.mk (HT.out.step hb); have q0w1 : World.cell? w1 ad = some (.string a) := (by have e_ := HQ.out w1 HT1.out.below 0 a rfl; rwa [add0] at e_); have q1w1 : World.cell? w1 ⟨ad.block, ad.off + 1, none⟩ = some (.string b) := (by have e_ := HQ.out w1 HT1.out.below 1 b rfl; rwa [addS _ _ (by decide)] at e_); have q2w1 : World.cell? w1 ⟨ad.block, ad.off + 2, none⟩ = some (.string c3) := (by have e_ := HQ.out w1 HT1.out.below 2 c3 rfl; rwa [addS _ _ (by decide)] at e_); have k4w1 := HT1.out.c4_; have f4w1 := HT1.out.fz 4; clear hb))
        all_goals
          go_ret2
          exact ⟨by first | rfl | (simp [*]; done) | (simp [isE_ne, *]; done), HT1.out⟩
      rw [if_neg d3] at h
      have bd3 : (b.toList == ([45, 111] : List UInt8)) = false := beq_eq_false_iff_ne.mpr d3
      by_cases d4 : a.toList = [33]
      · rw [if_pos d4] at h
        obtain ⟨⟨v1, v2, v3, v4⟩, hv, h⟩ := Option.bind_eq_some_iff.1 h
        simp only [Option.some.injEq, Prod.mk.injEq] at h
        obtain ⟨rfl, rfl, rfl, rfl⟩ := h
        have HV := Aside0.mk hv
        have HC : Aside0 (Kd.C Kd.string w0 (some ⟨ad.block, ad.off + 1, none⟩) ([b, c3] : List ByteArray).length [b, c3]) := ⟨by have e_ := cut_at (m := 1) hl (by simp) (by simpa using hlc); rw [addS _ _ (by decide)] at e_; exact e_⟩
        have HL := Aside0.mk hlc
        have e1 : (c = 1) = False := eq_false (by omega)
        clear hv
        have bd4 : (a.toList == ([33] : List UInt8)) = true := beq_iff_eq.mpr d4
        go_enter Tryd.func17, Tryd.ntmps17
        go_wp2_with (first
          | (go_at_call 26; (with_reducible refine (bB_calls b w).mono ?_); rintro e w1 ⟨rfl, hb⟩; have HT1 := Aside0.mk (HT.out.step hb); have q0w1 : World.cell? w1 ad = some (.string a) := (by have e_ := HQ.out w1 HT1.out.below 0 a rfl; rwa [add0] at e_); have q1w1 : World.cell? w1 ⟨ad.block, ad.off + 1, none⟩ = some (.string b) := (by have e_ := HQ.out w1 HT1.out.below 1 b rfl; rwa [addS _ _ (by decide)] at e_); have q2w1 : World.cell? w1 ⟨ad.block, ad.off + 2, none⟩ = some (.string c3) := (by have e_ := HQ.out w1 HT1.out.below 2 c3 rfl; rwa [addS _ _ (by decide)] at e_); have k4w1 := HT1.out.c4_; have f4w1 := HT1.out.fz 4; clear hb)
          | (go_at_call 17; refine (IH.out [b, c3] (some ⟨ad.block, ad.off + 1, none⟩) (c - 1) _ at_ wr bd _ _ _ _ HC.out (by have := HL.out; simp; omega) HT1.out HV.out).mono ?_; rintro e w2 ⟨rfl, ht⟩; have HT2 := Aside0.mk ht; clear ht))
        all_goals
          go_ret2
          exact ⟨by first | rfl | (simp [*]; done) | (simp [isE_ne, *]; done), HT2.out⟩
      rw [if_neg d4] at h
      have bd4 : (a.toList == ([33] : List UInt8)) = false := beq_eq_false_iff_ne.mpr d4
      by_cases d5 : a.toList = [40] ∧ c3.toList = [41]
      · rw [if_pos d5] at h
        obtain ⟨d5, d6⟩ := d5
        simp only [Option.some.injEq, Prod.mk.injEq] at h
        obtain ⟨rfl, rfl, rfl, rfl⟩ := h
        have bd5 : (a.toList == ([40] : List UInt8)) = true := beq_iff_eq.mpr d5
        have bd6 : (c3.toList == ([41] : List UInt8)) = true := beq_iff_eq.mpr d6
        go_enter Tryd.func17, Tryd.ntmps17
        go_wp2_with (first
          | (go_at_call 26; (with_reducible refine (bB_calls b w).mono ?_); rintro e w1 ⟨rfl, hb⟩; have HT1 := Aside0.mk (HT.out.step hb); have q0w1 : World.cell? w1 ad = some (.string a) := (by have e_ := HQ.out w1 HT1.out.below 0 a rfl; rwa [add0] at e_); have q1w1 : World.cell? w1 ⟨ad.block, ad.off + 1, none⟩ = some (.string b) := (by have e_ := HQ.out w1 HT1.out.below 1 b rfl; rwa [addS _ _ (by decide)] at e_); have q2w1 : World.cell? w1 ⟨ad.block, ad.off + 2, none⟩ = some (.string c3) := (by have e_ := HQ.out w1 HT1.out.below 2 c3 rfl; rwa [addS _ _ (by decide)] at e_); have k4w1 := HT1.out.c4_; have f4w1 := HT1.out.fz 4; clear hb))
        all_goals
          go_ret2
          exact ⟨by first | rfl | (simp [*]; done) | (simp [isE_ne, *]; done), HT1.out⟩
      rw [if_neg d5] at h
      simp only [Option.some.injEq, Prod.mk.injEq] at h
      obtain ⟨rfl, rfl, rfl, rfl⟩ := h
      by_cases d6 : a.toList = [40]
      · have d7 : ¬ c3.toList = [41] := fun e => d5 ⟨d6, e⟩
        have bd6 : (a.toList == ([40] : List UInt8)) = true := beq_iff_eq.mpr d6
        have bd7 : (c3.toList == ([41] : List UInt8)) = false := beq_eq_false_iff_ne.mpr d7
        go_enter Tryd.func17, Tryd.ntmps17
        go_wp2_with (first
          | (go_at_call 26; (with_reducible refine (bB_calls b w).mono ?_); rintro e w1 ⟨rfl, hb⟩; have HT1 := Aside0.mk (HT.out.step hb); have q0w1 : World.cell? w1 ad = some (.string a) := (by have e_ := HQ.out w1 HT1.out.below 0 a rfl; rwa [add0] at e_); have q1w1 : World.cell? w1 ⟨ad.block, ad.off + 1, none⟩ = some (.string b) := (by have e_ := HQ.out w1 HT1.out.below 1 b rfl; rwa [addS _ _ (by decide)] at e_); have q2w1 : World.cell? w1 ⟨ad.block, ad.off + 2, none⟩ = some (.string c3) := (by have e_ := HQ.out w1 HT1.out.below 2 c3 rfl; rwa [addS _ _ (by decide)] at e_); have k4w1 := HT1.out.c4_; have f4w1 := HT1.out.fz 4; clear hb))
        all_goals
          go_ret2
          exact ⟨by first | rfl | (simp [*]; done) | (simp [isE_ne, *]; done), HT1.out.setWrong true⟩
      · skip
        have bd6 : (a.toList == ([40] : List UInt8)) = false := beq_eq_false_iff_ne.mpr d6
        go_enter Tryd.func17, Tryd.ntmps17
        go_wp2_with (first
          | (go_at_call 26; (with_reducible refine (bB_calls b w).mono ?_); rintro e w1 ⟨rfl, hb⟩; have HT1 := Aside0.mk (HT.out.step hb); have q0w1 : World.cell? w1 ad = some (.string a) := (by have e_ := HQ.out w1 HT1.out.below 0 a rfl; rwa [add0] at e_); have q1w1 : World.cell? w1 ⟨ad.block, ad.off + 1, none⟩ = some (.string b) := (by have e_ := HQ.out w1 HT1.out.below 1 b rfl; rwa [addS _ _ (by decide)] at e_); have q2w1 : World.cell? w1 ⟨ad.block, ad.off + 2, none⟩ = some (.string c3) := (by have e_ := HQ.out w1 HT1.out.below 2 c3 rfl; rwa [addS _ _ (by decide)] at e_); have k4w1 := HT1.out.c4_; have f4w1 := HT1.out.fz 4; clear hb))
        all_goals
          go_ret2
          exact ⟨by first | rfl | (simp [*]; done) | (simp [isE_ne, *]; done), HT1.out.setWrong true⟩
    | [a, b, c3, d], hl, hlc, h =>
      obtain ⟨ad, rfl, hq⟩ := cells_at hl (by simp)
      have HQ := Aside0.mk hq
      clear hq
      simp only [List.length_cons, List.length_nil] at hlc
      have q0w : World.cell? w ad = some (.string a) := (by have e_ := HQ.out w HT.out.below 0 a rfl; rwa [add0] at e_)
      have q1w : World.cell? w ⟨ad.block, ad.off + 1, none⟩ = some (.string b) := (by have e_ := HQ.out w HT.out.below 1 b rfl; rwa [addS _ _ (by decide)] at e_)
      have q2w : World.cell? w ⟨ad.block, ad.off + 2, none⟩ = some (.string c3) := (by have e_ := HQ.out w HT.out.below 2 c3 rfl; rwa [addS _ _ (by decide)] at e_)
      have q3w : World.cell? w ⟨ad.block, ad.off + 3, none⟩ = some (.string d) := (by have e_ := HQ.out w HT.out.below 3 d rfl; rwa [addS _ _ (by decide)] at e_)
      have k4w := HT.out.c4_
      have f4w := HT.out.fz 4
      simp only [tShort] at h
      by_cases d4 : a.toList = [33]
      · rw [if_pos d4] at h
        obtain ⟨⟨v1, v2, v3, v4⟩, hv, h⟩ := Option.bind_eq_some_iff.1 h
        simp only [Option.some.injEq, Prod.mk.injEq] at h
        obtain ⟨rfl, rfl, rfl, rfl⟩ := h
        have HV := Aside0.mk hv
        have HC : Aside0 (Kd.C Kd.string w0 (some ⟨ad.block, ad.off + 1, none⟩) ([b, c3, d] : List ByteArray).length [b, c3, d]) := ⟨by have e_ := cut_at (m := 1) hl (by simp) (by simpa using hlc); rw [addS _ _ (by decide)] at e_; exact e_⟩
        have HL := Aside0.mk hlc
        have e1 : (c = 1) = False := eq_false (by omega)
        clear hv
        have bd4 : (a.toList == ([33] : List UInt8)) = true := beq_iff_eq.mpr d4
        go_enter Tryd.func17, Tryd.ntmps17
        go_wp2_with (first
          | (go_at_call 17; refine (IH.out [b, c3, d] (some ⟨ad.block, ad.off + 1, none⟩) (c - 1) _ at_ wr bd _ _ _ _ HC.out (by have := HL.out; simp; omega) HT.out HV.out).mono ?_; rintro e w2 ⟨rfl, ht⟩; have HT2 := Aside0.mk ht; clear ht))
        all_goals
          go_ret2
          exact ⟨by first | rfl | (simp [*]; done) | (simp [isE_ne, *]; done), HT2.out⟩
      rw [if_neg d4] at h
      have bd4 : (a.toList == ([33] : List UInt8)) = false := beq_eq_false_iff_ne.mpr d4
      by_cases d5 : a.toList = [40] ∧ d.toList = [41]
      · rw [if_pos d5] at h
        obtain ⟨d5, d6⟩ := d5
        have HV := Aside0.mk h
        have HC : Aside0 (Kd.C Kd.string w0 (some ⟨ad.block, ad.off + 1, none⟩) ([b, c3] : List ByteArray).length [b, c3]) := ⟨by have e_ := Kd.C_take (m := 2) (cut_at (m := 1) hl (by simp) (by simpa using hlc)) (by simp); rw [addS _ _ (by decide)] at e_; exact e_⟩
        have HL := Aside0.mk hlc
        have e1 : (c = 1) = False := eq_false (by omega)
        clear h
        have bd5 : (a.toList == ([40] : List UInt8)) = true := beq_iff_eq.mpr d5
        have bd6 : (d.toList == ([41] : List UInt8)) = true := beq_iff_eq.mpr d6
        go_enter Tryd.func17, Tryd.ntmps17
        go_wp2_with (first
          | (go_at_call 17; refine (IH.out [b, c3] (some ⟨ad.block, ad.off + 1, none⟩) (c - 1) _ at_ wr bd _ _ _ _ HC.out (by have := HL.out; simp; omega) HT.out HV.out).mono ?_; rintro e w2 ⟨rfl, ht⟩; have HT2 := Aside0.mk ht; clear ht))
        all_goals
          go_ret2
          exact ⟨by first | rfl | (simp [*]; done) | (simp [isE_ne, *]; done), HT2.out⟩
      rw [if_neg d5] at h
      simp only [Option.some.injEq, Prod.mk.injEq] at h
      obtain ⟨rfl, rfl, rfl, rfl⟩ := h
      by_cases d6 : a.toList = [40]
      · have d7 : ¬ d.toList = [41] := fun e => d5 ⟨d6, e⟩
        have bd6 : (a.toList == ([40] : List UInt8)) = true := beq_iff_eq.mpr d6
        have bd7 : (d.toList == ([41] : List UInt8)) = false := beq_eq_false_iff_ne.mpr d7
        go_enter Tryd.func17, Tryd.ntmps17
        go_wp2
        all_goals
          go_ret2
          exact ⟨by first | rfl | (simp [*]; done) | (simp [isE_ne, *]; done), HT.out⟩
      · skip
        have bd6 : (a.toList == ([40] : List UInt8)) = false := beq_eq_false_iff_ne.mpr d6
        go_enter Tryd.func17, Tryd.ntmps17
        go_wp2
        all_goals
          go_ret2
          exact ⟨by first | rfl | (simp [*]; done) | (simp [isE_ne, *]; done), HT.out⟩
    | a :: b :: c3 :: d :: e5 :: t, hl, hlc, h =>
      have l0 : ((((a :: b :: c3 :: d :: e5 :: t).length : Nat) : Int) == 0) = false := beq_eq_false_iff_ne.mpr (by simp only [List.length_cons]; omega)
      have l1 : ((((a :: b :: c3 :: d :: e5 :: t).length : Nat) : Int) == 1) = false := beq_eq_false_iff_ne.mpr (by simp only [List.length_cons]; omega)
      have l2 : ((((a :: b :: c3 :: d :: e5 :: t).length : Nat) : Int) == 2) = false := beq_eq_false_iff_ne.mpr (by simp only [List.length_cons]; omega)
      have l3 : ((((a :: b :: c3 :: d :: e5 :: t).length : Nat) : Int) == 3) = false := beq_eq_false_iff_ne.mpr (by simp only [List.length_cons]; omega)
      have l4 : ((((a :: b :: c3 :: d :: e5 :: t).length : Nat) : Int) == 4) = false := beq_eq_false_iff_ne.mpr (by simp only [List.length_cons]; omega)
      simp only [tShort] at h
      simp only [Option.some.injEq, Prod.mk.injEq] at h
      obtain ⟨rfl, rfl, rfl, rfl⟩ := h
      generalize (a :: b :: c3 :: d :: e5 :: t).length = m at *
      go_enter Tryd.func17, Tryd.ntmps17
      go_wp2
      all_goals
        go_ret2
        exact ⟨by first | rfl | (simp [*]; done) | (simp [isE_ne, *]; done), HT.out⟩
end
end Go.Proofs.YtoeiohfljaboaaaDoor.F
set_option linter.unusedVariables false
set_option linter.unusedSimpArgs false
namespace Go.Proofs.YtoeiohfljaboaaaDoor.F
open Go.RowKit Go.Proofs.YtoeiohfljaboaaaDoorW.PrintWords Go.Proofs.YtoeiohfljaboaaaDoorW.PrintLast Go.Proofs.YtoeiohfljaboaaaDoorW.PrintMore Go.Proofs.YtoeiohfljaboaaaDoor.Aid
mutual
def pNot (k : Nat) (fs : List S_File) (cwd : ByteArray) (args : List ByteArray) : Nat → Nat → Bool → Bool → Option (Bool × Nat × Bool × Bool)
  | 0, _, _, _ => none
  | n + 1, i, wr, bd => if args.length < i then none else match args.drop i with
    | [] => some (false, i, true, bd)
    | [a] => if a.toList = [40] then (pOr k fs cwd args n (i + 1) wr bd).bind fun v => (if v.2.1 < args.length ∧ (args.getD v.2.1 ByteArray.empty).toList = [41] then some (v.1, v.2.1 + 1, v.2.2.1, v.2.2.2) else some (false, v.2.1, true, v.2.2.2))
      else some (a.toList != ([] : List UInt8), i + 1, wr, bd)
    | a :: b :: r => if 1 ≤ r.length ∧ bB b = true then (tTwo k a b (r.getD 0 ByteArray.empty) bd).bind fun v => some (v.1, i + 3, wr, v.2)
      else if a.toList = [33] then (pNot k fs cwd args n (i + 1) wr bd).bind fun v => some (!v.1, v.2.1, v.2.2.1, v.2.2.2)
      else if a.toList = [40] then (pOr k fs cwd args n (i + 1) wr bd).bind fun v => (if v.2.1 < args.length ∧ (args.getD v.2.1 ByteArray.empty).toList = [41] then some (v.1, v.2.1 + 1, v.2.2.1, v.2.2.2) else some (false, v.2.1, true, v.2.2.2))
      else if uB a = true then (tOne k fs cwd a b).bind fun v => some (v, i + 2, wr, bd)
      else some (a.toList != ([] : List UInt8), i + 1, wr, bd)
def pAnd (k : Nat) (fs : List S_File) (cwd : ByteArray) (args : List ByteArray) : Nat → Nat → Bool → Bool → Option (Bool × Nat × Bool × Bool)
  | 0, _, _, _ => none
  | n + 1, i, wr, bd => (pNot k fs cwd args n i wr bd).bind fun v => pAndL k fs cwd args n v.1 v.2.1 v.2.2.1 v.2.2.2
def pAndL (k : Nat) (fs : List S_File) (cwd : ByteArray) (args : List ByteArray) : Nat → Bool → Nat → Bool → Bool → Option (Bool × Nat × Bool × Bool)
  | 0, _, _, _, _ => none
  | n + 1, v, i, wr, bd => if i < args.length ∧ (args.getD i ByteArray.empty).toList = [45, 97] then (pNot k fs cwd args n (i + 1) wr bd).bind fun u => pAndL k fs cwd args n (v && u.1) u.2.1 u.2.2.1 u.2.2.2 else some (v, i, wr, bd)
def pOr (k : Nat) (fs : List S_File) (cwd : ByteArray) (args : List ByteArray) : Nat → Nat → Bool → Bool → Option (Bool × Nat × Bool × Bool)
  | 0, _, _, _ => none
  | n + 1, i, wr, bd => (pAnd k fs cwd args n i wr bd).bind fun v => pOrL k fs cwd args n v.1 v.2.1 v.2.2.1 v.2.2.2
def pOrL (k : Nat) (fs : List S_File) (cwd : ByteArray) (args : List ByteArray) : Nat → Bool → Nat → Bool → Bool → Option (Bool × Nat × Bool × Bool)
  | 0, _, _, _, _ => none
  | n + 1, v, i, wr, bd => if i < args.length ∧ (args.getD i ByteArray.empty).toList = [45, 111] then (pAnd k fs cwd args n (i + 1) wr bd).bind fun u => pOrL k fs cwd args n (v || u.1) u.2.1 u.2.2.1 u.2.2.2 else some (v, i, wr, bd)
end
theorem set_far {W : World} {g : Nat} {p : Addr} {v : Value} (h : W.cell? p = some v) (hp : p.block ≠ g) (j : Nat) (u : Value) : (W.setCell ⟨g, j, none⟩ u).cell? p = some v := by
  rw [← h]
  exact World.cell?_setCell_other W ⟨g, j, none⟩ p u (by rintro e; first | (rw [e] at hp; exact hp rfl) | (rw [← e] at hp; exact hp rfl))
theorem cell_lt {w : World} {p : Addr} {v : Value} (h : w.cell? p = some v) : p.block < w.heap.size := by
  rcases Nat.lt_or_ge p.block w.heap.size with h1 | h1
  · exact h1
  · have : w.heap[p.block]? = none := by rw [Array.getElem?_eq_none_iff]; omega
    simp [World.cell?, this] at h
theorem T29.at_eq {w0 w : World} {g : Nat} {A0 : Option Addr} {c0 n0 : Nat} {A2 : Option Addr} {c2 n2 : Nat} {cwd : ByteArray} {x y : Int} {wr bd : Bool} (h : T29 w0 w g A0 c0 n0 A2 c2 n2 cwd x wr bd) (e : x = y) : T29 w0 w g A0 c0 n0 A2 c2 n2 cwd y wr bd := e ▸ h
section
variable {w0 : World} {g : Nat} {A0 : Option Addr} {c0 : Nat} {args : List ByteArray} {A2 : Option Addr} {c2 : Nat} {fs : List S_File} {cwd : ByteArray}
def Owes (w0 : World) (g : Nat) (A0 : Option Addr) (c0 : Nat) (args : List ByteArray) (A2 : Option Addr) (c2 : Nat) (fs : List S_File) (cwd : ByteArray) (f : Nat) (p : Nat → Bool → Bool → Option (Bool × Nat × Bool × Bool)) : Prop :=
  ∀ (w : World) (i : Nat) (wr bd r1 : Bool) (i2 : Nat) (r3 r4 : Bool), i ≤ args.length → T29 w0 w g A0 c0 args.length A2 c2 fs.length cwd i wr bd → p i wr bd = some (r1, i2, r3, r4) →
    Calls Tryd.prog f #[.pointer (some ⟨g, 0, none⟩)] w fun e w' => e = .returned (.bool r1) ∧ i2 ≤ args.length ∧ T29 w0 w' g A0 c0 args.length A2 c2 fs.length cwd i2 r3 r4
set_option maxHeartbeats 16000000 in
set_option maxRecDepth 100000 in
theorem pNot_owes (k : Nat) (hS : TS w0 A0 c0 args A2 c2 fs) (hn : args.length ≤ 1000000) (n : Nat) (hN : Owes w0 g A0 c0 args A2 c2 fs cwd 42 (pNot k fs cwd args n)) (hO : Owes w0 g A0 c0 args A2 c2 fs cwd 18 (pOr k fs cwd args n)) :
    Owes w0 g A0 c0 args A2 c2 fs cwd 42 (pNot k fs cwd args (n + 1)) := by
  intro w i wr bd r1 i2 r3 r4 hi hT h
  have HS := Aside0.mk hS
  have HT := Aside0.mk hT
  have HN := Aside0.mk hN
  have HO := Aside0.mk hO
  have k0 := hT.c0_
  have k1 := hT.c1_
  have k4 := hT.c4_
  have f4 := hT.fz 4
  have f1 := hT.fz 1
  have hlc := hS.l0
  rw [pNot, if_neg (by omega)] at h
  clear hN hO
  by_cases hend : i = args.length
  · subst hend
    rw [List.drop_eq_nil_of_le (Nat.le_refl _)] at h
    simp only [Option.some.injEq, Prod.mk.injEq] at h
    obtain ⟨rfl, rfl, rfl, rfl⟩ := h
    have hx : T29 w0 w g A0 c0 args.length A2 c2 fs.length cwd args.length wr bd := hT
    clear HS HT hS hT
    by_cases hcc : c0 = args.length
    · subst hcc
      have HT := Aside0.mk hx
      clear hx
      go_enter Tryd.func42, Tryd.ntmps42
      go_wp2
      go_quiet (fail)
      go_wp2
      go_ret
      first | exact ⟨rfl, (T29.drewN HT.out _).setWrong true⟩ | exact ⟨rfl, Nat.le_refl _, (T29.drewN HT.out _).setWrong true⟩
    · have hcc2 := eq_false hcc
      have HT := Aside0.mk hx
      clear hx
      go_enter Tryd.func42, Tryd.ntmps42
      go_wp2
      go_quiet (fail)
      go_wp2
      go_ret
      first | exact ⟨rfl, (T29.drewN HT.out _).setWrong true⟩ | exact ⟨rfl, Nat.le_refl _, (T29.drewN HT.out _).setWrong true⟩
  have hlt : i < args.length := by omega
  obtain ⟨ad0, rfl, hq0⟩ := cells_at hS.r0 (by omega)
  obtain ⟨ad, had⟩ : ∃ ad : Addr, ad0.add i = ad := ⟨_, rfl⟩
  have hcut := cut_at hS.r0 hlt hlc
  rw [had] at hcut
  obtain ⟨a, r, hd⟩ : ∃ a r, args.drop i = a :: r := by
    cases hd : args.drop i with
    | nil => have := congrArg List.length hd; rw [List.length_drop] at this; simp at this; omega
    | cons a r => exact ⟨a, r, rfl⟩
  have hm1 : args.length - i = r.length + 1 := by have := congrArg List.length hd; rw [List.length_drop] at this; simpa using this
  obtain ⟨m, hm, hmr⟩ : ∃ m, args.length - i = m ∧ m = r.length + 1 := ⟨_, rfl, hm1⟩
  have hci : (c0 = i) = False := eq_false (by omega)
  have hci2 : (i = c0) = False := eq_false (by omega)
  rw [hd] at h hcut
  obtain ⟨ad_, e_, hq⟩ := cells_at hcut (by simp)
  obtain rfl := Option.some.inj e_
  have hq_ := Aside0.mk hq
  have HQ0 := Aside0.mk hq0
  have m0 : ((m : Int) == 0) = false := beq_eq_false_iff_ne.mpr (by omega)
  have p0 : 0 < m := by omega
  have z0 : (0 : Int) < (m : Int) := by omega
  have hw1 : wrap64 ((i : Int) + 1) = ((i + 1 : Nat) : Int) := by unfold wrap64; omega
  have hw2 : wrap64 ((i : Int) + 2) = ((i + 2 : Nat) : Int) := by unfold wrap64; omega
  have hw3 : wrap64 ((i : Int) + 3) = ((i + 3 : Nat) : Int) := by unfold wrap64; omega
  have HW1 := Aside0.mk hw1
  have HW2 := Aside0.mk hw2
  have HW3 := Aside0.mk hw3
  have HHD := Aside0.mk hd
  have HB : Aside0 (ad.block ≠ g) := ⟨by have e1 := cell_lt (hq w0 (Below.refl _ _) 0 a rfl); rw [add0] at e1; have := hT.hg; omega⟩
  clear hm1 hcut hw1 hw2 hw3 hq hq0 hd hT
  cases r with
  | nil =>
    have m2 : decide ((2 : Int) ≤ (m : Int)) = false := decide_eq_false (by rw [hmr]; simp)
    have m3 : decide ((3 : Int) ≤ (m : Int)) = false := decide_eq_false (by rw [hmr]; simp)
    have q0w : World.cell? w ad = some (.string a) := (by have e_ := hq_.out w HT.out.below 0 a rfl; rwa [add0] at e_)
    have s0w := set_far q0w HB.out
    have s0d := fun nq => set_far (W := w.drewN nq) (show World.cell? (w.drewN nq) ad = some (.string a) from q0w) HB.out
    clear hmr
    dsimp only at h
    by_cases d1 : a.toList = [40]
    · rw [if_pos d1] at h
      have bd1 : (a.toList == ([40] : List UInt8)) = true := beq_iff_eq.mpr d1
      obtain ⟨⟨v1, v2, v3, v4⟩, hv, h⟩ := Option.bind_eq_some_iff.1 h
      have HV := Aside0.mk hv
      have H := Aside0.mk h
      clear hv h
      go_enter Tryd.func42, Tryd.ntmps42
      go_wp2
      go_quiet (fail)
      go_wp2_with (first
        | (go_at_call 18; refine (HO.out _ (i + 1) wr bd v1 v2 v3 v4 (by omega) (T29.at_eq (((T29.drewN HT.out _)).setAt _) (by first | exact HW1.out | rfl | omega)) HV.out).mono ?_; rintro e w2 ⟨rfl, hle, ht⟩; have HT2 := Aside0.mk ht; have HLE := Aside0.mk hle; have k0w2 := HT2.out.c0_; have k1w2 := HT2.out.c1_; have k4w2 := HT2.out.c4_; have f1w2 := HT2.out.fz 1; have f4w2 := HT2.out.fz 4; clear ht hle))
      have h := H.out
      clear H
      try simp only at h
      have hle := HLE.out
      by_cases hv2 : v2 < args.length
      · have hx2 := HQ0.out w2 HT2.out.below v2 (args.getD v2 ByteArray.empty) (by rw [List.getD_eq_getElem?_getD, List.getElem?_eq_getElem hv2]; rfl)
        have g1 : decide ((args.length : Int) ≤ (v2 : Int)) = false := decide_eq_false (by omega)
        have g2 : decide (args.length ≤ v2) = false := decide_eq_false (by omega)
        generalize args.getD v2 ByteArray.empty = x2 at hx2 h
        by_cases dx : x2.toList = [41]
        · rw [if_pos ⟨hv2, dx⟩] at h
          simp only [Option.some.injEq, Prod.mk.injEq] at h
          obtain ⟨rfl, rfl, rfl, rfl⟩ := h
          have bdx : (x2.toList == ([41] : List UInt8)) = true := beq_iff_eq.mpr dx
          have b9 : (x2.toList != ([41] : List UInt8)) = false := bne_eq_false_iff_eq.mpr dx
          go_quiet (fail)
          go_wp2
          go_ret
          first | exact ⟨rfl, (T29.at_eq ((T29.drewN HT2.out _).setAt _) (by first | rfl | (unfold wrap64; omega) | omega))⟩ | exact ⟨rfl, (by omega), (T29.at_eq ((T29.drewN HT2.out _).setAt _) (by first | rfl | (unfold wrap64; omega) | omega))⟩ | exact ⟨by first | rfl | (simp [*]; done) | (simp [isE_ne, *]; done), (by omega), (T29.at_eq ((T29.drewN HT2.out _).setAt _) (by first | rfl | (unfold wrap64; omega) | omega))⟩ | exact ⟨by first | rfl | (simp [*]; done) | (simp [isE_ne, *]; done), (T29.at_eq ((T29.drewN HT2.out _).setAt _) (by first | rfl | (unfold wrap64; omega) | omega))⟩
        · rw [if_neg (fun e => dx e.2)] at h
          simp only [Option.some.injEq, Prod.mk.injEq] at h
          obtain ⟨rfl, rfl, rfl, rfl⟩ := h
          have bdx : (x2.toList == ([41] : List UInt8)) = false := beq_eq_false_iff_ne.mpr dx
          have b9 : (x2.toList != ([41] : List UInt8)) = true := bne_iff_ne.mpr dx
          go_quiet (fail)
          go_wp2
          go_ret
          first | exact ⟨rfl, (T29.drewN HT2.out _).setWrong true⟩ | exact ⟨rfl, (by omega), (T29.drewN HT2.out _).setWrong true⟩ | exact ⟨by first | rfl | (simp [*]; done) | (simp [isE_ne, *]; done), (by omega), (T29.drewN HT2.out _).setWrong true⟩ | exact ⟨by first | rfl | (simp [*]; done) | (simp [isE_ne, *]; done), (T29.drewN HT2.out _).setWrong true⟩
      · rw [if_neg (fun e => hv2 e.1)] at h
        simp only [Option.some.injEq, Prod.mk.injEq] at h
        obtain ⟨rfl, rfl, rfl, rfl⟩ := h
        have g1 : decide ((args.length : Int) ≤ (v2 : Int)) = true := decide_eq_true (by omega)
        have g2 : decide (args.length ≤ v2) = true := decide_eq_true (by omega)
        go_quiet (fail)
        go_wp2
        go_ret
        first | exact ⟨rfl, (T29.drewN HT2.out _).setWrong true⟩ | exact ⟨rfl, (by omega), (T29.drewN HT2.out _).setWrong true⟩ | exact ⟨by first | rfl | (simp [*]; done) | (simp [isE_ne, *]; done), (by omega), (T29.drewN HT2.out _).setWrong true⟩ | exact ⟨by first | rfl | (simp [*]; done) | (simp [isE_ne, *]; done), (T29.drewN HT2.out _).setWrong true⟩
    · rw [if_neg d1] at h
      have bd1 : (a.toList == ([40] : List UInt8)) = false := beq_eq_false_iff_ne.mpr d1
      simp only [Option.some.injEq, Prod.mk.injEq] at h
      obtain ⟨rfl, rfl, rfl, rfl⟩ := h
      go_enter Tryd.func42, Tryd.ntmps42
      go_wp2
      go_quiet (fail)
      go_wp2
      all_goals
        go_ret
        first | exact ⟨rfl, (T29.at_eq (((T29.drewN HT.out _)).setAt _) (by first | exact HW1.out | rfl | omega))⟩ | exact ⟨rfl, (by omega), (T29.at_eq (((T29.drewN HT.out _)).setAt _) (by first | exact HW1.out | rfl | omega))⟩ | exact ⟨by first | rfl | (simp [*]; done) | (simp [isE_ne, *]; done), (by omega), (T29.at_eq (((T29.drewN HT.out _)).setAt _) (by first | exact HW1.out | rfl | omega))⟩ | exact ⟨by first | rfl | (simp [*]; done) | (simp [isE_ne, *]; done), (T29.at_eq (((T29.drewN HT.out _)).setAt _) (by first | exact HW1.out | rfl | omega))⟩
  | cons b r =>
    have p1 : 1 < m := by rw [hmr]; simp
    have z1 : (1 : Int) < (m : Int) := by omega
    have m2 : decide ((2 : Int) ≤ (m : Int)) = true := decide_eq_true (by omega)
    cases r with
    | nil =>
      have m3 : decide ((3 : Int) ≤ (m : Int)) = false := decide_eq_false (by rw [hmr]; simp)
      have q0w : World.cell? w ad = some (.string a) := (by have e_ := hq_.out w HT.out.below 0 a rfl; rwa [add0] at e_)
      have s0w := set_far q0w HB.out
      have s0d := fun nq => set_far (W := w.drewN nq) (show World.cell? (w.drewN nq) ad = some (.string a) from q0w) HB.out
      have q1w : World.cell? w ⟨ad.block, ad.off + 1, none⟩ = some (.string b) := (by have e_ := hq_.out w HT.out.below 1 b rfl; rwa [addS _ _ (by decide)] at e_)
      have s1w := set_far q1w HB.out
      have s1d := fun nq => set_far (W := w.drewN nq) (show World.cell? (w.drewN nq) ⟨ad.block, ad.off + 1, none⟩ = some (.string b) from q1w) HB.out
      clear hmr
      dsimp only at h
      rw [if_neg (fun e => absurd e.1 (by simp))] at h
      by_cases d1 : a.toList = [33]
      · rw [if_pos d1] at h
        obtain ⟨⟨v1, v2, v3, v4⟩, hv, h⟩ := Option.bind_eq_some_iff.1 h
        have HV := Aside0.mk hv
        clear hv
        simp only [Option.some.injEq, Prod.mk.injEq] at h
        obtain ⟨rfl, rfl, rfl, rfl⟩ := h
        have bd1 : (a.toList == ([33] : List UInt8)) = true := beq_iff_eq.mpr d1
        go_enter Tryd.func42, Tryd.ntmps42
        go_wp2
        go_quiet (fail)
        go_wp2_with (first
          | (go_at_call 42; refine (HN.out _ (i + 1) wr bd v1 v2 v3 v4 (by omega) (T29.at_eq (((T29.drewN HT.out _)).setAt _) (by first | exact HW1.out | rfl | omega)) HV.out).mono ?_; rintro e w2 ⟨rfl, hle, ht⟩; have HT2 := Aside0.mk ht; have HLE := Aside0.mk hle; clear ht hle))
        have hle := HLE.out
        go_ret
        first | exact ⟨rfl, HT2.out⟩ | exact ⟨rfl, (by omega), HT2.out⟩ | exact ⟨by first | rfl | (simp [*]; done) | (simp [isE_ne, *]; done), (by omega), HT2.out⟩ | exact ⟨by first | rfl | (simp [*]; done) | (simp [isE_ne, *]; done), HT2.out⟩
      rw [if_neg d1] at h
      have bd1 : (a.toList == ([33] : List UInt8)) = false := beq_eq_false_iff_ne.mpr d1
      by_cases d2 : a.toList = [40]
      · rw [if_pos d2] at h
        have bd2 : (a.toList == ([40] : List UInt8)) = true := beq_iff_eq.mpr d2
        obtain ⟨⟨v1, v2, v3, v4⟩, hv, h⟩ := Option.bind_eq_some_iff.1 h
        have HV := Aside0.mk hv
        have H := Aside0.mk h
        clear hv h
        go_enter Tryd.func42, Tryd.ntmps42
        go_wp2
        go_quiet (fail)
        go_wp2_with (first
          | (go_at_call 18; refine (HO.out _ (i + 1) wr bd v1 v2 v3 v4 (by omega) (T29.at_eq (((T29.drewN HT.out _)).setAt _) (by first | exact HW1.out | rfl | omega)) HV.out).mono ?_; rintro e w2 ⟨rfl, hle, ht⟩; have HT2 := Aside0.mk ht; have HLE := Aside0.mk hle; have k0w2 := HT2.out.c0_; have k1w2 := HT2.out.c1_; have k4w2 := HT2.out.c4_; have f1w2 := HT2.out.fz 1; have f4w2 := HT2.out.fz 4; clear ht hle))
        have h := H.out
        clear H
        try simp only at h
        have hle := HLE.out
        by_cases hv2 : v2 < args.length
        · have hx2 := HQ0.out w2 HT2.out.below v2 (args.getD v2 ByteArray.empty) (by rw [List.getD_eq_getElem?_getD, List.getElem?_eq_getElem hv2]; rfl)
          have g1 : decide ((args.length : Int) ≤ (v2 : Int)) = false := decide_eq_false (by omega)
          have g2 : decide (args.length ≤ v2) = false := decide_eq_false (by omega)
          generalize args.getD v2 ByteArray.empty = x2 at hx2 h
          by_cases dx : x2.toList = [41]
          · rw [if_pos ⟨hv2, dx⟩] at h
            simp only [Option.some.injEq, Prod.mk.injEq] at h
            obtain ⟨rfl, rfl, rfl, rfl⟩ := h
            have bdx : (x2.toList == ([41] : List UInt8)) = true := beq_iff_eq.mpr dx
            have b9 : (x2.toList != ([41] : List UInt8)) = false := bne_eq_false_iff_eq.mpr dx
            go_quiet (fail)
            go_wp2
            go_ret
            first | exact ⟨rfl, (T29.at_eq ((T29.drewN HT2.out _).setAt _) (by first | rfl | (unfold wrap64; omega) | omega))⟩ | exact ⟨rfl, (by omega), (T29.at_eq ((T29.drewN HT2.out _).setAt _) (by first | rfl | (unfold wrap64; omega) | omega))⟩ | exact ⟨by first | rfl | (simp [*]; done) | (simp [isE_ne, *]; done), (by omega), (T29.at_eq ((T29.drewN HT2.out _).setAt _) (by first | rfl | (unfold wrap64; omega) | omega))⟩ | exact ⟨by first | rfl | (simp [*]; done) | (simp [isE_ne, *]; done), (T29.at_eq ((T29.drewN HT2.out _).setAt _) (by first | rfl | (unfold wrap64; omega) | omega))⟩
          · rw [if_neg (fun e => dx e.2)] at h
            simp only [Option.some.injEq, Prod.mk.injEq] at h
            obtain ⟨rfl, rfl, rfl, rfl⟩ := h
            have bdx : (x2.toList == ([41] : List UInt8)) = false := beq_eq_false_iff_ne.mpr dx
            have b9 : (x2.toList != ([41] : List UInt8)) = true := bne_iff_ne.mpr dx
            go_quiet (fail)
            go_wp2
            go_ret
            first | exact ⟨rfl, (T29.drewN HT2.out _).setWrong true⟩ | exact ⟨rfl, (by omega), (T29.drewN HT2.out _).setWrong true⟩ | exact ⟨by first | rfl | (simp [*]; done) | (simp [isE_ne, *]; done), (by omega), (T29.drewN HT2.out _).setWrong true⟩ | exact ⟨by first | rfl | (simp [*]; done) | (simp [isE_ne, *]; done), (T29.drewN HT2.out _).setWrong true⟩
        · rw [if_neg (fun e => hv2 e.1)] at h
          simp only [Option.some.injEq, Prod.mk.injEq] at h
          obtain ⟨rfl, rfl, rfl, rfl⟩ := h
          have g1 : decide ((args.length : Int) ≤ (v2 : Int)) = true := decide_eq_true (by omega)
          have g2 : decide (args.length ≤ v2) = true := decide_eq_true (by omega)
          go_quiet (fail)
          go_wp2
          go_ret
          first | exact ⟨rfl, (T29.drewN HT2.out _).setWrong true⟩ | exact ⟨rfl, (by omega), (T29.drewN HT2.out _).setWrong true⟩ | exact ⟨by first | rfl | (simp [*]; done) | (simp [isE_ne, *]; done), (by omega), (T29.drewN HT2.out _).setWrong true⟩ | exact ⟨by first | rfl | (simp [*]; done) | (simp [isE_ne, *]; done), (T29.drewN HT2.out _).setWrong true⟩
      rw [if_neg d2] at h
      have bd2 : (a.toList == ([40] : List UInt8)) = false := beq_eq_false_iff_ne.mpr d2
      by_cases d3 : uB a = true
      · rw [if_pos d3] at h
        obtain ⟨v, hv, h⟩ := Option.bind_eq_some_iff.1 h
        have HV := Aside0.mk hv
        clear hv
        simp only [Option.some.injEq, Prod.mk.injEq] at h
        obtain ⟨rfl, rfl, rfl, rfl⟩ := h
        go_enter Tryd.func42, Tryd.ntmps42
        go_wp2
        go_quiet (fail)
        go_wp2_with (first
          | (go_at_call 24; refine (uB_calls a _).mono ?_; rintro e w3 ⟨rfl, hb⟩; have HT3 := Aside0.mk (((T29.drewN HT.out _)).step hb); have k0w3 := HT3.out.c0_; have k1w3 := HT3.out.c1_; have k4w3 := HT3.out.c4_; have f1w3 := HT3.out.fz 1; have f4w3 := HT3.out.fz 4; have q0w3 : World.cell? w3 ad = some (.string a) := (by have e_ := hq_.out w3 HT3.out.below 0 a rfl; rwa [add0] at e_); have s0w3 := set_far q0w3 HB.out; have q1w3 : World.cell? w3 ⟨ad.block, ad.off + 1, none⟩ = some (.string b) := (by have e_ := hq_.out w3 HT3.out.below 1 b rfl; rwa [addS _ _ (by decide)] at e_); have s1w3 := set_far q1w3 HB.out; clear hb))
        go_region_held3 (fun w' => World.cell? w' ad = some (.string a) ∧ World.cell? w' ⟨ad.block, ad.off + 1, none⟩ = some (.string b))
          (first | go_keep | exact ⟨s0w3 1 _, s1w3 1 _⟩ | exact ⟨q0w4, q1w4⟩)
          (first | (go_at_call 25; refine (tOne_calls k a b v HS.out (T29.drewN (T29.setAt HT3.out _) _) HV.out).mono ?_; rintro e w4 ⟨rfl, hb⟩; have HT4 := Aside0.mk ((T29.drewN (T29.setAt HT3.out _) _).step hb); have q0w4 : World.cell? w4 ad = some (.string a) := (by have e_ := hq_.out w4 HT4.out.below 0 a rfl; rwa [add0] at e_); have q1w4 : World.cell? w4 ⟨ad.block, ad.off + 1, none⟩ = some (.string b) := (by have e_ := hq_.out w4 HT4.out.below 1 b rfl; rwa [addS _ _ (by decide)] at e_); clear hb))
        go_wp2
        go_ret
        first | exact ⟨rfl, (T29.at_eq HT4.out (by first | exact HW2.out | rfl | omega))⟩ | exact ⟨rfl, (by omega), (T29.at_eq HT4.out (by first | exact HW2.out | rfl | omega))⟩ | exact ⟨by first | rfl | (simp [*]; done) | (simp [isE_ne, *]; done), (by omega), (T29.at_eq HT4.out (by first | exact HW2.out | rfl | omega))⟩ | exact ⟨by first | rfl | (simp [*]; done) | (simp [isE_ne, *]; done), (T29.at_eq HT4.out (by first | exact HW2.out | rfl | omega))⟩
      · rw [if_neg d3] at h
        have d3' := Bool.eq_false_iff.mpr d3
        simp only [Option.some.injEq, Prod.mk.injEq] at h
        obtain ⟨rfl, rfl, rfl, rfl⟩ := h
        go_enter Tryd.func42, Tryd.ntmps42
        go_wp2
        go_quiet (fail)
        go_wp2_with (first
          | (go_at_call 24; refine (uB_calls a _).mono ?_; rintro e w3 ⟨rfl, hb⟩; have HT3 := Aside0.mk (((T29.drewN HT.out _)).step hb); have k0w3 := HT3.out.c0_; have k1w3 := HT3.out.c1_; have k4w3 := HT3.out.c4_; have f1w3 := HT3.out.fz 1; have f4w3 := HT3.out.fz 4; have q0w3 : World.cell? w3 ad = some (.string a) := (by have e_ := hq_.out w3 HT3.out.below 0 a rfl; rwa [add0] at e_); have s0w3 := set_far q0w3 HB.out; have q1w3 : World.cell? w3 ⟨ad.block, ad.off + 1, none⟩ = some (.string b) := (by have e_ := hq_.out w3 HT3.out.below 1 b rfl; rwa [addS _ _ (by decide)] at e_); have s1w3 := set_far q1w3 HB.out; clear hb))
        all_goals
          go_ret
          first | exact ⟨rfl, (T29.at_eq ((HT3.out).setAt _) (by first | exact HW1.out | rfl | omega))⟩ | exact ⟨rfl, (by omega), (T29.at_eq ((HT3.out).setAt _) (by first | exact HW1.out | rfl | omega))⟩ | exact ⟨by first | rfl | (simp [*]; done) | (simp [isE_ne, *]; done), (by omega), (T29.at_eq ((HT3.out).setAt _) (by first | exact HW1.out | rfl | omega))⟩ | exact ⟨by first | rfl | (simp [*]; done) | (simp [isE_ne, *]; done), (T29.at_eq ((HT3.out).setAt _) (by first | exact HW1.out | rfl | omega))⟩
    | cons c r =>
      have p2 : 2 < m := by rw [hmr]; simp
      have z2 : (2 : Int) < (m : Int) := by omega
      have m3 : decide ((3 : Int) ≤ (m : Int)) = true := decide_eq_true (by omega)
      have q0w : World.cell? w ad = some (.string a) := (by have e_ := hq_.out w HT.out.below 0 a rfl; rwa [add0] at e_)
      have s0w := set_far q0w HB.out
      have s0d := fun nq => set_far (W := w.drewN nq) (show World.cell? (w.drewN nq) ad = some (.string a) from q0w) HB.out
      have q1w : World.cell? w ⟨ad.block, ad.off + 1, none⟩ = some (.string b) := (by have e_ := hq_.out w HT.out.below 1 b rfl; rwa [addS _ _ (by decide)] at e_)
      have s1w := set_far q1w HB.out
      have s1d := fun nq => set_far (W := w.drewN nq) (show World.cell? (w.drewN nq) ⟨ad.block, ad.off + 1, none⟩ = some (.string b) from q1w) HB.out
      have q2w : World.cell? w ⟨ad.block, ad.off + 2, none⟩ = some (.string c) := (by have e_ := hq_.out w HT.out.below 2 c rfl; rwa [addS _ _ (by decide)] at e_)
      have s2w := set_far q2w HB.out
      have s2d := fun nq => set_far (W := w.drewN nq) (show World.cell? (w.drewN nq) ⟨ad.block, ad.off + 2, none⟩ = some (.string c) from q2w) HB.out
      clear hmr
      dsimp only at h
      by_cases d0 : bB b = true
      · rw [if_pos ⟨by simp, d0⟩] at h
        obtain ⟨⟨v1, v2⟩, hv, h⟩ := Option.bind_eq_some_iff.1 h
        have HV := Aside0.mk hv
        clear hv
        simp only [List.getD_cons_zero] at HV
        simp only [Option.some.injEq, Prod.mk.injEq] at h
        obtain ⟨rfl, rfl, rfl, rfl⟩ := h
        go_enter Tryd.func42, Tryd.ntmps42
        go_wp2
        go_quiet (fail)
        go_wp2_with (first
          | (go_at_call 26; refine (bB_calls b _).mono ?_; rintro e w1 ⟨rfl, hb⟩; have HT1 := Aside0.mk (((T29.drewN HT.out _)).step hb); have k0w1 := HT1.out.c0_; have k1w1 := HT1.out.c1_; have k4w1 := HT1.out.c4_; have f1w1 := HT1.out.fz 1; have f4w1 := HT1.out.fz 4; have q0w1 : World.cell? w1 ad = some (.string a) := (by have e_ := hq_.out w1 HT1.out.below 0 a rfl; rwa [add0] at e_); have s0w1 := set_far q0w1 HB.out; have q1w1 : World.cell? w1 ⟨ad.block, ad.off + 1, none⟩ = some (.string b) := (by have e_ := hq_.out w1 HT1.out.below 1 b rfl; rwa [addS _ _ (by decide)] at e_); have s1w1 := set_far q1w1 HB.out; have q2w1 : World.cell? w1 ⟨ad.block, ad.off + 2, none⟩ = some (.string c) := (by have e_ := hq_.out w1 HT1.out.below 2 c rfl; rwa [addS _ _ (by decide)] at e_); have s2w1 := set_far q2w1 HB.out; clear hb))
        go_region_held3 (fun w' => World.cell? w' ad = some (.string a) ∧ World.cell? w' ⟨ad.block, ad.off + 1, none⟩ = some (.string b) ∧ World.cell? w' ⟨ad.block, ad.off + 2, none⟩ = some (.string c))
          (first | go_keep | exact ⟨s0w1 1 _, s1w1 1 _, s2w1 1 _⟩ | exact ⟨q0w4, q1w4, q2w4⟩)
          (first | (go_at_call 27; refine (tTwo_calls k a b c v1 v2 (T29.drewN (T29.setAt HT1.out _) _) HV.out).mono ?_; rintro e w4 ⟨rfl, ht⟩; have HT4 := Aside0.mk ht; have q0w4 : World.cell? w4 ad = some (.string a) := (by have e_ := hq_.out w4 HT4.out.below 0 a rfl; rwa [add0] at e_); have q1w4 : World.cell? w4 ⟨ad.block, ad.off + 1, none⟩ = some (.string b) := (by have e_ := hq_.out w4 HT4.out.below 1 b rfl; rwa [addS _ _ (by decide)] at e_); have q2w4 : World.cell? w4 ⟨ad.block, ad.off + 2, none⟩ = some (.string c) := (by have e_ := hq_.out w4 HT4.out.below 2 c rfl; rwa [addS _ _ (by decide)] at e_); clear ht))
        go_wp2
        go_ret
        first | exact ⟨rfl, (T29.at_eq HT4.out (by first | exact HW3.out | rfl | omega))⟩ | exact ⟨rfl, (by omega), (T29.at_eq HT4.out (by first | exact HW3.out | rfl | omega))⟩ | exact ⟨by first | rfl | (simp [*]; done) | (simp [isE_ne, *]; done), (by omega), (T29.at_eq HT4.out (by first | exact HW3.out | rfl | omega))⟩ | exact ⟨by first | rfl | (simp [*]; done) | (simp [isE_ne, *]; done), (T29.at_eq HT4.out (by first | exact HW3.out | rfl | omega))⟩
      rw [if_neg (fun e => d0 e.2)] at h
      have d0' := Bool.eq_false_iff.mpr d0
      by_cases d1 : a.toList = [33]
      · rw [if_pos d1] at h
        obtain ⟨⟨v1, v2, v3, v4⟩, hv, h⟩ := Option.bind_eq_some_iff.1 h
        have HV := Aside0.mk hv
        clear hv
        simp only [Option.some.injEq, Prod.mk.injEq] at h
        obtain ⟨rfl, rfl, rfl, rfl⟩ := h
        have bd1 : (a.toList == ([33] : List UInt8)) = true := beq_iff_eq.mpr d1
        go_enter Tryd.func42, Tryd.ntmps42
        go_wp2
        go_quiet (fail)
        go_wp2_with (first
          | (go_at_call 26; refine (bB_calls b _).mono ?_; rintro e w1 ⟨rfl, hb⟩; have HT1 := Aside0.mk (((T29.drewN HT.out _)).step hb); have k0w1 := HT1.out.c0_; have k1w1 := HT1.out.c1_; have k4w1 := HT1.out.c4_; have f1w1 := HT1.out.fz 1; have f4w1 := HT1.out.fz 4; have q0w1 : World.cell? w1 ad = some (.string a) := (by have e_ := hq_.out w1 HT1.out.below 0 a rfl; rwa [add0] at e_); have s0w1 := set_far q0w1 HB.out; have q1w1 : World.cell? w1 ⟨ad.block, ad.off + 1, none⟩ = some (.string b) := (by have e_ := hq_.out w1 HT1.out.below 1 b rfl; rwa [addS _ _ (by decide)] at e_); have s1w1 := set_far q1w1 HB.out; have q2w1 : World.cell? w1 ⟨ad.block, ad.off + 2, none⟩ = some (.string c) := (by have e_ := hq_.out w1 HT1.out.below 2 c rfl; rwa [addS _ _ (by decide)] at e_); have s2w1 := set_far q2w1 HB.out; clear hb)
          | (go_at_call 42; refine (HN.out _ (i + 1) wr bd v1 v2 v3 v4 (by omega) (T29.at_eq ((HT1.out).setAt _) (by first | exact HW1.out | rfl | omega)) HV.out).mono ?_; rintro e w2 ⟨rfl, hle, ht⟩; have HT2 := Aside0.mk ht; have HLE := Aside0.mk hle; clear ht hle))
        have hle := HLE.out
        go_ret
        first | exact ⟨rfl, HT2.out⟩ | exact ⟨rfl, (by omega), HT2.out⟩ | exact ⟨by first | rfl | (simp [*]; done) | (simp [isE_ne, *]; done), (by omega), HT2.out⟩ | exact ⟨by first | rfl | (simp [*]; done) | (simp [isE_ne, *]; done), HT2.out⟩
      rw [if_neg d1] at h
      have bd1 : (a.toList == ([33] : List UInt8)) = false := beq_eq_false_iff_ne.mpr d1
      by_cases d2 : a.toList = [40]
      · rw [if_pos d2] at h
        have bd2 : (a.toList == ([40] : List UInt8)) = true := beq_iff_eq.mpr d2
        obtain ⟨⟨v1, v2, v3, v4⟩, hv, h⟩ := Option.bind_eq_some_iff.1 h
        have HV := Aside0.mk hv
        have H := Aside0.mk h
        clear hv h
        go_enter Tryd.func42, Tryd.ntmps42
        go_wp2
        go_quiet (fail)
        go_wp2_with (first
          | (go_at_call 26; refine (bB_calls b _).mono ?_; rintro e w1 ⟨rfl, hb⟩; have HT1 := Aside0.mk (((T29.drewN HT.out _)).step hb); have k0w1 := HT1.out.c0_; have k1w1 := HT1.out.c1_; have k4w1 := HT1.out.c4_; have f1w1 := HT1.out.fz 1; have f4w1 := HT1.out.fz 4; have q0w1 : World.cell? w1 ad = some (.string a) := (by have e_ := hq_.out w1 HT1.out.below 0 a rfl; rwa [add0] at e_); have s0w1 := set_far q0w1 HB.out; have q1w1 : World.cell? w1 ⟨ad.block, ad.off + 1, none⟩ = some (.string b) := (by have e_ := hq_.out w1 HT1.out.below 1 b rfl; rwa [addS _ _ (by decide)] at e_); have s1w1 := set_far q1w1 HB.out; have q2w1 : World.cell? w1 ⟨ad.block, ad.off + 2, none⟩ = some (.string c) := (by have e_ := hq_.out w1 HT1.out.below 2 c rfl; rwa [addS _ _ (by decide)] at e_); have s2w1 := set_far q2w1 HB.out; clear hb)
          | (go_at_call 18; refine (HO.out _ (i + 1) wr bd v1 v2 v3 v4 (by omega) (T29.at_eq ((HT1.out).setAt _) (by first | exact HW1.out | rfl | omega)) HV.out).mono ?_; rintro e w2 ⟨rfl, hle, ht⟩; have HT2 := Aside0.mk ht; have HLE := Aside0.mk hle; have k0w2 := HT2.out.c0_; have k1w2 := HT2.out.c1_; have k4w2 := HT2.out.c4_; have f1w2 := HT2.out.fz 1; have f4w2 := HT2.out.fz 4; clear ht hle))
        have h := H.out
        clear H
        try simp only at h
        have hle := HLE.out
        by_cases hv2 : v2 < args.length
        · have hx2 := HQ0.out w2 HT2.out.below v2 (args.getD v2 ByteArray.empty) (by rw [List.getD_eq_getElem?_getD, List.getElem?_eq_getElem hv2]; rfl)
          have g1 : decide ((args.length : Int) ≤ (v2 : Int)) = false := decide_eq_false (by omega)
          have g2 : decide (args.length ≤ v2) = false := decide_eq_false (by omega)
          generalize args.getD v2 ByteArray.empty = x2 at hx2 h
          by_cases dx : x2.toList = [41]
          · rw [if_pos ⟨hv2, dx⟩] at h
            simp only [Option.some.injEq, Prod.mk.injEq] at h
            obtain ⟨rfl, rfl, rfl, rfl⟩ := h
            have bdx : (x2.toList == ([41] : List UInt8)) = true := beq_iff_eq.mpr dx
            have b9 : (x2.toList != ([41] : List UInt8)) = false := bne_eq_false_iff_eq.mpr dx
            go_quiet (fail)
            go_wp2
            go_ret
            first | exact ⟨rfl, (T29.at_eq ((T29.drewN HT2.out _).setAt _) (by first | rfl | (unfold wrap64; omega) | omega))⟩ | exact ⟨rfl, (by omega), (T29.at_eq ((T29.drewN HT2.out _).setAt _) (by first | rfl | (unfold wrap64; omega) | omega))⟩ | exact ⟨by first | rfl | (simp [*]; done) | (simp [isE_ne, *]; done), (by omega), (T29.at_eq ((T29.drewN HT2.out _).setAt _) (by first | rfl | (unfold wrap64; omega) | omega))⟩ | exact ⟨by first | rfl | (simp [*]; done) | (simp [isE_ne, *]; done), (T29.at_eq ((T29.drewN HT2.out _).setAt _) (by first | rfl | (unfold wrap64; omega) | omega))⟩
          · rw [if_neg (fun e => dx e.2)] at h
            simp only [Option.some.injEq, Prod.mk.injEq] at h
            obtain ⟨rfl, rfl, rfl, rfl⟩ := h
            have bdx : (x2.toList == ([41] : List UInt8)) = false := beq_eq_false_iff_ne.mpr dx
            have b9 : (x2.toList != ([41] : List UInt8)) = true := bne_iff_ne.mpr dx
            go_quiet (fail)
            go_wp2
            go_ret
            first | exact ⟨rfl, (T29.drewN HT2.out _).setWrong true⟩ | exact ⟨rfl, (by omega), (T29.drewN HT2.out _).setWrong true⟩ | exact ⟨by first | rfl | (simp [*]; done) | (simp [isE_ne, *]; done), (by omega), (T29.drewN HT2.out _).setWrong true⟩ | exact ⟨by first | rfl | (simp [*]; done) | (simp [isE_ne, *]; done), (T29.drewN HT2.out _).setWrong true⟩
        · rw [if_neg (fun e => hv2 e.1)] at h
          simp only [Option.some.injEq, Prod.mk.injEq] at h
          obtain ⟨rfl, rfl, rfl, rfl⟩ := h
          have g1 : decide ((args.length : Int) ≤ (v2 : Int)) = true := decide_eq_true (by omega)
          have g2 : decide (args.length ≤ v2) = true := decide_eq_true (by omega)
          go_quiet (fail)
          go_wp2
          go_ret
          first | exact ⟨rfl, (T29.drewN HT2.out _).setWrong true⟩ | exact ⟨rfl, (by omega), (T29.drewN HT2.out _).setWrong true⟩ | exact ⟨by first | rfl | (simp [*]; done) | (simp [isE_ne, *]; done), (by omega), (T29.drewN HT2.out _).setWrong true⟩ | exact ⟨by first | rfl | (simp [*]; done) | (simp [isE_ne, *]; done), (T29.drewN HT2.out _).setWrong true⟩
      rw [if_neg d2] at h
      have bd2 : (a.toList == ([40] : List UInt8)) = false := beq_eq_false_iff_ne.mpr d2
      by_cases d3 : uB a = true
      · rw [if_pos d3] at h
        obtain ⟨v, hv, h⟩ := Option.bind_eq_some_iff.1 h
        have HV := Aside0.mk hv
        clear hv
        simp only [Option.some.injEq, Prod.mk.injEq] at h
        obtain ⟨rfl, rfl, rfl, rfl⟩ := h
        go_enter Tryd.func42, Tryd.ntmps42
        go_wp2
        go_quiet (fail)
        go_wp2_with (first
          | (go_at_call 26; refine (bB_calls b _).mono ?_; rintro e w1 ⟨rfl, hb⟩; have HT1 := Aside0.mk (((T29.drewN HT.out _)).step hb); have k0w1 := HT1.out.c0_; have k1w1 := HT1.out.c1_; have k4w1 := HT1.out.c4_; have f1w1 := HT1.out.fz 1; have f4w1 := HT1.out.fz 4; have q0w1 : World.cell? w1 ad = some (.string a) := (by have e_ := hq_.out w1 HT1.out.below 0 a rfl; rwa [add0] at e_); have s0w1 := set_far q0w1 HB.out; have q1w1 : World.cell? w1 ⟨ad.block, ad.off + 1, none⟩ = some (.string b) := (by have e_ := hq_.out w1 HT1.out.below 1 b rfl; rwa [addS _ _ (by decide)] at e_); have s1w1 := set_far q1w1 HB.out; have q2w1 : World.cell? w1 ⟨ad.block, ad.off + 2, none⟩ = some (.string c) := (by have e_ := hq_.out w1 HT1.out.below 2 c rfl; rwa [addS _ _ (by decide)] at e_); have s2w1 := set_far q2w1 HB.out; clear hb)
          | (go_at_call 24; refine (uB_calls a _).mono ?_; rintro e w3 ⟨rfl, hb⟩; have HT3 := Aside0.mk ((HT1.out).step hb); have k0w3 := HT3.out.c0_; have k1w3 := HT3.out.c1_; have k4w3 := HT3.out.c4_; have f1w3 := HT3.out.fz 1; have f4w3 := HT3.out.fz 4; have q0w3 : World.cell? w3 ad = some (.string a) := (by have e_ := hq_.out w3 HT3.out.below 0 a rfl; rwa [add0] at e_); have s0w3 := set_far q0w3 HB.out; have q1w3 : World.cell? w3 ⟨ad.block, ad.off + 1, none⟩ = some (.string b) := (by have e_ := hq_.out w3 HT3.out.below 1 b rfl; rwa [addS _ _ (by decide)] at e_); have s1w3 := set_far q1w3 HB.out; have q2w3 : World.cell? w3 ⟨ad.block, ad.off + 2, none⟩ = some (.string c) := (by have e_ := hq_.out w3 HT3.out.below 2 c rfl; rwa [addS _ _ (by decide)] at e_); have s2w3 := set_far q2w3 HB.out; clear hb))
        go_region_held3 (fun w' => World.cell? w' ad = some (.string a) ∧ World.cell? w' ⟨ad.block, ad.off + 1, none⟩ = some (.string b))
          (first | go_keep | exact ⟨s0w3 1 _, s1w3 1 _⟩ | exact ⟨q0w4, q1w4⟩)
          (first | (go_at_call 25; refine (tOne_calls k a b v HS.out (T29.drewN (T29.setAt HT3.out _) _) HV.out).mono ?_; rintro e w4 ⟨rfl, hb⟩; have HT4 := Aside0.mk ((T29.drewN (T29.setAt HT3.out _) _).step hb); have q0w4 : World.cell? w4 ad = some (.string a) := (by have e_ := hq_.out w4 HT4.out.below 0 a rfl; rwa [add0] at e_); have q1w4 : World.cell? w4 ⟨ad.block, ad.off + 1, none⟩ = some (.string b) := (by have e_ := hq_.out w4 HT4.out.below 1 b rfl; rwa [addS _ _ (by decide)] at e_); clear hb))
        go_wp2
        go_ret
        first | exact ⟨rfl, (T29.at_eq HT4.out (by first | exact HW2.out | rfl | omega))⟩ | exact ⟨rfl, (by omega), (T29.at_eq HT4.out (by first | exact HW2.out | rfl | omega))⟩ | exact ⟨by first | rfl | (simp [*]; done) | (simp [isE_ne, *]; done), (by omega), (T29.at_eq HT4.out (by first | exact HW2.out | rfl | omega))⟩ | exact ⟨by first | rfl | (simp [*]; done) | (simp [isE_ne, *]; done), (T29.at_eq HT4.out (by first | exact HW2.out | rfl | omega))⟩
      · rw [if_neg d3] at h
        have d3' := Bool.eq_false_iff.mpr d3
        simp only [Option.some.injEq, Prod.mk.injEq] at h
        obtain ⟨rfl, rfl, rfl, rfl⟩ := h
        go_enter Tryd.func42, Tryd.ntmps42
        go_wp2
        go_quiet (fail)
        go_wp2_with (first
          | (go_at_call 26; refine (bB_calls b _).mono ?_; rintro e w1 ⟨rfl, hb⟩; have HT1 := Aside0.mk (((T29.drewN HT.out _)).step hb); have k0w1 := HT1.out.c0_; have k1w1 := HT1.out.c1_; have k4w1 := HT1.out.c4_; have f1w1 := HT1.out.fz 1; have f4w1 := HT1.out.fz 4; have q0w1 : World.cell? w1 ad = some (.string a) := (by have e_ := hq_.out w1 HT1.out.below 0 a rfl; rwa [add0] at e_); have s0w1 := set_far q0w1 HB.out; have q1w1 : World.cell? w1 ⟨ad.block, ad.off + 1, none⟩ = some (.string b) := (by have e_ := hq_.out w1 HT1.out.below 1 b rfl; rwa [addS _ _ (by decide)] at e_); have s1w1 := set_far q1w1 HB.out; have q2w1 : World.cell? w1 ⟨ad.block, ad.off + 2, none⟩ = some (.string c) := (by have e_ := hq_.out w1 HT1.out.below 2 c rfl; rwa [addS _ _ (by decide)] at e_); have s2w1 := set_far q2w1 HB.out; clear hb)
          | (go_at_call 24; refine (uB_calls a _).mono ?_; rintro e w3 ⟨rfl, hb⟩; have HT3 := Aside0.mk ((HT1.out).step hb); have k0w3 := HT3.out.c0_; have k1w3 := HT3.out.c1_; have k4w3 := HT3.out.c4_; have f1w3 := HT3.out.fz 1; have f4w3 := HT3.out.fz 4; have q0w3 : World.cell? w3 ad = some (.string a) := (by have e_ := hq_.out w3 HT3.out.below 0 a rfl; rwa [add0] at e_); have s0w3 := set_far q0w3 HB.out; have q1w3 : World.cell? w3 ⟨ad.block, ad.off + 1, none⟩ = some (.string b) := (by have e_ := hq_.out w3 HT3.out.below 1 b rfl; rwa [addS _ _ (by decide)] at e_); have s1w3 := set_far q1w3 HB.out; have q2w3 : World.cell? w3 ⟨ad.block, ad.off + 2, none⟩ = some (.string c) := (by have e_ := hq_.out w3 HT3.out.below 2 c rfl; rwa [addS _ _ (by decide)] at e_); have s2w3 := set_far q2w3 HB.out; clear hb))
        all_goals
          go_ret
          first | exact ⟨rfl, (T29.at_eq ((HT3.out).setAt _) (by first | exact HW1.out | rfl | omega))⟩ | exact ⟨rfl, (by omega), (T29.at_eq ((HT3.out).setAt _) (by first | exact HW1.out | rfl | omega))⟩ | exact ⟨by first | rfl | (simp [*]; done) | (simp [isE_ne, *]; done), (by omega), (T29.at_eq ((HT3.out).setAt _) (by first | exact HW1.out | rfl | omega))⟩ | exact ⟨by first | rfl | (simp [*]; done) | (simp [isE_ne, *]; done), (T29.at_eq ((HT3.out).setAt _) (by first | exact HW1.out | rfl | omega))⟩
end
end Go.Proofs.YtoeiohfljaboaaaDoor.F
set_option linter.unusedVariables false
set_option linter.unusedSimpArgs false
namespace Go.Proofs.YtoeiohfljaboaaaDoor.F
open Go.RowKit Go.Proofs.YtoeiohfljaboaaaDoorW.PrintWords Go.Proofs.YtoeiohfljaboaaaDoorW.PrintLast Go.Proofs.YtoeiohfljaboaaaDoorW.PrintMore Go.Proofs.YtoeiohfljaboaaaDoor.Aid
section
variable {w0 : World} {g : Nat} {A0 : Option Addr} {c0 : Nat} {args : List ByteArray} {A2 : Option Addr} {c2 : Nat} {fs : List S_File} {cwd : ByteArray}
set_option maxHeartbeats 16000000 in
set_option maxRecDepth 100000 in
theorem pAnd_owes (k : Nat) (hS : TS w0 A0 c0 args A2 c2 fs) (hn : args.length ≤ 1000000) (n : Nat) (hN : ∀ j, j ≤ n → Owes w0 g A0 c0 args A2 c2 fs cwd 42 (pNot k fs cwd args j)) :
    Owes w0 g A0 c0 args A2 c2 fs cwd 28 (pAnd k fs cwd args (n + 1)) := by
  intro w i wr bd r1 i2 r3 r4 hi hT h
  have HS := Aside0.mk hS
  have HT := Aside0.mk hT
  have HN := Aside0.mk hN
  rw [pAnd] at h
  obtain ⟨⟨v1, v2, v3, v4⟩, hv, h⟩ := Option.bind_eq_some_iff.1 h
  have HV := Aside0.mk hv
  have H := Aside0.mk h
  clear hN hT hv h
  go_enter Tryd.func28, Tryd.ntmps28
  go_wp2_with (go_at_call 42; refine (HN.out n (Nat.le_refl _) _ i wr bd v1 v2 v3 v4 hi HT.out HV.out).mono ?_; rintro e w1 ⟨rfl, hle, ht⟩; have HT1 := Aside0.mk ht; have HLE := Aside0.mk hle; clear ht hle)
  go_loopg [3] n (fun gk s3 wx => ∃ (v : Bool) (j : Nat) (wr' bd' : Bool), s3 = .bool v ∧ gk ≤ n ∧ Aside0 (j ≤ args.length) ∧ Aside0 (T29 w0 wx g A0 c0 args.length A2 c2 fs.length cwd j wr' bd') ∧ Aside0 (pAndL k fs cwd args gk v j wr' bd' = some (r1, i2, r3, r4)))
  case atStart => exact ⟨v1, v2, v3, v4, rfl, Nat.le_refl _, HLE, HT1, H⟩
  case round =>
    obtain ⟨v, j, wr', bd', rfl, hgn, HJ, HT2, H2⟩ := hrel
    clear H HV HT HT1 HLE
    cases gk with
    | zero => exact absurd H2.out (by simp [pAndL])
    | succ q =>
      have h := H2.out
      rw [pAndL] at h
      clear H2
      have hj := HJ.out
      have k0 := HT2.out.c0_
      have k1 := HT2.out.c1_
      have f1 := HT2.out.fz 1
      by_cases hlt : j < args.length
      · obtain ⟨ad0, rfl, hq0⟩ := cells_at HS.out.r0 (by omega)
        have hx := hq0 _ HT2.out.below j (args.getD j ByteArray.empty) (by rw [List.getD_eq_getElem?_getD, List.getElem?_eq_getElem hlt]; rfl)
        clear hq0
        have g1 : decide ((j : Int) < (args.length : Int)) = true := decide_eq_true (by omega)
        have g2 : decide (j < args.length) = true := decide_eq_true (by omega)
        generalize args.getD j ByteArray.empty = x at hx h
        by_cases dx : x.toList = [45, 97]
        · rw [if_pos ⟨hlt, dx⟩] at h
          obtain ⟨⟨u1, u2, u3, u4⟩, hu, h⟩ := Option.bind_eq_some_iff.1 h
          have HU := Aside0.mk hu
          have H3 := Aside0.mk h
          have bdx : (x.toList == ([45, 97] : List UInt8)) = true := beq_iff_eq.mpr dx
          have hw1 : wrap64 ((j : Int) + 1) = ((j + 1 : Nat) : Int) := by unfold wrap64; omega
          have HW1 := Aside0.mk hw1
          clear hu h hw1
          go_wp2
          go_quiet (fail)
          go_wp2_with (go_at_call 42; refine (HN.out q (by omega) _ (j + 1) wr' bd' u1 u2 u3 u4 (by omega) (T29.at_eq ((T29.drewN HT2.out _).setAt _) (by first | exact HW1.out | rfl | omega)) HU.out).mono ?_; rintro e w3 ⟨rfl, hle, ht⟩; have HT3 := Aside0.mk ht; have HLE3 := Aside0.mk hle; clear ht hle)
          all_goals
            go_roundg q
            case rel => exact ⟨_, u2, u3, u4, rfl, by omega, HLE3, HT3, ⟨by have := H3.out; simpa [*] using this⟩⟩
            case measure => omega
        · rw [if_neg (fun e => dx e.2)] at h
          simp only [Option.some.injEq, Prod.mk.injEq] at h
          obtain ⟨rfl, rfl, rfl, rfl⟩ := h
          have bdx : (x.toList == ([45, 97] : List UInt8)) = false := beq_eq_false_iff_ne.mpr dx
          go_wp2
          go_quiet (fail)
          go_wp2
          go_ret
          first | exact ⟨rfl, HJ.out, T29.drewN HT2.out _⟩ | exact ⟨rfl, T29.drewN HT2.out _⟩
      · rw [if_neg (fun e => hlt e.1)] at h
        simp only [Option.some.injEq, Prod.mk.injEq] at h
        obtain ⟨rfl, rfl, rfl, rfl⟩ := h
        have g1 : decide ((j : Int) < (args.length : Int)) = false := decide_eq_false (by omega)
        have g2 : decide (j < args.length) = false := decide_eq_false (by omega)
        go_wp2
        go_quiet (fail)
        go_wp2
        go_ret
        first | exact ⟨rfl, HJ.out, T29.drewN HT2.out _⟩ | exact ⟨rfl, T29.drewN HT2.out _⟩
set_option maxHeartbeats 16000000 in
set_option maxRecDepth 100000 in
theorem pOr_owes (k : Nat) (hS : TS w0 A0 c0 args A2 c2 fs) (hn : args.length ≤ 1000000) (n : Nat) (hN : ∀ j, j ≤ n → Owes w0 g A0 c0 args A2 c2 fs cwd 28 (pAnd k fs cwd args j)) :
    Owes w0 g A0 c0 args A2 c2 fs cwd 18 (pOr k fs cwd args (n + 1)) := by
  intro w i wr bd r1 i2 r3 r4 hi hT h
  have HS := Aside0.mk hS
  have HT := Aside0.mk hT
  have HN := Aside0.mk hN
  rw [pOr] at h
  obtain ⟨⟨v1, v2, v3, v4⟩, hv, h⟩ := Option.bind_eq_some_iff.1 h
  have HV := Aside0.mk hv
  have H := Aside0.mk h
  clear hN hT hv h
  go_enter Tryd.func18, Tryd.ntmps18
  go_wp2_with (go_at_call 28; refine (HN.out n (Nat.le_refl _) _ i wr bd v1 v2 v3 v4 hi HT.out HV.out).mono ?_; rintro e w1 ⟨rfl, hle, ht⟩; have HT1 := Aside0.mk ht; have HLE := Aside0.mk hle; clear ht hle)
  go_loopg [3] n (fun gk s3 wx => ∃ (v : Bool) (j : Nat) (wr' bd' : Bool), s3 = .bool v ∧ gk ≤ n ∧ Aside0 (j ≤ args.length) ∧ Aside0 (T29 w0 wx g A0 c0 args.length A2 c2 fs.length cwd j wr' bd') ∧ Aside0 (pOrL k fs cwd args gk v j wr' bd' = some (r1, i2, r3, r4)))
  case atStart => exact ⟨v1, v2, v3, v4, rfl, Nat.le_refl _, HLE, HT1, H⟩
  case round =>
    obtain ⟨v, j, wr', bd', rfl, hgn, HJ, HT2, H2⟩ := hrel
    clear H HV HT HT1 HLE
    cases gk with
    | zero => exact absurd H2.out (by simp [pOrL])
    | succ q =>
      have h := H2.out
      rw [pOrL] at h
      clear H2
      have hj := HJ.out
      have k0 := HT2.out.c0_
      have k1 := HT2.out.c1_
      have f1 := HT2.out.fz 1
      by_cases hlt : j < args.length
      · obtain ⟨ad0, rfl, hq0⟩ := cells_at HS.out.r0 (by omega)
        have hx := hq0 _ HT2.out.below j (args.getD j ByteArray.empty) (by rw [List.getD_eq_getElem?_getD, List.getElem?_eq_getElem hlt]; rfl)
        clear hq0
        have g1 : decide ((j : Int) < (args.length : Int)) = true := decide_eq_true (by omega)
        have g2 : decide (j < args.length) = true := decide_eq_true (by omega)
        generalize args.getD j ByteArray.empty = x at hx h
        by_cases dx : x.toList = [45, 111]
        · rw [if_pos ⟨hlt, dx⟩] at h
          obtain ⟨⟨u1, u2, u3, u4⟩, hu, h⟩ := Option.bind_eq_some_iff.1 h
          have HU := Aside0.mk hu
          have H3 := Aside0.mk h
          have bdx : (x.toList == ([45, 111] : List UInt8)) = true := beq_iff_eq.mpr dx
          have hw1 : wrap64 ((j : Int) + 1) = ((j + 1 : Nat) : Int) := by unfold wrap64; omega
          have HW1 := Aside0.mk hw1
          clear hu h hw1
          go_wp2
          go_quiet (fail)
          go_wp2_with (go_at_call 28; refine (HN.out q (by omega) _ (j + 1) wr' bd' u1 u2 u3 u4 (by omega) (T29.at_eq ((T29.drewN HT2.out _).setAt _) (by first | exact HW1.out | rfl | omega)) HU.out).mono ?_; rintro e w3 ⟨rfl, hle, ht⟩; have HT3 := Aside0.mk ht; have HLE3 := Aside0.mk hle; clear ht hle)
          all_goals
            go_roundg q
            case rel => exact ⟨_, u2, u3, u4, rfl, by omega, HLE3, HT3, ⟨by have := H3.out; simpa [*] using this⟩⟩
            case measure => omega
        · rw [if_neg (fun e => dx e.2)] at h
          simp only [Option.some.injEq, Prod.mk.injEq] at h
          obtain ⟨rfl, rfl, rfl, rfl⟩ := h
          have bdx : (x.toList == ([45, 111] : List UInt8)) = false := beq_eq_false_iff_ne.mpr dx
          go_wp2
          go_quiet (fail)
          go_wp2
          go_ret
          first | exact ⟨rfl, HJ.out, T29.drewN HT2.out _⟩ | exact ⟨rfl, T29.drewN HT2.out _⟩
      · rw [if_neg (fun e => hlt e.1)] at h
        simp only [Option.some.injEq, Prod.mk.injEq] at h
        obtain ⟨rfl, rfl, rfl, rfl⟩ := h
        have g1 : decide ((j : Int) < (args.length : Int)) = false := decide_eq_false (by omega)
        have g2 : decide (j < args.length) = false := decide_eq_false (by omega)
        go_wp2
        go_quiet (fail)
        go_wp2
        go_ret
        first | exact ⟨rfl, HJ.out, T29.drewN HT2.out _⟩ | exact ⟨rfl, T29.drewN HT2.out _⟩
theorem all_owe (k : Nat) (hS : TS w0 A0 c0 args A2 c2 fs) (hn : args.length ≤ 1000000) : ∀ n, (∀ j, j ≤ n → Owes w0 g A0 c0 args A2 c2 fs cwd 42 (pNot k fs cwd args j)) ∧ (∀ j, j ≤ n → Owes w0 g A0 c0 args A2 c2 fs cwd 28 (pAnd k fs cwd args j)) ∧ (∀ j, j ≤ n → Owes w0 g A0 c0 args A2 c2 fs cwd 18 (pOr k fs cwd args j)) := by
  intro n
  induction n with
  | zero =>
    refine ⟨fun j hj => ?_, fun j hj => ?_, fun j hj => ?_⟩ <;> obtain rfl : j = 0 := by omega
    · intro w i wr bd r1 i2 r3 r4 _ _ h; rw [pNot] at h; cases h
    · intro w i wr bd r1 i2 r3 r4 _ _ h; rw [pAnd] at h; cases h
    · intro w i wr bd r1 i2 r3 r4 _ _ h; rw [pOr] at h; cases h
  | succ n ih =>
    obtain ⟨h1, h2, h3⟩ := ih
    refine ⟨fun j hj => ?_, fun j hj => ?_, fun j hj => ?_⟩
    · rcases Nat.lt_or_ge n j with h | h
      · obtain rfl : j = n + 1 := by omega
        exact pNot_owes k hS hn n (h1 n (Nat.le_refl _)) (h3 n (Nat.le_refl _))
      · exact h1 j h
    · rcases Nat.lt_or_ge n j with h | h
      · obtain rfl : j = n + 1 := by omega
        exact pAnd_owes k hS hn n h1
      · exact h2 j h
    · rcases Nat.lt_or_ge n j with h | h
      · obtain rfl : j = n + 1 := by omega
        exact pOr_owes k hS hn n h2
      · exact h3 j h
end
end Go.Proofs.YtoeiohfljaboaaaDoor.F
set_option linter.unusedVariables false
set_option linter.unusedSimpArgs false
namespace Go.Proofs.YtoeiohfljaboaaaDoor.F
open Go.RowKit Go.Proofs.YtoeiohfljaboaaaDoorW.PrintWords Go.Proofs.YtoeiohfljaboaaaDoorW.PrintLast Go.Proofs.YtoeiohfljaboaaaDoorW.PrintMore Go.Proofs.YtoeiohfljaboaaaDoor.Aid
def EK : Nat := 2000
def resE (v wr bd : Bool) : Bool × Int := if wr = true then (false, 27) else if bd = true then (false, 1) else (v, 0)
def testexpr_Eval.f (args : List ByteArray) (fs : List S_File) (cwd : ByteArray) : Option (Bool × Int) :=
  if args.length ≤ 1000000 then (tShort EK fs cwd 5 args false false).bind fun v =>
    if v.2.1 = true then (pOr EK fs cwd args EK 0 v.2.2.1 v.2.2.2).bind fun u => some (resE u.1 (u.2.2.1 || decide (u.2.1 < args.length)) u.2.2.2)
    else some (resE v.1 v.2.2.1 v.2.2.2)
  else none
set_option maxHeartbeats 16000000 in
set_option maxRecDepth 100000 in
theorem testexpr_Eval.calls (A0 : Option Addr) (c0 : Nat) (l0 : List ByteArray) (A1 : Option Addr) (c1 : Nat) (l1 : List (S_File)) (a2 : ByteArray) (r1 : Bool) (r2 : Int) (w : World) (hr0 : Kd.C Kd.string w A0 l0.length l0) (hc0 : l0.length ≤ c0) (hr1 : Kd.C k_File w A1 l1.length l1) (hc1 : l1.length ≤ c1) (hamb : AmbC w) (h : testexpr_Eval.f l0 l1 a2 = some (r1, r2)) :
    Calls Tryd.prog 10 #[.slice A0 l0.length c0, .slice A1 l1.length c1, .string a2] w fun e w' => e = .returned (.tuple #[.bool r1, .int .i64 r2]) ∧ Below w.heap.size w w' := by
  unfold testexpr_Eval.f at h
  split at h
  case isFalse => cases h
  rename_i hn
  have HS := Aside0.mk (show TS w A0 c0 l0 A1 c1 l1 from ⟨hr0, hc0, hr1, hc1, hamb⟩)
  obtain ⟨⟨v1, v2, v3, v4⟩, hv, h⟩ := Option.bind_eq_some_iff.1 h
  have HV := Aside0.mk hv
  have H := Aside0.mk h
  have HT : Aside0 (T29 w (w.alloc (.cells #[.slice A0 l0.length c0, .int .i64 0, .slice A1 l1.length c1, .string a2, .bool false, .bool false] 44)) w.heap.size A0 c0 l0.length A1 c1 l1.length a2 (0 : Nat) false false) :=
    ⟨⟨heap_alloc_new w _, Nat.le_refl _, below_alloc (Below.refl _ _) _⟩⟩
  clear hv h hr0 hr1 hamb
  have hsh := Aside0.mk (tShort_calls (w0 := w) (g := w.heap.size) (cwd := a2) EK HS.out 5)
  have hor := Aside0.mk (all_owe (w0 := w) (g := w.heap.size) (cwd := a2) EK HS.out hn EK).2.2
  have h := H.out
  clear H
  simp only at h
  cases v2 with
  | false =>
    rw [if_neg (by decide)] at h
    have e := Option.some.inj h
    clear h
    go_enter Tryd.func10, Tryd.ntmps10
    go_wp2_with (first
      | (go_at_call 17; refine (hsh.out l0 A0 c0 _ (0 : Nat) false false v1 false v3 v4 HS.out.r0 hc0 HT.out HV.out).mono ?_; rintro e w1 ⟨rfl, ht⟩; have HT1 := Aside0.mk ht; have k4 := ht.c4_; have k5 := ht.c5_; clear ht))
    all_goals
      go_ret2
      refine ⟨?_, HT1.out.below⟩
      simp_all [resE]
  | true =>
    rw [if_pos rfl] at h
    obtain ⟨⟨u1, u2, u3, u4⟩, hu, h⟩ := Option.bind_eq_some_iff.1 h
    have HU := Aside0.mk hu
    have e := Option.some.inj h
    clear h hu
    simp only at e
    by_cases d : u2 < l0.length
    · have g1 : decide ((u2 : Int) < (l0.length : Int)) = true := decide_eq_true (by omega)
      have g2 : decide (u2 < l0.length) = true := decide_eq_true d
      rw [g2] at e
      have E := Aside0.mk e
      clear e d
      go_enter Tryd.func10, Tryd.ntmps10
      go_wp2_with (first
        | (go_at_call 17; refine (hsh.out l0 A0 c0 _ (0 : Nat) false false v1 true v3 v4 HS.out.r0 hc0 HT.out HV.out).mono ?_; rintro e w1 ⟨rfl, ht⟩; have HT1 := Aside0.mk ht; have k4 := ht.c4_; have k5 := ht.c5_; clear ht)
        | (go_at_call 18; refine (hor.out EK (Nat.le_refl _) _ 0 v3 v4 u1 u2 u3 u4 (Nat.zero_le _) HT1.out HU.out).mono ?_; rintro e w2 ⟨rfl, hle, ht⟩; have HT2 := Aside0.mk ht; have k1 := ht.c1_; have k4 := ht.c4_; have k5 := ht.c5_; have f4 := ht.fz 4; clear ht hle))
      all_goals
        go_ret2
        have e := E.out
        refine ⟨?_, (HT2.out.setWrong _).below⟩
        clear E HT1 HT2 HU HV HS HT hsh hor
        simp_all [resE]
    · have g1 : decide ((u2 : Int) < (l0.length : Int)) = false := decide_eq_false (by omega)
      have g2 : decide (u2 < l0.length) = false := decide_eq_false d
      rw [g2] at e
      have E := Aside0.mk e
      clear e d
      go_enter Tryd.func10, Tryd.ntmps10
      go_wp2_with (first
        | (go_at_call 17; refine (hsh.out l0 A0 c0 _ (0 : Nat) false false v1 true v3 v4 HS.out.r0 hc0 HT.out HV.out).mono ?_; rintro e w1 ⟨rfl, ht⟩; have HT1 := Aside0.mk ht; have k4 := ht.c4_; have k5 := ht.c5_; clear ht)
        | (go_at_call 18; refine (hor.out EK (Nat.le_refl _) _ 0 v3 v4 u1 u2 u3 u4 (Nat.zero_le _) HT1.out HU.out).mono ?_; rintro e w2 ⟨rfl, hle, ht⟩; have HT2 := Aside0.mk ht; have k1 := ht.c1_; have k4 := ht.c4_; have k5 := ht.c5_; have f4 := ht.fz 4; clear ht hle))
      all_goals
        go_ret2
        have e := E.out
        refine ⟨?_, (HT2.out.setWrong _).below⟩
        clear E HT1 HT2 HU HV HS HT hsh hor
        simp_all [resE]
end Go.Proofs.YtoeiohfljaboaaaDoor.F
