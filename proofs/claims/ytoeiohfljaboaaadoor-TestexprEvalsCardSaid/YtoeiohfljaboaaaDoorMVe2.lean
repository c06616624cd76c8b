/- Texts of this claim, joined. -/
import Derived.Deep.QuietTactic
import Derived.BigQuiet
import Derived.Deep.RegionHeld3
import Derived.Test.YtoeiohfljaboaaaDoorMVe1
import Derived.Test.YtoeiohfljaboaaaDoorB1
import Derived.Test.YtoeiohfljaboaaaDoorB0
import Derived.Test.YtoeiohfljaboaaaDoorMVe0
import Derived.Test.YtoeiohfljaboaaaDoorB2
import Derived.Test.YtoeiohfljaboaaaDoorB3
set_option linter.unusedVariables false
set_option linter.unusedSimpArgs false
namespace Go.Proofs.YtoeiohfljaboaaaDoor.F
open Go.RowKit Go.Proofs.YtoeiohfljaboaaaDoorW.PrintWords Go.Proofs.YtoeiohfljaboaaaDoorW.PrintLast Go.Proofs.YtoeiohfljaboaaaDoorW.PrintMore Go.Proofs.YtoeiohfljaboaaaDoor.Aid
mutual
def qNot (k : Nat) (fs : List S_File) (cwd : ByteArray) (args : List ByteArray) : Nat → Nat → Int → Bool → Option (Bool × Nat × Int × Bool)
  | 0, _, _, _ => none
  | n + 1, i, er, od => if args.length < i then none else match args.drop i with
    | [] => some (false, i, 27, od)
    | [a] => if a.toList = [40] then (qOr k fs cwd args n (i + 1) er od).bind fun v => (if v.2.1 < args.length ∧ (args.getD v.2.1 ByteArray.empty).toList = [41] then some (v.1, v.2.1 + 1, v.2.2.1, v.2.2.2) else some (false, v.2.1, 27, v.2.2.2))
      else some (a.toList != ([] : List UInt8), i + 1, er, od)
    | a :: b :: r => if 1 ≤ r.length ∧ bB b = true then (rTwo k a b (r.getD 0 ByteArray.empty) od).bind fun v => some (v.1, i + 3, er, v.2)
      else if a.toList = [33] then (qNot k fs cwd args n (i + 1) er od).bind fun v => some (!v.1, v.2.1, v.2.2.1, v.2.2.2)
      else if a.toList = [40] then (qOr k fs cwd args n (i + 1) er od).bind fun v => (if v.2.1 < args.length ∧ (args.getD v.2.1 ByteArray.empty).toList = [41] then some (v.1, v.2.1 + 1, v.2.2.1, v.2.2.2) else some (false, v.2.1, 27, v.2.2.2))
      else if uB a = true then (rOne k fs cwd a b).bind fun v => some (v, i + 2, er, od)
      else some (a.toList != ([] : List UInt8), i + 1, er, od)
def qAnd (k : Nat) (fs : List S_File) (cwd : ByteArray) (args : List ByteArray) : Nat → Nat → Int → Bool → Option (Bool × Nat × Int × Bool)
  | 0, _, _, _ => none
  | n + 1, i, er, od => (qNot k fs cwd args n i er od).bind fun v => qAndL k fs cwd args n v.1 v.2.1 v.2.2.1 v.2.2.2
def qAndL (k : Nat) (fs : List S_File) (cwd : ByteArray) (args : List ByteArray) : Nat → Bool → Nat → Int → Bool → Option (Bool × Nat × Int × Bool)
  | 0, _, _, _, _ => none
  | n + 1, v, i, er, od => if er = 0 ∧ i < args.length ∧ (args.getD i ByteArray.empty).toList = [45, 97] then (qNot k fs cwd args n (i + 1) er od).bind fun u => qAndL k fs cwd args n (v && u.1) u.2.1 u.2.2.1 u.2.2.2 else some (v, i, er, od)
def qOr (k : Nat) (fs : List S_File) (cwd : ByteArray) (args : List ByteArray) : Nat → Nat → Int → Bool → Option (Bool × Nat × Int × Bool)
  | 0, _, _, _ => none
  | n + 1, i, er, od => (qAnd k fs cwd args n i er od).bind fun v => qOrL k fs cwd args n v.1 v.2.1 v.2.2.1 v.2.2.2
def qOrL (k : Nat) (fs : List S_File) (cwd : ByteArray) (args : List ByteArray) : Nat → Bool → Nat → Int → Bool → Option (Bool × Nat × Int × Bool)
  | 0, _, _, _, _ => none
  | n + 1, v, i, er, od => if er = 0 ∧ i < args.length ∧ (args.getD i ByteArray.empty).toList = [45, 111] then (qAnd k fs cwd args n (i + 1) er od).bind fun u => qOrL k fs cwd args n (v || u.1) u.2.1 u.2.2.1 u.2.2.2 else some (v, i, er, od)
end
section
variable {w0 : World} {g : Nat} {A0 : Option Addr} {c0 : Nat} {args : List ByteArray} {A2 : Option Addr} {c2 : Nat} {fs : List S_File} {cwd : ByteArray}
def OwesR (w0 : World) (g : Nat) (A0 : Option Addr) (c0 : Nat) (args : List ByteArray) (A2 : Option Addr) (c2 : Nat) (fs : List S_File) (cwd : ByteArray) (f : Nat) (p : Nat → Int → Bool → Option (Bool × Nat × Int × Bool)) : Prop :=
  ∀ (w : World) (i : Nat) (er : Int) (od r1 : Bool) (i2 : Nat) (r3 : Int) (r4 : Bool), i ≤ args.length → R29 w0 w g A0 c0 args.length A2 c2 fs.length cwd i er od → p i er od = some (r1, i2, r3, r4) →
    Calls Tryd.prog f #[.pointer (some ⟨g, 0, none⟩)] w fun e w' => e = .returned (.bool r1) ∧ i2 ≤ args.length ∧ R29 w0 w' g A0 c0 args.length A2 c2 fs.length cwd i2 r3 r4
set_option maxHeartbeats 4000000 in
theorem left_calls {w : World} {n0 i : Nat} {er : Int} {od : Bool} {n2 : Nat} (hT : R29 w0 w g A0 c0 n0 A2 c2 n2 cwd i er od) (hi : i ≤ n0) (hn : n0 ≤ 1000000) (L : Int) (hL : L = (n0 : Int) - (i : Int)) :
    Calls Tryd.prog 48 #[.pointer (some ⟨g, 0, none⟩)] w fun e w' => e = .returned (.int .i64 L) ∧ ∃ m, w' = w.drewN m := by
  have k0 := hT.c0_
  have k1 := hT.c1_
  have hw : wrap64 ((n0 : Int) - (i : Int)) = L := by rw [hL]; unfold wrap64; omega
  clear hT
  go_enter Tryd.func48, Tryd.ntmps48
  go_wp2
  go_quiet (fail)
  go_wp2
  go_ret
  refine ⟨?_, _, rfl⟩
  first | rfl | (simp; exact hL.symm)
set_option maxHeartbeats 16000000 in
set_option maxRecDepth 100000 in
theorem qNot_owes (k : Nat) (hS : TS w0 A0 c0 args A2 c2 fs) (hn : args.length ≤ 1000000) (n : Nat) (hN : OwesR w0 g A0 c0 args A2 c2 fs cwd 66 (qNot k fs cwd args n)) (hO : OwesR w0 g A0 c0 args A2 c2 fs cwd 47 (qOr k fs cwd args n)) :
    OwesR w0 g A0 c0 args A2 c2 fs cwd 66 (qNot k fs cwd args (n + 1)) := by
  intro w i er od r1 i2 r3 r4 hi hT h
  have HS := Aside0.mk hS
  have HT := Aside0.mk hT
  have HN := Aside0.mk hN
  have HO := Aside0.mk hO
  have k0 := hT.c0_
  have k1 := hT.c1_
  have k4 := hT.c4_
  have f4 := hT.fz 4
  have f1 := hT.fz 1
  have hlc := hS.l0
  rw [qNot, if_neg (by omega)] at h
  clear hN hO
  obtain ⟨L0, hL0⟩ : ∃ L : Int, L = (args.length : Int) - (i : Int) := ⟨_, rfl⟩
  have HL0 := Aside0.mk hL0
  by_cases hend : i = args.length
  · have l1 : decide (L0 < 1) = true := decide_eq_true (by omega)
    rw [List.drop_eq_nil_of_le (by omega)] at h
    simp only [Option.some.injEq, Prod.mk.injEq] at h
    obtain ⟨rfl, rfl, rfl, rfl⟩ := h
    clear hT hL0
    go_enter Tryd.func66, Tryd.ntmps66
    go_wp2_with (go_at_call 48; refine (left_calls HT.out hi hn L0 HL0.out).mono ?_; rintro e wl ⟨rfl, hwl⟩; have HTl : Aside0 (R29 w0 wl g A0 c0 args.length A2 c2 fs.length cwd i er od) := ⟨(by obtain ⟨m_, rfl⟩ := hwl; exact HT.out.drewN m_)⟩; clear hwl; have k4l := HTl.out.c4_; have f4l := HTl.out.fz 4)
    go_ret
    first | exact ⟨rfl, hi, HTl.out.setErr 27⟩ | exact ⟨rfl, HTl.out.setErr 27⟩
  have l1 : decide (L0 < 1) = false := decide_eq_false (by omega)
  have hlt : i < args.length := by omega
  obtain ⟨ad0, rfl, hq0⟩ := cells_at hS.r0 (by omega)
  obtain ⟨ad, had⟩ : ∃ ad : Addr, ad0.add i = ad := ⟨_, rfl⟩
  have hcut := cut_at hS.r0 hlt hlc
  rw [had] at hcut
  obtain ⟨a, r, hd⟩ : ∃ a r, args.drop i = a :: r := by
    cases hd : args.drop i with
    | nil => have := congrArg List.length hd; rw [List.length_drop] at this; simp at this; omega
    | cons a r => exact ⟨a, r, rfl⟩
  have hm1 : args.length - i = r.length + 1 := by have := congrArg List.length hd; rw [List.length_drop] at this; simpa using this
  obtain ⟨m, hm, hmr⟩ : ∃ m, args.length - i = m ∧ m = r.length + 1 := ⟨_, rfl, hm1⟩
  have hci : (c0 = i) = False := eq_false (by omega)
  have hci2 : (i = c0) = False := eq_false (by omega)
  rw [hd] at h hcut
  obtain ⟨ad_, e_, hq⟩ := cells_at hcut (by simp)
  obtain rfl := Option.some.inj e_
  have hq_ := Aside0.mk hq
  have HQ0 := Aside0.mk hq0
  have m0 : ((m : Int) == 0) = false := beq_eq_false_iff_ne.mpr (by omega)
  have p0 : 0 < m := by omega
  have z0 : (0 : Int) < (m : Int) := by omega
  have hw1 : wrap64 ((i : Int) + 1) = ((i + 1 : Nat) : Int) := by unfold wrap64; omega
  have hw2 : wrap64 ((i : Int) + 2) = ((i + 2 : Nat) : Int) := by unfold wrap64; omega
  have hw3 : wrap64 ((i : Int) + 3) = ((i + 3 : Nat) : Int) := by unfold wrap64; omega
  have HW1 := Aside0.mk hw1
  have HW2 := Aside0.mk hw2
  have HW3 := Aside0.mk hw3
  have HHD := Aside0.mk hd
  have HB : Aside0 (ad.block ≠ g) := ⟨by have e1 := cell_lt (hq w0 (Below.refl _ _) 0 a rfl); rw [add0] at e1; have := hT.hg; omega⟩
  clear hm1 hcut hw1 hw2 hw3 hq hq0 hd hT hL0
  cases r with
  | nil =>
    have m2 : decide ((2 : Int) ≤ (m : Int)) = false := decide_eq_false (by rw [hmr]; simp)
    have m3 : decide ((3 : Int) ≤ (m : Int)) = false := decide_eq_false (by rw [hmr]; simp)
    clear hmr
    dsimp only at h
    by_cases d1 : a.toList = [40]
    · rw [if_pos d1] at h
      have bd1 : (a.toList == ([40] : List UInt8)) = true := beq_iff_eq.mpr d1
      obtain ⟨⟨v1, v2, v3, v4⟩, hv, h⟩ := Option.bind_eq_some_iff.1 h
      have HV := Aside0.mk hv
      have H := Aside0.mk h
      clear hv h
      go_enter Tryd.func66, Tryd.ntmps66
      go_wp2_with (go_at_call 48; refine (left_calls HT.out hi hn L0 HL0.out).mono ?_; rintro e wl ⟨rfl, hwl⟩; have HTl : Aside0 (R29 w0 wl g (some ad0) c0 args.length A2 c2 fs.length cwd i er od) := ⟨(by obtain ⟨m_, rfl⟩ := hwl; exact HT.out.drewN m_)⟩; clear hwl; have k0wl := HTl.out.c0_; have k1wl := HTl.out.c1_; have k4wl := HTl.out.c4_; have f1wl := HTl.out.fz 1; have f4wl := HTl.out.fz 4; have q0wl : World.cell? wl ad = some (.string a) := (by have e_ := hq_.out wl HTl.out.below 0 a rfl; rwa [add0] at e_); have s0wl := set_far q0wl HB.out; have s0d := fun nq => set_far (W := wl.drewN nq) (show World.cell? (wl.drewN nq) ad = some (.string a) from q0wl) HB.out)
      go_quiet (fail)
      go_wp2_with (first
        | (go_at_call 47; refine (HO.out _ (i + 1) er od v1 v2 v3 v4 (by omega) (R29.at_eq (((R29.drewN HTl.out _)).setAt _) (by first | exact HW1.out | rfl | omega)) HV.out).mono ?_; rintro e w2 ⟨rfl, hle, ht⟩; have HT2 := Aside0.mk ht; have HLE := Aside0.mk hle; have k0w2 := HT2.out.c0_; have k1w2 := HT2.out.c1_; have k4w2 := HT2.out.c4_; have f1w2 := HT2.out.fz 1; have f4w2 := HT2.out.fz 4; clear ht hle))
      have h := H.out
      clear H
      try simp only at h
      have hle := HLE.out
      obtain ⟨L2, hL2⟩ : ∃ L : Int, L = (args.length : Int) - (v2 : Int) := ⟨_, rfl⟩
      have HL2 := Aside0.mk hL2
      by_cases hv2 : v2 < args.length
      · have hx2 := HQ0.out w2 HT2.out.below v2 (args.getD v2 ByteArray.empty) (by rw [List.getD_eq_getElem?_getD, List.getElem?_eq_getElem hv2]; rfl)
        have g1 : decide (L2 < 1) = false := decide_eq_false (by omega)
        clear hL2
        generalize args.getD v2 ByteArray.empty = x2 at hx2 h
        by_cases dx : x2.toList = [41]
        · rw [if_pos ⟨hv2, dx⟩] at h
          simp only [Option.some.injEq, Prod.mk.injEq] at h
          obtain ⟨rfl, rfl, rfl, rfl⟩ := h
          have bdx : (x2.toList == ([41] : List UInt8)) = true := beq_iff_eq.mpr dx
          have b9 : (x2.toList != ([41] : List UInt8)) = false := bne_eq_false_iff_eq.mpr dx
          go_quiet (first | (go_at_call 48; refine Calls.quiet_of (left_calls (R29.drewN HT2.out _) HLE.out hn L2 HL2.out)))
          go_wp2
          go_ret
          first | exact ⟨rfl, (R29.at_eq ((R29.drewN HT2.out _).setAt _) (by first | rfl | (unfold wrap64; omega) | omega))⟩ | exact ⟨rfl, (by omega), (R29.at_eq ((R29.drewN HT2.out _).setAt _) (by first | rfl | (unfold wrap64; omega) | omega))⟩ | exact ⟨by first | rfl | (simp [*]; done) | (simp [isE_ne, *]; done), (by omega), (R29.at_eq ((R29.drewN HT2.out _).setAt _) (by first | rfl | (unfold wrap64; omega) | omega))⟩ | exact ⟨by first | rfl | (simp [*]; done) | (simp [isE_ne, *]; done), (R29.at_eq ((R29.drewN HT2.out _).setAt _) (by first | rfl | (unfold wrap64; omega) | omega))⟩
        · rw [if_neg (fun e => dx e.2)] at h
          simp only [Option.some.injEq, Prod.mk.injEq] at h
          obtain ⟨rfl, rfl, rfl, rfl⟩ := h
          have bdx : (x2.toList == ([41] : List UInt8)) = false := beq_eq_false_iff_ne.mpr dx
          have b9 : (x2.toList != ([41] : List UInt8)) = true := bne_iff_ne.mpr dx
          go_quiet (first | (go_at_call 48; refine Calls.quiet_of (left_calls (R29.drewN HT2.out _) HLE.out hn L2 HL2.out)))
          go_wp2
          go_ret
          first | exact ⟨rfl, (R29.drewN HT2.out _).setErr 27⟩ | exact ⟨rfl, (by omega), (R29.drewN HT2.out _).setErr 27⟩ | exact ⟨by first | rfl | (simp [*]; done) | (simp [isE_ne, *]; done), (by omega), (R29.drewN HT2.out _).setErr 27⟩ | exact ⟨by first | rfl | (simp [*]; done) | (simp [isE_ne, *]; done), (R29.drewN HT2.out _).setErr 27⟩
      · rw [if_neg (fun e => hv2 e.1)] at h
        simp only [Option.some.injEq, Prod.mk.injEq] at h
        obtain ⟨rfl, rfl, rfl, rfl⟩ := h
        have g1 : decide (L2 < 1) = true := decide_eq_true (by omega)
        clear hL2
        go_quiet (first | (go_at_call 48; refine Calls.quiet_of (left_calls (R29.drewN HT2.out _) HLE.out hn L2 HL2.out)))
        go_wp2
        go_ret
        first | exact ⟨rfl, (R29.drewN HT2.out _).setErr 27⟩ | exact ⟨rfl, (by omega), (R29.drewN HT2.out _).setErr 27⟩ | exact ⟨by first | rfl | (simp [*]; done) | (simp [isE_ne, *]; done), (by omega), (R29.drewN HT2.out _).setErr 27⟩ | exact ⟨by first | rfl | (simp [*]; done) | (simp [isE_ne, *]; done), (R29.drewN HT2.out _).setErr 27⟩
    · rw [if_neg d1] at h
      have bd1 : (a.toList == ([40] : List UInt8)) = false := beq_eq_false_iff_ne.mpr d1
      simp only [Option.some.injEq, Prod.mk.injEq] at h
      obtain ⟨rfl, rfl, rfl, rfl⟩ := h
      go_enter Tryd.func66, Tryd.ntmps66
      go_wp2_with (go_at_call 48; refine (left_calls HT.out hi hn L0 HL0.out).mono ?_; rintro e wl ⟨rfl, hwl⟩; have HTl : Aside0 (R29 w0 wl g (some ad0) c0 args.length A2 c2 fs.length cwd i er od) := ⟨(by obtain ⟨m_, rfl⟩ := hwl; exact HT.out.drewN m_)⟩; clear hwl; have k0wl := HTl.out.c0_; have k1wl := HTl.out.c1_; have k4wl := HTl.out.c4_; have f1wl := HTl.out.fz 1; have f4wl := HTl.out.fz 4; have q0wl : World.cell? wl ad = some (.string a) := (by have e_ := hq_.out wl HTl.out.below 0 a rfl; rwa [add0] at e_); have s0wl := set_far q0wl HB.out; have s0d := fun nq => set_far (W := wl.drewN nq) (show World.cell? (wl.drewN nq) ad = some (.string a) from q0wl) HB.out)
      go_quiet (fail)
      go_wp2
      all_goals
        go_ret
        first | exact ⟨rfl, (R29.at_eq (((R29.drewN HTl.out _)).setAt _) (by first | exact HW1.out | rfl | omega))⟩ | exact ⟨rfl, (by omega), (R29.at_eq (((R29.drewN HTl.out _)).setAt _) (by first | exact HW1.out | rfl | omega))⟩ | exact ⟨by first | rfl | (simp [*]; done) | (simp [isE_ne, *]; done), (by omega), (R29.at_eq (((R29.drewN HTl.out _)).setAt _) (by first | exact HW1.out | rfl | omega))⟩ | exact ⟨by first | rfl | (simp [*]; done) | (simp [isE_ne, *]; done), (R29.at_eq (((R29.drewN HTl.out _)).setAt _) (by first | exact HW1.out | rfl | omega))⟩
  | cons b r =>
    have p1 : 1 < m := by rw [hmr]; simp
    have z1 : (1 : Int) < (m : Int) := by omega
    have m2 : decide ((2 : Int) ≤ (m : Int)) = true := decide_eq_true (by omega)
    cases r with
    | nil =>
      have m3 : decide ((3 : Int) ≤ (m : Int)) = false := decide_eq_false (by rw [hmr]; simp)
      clear hmr
      dsimp only at h
      rw [if_neg (fun e => absurd e.1 (by simp))] at h
      by_cases d1 : a.toList = [33]
      · rw [if_pos d1] at h
        obtain ⟨⟨v1, v2, v3, v4⟩, hv, h⟩ := Option.bind_eq_some_iff.1 h
        have HV := Aside0.mk hv
        clear hv
        simp only [Option.some.injEq, Prod.mk.injEq] at h
        obtain ⟨rfl, rfl, rfl, rfl⟩ := h
        have bd1 : (a.toList == ([33] : List UInt8)) = true := beq_iff_eq.mpr d1
        go_enter Tryd.func66, Tryd.ntmps66
        go_wp2_with (go_at_call 48; refine (left_calls HT.out hi hn L0 HL0.out).mono ?_; rintro e wl ⟨rfl, hwl⟩; have HTl : Aside0 (R29 w0 wl g (some ad0) c0 args.length A2 c2 fs.length cwd i er od) := ⟨(by obtain ⟨m_, rfl⟩ := hwl; exact HT.out.drewN m_)⟩; clear hwl; have k0wl := HTl.out.c0_; have k1wl := HTl.out.c1_; have k4wl := HTl.out.c4_; have f1wl := HTl.out.fz 1; have f4wl := HTl.out.fz 4; have q0wl : World.cell? wl ad = some (.string a) := (by have e_ := hq_.out wl HTl.out.below 0 a rfl; rwa [add0] at e_); have s0wl := set_far q0wl HB.out; have s0d := fun nq => set_far (W := wl.drewN nq) (show World.cell? (wl.drewN nq) ad = some (.string a) from q0wl) HB.out; have q1wl : World.cell? wl ⟨ad.block, ad.off + 1, none⟩ = some (.string b) := (by have e_ := hq_.out wl HTl.out.below 1 b rfl; rwa [addS _ _ (by decide)] at e_); have s1wl := set_far q1wl HB.out; have s1d := fun nq => set_far (W := wl.drewN nq) (show World.cell? (wl.drewN nq) ⟨ad.block, ad.off + 1, none⟩ = some (.string b) from q1wl) HB.out)
        go_quiet (fail)
        go_wp2_with (first
          | (go_at_call 66; refine (HN.out _ (i + 1) er od v1 v2 v3 v4 (by omega) (R29.at_eq (((R29.drewN HTl.out _)).setAt _) (by first | exact HW1.out | rfl | omega)) HV.out).mono ?_; rintro e w2 ⟨rfl, hle, ht⟩; have HT2 := Aside0.mk ht; have HLE := Aside0.mk hle; clear ht hle))
        have hle := HLE.out
        go_ret
        first | exact ⟨rfl, HT2.out⟩ | exact ⟨rfl, (by omega), HT2.out⟩ | exact ⟨by first | rfl | (simp [*]; done) | (simp [isE_ne, *]; done), (by omega), HT2.out⟩ | exact ⟨by first | rfl | (simp [*]; done) | (simp [isE_ne, *]; done), HT2.out⟩
      rw [if_neg d1] at h
      have bd1 : (a.toList == ([33] : List UInt8)) = false := beq_eq_false_iff_ne.mpr d1
      by_cases d2 : a.toList = [40]
      · rw [if_pos d2] at h
        have bd2 : (a.toList == ([40] : List UInt8)) = true := beq_iff_eq.mpr d2
        obtain ⟨⟨v1, v2, v3, v4⟩, hv, h⟩ := Option.bind_eq_some_iff.1 h
        have HV := Aside0.mk hv
        have H := Aside0.mk h
        clear hv h
        go_enter Tryd.func66, Tryd.ntmps66
        go_wp2_with (go_at_call 48; refine (left_calls HT.out hi hn L0 HL0.out).mono ?_; rintro e wl ⟨rfl, hwl⟩; have HTl : Aside0 (R29 w0 wl g (some ad0) c0 args.length A2 c2 fs.length cwd i er od) := ⟨(by obtain ⟨m_, rfl⟩ := hwl; exact HT.out.drewN m_)⟩; clear hwl; have k0wl := HTl.out.c0_; have k1wl := HTl.out.c1_; have k4wl := HTl.out.c4_; have f1wl := HTl.out.fz 1; have f4wl := HTl.out.fz 4; have q0wl : World.cell? wl ad = some (.string a) := (by have e_ := hq_.out wl HTl.out.below 0 a rfl; rwa [add0] at e_); have s0wl := set_far q0wl HB.out; have s0d := fun nq => set_far (W := wl.drewN nq) (show World.cell? (wl.drewN nq) ad = some (.string a) from q0wl) HB.out; have q1wl : World.cell? wl ⟨ad.block, ad.off + 1, none⟩ = some (.string b) := (by have e_ := hq_.out wl HTl.out.below 1 b rfl; rwa [addS _ _ (by decide)] at e_); have s1wl := set_far q1wl HB.out; have s1d := fun nq => set_far (W := wl.drewN nq) (show World.cell? (wl.drewN nq) ⟨ad.block, ad.off + 1, none⟩ = some (.string b) from q1wl) HB.out)
        go_quiet (fail)
        go_wp2_with (first
          | (go_at_call 47; refine (HO.out _ (i + 1) er od v1 v2 v3 v4 (by omega) (R29.at_eq (((R29.drewN HTl.out _)).setAt _) (by first | exact HW1.out | rfl | omega)) HV.out).mono ?_; rintro e w2 ⟨rfl, hle, ht⟩; have HT2 := Aside0.mk ht; have HLE := Aside0.mk hle; have k0w2 := HT2.out.c0_; have k1w2 := HT2.out.c1_; have k4w2 := HT2.out.c4_; have f1w2 := HT2.out.fz 1; have f4w2 := HT2.out.fz 4; clear ht hle))
        have h := H.out
        clear H
        try simp only at h
        have hle := HLE.out
        obtain ⟨L2, hL2⟩ : ∃ L : Int, L = (args.length : Int) - (v2 : Int) := ⟨_, rfl⟩
        have HL2 := Aside0.mk hL2
        by_cases hv2 : v2 < args.length
        · have hx2 := HQ0.out w2 HT2.out.below v2 (args.getD v2 ByteArray.empty) (by rw [List.getD_eq_getElem?_getD, List.getElem?_eq_getElem hv2]; rfl)
          have g1 : decide (L2 < 1) = false := decide_eq_false (by omega)
          clear hL2
          generalize args.getD v2 ByteArray.empty = x2 at hx2 h
          by_cases dx : x2.toList = [41]
          · rw [if_pos ⟨hv2, dx⟩] at h
            simp only [Option.some.injEq, Prod.mk.injEq] at h
            obtain ⟨rfl, rfl, rfl, rfl⟩ := h
            have bdx : (x2.toList == ([41] : List UInt8)) = true := beq_iff_eq.mpr dx
            have b9 : (x2.toList != ([41] : List UInt8)) = false := bne_eq_false_iff_eq.mpr dx
            go_quiet (first | (go_at_call 48; refine Calls.quiet_of (left_calls (R29.drewN HT2.out _) HLE.out hn L2 HL2.out)))
            go_wp2
            go_ret
            first | exact ⟨rfl, (R29.at_eq ((R29.drewN HT2.out _).setAt _) (by first | rfl | (unfold wrap64; omega) | omega))⟩ | exact ⟨rfl, (by omega), (R29.at_eq ((R29.drewN HT2.out _).setAt _) (by first | rfl | (unfold wrap64; omega) | omega))⟩ | exact ⟨by first | rfl | (simp [*]; done) | (simp [isE_ne, *]; done), (by omega), (R29.at_eq ((R29.drewN HT2.out _).setAt _) (by first | rfl | (unfold wrap64; omega) | omega))⟩ | exact ⟨by first | rfl | (simp [*]; done) | (simp [isE_ne, *]; done), (R29.at_eq ((R29.drewN HT2.out _).setAt _) (by first | rfl | (unfold wrap64; omega) | omega))⟩
          · rw [if_neg (fun e => dx e.2)] at h
            simp only [Option.some.injEq, Prod.mk.injEq] at h
            obtain ⟨rfl, rfl, rfl, rfl⟩ := h
            have bdx : (x2.toList == ([41] : List UInt8)) = false := beq_eq_false_iff_ne.mpr dx
            have b9 : (x2.toList != ([41] : List UInt8)) = true := bne_iff_ne.mpr dx
            go_quiet (first | (go_at_call 48; refine Calls.quiet_of (left_calls (R29.drewN HT2.out _) HLE.out hn L2 HL2.out)))
            go_wp2
            go_ret
            first | exact ⟨rfl, (R29.drewN HT2.out _).setErr 27⟩ | exact ⟨rfl, (by omega), (R29.drewN HT2.out _).setErr 27⟩ | exact ⟨by first | rfl | (simp [*]; done) | (simp [isE_ne, *]; done), (by omega), (R29.drewN HT2.out _).setErr 27⟩ | exact ⟨by first | rfl | (simp [*]; done) | (simp [isE_ne, *]; done), (R29.drewN HT2.out _).setErr 27⟩
        · rw [if_neg (fun e => hv2 e.1)] at h
          simp only [Option.some.injEq, Prod.mk.injEq] at h
          obtain ⟨rfl, rfl, rfl, rfl⟩ := h
          have g1 : decide (L2 < 1) = true := decide_eq_true (by omega)
          clear hL2
          go_quiet (first | (go_at_call 48; refine Calls.quiet_of (left_calls (R29.drewN HT2.out _) HLE.out hn L2 HL2.out)))
          go_wp2
          go_ret
          first | exact ⟨rfl, (R29.drewN HT2.out _).setErr 27⟩ | exact ⟨rfl, (by omega), (R29.drewN HT2.out _).setErr 27⟩ | exact ⟨by first | rfl | (simp [*]; done) | (simp [isE_ne, *]; done), (by omega), (R29.drewN HT2.out _).setErr 27⟩ | exact ⟨by first | rfl | (simp [*]; done) | (simp [isE_ne, *]; done), (R29.drewN HT2.out _).setErr 27⟩
      rw [if_neg d2] at h
      have bd2 : (a.toList == ([40] : List UInt8)) = false := beq_eq_false_iff_ne.mpr d2
      by_cases d3 : uB a = true
      · rw [if_pos d3] at h
        obtain ⟨v, hv, h⟩ := Option.bind_eq_some_iff.1 h
        have HV := Aside0.mk hv
        clear hv
        simp only [Option.some.injEq, Prod.mk.injEq] at h
        obtain ⟨rfl, rfl, rfl, rfl⟩ := h
        go_enter Tryd.func66, Tryd.ntmps66
        go_wp2_with (go_at_call 48; refine (left_calls HT.out hi hn L0 HL0.out).mono ?_; rintro e wl ⟨rfl, hwl⟩; have HTl : Aside0 (R29 w0 wl g (some ad0) c0 args.length A2 c2 fs.length cwd i er od) := ⟨(by obtain ⟨m_, rfl⟩ := hwl; exact HT.out.drewN m_)⟩; clear hwl; have k0wl := HTl.out.c0_; have k1wl := HTl.out.c1_; have k4wl := HTl.out.c4_; have f1wl := HTl.out.fz 1; have f4wl := HTl.out.fz 4; have q0wl : World.cell? wl ad = some (.string a) := (by have e_ := hq_.out wl HTl.out.below 0 a rfl; rwa [add0] at e_); have s0wl := set_far q0wl HB.out; have s0d := fun nq => set_far (W := wl.drewN nq) (show World.cell? (wl.drewN nq) ad = some (.string a) from q0wl) HB.out; have q1wl : World.cell? wl ⟨ad.block, ad.off + 1, none⟩ = some (.string b) := (by have e_ := hq_.out wl HTl.out.below 1 b rfl; rwa [addS _ _ (by decide)] at e_); have s1wl := set_far q1wl HB.out; have s1d := fun nq => set_far (W := wl.drewN nq) (show World.cell? (wl.drewN nq) ⟨ad.block, ad.off + 1, none⟩ = some (.string b) from q1wl) HB.out)
        go_quiet (fail)
        go_wp2_with (first
          | (go_at_call 31; refine (ru_calls a _).mono ?_; rintro e w3 ⟨rfl, hb⟩; have HT3 := Aside0.mk (((R29.drewN HTl.out _)).step hb); have k0w3 := HT3.out.c0_; have k1w3 := HT3.out.c1_; have k4w3 := HT3.out.c4_; have f1w3 := HT3.out.fz 1; have f4w3 := HT3.out.fz 4; have q0w3 : World.cell? w3 ad = some (.string a) := (by have e_ := hq_.out w3 HT3.out.below 0 a rfl; rwa [add0] at e_); have s0w3 := set_far q0w3 HB.out; have q1w3 : World.cell? w3 ⟨ad.block, ad.off + 1, none⟩ = some (.string b) := (by have e_ := hq_.out w3 HT3.out.below 1 b rfl; rwa [addS _ _ (by decide)] at e_); have s1w3 := set_far q1w3 HB.out; clear hb))
        go_region_held3 (fun w' => World.cell? w' ad = some (.string a) ∧ World.cell? w' ⟨ad.block, ad.off + 1, none⟩ = some (.string b))
          (first | go_keep | exact ⟨s0w3 1 _, s1w3 1 _⟩ | exact ⟨q0w4, q1w4⟩)
          (first | (go_at_call 32; refine (rOne_calls k a b v HS.out.r2 HS.out.l2 (R29.drewN (R29.setAt HT3.out _) _) HV.out).mono ?_; rintro e w4 ⟨rfl, hb⟩; have HT4 := Aside0.mk ((R29.drewN (R29.setAt HT3.out _) _).step hb); have q0w4 : World.cell? w4 ad = some (.string a) := (by have e_ := hq_.out w4 HT4.out.below 0 a rfl; rwa [add0] at e_); have q1w4 : World.cell? w4 ⟨ad.block, ad.off + 1, none⟩ = some (.string b) := (by have e_ := hq_.out w4 HT4.out.below 1 b rfl; rwa [addS _ _ (by decide)] at e_); clear hb))
        go_wp2
        go_ret
        first | exact ⟨rfl, (R29.at_eq HT4.out (by first | exact HW2.out | rfl | omega))⟩ | exact ⟨rfl, (by omega), (R29.at_eq HT4.out (by first | exact HW2.out | rfl | omega))⟩ | exact ⟨by first | rfl | (simp [*]; done) | (simp [isE_ne, *]; done), (by omega), (R29.at_eq HT4.out (by first | exact HW2.out | rfl | omega))⟩ | exact ⟨by first | rfl | (simp [*]; done) | (simp [isE_ne, *]; done), (R29.at_eq HT4.out (by first | exact HW2.out | rfl | omega))⟩
      · rw [if_neg d3] at h
        have d3' := Bool.eq_false_iff.mpr d3
        simp only [Option.some.injEq, Prod.mk.injEq] at h
        obtain ⟨rfl, rfl, rfl, rfl⟩ := h
        go_enter Tryd.func66, Tryd.ntmps66
        go_wp2_with (go_at_call 48; refine (left_calls HT.out hi hn L0 HL0.out).mono ?_; rintro e wl ⟨rfl, hwl⟩; have HTl : Aside0 (R29 w0 wl g (some ad0) c0 args.length A2 c2 fs.length cwd i er od) := ⟨(by obtain ⟨m_, rfl⟩ := hwl; exact HT.out.drewN m_)⟩; clear hwl; have k0wl := HTl.out.c0_; have k1wl := HTl.out.c1_; have k4wl := HTl.out.c4_; have f1wl := HTl.out.fz 1; have f4wl := HTl.out.fz 4; have q0wl : World.cell? wl ad = some (.string a) := (by have e_ := hq_.out wl HTl.out.below 0 a rfl; rwa [add0] at e_); have s0wl := set_far q0wl HB.out; have s0d := fun nq => set_far (W := wl.drewN nq) (show World.cell? (wl.drewN nq) ad = some (.string a) from q0wl) HB.out; have q1wl : World.cell? wl ⟨ad.block, ad.off + 1, none⟩ = some (.string b) := (by have e_ := hq_.out wl HTl.out.below 1 b rfl; rwa [addS _ _ (by decide)] at e_); have s1wl := set_far q1wl HB.out; have s1d := fun nq => set_far (W := wl.drewN nq) (show World.cell? (wl.drewN nq) ⟨ad.block, ad.off + 1, none⟩ = some (.string b) from q1wl) HB.out)
        go_quiet (fail)
        go_wp2_with (first
          | (go_at_call 31; refine (ru_calls a _).mono ?_; rintro e w3 ⟨rfl, hb⟩; have HT3 := Aside0.mk (((R29.drewN HTl.out _)).step hb); have k0w3 := HT3.out.c0_; have k1w3 := HT3.out.c1_; have k4w3 := HT3.out.c4_; have f1w3 := HT3.out.fz 1; have f4w3 := HT3.out.fz 4; have q0w3 : World.cell? w3 ad = some (.string a) := (by have e_ := hq_.out w3 HT3.out.below 0 a rfl; rwa [add0] at e_); have s0w3 := set_far q0w3 HB.out; have q1w3 : World.cell? w3 ⟨ad.block, ad.off + 1, none⟩ = some (.string b) := (by have e_ := hq_.out w3 HT3.out.below 1 b rfl; rwa [addS _ _ (by decide)] at e_); have s1w3 := set_far q1w3 HB.out; clear hb))
        all_goals
          go_ret
          first | exact ⟨rfl, (R29.at_eq ((HT3.out).setAt _) (by first | exact HW1.out | rfl | omega))⟩ | exact ⟨rfl, (by omega), (R29.at_eq ((HT3.out).setAt _) (by first | exact HW1.out | rfl | omega))⟩ | exact ⟨by first | rfl | (simp [*]; done) | (simp [isE_ne, *]; done), (by omega), (R29.at_eq ((HT3.out).setAt _) (by first | exact HW1.out | rfl | omega))⟩ | exact ⟨by first | rfl | (simp [*]; done) | (simp [isE_ne, *]; done), (R29.at_eq ((HT3.out).setAt _) (by first | exact HW1.out | rfl | omega))⟩
    | cons c r =>
      have p2 : 2 < m := by rw [hmr]; simp
      have z2 : (2 : Int) < (m : Int) := by omega
      have m3 : decide ((3 : Int) ≤ (m : Int)) = true := decide_eq_true (by omega)
      clear hmr
      dsimp only at h
      by_cases d0 : bB b = true
      · rw [if_pos ⟨by simp, d0⟩] at h
        obtain ⟨⟨v1, v2⟩, hv, h⟩ := Option.bind_eq_some_iff.1 h
        have HV := Aside0.mk hv
        clear hv
        simp only [List.getD_cons_zero] at HV
        simp only [Option.some.injEq, Prod.mk.injEq] at h
        obtain ⟨rfl, rfl, rfl, rfl⟩ := h
        go_enter Tryd.func66, Tryd.ntmps66
        go_wp2_with (go_at_call 48; refine (left_calls HT.out hi hn L0 HL0.out).mono ?_; rintro e wl ⟨rfl, hwl⟩; have HTl : Aside0 (R29 w0 wl g (some ad0) c0 args.length A2 c2 fs.length cwd i er od) := ⟨(by obtain ⟨m_, rfl⟩ := hwl; exact HT.out.drewN m_)⟩; clear hwl; have k0wl := HTl.out.c0_; have k1wl := HTl.out.c1_; have k4wl := HTl.out.c4_; have f1wl := HTl.out.fz 1; have f4wl := HTl.out.fz 4; have q0wl : World.cell? wl ad = some (.string a) := (by have e_ := hq_.out wl HTl.out.below 0 a rfl; rwa [add0] at e_); have s0wl := set_far q0wl HB.out; have s0d := fun nq => set_far (W := wl.drewN nq) (show World.cell? (wl.drewN nq) ad = some (.string a) from q0wl) HB.out; have q1wl : World.cell? wl ⟨ad.block, ad.off + 1, none⟩ = some (.string b) := (by have e_ := hq_.out wl HTl.out.below 1 b rfl; rwa [addS _ _ (by decide)] at e_); have s1wl := set_far q1wl HB.out; have s1d := fun nq => set_far (W := wl.drewN nq) (show World.cell? (wl.drewN nq) ⟨ad.block, ad.off + 1, none⟩ = some (.string b) from q1wl) HB.out; have q2wl : World.cell? wl ⟨ad.block, ad.off + 2, none⟩ = some (.string c) := (by have e_ := hq_.out wl HTl.out.below 2 c rfl; rwa [addS _ _ (by decide)] at e_); have s2wl := set_far q2wl HB.out; have s2d := fun nq => set_far (W := wl.drewN nq) (show World.cell? (wl.drewN nq) ⟨ad.block, ad.off + 2, none⟩ = some (.string c) from q2wl) HB.out)
        go_quiet (fail)
        go_wp2_with (first
          | (go_at_call 29; refine (rb_calls b _).mono ?_; rintro e w1 ⟨rfl, hb⟩; have HT1 := Aside0.mk (((R29.drewN HTl.out _)).step hb); have k0w1 := HT1.out.c0_; have k1w1 := HT1.out.c1_; have k4w1 := HT1.out.c4_; have f1w1 := HT1.out.fz 1; have f4w1 := HT1.out.fz 4; have q0w1 : World.cell? w1 ad = some (.string a) := (by have e_ := hq_.out w1 HT1.out.below 0 a rfl; rwa [add0] at e_); have s0w1 := set_far q0w1 HB.out; have q1w1 : World.cell? w1 ⟨ad.block, ad.off + 1, none⟩ = some (.string b) := (by have e_ := hq_.out w1 HT1.out.below 1 b rfl; rwa [addS _ _ (by decide)] at e_); have s1w1 := set_far q1w1 HB.out; have q2w1 : World.cell? w1 ⟨ad.block, ad.off + 2, none⟩ = some (.string c) := (by have e_ := hq_.out w1 HT1.out.below 2 c rfl; rwa [addS _ _ (by decide)] at e_); have s2w1 := set_far q2w1 HB.out; clear hb))
        go_region_held3 (fun w' => World.cell? w' ad = some (.string a) ∧ World.cell? w' ⟨ad.block, ad.off + 1, none⟩ = some (.string b) ∧ World.cell? w' ⟨ad.block, ad.off + 2, none⟩ = some (.string c))
          (first | go_keep | exact ⟨s0w1 1 _, s1w1 1 _, s2w1 1 _⟩ | exact ⟨q0w4, q1w4, q2w4⟩)
          (first | (go_at_call 30; refine (rTwo_calls k a b c v1 v2 (R29.drewN (R29.setAt HT1.out _) _) HV.out).mono ?_; rintro e w4 ⟨rfl, ht⟩; have HT4 := Aside0.mk ht; have q0w4 : World.cell? w4 ad = some (.string a) := (by have e_ := hq_.out w4 HT4.out.below 0 a rfl; rwa [add0] at e_); have q1w4 : World.cell? w4 ⟨ad.block, ad.off + 1, none⟩ = some (.string b) := (by have e_ := hq_.out w4 HT4.out.below 1 b rfl; rwa [addS _ _ (by decide)] at e_); have q2w4 : World.cell? w4 ⟨ad.block, ad.off + 2, none⟩ = some (.string c) := (by have e_ := hq_.out w4 HT4.out.below 2 c rfl; rwa [addS _ _ (by decide)] at e_); clear ht))
        go_wp2
        go_ret
        first | exact ⟨rfl, (R29.at_eq HT4.out (by first | exact HW3.out | rfl | omega))⟩ | exact ⟨rfl, (by omega), (R29.at_eq HT4.out (by first | exact HW3.out | rfl | omega))⟩ | exact ⟨by first | rfl | (simp [*]; done) | (simp [isE_ne, *]; done), (by omega), (R29.at_eq HT4.out (by first | exact HW3.out | rfl | omega))⟩ | exact ⟨by first | rfl | (simp [*]; done) | (simp [isE_ne, *]; done), (R29.at_eq HT4.out (by first | exact HW3.out | rfl | omega))⟩
      rw [if_neg (fun e => d0 e.2)] at h
      have d0' := Bool.eq_false_iff.mpr d0
      by_cases d1 : a.toList = [33]
      · rw [if_pos d1] at h
        obtain ⟨⟨v1, v2, v3, v4⟩, hv, h⟩ := Option.bind_eq_some_iff.1 h
        have HV := Aside0.mk hv
        clear hv
        simp only [Option.some.injEq, Prod.mk.injEq] at h
        obtain ⟨rfl, rfl, rfl, rfl⟩ := h
        have bd1 : (a.toList == ([33] : List UInt8)) = true := beq_iff_eq.mpr d1
        go_enter Tryd.func66, Tryd.ntmps66
        go_wp2_with (go_at_call 48; refine (left_calls HT.out hi hn L0 HL0.out).mono ?_; rintro e wl ⟨rfl, hwl⟩; have HTl : Aside0 (R29 w0 wl g (some ad0) c0 args.length A2 c2 fs.length cwd i er od) := ⟨(by obtain ⟨m_, rfl⟩ := hwl; exact HT.out.drewN m_)⟩; clear hwl; have k0wl := HTl.out.c0_; have k1wl := HTl.out.c1_; have k4wl := HTl.out.c4_; have f1wl := HTl.out.fz 1; have f4wl := HTl.out.fz 4; have q0wl : World.cell? wl ad = some (.string a) := (by have e_ := hq_.out wl HTl.out.below 0 a rfl; rwa [add0] at e_); have s0wl := set_far q0wl HB.out; have s0d := fun nq => set_far (W := wl.drewN nq) (show World.cell? (wl.drewN nq) ad = some (.string a) from q0wl) HB.out; have q1wl : World.cell? wl ⟨ad.block, ad.off + 1, none⟩ = some (.string b) := (by have e_ := hq_.out wl HTl.out.below 1 b rfl; rwa [addS _ _ (by decide)] at e_); have s1wl := set_far q1wl HB.out; have s1d := fun nq => set_far (W := wl.drewN nq) (show World.cell? (wl.drewN nq) ⟨ad.block, ad.off + 1, none⟩ = some (.string b) from q1wl) HB.out; have q2wl : World.cell? wl ⟨ad.block, ad.off + 2, none⟩ = some (.string c) := (by have e_ := hq_.out wl HTl.out.below 2 c rfl; rwa [addS _ _ (by decide)] at e_); have s2wl := set_far q2wl HB.out; have s2d := fun nq => set_far (W := wl.drewN nq) (show World.cell? (wl.drewN nq) ⟨ad.block, ad.off + 2, none⟩ = some (.string c) from q2wl) HB.out)
        go_quiet (fail)
        go_wp2_with (first
          | (go_at_call 29; refine (rb_calls b _).mono ?_; rintro e w1 ⟨rfl, hb⟩; have HT1 := Aside0.mk (((R29.drewN HTl.out _)).step hb); have k0w1 := HT1.out.c0_; have k1w1 := HT1.out.c1_; have k4w1 := HT1.out.c4_; have f1w1 := HT1.out.fz 1; have f4w1 := HT1.out.fz 4; have q0w1 : World.cell? w1 ad = some (.string a) := (by have e_ := hq_.out w1 HT1.out.below 0 a rfl; rwa [add0] at e_); have s0w1 := set_far q0w1 HB.out; have q1w1 : World.cell? w1 ⟨ad.block, ad.off + 1, none⟩ = some (.string b) := (by have e_ := hq_.out w1 HT1.out.below 1 b rfl; rwa [addS _ _ (by decide)] at e_); have s1w1 := set_far q1w1 HB.out; have q2w1 : World.cell? w1 ⟨ad.block, ad.off + 2, none⟩ = some (.string c) := (by have e_ := hq_.out w1 HT1.out.below 2 c rfl; rwa [addS _ _ (by decide)] at e_); have s2w1 := set_far q2w1 HB.out; clear hb)
          | (go_at_call 66; refine (HN.out _ (i + 1) er od v1 v2 v3 v4 (by omega) (R29.at_eq ((HT1.out).setAt _) (by first | exact HW1.out | rfl | omega)) HV.out).mono ?_; rintro e w2 ⟨rfl, hle, ht⟩; have HT2 := Aside0.mk ht; have HLE := Aside0.mk hle; clear ht hle))
        have hle := HLE.out
        go_ret
        first | exact ⟨rfl, HT2.out⟩ | exact ⟨rfl, (by omega), HT2.out⟩ | exact ⟨by first | rfl | (simp [*]; done) | (simp [isE_ne, *]; done), (by omega), HT2.out⟩ | exact ⟨by first | rfl | (simp [*]; done) | (simp [isE_ne, *]; done), HT2.out⟩
      rw [if_neg d1] at h
      have bd1 : (a.toList == ([33] : List UInt8)) = false := beq_eq_false_iff_ne.mpr d1
      by_cases d2 : a.toList = [40]
      · rw [if_pos d2] at h
        have bd2 : (a.toList == ([40] : List UInt8)) = true := beq_iff_eq.mpr d2
        obtain ⟨⟨v1, v2, v3, v4⟩, hv, h⟩ := Option.bind_eq_some_iff.1 h
        have HV := Aside0.mk hv
        have H := Aside0.mk h
        clear hv h
        go_enter Tryd.func66, Tryd.ntmps66
        go_wp2_with (go_at_call 48; refine (left_calls HT.out hi hn L0 HL0.out).mono ?_; rintro e wl ⟨rfl, hwl⟩; have HTl : Aside0 (R29 w0 wl g (some ad0) c0 args.length A2 c2 fs.length cwd i er od) := ⟨(by obtain ⟨m_, rfl⟩ := hwl; exact HT.out.drewN m_)⟩; clear hwl; have k0wl := HTl.out.c0_; have k1wl := HTl.out.c1_; have k4wl := HTl.out.c4_; have f1wl := HTl.out.fz 1; have f4wl := HTl.out.fz 4; have q0wl : World.cell? wl ad = some (.string a) := (by have e_ := hq_.out wl HTl.out.below 0 a rfl; rwa [add0] at e_); have s0wl := set_far q0wl HB.out; have s0d := fun nq => set_far (W := wl.drewN nq) (show World.cell? (wl.drewN nq) ad = some (.string a) from q0wl) HB.out; have q1wl : World.cell? wl ⟨ad.block, ad.off + 1, none⟩ = some (.string b) := (by have e_ := hq_.out wl HTl.out.below 1 b rfl; rwa [addS _ _ (by decide)] at e_); have s1wl := set_far q1wl HB.out; have s1d := fun nq => set_far (W := wl.drewN nq) (show World.cell? (wl.drewN nq) ⟨ad.block, ad.off + 1, none⟩ = some (.string b) from q1wl) HB.out; have q2wl : World.cell? wl ⟨ad.block, ad.off + 2, none⟩ = some (.string c) := (by have e_ := hq_.out wl HTl.out.below 2 c rfl; rwa [addS _ _ (by decide)] at e_); have s2wl := set_far q2wl HB.out; have s2d := fun nq => set_far (W := wl.drewN nq) (show World.cell? (wl.drewN nq) ⟨ad.block, ad.off + 2, none⟩ = some (.string c) from q2wl) HB.out)
        go_quiet (fail)
        go_wp2_with (first
          | (go_at_call 29; refine (rb_calls b _).mono ?_; rintro e w1 ⟨rfl, hb⟩; have HT1 := Aside0.mk (((R29.drewN HTl.out _)).step hb); have k0w1 := HT1.out.c0_; have k1w1 := HT1.out.c1_; have k4w1 := HT1.out.c4_; have f1w1 := HT1.out.fz 1; have f4w1 := HT1.out.fz 4; have q0w1 : World.cell? w1 ad = some (.string a) := (by have e_ := hq_.out w1 HT1.out.below 0 a rfl; rwa [add0] at e_); have s0w1 := set_far q0w1 HB.out; have q1w1 : World.cell? w1 ⟨ad.block, ad.off + 1, none⟩ = some (.string b) := (by have e_ := hq_.out w1 HT1.out.below 1 b rfl; rwa [addS _ _ (by decide)] at e_); have s1w1 := set_far q1w1 HB.out; have q2w1 : World.cell? w1 ⟨ad.block, ad.off + 2, none⟩ = some (.string c) := (by have e_ := hq_.out w1 HT1.out.below 2 c rfl; rwa [addS _ _ (by decide)] at e_); have s2w1 := set_far q2w1 HB.out; clear hb)
          | (go_at_call 47; refine (HO.out _ (i + 1) er od v1 v2 v3 v4 (by omega) (R29.at_eq ((HT1.out).setAt _) (by first | exact HW1.out | rfl | omega)) HV.out).mono ?_; rintro e w2 ⟨rfl, hle, ht⟩; have HT2 := Aside0.mk ht; have HLE := Aside0.mk hle; have k0w2 := HT2.out.c0_; have k1w2 := HT2.out.c1_; have k4w2 := HT2.out.c4_; have f1w2 := HT2.out.fz 1; have f4w2 := HT2.out.fz 4; clear ht hle))
        have h := H.out
        clear H
        try simp only at h
        have hle := HLE.out
        obtain ⟨L2, hL2⟩ : ∃ L : Int, L = (args.length : Int) - (v2 : Int) := ⟨_, rfl⟩
        have HL2 := Aside0.mk hL2
        by_cases hv2 : v2 < args.length
        · have hx2 := HQ0.out w2 HT2.out.below v2 (args.getD v2 ByteArray.empty) (by rw [List.getD_eq_getElem?_getD, List.getElem?_eq_getElem hv2]; rfl)
          have g1 : decide (L2 < 1) = false := decide_eq_false (by omega)
          clear hL2
          generalize args.getD v2 ByteArray.empty = x2 at hx2 h
          by_cases dx : x2.toList = [41]
          · rw [if_pos ⟨hv2, dx⟩] at h
            simp only [Option.some.injEq, Prod.mk.injEq] at h
            obtain ⟨rfl, rfl, rfl, rfl⟩ := h
            have bdx : (x2.toList == ([41] : List UInt8)) = true := beq_iff_eq.mpr dx
            have b9 : (x2.toList != ([41] : List UInt8)) = false := bne_eq_false_iff_eq.mpr dx
            go_quiet (first | (go_at_call 48; refine Calls.quiet_of (left_calls (R29.drewN HT2.out _) HLE.out hn L2 HL2.out)))
            go_wp2
            go_ret
            first | exact ⟨rfl, (R29.at_eq ((R29.drewN HT2.out _).setAt _) (by first | rfl | (unfold wrap64; omega) | omega))⟩ | exact ⟨rfl, (by omega), (R29.at_eq ((R29.drewN HT2.out _).setAt _) (by first | rfl | (unfold wrap64; omega) | omega))⟩ | exact ⟨by first | rfl | (simp [*]; done) | (simp [isE_ne, *]; done), (by omega), (R29.at_eq ((R29.drewN HT2.out _).setAt _) (by first | rfl | (unfold wrap64; omega) | omega))⟩ | exact ⟨by first | rfl | (simp [*]; done) | (simp [isE_ne, *]; done), (R29.at_eq ((R29.drewN HT2.out _).setAt _) (by first | rfl | (unfold wrap64; omega) | omega))⟩
          · rw [if_neg (fun e => dx e.2)] at h
            simp only [Option.some.injEq, Prod.mk.injEq] at h
            obtain ⟨rfl, rfl, rfl, rfl⟩ := h
            have bdx : (x2.toList == ([41] : List UInt8)) = false := beq_eq_false_iff_ne.mpr dx
            have b9 : (x2.toList != ([41] : List UInt8)) = true := bne_iff_ne.mpr dx
            go_quiet (first | (go_at_call 48; refine Calls.quiet_of (left_calls (R29.drewN HT2.out _) HLE.out hn L2 HL2.out)))
            go_wp2
            go_ret
            first | exact ⟨rfl, (R29.drewN HT2.out _).setErr 27⟩ | exact ⟨rfl, (by omega), (R29.drewN HT2.out _).setErr 27⟩ | exact ⟨by first | rfl | (simp [*]; done) | (simp [isE_ne, *]; done), (by omega), (R29.drewN HT2.out _).setErr 27⟩ | exact ⟨by first | rfl | (simp [*]; done) | (simp [isE_ne, *]; done), (R29.drewN HT2.out _).setErr 27⟩
        · rw [if_neg (fun e => hv2 e.1)] at h
          simp only [Option.some.injEq, Prod.mk.injEq] at h
          obtain ⟨rfl, rfl, rfl, rfl⟩ := h
          have g1 : decide (L2 < 1) = true := decide_eq_true (by omega)
          clear hL2
          go_quiet (first | (go_at_call 48; refine Calls.quiet_of (left_calls (R29.drewN HT2.out _) HLE.out hn L2 HL2.out)))
          go_wp2
          go_ret
          first | exact ⟨rfl, (R29.drewN HT2.out _).setErr 27⟩ | exact ⟨rfl, (by omega), (R29.drewN HT2.out _).setErr 27⟩ | exact ⟨by first | rfl | (simp [*]; done) | (simp [isE_ne, *]; done), (by omega), (R29.drewN HT2.out _).setErr 27⟩ | exact ⟨by first | rfl | (simp [*]; done) | (simp [isE_ne, *]; done), (R29.drewN HT2.out _).setErr 27⟩
      rw [if_neg d2] at h
      have bd2 : (a.toList == ([40] : List UInt8)) = false := beq_eq_false_iff_ne.mpr d2
      by_cases d3 : uB a = true
      · rw [if_pos d3] at h
        obtain ⟨v, hv, h⟩ := Option.bind_eq_some_iff.1 h
        have HV := Aside0.mk hv
        clear hv
        simp only [Option.some.injEq, Prod.mk.injEq] at h
        obtain ⟨rfl, rfl, rfl, rfl⟩ := h
        go_enter Tryd.func66, Tryd.ntmps66
        go_wp2_with (go_at_call 48; refine (left_calls HT.out hi hn L0 HL0.out).mono ?_; rintro e wl ⟨rfl, hwl⟩; have HTl : Aside0 (R29 w0 wl g (some ad0) c0 args.length A2 c2 fs.length cwd i er od) := ⟨(by obtain ⟨m_, rfl⟩ := hwl; exact HT.out.drewN m_)⟩; clear hwl; have k0wl := HTl.out.c0_; have k1wl := HTl.out.c1_; have k4wl := HTl.out.c4_; have f1wl := HTl.out.fz 1; have f4wl := HTl.out.fz 4; have q0wl : World.cell? wl ad = some (.string a) := (by have e_ := hq_.out wl HTl.out.below 0 a rfl; rwa [add0] at e_); have s0wl := set_far q0wl HB.out; have s0d := fun nq => set_far (W := wl.drewN nq) (show World.cell? (wl.drewN nq) ad = some (.string a) from q0wl) HB.out; have q1wl : World.cell? wl ⟨ad.block, ad.off + 1, none⟩ = some (.string b) := (by have e_ := hq_.out wl HTl.out.below 1 b rfl; rwa [addS _ _ (by decide)] at e_); have s1wl := set_far q1wl HB.out; have s1d := fun nq => set_far (W := wl.drewN nq) (show World.cell? (wl.drewN nq) ⟨ad.block, ad.off + 1, none⟩ = some (.string b) from q1wl) HB.out; have q2wl : World.cell? wl ⟨ad.block, ad.off + 2, none⟩ = some (.string c) := (by have e_ := hq_.out wl HTl.out.below 2 c rfl; rwa [addS _ _ (by decide)] at e_); have s2wl := set_far q2wl HB.out; have s2d := fun nq => set_far (W := wl.drewN nq) (show World.cell? (wl.drewN nq) ⟨ad.block, ad.off + 2, none⟩ = some (.string c) from q2wl) HB.out)
        go_quiet (fail)
        go_wp2_with (first
          | (go_at_call 29; refine (rb_calls b _).mono ?_; rintro e w1 ⟨rfl, hb⟩; have HT1 := Aside0.mk (((R29.drewN HTl.out _)).step hb); have k0w1 := HT1.out.c0_; have k1w1 := HT1.out.c1_; have k4w1 := HT1.out.c4_; have f1w1 := HT1.out.fz 1; have f4w1 := HT1.out.fz 4; have q0w1 : World.cell? w1 ad = some (.string a) := (by have e_ := hq_.out w1 HT1.out.below 0 a rfl; rwa [add0] at e_); have s0w1 := set_far q0w1 HB.out; have q1w1 : World.cell? w1 ⟨ad.block, ad.off + 1, none⟩ = some (.string b) := (by have e_ := hq_.out w1 HT1.out.below 1 b rfl; rwa [addS _ _ (by decide)] at e_); have s1w1 := set_far q1w1 HB.out; have q2w1 : World.cell? w1 ⟨ad.block, ad.off + 2, none⟩ = some (.string c) := (by have e_ := hq_.out w1 HT1.out.below 2 c rfl; rwa [addS _ _ (by decide)] at e_); have s2w1 := set_far q2w1 HB.out; clear hb)
          | (go_at_call 31; refine (ru_calls a _).mono ?_; rintro e w3 ⟨rfl, hb⟩; have HT3 := Aside0.mk ((HT1.out).step hb); have k0w3 := HT3.out.c0_; have k1w3 := HT3.out.c1_; have k4w3 := HT3.out.c4_; have f1w3 := HT3.out.fz 1; have f4w3 := HT3.out.fz 4; have q0w3 : World.cell? w3 ad = some (.string a) := (by have e_ := hq_.out w3 HT3.out.below 0 a rfl; rwa [add0] at e_); have s0w3 := set_far q0w3 HB.out; have q1w3 : World.cell? w3 ⟨ad.block, ad.off + 1, none⟩ = some (.string b) := (by have e_ := hq_.out w3 HT3.out.below 1 b rfl; rwa [addS _ _ (by decide)] at e_); have s1w3 := set_far q1w3 HB.out; have q2w3 : World.cell? w3 ⟨ad.block, ad.off + 2, none⟩ = some (.string c) := (by have e_ := hq_.out w3 HT3.out.below 2 c rfl; rwa [addS _ _ (by decide)] at e_); have s2w3 := set_far q2w3 HB.out; clear hb))
        go_region_held3 (fun w' => World.cell? w' ad = some (.string a) ∧ World.cell? w' ⟨ad.block, ad.off + 1, none⟩ = some (.string b))
          (first | go_keep | exact ⟨s0w3 1 _, s1w3 1 _⟩ | exact ⟨q0w4, q1w4⟩)
          (first | (go_at_call 32; refine (rOne_calls k a b v HS.out.r2 HS.out.l2 (R29.drewN (R29.setAt HT3.out _) _) HV.out).mono ?_; rintro e w4 ⟨rfl, hb⟩; have HT4 := Aside0.mk ((R29.drewN (R29.setAt HT3.out _) _).step hb); have q0w4 : World.cell? w4 ad = some (.string a) := (by have e_ := hq_.out w4 HT4.out.below 0 a rfl; rwa [add0] at e_); have q1w4 : World.cell? w4 ⟨ad.block, ad.off + 1, none⟩ = some (.string b) := (by have e_ := hq_.out w4 HT4.out.below 1 b rfl; rwa [addS _ _ (by decide)] at e_); clear hb))
        go_wp2
        go_ret
        first | exact ⟨rfl, (R29.at_eq HT4.out (by first | exact HW2.out | rfl | omega))⟩ | exact ⟨rfl, (by omega), (R29.at_eq HT4.out (by first | exact HW2.out | rfl | omega))⟩ | exact ⟨by first | rfl | (simp [*]; done) | (simp [isE_ne, *]; done), (by omega), (R29.at_eq HT4.out (by first | exact HW2.out | rfl | omega))⟩ | exact ⟨by first | rfl | (simp [*]; done) | (simp [isE_ne, *]; done), (R29.at_eq HT4.out (by first | exact HW2.out | rfl | omega))⟩
      · rw [if_neg d3] at h
        have d3' := Bool.eq_false_iff.mpr d3
        simp only [Option.some.injEq, Prod.mk.injEq] at h
        obtain ⟨rfl, rfl, rfl, rfl⟩ := h
        go_enter Tryd.func66, Tryd.ntmps66
        go_wp2_with (go_at_call 48; refine (left_calls HT.out hi hn L0 HL0.out).mono ?_; rintro e wl ⟨rfl, hwl⟩; have HTl : Aside0 (R29 w0 wl g (some ad0) c0 args.length A2 c2 fs.length cwd i er od) := ⟨(by obtain ⟨m_, rfl⟩ := hwl; exact HT.out.drewN m_)⟩; clear hwl; have k0wl := HTl.out.c0_; have k1wl := HTl.out.c1_; have k4wl := HTl.out.c4_; have f1wl := HTl.out.fz 1; have f4wl := HTl.out.fz 4; have q0wl : World.cell? wl ad = some (.string a) := (by have e_ := hq_.out wl HTl.out.below 0 a rfl; rwa [add0] at e_); have s0wl := set_far q0wl HB.out; have s0d := fun nq => set_far (W := wl.drewN nq) (show World.cell? (wl.drewN nq) ad = some (.string a) from q0wl) HB.out; have q1wl : World.cell? wl ⟨ad.block, ad.off + 1, none⟩ = some (.string b) := (by have e_ := hq_.out wl HTl.out.below 1 b rfl; rwa [addS _ _ (by decide)] at e_); have s1wl := set_far q1wl HB.out; have s1d := fun nq => set_far (W := wl.drewN nq) (show World.cell? (wl.drewN nq) ⟨ad.block, ad.off + 1, none⟩ = some (.string b) from q1wl) HB.out; have q2wl : World.cell? wl ⟨ad.block, ad.off + 2, none⟩ = some (.string c) := (by have e_ := hq_.out wl HTl.out.below 2 c rfl; rwa [addS _ _ (by decide)] at e_); have s2wl := set_far q2wl HB.out; have s2d := fun nq => set_far (W := wl.drewN nq) (show World.cell? (wl.drewN nq) ⟨ad.block, ad.off + 2, none⟩ = some (.string c) from q2wl) HB.out)
        go_quiet (fail)
        go_wp2_with (first
          | (go_at_call 29; refine (rb_calls b _).mono ?_; rintro e w1 ⟨rfl, hb⟩; have HT1 := Aside0.mk (((R29.drewN HTl.out _)).step hb); have k0w1 := HT1.out.c0_; have k1w1 := HT1.out.c1_; have k4w1 := HT1.out.c4_; have f1w1 := HT1.out.fz 1; have f4w1 := HT1.out.fz 4; have q0w1 : World.cell? w1 ad = some (.string a) := (by have e_ := hq_.out w1 HT1.out.below 0 a rfl; rwa [add0] at e_); have s0w1 := set_far q0w1 HB.out; have q1w1 : World.cell? w1 ⟨ad.block, ad.off + 1, none⟩ = some (.string b) := (by have e_ := hq_.out w1 HT1.out.below 1 b rfl; rwa [addS _ _ (by decide)] at e_); have s1w1 := set_far q1w1 HB.out; have q2w1 : World.cell? w1 ⟨ad.block, ad.off + 2, none⟩ = some (.string c) := (by have e_ := hq_.out w1 HT1.out.below 2 c rfl; rwa [addS _ _ (by decide)] at e_); have s2w1 := set_far q2w1 HB.out; clear hb)
          | (go_at_call 31; refine (ru_calls a _).mono ?_; rintro e w3 ⟨rfl, hb⟩; have HT3 := Aside0.mk ((HT1.out).step hb); have k0w3 := HT3.out.c0_; have k1w3 := HT3.out.c1_; have k4w3 := HT3.out.c4_; have f1w3 := HT3.out.fz 1; have f4w3 := HT3.out.fz 4; have q0w3 : World.cell? w3 ad = some (.string a) := (by have e_ := hq_.out w3 HT3.out.below 0 a rfl; rwa [add0] at e_); have s0w3 := set_far q0w3 HB.out; have q1w3 : World.cell? w3 ⟨ad.block, ad.off + 1, none⟩ = some (.string b) := (by have e_ := hq_.out w3 HT3.out.below 1 b rfl; rwa [addS _ _ (by decide)] at e_); have s1w3 := set_far q1w3 HB.out; have q2w3 : World.cell? w3 ⟨ad.block, ad.off + 2, none⟩ = some (.string c) := (by have e_ := hq_.out w3 HT3.out.below 2 c rfl; rwa [addS _ _ (by decide)] at e_); have s2w3 := set_far q2w3 HB.out; clear hb))
        all_goals
          go_ret
          first | exact ⟨rfl, (R29.at_eq ((HT3.out).setAt _) (by first | exact HW1.out | rfl | omega))⟩ | exact ⟨rfl, (by omega), (R29.at_eq ((HT3.out).setAt _) (by first | exact HW1.out | rfl | omega))⟩ | exact ⟨by first | rfl | (simp [*]; done) | (simp [isE_ne, *]; done), (by omega), (R29.at_eq ((HT3.out).setAt _) (by first | exact HW1.out | rfl | omega))⟩ | exact ⟨by first | rfl | (simp [*]; done) | (simp [isE_ne, *]; done), (R29.at_eq ((HT3.out).setAt _) (by first | exact HW1.out | rfl | omega))⟩
end
end Go.Proofs.YtoeiohfljaboaaaDoor.F
set_option linter.unusedVariables false
set_option linter.unusedSimpArgs false
namespace Go.Proofs.YtoeiohfljaboaaaDoor.F
open Go.RowKit Go.Proofs.YtoeiohfljaboaaaDoorW.PrintWords Go.Proofs.YtoeiohfljaboaaaDoorW.PrintLast Go.Proofs.YtoeiohfljaboaaaDoorW.PrintMore Go.Proofs.YtoeiohfljaboaaaDoor.Aid
section
variable {w0 : World} {g : Nat} {A0 : Option Addr} {c0 : Nat} {args : List ByteArray} {A2 : Option Addr} {c2 : Nat} {fs : List S_File} {cwd : ByteArray}
set_option maxHeartbeats 16000000 in
set_option maxRecDepth 100000 in
theorem qAnd_owes (k : Nat) (hS : TS w0 A0 c0 args A2 c2 fs) (hn : args.length ≤ 1000000) (n : Nat) (hN : ∀ j, j ≤ n → OwesR w0 g A0 c0 args A2 c2 fs cwd 66 (qNot k fs cwd args j)) :
    OwesR w0 g A0 c0 args A2 c2 fs cwd 58 (qAnd k fs cwd args (n + 1)) := by
  intro w i er od r1 i2 r3 r4 hi hT h
  have HS := Aside0.mk hS
  have HT := Aside0.mk hT
  have HN := Aside0.mk hN
  rw [qAnd] at h
  obtain ⟨⟨v1, v2, v3, v4⟩, hv, h⟩ := Option.bind_eq_some_iff.1 h
  have HV := Aside0.mk hv
  have H := Aside0.mk h
  clear hN hT hv h
  go_enter Tryd.func58, Tryd.ntmps58
  go_wp2_with (go_at_call 66; refine (HN.out n (Nat.le_refl _) _ i er od v1 v2 v3 v4 hi HT.out HV.out).mono ?_; rintro e w1 ⟨rfl, hle, ht⟩; have HT1 := Aside0.mk ht; have HLE := Aside0.mk hle; clear ht hle)
  go_loopg [3] n (fun gk s3 wx => ∃ (v : Bool) (j : Nat) (wr' : Int) (bd' : Bool), s3 = .bool v ∧ gk ≤ n ∧ Aside0 (j ≤ args.length) ∧ Aside0 (R29 w0 wx g A0 c0 args.length A2 c2 fs.length cwd j wr' bd') ∧ Aside0 (qAndL k fs cwd args gk v j wr' bd' = some (r1, i2, r3, r4)))
  case atStart => exact ⟨v1, v2, v3, v4, rfl, Nat.le_refl _, HLE, HT1, H⟩
  case round =>
    obtain ⟨v, j, wr', bd', rfl, hgn, HJ, HT2, H2⟩ := hrel
    clear H HV HT HT1 HLE
    cases gk with
    | zero => exact absurd H2.out (by simp [qAndL])
    | succ q =>
      have h := H2.out
      rw [qAndL] at h
      clear H2
      have hj := HJ.out
      have k0 := HT2.out.c0_
      have k1 := HT2.out.c1_
      have f1 := HT2.out.fz 1
      have k4 := HT2.out.c4_
      obtain ⟨L, hL⟩ : ∃ L : Int, L = (args.length : Int) - (j : Int) := ⟨_, rfl⟩
      have HL := Aside0.mk hL
      by_cases her : wr' = 0
      case neg =>
        rw [if_neg (fun e => her e.1)] at h
        simp only [Option.some.injEq, Prod.mk.injEq] at h
        obtain ⟨rfl, rfl, rfl, rfl⟩ := h
        have g1 : (wr' == 0) = false := beq_eq_false_iff_ne.mpr her
        go_wp2
        go_quiet (fail)
        go_wp2
        go_ret
        first | exact ⟨rfl, HJ.out, R29.drewN HT2.out _⟩ | exact ⟨rfl, R29.drewN HT2.out _⟩
      subst her
      by_cases hlt : j < args.length
      · obtain ⟨ad0, rfl, hq0⟩ := cells_at HS.out.r0 (by omega)
        have hx := hq0 _ HT2.out.below j (args.getD j ByteArray.empty) (by rw [List.getD_eq_getElem?_getD, List.getElem?_eq_getElem hlt]; rfl)
        clear hq0
        have g1 : decide (0 < L) = true := decide_eq_true (by omega)
        clear hL
        generalize args.getD j ByteArray.empty = x at hx h
        by_cases dx : x.toList = [45, 97]
        · rw [if_pos ⟨rfl, hlt, dx⟩] at h
          obtain ⟨⟨u1, u2, u3, u4⟩, hu, h⟩ := Option.bind_eq_some_iff.1 h
          have HU := Aside0.mk hu
          have H3 := Aside0.mk h
          have bdx : (x.toList == ([45, 97] : List UInt8)) = true := beq_iff_eq.mpr dx
          have hw1 : wrap64 ((j : Int) + 1) = ((j + 1 : Nat) : Int) := by unfold wrap64; omega
          have HW1 := Aside0.mk hw1
          clear hu h hw1
          go_wp2
          go_quiet (first | (go_at_call 48; refine Calls.quiet_of (left_calls (R29.drewN HT2.out _) HJ.out hn L HL.out)))
          go_wp2_with (go_at_call 66; refine (HN.out q (by omega) _ (j + 1) 0 bd' u1 u2 u3 u4 (by omega) (R29.at_eq ((R29.drewN HT2.out _).setAt _) (by first | exact HW1.out | rfl | omega)) HU.out).mono ?_; rintro e w3 ⟨rfl, hle, ht⟩; have HT3 := Aside0.mk ht; have HLE3 := Aside0.mk hle; clear ht hle)
          all_goals
            go_roundg q
            case rel => exact ⟨_, u2, u3, u4, rfl, by omega, HLE3, HT3, ⟨by have := H3.out; simpa [*] using this⟩⟩
            case measure => omega
        · rw [if_neg (fun e => dx e.2.2)] at h
          simp only [Option.some.injEq, Prod.mk.injEq] at h
          obtain ⟨rfl, rfl, rfl, rfl⟩ := h
          have bdx : (x.toList == ([45, 97] : List UInt8)) = false := beq_eq_false_iff_ne.mpr dx
          go_wp2
          go_quiet (first | (go_at_call 48; refine Calls.quiet_of (left_calls (R29.drewN HT2.out _) HJ.out hn L HL.out)))
          go_wp2
          go_ret
          first | exact ⟨rfl, HJ.out, R29.drewN HT2.out _⟩ | exact ⟨rfl, R29.drewN HT2.out _⟩
      · rw [if_neg (fun e => hlt e.2.1)] at h
        simp only [Option.some.injEq, Prod.mk.injEq] at h
        obtain ⟨rfl, rfl, rfl, rfl⟩ := h
        have g1 : decide (0 < L) = false := decide_eq_false (by omega)
        clear hL
        go_wp2
        go_quiet (first | (go_at_call 48; refine Calls.quiet_of (left_calls (R29.drewN HT2.out _) HJ.out hn L HL.out)))
        go_wp2
        go_ret
        first | exact ⟨rfl, HJ.out, R29.drewN HT2.out _⟩ | exact ⟨rfl, R29.drewN HT2.out _⟩
set_option maxHeartbeats 16000000 in
set_option maxRecDepth 100000 in
theorem qOr_owes (k : Nat) (hS : TS w0 A0 c0 args A2 c2 fs) (hn : args.length ≤ 1000000) (n : Nat) (hN : ∀ j, j ≤ n → OwesR w0 g A0 c0 args A2 c2 fs cwd 58 (qAnd k fs cwd args j)) :
    OwesR w0 g A0 c0 args A2 c2 fs cwd 47 (qOr k fs cwd args (n + 1)) := by
  intro w i er od r1 i2 r3 r4 hi hT h
  have HS := Aside0.mk hS
  have HT := Aside0.mk hT
  have HN := Aside0.mk hN
  rw [qOr] at h
  obtain ⟨⟨v1, v2, v3, v4⟩, hv, h⟩ := Option.bind_eq_some_iff.1 h
  have HV := Aside0.mk hv
  have H := Aside0.mk h
  clear hN hT hv h
  go_enter Tryd.func47, Tryd.ntmps47
  go_wp2_with (go_at_call 58; refine (HN.out n (Nat.le_refl _) _ i er od v1 v2 v3 v4 hi HT.out HV.out).mono ?_; rintro e w1 ⟨rfl, hle, ht⟩; have HT1 := Aside0.mk ht; have HLE := Aside0.mk hle; clear ht hle)
  go_loopg [3] n (fun gk s3 wx => ∃ (v : Bool) (j : Nat) (wr' : Int) (bd' : Bool), s3 = .bool v ∧ gk ≤ n ∧ Aside0 (j ≤ args.length) ∧ Aside0 (R29 w0 wx g A0 c0 args.length A2 c2 fs.length cwd j wr' bd') ∧ Aside0 (qOrL k fs cwd args gk v j wr' bd' = some (r1, i2, r3, r4)))
  case atStart => exact ⟨v1, v2, v3, v4, rfl, Nat.le_refl _, HLE, HT1, H⟩
  case round =>
    obtain ⟨v, j, wr', bd', rfl, hgn, HJ, HT2, H2⟩ := hrel
    clear H HV HT HT1 HLE
    cases gk with
    | zero => exact absurd H2.out (by simp [qOrL])
    | succ q =>
      have h := H2.out
      rw [qOrL] at h
      clear H2
      have hj := HJ.out
      have k0 := HT2.out.c0_
      have k1 := HT2.out.c1_
      have f1 := HT2.out.fz 1
      have k4 := HT2.out.c4_
      obtain ⟨L, hL⟩ : ∃ L : Int, L = (args.length : Int) - (j : Int) := ⟨_, rfl⟩
      have HL := Aside0.mk hL
      by_cases her : wr' = 0
      case neg =>
        rw [if_neg (fun e => her e.1)] at h
        simp only [Option.some.injEq, Prod.mk.injEq] at h
        obtain ⟨rfl, rfl, rfl, rfl⟩ := h
        have g1 : (wr' == 0) = false := beq_eq_false_iff_ne.mpr her
        go_wp2
        go_quiet (fail)
        go_wp2
        go_ret
        first | exact ⟨rfl, HJ.out, R29.drewN HT2.out _⟩ | exact ⟨rfl, R29.drewN HT2.out _⟩
      subst her
      by_cases hlt : j < args.length
      · obtain ⟨ad0, rfl, hq0⟩ := cells_at HS.out.r0 (by omega)
        have hx := hq0 _ HT2.out.below j (args.getD j ByteArray.empty) (by rw [List.getD_eq_getElem?_getD, List.getElem?_eq_getElem hlt]; rfl)
        clear hq0
        have g1 : decide (0 < L) = true := decide_eq_true (by omega)
        clear hL
        generalize args.getD j ByteArray.empty = x at hx h
        by_cases dx : x.toList = [45, 111]
        · rw [if_pos ⟨rfl, hlt, dx⟩] at h
          obtain ⟨⟨u1, u2, u3, u4⟩, hu, h⟩ := Option.bind_eq_some_iff.1 h
          have HU := Aside0.mk hu
          have H3 := Aside0.mk h
          have bdx : (x.toList == ([45, 111] : List UInt8)) = true := beq_iff_eq.mpr dx
          have hw1 : wrap64 ((j : Int) + 1) = ((j + 1 : Nat) : Int) := by unfold wrap64; omega
          have HW1 := Aside0.mk hw1
          clear hu h hw1
          go_wp2
          go_quiet (first | (go_at_call 48; refine Calls.quiet_of (left_calls (R29.drewN HT2.out _) HJ.out hn L HL.out)))
          go_wp2_with (go_at_call 58; refine (HN.out q (by omega) _ (j + 1) 0 bd' u1 u2 u3 u4 (by omega) (R29.at_eq ((R29.drewN HT2.out _).setAt _) (by first | exact HW1.out | rfl | omega)) HU.out).mono ?_; rintro e w3 ⟨rfl, hle, ht⟩; have HT3 := Aside0.mk ht; have HLE3 := Aside0.mk hle; clear ht hle)
          all_goals
            go_roundg q
            case rel => exact ⟨_, u2, u3, u4, rfl, by omega, HLE3, HT3, ⟨by have := H3.out; simpa [*] using this⟩⟩
            case measure => omega
        · rw [if_neg (fun e => dx e.2.2)] at h
          simp only [Option.some.injEq, Prod.mk.injEq] at h
          obtain ⟨rfl, rfl, rfl, rfl⟩ := h
          have bdx : (x.toList == ([45, 111] : List UInt8)) = false := beq_eq_false_iff_ne.mpr dx
          go_wp2
          go_quiet (first | (go_at_call 48; refine Calls.quiet_of (left_calls (R29.drewN HT2.out _) HJ.out hn L HL.out)))
          go_wp2
          go_ret
          first | exact ⟨rfl, HJ.out, R29.drewN HT2.out _⟩ | exact ⟨rfl, R29.drewN HT2.out _⟩
      · rw [if_neg (fun e => hlt e.2.1)] at h
        simp only [Option.some.injEq, Prod.mk.injEq] at h
        obtain ⟨rfl, rfl, rfl, rfl⟩ := h
        have g1 : decide (0 < L) = false := decide_eq_false (by omega)
        clear hL
        go_wp2
        go_quiet (first | (go_at_call 48; refine Calls.quiet_of (left_calls (R29.drewN HT2.out _) HJ.out hn L HL.out)))
        go_wp2
        go_ret
        first | exact ⟨rfl, HJ.out, R29.drewN HT2.out _⟩ | exact ⟨rfl, R29.drewN HT2.out _⟩
theorem all_oweR (k : Nat) (hS : TS w0 A0 c0 args A2 c2 fs) (hn : args.length ≤ 1000000) : ∀ n, (∀ j, j ≤ n → OwesR w0 g A0 c0 args A2 c2 fs cwd 66 (qNot k fs cwd args j)) ∧ (∀ j, j ≤ n → OwesR w0 g A0 c0 args A2 c2 fs cwd 58 (qAnd k fs cwd args j)) ∧ (∀ j, j ≤ n → OwesR w0 g A0 c0 args A2 c2 fs cwd 47 (qOr k fs cwd args j)) := by
  intro n
  induction n with
  | zero =>
    refine ⟨fun j hj => ?_, fun j hj => ?_, fun j hj => ?_⟩ <;> obtain rfl : j = 0 := by omega
    · intro w i er od r1 i2 r3 r4 _ _ h; rw [qNot] at h; cases h
    · intro w i er od r1 i2 r3 r4 _ _ h; rw [qAnd] at h; cases h
    · intro w i er od r1 i2 r3 r4 _ _ h; rw [qOr] at h; cases h
  | succ n ih =>
    obtain ⟨h1, h2, h3⟩ := ih
    refine ⟨fun j hj => ?_, fun j hj => ?_, fun j hj => ?_⟩
    · rcases Nat.lt_or_ge n j with h | h
      · obtain rfl : j = n + 1 := by omega
        exact qNot_owes k hS hn n (h1 n (Nat.le_refl _)) (h3 n (Nat.le_refl _))
      · exact h1 j h
    · rcases Nat.lt_or_ge n j with h | h
      · obtain rfl : j = n + 1 := by omega
        exact qAnd_owes k hS hn n h1
      · exact h2 j h
    · rcases Nat.lt_or_ge n j with h | h
      · obtain rfl : j = n + 1 := by omega
        exact qOr_owes k hS hn n h2
      · exact h3 j h
end
end Go.Proofs.YtoeiohfljaboaaaDoor.F
set_option linter.unusedVariables false
set_option linter.unusedSimpArgs false
namespace Go.Proofs.YtoeiohfljaboaaaDoor.F
open Go.RowKit Go.Proofs.YtoeiohfljaboaaaDoorW.PrintWords Go.Proofs.YtoeiohfljaboaaaDoorW.PrintLast Go.Proofs.YtoeiohfljaboaaaDoorW.PrintMore Go.Proofs.YtoeiohfljaboaaaDoor.Aid
def qGen (k : Nat) (fs : List S_File) (cwd : ByteArray) (l : List ByteArray) (er : Int) (od : Bool) : Option (Bool × Int × Bool) :=
  (qOr k fs cwd l k 0 er od).bind fun v => some (v.1, if v.2.1 < l.length then 27 else v.2.2.1, v.2.2.2)
def qExpr (k : Nat) (fs : List S_File) (cwd : ByteArray) : Nat → List ByteArray → Int → Bool → Option (Bool × Int × Bool)
  | 0, _, _, _ => none
  | n + 1, l, er, od => match l with
    | [] => some (false, er, od)
    | [a] => some (a.toList != ([] : List UInt8), er, od)
    | [a, b] => if a.toList = [33] then (qExpr k fs cwd n [b] er od).bind fun v => some (!v.1, v.2.1, v.2.2) else if uB a = true then (rOne k fs cwd a b).bind fun v => some (v, er, od) else some (false, 27, od)
    | [a, b, c] => if bB b = true then (rTwo k a b c od).bind fun v => some (v.1, er, v.2)
      else if b.toList = [45, 97] then some (a.toList != ([] : List UInt8) && c.toList != ([] : List UInt8), er, od)
      else if b.toList = [45, 111] then some (a.toList != ([] : List UInt8) || c.toList != ([] : List UInt8), er, od)
      else if a.toList = [33] then (qExpr k fs cwd n [b, c] er od).bind fun v => some (!v.1, v.2.1, v.2.2)
      else if a.toList = [40] ∧ c.toList = [41] then qExpr k fs cwd n [b] er od
      else some (false, 27, od)
    | [a, b, c, d] => if a.toList = [33] then (qExpr k fs cwd n [b, c, d] er od).bind fun v => some (!v.1, v.2.1, v.2.2)
      else if a.toList = [40] ∧ d.toList = [41] then qExpr k fs cwd n [b, c] er od
      else qGen k fs cwd [a, b, c, d] er od
    | a :: b :: c :: d :: e :: t => qGen k fs cwd (a :: b :: c :: d :: e :: t) er od
section
variable {w0 : World} {g : Nat} {A2 : Option Addr} {c2 : Nat} {fs : List S_File} {cwd : ByteArray}
set_option maxHeartbeats 8000000 in
set_option maxRecDepth 100000 in
theorem general_calls (k : Nat) (hamb : AmbC w0) (hr2 : Kd.C k_File w0 A2 fs.length fs) (hc2 : fs.length ≤ c2) {l : List ByteArray} {A : Option Addr} {c : Nat} {w : World} {A0 : Option Addr} {c0 n0 : Nat} {at_ er : Int} {od : Bool}
    (hl : Kd.C Kd.string w0 A l.length l) (hlc : l.length ≤ c) (hn : l.length ≤ 1000000) (hT : R29 w0 w g A0 c0 n0 A2 c2 fs.length cwd at_ er od) (v1 : Bool) (v2 : Nat) (v3 : Int) (v4 : Bool) (h : qOr k fs cwd l k 0 er od = some (v1, v2, v3, v4)) :
    Calls Tryd.prog 33 #[.pointer (some ⟨g, 0, none⟩), .slice A l.length c] w fun e w' => e = .returned (.bool v1) ∧ R29 w0 w' g A c l.length A2 c2 fs.length cwd v2 (if v2 < l.length then 27 else v3) v4 := by
  have HT := Aside0.mk hT
  have HO := Aside0.mk ((all_oweR (w0 := w0) (g := g) (cwd := cwd) k (show TS w0 A c l A2 c2 fs from ⟨hl, hlc, hr2, hc2, hamb⟩) hn k).2.2 k (Nat.le_refl _))
  have HV := Aside0.mk h
  have k0 := hT.c0_
  have k1 := hT.c1_
  have f0 := hT.fz 0
  have f1 := hT.fz 1
  clear hT h
  obtain ⟨L, hL⟩ : ∃ L : Int, L = (l.length : Int) - (v2 : Int) := ⟨_, rfl⟩
  have HL := Aside0.mk hL
  by_cases d : v2 < l.length
  · have g1 : decide (0 < L) = true := decide_eq_true (by omega)
    rw [if_pos d]
    clear hL d
    go_enter Tryd.func33, Tryd.ntmps33
    go_wp2_with (first
      | (go_at_call 47; refine (HO.out _ 0 er od v1 v2 v3 v4 (Nat.zero_le _) (R29.at_eq ((HT.out.setArgs A l.length c).setAt 0) rfl) HV.out).mono ?_; rintro e w2 ⟨rfl, hle, ht⟩; have HT2 := Aside0.mk ht; have HLE := Aside0.mk hle; clear ht hle)
      | (go_at_call 48; refine (left_calls HT2.out HLE.out hn L HL.out).mono ?_; rintro e w3 ⟨rfl, hw3⟩; have HT3 : Aside0 (R29 w0 w3 g A c l.length A2 c2 fs.length cwd v2 v3 v4) := ⟨(by obtain ⟨m_, rfl⟩ := hw3; exact HT2.out.drewN m_)⟩; clear hw3; have k4 := HT3.out.c4_; have f4 := HT3.out.fz 4))
    go_ret
    exact ⟨rfl, HT3.out.setErr 27⟩
  · have g1 : decide (0 < L) = false := decide_eq_false (by omega)
    rw [if_neg d]
    clear hL d
    go_enter Tryd.func33, Tryd.ntmps33
    go_wp2_with (first
      | (go_at_call 47; refine (HO.out _ 0 er od v1 v2 v3 v4 (Nat.zero_le _) (R29.at_eq ((HT.out.setArgs A l.length c).setAt 0) rfl) HV.out).mono ?_; rintro e w2 ⟨rfl, hle, ht⟩; have HT2 := Aside0.mk ht; have HLE := Aside0.mk hle; clear ht hle)
      | (go_at_call 48; refine (left_calls HT2.out HLE.out hn L HL.out).mono ?_; rintro e w3 ⟨rfl, hw3⟩; have HT3 : Aside0 (R29 w0 w3 g A c l.length A2 c2 fs.length cwd v2 v3 v4) := ⟨(by obtain ⟨m_, rfl⟩ := hw3; exact HT2.out.drewN m_)⟩; clear hw3; have k4 := HT3.out.c4_; have f4 := HT3.out.fz 4))
    go_ret
    exact ⟨rfl, HT3.out⟩
set_option maxHeartbeats 16000000 in
set_option maxRecDepth 100000 in
theorem qExpr_calls (k : Nat) (hamb : AmbC w0) (hr2 : Kd.C k_File w0 A2 fs.length fs) (hc2 : fs.length ≤ c2) : ∀ (n : Nat) (l : List ByteArray) (A : Option Addr) (c : Nat) (w : World) (A0 : Option Addr) (c0 n0 : Nat) (at_ er : Int) (od r1 : Bool) (r2 : Int) (r3 : Bool),
    Kd.C Kd.string w0 A l.length l → l.length ≤ c ∧ l.length ≤ 1000000 → R29 w0 w g A0 c0 n0 A2 c2 fs.length cwd at_ er od → qExpr k fs cwd n l er od = some (r1, r2, r3) →
    Calls Tryd.prog 19 #[.pointer (some ⟨g, 0, none⟩), .slice A l.length c] w fun e w' => e = .returned (.bool r1) ∧ ∃ A' c' n' a', R29 w0 w' g A' c' n' A2 c2 fs.length cwd a' r2 r3 := by
  intro n
  induction n with
  | zero => intro l A c w A0 c0 n0 at_ er od r1 r2 r3 _ _ _ h; cases h
  | succ n ih =>
    intro l A c w A0 c0 n0 at_ er od r1 r2 r3 hl hlcn hT h
    have HT := Aside0.mk hT
    have IH := Aside0.mk ih
    obtain ⟨hlc, hln⟩ := hlcn
    clear hT ih
    match l, hl, hlc, hln, h with
    | [], hl, hlc, hln, h =>
      simp only [qExpr] at h
      simp only [Option.some.injEq, Prod.mk.injEq] at h
      obtain ⟨rfl, rfl, rfl⟩ := h
      go_enter Tryd.func19, Tryd.ntmps19
      go_wp2
      all_goals
        go_ret
        exact ⟨by first | rfl | (simp [*]; done) | (simp [isE_ne, *]; done), _, _, _, _, HT.out⟩
    | [a], hl, hlc, hln, h =>
      obtain ⟨ad, rfl, hq⟩ := cells_at hl (by simp)
      have HQ := Aside0.mk hq
      clear hq
      simp only [List.length_cons, List.length_nil] at hlc
      have q0w : World.cell? w ad = some (.string a) := (by have e_ := HQ.out w HT.out.below 0 a rfl; rwa [add0] at e_)
      have k4w := HT.out.c4_
      have f4w := HT.out.fz 4
      simp only [qExpr] at h
      simp only [Option.some.injEq, Prod.mk.injEq] at h
      obtain ⟨rfl, rfl, rfl⟩ := h
      go_enter Tryd.func19, Tryd.ntmps19
      go_wp2
      all_goals
        go_ret
        exact ⟨by first | rfl | (simp [*]; done) | (simp [isE_ne, *]; done), _, _, _, _, HT.out⟩
    | [a, b], hl, hlc, hln, h =>
      obtain ⟨ad, rfl, hq⟩ := cells_at hl (by simp)
      have HQ := Aside0.mk hq
      clear hq
      simp only [List.length_cons, List.length_nil] at hlc
      have q0w : World.cell? w ad = some (.string a) := (by have e_ := HQ.out w HT.out.below 0 a rfl; rwa [add0] at e_)
      have q1w : World.cell? w ⟨ad.block, ad.off + 1, none⟩ = some (.string b) := (by have e_ := HQ.out w HT.out.below 1 b rfl; rwa [addS _ _ (by decide)] at e_)
      have k4w := HT.out.c4_
      have f4w := HT.out.fz 4
      simp only [qExpr] at h
      by_cases d1 : a.toList = [33]
      · rw [if_pos d1] at h
        have bd1 : (a.toList == ([33] : List UInt8)) = true := beq_iff_eq.mpr d1
        obtain ⟨⟨v1, v2, v3⟩, hv, h⟩ := Option.bind_eq_some_iff.1 h
        simp only [Option.some.injEq, Prod.mk.injEq] at h
        obtain ⟨rfl, rfl, rfl⟩ := h
        have HV := Aside0.mk hv
        clear hv
        have HC : Aside0 (Kd.C Kd.string w0 (some ⟨ad.block, ad.off + 1, none⟩) ([b] : List ByteArray).length [b]) := ⟨by have e_ := cut_at (m := 1) hl (by simp) (by simpa using hlc); rw [addS _ _ (by decide)] at e_; exact e_⟩
        have HL := Aside0.mk hlc
        have e1 : (c = 1) = False := eq_false (by omega)
        go_enter Tryd.func19, Tryd.ntmps19
        go_wp2_with (first
          | (go_at_call 19; refine (IH.out [b] (some ⟨ad.block, ad.off + 1, none⟩) (c - 1) _ A0 c0 n0 at_ er od _ _ _ HC.out (by have := HL.out; exact ⟨by simp; omega, by simp⟩) HT.out HV.out).mono ?_; rintro e w2 ⟨rfl, hx⟩; have HX := Aside0.mk hx; clear hx))
        all_goals
          go_ret
          exact ⟨by first | rfl | (simp [*]; done), HX.out⟩
      rw [if_neg d1] at h
      have bd1 : (a.toList == ([33] : List UInt8)) = false := beq_eq_false_iff_ne.mpr d1
      by_cases d2 : uB a = true
      · rw [if_pos d2] at h
        obtain ⟨v, hv, h⟩ := Option.bind_eq_some_iff.1 h
        simp only [Option.some.injEq, Prod.mk.injEq] at h
        obtain ⟨rfl, rfl, rfl⟩ := h
        have HV := Aside0.mk hv
        clear hv
        go_enter Tryd.func19, Tryd.ntmps19
        go_wp2_with (first
          | (go_at_call 31; (with_reducible refine (ru_calls a w).mono ?_); rintro e w1 ⟨rfl, hb⟩; have HT1 := Aside0.mk (HT.out.step hb); have q0w1 : World.cell? w1 ad = some (.string a) := (by have e_ := HQ.out w1 HT1.out.below 0 a rfl; rwa [add0] at e_); have q1w1 : World.cell? w1 ⟨ad.block, ad.off + 1, none⟩ = some (.string b) := (by have e_ := HQ.out w1 HT1.out.below 1 b rfl; rwa [addS _ _ (by decide)] at e_); have k4w1 := HT1.out.c4_; have f4w1 := HT1.out.fz 4; clear hb))
        go_region_held3 (fun w' => World.cell? w' ad = some (.string a) ∧ World.cell? w' ⟨ad.block, ad.off + 1, none⟩ = some (.string b))
          (first | go_keep | exact ⟨q0w2, q1w2⟩)
          (first | (go_at_call 32; refine (rOne_calls k a b v hr2 hc2 (R29.drewN HT1.out _) HV.out).mono ?_; rintro e w2 ⟨rfl, hb⟩; have HT2 := Aside0.mk ((R29.drewN HT1.out _).step hb); have q0w2 : World.cell? w2 ad = some (.string a) := (by have e_ := HQ.out w2 HT2.out.below 0 a rfl; rwa [add0] at e_); have q1w2 : World.cell? w2 ⟨ad.block, ad.off + 1, none⟩ = some (.string b) := (by have e_ := HQ.out w2 HT2.out.below 1 b rfl; rwa [addS _ _ (by decide)] at e_); clear hb))
        go_wp2
        all_goals
          go_ret
          exact ⟨by first | rfl | (simp [*]; done) | (simp [isE_ne, *]; done), _, _, _, _, HT2.out⟩
      · rw [if_neg d2] at h
        have d2' := Bool.eq_false_iff.mpr d2
        simp only [Option.some.injEq, Prod.mk.injEq] at h
        obtain ⟨rfl, rfl, rfl⟩ := h
        go_enter Tryd.func19, Tryd.ntmps19
        go_wp2_with (first
          | (go_at_call 31; (with_reducible refine (ru_calls a w).mono ?_); rintro e w1 ⟨rfl, hb⟩; have HT1 := Aside0.mk (HT.out.step hb); have q0w1 : World.cell? w1 ad = some (.string a) := (by have e_ := HQ.out w1 HT1.out.below 0 a rfl; rwa [add0] at e_); have q1w1 : World.cell? w1 ⟨ad.block, ad.off + 1, none⟩ = some (.string b) := (by have e_ := HQ.out w1 HT1.out.below 1 b rfl; rwa [addS _ _ (by decide)] at e_); have k4w1 := HT1.out.c4_; have f4w1 := HT1.out.fz 4; clear hb))
        all_goals
          go_ret
          exact ⟨by first | rfl | (simp [*]; done) | (simp [isE_ne, *]; done), _, _, _, _, HT1.out.setErr 27⟩
    | [a, b, c3], hl, hlc, hln, h =>
      obtain ⟨ad, rfl, hq⟩ := cells_at hl (by simp)
      have HQ := Aside0.mk hq
      clear hq
      simp only [List.length_cons, List.length_nil] at hlc
      have q0w : World.cell? w ad = some (.string a) := (by have e_ := HQ.out w HT.out.below 0 a rfl; rwa [add0] at e_)
      have q1w : World.cell? w ⟨ad.block, ad.off + 1, none⟩ = some (.string b) := (by have e_ := HQ.out w HT.out.below 1 b rfl; rwa [addS _ _ (by decide)] at e_)
      have q2w : World.cell? w ⟨ad.block, ad.off + 2, none⟩ = some (.string c3) := (by have e_ := HQ.out w HT.out.below 2 c3 rfl; rwa [addS _ _ (by decide)] at e_)
      have k4w := HT.out.c4_
      have f4w := HT.out.fz 4
      simp only [qExpr] at h
      by_cases d1 : bB b = true
      · rw [if_pos d1] at h
        obtain ⟨⟨v1, v2⟩, hv, h⟩ := Option.bind_eq_some_iff.1 h
        simp only [Option.some.injEq, Prod.mk.injEq] at h
        obtain ⟨rfl, rfl, rfl⟩ := h
        have HV := Aside0.mk hv
        clear hv
        go_enter Tryd.func19, Tryd.ntmps19
        go_wp2_with (first
          | (go_at_call 29; (with_reducible refine (rb_calls b w).mono ?_); rintro e w1 ⟨rfl, hb⟩; have HT1 := Aside0.mk (HT.out.step hb); have q0w1 : World.cell? w1 ad = some (.string a) := (by have e_ := HQ.out w1 HT1.out.below 0 a rfl; rwa [add0] at e_); have q1w1 : World.cell? w1 ⟨ad.block, ad.off + 1, none⟩ = some (.string b) := (by have e_ := HQ.out w1 HT1.out.below 1 b rfl; rwa [addS _ _ (by decide)] at e_); have q2w1 : World.cell? w1 ⟨ad.block, ad.off + 2, none⟩ = some (.string c3) := (by have e_ := HQ.out w1 HT1.out.below 2 c3 rfl; rwa [addS _ _ (by decide)] at e_); have k4w1 := HT1.out.c4_; have f4w1 := HT1.out.fz 4; clear hb))
        go_region_held3 (fun w' => World.cell? w' ad = some (.string a) ∧ World.cell? w' ⟨ad.block, ad.off + 1, none⟩ = some (.string b) ∧ World.cell? w' ⟨ad.block, ad.off + 2, none⟩ = some (.string c3))
          (first | go_keep | exact ⟨q0w2, q1w2, q2w2⟩)
          (first | (go_at_call 30; refine (rTwo_calls k a b c3 v1 v2 (R29.drewN HT1.out _) HV.out).mono ?_; rintro e w2 ⟨rfl, ht⟩; have HT2 := Aside0.mk ht; have q0w2 : World.cell? w2 ad = some (.string a) := (by have e_ := HQ.out w2 HT2.out.below 0 a rfl; rwa [add0] at e_); have q1w2 : World.cell? w2 ⟨ad.block, ad.off + 1, none⟩ = some (.string b) := (by have e_ := HQ.out w2 HT2.out.below 1 b rfl; rwa [addS _ _ (by decide)] at e_); have q2w2 : World.cell? w2 ⟨ad.block, ad.off + 2, none⟩ = some (.string c3) := (by have e_ := HQ.out w2 HT2.out.below 2 c3 rfl; rwa [addS _ _ (by decide)] at e_); clear ht))
        go_wp2
        all_goals
          go_ret
          exact ⟨by first | rfl | (simp [*]; done) | (simp [isE_ne, *]; done), _, _, _, _, HT2.out⟩
      rw [if_neg d1] at h
      have d1' := Bool.eq_false_iff.mpr d1
      by_cases d2 : b.toList = [45, 97]
      · rw [if_pos d2] at h
        simp only [Option.some.injEq, Prod.mk.injEq] at h
        obtain ⟨rfl, rfl, rfl⟩ := h
        have bd2 : (b.toList == ([45, 97] : List UInt8)) = true := beq_iff_eq.mpr d2
        go_enter Tryd.func19, Tryd.ntmps19
        go_wp2_with (first
          | (go_at_call 29; (with_reducible refine (rb_calls b w).mono ?_); rintro e w1 ⟨rfl, hb⟩; have HT1 := Aside0.mk (HT.out.step hb); have q0w1 : World.cell? w1 ad = some (.string a) := (by have e_ := HQ.out w1 HT1.out.below 0 a rfl; rwa [add0] at e_); have q1w1 : World.cell? w1 ⟨ad.block, ad.off + 1, none⟩ = some (.string b) := (by have e_ := HQ.out w1 HT1.out.below 1 b rfl; rwa [addS _ _ (by decide)] at e_); have q2w1 : World.cell? w1 ⟨ad.block, ad.off + 2, none⟩ = some (.string c3) := (by have e_ := HQ.out w1 HT1.out.below 2 c3 rfl; rwa [addS _ _ (by decide)] at e_); have k4w1 := HT1.out.c4_; have f4w1 := HT1.out.fz 4; clear hb))
        all_goals
          go_ret
          exact ⟨by first | rfl | (simp [*]; done) | (simp [isE_ne, *]; done), _, _, _, _, HT1.out⟩
      rw [if_neg d2] at h
      have bd2 : (b.toList == ([45, 97] : List UInt8)) = false := beq_eq_false_iff_ne.mpr d2
      by_cases d3 : b.toList = [45, 111]
      · rw [if_pos d3] at h
        simp only [Option.some.injEq, Prod.mk.injEq] at h
        obtain ⟨rfl, rfl, rfl⟩ := h
        have bd3 : (b.toList == ([45, 111] : List UInt8)) = true := beq_iff_eq.mpr d3
        go_enter Tryd.func19, Tryd.ntmps19
        go_wp2_with (first
          | (go_at_call 29; (with_reducible refine (rb_calls b w).mono ?_); rintro e w1 ⟨rfl, hb⟩; have HT1 := Aside0.mk (HT.out.step hb); have q0w1 : World.cell? w1 ad = some (.string a) := (by have e_ := HQ.out w1 HT1.out.below 0 a rfl; rwa [add0] at e_); have q1w1 : World.cell? w1 ⟨ad.block, ad.off + 1, none⟩ = some (.string b) := (by have e_ := HQ.out w1 HT1.out.below 1 b rfl; rwa [addS _ _ (by decide)] at e_); have q2w1 : World.cell? w1 ⟨ad.block, ad.off + 2, none⟩ = some (.string c3) := (by have e_ := HQ.out w1 HT1.out.below 2 c3 rfl; rwa [addS _ _ (by decide)] at e_); have k4w1 := HT1.out.c4_; have f4w1 := HT1.out.fz 4; clear hb))
        all_goals
          go_ret
          exact ⟨by first | rfl | (simp [*]; done) | (simp [isE_ne, *]; done), _, _, _, _, HT1.out⟩
      rw [if_neg d3] at h
      have bd3 : (b.toList == ([45, 111] : List UInt8)) = false := beq_eq_false_iff_ne.mpr d3
      by_cases d4 : a.toList = [33]
      · rw [if_pos d4] at h
        have bd4 : (a.toList == ([33] : List UInt8)) = true := beq_iff_eq.mpr d4
        obtain ⟨⟨v1, v2, v3⟩, hv, h⟩ := Option.bind_eq_some_iff.1 h
        simp only [Option.some.injEq, Prod.mk.injEq] at h
        obtain ⟨rfl, rfl, rfl⟩ := h
        have HV := Aside0.mk hv
        clear hv
        have HC : Aside0 (Kd.C Kd.string w0 (some ⟨ad.block, ad.off + 1, none⟩) ([b, c3] : List ByteArray).length [b, c3]) := ⟨by have e_ := cut_at (m := 1) hl (by simp) (by simpa using hlc); rw [addS _ _ (by decide)] at e_; exact e_⟩
        have HL := Aside0.mk hlc
        have e1 : (c = 1) = False := eq_false (by omega)
        go_enter Tryd.func19, Tryd.ntmps19
        go_wp2_with (first
          | (go_at_call 29; (with_reducible refine (rb_calls b w).mono ?_); rintro e w1 ⟨rfl, hb⟩; have HT1 := Aside0.mk (HT.out.step hb); have q0w1 : World.cell? w1 ad = some (.string a) := (by have e_ := HQ.out w1 HT1.out.below 0 a rfl; rwa [add0] at e_); have q1w1 : World.cell? w1 ⟨ad.block, ad.off + 1, none⟩ = some (.string b) := (by have e_ := HQ.out w1 HT1.out.below 1 b rfl; rwa [addS _ _ (by decide)] at e_); have q2w1 : World.cell? w1 ⟨ad.block, ad.off + 2, none⟩ = some (.string c3) := (by have e_ := HQ.out w1 HT1.out.below 2 c3 rfl; rwa [addS _ _ (by decide)] at e_); have k4w1 := HT1.out.c4_; have f4w1 := HT1.out.fz 4; clear hb)
          | (go_at_call 19; refine (IH.out [b, c3] (some ⟨ad.block, ad.off + 1, none⟩) (c - 1) _ A0 c0 n0 at_ er od _ _ _ HC.out (by have := HL.out; exact ⟨by simp; omega, by simp⟩) HT1.out HV.out).mono ?_; rintro e w2 ⟨rfl, hx⟩; have HX := Aside0.mk hx; clear hx))
        all_goals
          go_ret
          exact ⟨by first | rfl | (simp [*]; done), HX.out⟩
      rw [if_neg d4] at h
      have bd4 : (a.toList == ([33] : List UInt8)) = false := beq_eq_false_iff_ne.mpr d4
      by_cases d5 : a.toList = [40] ∧ c3.toList = [41]
      · rw [if_pos d5] at h
        obtain ⟨d5, d6⟩ := d5
        have bd5 : (a.toList == ([40] : List UInt8)) = true := beq_iff_eq.mpr d5
        have bd6 : (c3.toList == ([41] : List UInt8)) = true := beq_iff_eq.mpr d6
        have HV := Aside0.mk h
        clear h
        have HC : Aside0 (Kd.C Kd.string w0 (some ⟨ad.block, ad.off + 1, none⟩) ([b] : List ByteArray).length [b]) := ⟨by have e_ := Kd.C_take (m := 1) (cut_at (m := 1) hl (by simp) (by simpa using hlc)) (by simp); rw [addS _ _ (by decide)] at e_; exact e_⟩
        have HL := Aside0.mk hlc
        have e1 : (c = 1) = False := eq_false (by omega)
        go_enter Tryd.func19, Tryd.ntmps19
        go_wp2_with (first
          | (go_at_call 29; (with_reducible refine (rb_calls b w).mono ?_); rintro e w1 ⟨rfl, hb⟩; have HT1 := Aside0.mk (HT.out.step hb); have q0w1 : World.cell? w1 ad = some (.string a) := (by have e_ := HQ.out w1 HT1.out.below 0 a rfl; rwa [add0] at e_); have q1w1 : World.cell? w1 ⟨ad.block, ad.off + 1, none⟩ = some (.string b) := (by have e_ := HQ.out w1 HT1.out.below 1 b rfl; rwa [addS _ _ (by decide)] at e_); have q2w1 : World.cell? w1 ⟨ad.block, ad.off + 2, none⟩ = some (.string c3) := (by have e_ := HQ.out w1 HT1.out.below 2 c3 rfl; rwa [addS _ _ (by decide)] at e_); have k4w1 := HT1.out.c4_; have f4w1 := HT1.out.fz 4; clear hb)
          | (go_at_call 19; refine (IH.out [b] (some ⟨ad.block, ad.off + 1, none⟩) (c - 1) _ A0 c0 n0 at_ er od _ _ _ HC.out (by have := HL.out; exact ⟨by simp; omega, by simp⟩) HT1.out HV.out).mono ?_; rintro e w2 ⟨rfl, hx⟩; have HX := Aside0.mk hx; clear hx))
        all_goals
          go_ret
          exact ⟨by first | rfl | (simp [*]; done), HX.out⟩
      rw [if_neg d5] at h
      simp only [Option.some.injEq, Prod.mk.injEq] at h
      obtain ⟨rfl, rfl, rfl⟩ := h
      by_cases d6 : a.toList = [40]
      · have d7 : ¬ c3.toList = [41] := fun e => d5 ⟨d6, e⟩
        have bd6 : (a.toList == ([40] : List UInt8)) = true := beq_iff_eq.mpr d6
        have bd7 : (c3.toList == ([41] : List UInt8)) = false := beq_eq_false_iff_ne.mpr d7
        go_enter Tryd.func19, Tryd.ntmps19
        go_wp2_with (first
          | (go_at_call 29; (with_reducible refine (rb_calls b w).mono ?_); rintro e w1 ⟨rfl, hb⟩; have HT1 := Aside0.mk (HT.out.step hb); have q0w1 : World.cell? w1 ad = some (.string a) := (by have e_ := HQ.out w1 HT1.out.below 0 a rfl; rwa [add0] at e_); have q1w1 : World.cell? w1 ⟨ad.block, ad.off + 1, none⟩ = some (.string b) := (by have e_ := HQ.out w1 HT1.out.below 1 b rfl; rwa [addS _ _ (by decide)] at e_); have q2w1 : World.cell? w1 ⟨ad.block, ad.off + 2, none⟩ = some (.string c3) := (by have e_ := HQ.out w1 HT1.out.below 2 c3 rfl; rwa [addS _ _ (by decide)] at e_); have k4w1 := HT1.out.c4_; have f4w1 := HT1.out.fz 4; clear hb))
        all_goals
          go_ret
          exact ⟨by first | rfl | (simp [*]; done) | (simp [isE_ne, *]; done), _, _, _, _, HT1.out.setErr 27⟩
      · skip
        have bd6 : (a.toList == ([40] : List UInt8)) = false := beq_eq_false_iff_ne.mpr d6
        go_enter Tryd.func19, Tryd.ntmps19
        go_wp2_with (first
          | (go_at_call 29; (with_reducible refine (rb_calls b w).mono ?_); rintro e w1 ⟨rfl, hb⟩; have HT1 := Aside0.mk (HT.out.step hb); have q0w1 : World.cell? w1 ad = some (.string a) := (by have e_ := HQ.out w1 HT1.out.below 0 a rfl; rwa [add0] at e_); have q1w1 : World.cell? w1 ⟨ad.block, ad.off + 1, none⟩ = some (.string b) := (by have e_ := HQ.out w1 HT1.out.below 1 b rfl; rwa [addS _ _ (by decide)] at e_); have q2w1 : World.cell? w1 ⟨ad.block, ad.off + 2, none⟩ = some (.string c3) := (by have e_ := HQ.out w1 HT1.out.below 2 c3 rfl; rwa [addS _ _ (by decide)] at e_); have k4w1 := HT1.out.c4_; have f4w1 := HT1.out.fz 4; clear hb))
        all_goals
          go_ret
          exact ⟨by first | rfl | (simp [*]; done) | (simp [isE_ne, *]; done), _, _, _, _, HT1.out.setErr 27⟩
    | [a, b, c3, d], hl, hlc, hln, h =>
      have hl0 := hl
      have hlc0 := hlc
      obtain ⟨ad, rfl, hq⟩ := cells_at hl (by simp)
      have HQ := Aside0.mk hq
      clear hq
      simp only [List.length_cons, List.length_nil] at hlc
      have q0w : World.cell? w ad = some (.string a) := (by have e_ := HQ.out w HT.out.below 0 a rfl; rwa [add0] at e_)
      have q1w : World.cell? w ⟨ad.block, ad.off + 1, none⟩ = some (.string b) := (by have e_ := HQ.out w HT.out.below 1 b rfl; rwa [addS _ _ (by decide)] at e_)
      have q2w : World.cell? w ⟨ad.block, ad.off + 2, none⟩ = some (.string c3) := (by have e_ := HQ.out w HT.out.below 2 c3 rfl; rwa [addS _ _ (by decide)] at e_)
      have q3w : World.cell? w ⟨ad.block, ad.off + 3, none⟩ = some (.string d) := (by have e_ := HQ.out w HT.out.below 3 d rfl; rwa [addS _ _ (by decide)] at e_)
      have k4w := HT.out.c4_
      have f4w := HT.out.fz 4
      simp only [qExpr] at h
      by_cases d4 : a.toList = [33]
      · rw [if_pos d4] at h
        have bd4 : (a.toList == ([33] : List UInt8)) = true := beq_iff_eq.mpr d4
        obtain ⟨⟨v1, v2, v3⟩, hv, h⟩ := Option.bind_eq_some_iff.1 h
        simp only [Option.some.injEq, Prod.mk.injEq] at h
        obtain ⟨rfl, rfl, rfl⟩ := h
        have HV := Aside0.mk hv
        clear hv
        have HC : Aside0 (Kd.C Kd.string w0 (some ⟨ad.block, ad.off + 1, none⟩) ([b, c3, d] : List ByteArray).length [b, c3, d]) := ⟨by have e_ := cut_at (m := 1) hl (by simp) (by simpa using hlc); rw [addS _ _ (by decide)] at e_; exact e_⟩
        have HL := Aside0.mk hlc
        have e1 : (c = 1) = False := eq_false (by omega)
        go_enter Tryd.func19, Tryd.ntmps19
        go_wp2_with (first
          | (go_at_call 19; refine (IH.out [b, c3, d] (some ⟨ad.block, ad.off + 1, none⟩) (c - 1) _ A0 c0 n0 at_ er od _ _ _ HC.out (by have := HL.out; exact ⟨by simp; omega, by simp⟩) HT.out HV.out).mono ?_; rintro e w2 ⟨rfl, hx⟩; have HX := Aside0.mk hx; clear hx))
        all_goals
          go_ret
          exact ⟨by first | rfl | (simp [*]; done), HX.out⟩
      rw [if_neg d4] at h
      have bd4 : (a.toList == ([33] : List UInt8)) = false := beq_eq_false_iff_ne.mpr d4
      by_cases d5 : a.toList = [40] ∧ d.toList = [41]
      · rw [if_pos d5] at h
        obtain ⟨d5, d6⟩ := d5
        have bd5 : (a.toList == ([40] : List UInt8)) = true := beq_iff_eq.mpr d5
        have bd6 : (d.toList == ([41] : List UInt8)) = true := beq_iff_eq.mpr d6
        have HV := Aside0.mk h
        clear h
        have HC : Aside0 (Kd.C Kd.string w0 (some ⟨ad.block, ad.off + 1, none⟩) ([b, c3] : List ByteArray).length [b, c3]) := ⟨by have e_ := Kd.C_take (m := 2) (cut_at (m := 1) hl (by simp) (by simpa using hlc)) (by simp); rw [addS _ _ (by decide)] at e_; exact e_⟩
        have HL := Aside0.mk hlc
        have e1 : (c = 1) = False := eq_false (by omega)
        go_enter Tryd.func19, Tryd.ntmps19
        go_wp2_with (first
          | (go_at_call 19; refine (IH.out [b, c3] (some ⟨ad.block, ad.off + 1, none⟩) (c - 1) _ A0 c0 n0 at_ er od _ _ _ HC.out (by have := HL.out; exact ⟨by simp; omega, by simp⟩) HT.out HV.out).mono ?_; rintro e w2 ⟨rfl, hx⟩; have HX := Aside0.mk hx; clear hx))
        all_goals
          go_ret
          exact ⟨by first | rfl | (simp [*]; done), HX.out⟩
      rw [if_neg d5, qGen] at h
      by_cases d6 : a.toList = [40]
      · have d7 : ¬ d.toList = [41] := fun e => d5 ⟨d6, e⟩
        have bd6 : (a.toList == ([40] : List UInt8)) = true := beq_iff_eq.mpr d6
        have bd7 : (d.toList == ([41] : List UInt8)) = false := beq_eq_false_iff_ne.mpr d7
        obtain ⟨⟨v1, v2, v3, v4⟩, hv, h⟩ := Option.bind_eq_some_iff.1 h
        simp only [Option.some.injEq, Prod.mk.injEq] at h
        obtain ⟨rfl, hr, rfl⟩ := h
        have HR := Aside0.mk hr
        clear hr
        have HV := Aside0.mk hv
        clear hv
        go_enter Tryd.func19, Tryd.ntmps19
        go_wp2_with (first
          | (go_at_call 33; refine (general_calls k hamb hr2 hc2 hl0 hlc0 hln HT.out v1 v2 v3 v4 HV.out).mono ?_; rintro e w2 ⟨rfl, ht⟩; rw [HR.out] at ht; have HT2 := Aside0.mk ht; clear ht))
        all_goals
          go_ret
          exact ⟨by first | rfl | (simp [*]; done) | (simp [isE_ne, *]; done), _, _, _, _, HT2.out⟩
      · skip
        have bd6 : (a.toList == ([40] : List UInt8)) = false := beq_eq_false_iff_ne.mpr d6
        obtain ⟨⟨v1, v2, v3, v4⟩, hv, h⟩ := Option.bind_eq_some_iff.1 h
        simp only [Option.some.injEq, Prod.mk.injEq] at h
        obtain ⟨rfl, hr, rfl⟩ := h
        have HR := Aside0.mk hr
        clear hr
        have HV := Aside0.mk hv
        clear hv
        go_enter Tryd.func19, Tryd.ntmps19
        go_wp2_with (first
          | (go_at_call 33; refine (general_calls k hamb hr2 hc2 hl0 hlc0 hln HT.out v1 v2 v3 v4 HV.out).mono ?_; rintro e w2 ⟨rfl, ht⟩; rw [HR.out] at ht; have HT2 := Aside0.mk ht; clear ht))
        all_goals
          go_ret
          exact ⟨by first | rfl | (simp [*]; done) | (simp [isE_ne, *]; done), _, _, _, _, HT2.out⟩
    | a :: b :: c3 :: d :: e5 :: t, hl, hlc, hln, h =>
      have hl0 := hl
      have hlc0 := hlc
      simp only [qExpr, qGen] at h
      have hm : 5 ≤ (a :: b :: c3 :: d :: e5 :: t).length := by simp only [List.length_cons]; omega
      generalize a :: b :: c3 :: d :: e5 :: t = l5 at *
      have l0 : ((l5.length : Int) == 0) = false := beq_eq_false_iff_ne.mpr (by omega)
      have l1 : ((l5.length : Int) == 1) = false := beq_eq_false_iff_ne.mpr (by omega)
      have l2 : ((l5.length : Int) == 2) = false := beq_eq_false_iff_ne.mpr (by omega)
      have l3 : ((l5.length : Int) == 3) = false := beq_eq_false_iff_ne.mpr (by omega)
      have l4 : ((l5.length : Int) == 4) = false := beq_eq_false_iff_ne.mpr (by omega)
      have m4 : decide ((l5.length : Int) ≤ 4) = false := decide_eq_false (by omega)
      have m3 : decide ((l5.length : Int) ≤ 3) = false := decide_eq_false (by omega)
      have m4' : decide (l5.length ≤ 4) = false := decide_eq_false (by omega)
      have m3' : decide (l5.length ≤ 3) = false := decide_eq_false (by omega)
      clear hm
      obtain ⟨⟨v1, v2, v3, v4⟩, hv, h⟩ := Option.bind_eq_some_iff.1 h
      simp only [Option.some.injEq, Prod.mk.injEq] at h
      obtain ⟨rfl, hr, rfl⟩ := h
      have HR := Aside0.mk hr
      clear hr
      have HV := Aside0.mk hv
      clear hv
      go_enter Tryd.func19, Tryd.ntmps19
      go_wp2_with (first
        | (go_at_call 33; refine (general_calls k hamb hr2 hc2 hl0 hlc0 hln HT.out v1 v2 v3 v4 HV.out).mono ?_; rintro e w2 ⟨rfl, ht⟩; rw [HR.out] at ht; have HT2 := Aside0.mk ht; clear ht))
      all_goals
        go_ret
        exact ⟨by first | rfl | (simp [*]; done) | (simp [isE_ne, *]; done), _, _, _, _, HT2.out⟩
end
end Go.Proofs.YtoeiohfljaboaaaDoor.F
set_option linter.unusedVariables false
set_option linter.unusedSimpArgs false
namespace Go.Proofs.YtoeiohfljaboaaaDoor.F
open Go.RowKit Go.Proofs.YtoeiohfljaboaaaDoorW.PrintWords Go.Proofs.YtoeiohfljaboaaaDoorW.PrintLast Go.Proofs.YtoeiohfljaboaaaDoorW.PrintMore Go.Proofs.YtoeiohfljaboaaaDoor.Aid
def resR (v : Bool) (er : Int) (od : Bool) : Bool × Int := if er = 0 then (if od = true then (false, 1) else (v, 0)) else (false, er)
def jobshellref29_Eval.f (args : List ByteArray) (fs : List S_File) (cwd : ByteArray) : Option (Bool × Int) :=
  if args.length ≤ 1000000 then (qExpr EK fs cwd 6 args 0 false).bind fun v => some (resR v.1 v.2.1 v.2.2) else none
set_option maxHeartbeats 16000000 in
set_option maxRecDepth 100000 in
theorem jobshellref29_Eval.calls (A0 : Option Addr) (c0 : Nat) (l0 : List ByteArray) (A1 : Option Addr) (c1 : Nat) (l1 : List (S_File)) (a2 : ByteArray) (r1 : Bool) (r2 : Int) (w : World) (hr0 : Kd.C Kd.string w A0 l0.length l0) (hc0 : l0.length ≤ c0) (hr1 : Kd.C k_File w A1 l1.length l1) (hc1 : l1.length ≤ c1) (hamb : AmbC w) (h : jobshellref29_Eval.f l0 l1 a2 = some (r1, r2)) :
    Calls Tryd.prog 11 #[.slice A0 l0.length c0, .slice A1 l1.length c1, .string a2] w fun e w' => e = .returned (.tuple #[.bool r1, .int .i64 r2]) ∧ Below w.heap.size w w' := by
  unfold jobshellref29_Eval.f at h
  split at h
  case isFalse => cases h
  rename_i hn
  obtain ⟨⟨v1, v2, v3⟩, hv, h⟩ := Option.bind_eq_some_iff.1 h
  have HV := Aside0.mk hv
  have e := Option.some.inj h
  simp only [resR] at e
  have HT : Aside0 (R29 w (w.alloc (.cells #[.slice none 0 0, .int .i64 0, .slice A1 l1.length c1, .string a2, .int .i64 0, .bool false] 49)) w.heap.size none 0 0 A1 c1 l1.length a2 0 0 false) :=
    ⟨⟨heap_alloc_new w _, Nat.le_refl _, below_alloc (Below.refl _ _) _⟩⟩
  have HX := Aside0.mk (qExpr_calls (w0 := w) (g := w.heap.size) (cwd := a2) EK hamb hr1 hc1 6 l0 A0 c0 _ none 0 0 0 0 false v1 v2 v3 hr0 ⟨hc0, hn⟩ HT.out hv)
  clear hv h hr0 hr1 hamb
  by_cases d : v2 = 0
  · subst d
    rw [if_pos rfl] at e
    cases v3 with
    | true =>
      rw [if_pos rfl] at e
      obtain ⟨rfl, rfl⟩ := Prod.mk.inj e
      clear e
      go_enter Tryd.func11, Tryd.ntmps11
      go_wp2_with (go_at_call 19; refine HX.out.mono ?_; rintro e w2 ⟨rfl, A', c', n', a', ht⟩; have HT2 := Aside0.mk ht; have k4 := ht.c4_; have k5 := ht.c5_; clear ht)
      go_ret2
      exact ⟨rfl, HT2.out.below⟩
    | false =>
      rw [if_neg (by decide)] at e
      obtain ⟨rfl, rfl⟩ := Prod.mk.inj e
      clear e
      go_enter Tryd.func11, Tryd.ntmps11
      go_wp2_with (go_at_call 19; refine HX.out.mono ?_; rintro e w2 ⟨rfl, A', c', n', a', ht⟩; have HT2 := Aside0.mk ht; have k4 := ht.c4_; have k5 := ht.c5_; clear ht)
      go_ret2
      exact ⟨rfl, HT2.out.below⟩
  · rw [if_neg d] at e
    have b1 : (v2 != 0) = true := bne_iff_ne.mpr d
    obtain ⟨rfl, rfl⟩ := Prod.mk.inj e
    clear e d
    go_enter Tryd.func11, Tryd.ntmps11
    go_wp2_with (go_at_call 19; refine HX.out.mono ?_; rintro e w2 ⟨rfl, A', c', n', a', ht⟩; have HT2 := Aside0.mk ht; have k4 := ht.c4_; have k5 := ht.c5_; clear ht)
    go_quiet (fail)
    go_wp2
    go_ret2
    exact ⟨rfl, (R29.drewN HT2.out _).below⟩
end Go.Proofs.YtoeiohfljaboaaaDoor.F
namespace Go.Proofs.YtoeiohfljaboaaaDoor.F
open Go.RowKit Go.Proofs.YtoeiohfljaboaaaDoorW.PrintWords Go.Proofs.YtoeiohfljaboaaaDoorW.PrintLast Go.Proofs.YtoeiohfljaboaaaDoorW.PrintMore
attribute [local go_sem] max2_int min2_int max_two min_two max_three min_three max_four min_four
set_option linter.unusedVariables false
set_option linter.unusedSimpArgs false
def jobshelllaw29_TestexprEvals.f (k : Nat) (l0 : List ByteArray) (l1 : List (S_File)) (a2 : ByteArray) : Option (Bool) := (jobshelllaw29_small.f k l0 l1 a2).bind fun t285 => (if t285 = true then ((testexpr_Eval.f l0 l1 a2).bind fun bt286 => ((jobshellref29_Eval.f l0 l1 a2).bind fun bt288 => (if (bt286.1 == bt288.1) = true then (if bt286.2 = bt288.2 then ((jobshelllaw29_awake.f).bind fun t290 => (some t290)) else (some false)) else (some false)))) else ((jobshelllaw29_awake.f).bind fun t291 => (some t291)))
theorem jobshelllaw29_TestexprEvals.mono : ∀ a0 a1 a2 k, LeO (jobshelllaw29_TestexprEvals.f k a0 a1 a2) (jobshelllaw29_TestexprEvals.f (k + 1) a0 a1 a2) := by
 intro a0 a1 a2 k
 unfold jobshelllaw29_TestexprEvals.f
 repeat' first
   | (with_reducible exact jobshelllaw29_small.mono _ _ _ _)
   | (with_reducible exact LeO.refl _)
   | (with_reducible exact LeO.none _)
   | (with_reducible refine LeO.ite ?_ ?_)
   | (with_reducible refine LeO.bind ?_ (fun _ => ?_))
   | exact jobshelllaw29_small.mono _ _ _ _
   | exact LeO.none _
   | refine LeO.ite ?_ ?_
   | refine LeO.bind ?_ (fun _ => ?_)
set_option maxHeartbeats 8000000 in
set_option maxRecDepth 100000 in
theorem jobshelllaw29_TestexprEvals.calls (k : Nat) (A0 : Option Addr) (c0 : Nat) (l0 : List ByteArray) (A1 : Option Addr) (c1 : Nat) (l1 : List (S_File)) (a2 : ByteArray) (r : Bool) (w : World) (hr0 : Kd.C Kd.string w A0 l0.length l0) (hc0 : l0.length ≤ c0) (hr1 : Kd.C k_File w A1 l1.length l1) (hc1 : l1.length ≤ c1) (hamb : AmbC w) (h : jobshelllaw29_TestexprEvals.f k l0 l1 a2 = some r) :
  Calls Tryd.prog 3 #[.slice A0 l0.length c0, .slice A1 l1.length c1, .string a2] w fun e w' => e = .returned (.bool r) ∧ Below w.heap.size w w' := by
 have HAMB := Aside0.mk hamb
 clear hamb
 have HR0 := Aside0.mk hr0
 have HC0 := Aside0.mk hc0
 clear hr0 hc0
 have HR1 := Aside0.mk hr1
 have HC1 := Aside0.mk hc1
 clear hr1 hc1
 have HB := Aside0.mk (Below.refl w.heap.size w)
 have H : ((jobshelllaw29_small.f k l0 l1 a2).bind fun t285 => (if t285 = true then ((testexpr_Eval.f l0 l1 a2).bind fun bt286 => ((jobshellref29_Eval.f l0 l1 a2).bind fun bt288 => (if (bt286.1 == bt288.1) = true then (if bt286.2 = bt288.2 then ((jobshelllaw29_awake.f).bind fun t290 => (some t290)) else (some false)) else (some false)))) else ((jobshelllaw29_awake.f).bind fun t291 => (some t291)))) = some r := h
 clear h
 replace H := Option.bind_eq_some_iff.mp H
 obtain ⟨t285, A40, H⟩ := H
 replace H : (if t285 = true then ((testexpr_Eval.f l0 l1 a2).bind fun bt286 => ((jobshellref29_Eval.f l0 l1 a2).bind fun bt288 => (if (bt286.1 == bt288.1) = true then (if bt286.2 = bt288.2 then ((jobshelllaw29_awake.f).bind fun t290 => (some t290)) else (some false)) else (some false)))) else ((jobshelllaw29_awake.f).bind fun t291 => (some t291))) = some r := H
 have A4 := Aside0.mk A40
 clear A40
 by_cases c5 : t285 = true
 ·subst c5
  have H1 : ((testexpr_Eval.f l0 l1 a2).bind fun bt286 => ((jobshellref29_Eval.f l0 l1 a2).bind fun bt288 => (if (bt286.1 == bt288.1) = true then (if bt286.2 = bt288.2 then ((jobshelllaw29_awake.f).bind fun t290 => (some t290)) else (some false)) else (some false)))) = some r := by rw [if_pos rfl] at H; exact H
  clear H
  have H := H1
  clear H1
  replace H := Option.bind_eq_some_iff.mp H
  obtain ⟨⟨t286, t287⟩, A60, H⟩ := H
  replace H : ((jobshellref29_Eval.f l0 l1 a2).bind fun bt288 => (if (t286 == bt288.1) = true then (if t287 = bt288.2 then ((jobshelllaw29_awake.f).bind fun t290 => (some t290)) else (some false)) else (some false))) = some r := H
  have A6 := Aside0.mk A60
  clear A60
  replace H := Option.bind_eq_some_iff.mp H
  obtain ⟨⟨t288, t289⟩, A70, H⟩ := H
  replace H : (if (t286 == t288) = true then (if t287 = t289 then ((jobshelllaw29_awake.f).bind fun t290 => (some t290)) else (some false)) else (some false)) = some r := H
  have A7 := Aside0.mk A70
  clear A70
  by_cases c8 : (t286 == t288) = true
  ·rw [if_pos c8] at H
   have c8b0 : (t286 == t288) = true := c8
   (try (have c8b1 : decide (t286 = t288) = true := by simpa using c8))
   (try (have c8b2 : (t286 == t288) = true := by simpa using c8))
   clear c8
   by_cases c9 : t287 = t289
   ·rw [if_pos c9] at H
    have c9b0 : (t287 == t289) = true := beq_iff_eq.mpr c9
    have c9b1 : (t287 != t289) = false := bne_eq_false_iff_eq.mpr c9
    clear c9
    replace H := Option.bind_eq_some_iff.mp H
    obtain ⟨t290, A100, H⟩ := H
    replace H : (some t290) = some r := H
    have A10 := Aside0.mk A100
    clear A100
    obtain rfl := Option.some.inj H
    go_enter Tryd.func3, Tryd.ntmps3
    go_wp2_with (first | ((with_reducible refine gate_callee (f := 8) rfl ?_); refine goesL_ (some 14) rfl rfl Tryd.func8 (by kernel_rfl) rfl #[.slice A0 l0.length c0, .slice A1 l1.length c1, .string a2] rfl (by (try simp only [List.map_toArray, List.map_cons, List.map_nil]); first | done | rfl | (simp only [List.length_drop, List.length_take]; rfl)) ?_; (with_reducible refine (jobshelllaw29_small.calls k _ _ l0 _ _ l1 a2 true _ ?side1 ?side2 ?side3 ?side4 A4.out).mono ?_); (case side1 => repeat (first | exact HR0.out | (with_reducible refine Kd.C_alloc ?_ _) | (with_reducible refine Kd.C_drewN ?_ _) | (with_reducible refine Kd.C_drew ?_))); (case side2 => exact HC0.out); (case side3 => repeat (first | exact HR1.out | (with_reducible refine Kd.C_alloc ?_ _) | (with_reducible refine Kd.C_drewN ?_ _) | (with_reducible refine Kd.C_drew ?_))); (case side4 => exact HC1.out); rintro e w11 ⟨rfl, hb⟩; refine ⟨_, rfl, ?_⟩; have n0_ := Aside0.mk (below_step (by repeat (first | (with_reducible first | exact HB.out | apply below_alloc | apply pw_below_drewN | apply below_drew1) | exact HB.out)) hb); clear HB; have HB := n0_; clear n0_; (try clear hb); (try clear hb2); (try clear hk); (try clear hi)) | ((with_reducible refine gate_callee (f := 10) rfl ?_); refine goesL_ (some 21) rfl rfl Tryd.func10 (by kernel_rfl) rfl #[.slice A0 l0.length c0, .slice A1 l1.length c1, .string a2] rfl (by (try simp only [List.map_toArray, List.map_cons, List.map_nil]); first | done | rfl | (simp only [List.length_drop, List.length_take]; rfl)) ?_; (with_reducible refine (testexpr_Eval.calls _ _ l0 _ _ l1 a2 t286 t287 _ ?side1 ?side2 ?side3 ?side4 ?side5 A6.out).mono ?_); (case side1 => repeat (first | exact (Kd.C_below HR0.out HB.out) | (with_reducible refine Kd.C_alloc ?_ _) | (with_reducible refine Kd.C_drewN ?_ _) | (with_reducible refine Kd.C_drew ?_))); (case side2 => exact HC0.out); (case side3 => repeat (first | exact (Kd.C_below HR1.out HB.out) | (with_reducible refine Kd.C_alloc ?_ _) | (with_reducible refine Kd.C_drewN ?_ _) | (with_reducible refine Kd.C_drew ?_))); (case side4 => exact HC1.out); (case side5 => repeat (first | exact (AmbC_below HAMB.out HB.out) | (with_reducible refine AmbC_alloc ?_ _) | (with_reducible refine AmbC_drewN ?_ _) | (with_reducible refine AmbC_drew ?_))); rintro e w12 ⟨rfl, hb⟩; refine ⟨_, rfl, ?_⟩; have n0_ := Aside0.mk (below_step (by repeat (first | (with_reducible first | exact HB.out | apply below_alloc | apply pw_below_drewN | apply below_drew1) | exact HB.out)) hb); clear HB; have HB := n0_; clear n0_; (try clear hb); (try clear hb2); (try clear hk); (try clear hi)) | ((with_reducible refine gate_callee (f := 11) rfl ?_); refine goesL_ (some 28) rfl rfl Tryd.func11 (by kernel_rfl) rfl #[.slice A0 l0.length c0, .slice A1 l1.length c1, .string a2] rfl (by (try simp only [List.map_toArray, List.map_cons, List.map_nil]); first | done | rfl | (simp only [List.length_drop, List.length_take]; rfl)) ?_; (with_reducible refine (jobshellref29_Eval.calls _ _ l0 _ _ l1 a2 t288 t289 _ ?side1 ?side2 ?side3 ?side4 ?side5 A7.out).mono ?_); (case side1 => repeat (first | exact (Kd.C_below HR0.out HB.out) | (with_reducible refine Kd.C_alloc ?_ _) | (with_reducible refine Kd.C_drewN ?_ _) | (with_reducible refine Kd.C_drew ?_))); (case side2 => exact HC0.out); (case side3 => repeat (first | exact (Kd.C_below HR1.out HB.out) | (with_reducible refine Kd.C_alloc ?_ _) | (with_reducible refine Kd.C_drewN ?_ _) | (with_reducible refine Kd.C_drew ?_))); (case side4 => exact HC1.out); (case side5 => repeat (first | exact (AmbC_below HAMB.out HB.out) | (with_reducible refine AmbC_alloc ?_ _) | (with_reducible refine AmbC_drewN ?_ _) | (with_reducible refine AmbC_drew ?_))); rintro e w13 ⟨rfl, hb⟩; refine ⟨_, rfl, ?_⟩; have n0_ := Aside0.mk (below_step (by repeat (first | (with_reducible first | exact HB.out | apply below_alloc | apply pw_below_drewN | apply below_drew1) | exact HB.out)) hb); clear HB; have HB := n0_; clear n0_; (try clear hb); (try clear hb2); (try clear hk); (try clear hi)) | (go_at_call 9; (with_reducible refine (jobshelllaw29_awake.calls  t290 _ ?side1 A10.out).mono ?_); (case side1 => repeat (first | exact (AmbC_below HAMB.out HB.out) | (with_reducible refine AmbC_alloc ?_ _) | (with_reducible refine AmbC_drewN ?_ _) | (with_reducible refine AmbC_drew ?_))); rintro e w14 ⟨rfl, hb⟩; have n0_ := Aside0.mk (below_step (by repeat (first | (with_reducible first | exact HB.out | apply below_alloc | apply pw_below_drewN | apply below_drew1) | exact HB.out)) hb); clear HB; have HB := n0_; clear n0_; (try clear hb); (try clear hb2); (try clear hk); (try clear hi)))
    go_ret
    exact ⟨by first | rfl | (simp [errW_none, errW_some] <;> rfl) | (simp [*, errW_none, errW_some] <;> rfl), by repeat (first | (with_reducible first | exact HB.out | apply below_alloc | apply pw_below_drewN | apply below_drew1) | exact HB.out)⟩
   ·rw [if_neg c9] at H
    have c9b0 : (t287 == t289) = false := beq_eq_false_iff_ne.mpr c9
    have c9b1 : (t287 != t289) = true := bne_iff_ne.mpr c9
    obtain rfl := Option.some.inj H
    go_enter Tryd.func3, Tryd.ntmps3
    go_wp2_with (first | ((with_reducible refine gate_callee (f := 8) rfl ?_); refine goesL_ (some 14) rfl rfl Tryd.func8 (by kernel_rfl) rfl #[.slice A0 l0.length c0, .slice A1 l1.length c1, .string a2] rfl (by (try simp only [List.map_toArray, List.map_cons, List.map_nil]); first | done | rfl | (simp only [List.length_drop, List.length_take]; rfl)) ?_; (with_reducible refine (jobshelllaw29_small.calls k _ _ l0 _ _ l1 a2 true _ ?side1 ?side2 ?side3 ?side4 A4.out).mono ?_); (case side1 => repeat (first | exact HR0.out | (with_reducible refine Kd.C_alloc ?_ _) | (with_reducible refine Kd.C_drewN ?_ _) | (with_reducible refine Kd.C_drew ?_))); (case side2 => exact HC0.out); (case side3 => repeat (first | exact HR1.out | (with_reducible refine Kd.C_alloc ?_ _) | (with_reducible refine Kd.C_drewN ?_ _) | (with_reducible refine Kd.C_drew ?_))); (case side4 => exact HC1.out); rintro e w15 ⟨rfl, hb⟩; refine ⟨_, rfl, ?_⟩; have n0_ := Aside0.mk (below_step (by repeat (first | (with_reducible first | exact HB.out | apply below_alloc | apply pw_below_drewN | apply below_drew1) | exact HB.out)) hb); clear HB; have HB := n0_; clear n0_; (try clear hb); (try clear hb2); (try clear hk); (try clear hi)) | ((with_reducible refine gate_callee (f := 10) rfl ?_); refine goesL_ (some 21) rfl rfl Tryd.func10 (by kernel_rfl) rfl #[.slice A0 l0.length c0, .slice A1 l1.length c1, .string a2] rfl (by (try simp only [List.map_toArray, List.map_cons, List.map_nil]); first | done | rfl | (simp only [List.length_drop, List.length_take]; rfl)) ?_; (with_reducible refine (testexpr_Eval.calls _ _ l0 _ _ l1 a2 t286 t287 _ ?side1 ?side2 ?side3 ?side4 ?side5 A6.out).mono ?_); (case side1 => repeat (first | exact (Kd.C_below HR0.out HB.out) | (with_reducible refine Kd.C_alloc ?_ _) | (with_reducible refine Kd.C_drewN ?_ _) | (with_reducible refine Kd.C_drew ?_))); (case side2 => exact HC0.out); (case side3 => repeat (first | exact (Kd.C_below HR1.out HB.out) | (with_reducible refine Kd.C_alloc ?_ _) | (with_reducible refine Kd.C_drewN ?_ _) | (with_reducible refine Kd.C_drew ?_))); (case side4 => exact HC1.out); (case side5 => repeat (first | exact (AmbC_below HAMB.out HB.out) | (with_reducible refine AmbC_alloc ?_ _) | (with_reducible refine AmbC_drewN ?_ _) | (with_reducible refine AmbC_drew ?_))); rintro e w16 ⟨rfl, hb⟩; refine ⟨_, rfl, ?_⟩; have n0_ := Aside0.mk (below_step (by repeat (first | (with_reducible first | exact HB.out | apply below_alloc | apply pw_below_drewN | apply below_drew1) | exact HB.out)) hb); clear HB; have HB := n0_; clear n0_; (try clear hb); (try clear hb2); (try clear hk); (try clear hi)) | ((with_reducible refine gate_callee (f := 11) rfl ?_); refine goesL_ (some 28) rfl rfl Tryd.func11 (by kernel_rfl) rfl #[.slice A0 l0.length c0, .slice A1 l1.length c1, .string a2] rfl (by (try simp only [List.map_toArray, List.map_cons, List.map_nil]); first | done | rfl | (simp only [List.length_drop, List.length_take]; rfl)) ?_; (with_reducible refine (jobshellref29_Eval.calls _ _ l0 _ _ l1 a2 t288 t289 _ ?side1 ?side2 ?side3 ?side4 ?side5 A7.out).mono ?_); (case side1 => repeat (first | exact (Kd.C_below HR0.out HB.out) | (with_reducible refine Kd.C_alloc ?_ _) | (with_reducible refine Kd.C_drewN ?_ _) | (with_reducible refine Kd.C_drew ?_))); (case side2 => exact HC0.out); (case side3 => repeat (first | exact (Kd.C_below HR1.out HB.out) | (with_reducible refine Kd.C_alloc ?_ _) | (with_reducible refine Kd.C_drewN ?_ _) | (with_reducible refine Kd.C_drew ?_))); (case side4 => exact HC1.out); (case side5 => repeat (first | exact (AmbC_below HAMB.out HB.out) | (with_reducible refine AmbC_alloc ?_ _) | (with_reducible refine AmbC_drewN ?_ _) | (with_reducible refine AmbC_drew ?_))); rintro e w17 ⟨rfl, hb⟩; refine ⟨_, rfl, ?_⟩; have n0_ := Aside0.mk (below_step (by repeat (first | (with_reducible first | exact HB.out | apply below_alloc | apply pw_below_drewN | apply below_drew1) | exact HB.out)) hb); clear HB; have HB := n0_; clear n0_; (try clear hb); (try clear hb2); (try clear hk); (try clear hi)))
    go_ret
    exact ⟨by first | rfl | (simp [errW_none, errW_some] <;> rfl) | (simp [*, errW_none, errW_some] <;> rfl), by repeat (first | (with_reducible first | exact HB.out | apply below_alloc | apply pw_below_drewN | apply below_drew1) | exact HB.out)⟩
  ·rw [if_neg c8] at H
   have c8b0 : (t286 == t288) = false := by simpa using c8
   (try (have c8b1 : decide (t286 = t288) = false := by simpa using c8))
   (try (have c8b2 : (t286 == t288) = false := by simpa using c8))
   (try (have c8b3 : ¬ (t286 = t288) := by simpa using c8))
   clear c8
   obtain rfl := Option.some.inj H
   go_enter Tryd.func3, Tryd.ntmps3
   go_wp2_with (first | ((with_reducible refine gate_callee (f := 8) rfl ?_); refine goesL_ (some 14) rfl rfl Tryd.func8 (by kernel_rfl) rfl #[.slice A0 l0.length c0, .slice A1 l1.length c1, .string a2] rfl (by (try simp only [List.map_toArray, List.map_cons, List.map_nil]); first | done | rfl | (simp only [List.length_drop, List.length_take]; rfl)) ?_; (with_reducible refine (jobshelllaw29_small.calls k _ _ l0 _ _ l1 a2 true _ ?side1 ?side2 ?side3 ?side4 A4.out).mono ?_); (case side1 => repeat (first | exact HR0.out | (with_reducible refine Kd.C_alloc ?_ _) | (with_reducible refine Kd.C_drewN ?_ _) | (with_reducible refine Kd.C_drew ?_))); (case side2 => exact HC0.out); (case side3 => repeat (first | exact HR1.out | (with_reducible refine Kd.C_alloc ?_ _) | (with_reducible refine Kd.C_drewN ?_ _) | (with_reducible refine Kd.C_drew ?_))); (case side4 => exact HC1.out); rintro e w18 ⟨rfl, hb⟩; refine ⟨_, rfl, ?_⟩; have n0_ := Aside0.mk (below_step (by repeat (first | (with_reducible first | exact HB.out | apply below_alloc | apply pw_below_drewN | apply below_drew1) | exact HB.out)) hb); clear HB; have HB := n0_; clear n0_; (try clear hb); (try clear hb2); (try clear hk); (try clear hi)) | ((with_reducible refine gate_callee (f := 10) rfl ?_); refine goesL_ (some 21) rfl rfl Tryd.func10 (by kernel_rfl) rfl #[.slice A0 l0.length c0, .slice A1 l1.length c1, .string a2] rfl (by (try simp only [List.map_toArray, List.map_cons, List.map_nil]); first | done | rfl | (simp only [List.length_drop, List.length_take]; rfl)) ?_; (with_reducible refine (testexpr_Eval.calls _ _ l0 _ _ l1 a2 t286 t287 _ ?side1 ?side2 ?side3 ?side4 ?side5 A6.out).mono ?_); (case side1 => repeat (first | exact (Kd.C_below HR0.out HB.out) | (with_reducible refine Kd.C_alloc ?_ _) | (with_reducible refine Kd.C_drewN ?_ _) | (with_reducible refine Kd.C_drew ?_))); (case side2 => exact HC0.out); (case side3 => repeat (first | exact (Kd.C_below HR1.out HB.out) | (with_reducible refine Kd.C_alloc ?_ _) | (with_reducible refine Kd.C_drewN ?_ _) | (with_reducible refine Kd.C_drew ?_))); (case side4 => exact HC1.out); (case side5 => repeat (first | exact (AmbC_below HAMB.out HB.out) | (with_reducible refine AmbC_alloc ?_ _) | (with_reducible refine AmbC_drewN ?_ _) | (with_reducible refine AmbC_drew ?_))); rintro e w19 ⟨rfl, hb⟩; refine ⟨_, rfl, ?_⟩; have n0_ := Aside0.mk (below_step (by repeat (first | (with_reducible first | exact HB.out | apply below_alloc | apply pw_below_drewN | apply below_drew1) | exact HB.out)) hb); clear HB; have HB := n0_; clear n0_; (try clear hb); (try clear hb2); (try clear hk); (try clear hi)) | ((with_reducible refine gate_callee (f := 11) rfl ?_); refine goesL_ (some 28) rfl rfl Tryd.func11 (by kernel_rfl) rfl #[.slice A0 l0.length c0, .slice A1 l1.length c1, .string a2] rfl (by (try simp only [List.map_toArray, List.map_cons, List.map_nil]); first | done | rfl | (simp only [List.length_drop, List.length_take]; rfl)) ?_; (with_reducible refine (jobshellref29_Eval.calls _ _ l0 _ _ l1 a2 t288 t289 _ ?side1 ?side2 ?side3 ?side4 ?side5 A7.out).mono ?_); (case side1 => repeat (first | exact (Kd.C_below HR0.out HB.out) | (with_reducible refine Kd.C_alloc ?_ _) | (with_reducible refine Kd.C_drewN ?_ _) | (with_reducible refine Kd.C_drew ?_))); (case side2 => exact HC0.out); (case side3 => repeat (first | exact (Kd.C_below HR1.out HB.out) | (with_reducible refine Kd.C_alloc ?_ _) | (with_reducible refine Kd.C_drewN ?_ _) | (with_reducible refine Kd.C_drew ?_))); (case side4 => exact HC1.out); (case side5 => repeat (first | exact (AmbC_below HAMB.out HB.out) | (with_reducible refine AmbC_alloc ?_ _) | (with_reducible refine AmbC_drewN ?_ _) | (with_reducible refine AmbC_drew ?_))); rintro e w20 ⟨rfl, hb⟩; refine ⟨_, rfl, ?_⟩; have n0_ := Aside0.mk (below_step (by repeat (first | (with_reducible first | exact HB.out | apply below_alloc | apply pw_below_drewN | apply below_drew1) | exact HB.out)) hb); clear HB; have HB := n0_; clear n0_; (try clear hb); (try clear hb2); (try clear hk); (try clear hi)))
   go_ret
   exact ⟨by first | rfl | (simp [errW_none, errW_some] <;> rfl) | (simp [*, errW_none, errW_some] <;> rfl), by repeat (first | (with_reducible first | exact HB.out | apply below_alloc | apply pw_below_drewN | apply below_drew1) | exact HB.out)⟩
 ·replace c5 := Bool.eq_false_iff.mpr c5
  subst c5
  have H1 : ((jobshelllaw29_awake.f).bind fun t291 => (some t291)) = some r := by rw [if_neg (show ¬ (false = true) by decide)] at H; exact H
  clear H
  have H := H1
  clear H1
  replace H := Option.bind_eq_some_iff.mp H
  obtain ⟨t291, A210, H⟩ := H
  replace H : (some t291) = some r := H
  have A21 := Aside0.mk A210
  clear A210
  obtain rfl := Option.some.inj H
  go_enter Tryd.func3, Tryd.ntmps3
  go_wp2_with (first | ((with_reducible refine gate_callee (f := 8) rfl ?_); refine goesL_ (some 14) rfl rfl Tryd.func8 (by kernel_rfl) rfl #[.slice A0 l0.length c0, .slice A1 l1.length c1, .string a2] rfl (by (try simp only [List.map_toArray, List.map_cons, List.map_nil]); first | done | rfl | (simp only [List.length_drop, List.length_take]; rfl)) ?_; (with_reducible refine (jobshelllaw29_small.calls k _ _ l0 _ _ l1 a2 false _ ?side1 ?side2 ?side3 ?side4 A4.out).mono ?_); (case side1 => repeat (first | exact HR0.out | (with_reducible refine Kd.C_alloc ?_ _) | (with_reducible refine Kd.C_drewN ?_ _) | (with_reducible refine Kd.C_drew ?_))); (case side2 => exact HC0.out); (case side3 => repeat (first | exact HR1.out | (with_reducible refine Kd.C_alloc ?_ _) | (with_reducible refine Kd.C_drewN ?_ _) | (with_reducible refine Kd.C_drew ?_))); (case side4 => exact HC1.out); rintro e w22 ⟨rfl, hb⟩; refine ⟨_, rfl, ?_⟩; have n0_ := Aside0.mk (below_step (by repeat (first | (with_reducible first | exact HB.out | apply below_alloc | apply pw_below_drewN | apply below_drew1) | exact HB.out)) hb); clear HB; have HB := n0_; clear n0_; (try clear hb); (try clear hb2); (try clear hk); (try clear hi)) | ((with_reducible refine gate_callee (f := 9) rfl ?_); refine goesL_ (some 16) rfl rfl Tryd.func9 (by kernel_rfl) rfl #[] rfl (by (try simp only [List.map_toArray, List.map_cons, List.map_nil]); first | done | rfl | (simp only [List.length_drop, List.length_take]; rfl)) ?_; (with_reducible refine (jobshelllaw29_awake.calls  t291 _ ?side1 A21.out).mono ?_); (case side1 => repeat (first | exact (AmbC_below HAMB.out HB.out) | (with_reducible refine AmbC_alloc ?_ _) | (with_reducible refine AmbC_drewN ?_ _) | (with_reducible refine AmbC_drew ?_))); rintro e w23 ⟨rfl, hb⟩; refine ⟨_, rfl, ?_⟩; have n0_ := Aside0.mk (below_step (by repeat (first | (with_reducible first | exact HB.out | apply below_alloc | apply pw_below_drewN | apply below_drew1) | exact HB.out)) hb); clear HB; have HB := n0_; clear n0_; (try clear hb); (try clear hb2); (try clear hk); (try clear hi)))
  go_ret
  exact ⟨by first | rfl | (simp [errW_none, errW_some] <;> rfl) | (simp [*, errW_none, errW_some] <;> rfl), by repeat (first | (with_reducible first | exact HB.out | apply below_alloc | apply pw_below_drewN | apply below_drew1) | exact HB.out)⟩
end Go.Proofs.YtoeiohfljaboaaaDoor.F
set_option linter.unusedVariables false
set_option linter.unusedSimpArgs false
namespace Go.Proofs.YtoeiohfljaboaaaDoor.Pure
open Go.RowKit Go.Proofs.YtoeiohfljaboaaaDoor.F Go.Proofs.YtoeiohfljaboaaaDoorW.PrintWords
theorem fuel {k n : Nat} (h : n + 1 ≤ k) : ∃ j, k = j + 1 ∧ n ≤ j := ⟨k - 1, by omega, by omega⟩
theorem short_l0 (l : List ByteArray) (a1 a2 : Nat) (h1 : a1 < 1000) : ∀ (d n k : Nat), n ≤ l.length → n ≤ a1 + 1 → a1 + 1 - n = d → 2 * d + 2 ≤ k → (∀ i, i < n → (rdOf ByteArray.empty l (i : Nat)).size ≤ a2) →
    ∃ b, jobshellref03_Short.l0 k l (a1 : Int) (a2 : Int) (n : Int) = some b ∧ (b = true → l.length ≤ a1 ∧ ∀ i, i < l.length → (rdOf ByteArray.empty l (i : Nat)).size ≤ a2) := by
  intro d
  induction d with
  | zero =>
    intro n k hn hn2 hd hk hs
    obtain ⟨k, rfl, hk⟩ := fuel (k := k) (n := 0) (by omega)
    obtain ⟨k, rfl, hk⟩ := fuel (k := k) (n := 0) (by omega)
    rw [jobshellref03_Short.l0]
    refine ⟨false, ?_, fun h => by cases h⟩
    by_cases hl : (n : Int) < (l.length : Int)
    · rw [if_pos hl, decide_eq_false (by omega), jobshellref03_Short.j1, if_neg (by decide), decide_eq_false (by omega)]
    · rw [if_neg hl, jobshellref03_Short.j1, if_neg (by decide), decide_eq_false (by omega)]
  | succ d ih =>
    intro n k hn hn2 hd hk hs
    obtain ⟨k, rfl, hk⟩ := fuel (k := k) (n := 2 * d + 3) (by omega)
    obtain ⟨k, rfl, hk⟩ := fuel (k := k) (n := 0) (by omega)
    rw [jobshellref03_Short.l0]
    by_cases hl : (n : Int) < (l.length : Int)
    · rw [if_pos hl, decide_eq_true (by omega), jobshellref03_Short.j1, if_pos rfl, if_pos (by omega), if_pos hl]
      by_cases hz : ((rdOf ByteArray.empty l (n : Int)).size : Int) > (a2 : Int)
      · rw [if_pos hz]; exact ⟨false, rfl, fun h => by cases h⟩
      · rw [if_neg hz, wrap_succ (by omega)]
        refine ih (n + 1) k (by omega) (by omega) (by omega) (by omega) ?_
        intro i hi
        by_cases he : i = n
        · subst he; omega
        · exact hs i (by omega)
    · rw [if_neg hl, jobshellref03_Short.j1, if_neg (by decide)]
      refine ⟨_, rfl, fun h => ⟨by simpa using h, fun i hi => hs i (by omega)⟩⟩
theorem short_f (l : List ByteArray) (k : Nat) (hk : 100 ≤ k) : ∃ b, jobshellref03_Short.f k l 12 40 = some b ∧ (b = true → l.length ≤ 12 ∧ ∀ i, i < l.length → (rdOf ByteArray.empty l (i : Nat)).size ≤ 40) := by
  unfold jobshellref03_Short.f
  exact short_l0 l 12 40 (by decide) 13 0 k (by omega) (by omega) (by omega) (by omega) (fun i hi => absurd hi (by omega))
theorem small_l0 (l : List S_File) (hl : l.length ≤ 140) : ∀ (d n k : Nat) (c : Int), n ≤ l.length → l.length - n = d → 2 * d + 2 ≤ k → ∃ b, jobshellref19_Small.l0 k l c (n : Int) = some b := by
  intro d
  induction d with
  | zero =>
    intro n k c hn hd hk
    obtain ⟨k, rfl, hk⟩ := fuel (k := k) (n := 0) (by omega)
    obtain ⟨k, rfl, hk⟩ := fuel (k := k) (n := 0) (by omega)
    rw [jobshellref19_Small.l0, if_neg (by omega), jobshellref19_Small.j1, if_neg (by decide)]
    split <;> exact ⟨_, rfl⟩
  | succ d ih =>
    intro n k c hn hd hk
    obtain ⟨k, rfl, hk⟩ := fuel (k := k) (n := 2 * d + 3) (by omega)
    obtain ⟨k, rfl, hk⟩ := fuel (k := k) (n := 0) (by omega)
    rw [jobshellref19_Small.l0, if_pos (by omega), if_pos (by omega), jobshellref19_Small.j1]
    split
    · rw [if_pos (by omega), if_pos (by omega)]
      split
      · exact ⟨_, rfl⟩
      · split
        · exact ⟨_, rfl⟩
        · rw [wrap_succ (by omega)]
          exact ih (n + 1) k _ (by omega) (by omega) (by omega)
    · split <;> exact ⟨_, rfl⟩
theorem cut_l0 (s : ByteArray) (hs : s.size ≤ 1000) : ∀ (d n k m : Nat), n ≤ s.size → m ≤ s.size → s.size - n = d → d + 1 ≤ k → ∃ r : Nat, jobshellref19_cut.l0 k s (m : Int) (n : Int) = some (r : Int) ∧ r ≤ s.size := by
  intro d
  induction d with
  | zero =>
    intro n k m hn hm hd hk
    obtain ⟨k, rfl, hk⟩ := fuel (k := k) (n := 0) (by omega)
    rw [jobshellref19_cut.l0, if_neg (by omega)]
    exact ⟨m, rfl, hm⟩
  | succ d ih =>
    intro n k m hn hm hd hk
    obtain ⟨k, rfl, hk⟩ := fuel (k := k) (n := 0) (by omega)
    rw [jobshellref19_cut.l0, if_pos (by omega), if_pos (by omega)]
    rw [wrap_succ (by omega)]
    split
    · exact ih (n + 1) k n (by omega) (by omega) (by omega) (by omega)
    · exact ih (n + 1) k m (by omega) (by omega) (by omega) (by omega)
theorem Parent_f (s : ByteArray) (hs : s.size ≤ 1000) (k : Nat) (hk : 1001 ≤ k) : ∃ r, jobshellref19_Parent.f k s = some r := by
  unfold jobshellref19_Parent.f jobshellref19_cut.f
  obtain ⟨r, h, hr⟩ := cut_l0 s hs s.size 0 k 0 (by omega) (by omega) (by omega) (by omega)
  rw [show ((0 : Nat) : Int) = 0 from rfl] at h
  rw [h, Option.bind_some]
  split
  · exact ⟨_, rfl⟩
  · rw [if_pos (by omega), if_pos (by omega)]; exact ⟨_, rfl⟩
theorem name_l0 (s : ByteArray) (hs : s.size ≤ 1000) : ∀ (d n k : Nat), n ≤ s.size → s.size - n = d → d + 1 ≤ k → ∃ r, jobshellref19_name.l0 k s (n : Int) = some r := by
  intro d
  induction d with
  | zero =>
    intro n k hn hd hk
    obtain ⟨k, rfl, hk⟩ := fuel (k := k) (n := 0) (by omega)
    rw [jobshellref19_name.l0, if_neg (by omega)]
    exact ⟨_, rfl⟩
  | succ d ih =>
    intro n k hn hd hk
    obtain ⟨k, rfl, hk⟩ := fuel (k := k) (n := 0) (by omega)
    rw [jobshellref19_name.l0, if_pos (by omega), if_pos (by omega)]
    split
    · exact ⟨_, rfl⟩
    · split
      · exact ⟨_, rfl⟩
      · rw [wrap_succ (by omega)]
        exact ih (n + 1) k (by omega) (by omega) (by omega)
theorem name_f (s : ByteArray) (k : Nat) (hk : 40 ≤ k) : ∃ r, jobshellref19_name.f k s = some r := by
  obtain ⟨k, rfl, hk⟩ := fuel (k := k) (n := 0) (by omega)
  have j0 : ∀ b : Bool, s.size ≤ 32 → ∃ r, jobshellref19_name.j0 (k + 1) s b = some r := by
    intro b h
    rw [jobshellref19_name.j0]
    split
    · exact ⟨_, rfl⟩
    · exact name_l0 s (by omega) s.size 0 k (by omega) (by omega) (by omega)
  have jt : ∃ r, jobshellref19_name.j0 (k + 1) s true = some r := by
    rw [jobshellref19_name.j0, if_pos rfl]; exact ⟨_, rfl⟩
  unfold jobshellref19_name.f
  split
  · exact jt
  · split
    · exact jt
    · split
      · exact jt
      · exact j0 _ (by omega)
theorem parts_l0 (s : ByteArray) (hs : s.size ≤ 1000) : ∀ (d n k m : Nat) (xs : List ByteArray), n ≤ s.size → m ≤ n → xs.length ≤ n → s.size - n = d → d + 1 ≤ k → ∃ r, jobshellref19_parts.l0 k s xs (m : Int) (n : Int) = some r ∧ r.length ≤ s.size + 1 := by
  intro d
  induction d with
  | zero =>
    intro n k m xs hn hm hx hd hk
    obtain ⟨k, rfl, hk⟩ := fuel (k := k) (n := 0) (by omega)
    rw [jobshellref19_parts.l0, if_neg (by omega), if_pos (by omega), if_pos (by omega), if_pos (by omega)]
    exact ⟨_, rfl, by simp; omega⟩
  | succ d ih =>
    intro n k m xs hn hm hx hd hk
    obtain ⟨k, rfl, hk⟩ := fuel (k := k) (n := 0) (by omega)
    rw [jobshellref19_parts.l0, if_pos (by omega), if_pos (by omega)]
    rw [wrap_succ (by omega)]
    split
    · rw [if_pos (by omega), if_pos (by omega), if_pos (by omega), if_pos (by omega)]
      exact ih (n + 1) k (n + 1) _ (by omega) (by omega) (by simp; omega) (by omega) (by omega)
    · exact ih (n + 1) k m _ (by omega) (by omega) (by omega) (by omega) (by omega)
theorem IsPath_l0 (l : List ByteArray) (hl : l.length ≤ 1000) : ∀ (d n k : Nat), n ≤ l.length → l.length - n = d → d + 41 ≤ k → ∃ r, jobshellref19_IsPath.l0 k l (n : Int) = some r := by
  intro d
  induction d with
  | zero =>
    intro n k hn hd hk
    obtain ⟨k, rfl, hk⟩ := fuel (k := k) (n := 0) (by omega)
    rw [jobshellref19_IsPath.l0, if_neg (by omega)]
    exact ⟨_, rfl⟩
  | succ d ih =>
    intro n k hn hd hk
    obtain ⟨k, rfl, hk⟩ := fuel (k := k) (n := d + 41) (by omega)
    rw [jobshellref19_IsPath.l0, if_pos (by omega), if_pos (by omega)]
    obtain ⟨r, h⟩ := name_f (rdOf ByteArray.empty l (n : Int)) k (by omega)
    rw [h, Option.bind_some]
    split
    · rw [wrap_succ (by omega)]
      exact ih (n + 1) k (by omega) (by omega) (by omega)
    · exact ⟨_, rfl⟩
theorem IsPath_f (s : ByteArray) (k : Nat) (hk : 500 ≤ k) : ∃ r, jobshellref19_IsPath.f k s = some r ∧ (r = true → s.size ≤ 128) := by
  obtain ⟨k, rfl, hk⟩ := fuel (k := k) (n := 0) (by omega)
  have jt : ∃ r, jobshellref19_IsPath.j0 (k + 1) s true = some r ∧ (r = true → s.size ≤ 128) := by
    rw [jobshellref19_IsPath.j0, if_pos rfl]; exact ⟨_, rfl, fun h => by cases h⟩
  unfold jobshellref19_IsPath.f
  split
  · rename_i h
    rw [toL] at h
    exact ⟨_, rfl, fun _ => by rw [← size_data, h]; decide⟩
  · split
    · exact jt
    · split
      · exact jt
      · rw [if_pos (by omega)]
        rw [jobshellref19_IsPath.j0]
        split
        · exact ⟨_, rfl, fun h => by cases h⟩
        · rw [if_pos (by omega)]
          have hz : (s.extract 1 s.size).size ≤ 127 := by rw [ByteArray.size_extract]; omega
          obtain ⟨r, h, hr⟩ := parts_l0 (s.extract 1 s.size) (by omega) (s.extract 1 s.size).size 0 k 0 [] (by omega) (by omega) (by simp) (by omega) (by omega)
          unfold jobshellref19_parts.f
          rw [show ((0 : Nat) : Int) = 0 from rfl] at h
          rw [h, Option.bind_some]
          obtain ⟨r2, h2⟩ := IsPath_l0 r (by omega) r.length 0 k (by omega) (by omega) (by omega)
          exact ⟨r2, h2, fun _ => by omega⟩
theorem find_l0 (l : List S_File) (s : ByteArray) (hl : l.length ≤ 1000) : ∀ (d n k : Nat), n ≤ l.length → l.length - n = d → d + 1 ≤ k → ∃ r, jobshellref19_find.l0 k l s (n : Int) = some r := by
  intro d
  induction d with
  | zero =>
    intro n k hn hd hk
    obtain ⟨k, rfl, hk⟩ := fuel (k := k) (n := 0) (by omega)
    rw [jobshellref19_find.l0, if_neg (by omega)]
    exact ⟨_, rfl⟩
  | succ d ih =>
    intro n k hn hd hk
    obtain ⟨k, rfl, hk⟩ := fuel (k := k) (n := 0) (by omega)
    rw [jobshellref19_find.l0, if_pos (by omega), if_pos (by omega)]
    split
    · exact ⟨_, rfl⟩
    · rw [wrap_succ (by omega)]
      exact ih (n + 1) k (by omega) (by omega) (by omega)
theorem Above_f (a b : ByteArray) : ∃ r, jobshellref19_Above.f a b = some r := by
  unfold jobshellref19_Above.f
  split
  · exact ⟨_, rfl⟩
  · split
    · rw [if_pos (by omega), if_pos (by omega)]
      split
      · exact ⟨_, rfl⟩
      · exact ⟨_, rfl⟩
    · exact ⟨_, rfl⟩
theorem parent_l0 (l : List S_File) (s : ByteArray) (hl : l.length ≤ 1000) (hs : s.size ≤ 1000) : ∀ (d n k : Nat), n ≤ l.length → l.length - n = d → d + 1002 ≤ k → ∃ r, jobshellref19_parent.l0 k l s (n : Int) = some r := by
  intro d
  induction d with
  | zero =>
    intro n k hn hd hk
    obtain ⟨k, rfl, hk⟩ := fuel (k := k) (n := 1001) (by omega)
    rw [jobshellref19_parent.l0, if_neg (by omega)]
    obtain ⟨r, h⟩ := Parent_f s hs k (by omega)
    rw [h, Option.bind_some]
    unfold jobshellref19_find.f
    obtain ⟨r2, h2⟩ := find_l0 l r hl l.length 0 k (by omega) (by omega) (by omega)
    rw [show ((0 : Nat) : Int) = 0 from rfl] at h2
    rw [h2, Option.bind_some]
    split <;> exact ⟨_, rfl⟩
  | succ d ih =>
    intro n k hn hd hk
    obtain ⟨k, rfl, hk⟩ := fuel (k := k) (n := d + 1002) (by omega)
    rw [jobshellref19_parent.l0, if_pos (by omega), if_pos (by omega)]
    rw [wrap_succ (by omega)]
    have := ih (n + 1) k (by omega) (by omega) (by omega)
    split
    · exact this
    · obtain ⟨r, h⟩ := Above_f (rd_File l (n : Int)).f0 s
      rw [h, Option.bind_some]
      split
      · exact ⟨_, rfl⟩
      · exact this
theorem valid_l0 (l : List S_File) (hl : l.length ≤ 128) : ∀ (d n k : Nat), n ≤ l.length → l.length - n = d → 3 * d + 1500 ≤ k → ∃ r, jobshellref19_Valid.l0 k l (n : Int) = some r := by
  intro d
  induction d with
  | zero =>
    intro n k hn hd hk
    obtain ⟨k, rfl, hk⟩ := fuel (k := k) (n := 1001) (by omega)
    rw [jobshellref19_Valid.l0, if_neg (by omega)]
    exact ⟨_, rfl⟩
  | succ d ih =>
    intro n k hn hd hk
    obtain ⟨k, rfl, hk⟩ := fuel (k := k) (n := 3 * d + 1502) (by omega)
    rw [jobshellref19_Valid.l0, if_pos (by omega), if_pos (by omega)]
    obtain ⟨r, h, hr⟩ := IsPath_f (rd_File l (n : Int)).f0 k (by omega)
    rw [h, Option.bind_some]
    obtain ⟨k, rfl, hk⟩ := fuel (k := k) (n := 0) (by omega)
    obtain ⟨k, rfl, hk⟩ := fuel (k := k) (n := 0) (by omega)
    cases r with
    | false => rw [if_neg (by decide)]; exact ⟨_, rfl⟩
    | true =>
      rw [if_pos rfl]
      have hsz := hr rfl
      have ihn := ih (n + 1) k (by omega) (by omega) (by omega)
      have j3 : ∀ (b : Bool) c f, ∃ r, jobshellref19_Valid.j3 (k + 1) l (n : Int) b (rd_File l (n : Int)).f0 c f = some r := by
        intro b c f
        rw [jobshellref19_Valid.j3]
        split
        · exact ⟨_, rfl⟩
        · rw [wrap_succ (by omega)]
          split
          · rw [if_pos (by omega), if_pos (by omega)]
            have ht : (l.take ((n : Int)).toNat).length ≤ 1000 := by rw [List.length_take]; omega
            obtain ⟨r3, h3⟩ := parent_l0 (l.take ((n : Int)).toNat) (rd_File l (n : Int)).f0 ht (by omega) (l.take ((n : Int)).toNat).length 0 k (by omega) (by omega) (by rw [List.length_take]; omega)
            unfold jobshellref19_parent.f
            rw [show ((0 : Nat) : Int) = 0 from rfl] at h3
            rw [h3, Option.bind_some]
            split
            · exact ihn
            · exact ⟨_, rfl⟩
          · exact ihn
      have j2 : ∀ (b : Bool) c f, ∃ r, jobshellref19_Valid.j2 (k + 2) l (n : Int) b (rd_File l (n : Int)).f0 c f = some r := by
        intro b c f
        rw [jobshellref19_Valid.j2]
        split
        · exact ⟨_, rfl⟩
        · split
          · exact ⟨_, rfl⟩
          · split
            · rw [wrap_id (i := (n : Int) - 1) (by omega) (by omega), if_pos (by omega), if_pos (by omega)]
              exact j3 _ _ _
            · exact j3 _ _ _
      split
      · split
        · split
          · exact j2 _ _ _
          · exact j2 _ _ _
        · exact j2 _ _ _
      · split
        · exact j2 _ _ _
        · exact j2 _ _ _
theorem valid_f (l : List S_File) (k : Nat) (hk : 1900 ≤ k) : ∃ r, jobshellref19_Valid.f k l = some r := by
  obtain ⟨k, rfl, hk⟩ := fuel (k := k) (n := 0) (by omega)
  unfold jobshellref19_Valid.f
  split
  · exact ⟨_, rfl⟩
  · have j0 : ∀ b, ∃ r, jobshellref19_Valid.j0 (k + 1) l b = some r := by
      intro b
      rw [jobshellref19_Valid.j0]
      split
      · exact ⟨_, rfl⟩
      · exact valid_l0 l (by omega) l.length 0 k (by omega) (by omega) (by omega)
    split
    · exact j0 _
    · rw [if_pos (by omega)]; exact j0 _
theorem guard_f (args : List ByteArray) (l : List S_File) (cwd : ByteArray) (k : Nat) (hk : 1900 ≤ k) : ∃ b, jobshelllaw29_small.f k args l cwd = some b ∧
    (b = true → args.length ≤ 12 ∧ (∀ i, i < args.length → (rdOf ByteArray.empty args (i : Nat)).size ≤ 40) ∧ l.length ≤ 40 ∧ jobshellref19_Valid.f k l = some 0 ∧ cwd.size ≤ 200) := by
  unfold jobshelllaw29_small.f
  obtain ⟨b1, h1, hb1⟩ := short_f args k (by omega)
  rw [h1, Option.bind_some]
  cases b1 with
  | false => rw [if_neg (by decide)]; exact ⟨_, rfl, fun h => by cases h⟩
  | true =>
    rw [if_pos rfl]
    by_cases hl : (l.length : Int) ≤ 40
    · rw [if_pos hl]
      unfold jobshellref19_Small.f
      obtain ⟨b2, h2⟩ := small_l0 l (by omega) l.length 0 k 0 (by omega) (by omega) (by omega)
      rw [show ((0 : Nat) : Int) = 0 from rfl] at h2
      rw [h2, Option.bind_some]
      cases b2 with
      | false => rw [if_neg (by decide)]; exact ⟨_, rfl, fun h => by cases h⟩
      | true =>
        rw [if_pos rfl]
        obtain ⟨v, hv⟩ := valid_f l k hk
        rw [hv, Option.bind_some]
        by_cases h0 : v = 0
        · rw [if_pos h0]
          refine ⟨_, rfl, fun h => ⟨(hb1 rfl).1, (hb1 rfl).2, by omega, by rw [h0], ?_⟩⟩
          have := of_decide_eq_true h
          omega
        · rw [if_neg h0]; exact ⟨_, rfl, fun h => by cases h⟩
    · rw [if_neg hl]; exact ⟨_, rfl, fun h => by cases h⟩
end Go.Proofs.YtoeiohfljaboaaaDoor.Pure
set_option linter.unusedVariables false
set_option linter.unusedSimpArgs false
namespace Go.Proofs.YtoeiohfljaboaaaDoor.Pure
open Go.RowKit Go.Proofs.YtoeiohfljaboaaaDoor.F Go.Proofs.YtoeiohfljaboaaaDoorW.PrintWords
theorem split_f (s : ByteArray) (h : s.size ≤ 100000) : strings_Split.f s (⟨#[47]⟩ : ByteArray) = some (splitOf s ⟨#[47]⟩) ∧ (splitOf s ⟨#[47]⟩).length ≤ s.size + 1 := by
  have h1 : 1 ≤ (⟨#[47]⟩ : ByteArray).size := by decide
  have hc := Lib.countB_le (⟨#[47]⟩ : ByteArray) h1 s.size s (Nat.le_refl _)
  have hl : (splitOf s ⟨#[47]⟩).length = Lib.countB s ⟨#[47]⟩ + 1 := Lib.splitB_all _ h1 0 _ s rfl
  refine ⟨?_, by omega⟩
  unfold strings_Split.f
  rw [if_pos ⟨by omega, h1, hl, by omega⟩]
theorem isName_f (s : ByteArray) : ∃ r, files_isName.f s = some r ∧ (r = true → s.size ≤ 32) := by
  unfold files_isName.f
  split
  · exact ⟨_, rfl, fun h => by cases h⟩
  · split
    · unfold strings_ContainsAny.f
      rw [if_pos ⟨rfl, by omega⟩, Option.bind_some]
      split
      · exact ⟨_, rfl, fun h => by cases h⟩
      · split
        · exact ⟨_, rfl, fun h => by cases h⟩
        · exact ⟨_, rfl, fun _ => by omega⟩
    · exact ⟨_, rfl, fun h => by cases h⟩
theorem hasPrefix_f (s p : ByteArray) : ∃ r, strings_HasPrefix.f s p = some r := by
  unfold strings_HasPrefix.f stringslite_HasPrefix.f
  split
  · exact ⟨_, rfl⟩
  · exact ⟨_, rfl⟩
theorem isPath_l0 (l : List ByteArray) (hl : l.length ≤ 1000) : ∀ (d n k : Nat), n ≤ l.length → l.length - n = d → d + 1 ≤ k → ∃ r, files_isPath.l0 k l (l.length : Int) (n : Int) = some r := by
  intro d
  induction d with
  | zero =>
    intro n k hn hd hk
    obtain ⟨k, rfl, hk⟩ := fuel (k := k) (n := 0) (by omega)
    rw [files_isPath.l0, if_neg (by omega)]
    exact ⟨_, rfl⟩
  | succ d ih =>
    intro n k hn hd hk
    obtain ⟨k, rfl, hk⟩ := fuel (k := k) (n := 0) (by omega)
    rw [files_isPath.l0, if_pos (by omega), if_pos (by omega), if_pos (by omega)]
    obtain ⟨r, h, hr⟩ := isName_f (rdOf ByteArray.empty l (n : Int))
    rw [h, Option.bind_some]
    split
    · rw [wrap_succ (by omega)]
      exact ih (n + 1) k (by omega) (by omega) (by omega)
    · exact ⟨_, rfl⟩
theorem isPath_f (s : ByteArray) (k : Nat) (hk : 200 ≤ k) : ∃ r, files_isPath.f k s = some r ∧ (r = true → s.size ≤ 128) := by
  obtain ⟨k, rfl, hk⟩ := fuel (k := k) (n := 199) (by omega)
  unfold files_isPath.f
  split
  · rename_i h
    rw [toL] at h
    exact ⟨_, rfl, fun _ => by rw [← size_data, h]; decide⟩
  · split
    · rw [files_isPath.j0, if_pos rfl]; exact ⟨_, rfl, fun h => by cases h⟩
    · rw [prefix_one, Option.bind_some, files_isPath.j0]
      split
      · exact ⟨_, rfl, fun h => by cases h⟩
      · rename_i hp
        have hp2 : s.data.toList.head? = some 47 := by simpa using hp
        have : s.data.toList ≠ [] := by intro e; rw [e] at hp2; cases hp2
        have hz : s.size ≠ 0 := by intro e; exact this (List.length_eq_zero_iff.1 (by rw [size_data]; exact e))
        rw [if_pos (by omega)]
        have hz2 : (s.extract 1 s.size).size ≤ 127 := by rw [ByteArray.size_extract]; omega
        obtain ⟨h1, h2⟩ := split_f (s.extract 1 s.size) (by omega)
        rw [h1, Option.bind_some]
        obtain ⟨r, hr⟩ := isPath_l0 (splitOf (s.extract 1 s.size) ⟨#[47]⟩) (by omega) _ 0 k (by omega) rfl (by omega)
        rw [show ((0 : Nat) : Int) = 0 from rfl] at hr
        exact ⟨r, hr, fun _ => by omega⟩
theorem parent_f (s : ByteArray) (h : s.size ≤ 1000000) : ∃ r, files_parent.f s = some r ∧ r.size ≤ s.size + 1 := by
  unfold files_parent.f strings_LastIndexByte.f
  rw [if_pos (by omega), Option.bind_some]
  split
  · rename_i hp
    rcases Lib.lastIndexByte_spec s 47 with ⟨e, -⟩ | ⟨i, hi, e, -⟩
    · omega
    · rw [e] at hp ⊢
      rw [if_pos (by omega), if_pos (by omega)]
      refine ⟨_, rfl, ?_⟩
      rw [ByteArray.size_extract]; omega
  · exact ⟨_, rfl, Nat.le_add_left 1 _⟩
theorem trim_f (s : ByteArray) (h : s.size ≤ 1000000) : ∃ r, strings_TrimSuffix.f s (⟨#[47]⟩ : ByteArray) = some r ∧ r.size ≤ s.size := by
  unfold strings_TrimSuffix.f
  rw [if_pos (by omega)]
  refine ⟨_, rfl, ?_⟩
  have := Lib.trimSuffix_le s.data.toList (⟨#[47]⟩ : ByteArray).data.toList
  rw [size_data] at this
  exact this
theorem clean_l0 (l : List ByteArray) (hl : l.length ≤ 1000) : ∀ (d n k : Nat) (at_ : ByteArray), n ≤ l.length → l.length - n = d → 2 * d + 1 ≤ k → at_.size ≤ 1000 + 34 * n → ∃ r, files_Clean.l0 k at_ l (l.length : Int) (n : Int) = some r := by
  intro d
  induction d with
  | zero =>
    intro n k at_ hn hd hk ha
    obtain ⟨k, rfl, hk⟩ := fuel (k := k) (n := 0) (by omega)
    rw [files_Clean.l0, if_neg (by omega)]
    split <;> exact ⟨_, rfl⟩
  | succ d ih =>
    intro n k at_ hn hd hk ha
    obtain ⟨k, rfl, hk⟩ := fuel (k := k) (n := 0) (by omega)
    obtain ⟨k, rfl, hk⟩ := fuel (k := k) (n := 0) (by omega)
    rw [files_Clean.l0, if_pos (by omega), if_pos (by omega), if_pos (by omega)]
    have j2 : ∀ b, ∃ r, files_Clean.j2 (k + 1) at_ (rdOf ByteArray.empty l (n : Int)) l (l.length : Int) (n : Int) b = some r := by
      intro b
      rw [files_Clean.j2, wrap_succ (by omega)]
      split
      · exact ih (n + 1) k at_ (by omega) (by omega) (by omega) (by omega)
      · split
        · obtain ⟨p, hp, hps⟩ := parent_f at_ (by omega)
          rw [hp, Option.bind_some]
          exact ih (n + 1) k p (by omega) (by omega) (by omega) (by omega)
        · obtain ⟨r, h, hr⟩ := isName_f (rdOf ByteArray.empty l (n : Int))
          rw [h, Option.bind_some]
          split
          · rename_i hrt
            have hr2 := hr hrt
            obtain ⟨t, ht, hts⟩ := trim_f at_ (by omega)
            have s1 : (t ++ (⟨#[47]⟩ : ByteArray)).size = t.size + 1 := by rw [ByteArray.size_append]; rfl
            rw [ht, Option.bind_some, if_pos (by omega), if_pos (by omega)]
            exact ih (n + 1) k _ (by omega) (by omega) (by omega) (by rw [ByteArray.size_append]; omega)
          · exact ⟨_, rfl⟩
    split
    · exact j2 _
    · exact j2 _
theorem clean_f (cwd s : ByteArray) (k : Nat) (hk : 1000 ≤ k) (hs : s.size ≤ 400) : ∃ r, files_Clean.f k cwd s = some r := by
  obtain ⟨k, rfl, hk⟩ := fuel (k := k) (n := 999) (by omega)
  unfold files_Clean.f
  obtain ⟨r, h, hr⟩ := isPath_f cwd (k + 1) (by omega)
  rw [h, Option.bind_some]
  have j0 : ∀ at_ : ByteArray, at_.size ≤ 1000 → ∃ r, files_Clean.j0 (k + 1) s at_ = some r := by
    intro at_ ha
    rw [files_Clean.j0]
    obtain ⟨h1, h2⟩ := split_f s (by omega)
    rw [h1, Option.bind_some]
    exact clean_l0 _ (by omega) _ 0 k at_ (by omega) rfl (by omega) (by omega)
  split
  · rename_i hrt
    have hr2 := hr hrt
    split
    · exact ⟨_, rfl⟩
    · rename_i hne
      rw [toL] at hne
      have hz : s.size ≠ 0 := by intro e; exact hne (List.length_eq_zero_iff.1 (by rw [size_data]; exact e))
      rw [if_pos (by omega)]
      split
      · exact j0 _ (by decide)
      · exact j0 _ (by omega)
  · exact ⟨_, rfl⟩
theorem idxF_bound (p : ByteArray) : ∀ (l : List S_File) (i : Int), idxF p l i = -1 ∨ (i ≤ idxF p l i ∧ idxF p l i < i + l.length)
  | [], i => Or.inl rfl
  | v :: r, i => by
    unfold idxF
    split
    · right; simp; omega
    · rcases idxF_bound p r (i + 1) with h | h
      · exact Or.inl h
      · right; simp only [List.length_cons]; omega
theorem find_f (l : List S_File) (p : ByteArray) (hl : l.length ≤ 1000000) : ∃ r, files_Find.f l p = some r := by
  unfold files_Find.f files_index.f
  rw [if_pos (by omega), Option.bind_some]
  have := idxF_bound p l 0
  split
  · rw [if_pos (by omega)]; exact ⟨_, rfl⟩
  · exact ⟨_, rfl⟩
theorem tOne_f (fs : List S_File) (cwd op s : ByteArray) (k : Nat) (hk : 1000 ≤ k) (hs : s.size ≤ 400) (hl : fs.length ≤ 1000000) : ∃ r, tOne k fs cwd op s = some r := by
  unfold tOne
  split
  · exact ⟨_, rfl⟩
  · split
    · exact ⟨_, rfl⟩
    · obtain ⟨p, hp⟩ := clean_f cwd s k hk hs
      rw [hp, Option.bind_some]
      split
      · obtain ⟨q, hq⟩ := find_f fs p.1 hl
        rw [hq, Option.bind_some]
        repeat' split
        all_goals exact ⟨_, rfl⟩
      · exact ⟨_, rfl⟩
theorem tTwo_f (a op b : ByteArray) (bd : Bool) (k : Nat) (hk : 220 ≤ k) (ha : a.size ≤ 100) (hb : b.size ≤ 100) : ∃ r, tTwo k a op b bd = some r := by
  unfold tTwo
  split
  · exact ⟨_, rfl⟩
  · rw [int_eq a ha (k := k) hk, int_eq b hb (k := k) hk, Option.bind_some, Option.bind_some]
    split <;> exact ⟨_, rfl⟩
end Go.Proofs.YtoeiohfljaboaaaDoor.Pure
set_option linter.unusedVariables false
set_option linter.unusedSimpArgs false
namespace Go.Proofs.YtoeiohfljaboaaaDoor.Pure
open Go.RowKit Go.Proofs.YtoeiohfljaboaaaDoor.F Go.Proofs.YtoeiohfljaboaaaDoorW.PrintWords
def sp : List UInt8 → List (List UInt8)
  | [] => [[]]
  | c :: r => if c = 47 then [] :: sp r else match sp r with | h :: t => (c :: h) :: t | [] => [[c]]
theorem sp_ne : ∀ l, sp l ≠ []
  | [] => by simp [sp]
  | c :: r => by
    unfold sp
    split
    · simp
    · split <;> simp
theorem sp_cons (c : UInt8) (r : List UInt8) (h : c ≠ 47) : ∃ a t, sp r = a :: t ∧ sp (c :: r) = (c :: a) :: t := by
  cases e : sp r with
  | nil => exact absurd e (sp_ne r)
  | cons a t => exact ⟨a, t, rfl, by rw [sp, if_neg h, e]⟩
theorem sp_slash (r : List UInt8) : sp (47 :: r) = [] :: sp r := by rw [sp, if_pos rfl]
theorem splitK_sp : ∀ l : List UInt8, Lib.splitK [47] 0 (Lib.count l [47]) l = sp l
  | [] => by rw [Lib.count_miss (by simp [Lib.index])]; rfl
  | c :: r => by
    have ih := splitK_sp r
    by_cases h : c = 47
    · subst h
      rw [Lib.count_cons_eq, Nat.add_comm, Lib.splitK]
      have hix : Lib.index (47 :: r) [47] = 0 := by rw [Lib.index]; simp [List.isPrefixOf]
      rw [hix, if_neg (by decide), sp_slash, ← ih]
      rfl
    · obtain ⟨a, t, e1, e2⟩ := sp_cons c r h
      rw [Lib.count_cons_ne c 47 r h, e2]
      rw [e1] at ih
      have hix : Lib.index (c :: r) [47] = if Lib.index r [47] == -1 then -1 else Lib.index r [47] + 1 := by
        rw [Lib.index]
        have hp : ([47] : List UInt8).isPrefixOf (c :: r) = false := by simp [List.isPrefixOf, Ne.symm h]
        rw [hp]; simp
      cases hn : Lib.count r [47] with
      | zero =>
        rw [hn] at ih
        rw [Lib.splitK] at ih ⊢
        cases ih; rfl
      | succ n =>
        rw [hn] at ih
        have hne : Lib.index r [47] ≠ -1 := fun e => by rw [Lib.count_miss e] at hn; cases hn
        have hge := Lib.index_ge r [47]
        obtain ⟨j, hj⟩ : ∃ j : Nat, Lib.index r [47] = j := ⟨(Lib.index r [47]).toNat, by omega⟩
        rw [Lib.splitK] at ih ⊢
        rw [hj] at ih
        rw [hix, hj]
        have hb : (((j : Nat) : Int) == -1) = false := beq_eq_false_iff_ne.2 (by omega)
        rw [hb] at ih ⊢
        rw [if_neg (by decide)] at ih
        have hb2 : (((j : Nat) : Int) + 1 == -1) = false := beq_eq_false_iff_ne.2 (by omega)
        rw [if_neg (show ¬ false = true by decide), hb2, if_neg (by decide)]
        rw [show ((j : Int)).toNat = j from rfl] at ih
        rw [show ((j : Int) + 1).toNat = j + 1 by omega]
        have e3 := List.cons.inj ih
        rw [← e3.1, ← e3.2]
        simp only [Nat.add_zero, List.take_succ_cons, List.length_cons, List.length_nil]
        rw [show j + 1 + (0 + 1) = (j + (0 + 1)) + 1 by omega, List.drop_succ_cons]
theorem map_ba (L : List ByteArray) (M : List (List UInt8)) (h : L.map (·.data.toList) = M) : L = M.map ba := by
  subst h
  rw [List.map_map]
  conv => lhs; rw [← List.map_id L]
  refine List.map_congr_left fun x _ => ?_
  simp [ba_of]
theorem split_sp (s : ByteArray) (h : s.size ≤ 100000) : strings_Split.f s (⟨#[47]⟩ : ByteArray) = some ((sp s.data.toList).map ba) := by
  rw [(split_f s h).1]
  congr 1
  refine map_ba _ _ ?_
  unfold splitOf
  rw [Lib.splitB_data]
  exact splitK_sp _
def glue (a : List UInt8) : List (List UInt8) → List (List UInt8)
  | h :: t => (a ++ h) :: t
  | [] => [a]
theorem parts_sp (s : ByteArray) (hs : s.size ≤ 1000) : ∀ (d n k m : Nat) (xs : List ByteArray), n ≤ s.size → m ≤ n → xs.length ≤ n → s.size - n = d → d + 1 ≤ k →
    jobshellref19_parts.l0 k s xs (m : Int) (n : Int) = some (xs ++ (glue ((s.data.toList.take n).drop m) (sp (s.data.toList.drop n))).map ba) := by
  intro d
  induction d with
  | zero =>
    intro n k m xs hn hm hx hd hk
    obtain ⟨k, rfl, hk⟩ := fuel (k := k) (n := 0) (by omega)
    rw [jobshellref19_parts.l0, if_neg (by omega), if_pos (by omega), if_pos (by omega), if_pos (by omega)]
    have he : n = s.size := by omega
    subst he
    have hz : s.data.toList.drop s.size = [] := List.drop_eq_nil_of_le (by rw [size_data]; exact Nat.le_refl _)
    rw [hz, extract_ba]
    simp only [sp, glue, List.append_nil]
    rfl
  | succ d ih =>
    intro n k m xs hn hm hx hd hk
    obtain ⟨k, rfl, hk⟩ := fuel (k := k) (n := 0) (by omega)
    rw [jobshellref19_parts.l0, if_pos (by omega), if_pos (by omega)]
    rw [wrap_succ (by omega)]
    obtain ⟨c, hc, hb⟩ := bt_drop s n (by omega)
    have hlen : n < s.data.toList.length := by rw [size_data]; omega
    have hget : s.data.toList[n]'hlen = c := by
      have := List.drop_eq_getElem_cons hlen
      rw [hc] at this
      exact (List.cons.inj this).1.symm
    have htake : s.data.toList.take (n + 1) = s.data.toList.take n ++ [c] := by rw [← List.take_append_getElem hlen, hget]
    have hdrop : ∀ m, m ≤ n → (s.data.toList.take n ++ [c]).drop m = (s.data.toList.take n).drop m ++ [c] := fun m hm => by
      rw [List.drop_append_of_le_length (by rw [List.length_take]; omega)]
    rw [hb, hc]
    by_cases h47 : ((c.toNat : Int)) = 47
    · rw [if_pos h47, if_pos (by omega), if_pos (by omega), if_pos (by omega), if_pos (by omega)]
      have hc47 : c = 47 := (byte_eq c 47 47 rfl).1 h47
      subst hc47
      rw [ih (n + 1) k (n + 1) _ (by omega) (by omega) (by simp; omega) (by omega) (by omega)]
      rw [sp_slash, extract_ba]
      rw [List.drop_eq_nil_of_le (show (s.data.toList.take (n + 1)).length ≤ n + 1 by rw [List.length_take]; omega)]
      have hg : ∀ L, L ≠ [] → glue [] L = L := by intro L hL; cases L with | nil => exact absurd rfl hL | cons a t => rfl
      rw [hg _ (sp_ne _)]
      simp [glue]
    · rw [if_neg h47]
      have hne : c ≠ 47 := fun e => h47 ((byte_eq c 47 47 rfl).2 e)
      rw [ih (n + 1) k m _ (by omega) (by omega) (by omega) (by omega) (by omega)]
      obtain ⟨a, t, e1, e2⟩ := sp_cons c (s.data.toList.drop (n + 1)) hne
      rw [e1, e2, htake, hdrop m hm]
      simp [glue]
theorem parts_f (s : ByteArray) (hs : s.size ≤ 1000) (k : Nat) (hk : 1001 ≤ k) : jobshellref19_parts.f k s = some ((sp s.data.toList).map ba) := by
  unfold jobshellref19_parts.f
  have h := parts_sp s hs s.size 0 k 0 [] (by omega) (by omega) (by simp) (by omega) (by omega)
  rw [show ((0 : Nat) : Int) = 0 from rfl] at h
  rw [h]
  cases e : sp s.data.toList with
  | nil => exact absurd e (sp_ne _)
  | cons a t => simp [e, glue]
def nameP (l : List UInt8) : Bool := decide (1 ≤ l.length ∧ l.length ≤ 32 ∧ l ≠ [46] ∧ l ≠ [46, 46] ∧ 47 ∉ l ∧ 0 ∉ l)
theorem any_two : ∀ l : List UInt8, Lib.containsAny l [47, 0] = decide (47 ∈ l ∨ 0 ∈ l)
  | [] => by decide
  | c :: r => by
    have ih := any_two r
    have hge := Lib.indexAny_ge [47, 0] r
    unfold Lib.containsAny at ih ⊢
    rw [Lib.indexAny]
    by_cases hc : c = 47 ∨ c = 0
    · have : ([47, 0] : List UInt8).contains c = true := by rcases hc with rfl | rfl <;> rfl
      rw [if_pos this, decide_eq_true (by decide), decide_eq_true]
      rcases hc with rfl | rfl <;> simp
    · have : ([47, 0] : List UInt8).contains c = false := by
        simp only [not_or] at hc
        simp [hc.1, hc.2]
      rw [this, if_neg (by decide)]
      simp only [not_or] at hc
      have e : (47 ∈ c :: r ∨ 0 ∈ c :: r) ↔ (47 ∈ r ∨ 0 ∈ r) := by
        simp [Ne.symm hc.1, Ne.symm hc.2]
      rw [decide_eq_decide.2 e, ← ih]
      by_cases hm : Lib.indexAny r [47, 0] = -1
      · rw [if_pos (beq_iff_eq.2 hm), hm]
      · rw [if_neg (fun e => hm (beq_iff_eq.1 e)), decide_eq_decide]
        omega
theorem isName_p (s : ByteArray) : files_isName.f s = some (nameP s.data.toList) := by
  unfold files_isName.f nameP
  rw [toL]
  have hsz := size_data s
  by_cases h0 : s.data.toList = []
  · rw [if_pos h0, h0]; rfl
  · rw [if_neg h0]
    have h1 : 1 ≤ s.data.toList.length := by
      rcases Nat.eq_zero_or_pos s.data.toList.length with h | h
      · exact absurd (List.length_eq_zero_iff.1 h) h0
      · exact h
    by_cases h2 : (s.size : Int) ≤ 32
    · rw [if_pos h2]
      unfold strings_ContainsAny.f
      rw [if_pos ⟨rfl, by omega⟩, Option.bind_some, any_two]
      by_cases h3 : 47 ∈ s.data.toList ∨ 0 ∈ s.data.toList
      · rw [decide_eq_true h3, if_pos rfl, decide_eq_false]
        rintro ⟨-, -, -, -, a, b⟩
        rcases h3 with h | h
        · exact a h
        · exact b h
      · rw [decide_eq_false h3, if_neg (by decide)]
        simp only [not_or] at h3
        by_cases h4 : s.data.toList = [46]
        · rw [if_pos h4, decide_eq_false (fun h => h.2.2.1 h4)]
        · rw [if_neg h4]
          by_cases h5 : s.data.toList = [46, 46]
          · rw [decide_eq_false (fun h => h.2.2.2.1 h5), h5]; rfl
          · rw [decide_eq_true ⟨h1, by omega, h4, h5, h3.1, h3.2⟩]
            simp [bne, h5]
    · rw [if_neg h2, decide_eq_false (fun h => h2 (by omega))]
theorem name_p_l0 (s : ByteArray) (hs : s.size ≤ 1000) : ∀ (d n k : Nat), n ≤ s.size → s.size - n = d → d + 1 ≤ k → jobshellref19_name.l0 k s (n : Int) = some (decide (47 ∉ s.data.toList.drop n ∧ 0 ∉ s.data.toList.drop n)) := by
  intro d
  induction d with
  | zero =>
    intro n k hn hd hk
    obtain ⟨k, rfl, hk⟩ := fuel (k := k) (n := 0) (by omega)
    rw [jobshellref19_name.l0, if_neg (by omega), List.drop_eq_nil_of_le (by rw [size_data]; omega)]
    rfl
  | succ d ih =>
    intro n k hn hd hk
    obtain ⟨k, rfl, hk⟩ := fuel (k := k) (n := 0) (by omega)
    rw [jobshellref19_name.l0, if_pos (by omega), if_pos (by omega)]
    obtain ⟨c, hc, hb⟩ := bt_drop s n (by omega)
    rw [hb, hc]
    by_cases h47 : ((c.toNat : Int)) = 47
    · rw [if_pos h47]
      have hc47 : c = 47 := (byte_eq c 47 47 rfl).1 h47
      subst hc47
      rw [decide_eq_false (by simp)]
    · rw [if_neg h47]
      have hne : c ≠ 47 := fun e => h47 ((byte_eq c 47 47 rfl).2 e)
      by_cases h00 : ((c.toNat : Int)) = 0
      · rw [if_pos h00]
        have hc0 : c = 0 := (byte_eq c 0 0 rfl).1 h00
        subst hc0
        rw [decide_eq_false (by simp)]
      · rw [if_neg h00, wrap_succ (by omega), ih (n + 1) k (by omega) (by omega) (by omega)]
        have hne0 : c ≠ 0 := fun e => h00 ((byte_eq c 0 0 rfl).2 e)
        congr 1
        rw [decide_eq_decide]
        simp [Ne.symm hne, Ne.symm hne0]
theorem name_p (s : ByteArray) (k : Nat) (hk : 40 ≤ k) : jobshellref19_name.f k s = some (nameP s.data.toList) := by
  obtain ⟨k, rfl, hk⟩ := fuel (k := k) (n := 39) (by omega)
  have jt : jobshellref19_name.j0 (k + 1) s true = some false := by rw [jobshellref19_name.j0, if_pos rfl]
  unfold jobshellref19_name.f nameP
  have hsz := size_data s
  rw [toL]
  by_cases h1 : (s.size : Int) < 1
  · rw [if_pos h1, jt, decide_eq_false (fun h => by omega)]
  rw [if_neg h1]
  by_cases h2 : (s.size : Int) > 32
  · rw [if_pos h2, jt, decide_eq_false (fun h => by omega)]
  rw [if_neg h2]
  by_cases h4 : s.data.toList = [46]
  · rw [if_pos h4, jt, decide_eq_false (fun h => h.2.2.1 h4)]
  rw [if_neg h4]
  by_cases h5 : s.data.toList = [46, 46]
  · rw [h5, show (([46, 46] : List UInt8) == [46, 46]) = true from rfl, jt, decide_eq_false (fun h => h.2.2.2.1 rfl)]
  rw [show (s.data.toList == ([46, 46] : List UInt8)) = false from beq_eq_false_iff_ne.2 h5, jobshellref19_name.j0, if_neg (by decide)]
  have h := name_p_l0 s (by omega) s.size 0 k (by omega) (by omega) (by omega)
  rw [show ((0 : Nat) : Int) = 0 from rfl] at h
  rw [h, List.drop_zero]
  congr 1
  rw [decide_eq_decide]
  exact ⟨fun h => ⟨by omega, by omega, h4, h5, h.1, h.2⟩, fun h => h.2.2.2.2⟩
end Go.Proofs.YtoeiohfljaboaaaDoor.Pure
set_option linter.unusedVariables false
set_option linter.unusedSimpArgs false
namespace Go.Proofs.YtoeiohfljaboaaaDoor.Pure
open Go.RowKit Go.Proofs.YtoeiohfljaboaaaDoor.F Go.Proofs.YtoeiohfljaboaaaDoorW.PrintWords
theorem rdT_drop (l : List ByteArray) (k : Nat) (h : k < l.length) : l.drop k = rdOf ByteArray.empty l (k : Int) :: l.drop (k + 1) := by
  rw [List.drop_eq_getElem_cons h]
  congr 1
  unfold rdOf
  simp [List.getD, h]
theorem rdM_drop (M : List (List UInt8)) (k : Nat) (h : k < M.length) : ∃ c, M.drop k = c :: M.drop (k + 1) ∧ rdOf ByteArray.empty (M.map ba) (k : Int) = ba c := by
  refine ⟨M[k], List.drop_eq_getElem_cons h, ?_⟩
  unfold rdOf
  simp [List.getD, h]
def flat (ns : List (List UInt8)) : List UInt8 := ns.flatMap (47 :: ·)
theorem flat_cons (n : List UInt8) (ns : List (List UInt8)) : flat (n :: ns) = 47 :: (n ++ flat ns) := by simp [flat]
theorem flat_append (a b : List (List UInt8)) : flat (a ++ b) = flat a ++ flat b := by simp [flat]
theorem flat_one (n : List UInt8) : flat [n] = 47 :: n := by simp [flat]
theorem sp_flat : ∀ r, flat (sp r) = 47 :: r
  | [] => rfl
  | c :: r => by
    have ih := sp_flat r
    by_cases h : c = 47
    · subst h
      rw [sp_slash, flat_cons, ih]; rfl
    · obtain ⟨a, t, e1, e2⟩ := sp_cons c r h
      rw [e2, flat_cons]
      rw [e1, flat_cons] at ih
      have := (List.cons.inj ih).2
      simp [← this]
def pathOf (ns : List (List UInt8)) : List UInt8 := if ns = [] then [47] else flat ns
def okN (ns : List (List UInt8)) : Prop := ∀ n ∈ ns, n ≠ [] ∧ 47 ∉ n
theorem nameP_ok (c : List UInt8) (h : nameP c = true) : c ≠ [] ∧ 47 ∉ c ∧ c.length ≤ 32 ∧ c ≠ [46] ∧ c ≠ [46, 46] := by
  have := of_decide_eq_true h
  exact ⟨fun e => by rw [e] at this; exact absurd this.1 (by decide), this.2.2.2.2.1, this.2.1, this.2.2.1, this.2.2.2.1⟩
theorem pathOf_split (ns : List (List UInt8)) (h : okN ns) : ∃ F X, pathOf ns = F ++ 47 :: X ∧ 47 ∉ X ∧ (if F = [] then [47] else F) = pathOf ns.dropLast := by
  rcases List.eq_nil_or_concat ns with rfl | ⟨ms, n, rfl⟩
  · exact ⟨[], [], rfl, by simp, rfl⟩
  · refine ⟨flat ms, n, ?_, (h n (by simp)).2, ?_⟩
    · unfold pathOf
      rw [if_neg (by simp), List.concat_eq_append, flat_append, flat_one]
    · rw [List.concat_eq_append, List.dropLast_concat]
      unfold pathOf
      cases ms with
      | nil => rfl
      | cons a t => rw [if_neg (by simp [flat]), if_neg (by simp)]
theorem okN_dropLast (ns : List (List UInt8)) (h : okN ns) : okN ns.dropLast := fun n hn => h n (List.dropLast_subset ns hn)
theorem pathOf_pos (ns : List (List UInt8)) : 1 ≤ (pathOf ns).length := by
  unfold pathOf
  cases ns with
  | nil => decide
  | cons a t => rw [if_neg (by simp), flat_cons]; simp
theorem pathOf_drop (ns : List (List UInt8)) : (pathOf ns.dropLast).length ≤ (pathOf ns).length := by
  rcases List.eq_nil_or_concat ns with rfl | ⟨ms, n, rfl⟩
  · exact Nat.le_refl _
  · rw [List.concat_eq_append, List.dropLast_concat]
    unfold pathOf
    rw [if_neg (show ¬ ms ++ [n] = [] by simp), flat_append, flat_one]
    split
    · simp; omega
    · simp
theorem pathOf_push (ns : List (List UInt8)) (c : List UInt8) : pathOf (ns ++ [c]) = (if ns = [] then [] else pathOf ns) ++ 47 :: c := by
  unfold pathOf
  rw [if_neg (by simp), flat_append, flat_one]
  cases ns with
  | nil => rfl
  | cons a t => rw [if_neg (by simp), if_neg (by simp)]
theorem ba_get (L : List UInt8) (j : Nat) (h : j < L.length) : ((ba L).data[j]!) = L[j] := by simp [ba, h]
theorem last_ba (F X : List UInt8) (hX : 47 ∉ X) : Lib.lastIndexByte (ba (F ++ 47 :: X)) 47 = (F.length : Int) := by
  have hg : ∀ j (h : j < (F ++ 47 :: X).length), (((ba (F ++ 47 :: X)).data[j]!).toNat : Int) = (((F ++ 47 :: X)[j]'h).toNat : Int) := fun j h => by rw [ba_get _ j h]
  have hlen : F.length < (F ++ 47 :: X).length := by simp
  have h0 : (((ba (F ++ 47 :: X)).data[F.length]!).toNat : Int) = 47 := by rw [hg _ hlen]; simp
  have hs : (ba (F ++ 47 :: X)).size = (F ++ 47 :: X).length := rfl
  rcases Lib.lastIndexByte_spec (ba (F ++ 47 :: X)) 47 with ⟨-, e⟩ | ⟨i, hi, e, hc, hn⟩
  · exact absurd h0 (e F.length (by omega))
  · rw [e]
    rcases Nat.lt_trichotomy i F.length with h | h | h
    · exact absurd h0 (hn F.length h (by omega))
    · rw [h]
    · exfalso
      rw [hg i (by omega), List.getElem_append_right (by omega)] at hc
      obtain ⟨d, hd⟩ : ∃ d, i - F.length = d + 1 := ⟨i - F.length - 1, by omega⟩
      have hd2 : d < X.length := by
        have e2 : (F ++ 47 :: X).length = F.length + (X.length + 1) := by simp
        omega
      have hc2 : ((X[d]'hd2).toNat : Int) = 47 := by
        rw [← hc]; congr 2
        simp only [hd, List.getElem_cons_succ]
      have := (byte_eq (X[d]'hd2) 47 47 rfl).1 hc2
      exact hX (this ▸ List.getElem_mem hd2)
theorem parent_p (F X : List UInt8) (hX : 47 ∉ X) (hl : (F ++ 47 :: X).length ≤ 1000) : files_parent.f (ba (F ++ 47 :: X)) = some (ba (if F = [] then [47] else F)) := by
  unfold files_parent.f strings_LastIndexByte.f
  rw [ba_size, if_pos (by omega), Option.bind_some, last_ba F X hX]
  cases F with
  | nil => rfl
  | cons a t =>
    rw [if_pos (by simp <;> omega), if_pos (by omega), if_pos (by simp <;> omega), if_neg (by simp), extract_ba, ba_data]
    rw [show (((a :: t).length : Int)).toNat = (a :: t).length from rfl, List.drop_zero, List.take_left']
    rfl
theorem cut_none (s : ByteArray) (hs : s.size ≤ 1000) : ∀ (d n k : Nat) (m : Int), n ≤ s.size → s.size - n = d → d + 1 ≤ k → 47 ∉ s.data.toList.drop n → jobshellref19_cut.l0 k s m (n : Int) = some m := by
  intro d
  induction d with
  | zero =>
    intro n k m hn hd hk hx
    obtain ⟨k, rfl, hk⟩ := fuel (k := k) (n := 0) (by omega)
    rw [jobshellref19_cut.l0, if_neg (by omega)]
  | succ d ih =>
    intro n k m hn hd hk hx
    obtain ⟨k, rfl, hk⟩ := fuel (k := k) (n := 0) (by omega)
    obtain ⟨c, hc, hb⟩ := bt_drop s n (by omega)
    rw [hc] at hx
    have hne : ¬ ((c.toNat : Int)) = 47 := fun e => hx (by rw [(byte_eq c 47 47 rfl).1 e]; simp)
    rw [jobshellref19_cut.l0, if_pos (by omega), if_pos (by omega), hb, if_neg hne, wrap_succ (by omega)]
    exact ih (n + 1) k m (by omega) (by omega) (by omega) (fun e => hx (by simp [e]))
theorem cut_hit (s : ByteArray) (hs : s.size ≤ 1000) (X : List UInt8) (hX : 47 ∉ X) : ∀ (A : List UInt8) (n k : Nat) (m : Int), n ≤ s.size → s.size - n + 1 ≤ k → s.data.toList.drop n = A ++ 47 :: X → jobshellref19_cut.l0 k s m (n : Int) = some ((n + A.length : Nat) : Int) := by
  intro A
  induction A with
  | nil =>
    intro n k m hn hk hx
    have hlt : n < s.size := by
      rcases Nat.lt_or_ge n s.size with h | h
      · exact h
      · rw [List.drop_eq_nil_of_le (by rw [size_data]; exact h)] at hx; cases hx
    obtain ⟨k, rfl, hk⟩ := fuel (k := k) (n := 0) (by omega)
    obtain ⟨c, hc, hb⟩ := bt_drop s n hlt
    rw [hc] at hx
    have e := List.cons.inj hx
    have h47 : ((c.toNat : Int)) = 47 := by rw [e.1]; rfl
    rw [jobshellref19_cut.l0, if_pos (by omega), if_pos (by omega), hb, if_pos h47, wrap_succ (by omega)]
    rw [cut_none s hs (s.size - (n + 1)) (n + 1) k _ (by omega) rfl (by omega) (by rw [e.2]; exact hX)]
    rfl
  | cons a t ih =>
    intro n k m hn hk hx
    have hlt : n < s.size := by
      rcases Nat.lt_or_ge n s.size with h | h
      · exact h
      · rw [List.drop_eq_nil_of_le (by rw [size_data]; exact h)] at hx; cases hx
    obtain ⟨k, rfl, hk⟩ := fuel (k := k) (n := 0) (by omega)
    obtain ⟨c, hc, hb⟩ := bt_drop s n hlt
    rw [hc] at hx
    have e := List.cons.inj hx
    have := fun m => ih (n + 1) k m (by omega) (by omega) e.2
    rw [jobshellref19_cut.l0, if_pos (by omega), if_pos (by omega), wrap_succ (by omega), this, this]
    rw [show n + 1 + t.length = n + (a :: t).length by simp; omega]
    split <;> rfl
theorem Parent_p (F X : List UInt8) (hX : 47 ∉ X) (hl : (F ++ 47 :: X).length ≤ 1000) (k : Nat) (hk : 1001 ≤ k) : jobshellref19_Parent.f k (ba (F ++ 47 :: X)) = some (ba (if F = [] then [47] else F)) := by
  unfold jobshellref19_Parent.f jobshellref19_cut.f
  have h := cut_hit (ba (F ++ 47 :: X)) (by rw [ba_size]; exact hl) X hX F 0 k 0 (by omega) (by rw [ba_size]; omega) (by rw [ba_data]; rfl)
  rw [show ((0 : Nat) : Int) = 0 from rfl] at h
  rw [h, Option.bind_some, Nat.zero_add]
  cases F with
  | nil => rfl
  | cons a t =>
    rw [if_neg (by simp <;> omega), if_pos (by omega), if_pos (by rw [ba_size]; simp; omega), if_neg (by simp), extract_ba, ba_data]
    rw [show (((a :: t).length : Int)).toNat = (a :: t).length from rfl, List.drop_zero, List.take_left']
    rfl
theorem trim_p (ns : List (List UInt8)) (h : okN ns) (hl : (pathOf ns).length ≤ 1000) : strings_TrimSuffix.f (ba (pathOf ns)) (⟨#[47]⟩ : ByteArray) = some (ba (if ns = [] then [] else pathOf ns)) := by
  unfold strings_TrimSuffix.f
  rw [ba_size, if_pos (by omega), ba_data]
  congr 1
  show ba (Lib.trimSuffix (pathOf ns) [47]) = _
  congr 1
  rcases List.eq_nil_or_concat ns with rfl | ⟨ms, n, rfl⟩
  · decide
  · rw [List.concat_eq_append] at h ⊢
    rw [if_neg (by simp)]
    obtain ⟨h1, h2⟩ := h n (by simp)
    rcases List.eq_nil_or_concat n with rfl | ⟨b, c, rfl⟩
    · exact absurd rfl h1
    · have e : pathOf (ms ++ [b.concat c]) = (flat ms ++ 47 :: b) ++ [c] := by
        unfold pathOf
        rw [if_neg (by simp), flat_append, flat_one, List.concat_eq_append]; simp
      rw [e]
      have hc : c ≠ 47 := fun e => h2 (by rw [e]; simp)
      unfold Lib.trimSuffix
      rw [if_neg]
      intro hh
      have : ([47] : List UInt8) <:+ ((flat ms ++ 47 :: b) ++ [c]) := by simpa [Lib.hasSuffix] using hh
      have hx := List.suffix_iff_eq_drop.1 this
      simp at hx
      exact hc hx.symm
end Go.Proofs.YtoeiohfljaboaaaDoor.Pure
set_option linter.unusedVariables false
set_option linter.unusedSimpArgs false
namespace Go.Proofs.YtoeiohfljaboaaaDoor.Pure
open Go.RowKit Go.Proofs.YtoeiohfljaboaaaDoor.F Go.Proofs.YtoeiohfljaboaaaDoorW.PrintWords
def pathP (l : List UInt8) : Bool := decide (l = [47]) || (decide (l.length ≤ 128) && decide (l.head? = some 47) && (sp (l.drop 1)).all nameP)
theorem isPath_loop (M : List (List UInt8)) (hl : M.length ≤ 1000) : ∀ (d n k : Nat), n ≤ M.length → M.length - n = d → d + 1 ≤ k → files_isPath.l0 k (M.map ba) ((M.map ba).length : Int) (n : Int) = some ((M.drop n).all nameP) := by
  intro d
  induction d with
  | zero =>
    intro n k hn hd hk
    obtain ⟨k, rfl, hk⟩ := fuel (k := k) (n := 0) (by omega)
    rw [files_isPath.l0, if_neg (by rw [List.length_map]; omega), List.drop_eq_nil_of_le (by omega)]
    rfl
  | succ d ih =>
    intro n k hn hd hk
    obtain ⟨k, rfl, hk⟩ := fuel (k := k) (n := 0) (by omega)
    obtain ⟨c, hc, hb⟩ := rdM_drop M n (by omega)
    rw [files_isPath.l0, if_pos (by rw [List.length_map]; omega), if_pos (by omega), if_pos (by rw [List.length_map]; omega), hb, isName_p, ba_data, Option.bind_some, hc, List.all_cons]
    cases nameP c with
    | true => rw [if_pos rfl, wrap_succ (by omega), ih (n + 1) k (by omega) (by omega) (by omega)]; rfl
    | false => rw [if_neg (by decide)]; rfl
theorem sp_length : ∀ l : List UInt8, (sp l).length ≤ l.length + 1
  | [] => by simp [sp]
  | c :: r => by
    have ih := sp_length r
    by_cases h : c = 47
    · subst h; rw [sp_slash]; simp; omega
    · obtain ⟨a, t, e1, e2⟩ := sp_cons c r h
      rw [e1] at ih; rw [e2]; simp at ih ⊢; omega
theorem extract_one (s : ByteArray) : (s.extract 1 s.size).data.toList = s.data.toList.drop 1 := by
  rw [extract_data, List.take_of_length_le (by rw [size_data]; exact Nat.le_refl _)]
theorem isPath_p (s : ByteArray) (k : Nat) (hk : 200 ≤ k) : files_isPath.f k s = some (pathP s.data.toList) := by
  obtain ⟨k, rfl, hk⟩ := fuel (k := k) (n := 199) (by omega)
  unfold files_isPath.f pathP
  have hsz := size_data s
  rw [toL]
  by_cases h1 : s.data.toList = [47]
  · rw [if_pos h1, decide_eq_true h1]; rfl
  rw [if_neg h1, decide_eq_false h1, Bool.false_or]
  by_cases h2 : (s.size : Int) > 128
  · rw [if_pos h2, files_isPath.j0, if_pos rfl, decide_eq_false (show ¬ s.data.toList.length ≤ 128 by omega)]; rfl
  rw [if_neg h2, prefix_one, Option.bind_some, files_isPath.j0, decide_eq_true (show s.data.toList.length ≤ 128 by omega), Bool.true_and]
  by_cases h3 : s.data.toList.head? = some 47
  · have hz : s.size ≠ 0 := by intro e; rw [List.length_eq_zero_iff.1 (show s.data.toList.length = 0 by omega)] at h3; cases h3
    rw [decide_eq_true h3, if_neg (by decide), if_pos (by omega), split_sp _ (by rw [ByteArray.size_extract]; omega), Option.bind_some, Bool.true_and, extract_one]
    have hlen := sp_length (s.data.toList.drop 1)
    rw [List.length_drop] at hlen
    have h := isPath_loop (sp (s.data.toList.drop 1)) (by omega) _ 0 k (by omega) rfl (by omega)
    rw [show ((0 : Nat) : Int) = 0 from rfl] at h
    rw [h, List.drop_zero]
  · rw [decide_eq_false h3, if_pos (by decide)]; rfl
theorem IsPath_loop (M : List (List UInt8)) (hl : M.length ≤ 1000) : ∀ (d n k : Nat), n ≤ M.length → M.length - n = d → d + 41 ≤ k → jobshellref19_IsPath.l0 k (M.map ba) (n : Int) = some ((M.drop n).all nameP) := by
  intro d
  induction d with
  | zero =>
    intro n k hn hd hk
    obtain ⟨k, rfl, hk⟩ := fuel (k := k) (n := 0) (by omega)
    rw [jobshellref19_IsPath.l0, if_neg (by rw [List.length_map]; omega), List.drop_eq_nil_of_le (by omega)]
    rfl
  | succ d ih =>
    intro n k hn hd hk
    obtain ⟨k, rfl, hk⟩ := fuel (k := k) (n := d + 41) (by omega)
    obtain ⟨c, hc, hb⟩ := rdM_drop M n (by omega)
    rw [jobshellref19_IsPath.l0, if_pos (by rw [List.length_map]; omega), if_pos (by omega), hb, name_p _ k (by omega), ba_data, Option.bind_some, hc, List.all_cons]
    cases nameP c with
    | true => rw [if_pos rfl, wrap_succ (by omega), ih (n + 1) k (by omega) (by omega) (by omega)]; rfl
    | false => rw [if_neg (by decide)]; rfl
theorem IsPath_p (s : ByteArray) (k : Nat) (hk : 1100 ≤ k) : jobshellref19_IsPath.f k s = some (pathP s.data.toList) := by
  obtain ⟨k, rfl, hk⟩ := fuel (k := k) (n := 1099) (by omega)
  unfold jobshellref19_IsPath.f pathP
  have hsz := size_data s
  have jt : jobshellref19_IsPath.j0 (k + 1) s true = some false := by rw [jobshellref19_IsPath.j0, if_pos rfl]
  rw [toL]
  by_cases h1 : s.data.toList = [47]
  · rw [if_pos h1, decide_eq_true h1]; rfl
  rw [if_neg h1, decide_eq_false h1, Bool.false_or]
  by_cases h0 : (s.size : Int) < 2
  · rw [if_pos h0, jt]
    by_cases h3 : s.data.toList.head? = some 47
    · exfalso
      cases e : s.data.toList with
      | nil => rw [e] at h3; cases h3
      | cons a t =>
        rw [e] at h3 hsz h1
        have ht : t = [] := List.length_eq_zero_iff.1 (by simp at hsz; omega)
        subst ht
        simp at h3 h1
        exact h1 h3
    · rw [decide_eq_false h3]; simp
  rw [if_neg h0]
  by_cases h2 : (s.size : Int) > 128
  · rw [if_pos h2, jt, decide_eq_false (show ¬ s.data.toList.length ≤ 128 by omega)]; rfl
  rw [if_neg h2, if_pos (by omega), decide_eq_true (show s.data.toList.length ≤ 128 by omega), Bool.true_and]
  obtain ⟨c, hc, hb⟩ := bt_drop s 0 (by omega)
  rw [List.drop_zero] at hc
  rw [show ((0 : Nat) : Int) = 0 from rfl] at hb
  rw [hb]
  by_cases h3 : s.data.toList.head? = some 47
  · have hc47 : c = 47 := by rw [hc] at h3; simpa using h3
    rw [decide_eq_true h3, hc47, show (((47 : UInt8).toNat : Int) != 47) = false from rfl, jobshellref19_IsPath.j0, if_neg (by decide), if_pos (by omega), parts_f _ (by rw [ByteArray.size_extract]; omega) k (by omega), Option.bind_some, Bool.true_and, extract_one]
    have hlen := sp_length (s.data.toList.drop 1)
    rw [List.length_drop] at hlen
    have h := IsPath_loop (sp (s.data.toList.drop 1)) (by omega) _ 0 k (by omega) rfl (by omega)
    rw [show ((0 : Nat) : Int) = 0 from rfl] at h
    rw [h, List.drop_zero]
  · have hne : ¬ ((c.toNat : Int)) = 47 := fun e => h3 (by rw [hc, (byte_eq c 47 47 rfl).1 e]; rfl)
    rw [decide_eq_false h3, show ((c.toNat : Int) != 47) = true from bne_iff_ne.2 hne, jt]; rfl
def namesOf (l : List UInt8) : List (List UInt8) := if l = [47] then [] else sp (l.drop 1)
theorem names_path (l : List UInt8) (h : pathP l = true) : pathOf (namesOf l) = l ∧ (namesOf l).all nameP = true ∧ l.length ≤ 128 := by
  unfold pathP at h
  unfold namesOf
  by_cases h1 : l = [47]
  · subst h1; exact ⟨rfl, rfl, by decide⟩
  · rw [if_neg h1]
    rw [decide_eq_false h1, Bool.false_or, Bool.and_eq_true, Bool.and_eq_true] at h
    obtain ⟨⟨h2, h3⟩, h4⟩ := h
    have h2 := of_decide_eq_true h2
    have h3 := of_decide_eq_true h3
    refine ⟨?_, h4, h2⟩
    unfold pathOf
    rw [if_neg (sp_ne _), sp_flat]
    cases l with
    | nil => cases h3
    | cons a t =>
      simp at h3
      rw [h3]; rfl
theorem all_okN (ns : List (List UInt8)) (h : ns.all nameP = true) : okN ns := fun n hn => by
  have := nameP_ok n (List.all_eq_true.1 h n hn)
  exact ⟨this.1, this.2.1⟩
def cleanN : List (List UInt8) → List (List UInt8) → List UInt8 × Int
  | [], ns => if (pathOf ns).length > 128 then ([], 3) else (pathOf ns, 0)
  | c :: r, ns => if c = [] ∨ c = [46] then cleanN r ns else if c = [46, 46] then cleanN r ns.dropLast else if nameP c = true then cleanN r (ns ++ [c]) else ([], 10)
def toBA (x : List UInt8 × Int) : ByteArray × Int := (ba x.1, x.2)
theorem flat_drop (M : List (List UInt8)) (n : Nat) (c : List UInt8) (h : M.drop n = c :: M.drop (n + 1)) : (flat (M.drop n)).length = c.length + 1 + (flat (M.drop (n + 1))).length := by
  rw [h, flat_cons]; simp; omega
theorem push_len (ns : List (List UInt8)) (c : List UInt8) : (pathOf (ns ++ [c])).length ≤ (pathOf ns).length + c.length + 1 := by
  rw [pathOf_push]
  split <;> simp <;> omega
theorem cat3 (a c : List UInt8) : (ba a ++ (⟨#[47]⟩ : ByteArray)) ++ ba c = ba (a ++ 47 :: c) := by
  show (ba a ++ ba [47]) ++ ba c = _
  unfold ba
  ext1
  simp
theorem clean_loop (M : List (List UInt8)) (hl : M.length ≤ 500) : ∀ (d n k : Nat) (ns : List (List UInt8)), n ≤ M.length → M.length - n = d → 2 * d + 1 ≤ k → okN ns → (pathOf ns).length + (flat (M.drop n)).length ≤ 900 →
    files_Clean.l0 k (ba (pathOf ns)) (M.map ba) ((M.map ba).length : Int) (n : Int) = some (toBA (cleanN (M.drop n) ns)) := by
  intro d
  induction d with
  | zero =>
    intro n k ns hn hd hk ho hz
    obtain ⟨k, rfl, hk⟩ := fuel (k := k) (n := 0) (by omega)
    rw [files_Clean.l0, if_neg (by rw [List.length_map]; omega), List.drop_eq_nil_of_le (by omega), ba_size, cleanN]
    by_cases h : (pathOf ns).length > 128
    · rw [if_pos (by omega), if_pos h]; rfl
    · rw [if_neg (by omega), if_neg h]; rfl
  | succ d ih =>
    intro n k ns hn hd hk ho hz
    obtain ⟨k, rfl, hk⟩ := fuel (k := k) (n := 0) (by omega)
    obtain ⟨k, rfl, hk⟩ := fuel (k := k) (n := 0) (by omega)
    obtain ⟨c, hc, hb⟩ := rdM_drop M n (by omega)
    have hfd := flat_drop M n c hc
    rw [files_Clean.l0, if_pos (by rw [List.length_map]; omega), if_pos (by omega), if_pos (by rw [List.length_map]; omega), hb, toL, ba_data, hc, cleanN]
    have skip : files_Clean.j2 (k + 1) (ba (pathOf ns)) (ba c) (M.map ba) ((M.map ba).length : Int) (n : Int) true = some (toBA (cleanN (M.drop (n + 1)) ns)) := by
      rw [files_Clean.j2, if_pos rfl, wrap_succ (by omega)]
      exact ih (n + 1) k ns (by omega) (by omega) (by omega) ho (by omega)
    by_cases h0 : c = []
    · rw [if_pos h0, if_pos (Or.inl h0)]; exact skip
    rw [if_neg h0]
    by_cases h1 : c = [46]
    · rw [show (c == ([46] : List UInt8)) = true from beq_iff_eq.2 h1, if_pos (Or.inr h1)]; exact skip
    rw [show (c == ([46] : List UInt8)) = false from beq_eq_false_iff_ne.2 h1, if_neg (by simp [h0, h1]), files_Clean.j2, if_neg (by decide), toL, ba_data, wrap_succ (by omega)]
    by_cases h2 : c = [46, 46]
    · rw [if_pos h2, if_pos h2]
      obtain ⟨F, X, e, hX, hp⟩ := pathOf_split ns ho
      rw [e, parent_p F X hX (by rw [← e]; omega), Option.bind_some, hp]
      have := pathOf_drop ns
      exact ih (n + 1) k ns.dropLast (by omega) (by omega) (by omega) (okN_dropLast ns ho) (by omega)
    · rw [if_neg h2, if_neg h2, isName_p, ba_data, Option.bind_some]
      by_cases h3 : nameP c = true
      · have hcok := nameP_ok c h3
        have hpl := push_len ns c
        have hpe := pathOf_push ns c
        have hpel : (pathOf (ns ++ [c])).length = (if ns = [] then [] else pathOf ns).length + (c.length + 1) := by rw [hpe]; simp
        rw [if_pos h3, if_pos h3, trim_p ns ho (by omega), Option.bind_some]
        generalize (if ns = [] then [] else pathOf ns) = Q at *
        have hq1 : (ba Q).size = Q.length := rfl
        have hq2 : (ba Q ++ (⟨#[47]⟩ : ByteArray)).size = Q.length + 1 := by rw [ByteArray.size_append]; rfl
        have hq3 : (ba c).size = c.length := rfl
        rw [if_pos (by omega), if_pos (by omega), cat3, ← hpe]
        refine ih (n + 1) k (ns ++ [c]) (by omega) (by omega) (by omega) ?_ (by omega)
        intro x hx
        rcases List.mem_append.1 hx with h | h
        · exact ho x h
        · rw [List.mem_singleton.1 h]; exact ⟨hcok.1, hcok.2.1⟩
      · rw [if_neg h3, if_neg h3]; rfl
theorem Clean_loop (M : List (List UInt8)) (hl : M.length ≤ 500) : ∀ (d n k : Nat) (ns : List (List UInt8)), n ≤ M.length → M.length - n = d → 2 * d + 1003 ≤ k → okN ns → (pathOf ns).length + (flat (M.drop n)).length ≤ 900 →
    jobshellref19_Clean.l0 k (ba (pathOf ns)) (M.map ba) (n : Int) = some (toBA (cleanN (M.drop n) ns)) := by
  intro d
  induction d with
  | zero =>
    intro n k ns hn hd hk ho hz
    obtain ⟨k, rfl, hk⟩ := fuel (k := k) (n := 0) (by omega)
    rw [jobshellref19_Clean.l0, if_neg (by rw [List.length_map]; omega), List.drop_eq_nil_of_le (by omega), ba_size, cleanN]
    by_cases h : (pathOf ns).length > 128
    · rw [if_pos (by omega), if_pos h]; rfl
    · rw [if_neg (by omega), if_neg h]; rfl
  | succ d ih =>
    intro n k ns hn hd hk ho hz
    obtain ⟨k, rfl, hk⟩ := fuel (k := k) (n := 2 * d + 1004) (by omega)
    obtain ⟨k, rfl, hk⟩ := fuel (k := k) (n := 2 * d + 1003) (by omega)
    obtain ⟨c, hc, hb⟩ := rdM_drop M n (by omega)
    have hfd := flat_drop M n c hc
    rw [jobshellref19_Clean.l0, if_pos (by rw [List.length_map]; omega), if_pos (by omega), hb, toL, ba_data, hc, cleanN]
    have skip : jobshellref19_Clean.j2 (k + 1) (ba (pathOf ns)) (M.map ba) (n : Int) (ba c) true = some (toBA (cleanN (M.drop (n + 1)) ns)) := by
      rw [jobshellref19_Clean.j2, if_pos rfl, wrap_succ (by omega)]
      exact ih (n + 1) k ns (by omega) (by omega) (by omega) ho (by omega)
    by_cases h0 : c = []
    · rw [if_pos h0, if_pos (Or.inl h0)]; exact skip
    rw [if_neg h0]
    by_cases h1 : c = [46]
    · rw [show (c == ([46] : List UInt8)) = true from beq_iff_eq.2 h1, if_pos (Or.inr h1)]; exact skip
    rw [show (c == ([46] : List UInt8)) = false from beq_eq_false_iff_ne.2 h1, if_neg (by simp [h0, h1]), jobshellref19_Clean.j2, if_neg (by decide), toL, ba_data, wrap_succ (by omega)]
    by_cases h2 : c = [46, 46]
    · rw [if_pos h2, if_pos h2]
      obtain ⟨F, X, e, hX, hp⟩ := pathOf_split ns ho
      rw [e, Parent_p F X hX (by rw [← e]; omega) k (by omega), Option.bind_some, hp]
      have := pathOf_drop ns
      exact ih (n + 1) k ns.dropLast (by omega) (by omega) (by omega) (okN_dropLast ns ho) (by omega)
    · rw [if_neg h2, if_neg h2, name_p _ k (by omega), ba_data, Option.bind_some]
      by_cases h3 : nameP c = true
      · have hcok := nameP_ok c h3
        have hpl := push_len ns c
        have hpe := pathOf_push ns c
        have hq3 : (ba c).size = c.length := rfl
        have hnext := ih (n + 1) k (ns ++ [c]) (by omega) (by omega) (by omega) (by
          intro x hx
          rcases List.mem_append.1 hx with h | h
          · exact ho x h
          · rw [List.mem_singleton.1 h]; exact ⟨hcok.1, hcok.2.1⟩) (by omega)
        rw [if_pos h3, if_pos h3, toL, ba_data]
        have hroot : pathOf ns = [47] ↔ ns = [] := by
          constructor
          · intro e
            cases ns with
            | nil => rfl
            | cons a t =>
              exfalso
              unfold pathOf at e
              rw [if_neg (by simp), flat_cons] at e
              have := (List.cons.inj e).2
              exact (ho a (by simp)).1 (List.append_eq_nil_iff.1 this).1
          · intro e; rw [e]; rfl
        by_cases hr : ns = []
        · subst hr
          rw [if_pos (show pathOf [] = [47] from rfl), if_pos (by decide), if_pos (by omega)]
          rw [show (⟨#[]⟩ : ByteArray) = ba [] from rfl, cat3]
          rw [hpe, if_pos rfl] at hnext
          exact hnext
        · rw [if_neg (fun e => hr (hroot.1 e))]
          have hq2 : (ba (pathOf ns) ++ (⟨#[47]⟩ : ByteArray)).size = (pathOf ns).length + 1 := by rw [ByteArray.size_append]; rfl
          have hq1 : (ba (pathOf ns)).size = (pathOf ns).length := rfl
          rw [if_pos (by omega), if_pos (by omega), cat3]
          rw [hpe, if_neg hr] at hnext
          exact hnext
      · rw [if_neg h3, if_neg h3]; rfl
def cleanF (cwd s : List UInt8) : List UInt8 × Int :=
  if pathP cwd = true then (if s = [] then ([], 8) else if s.head? = some 47 then cleanN (sp s) [] else cleanN (sp s) (namesOf cwd)) else ([], 10)
theorem flat_sp_len (l : List UInt8) : (flat (sp l)).length = l.length + 1 := by rw [sp_flat]; rfl
theorem bt_head (s : ByteArray) (h : s.data.toList ≠ []) : bt s 0 = 47 ↔ s.data.toList.head? = some 47 := by
  have hz : s.size ≠ 0 := by intro e; exact h (List.length_eq_zero_iff.1 (by rw [size_data]; exact e))
  obtain ⟨c, hc, hb⟩ := bt_drop s 0 (by omega)
  rw [List.drop_zero] at hc
  rw [show ((0 : Nat) : Int) = 0 from rfl] at hb
  rw [hb, hc]
  constructor
  · intro e; rw [(byte_eq c 47 47 rfl).1 e]; rfl
  · intro e; simp at e; rw [e]; rfl
theorem clean_p (cwd s : ByteArray) (k : Nat) (hk : 1000 ≤ k) (hs : s.size ≤ 200) : files_Clean.f k cwd s = some (toBA (cleanF cwd.data.toList s.data.toList)) := by
  obtain ⟨k, rfl, hk⟩ := fuel (k := k) (n := 999) (by omega)
  unfold files_Clean.f cleanF
  rw [isPath_p cwd _ (by omega), Option.bind_some]
  by_cases h : pathP cwd.data.toList = true
  · rw [if_pos h, if_pos h, toL]
    obtain ⟨n1, n2, n3⟩ := names_path _ h
    by_cases h0 : s.data.toList = []
    · rw [if_pos h0, if_pos h0]; rfl
    · have hz : s.size ≠ 0 := by intro e; exact h0 (List.length_eq_zero_iff.1 (by rw [size_data]; exact e))
      have hsz := size_data s
      have hl := sp_length s.data.toList
      have hfl := flat_sp_len s.data.toList
      rw [if_neg h0, if_neg h0, if_pos (by omega)]
      have go : ∀ ns, okN ns → (pathOf ns).length ≤ 128 → files_Clean.j0 (k + 1) s (ba (pathOf ns)) = some (toBA (cleanN (sp s.data.toList) ns)) := by
        intro ns ho hp
        rw [files_Clean.j0, split_sp s (by omega), Option.bind_some]
        have := clean_loop (sp s.data.toList) (by omega) _ 0 k ns (by omega) rfl (by omega) ho (by rw [List.drop_zero]; omega)
        exact this
      by_cases hb : s.data.toList.head? = some 47
      · rw [if_pos ((bt_head s h0).2 hb), if_pos hb]
        exact go [] (fun _ h => by cases h) (by decide)
      · rw [if_neg (fun e => hb ((bt_head s h0).1 e)), if_neg hb]
        have := go (namesOf cwd.data.toList) (all_okN _ n2) (by rw [n1]; exact n3)
        rw [n1, ba_of] at this
        exact this
  · rw [if_neg h, if_neg h]; rfl
theorem Clean_p (cwd s : ByteArray) (k : Nat) (hk : 1900 ≤ k) (hs : s.size ≤ 200) : jobshellref19_Clean.f k cwd s = some (toBA (cleanF cwd.data.toList s.data.toList)) := by
  obtain ⟨k, rfl, hk⟩ := fuel (k := k) (n := 1899) (by omega)
  unfold jobshellref19_Clean.f cleanF
  rw [IsPath_p cwd _ (by omega), Option.bind_some]
  by_cases h : pathP cwd.data.toList = true
  · rw [if_pos h, if_pos h, toL]
    obtain ⟨n1, n2, n3⟩ := names_path _ h
    by_cases h0 : s.data.toList = []
    · rw [if_pos h0, if_pos h0]; rfl
    · have hz : s.size ≠ 0 := by intro e; exact h0 (List.length_eq_zero_iff.1 (by rw [size_data]; exact e))
      have hsz := size_data s
      have hl := sp_length s.data.toList
      have hfl := flat_sp_len s.data.toList
      rw [if_neg h0, if_neg h0, if_pos (by omega)]
      have go : ∀ ns, okN ns → (pathOf ns).length ≤ 128 → jobshellref19_Clean.j0 (k + 1) s (ba (pathOf ns)) = some (toBA (cleanN (sp s.data.toList) ns)) := by
        intro ns ho hp
        rw [jobshellref19_Clean.j0, parts_f s (by omega) k (by omega), Option.bind_some]
        have := Clean_loop (sp s.data.toList) (by omega) _ 0 k ns (by omega) rfl (by omega) ho (by rw [List.drop_zero]; omega)
        exact this
      by_cases hb : s.data.toList.head? = some 47
      · rw [if_pos ((bt_head s h0).2 hb), if_pos hb]
        exact go [] (fun _ h => by cases h) (by decide)
      · rw [if_neg (fun e => hb ((bt_head s h0).1 e)), if_neg hb]
        have := go (namesOf cwd.data.toList) (all_okN _ n2) (by rw [n1]; exact n3)
        rw [n1, ba_of] at this
        exact this
  · rw [if_neg h, if_neg h]; rfl
end Go.Proofs.YtoeiohfljaboaaaDoor.Pure
set_option linter.unusedVariables false
set_option linter.unusedSimpArgs false
namespace Go.Proofs.YtoeiohfljaboaaaDoor.Pure
open Go.RowKit Go.Proofs.YtoeiohfljaboaaaDoor.F Go.Proofs.YtoeiohfljaboaaaDoorW.PrintWords
theorem bl_trans : ∀ x y z : List UInt8, Op.bytesLess x y = true → Op.bytesLess y z = true → Op.bytesLess x z = true
  | [], [], _, h, _ => by simp [Op.bytesLess] at h
  | [], _ :: _, [], _, h => by simp [Op.bytesLess] at h
  | [], _ :: _, _ :: _, _, _ => by simp [Op.bytesLess]
  | _ :: _, [], _, h, _ => by simp [Op.bytesLess] at h
  | _ :: _, _ :: _, [], _, h => by simp [Op.bytesLess] at h
  | a :: x, b :: y, c :: z, h1, h2 => by
    simp only [Op.bytesLess, Bool.or_eq_true, Bool.and_eq_true, decide_eq_true_eq, beq_iff_eq] at h1 h2 ⊢
    rcases h1 with h1 | ⟨rfl, h1⟩
    · rcases h2 with h2 | ⟨rfl, h2⟩
      · left; rw [UInt8.lt_iff_toNat_lt] at *; omega
      · left; exact h1
    · rcases h2 with h2 | ⟨rfl, h2⟩
      · left; exact h2
      · right; exact ⟨rfl, bl_trans x y z h1 h2⟩
theorem bl_irr (x : List UInt8) : Op.bytesLess x x = false := by
  cases h : Op.bytesLess x x with
  | false => rfl
  | true => exact absurd (bl_asymm x x h) (by rw [h]; decide)
def fileP (l : List S_File) (i : Nat) : Prop := pathP (rd_File l (i : Nat)).f0.data.toList = true ∧ ((rd_File l (i : Nat)).f1 = true → (rd_File l (i : Nat)).f2.data.toList = []) ∧
  (0 < i → Op.bytesLess (rd_File l ((i - 1 : Nat) : Int)).f0.toList (rd_File l (i : Nat)).f0.toList = true)
theorem valid_inv (l : List S_File) (hl : l.length ≤ 128) : ∀ (d n k : Nat), n ≤ l.length → l.length - n = d → 3 * d + 1500 ≤ k → jobshellref19_Valid.l0 k l (n : Int) = some 0 →
    ∀ i, n ≤ i → i < l.length → fileP l i := by
  intro d
  induction d with
  | zero => intro n k hn hd hk h i h1 h2; omega
  | succ d ih =>
    intro n k hn hd hk h
    obtain ⟨k, rfl, hk⟩ := fuel (k := k) (n := 3 * d + 1502) (by omega)
    rw [jobshellref19_Valid.l0, if_pos (by omega), if_pos (by omega), IsPath_p _ k (by omega), Option.bind_some] at h
    obtain ⟨k, rfl, hk⟩ := fuel (k := k) (n := 3 * d + 1501) (by omega)
    obtain ⟨k, rfl, hk⟩ := fuel (k := k) (n := 3 * d + 1500) (by omega)
    cases hp : pathP (rd_File l (n : Int)).f0.data.toList with
    | false => rw [hp, if_neg (by decide)] at h; exact absurd h (by decide)
    | true =>
      rw [hp, if_pos rfl] at h
      have hsz : (rd_File l (n : Int)).f0.size ≤ 128 := by rw [← size_data]; exact (names_path _ hp).2.2
      have j3 : ∀ (b : Bool) c f, jobshellref19_Valid.j3 (k + 1) l (n : Int) b (rd_File l (n : Int)).f0 c f = some 0 → b = false ∧ jobshellref19_Valid.l0 k l ((n + 1 : Nat) : Int) = some 0 := by
        intro b c f h
        rw [jobshellref19_Valid.j3, wrap_succ (by omega)] at h
        cases b with
        | true => rw [if_pos rfl] at h; exact absurd h (by decide)
        | false =>
          rw [if_neg (by decide)] at h
          refine ⟨rfl, ?_⟩
          by_cases hn0 : (n : Int) > 0
          · rw [if_pos hn0, if_pos (by omega), if_pos (by omega)] at h
            have ht : (l.take ((n : Int)).toNat).length ≤ 1000 := by rw [List.length_take]; omega
            obtain ⟨r3, h3⟩ := parent_l0 (l.take ((n : Int)).toNat) (rd_File l (n : Int)).f0 ht (by omega) (l.take ((n : Int)).toNat).length 0 k (by omega) (by omega) (by rw [List.length_take]; omega)
            unfold jobshellref19_parent.f at h
            rw [show ((0 : Nat) : Int) = 0 from rfl] at h3
            rw [h3, Option.bind_some] at h
            by_cases hr : r3 = 0
            · rw [if_pos hr] at h; exact h
            · rw [if_neg hr] at h; exact absurd (Option.some.inj h) hr
          · rw [if_neg hn0] at h; exact h
      have j2 : ∀ (b : Bool) c f, jobshellref19_Valid.j2 (k + 2) l (n : Int) b (rd_File l (n : Int)).f0 c f = some 0 → b = false ∧ (0 < n → Op.bytesLess (rd_File l ((n - 1 : Nat) : Int)).f0.toList (rd_File l (n : Nat)).f0.toList = true) ∧ jobshellref19_Valid.l0 k l ((n + 1 : Nat) : Int) = some 0 := by
        intro b c f h
        rw [jobshellref19_Valid.j2] at h
        cases b with
        | true => rw [if_pos rfl] at h; exact absurd h (by decide)
        | false =>
          rw [if_neg (by decide)] at h
          refine ⟨rfl, ?_⟩
          by_cases hb : (f.size : Int) > 8192
          · rw [if_pos hb] at h; exact absurd h (by decide)
          · rw [if_neg hb] at h
            by_cases hn0 : (n : Int) > 0
            · rw [if_pos hn0, wrap_id (i := (n : Int) - 1) (by omega) (by omega), if_pos (by omega), if_pos (by omega)] at h
              obtain ⟨h1, h2⟩ := j3 _ _ _ h
              refine ⟨fun _ => ?_, h2⟩
              rw [show ((n - 1 : Nat) : Int) = (n : Int) - 1 by omega]
              simpa using h1
            · rw [if_neg hn0] at h
              exact ⟨fun e => absurd e (by omega), (j3 _ _ _ h).2⟩
      have fin : (0 < n → Op.bytesLess (rd_File l ((n - 1 : Nat) : Int)).f0.toList (rd_File l (n : Nat)).f0.toList = true) ∧ jobshellref19_Valid.l0 k l ((n + 1 : Nat) : Int) = some 0 ∧ ((rd_File l (n : Int)).f1 = true → (rd_File l (n : Int)).f2.data.toList = []) := by
        by_cases c1 : (rd_File l (n : Int)).f1 = true
        · rw [if_pos c1] at h
          by_cases c2 : (rd_File l (n : Int)).f2.toList = []
          · rw [if_pos c2] at h
            have c3 : (rd_File l (n : Int)).f2.data.toList = [] := by rw [← toL]; exact c2
            split at h
            · obtain ⟨-, a, b⟩ := j2 _ _ _ h; exact ⟨a, b, fun _ => c3⟩
            · obtain ⟨-, a, b⟩ := j2 _ _ _ h; exact ⟨a, b, fun _ => c3⟩
          · rw [if_neg c2] at h
            obtain ⟨e, -, -⟩ := j2 _ _ _ h
            cases e
        · rw [if_neg c1] at h
          split at h
          · obtain ⟨-, a, b⟩ := j2 _ _ _ h; exact ⟨a, b, fun e => absurd e c1⟩
          · obtain ⟨-, a, b⟩ := j2 _ _ _ h; exact ⟨a, b, fun e => absurd e c1⟩
      intro i hi1 hi2
      by_cases he : i = n
      · subst he; exact ⟨hp, fin.2.2, fin.1⟩
      · exact ih (n + 1) k (by omega) (by omega) (by omega) fin.2.1 i (by omega) hi2
theorem valid_files (l : List S_File) (k : Nat) (hk : 1900 ≤ k) (h : jobshellref19_Valid.f k l = some 0) : ∀ i, i < l.length → fileP l i := by
  obtain ⟨k, rfl, hk⟩ := fuel (k := k) (n := 1899) (by omega)
  unfold jobshellref19_Valid.f at h
  by_cases h1 : (l.length : Int) > 128
  · rw [if_pos h1] at h; exact absurd h (by decide)
  rw [if_neg h1] at h
  have j0 : ∀ b, jobshellref19_Valid.j0 (k + 1) l b = some 0 → ∀ i, i < l.length → fileP l i := by
    intro b h i hi
    rw [jobshellref19_Valid.j0] at h
    cases b with
    | true => rw [if_pos rfl] at h; exact absurd h (by decide)
    | false =>
      rw [if_neg (by decide)] at h
      exact valid_inv l (by omega) l.length 0 k (by omega) (by omega) (by omega) h i (by omega) hi
  by_cases h2 : (l.length : Int) = 0
  · rw [if_pos h2] at h; exact j0 _ h
  · rw [if_neg h2, if_pos (by omega)] at h; exact j0 _ h
theorem sorted_lt (l : List S_File) (h : ∀ i, i < l.length → fileP l i) (i : Nat) : ∀ d, i + d + 1 < l.length → Op.bytesLess (rd_File l (i : Nat)).f0.toList (rd_File l ((i + d + 1 : Nat) : Int)).f0.toList = true
  | 0, hd => (h (i + 1) hd).2.2 (by omega)
  | d + 1, hd => bl_trans _ _ _ (sorted_lt l h i d (by omega)) ((h (i + (d + 1) + 1) hd).2.2 (by omega))
theorem idxF_at (p : ByteArray) (l : List S_File) (i : Nat) : ∀ (d n : Nat), n + d = i → i < l.length → (rd_File l (i : Nat)).f0.toList = p.toList → (∀ j, n ≤ j → j < i → (rd_File l (j : Nat)).f0.toList ≠ p.toList) → idxF p (l.drop n) (n : Int) = (i : Int)
  | 0, n, hd, hi, he, hn => by
    rw [rd_drop l n (by omega), idxF, if_pos (by have : n = i := by omega
                                                 rw [this]; exact he)]
    omega
  | d + 1, n, hd, hi, he, hn => by
    rw [rd_drop l n (by omega), idxF, if_neg (hn n (by omega) (by omega))]
    exact idxF_at p l i d (n + 1) (by omega) hi he (fun j h1 h2 => hn j (by omega) h2)
theorem find_at (l : List S_File) (hl : l.length ≤ 1000) (h : ∀ i, i < l.length → fileP l i) (i : Nat) (hi : i < l.length) :
    files_Find.f l (rd_File l (i : Nat)).f0 = some ((rd_File l (i : Nat)).f0, (rd_File l (i : Nat)).f1, (rd_File l (i : Nat)).f2, true) := by
  unfold files_Find.f files_index.f
  have hx := idxF_at (rd_File l (i : Nat)).f0 l i i 0 (by omega) hi rfl (fun j _ hj e => by
    have := sorted_lt l h j (i - j - 1) (by omega)
    rw [show j + (i - j - 1) + 1 = i by omega, e, bl_irr] at this
    cases this)
  rw [List.drop_zero, show ((0 : Nat) : Int) = 0 from rfl] at hx
  rw [if_pos (by omega), Option.bind_some, hx, if_pos (by omega), if_pos (by omega), if_pos (by omega)]
theorem find_l0_p (l : List S_File) (s : ByteArray) (hl : l.length ≤ 1000) : ∀ (d n k : Nat), n ≤ l.length → l.length - n = d → d + 1 ≤ k → jobshellref19_find.l0 k l s (n : Int) = some (idxF s (l.drop n) (n : Int)) := by
  intro d
  induction d with
  | zero =>
    intro n k hn hd hk
    obtain ⟨k, rfl, hk⟩ := fuel (k := k) (n := 0) (by omega)
    rw [jobshellref19_find.l0, if_neg (by omega), List.drop_eq_nil_of_le (by omega)]
    rfl
  | succ d ih =>
    intro n k hn hd hk
    obtain ⟨k, rfl, hk⟩ := fuel (k := k) (n := 0) (by omega)
    rw [jobshellref19_find.l0, if_pos (by omega), if_pos (by omega), rd_drop l n (by omega), idxF]
    split
    · rfl
    · rw [wrap_succ (by omega), ih (n + 1) k (by omega) (by omega) (by omega)]; rfl
theorem Find_eq (l : List S_File) (s : ByteArray) (hl : l.length ≤ 1000) (k : Nat) (hk : 1001 ≤ k) : jobshellref19_Find.f k l s = files_Find.f l s := by
  unfold jobshellref19_Find.f files_Find.f files_index.f jobshellref19_find.f
  have h := find_l0_p l s hl l.length 0 k (by omega) (by omega) (by omega)
  rw [List.drop_zero, show ((0 : Nat) : Int) = 0 from rfl] at h
  rw [h, if_pos (by omega), Option.bind_some, Option.bind_some]
  have := idxF_bound s l 0
  by_cases h1 : idxF s l 0 < 0
  · rw [if_pos h1, if_neg (by omega)]
  · rw [if_neg h1, if_pos (by omega), if_pos (show idxF s l 0 ≥ 0 by omega), if_pos (by omega)]
theorem cleanN_names : ∀ (M ns : List (List UInt8)), M.all nameP = true → (pathOf (ns ++ M)).length ≤ 128 → cleanN M ns = (pathOf (ns ++ M), 0)
  | [], ns, _, hz => by rw [List.append_nil] at hz ⊢; rw [cleanN, if_neg (by omega)]
  | c :: r, ns, h, hz => by
    rw [List.all_cons, Bool.and_eq_true] at h
    have hc := nameP_ok c h.1
    rw [cleanN, if_neg (by simp [hc.1, hc.2.2.2.1]), if_neg hc.2.2.2.2, if_pos h.1, cleanN_names r (ns ++ [c]) h.2 (by simpa using hz)]
    simp
theorem clean_path (p : List UInt8) (h : pathP p = true) : cleanF [47] p = (p, 0) := by
  obtain ⟨n1, n2, n3⟩ := names_path p h
  unfold cleanF
  rw [if_pos (by decide)]
  have hh : p ≠ [] ∧ p.head? = some 47 ∧ (p = [47] ∨ (p ≠ [47] ∧ ∃ t, p = 47 :: t)) := by
    by_cases h1 : p = [47]
    · subst h1; exact ⟨by decide, rfl, Or.inl rfl⟩
    · unfold pathP at h
      rw [decide_eq_false h1, Bool.false_or, Bool.and_eq_true, Bool.and_eq_true] at h
      have h3 := of_decide_eq_true h.1.2
      cases p with
      | nil => cases h3
      | cons a t => simp at h3; subst h3; exact ⟨by simp, rfl, Or.inr ⟨h1, t, rfl⟩⟩
  rw [if_neg hh.1, if_pos hh.2.1]
  rcases hh.2.2 with rfl | ⟨h1, t, rfl⟩
  · rfl
  · rw [sp_slash, cleanN, if_pos (Or.inl rfl)]
    unfold namesOf at n1 n2
    rw [if_neg h1] at n1 n2
    rw [show (47 :: t).drop 1 = t from rfl] at n1 n2
    rw [cleanN_names (sp t) [] n2 (by rw [List.nil_append, n1]; exact n3), List.nil_append, n1]
end Go.Proofs.YtoeiohfljaboaaaDoor.Pure
