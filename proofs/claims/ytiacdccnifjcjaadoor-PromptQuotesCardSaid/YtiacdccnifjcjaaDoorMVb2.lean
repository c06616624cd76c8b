/- The law PromptQuotes: for every input the call returns true and leaves its arguments as they were; the variables that the row lists are tied to the program's text (a tied card). No condition beyond the row's own. -/
import Derived.Lib.ItoaLen
import Derived.Test.YtiacdccnifjcjaaDoorCards
import Derived.Test.YtiacdccnifjcjaaDoorTie
import Derived.WalkKit
import Derived.ProofKit
import Derived.OpenShut
import Derived.ShutString
import Derived.ChangeOld
import Derived.Below
import Derived.SizedLaws
import Derived.LaidMore
import Derived.Lay
import Derived.SevenTiedAt
import Derived.Stop.Joined
import Derived.Carry
import Derived.Test.YtiacdccnifjcjaaDoorMVb1
import Derived.Test.YtiacdccnifjcjaaDoorMVb0
import Derived.Test.YtiacdccnifjcjaaDoorB2
set_option linter.unusedVariables false
set_option linter.unusedSimpArgs false
namespace Go.Proofs.YtiacdccnifjcjaaDoor.Pure
open Go.RowKit Go.Proofs.YtiacdccnifjcjaaDoor.F Go.Proofs.YtiacdccnifjcjaaDoorW.PrintWords
theorem byte_eq (c u : UInt8) (n : Nat) (hn : u.toNat = n) : ((c.toNat : Int) = (n : Int)) ↔ c = u := by
  constructor
  · intro h
    have h2 : c.toNat = u.toNat := by omega
    exact UInt8.toNat_inj.1 h2
  · rintro rfl
    rw [hn]
def valOf (V : ByteArray → Option (ByteArray × Bool)) (nm : List UInt8) : List UInt8 := match V (ba nm) with | some v => v.1.data.toList | none => []
theorem valOf_eq {V : ByteArray → Option (ByteArray × Bool)} (hV : ∀ x, ∃ v, V x = some v) (nm : List UInt8) : ∃ v, V (ba nm) = some v ∧ valOf V nm = v.1.data.toList := by
  obtain ⟨v, hv⟩ := hV (ba nm)
  exact ⟨v, hv, by unfold valOf; rw [hv]⟩
section
variable {V : ByteArray → Option (ByteArray × Bool)} {Pm : ByteArray → Option (ByteArray × Int)} {cwd : ByteArray} {jobs number : Int} {s : ByteArray} {js ns : List UInt8}
theorem exStep_ex (hV : ∀ x, ∃ v, V x = some v) (hP : ∀ x : ByteArray, x.size ≤ 10000 → Pm x = some (ba (parL x.data.toList).1, ((parL x.data.toList).2 : Int))) (hj : strconv_Itoa.f jobs = some (ba js)) (hn : strconv_Itoa.f number = some (ba ns)) (hs : s.size ≤ 10000) (p : Nat) (hp : p < s.size) :
    exStep V Pm cwd jobs number s p = some ((stepL (valOf V) cwd.data.toList js ns (s.data.toList.drop p)).map fun x => (ba x.1, x.2)) := by
  obtain ⟨c, hc, hb⟩ := bt_drop s p hp
  have hsz := size_data s
  have hr : (s.extract (p + 1) s.size).data.toList = s.data.toList.drop (p + 1) := by rw [extract_data, List.take_of_length_le (by omega)]
  unfold exStep
  rw [hc, hb, stepL.eq_def]
  dsimp only
  by_cases h36 : (c.toNat : Int) = 36
  · have hc36 : c = 36 := (byte_eq c 36 36 rfl).1 h36
    rw [if_pos h36, if_pos hc36, hP _ (by rw [ByteArray.size_extract]; omega), Option.bind_some, hr]
    simp only
    by_cases h0 : 0 < (parL (s.data.toList.drop (p + 1))).2
    · obtain ⟨v, hv, he⟩ := valOf_eq hV (parL (s.data.toList.drop (p + 1))).1
      rw [if_pos (by omega), if_pos h0, hv, Option.bind_some, he, Int.toNat_natCast]
      simp only [Option.map_some, ba_of]
    · rw [if_neg (by omega), if_neg h0]; rfl
  have hc36 : ¬ c = 36 := fun e => h36 ((byte_eq c 36 36 rfl).2 e)
  rw [if_neg h36, if_neg hc36]
  by_cases h92 : (c.toNat : Int) = 92
  · have hc92 : c = 92 := (byte_eq c 92 92 rfl).1 h92
    rw [if_pos h92, if_pos hc92]
    by_cases hn1 : p + 1 < s.size
    · obtain ⟨d, hd, hbd⟩ := bt_drop s (p + 1) hn1
      have hx : (s.extract (p + 1) s.size).extract 0 1 = ba [d] := by
        rw [extract_ba, hr, hd]; rfl
      rw [if_pos hn1, hbd, hd, hx]
      simp only
      have D : ∀ (n : Nat) (u : UInt8), u.toNat = n → (((d.toNat : Int) = (n : Int)) ↔ d = u) := fun n u h => byte_eq d u n h
      by_cases k1 : (d.toNat : Int) = 119
      · rw [if_pos k1, if_pos ((D 119 119 rfl).1 k1)]; simp only [Option.map_some, ba_of]
      rw [if_neg k1, if_neg (fun e => k1 ((D 119 119 rfl).2 e))]
      by_cases k2 : (d.toNat : Int) = 36
      · have := (D 36 36 rfl).1 k2
        rw [if_pos k2, if_pos this, this]; rfl
      rw [if_neg k2, if_neg (fun e => k2 ((D 36 36 rfl).2 e))]
      by_cases k3 : (d.toNat : Int) = 92
      · have := (D 92 92 rfl).1 k3
        rw [if_pos k3, if_pos this, this]; rfl
      rw [if_neg k3, if_neg (fun e => k3 ((D 92 92 rfl).2 e))]
      by_cases k4 : (d.toNat : Int) = 117
      · obtain ⟨v, hv, he⟩ := valOf_eq hV [85, 83, 69, 82]
        rw [if_pos k4, if_pos ((D 117 117 rfl).1 k4), he]
        have hv' : V (⟨#[85, 83, 69, 82]⟩ : ByteArray) = some v := hv
        rw [hv', Option.bind_some]; simp only [Option.map_some, ba_of]
      rw [if_neg k4, if_neg (fun e => k4 ((D 117 117 rfl).2 e))]
      by_cases k5 : (d.toNat : Int) = 106
      · rw [if_pos k5, if_pos ((D 106 106 rfl).1 k5), hj]; rfl
      rw [if_neg k5, if_neg (fun e => k5 ((D 106 106 rfl).2 e))]
      by_cases k6 : (d.toNat : Int) = 33
      · rw [if_pos k6, if_pos ((D 33 33 rfl).1 k6), hn]; rfl
      rw [if_neg k6, if_neg (fun e => k6 ((D 33 33 rfl).2 e))]
      by_cases k7 : (d.toNat : Int) = 110
      · rw [if_pos k7, if_pos ((D 110 110 rfl).1 k7)]; rfl
      rw [if_neg k7, if_neg (fun e => k7 ((D 110 110 rfl).2 e))]; rfl
    · have hnil : s.data.toList.drop (p + 1) = [] := List.drop_eq_nil_of_le (by omega)
      rw [if_neg hn1, hnil]; rfl
  · rw [if_neg h92, if_neg (fun e => h92 ((byte_eq c 92 92 rfl).2 e))]; rfl
theorem exGo_ex (hV : ∀ x, ∃ v, V x = some v) (hP : ∀ x : ByteArray, x.size ≤ 10000 → Pm x = some (ba (parL x.data.toList).1, ((parL x.data.toList).2 : Int))) (hj : strconv_Itoa.f jobs = some (ba js)) (hn : strconv_Itoa.f number = some (ba ns)) (hs : s.size ≤ 10000) :
    ∀ (d p g : Nat), p ≤ s.size → s.size - p ≤ d → d < g → exGo V Pm cwd jobs number s g p = some (ex (valOf V) cwd.data.toList js ns (s.data.toList.drop p)) := by
  have hsz := size_data s
  intro d
  induction d with
  | zero =>
    intro p g hp hd hg
    obtain ⟨m, rfl⟩ : ∃ m, g = m + 1 := ⟨g - 1, by omega⟩
    rw [exGo, if_neg (by omega), List.drop_eq_nil_of_le (by omega)]; rfl
  | succ d ih =>
    intro p g hp hd hg
    obtain ⟨m, rfl⟩ : ∃ m, g = m + 1 := ⟨g - 1, by omega⟩
    by_cases hlt : p < s.size
    · obtain ⟨c, hc, _⟩ := bt_drop s p hlt
      rw [exGo, if_pos hlt, exStep_ex hV hP hj hn hs p hlt, Option.bind_some]
      cases hst : stepL (valOf V) cwd.data.toList js ns (s.data.toList.drop p) with
      | none =>
        simp only [Option.map_none]
        rw [ih (p + 1) m (by omega) (by omega) (by omega), Option.bind_some]
        rw [hc] at hst
        rw [hc, ex_none _ _ _ _ _ _ hst]; rfl
      | some x =>
        obtain ⟨t, n⟩ := x
        obtain ⟨h1, h2⟩ := stepL_le _ _ _ _ _ _ _ hst
        rw [List.length_drop] at h2
        simp only [Option.map_some]
        rw [if_pos ⟨h1, by omega⟩, ih (p + n) m (by omega) (by omega) (by omega), Option.bind_some, ex_some _ _ _ _ _ _ _ hst, ba_data, List.drop_drop]
    · rw [exGo, if_neg hlt, List.drop_eq_nil_of_le (by omega)]; rfl
end
structure Sm (n0 : ByteArray) (vs : List S_Var) (ps : List ByteArray) (cwd : ByteArray) : Prop where
  few : Few vs ps
  values : ∀ v ∈ vs, v.f1.size ≤ 500
  name : n0.size ≤ 500
  cwd : cwd.size ≤ 500
theorem var_drop (xs : List S_Var) (i : Nat) (h : i < xs.length) : xs.drop i = rd_Var xs (i : Int) :: xs.drop (i + 1) := getD_drop z_Var xs i h
theorem name_tot (s : ByteArray) : ∃ t, chars_Name.f s = some t := by
  unfold chars_Name.f; split
  · exact ⟨_, rfl⟩
  split <;> exact ⟨_, rfl⟩
theorem valid15 (xs : List S_Var) (hl : xs.length ≤ 20) : ∀ (d i k : Nat), i + d = xs.length → d + 2000 < k → ∃ r, jobshellref15_Valid.l0 k xs i = some r := by
  intro d
  induction d with
  | zero =>
    intro i k hi hk
    obtain ⟨m, rfl⟩ : ∃ m, k = m + 1 := ⟨k - 1, by omega⟩
    rw [jobshellref15_Valid.l0, if_neg (by omega)]; exact ⟨_, rfl⟩
  | succ d ih =>
    intro i k hi hk
    obtain ⟨m, rfl⟩ : ∃ m, k = m + 1 := ⟨k - 1, by omega⟩
    obtain ⟨r, hr⟩ := ih (i + 1) m (by omega) (by omega)
    obtain ⟨t, ht⟩ := name_tot (rd_Var xs (i : Int)).f0
    rw [jobshellref15_Valid.l0, if_pos (by omega), if_pos (by omega), name_eq _ (by omega), ht, Option.bind_some, wrap_succ (by omega), hr]
    have fin : ∃ r', (if (i : Int) > 0 then (if 0 ≤ (wrap64 ((i : Int) - 1)) then (if (wrap64 ((i : Int) - 1)) < (xs.length : Int) then (if ((Op.bytesLess (((rd_Var xs (wrap64 ((i : Int) - 1))).f0).toList) (((rd_Var xs (i : Int)).f0).toList)) = true) then (some r) else (some 1)) else (none)) else (none)) else (some r)) = some r' := by
      split
      · rw [wrap_id (by omega) (by omega), if_pos (by omega), if_pos (by omega)]
        split <;> exact ⟨_, rfl⟩
      · exact ⟨_, rfl⟩
    split
    · split
      · exact ⟨_, rfl⟩
      split
      · exact fin
      split
      · exact fin
      · exact ⟨_, rfl⟩
    · exact ⟨_, rfl⟩
section
variable (n0 : ByteArray) (vs : List S_Var) (ps : List ByteArray) (o3 : Opq) (al : List S_Alias) (tr : List S_Trap) (i6 i7 i8 i9 : Int) (s10 : ByteArray) (i11 i12 i13 : Int) (b14 : Bool)
theorem small_params (hv : vs.length ≤ 20) (hl : ps.length ≤ 20) : ∀ (d i k : Nat), i + d = ps.length → d + 3000 < k →
    ∃ b, jobshelllaw48_small.l1 k i n0 vs ps o3 al tr i6 i7 i8 i9 s10 i11 i12 i13 b14 = some b ∧ (b = true → ∀ x ∈ ps.drop i, x.size ≤ 500) := by
  intro d
  induction d with
  | zero =>
    intro i k hi hk
    obtain ⟨m, rfl⟩ : ∃ m, k = m + 1 := ⟨k - 1, by omega⟩
    rw [jobshelllaw48_small.l1, if_neg (by omega)]
    obtain ⟨r, hr⟩ := valid15 vs hv vs.length 0 m (by omega) (by omega)
    have hr' : jobshellref15_Valid.f m vs = some r := by unfold jobshellref15_Valid.f; rw [if_neg (by omega)]; exact hr
    rw [hr', Option.bind_some]
    exact ⟨_, rfl, fun _ x hx => by rw [List.drop_eq_nil_of_le (by omega)] at hx; cases hx⟩
  | succ d ih =>
    intro i k hi hk
    obtain ⟨m, rfl⟩ : ∃ m, k = m + 1 := ⟨k - 1, by omega⟩
    have hd : ps.drop i = rdOf ByteArray.empty ps (i : Int) :: ps.drop (i + 1) := getD_drop _ ps i (by omega)
    rw [jobshelllaw48_small.l1, if_pos (by omega), if_pos (by omega), wrap_succ (by omega)]
    by_cases h : ((rdOf ByteArray.empty ps (i : Int)).size : Int) > 500
    · rw [if_pos h]; exact ⟨_, rfl, fun h => by cases h⟩
    · rw [if_neg h]
      obtain ⟨b, h1, h2⟩ := ih (i + 1) m (by omega) (by omega)
      refine ⟨b, h1, fun e x hx => ?_⟩
      rw [hd] at hx
      rcases List.mem_cons.1 hx with rfl | hx
      · omega
      · exact h2 e x hx
theorem small_vars (hv : vs.length ≤ 20) (hl : ps.length ≤ 20) : ∀ (d i k : Nat), i + d = vs.length → d + 3100 < k →
    ∃ b, jobshelllaw48_small.l0 k i n0 vs ps o3 al tr i6 i7 i8 i9 s10 i11 i12 i13 b14 = some b ∧ (b = true → (∀ x ∈ ps, x.size ≤ 500) ∧ ∀ v ∈ vs.drop i, v.f1.size ≤ 500) := by
  intro d
  induction d with
  | zero =>
    intro i k hi hk
    obtain ⟨m, rfl⟩ : ∃ m, k = m + 1 := ⟨k - 1, by omega⟩
    rw [jobshelllaw48_small.l0, if_neg (by omega)]
    obtain ⟨b, h1, h2⟩ := small_params n0 vs ps o3 al tr i6 i7 i8 i9 s10 i11 i12 i13 b14 hv hl ps.length 0 m (by omega) (by omega)
    exact ⟨b, h1, fun e => ⟨h2 e, fun v hv => by rw [List.drop_eq_nil_of_le (by omega)] at hv; cases hv⟩⟩
  | succ d ih =>
    intro i k hi hk
    obtain ⟨m, rfl⟩ : ∃ m, k = m + 1 := ⟨k - 1, by omega⟩
    have hd := var_drop vs i (by omega)
    rw [jobshelllaw48_small.l0, if_pos (by omega), if_pos (by omega), wrap_succ (by omega)]
    by_cases h : ((rd_Var vs (i : Int)).f1.size : Int) > 500
    · rw [if_pos h]; exact ⟨_, rfl, fun h => by cases h⟩
    rw [if_neg h]
    split
    · exact ⟨_, rfl, fun h => by cases h⟩
    · obtain ⟨b, h1, h2⟩ := ih (i + 1) m (by omega) (by omega)
      refine ⟨b, h1, fun e => ⟨(h2 e).1, fun v hx => ?_⟩⟩
      rw [hd] at hx
      rcases List.mem_cons.1 hx with rfl | hx
      · omega
      · exact (h2 e).2 v hx
theorem small_eq {k : Nat} (hk : 4000 ≤ k) : ∃ b, jobshelllaw48_small.f k n0 vs ps o3 al tr i6 i7 i8 i9 s10 i11 i12 i13 b14 = some b ∧ (b = true → Sm n0 vs ps s10) := by
  obtain ⟨m, rfl⟩ : ∃ m, k = m + 1 := ⟨k - 1, by omega⟩
  unfold jobshelllaw48_small.f
  by_cases h1 : (vs.length : Int) > 20
  · rw [if_pos h1, jobshelllaw48_small.j0, if_pos rfl]; exact ⟨_, rfl, fun h => by cases h⟩
  rw [if_neg h1]
  by_cases h2 : (ps.length : Int) > 20
  · rw [if_pos h2, jobshelllaw48_small.j0, if_pos rfl]; exact ⟨_, rfl, fun h => by cases h⟩
  rw [if_neg h2]
  by_cases h3 : (s10.size : Int) > 500
  · rw [if_pos h3, jobshelllaw48_small.j0, if_pos rfl]; exact ⟨_, rfl, fun h => by cases h⟩
  rw [if_neg h3, jobshelllaw48_small.j0]
  by_cases h4 : (n0.size : Int) > 500
  · rw [decide_eq_true h4, if_pos rfl]; exact ⟨_, rfl, fun h => by cases h⟩
  · rw [decide_eq_false h4, if_neg (by decide)]
    obtain ⟨b, h5, h6⟩ := small_vars n0 vs ps o3 al tr i6 i7 i8 i9 s10 i11 i12 i13 b14 (by omega) (by omega) vs.length 0 m (by omega) (by omega)
    exact ⟨b, h5, fun e => ⟨⟨by omega, by omega, (h6 e).1⟩, (h6 e).2, by omega, by omega⟩⟩
end
end Go.Proofs.YtiacdccnifjcjaaDoor.Pure
set_option linter.unusedVariables false
set_option linter.unusedSimpArgs false
namespace Go.Proofs.YtiacdccnifjcjaaDoor.Pure
open Go.RowKit Go.Proofs.YtiacdccnifjcjaaDoor.F Go.Proofs.YtiacdccnifjcjaaDoorW.PrintWords
theorem wf_i64' {a : Int} (h : (Lit.int .i64 a).wf = true) : -9223372036854775808 ≤ a ∧ a ≤ 9223372036854775807 := by
  simp only [Lit.wf, Bool.and_eq_true, decide_eq_true_eq] at h
  exact ⟨h.1, h.2⟩
theorem nd_le : ∀ (f u : Nat), u < 10 ^ f → 1 ≤ f → Lib.nDigits u ≤ f := by
  intro f
  induction f with
  | zero => intro u _ h; omega
  | succ f ihf =>
    intro u hu _
    by_cases h10 : u < 10
    · rw [Lib.nDigits_small h10]; omega
    · rw [Lib.nDigits_big h10]
      have hf0 : 1 ≤ f := by
        cases f with
        | zero => simp at hu; omega
        | succ f => omega
      have := ihf (u / 10) (by rw [Nat.pow_succ] at hu; omega) hf0
      omega
theorem itoa_len (n : Int) (h0 : -9223372036854775808 ≤ n) (h1 : n ≤ 9223372036854775807) : (Lib.itoa n).length ≤ 21 := by
  unfold Lib.itoa
  split
  · rw [List.length_cons, Lib.decDigits_length]
    have := nd_le 20 n.natAbs (by omega) (by omega); omega
  · rw [Lib.decDigits_length]
    have := nd_le 20 n.toNat (by omega) (by omega); omega
theorem itoa_some {n : Int} {t : ByteArray} (h : strconv_Itoa.f n = some t) : t.size ≤ 21 := by
  unfold strconv_Itoa.f at h
  split at h
  · rename_i hc
    obtain rfl := Option.some.inj h
    exact itoa_len n hc.1 hc.2
  · cases h
theorem getGo_mem (nm : ByteArray) : ∀ vs : List S_Var, (∀ v ∈ vs, v.f1.size ≤ 500) → (getGo nm vs).2.1.size ≤ 500 := by
  intro vs
  induction vs with
  | nil => intro _; exact Nat.zero_le _
  | cons v r ih =>
    intro h
    by_cases hn : v.f0.toList = nm.toList
    · rw [getGo, if_pos hn]; exact h v List.mem_cons_self
    · rw [getGo, if_neg hn]; exact ih (fun x hx => h x (List.mem_cons_of_mem _ hx))
theorem value_len {n0 : ByteArray} {vs : List S_Var} {ps : List ByteArray} {o3 : Opq} {al : List S_Alias} {tr : List S_Trap} {i6 i7 i8 i9 : Int} {s10 : ByteArray} {i11 i12 i13 : Int} {b14 : Bool} {nm : ByteArray} {k : Nat} {r : ByteArray × Bool} {cwd : ByteArray}
    (hS : Sm n0 vs ps cwd) (hk : 1000 ≤ k) (h : param_Value.f k n0 vs ps o3 al tr i6 i7 i8 i9 s10 i11 i12 i13 b14 nm = some r) : r.1.size ≤ 20000 := by
  have hv := hS.few.vars
  have nil0 : (⟨#[]⟩ : ByteArray).size ≤ 20000 := by decide
  have itoa : ∀ n, ((strconv_Itoa.f n).bind fun t => some (t, true)) = some r → r.1.size ≤ 20000 := by
    intro n e
    obtain ⟨t, e1, e2⟩ := Option.bind_eq_some_iff.1 e
    obtain rfl := Option.some.inj e2
    have := itoa_some e1
    show t.size ≤ 20000; omega
  have join : ∀ sep : ByteArray, sep.size ≤ 1 → ((strings_Join.f ps sep).bind fun t => some (t, decide ((ps.length : Int) > 0))) = some r → r.1.size ≤ 20000 := by
    intro sep hs e
    obtain ⟨t, e1, e2⟩ := Option.bind_eq_some_iff.1 e
    obtain rfl := Option.some.inj e2
    have hl := join_len sep ps hS.few.params hS.few.sizes hs
    unfold strings_Join.f at e1
    rw [if_pos (by omega)] at e1
    obtain rfl := Option.some.inj e1
    exact hl
  unfold param_Value.f at h
  by_cases c0 : nm.toList = ([48] : List UInt8)
  · rw [if_pos c0] at h; obtain rfl := Option.some.inj h; have := hS.name; show n0.size ≤ 20000; omega
  rw [if_neg c0] at h
  by_cases c1 : nm.toList = ([35] : List UInt8)
  · rw [if_pos c1] at h; exact itoa _ h
  rw [if_neg c1] at h
  by_cases c2 : nm.toList = ([63] : List UInt8)
  · rw [if_pos c2] at h; exact itoa _ h
  rw [if_neg c2] at h
  by_cases c3 : nm.toList = ([45] : List UInt8)
  · rw [if_pos c3] at h
    obtain ⟨t, e1, e2⟩ := Option.bind_eq_some_iff.1 h
    obtain rfl := Option.some.inj e2
    unfold param_flags.f at e1
    obtain rfl := Option.some.inj e1
    have fl : ∀ l : List (Int × UInt8), (flagsOf i6 l).length ≤ l.length := by
      intro l
      induction l with
      | nil => exact Nat.le_refl _
      | cons x q ih => simp only [flagsOf]; split <;> simp <;> omega
    have := fl flagTab
    show (flagsOf i6 flagTab).length ≤ 20000
    have h8 : flagTab.length = 8 := rfl
    omega
  rw [if_neg c3] at h
  by_cases c4 : nm.toList = ([36] : List UInt8)
  · rw [if_pos c4] at h; exact itoa _ h
  rw [if_neg c4] at h
  by_cases c5 : nm.toList = ([33] : List UInt8)
  · rw [if_pos c5] at h
    by_cases h0 : i9 = 0
    · rw [if_pos h0] at h; obtain rfl := Option.some.inj h; exact nil0
    · rw [if_neg h0] at h; exact itoa _ h
  rw [if_neg c5] at h
  by_cases c6 : nm.toList = ([64] : List UInt8)
  · rw [if_pos c6] at h; exact join _ (by decide) h
  rw [if_neg c6] at h
  by_cases c7 : nm.toList = ([42] : List UInt8)
  · rw [if_pos c7] at h
    obtain ⟨t, e1, e2⟩ := Option.bind_eq_some_iff.1 h
    obtain ⟨s, s1, _, s3⟩ := sep_eq vs hv hk
    rw [s1] at e1
    obtain rfl := Option.some.inj e1
    exact join _ s3 e2
  rw [if_neg c7] at h
  obtain ⟨n, b, e, e1, e2⟩ := position_eq nm
  rw [e, Option.bind_some] at h
  cases b with
  | true =>
    obtain ⟨g0, g1, _⟩ := e1 rfl
    rw [if_pos rfl] at h
    split at h
    · obtain rfl := Option.some.inj h; exact nil0
    split at h
    · split at h
      · rename_i q1 q2 q3
        obtain rfl := Option.some.inj h
        have hd : ∃ x ∈ ps, rdOf ByteArray.empty ps (wrap64 (n - 1)) = x := by
          refine ⟨_, ?_, rfl⟩
          unfold rdOf
          have hlt : (wrap64 (n - 1)).toNat < ps.length := by
            simp only at q2 q3; omega
          rw [List.getD_eq_getElem?_getD, List.getElem?_eq_getElem hlt]
          exact List.getElem_mem hlt
        obtain ⟨x, hx, ex⟩ := hd
        show (rdOf ByteArray.empty ps (wrap64 (n - 1))).size ≤ 20000
        rw [ex]
        have := hS.few.sizes x hx; omega
      · cases h
    · cases h
  | false =>
    simp only [Bool.false_eq_true, if_false] at h
    rw [vars_get nm vs (by omega) (by omega), Option.bind_some] at h
    have hg := getGo_mem nm vs hS.values
    split at h
    · split at h
      · obtain ⟨t, ht⟩ := name_tot nm
        rw [ht, Option.bind_some] at h
        split at h
        · obtain rfl := Option.some.inj h; show (getGo nm vs).2.1.size ≤ 20000; omega
        · obtain rfl := Option.some.inj h; exact nil0
      · obtain rfl := Option.some.inj h; exact nil0
    · obtain rfl := Option.some.inj h; exact nil0
section
variable (n0 : ByteArray) (vs : List S_Var) (ps : List ByteArray) (o3 : Opq) (al : List S_Alias) (tr : List S_Trap) (i6 i7 i8 i9 : Int) (s10 : ByteArray) (i11 i12 i13 : Int) (b14 : Bool)
def nameVal (k : Nat) : List UInt8 → List UInt8 := valOf (fun nm => param_Value.f k n0 vs ps o3 al tr i6 i7 i8 i9 s10 i11 i12 i13 b14 nm)
theorem expand_eq (hS : Sm n0 vs ps s10) (h7 : (Lit.int .i64 i7).wf = true) (h8 : (Lit.int .i64 i8).wf = true) (h9 : (Lit.int .i64 i9).wf = true) (s : ByteArray) (hs : s.size ≤ 10000) (a b : Int) (ha : (Lit.int .i64 a).wf = true) (hb : (Lit.int .i64 b).wf = true) {k : Nat} (hk : 300000 ≤ k) :
    prompt_Expand.f k n0 vs ps o3 al tr i6 i7 i8 i9 s10 i11 i12 i13 b14 s a b = some (ba ((ex (nameVal n0 vs ps o3 al tr i6 i7 i8 i9 s10 i11 i12 i13 b14 k) s10.data.toList (Lib.itoa a) (Lib.itoa b) s.data.toList).take 4096)) := by
  obtain ⟨a1, a2⟩ := wf_i64' ha
  obtain ⟨b1, b2⟩ := wf_i64' hb
  have hV : ∀ x, ∃ v, (fun nm => param_Value.f k n0 vs ps o3 al tr i6 i7 i8 i9 s10 i11 i12 i13 b14 nm) x = some v := by
    intro x
    obtain ⟨r, h1, _⟩ := value_eq n0 vs ps o3 al tr i6 i7 i8 i9 s10 i11 i12 i13 b14 x hS.few h7 h8 h9 (k := k) (by omega)
    exact ⟨r, h1⟩
  have hP : ∀ x : ByteArray, x.size ≤ 10000 → (fun x => prompt_parameter.f k x) x = some (ba (parL x.data.toList).1, ((parL x.data.toList).2 : Int)) := fun x hx => par_prog x hx (by omega)
  have hgo := exGo_ex (V := fun nm => param_Value.f k n0 vs ps o3 al tr i6 i7 i8 i9 s10 i11 i12 i13 b14 nm) (Pm := fun x => prompt_parameter.f k x) (cwd := s10) (s := s) hV hP (itoa_eq a a1 a2) (itoa_eq b b1 b2) hs s.size 0 (s.size + 1) (by omega) (by omega) (by omega)
  rw [List.drop_zero] at hgo
  have hlen := ex_length (nameVal n0 vs ps o3 al tr i6 i7 i8 i9 s10 i11 i12 i13 b14 k) s10.data.toList (Lib.itoa a) (Lib.itoa b) 20000 (by omega) (fun x => by
      obtain ⟨v, hv, he⟩ := valOf_eq hV x
      unfold nameVal
      rw [he, size_data]
      exact value_len hS (by omega) hv) (by rw [size_data]; have := hS.cwd; omega) (by have := itoa_len a a1 a2; omega) (by have := itoa_len b b1 b2; omega) _ s.data.toList (Nat.le_refl _)
  rw [size_data] at hlen
  have hm : s.size * 20000 ≤ 10000 * 20000 := Nat.mul_le_mul_right _ hs
  unfold prompt_Expand.f
  rw [if_pos (by omega), hgo, Option.bind_some]
  exact if_pos (by have := hlen; unfold nameVal at this; omega)
end
end Go.Proofs.YtiacdccnifjcjaaDoor.Pure
set_option linter.unusedVariables false
namespace Go.Proofs.YtiacdccnifjcjaaDoor.Pure
open Go.RowKit Go.Proofs.YtiacdccnifjcjaaDoor.F Go.Proofs.YtiacdccnifjcjaaDoorW.PrintWords
theorem awake_ok {k : Nat} (h : 60 ≤ k) : jobshelllaw48_awake.f k = some true :=
  at_rounds (g := fun k => jobshelllaw48_awake.f k) (fun k => jobshelllaw48_awake.mono k) h (by decide +kernel)
end Go.Proofs.YtiacdccnifjcjaaDoor.Pure
set_option linter.unusedVariables false
set_option linter.unusedSimpArgs false
namespace Go.Proofs.YtiacdccnifjcjaaDoor.Pure
open Go.RowKit Go.Proofs.YtiacdccnifjcjaaDoor.F Go.Proofs.YtiacdccnifjcjaaDoorW.PrintWords Go.Proofs.YtiacdccnifjcjaaDoor.Opn
theorem wf_one : (Lit.int .i64 1).wf = true := by decide
theorem ba_add' (a : List UInt8) (s : ByteArray) : ba a ++ s = ba (a ++ s.data.toList) := by
  rw [← ba_append, ba_of]
section
variable (n0 : ByteArray) (vs : List S_Var) (ps : List ByteArray) (o3 : Opq) (al : List S_Alias) (tr : List S_Trap) (i6 i7 i8 i9 : Int) (s10 : ByteArray) (i11 i12 i13 : Int) (b14 : Bool)
theorem quotes_go (hS : Sm n0 vs ps s10) (h7 : (Lit.int .i64 i7).wf = true) (h8 : (Lit.int .i64 i8).wf = true) (h9 : (Lit.int .i64 i9).wf = true) (s : ByteArray) (hs : s.size ≤ 1000) :
    ∀ (d i k : Nat), i + d = s.size → d + 300001 < k → jobshelllaw48_PromptQuotes.l0 k s (ba (quote (s.data.toList.take i))) i n0 vs ps o3 al tr i6 i7 i8 i9 s10 i11 i12 i13 b14 = some true := by
  have hsz := size_data s
  intro d
  induction d with
  | zero =>
    intro i k hi hk
    obtain ⟨m, rfl⟩ : ∃ m, k = m + 1 := ⟨k - 1, by omega⟩
    have hq := quote_length s.data.toList
    rw [jobshelllaw48_PromptQuotes.l0, if_neg (by omega), List.take_of_length_le (by omega)]
    rw [expand_eq n0 vs ps o3 al tr i6 i7 i8 i9 s10 i11 i12 i13 b14 hS h7 h8 h9 (ba (quote s.data.toList)) (by rw [ba_size]; omega) 1 1 wf_one wf_one (k := m) (by omega), Option.bind_some]
    rw [ba_data, ex_quote, List.take_of_length_le (by omega), ba_of, if_pos rfl, awake_ok (by omega)]; rfl
  | succ d ih =>
    intro i k hi hk
    obtain ⟨m, rfl⟩ : ∃ m, k = m + 1 := ⟨k - 1, by omega⟩
    obtain ⟨c, hcd, hb⟩ := bt_drop s i (by omega)
    have e : s.data.toList.take (i + 1) = s.data.toList.take i ++ [c] := by
      have e2 : s.data.toList[i]? = some c := by
        have := congrArg List.head? hcd
        rw [List.head?_drop] at this
        simpa using this
      rw [List.take_add_one, e2]; rfl
    have hx : s.extract i (i + 1) = ba [c] := by
      rw [extract_ba, e, List.drop_append_of_le_length (by simp; omega), List.drop_eq_nil_of_le (by simp; omega)]; rfl
    have hq := quote_length (s.data.toList.take i)
    have hql : (s.data.toList.take i).length ≤ 1000 := by rw [List.length_take]; omega
    have hrec := ih (i + 1) m (by omega) (by omega)
    have h92 : (⟨#[92]⟩ : ByteArray) = ba [92] := rfl
    rw [jobshelllaw48_PromptQuotes.l0, if_pos (by omega), if_pos (by omega), hb, wrap_succ (by omega), Int.toNat_natCast, Int.toNat_natCast, hx, h92, ba_append, ba_append, ba_append, ba_size, ba_size, ba_size]
    have next : ∀ w : List UInt8, quote (s.data.toList.take (i + 1)) = quote (s.data.toList.take i) ++ w → jobshelllaw48_PromptQuotes.l0 m s (ba (quote (s.data.toList.take i) ++ w)) ((i + 1 : Nat) : Int) n0 vs ps o3 al tr i6 i7 i8 i9 s10 i11 i12 i13 b14 = some true := by
      intro w hw; rw [← hw]; exact hrec
    have qa := quote_append (s.data.toList.take i) [c]
    rw [← e] at qa
    by_cases h1 : (c.toNat : Int) = 92
    · have hc : c = 92 := (byte_eq c 92 92 rfl).1 h1
      rw [if_pos h1, if_pos (by omega), if_pos (by omega), if_pos (by omega), if_pos (by simp; omega), List.append_assoc]
      exact next _ (by rw [qa, hc]; rfl)
    rw [if_neg h1]
    by_cases h2 : (c.toNat : Int) = 36
    · have hc : c = 36 := (byte_eq c 36 36 rfl).1 h2
      rw [if_pos h2, if_pos (by omega), if_pos (by omega), if_pos (by omega), if_pos (by simp; omega), List.append_assoc]
      exact next _ (by rw [qa, hc]; rfl)
    rw [if_neg h2, if_pos (by omega), if_pos (by omega), if_pos (by simp; omega)]
    refine next _ ?_
    rw [qa]
    simp only [quote]
    rw [if_neg (by rintro (e | e); exact h1 ((byte_eq c 92 92 rfl).2 e); exact h2 ((byte_eq c 36 36 rfl).2 e))]
end
theorem PromptQuotes (x0 : S_Env) (a1 : ByteArray) (w0 : ok30 x0) (w1 : a1.size ≤ 140737488351232) : ∃ k, jobshelllaw48_PromptQuotes.f k x0.f0 x0.f1 x0.f2 x0.f3 x0.f4 x0.f5 x0.f6 x0.f7 x0.f8 x0.f9 x0.f10 x0.f11.f0 x0.f11.f1 x0.f12 x0.f13 a1 = some true := by
  refine ⟨400001, ?_⟩
  obtain ⟨_, _, _, _, _, _, _, h7, h8, h9, _⟩ := w0
  generalize x0.f11.f0 = i11
  generalize x0.f11.f1 = i12
  have aw : jobshelllaw48_PromptQuotes.j0 400001 a1 true x0.f0 x0.f1 x0.f2 x0.f3 x0.f4 x0.f5 x0.f6 x0.f7 x0.f8 x0.f9 x0.f10 i11 i12 x0.f12 x0.f13 = some true := by
    rw [jobshelllaw48_PromptQuotes.j0, if_pos rfl, awake_ok (by omega)]; rfl
  unfold jobshelllaw48_PromptQuotes.f
  obtain ⟨b, hb, hS⟩ := small_eq x0.f0 x0.f1 x0.f2 x0.f3 x0.f4 x0.f5 x0.f6 x0.f7 x0.f8 x0.f9 x0.f10 i11 i12 x0.f12 x0.f13 (k := 400001) (by omega)
  rw [hb, Option.bind_some]
  cases b with
  | false => rw [if_neg (by decide)]; exact aw
  | true =>
    rw [if_pos rfl]
    by_cases h : (a1.size : Int) > 1000
    · rw [decide_eq_true h]; exact aw
    · rw [decide_eq_false h, jobshelllaw48_PromptQuotes.j0, if_neg (by decide)]
      exact quotes_go x0.f0 x0.f1 x0.f2 x0.f3 x0.f4 x0.f5 x0.f6 x0.f7 x0.f8 x0.f9 x0.f10 i11 i12 x0.f12 x0.f13 (hS rfl) h7 h8 h9 a1 (by omega) a1.size 0 400000 (by omega) (by omega)
end Go.Proofs.YtiacdccnifjcjaaDoor.Pure
namespace Go.Proofs.YtiacdccnifjcjaaDoor.promptQuotes
open Go.ChangeShapes Go.WideShapes Go.ChangeAt Go.RowKit
open Go.ChangeMaps (open_string shut_string)
open Go.Proofs.YtiacdccnifjcjaaDoor.F Go.Proofs.YtiacdccnifjcjaaDoorW.PrintWords Go.Proofs.YtiacdccnifjcjaaDoor.Opn
set_option linter.unusedVariables false
set_option linter.unusedSimpArgs false
theorem own : ownKnob Tryd.prog.godebug = none := by kernel_rfl
theorem laidOut : laidOutB Tryd.prog = true := by kernel_rfl
theorem amb {W : World} (h : laidMetH Tryd.prog Rows.promptQuotesRow.laid W) : AmbC W := by
  rw [MakeChecks.laidMetH_plain _ _ _ (by kernel_rfl)] at h
  have h0 : laidMet Tryd.prog [("math/bits.deBruijn32tab", Rows.laid_math_bits_deBruijn32tab), ("math/bits.deBruijn64tab", Rows.laid_math_bits_deBruijn64tab), ("internal/strconv.uint64pow10", Lib.tabData .u64 Lib.pow10Tab)] W := h
  obtain ⟨_, h1, _⟩ := h0
  obtain ⟨_, _, _, _, _, _, _, _, _, _, h1, _⟩ := h1
  obtain ⟨_, _, _, _, _, _, _, _, _, _, h1, _⟩ := h1
  obtain ⟨g', t', cs, fuel, p, q, hg', ht', hvar, hd, _, _⟩ := h1
  obtain rfl := Option.some.inj ((show Tryd.prog.globalNamed "internal/strconv.uint64pow10" = some 0 by kernel_rfl).symm.trans hg')
  obtain rfl := Option.some.inj ((show (Tryd.prog.globals[0]?).map (·.type) = some 94 by kernel_rfl).symm.trans ht')
  unfold AmbC Lib.TabIs
  rw [hvar, ← Lib.cells_of_tab Tryd.underlying94 Tryd.underlying84 (by kernel_rfl) (by kernel_rfl) hd]
set_option maxRecDepth 100000 in
set_option maxHeartbeats 1000000 in
theorem lifted (os : Os) (started : os.Started) (H : Type) (enc : TypeId × Value → H) :
    ReturnsInHanded {} Tryd.checked os 7 .any (fun w args => (Rows.promptQuotesSpec.pre enc Tryd.prog Tryd.f7 [] false w args ∧ laidMetH Tryd.prog Rows.promptQuotesRow.laid w) ∧ sizedMet enc Tryd.prog Tryd.f7 (OpenSpec.ofChange Rows.promptQuotesSpec) false w args)
      (Rows.promptQuotesSpec.post enc Tryd.prog Tryd.f7 false true false false) := by
  refine returnsInHanded_of_change_and (C := Tryd.checked) (X := fun w _ => laidMetH Tryd.prog Rows.promptQuotesRow.laid w) (fun _ _ _ hh h => h.of_heap hh) own started (by kernel_rfl) Tryd.func7
    (ChangeSpec.witness_shaped (enc := enc) (C := Tryd.checked) (os := os) (X := fun w _ => laidMetH Tryd.prog Rows.promptQuotesRow.laid w) false (World.laidAll Tryd.prog os Rows.promptQuotesRow.laid) #[.agg #[.string ByteArray.empty, .slice none 0 0, .slice none 0 0, .slice none 0 0, .slice none 0 0, .slice none 0 0, .int .i64 0, .int .i64 0, .int .i64 0, .int .i64 0, .string ByteArray.empty, .int .i64 0, .int .i64 0, .int .i64 0, .bool false], .string ByteArray.empty] 8 (World.laidAll_os _ _ _)
      (World.shaped_of_ZipB (by kernel_rfl) (by kernel_rfl)) (by kernel_rfl) (by kernel_rfl) (by kernel_rfl)
      (by rw [MakeChecks.laidMetH_plain _ _ _ (by kernel_rfl)]; exact laidMet_laidAll _ (by kernel_rfl) (by kernel_rfl))) ?_
  intro W base args ds gs before hval0 hW _ hsz0 hL _
  have hsz : (DataW.weightsEach Tryd.prog (Tryd.f7.params.toList ++ Rows.promptQuotesSpec.plain.varTypes Tryd.prog) (ds ++ gs)).all (· ≤ reachBytes) = true := hsz0
  have hval : ∀ (j : Nat) t v, Tryd.f7.params[j]? = some t → args[j]? = some v → Value.okWide Tryd.prog W .any base t v := hval0
  have hW' := hW
  obtain ⟨p, q, hA0, hV, rfl, hfz, hnd⟩ := hW
  have hA : DataW.TrodAll enc Tryd.prog W 0 (fun _ => true) true Tryd.f7.params.toList args.toList ds p := hA0
  rw [Tryd.params7] at hA hval hsz
  obtain ⟨v0, vs0, d0, ds0, p0, q0, hargs, rfl, rfl, h0, r0⟩ := trodAll_cons hA
  obtain ⟨v1, vs1, d1, ds1, p1, q1, rfl, rfl, rfl, h1, r1⟩ := trodAll_cons r0
  obtain ⟨rfl, rfl, rfl⟩ := trodAll_nil r1
  obtain rfl : args = #[v0, v1] := by cases args; simp_all
  obtain ⟨rfl, rfl⟩ := trodVars_none hV
  have k0 := h0
  have lt0 : ∀ x ∈ p0, x.block < W.heap.size := by obtain ⟨m, hm⟩ := k0; exact DataW.trod_lt m _ _ _ hm
  obtain ⟨cs0, x0, rfl, hk0, w0⟩ := arg_struct opens30 (okWide_struct Tryd.underlying30 (hval 0 30 v0 rfl rfl) |>.imp fun _ h => h.1) h0
  obtain ⟨A0_1, c0_1, A0_2, c0_2, A0_4, c0_4, A0_5, c0_5, rfl, hc0_1, hr0_1, hc0_2, hr0_2, hc0_4, hr0_4, hc0_5, hr0_5⟩ := k_Env_open hk0
  obtain ⟨a1, rfl, rfl, rfl, y1⟩ := open_string Tryd.underlying9 (hval 1 9 v1 rfl rfl) h1
  have w1 : a1.size ≤ 140737488351232 := by
    have z := sized_string hsz (j := 1) (t := 9) rfl rfl
    rw [Array.length_toList] at z
    exact z
  clear hA0 hval0 hsz0 hsz
  obtain ⟨k, hk_⟩ := Go.Proofs.YtiacdccnifjcjaaDoor.Pure.PromptQuotes x0 a1 w0 w1
  refine (jobshelllaw48_PromptQuotes.calls k x0.f0 A0_1 c0_1 x0.f1 A0_2 c0_2 x0.f2 x0.f3 A0_4 c0_4 x0.f4 A0_5 c0_5 x0.f5 x0.f6 x0.f7 x0.f8 x0.f9 x0.f10 x0.f11.f0 x0.f11.f1 x0.f12 x0.f13 a1 true W hr0_1 hc0_1 hr0_2 hc0_2 hr0_4 hc0_4 hr0_5 hc0_5 (amb hL) hk_).mono fun e W' ⟨he, bel0⟩ => ?_
  have bel : Below W.heap.size W W' := bel0
  subst he
  exact ⟨_, rfl, _, _, _, [], _, [], hW', trodAll_mk1 (shut_bool Tryd.underlying4 _), (trodAll_cons_mk (Below.trod laidOut (by kernel_rfl) (of_decide_eq_true (by kernel_rfl)) k0 bel lt0) (trodAll_cons_mk (shut_string Tryd.underlying9 y1) trodAll_mk0)), rfl, bel.frame _, fun h => by cases h⟩
theorem over : Rows.promptQuotesRow.holds Tryd.pinned (OpenSpec.ofChange Rows.promptQuotesSpec) :=
  OpenClaim.holds_of_wide 7 Tryd.f7 rfl rfl rfl rfl rfl rfl rfl ⟨rfl, rfl, rfl, rfl, rfl⟩ rfl rfl rfl rfl rfl (by kernel_rfl) Tryd.func7 (by kernel_rfl)
    (of_decide_eq_true (by kernel_rfl)) (by unfold Func.isWrapper; first | (rw [if_pos (by decide +kernel)]; kernel_rfl) | (rw [if_neg (by decide +kernel)]; exact ⟨rfl, rfl⟩))
    (fun os started H enc _ => lifted os started H enc)
theorem card : Rows.PromptQuotesCardSaid :=
  Claim7.holds_tied_plain_at .later [] [.data, .data, .data] true (true, "6b48662e5dc6b3e4aa893dec777ea98e2cd43473e035dc243ad2d60cd5144f59") false over (fun _ h => by cases h) (by kernel_rfl) (fun _ h => by cases h) promptQuotes_row_tie rfl ⟨rfl, rfl⟩ (by kernel_rfl) rfl
    (fun f fn hf hfn => by
      obtain rfl : f = 7 := Option.some.inj ((show Tryd.prog.funcNamed "jobshell/jobshelllaw48.PromptQuotes" = some 7 by kernel_rfl).symm.trans hf) |>.symm
      obtain rfl : fn = Tryd.f7 := (Option.some.inj (Tryd.func7.symm.trans hfn)).symm
      exact ⟨by kernel_rfl, fun j t ht => by
        rw [Tryd.params7] at ht
        have hm : t ∈ [30, 9] := by simpa using Array.mem_of_getElem? ht
        have hall : ([30, 9].all fun u => !Tryd.prog.wantsStandIn u) = true := by kernel_rfl
        exact (show Tryd.prog.wantsStandIn t = false by simpa using List.all_eq_true.1 hall t hm)⟩)
    (by kernel_rfl)
#print axioms card
end Go.Proofs.YtiacdccnifjcjaaDoor.promptQuotes
namespace Go.Proofs.YtiacdccnifjcjaaDoor
theorem promptQuotes_holds : Rows.PromptQuotesCardSaid := promptQuotes.card
end Go.Proofs.YtiacdccnifjcjaaDoor
