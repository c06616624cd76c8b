/- The law PromptFirsts: for every input the call returns true and leaves its arguments as they were; the variables that the row lists are tied to the program's text (a tied card). No condition beyond the row's own. -/
import Derived.Lib.ItoaLen
import Derived.Test.YtiacdccnifjcjaaDoorCards
import Derived.Test.YtiacdccnifjcjaaDoorTie
import Derived.WalkKit
import Derived.ProofKit
import Derived.OpenShut
import Derived.ShutString
import Derived.ChangeOld
import Derived.Below
import Derived.SizedLaws
import Derived.LaidMore
import Derived.Lay
import Derived.SevenTiedAt
import Derived.Stop.Joined
import Derived.Carry
import Derived.Test.YtiacdccnifjcjaaDoorMVf2
import Derived.Test.YtiacdccnifjcjaaDoorB2
import Derived.Test.YtiacdccnifjcjaaDoorMVf0
set_option linter.unusedVariables false
set_option linter.unusedSimpArgs false
namespace Go.Proofs.YtiacdccnifjcjaaDoor.Pure
open Go.RowKit Go.Proofs.YtiacdccnifjcjaaDoor.F Go.Proofs.YtiacdccnifjcjaaDoorW.PrintWords
theorem wf_i64' {a : Int} (h : (Lit.int .i64 a).wf = true) : -9223372036854775808 ≤ a ∧ a ≤ 9223372036854775807 := by
  simp only [Lit.wf, Bool.and_eq_true, decide_eq_true_eq] at h
  exact ⟨h.1, h.2⟩
theorem nd_le : ∀ (f u : Nat), u < 10 ^ f → 1 ≤ f → Lib.nDigits u ≤ f := by
  intro f
  induction f with
  | zero => intro u _ h; omega
  | succ f ihf =>
    intro u hu _
    by_cases h10 : u < 10
    · rw [Lib.nDigits_small h10]; omega
    · rw [Lib.nDigits_big h10]
      have hf0 : 1 ≤ f := by
        cases f with
        | zero => simp at hu; omega
        | succ f => omega
      have := ihf (u / 10) (by rw [Nat.pow_succ] at hu; omega) hf0
      omega
theorem itoa_len (n : Int) (h0 : -9223372036854775808 ≤ n) (h1 : n ≤ 9223372036854775807) : (Lib.itoa n).length ≤ 21 := by
  unfold Lib.itoa
  split
  · rw [List.length_cons, Lib.decDigits_length]
    have := nd_le 20 n.natAbs (by omega) (by omega); omega
  · rw [Lib.decDigits_length]
    have := nd_le 20 n.toNat (by omega) (by omega); omega
theorem itoa_some {n : Int} {t : ByteArray} (h : strconv_Itoa.f n = some t) : t.size ≤ 21 := by
  unfold strconv_Itoa.f at h
  split at h
  · rename_i hc
    obtain rfl := Option.some.inj h
    exact itoa_len n hc.1 hc.2
  · cases h
theorem getGo_mem (nm : ByteArray) : ∀ vs : List S_Var, (∀ v ∈ vs, v.f1.size ≤ 500) → (getGo nm vs).2.1.size ≤ 500 := by
  intro vs
  induction vs with
  | nil => intro _; exact Nat.zero_le _
  | cons v r ih =>
    intro h
    by_cases hn : v.f0.toList = nm.toList
    · rw [getGo, if_pos hn]; exact h v List.mem_cons_self
    · rw [getGo, if_neg hn]; exact ih (fun x hx => h x (List.mem_cons_of_mem _ hx))
theorem value_len {n0 : ByteArray} {vs : List S_Var} {ps : List ByteArray} {o3 : Opq} {al : List S_Alias} {tr : List S_Trap} {i6 i7 i8 i9 : Int} {s10 : ByteArray} {i11 i12 i13 : Int} {b14 : Bool} {nm : ByteArray} {k : Nat} {r : ByteArray × Bool} {cwd : ByteArray}
    (hS : Sm n0 vs ps cwd) (hk : 1000 ≤ k) (h : param_Value.f k n0 vs ps o3 al tr i6 i7 i8 i9 s10 i11 i12 i13 b14 nm = some r) : r.1.size ≤ 20000 := by
  have hv := hS.few.vars
  have nil0 : (⟨#[]⟩ : ByteArray).size ≤ 20000 := by decide
  have itoa : ∀ n, ((strconv_Itoa.f n).bind fun t => some (t, true)) = some r → r.1.size ≤ 20000 := by
    intro n e
    obtain ⟨t, e1, e2⟩ := Option.bind_eq_some_iff.1 e
    obtain rfl := Option.some.inj e2
    have := itoa_some e1
    show t.size ≤ 20000; omega
  have join : ∀ sep : ByteArray, sep.size ≤ 1 → ((strings_Join.f ps sep).bind fun t => some (t, decide ((ps.length : Int) > 0))) = some r → r.1.size ≤ 20000 := by
    intro sep hs e
    obtain ⟨t, e1, e2⟩ := Option.bind_eq_some_iff.1 e
    obtain rfl := Option.some.inj e2
    have hl := join_len sep ps hS.few.params hS.few.sizes hs
    unfold strings_Join.f at e1
    rw [if_pos (by omega)] at e1
    obtain rfl := Option.some.inj e1
    exact hl
  unfold param_Value.f at h
  by_cases c0 : nm.toList = ([48] : List UInt8)
  · rw [if_pos c0] at h; obtain rfl := Option.some.inj h; have := hS.name; show n0.size ≤ 20000; omega
  rw [if_neg c0] at h
  by_cases c1 : nm.toList = ([35] : List UInt8)
  · rw [if_pos c1] at h; exact itoa _ h
  rw [if_neg c1] at h
  by_cases c2 : nm.toList = ([63] : List UInt8)
  · rw [if_pos c2] at h; exact itoa _ h
  rw [if_neg c2] at h
  by_cases c3 : nm.toList = ([45] : List UInt8)
  · rw [if_pos c3] at h
    obtain ⟨t, e1, e2⟩ := Option.bind_eq_some_iff.1 h
    obtain rfl := Option.some.inj e2
    unfold param_flags.f at e1
    obtain rfl := Option.some.inj e1
    have fl : ∀ l : List (Int × UInt8), (flagsOf i6 l).length ≤ l.length := by
      intro l
      induction l with
      | nil => exact Nat.le_refl _
      | cons x q ih => simp only [flagsOf]; split <;> simp <;> omega
    have := fl flagTab
    show (flagsOf i6 flagTab).length ≤ 20000
    have h8 : flagTab.length = 8 := rfl
    omega
  rw [if_neg c3] at h
  by_cases c4 : nm.toList = ([36] : List UInt8)
  · rw [if_pos c4] at h; exact itoa _ h
  rw [if_neg c4] at h
  by_cases c5 : nm.toList = ([33] : List UInt8)
  · rw [if_pos c5] at h
    by_cases h0 : i9 = 0
    · rw [if_pos h0] at h; obtain rfl := Option.some.inj h; exact nil0
    · rw [if_neg h0] at h; exact itoa _ h
  rw [if_neg c5] at h
  by_cases c6 : nm.toList = ([64] : List UInt8)
  · rw [if_pos c6] at h; exact join _ (by decide) h
  rw [if_neg c6] at h
  by_cases c7 : nm.toList = ([42] : List UInt8)
  · rw [if_pos c7] at h
    obtain ⟨t, e1, e2⟩ := Option.bind_eq_some_iff.1 h
    obtain ⟨s, s1, _, s3⟩ := sep_eq vs hv hk
    rw [s1] at e1
    obtain rfl := Option.some.inj e1
    exact join _ s3 e2
  rw [if_neg c7] at h
  obtain ⟨n, b, e, e1, e2⟩ := position_eq nm
  rw [e, Option.bind_some] at h
  cases b with
  | true =>
    obtain ⟨g0, g1, _⟩ := e1 rfl
    rw [if_pos rfl] at h
    split at h
    · obtain rfl := Option.some.inj h; exact nil0
    split at h
    · split at h
      · rename_i q1 q2 q3
        obtain rfl := Option.some.inj h
        have hd : ∃ x ∈ ps, rdOf ByteArray.empty ps (wrap64 (n - 1)) = x := by
          refine ⟨_, ?_, rfl⟩
          unfold rdOf
          have hlt : (wrap64 (n - 1)).toNat < ps.length := by
            simp only at q2 q3; omega
          rw [List.getD_eq_getElem?_getD, List.getElem?_eq_getElem hlt]
          exact List.getElem_mem hlt
        obtain ⟨x, hx, ex⟩ := hd
        show (rdOf ByteArray.empty ps (wrap64 (n - 1))).size ≤ 20000
        rw [ex]
        have := hS.few.sizes x hx; omega
      · cases h
    · cases h
  | false =>
    simp only [Bool.false_eq_true, if_false] at h
    rw [vars_get nm vs (by omega) (by omega), Option.bind_some] at h
    have hg := getGo_mem nm vs hS.values
    split at h
    · split at h
      · obtain ⟨t, ht⟩ := name_tot nm
        rw [ht, Option.bind_some] at h
        split at h
        · obtain rfl := Option.some.inj h; show (getGo nm vs).2.1.size ≤ 20000; omega
        · obtain rfl := Option.some.inj h; exact nil0
      · obtain rfl := Option.some.inj h; exact nil0
    · obtain rfl := Option.some.inj h; exact nil0
section
variable (n0 : ByteArray) (vs : List S_Var) (ps : List ByteArray) (o3 : Opq) (al : List S_Alias) (tr : List S_Trap) (i6 i7 i8 i9 : Int) (s10 : ByteArray) (i11 i12 i13 : Int) (b14 : Bool)
def nameVal (k : Nat) : List UInt8 → List UInt8 := valOf (fun nm => param_Value.f k n0 vs ps o3 al tr i6 i7 i8 i9 s10 i11 i12 i13 b14 nm)
theorem expand_eq (hS : Sm n0 vs ps s10) (h7 : (Lit.int .i64 i7).wf = true) (h8 : (Lit.int .i64 i8).wf = true) (h9 : (Lit.int .i64 i9).wf = true) (s : ByteArray) (hs : s.size ≤ 10000) (a b : Int) (ha : (Lit.int .i64 a).wf = true) (hb : (Lit.int .i64 b).wf = true) {k : Nat} (hk : 300000 ≤ k) :
    prompt_Expand.f k n0 vs ps o3 al tr i6 i7 i8 i9 s10 i11 i12 i13 b14 s a b = some (ba ((ex (nameVal n0 vs ps o3 al tr i6 i7 i8 i9 s10 i11 i12 i13 b14 k) s10.data.toList (Lib.itoa a) (Lib.itoa b) s.data.toList).take 4096)) := by
  obtain ⟨a1, a2⟩ := wf_i64' ha
  obtain ⟨b1, b2⟩ := wf_i64' hb
  have hV : ∀ x, ∃ v, (fun nm => param_Value.f k n0 vs ps o3 al tr i6 i7 i8 i9 s10 i11 i12 i13 b14 nm) x = some v := by
    intro x
    obtain ⟨r, h1, _⟩ := value_eq n0 vs ps o3 al tr i6 i7 i8 i9 s10 i11 i12 i13 b14 x hS.few h7 h8 h9 (k := k) (by omega)
    exact ⟨r, h1⟩
  have hP : ∀ x : ByteArray, x.size ≤ 10000 → (fun x => prompt_parameter.f k x) x = some (ba (parL x.data.toList).1, ((parL x.data.toList).2 : Int)) := fun x hx => par_prog x hx (by omega)
  have hgo := exGo_ex (V := fun nm => param_Value.f k n0 vs ps o3 al tr i6 i7 i8 i9 s10 i11 i12 i13 b14 nm) (Pm := fun x => prompt_parameter.f k x) (cwd := s10) (s := s) hV hP (itoa_eq a a1 a2) (itoa_eq b b1 b2) hs s.size 0 (s.size + 1) (by omega) (by omega) (by omega)
  rw [List.drop_zero] at hgo
  have hlen := ex_length (nameVal n0 vs ps o3 al tr i6 i7 i8 i9 s10 i11 i12 i13 b14 k) s10.data.toList (Lib.itoa a) (Lib.itoa b) 20000 (by omega) (fun x => by
      obtain ⟨v, hv, he⟩ := valOf_eq hV x
      unfold nameVal
      rw [he, size_data]
      exact value_len hS (by omega) hv) (by rw [size_data]; have := hS.cwd; omega) (by have := itoa_len a a1 a2; omega) (by have := itoa_len b b1 b2; omega) _ s.data.toList (Nat.le_refl _)
  rw [size_data] at hlen
  have hm : s.size * 20000 ≤ 10000 * 20000 := Nat.mul_le_mul_right _ hs
  unfold prompt_Expand.f
  rw [if_pos (by omega), hgo, Option.bind_some]
  exact if_pos (by have := hlen; unfold nameVal at this; omega)
end
end Go.Proofs.YtiacdccnifjcjaaDoor.Pure
set_option linter.unusedVariables false
namespace Go.Proofs.YtiacdccnifjcjaaDoor.Pure
open Go.RowKit Go.Proofs.YtiacdccnifjcjaaDoor.F Go.Proofs.YtiacdccnifjcjaaDoorW.PrintWords
theorem awake_ok {k : Nat} (h : 60 ≤ k) : jobshelllaw48_awake.f k = some true :=
  at_rounds (g := fun k => jobshelllaw48_awake.f k) (fun k => jobshelllaw48_awake.mono k) h (by decide +kernel)
end Go.Proofs.YtiacdccnifjcjaaDoor.Pure
set_option linter.unusedVariables false
set_option linter.unusedSimpArgs false
namespace Go.Proofs.YtiacdccnifjcjaaDoor.Pure
open Go.RowKit Go.Proofs.YtiacdccnifjcjaaDoor.F Go.Proofs.YtiacdccnifjcjaaDoorW.PrintWords
def par3 (L : List UInt8) : List UInt8 × Nat := if brace L = [] then ([], 0) else if (L.drop (brace L).length).head? = some 125 then (brace L, (brace L).length + 2) else ([], 0)
theorem parL_brace (r : List UInt8) : parL (123 :: r) = par3 r := by
  have h : ¬ (isDig ((123 : UInt8).toNat : Int) = true ∨ spc ((123 : UInt8).toNat : Int) = true) := by decide +kernel
  rw [parL, if_neg h, if_pos rfl]; rfl
theorem parL_one (c : UInt8) (r : List UInt8) (h : isDig (c.toNat : Int) = true ∨ spc (c.toNat : Int) = true) : parL (c :: r) = ([c], 1) := by rw [parL, if_pos h]
theorem parL_name (c : UInt8) (r : List UInt8) (h : ¬ (isDig (c.toNat : Int) = true ∨ spc (c.toNat : Int) = true)) (h2 : ¬ c = 123) : parL (c :: r) = ((c :: r).take (twl (c :: r)), twl (c :: r)) := by rw [parL, if_neg h, if_neg h2]
theorem spc_name (d : UInt8) (h : spc (d.toNat : Int) = true) : ¬ nameCh false (d.toNat : Int) = true := by
  have hall : ∀ n : Fin 256, spc ((UInt8.ofNat n.val).toNat : Int) = true → ¬ nameCh false ((UInt8.ofNat n.val).toNat : Int) = true := by decide +kernel
  have := hall ⟨d.toNat, d.toNat_lt⟩
  rw [UInt8.ofNat_toNat] at this
  exact this h
theorem brace_spc (d : UInt8) (r : List UInt8) (h : spc (d.toNat : Int) = true) : brace (d :: r) = (d :: r).take 1 := by
  have ht : twl (d :: r) = 0 := by simp only [twl]; rw [if_neg (spc_name d h)]
  unfold brace
  rw [if_pos ht]
  simp only [if_pos h]; rfl
theorem brace_twl (d : UInt8) (r : List UInt8) (h : ¬ spc (d.toNat : Int) = true) : brace (d :: r) = (d :: r).take (twl (d :: r)) := by
  unfold brace
  by_cases hz : twl (d :: r) = 0
  · rw [if_pos hz, hz]
    simp only [if_neg h]; rfl
  · rw [if_neg hz]
theorem seg48 (s : ByteArray) (p n : Nat) : s.extract p (p + n) = ba ((s.data.toList.drop p).take n) := by rw [extract_ba, ← List.take_drop]
theorem at48 (s : ByteArray) (p n : Nat) (h : p + n < s.size) : bt s ((p + n : Nat) : Int) = 125 ↔ ((s.data.toList.drop p).drop n).head? = some 125 := by
  obtain ⟨x, hx, hxb⟩ := bt_drop s (p + n) h
  rw [hxb, List.drop_drop, hx, List.head?_cons]
  constructor
  · intro e; rw [(byte_eq x 125 125 rfl).1 e]
  · intro e; exact (byte_eq x 125 125 rfl).2 (Option.some.inj e)
def tail48 (s : ByteArray) (p : Nat) (e : Int) : Option (ByteArray × Int) :=
  if e = ((p + 2 : Nat) : Int) then (some ((⟨#[]⟩ : ByteArray), (p : Int))) else (if e ≥ (s.size : Int) then (some ((⟨#[]⟩ : ByteArray), (p : Int))) else (if 0 ≤ e then (if e < (s.size : Int) then (if (bt s e) = 125 then (if ((p + 2 : Nat) : Int) ≤ e then (if e ≤ (s.size : Int) then (some (s.extract (((p + 2 : Nat) : Int) : Int).toNat (e : Int).toNat, wrap64 (e + 1))) else (none)) else (none)) else (some ((⟨#[]⟩ : ByteArray), (p : Int)))) else (none)) else (none)))
theorem par_fin (s : ByteArray) (hs : s.size ≤ 10000) (p n : Nat) (hp : p + 2 < s.size) (hn : n ≤ s.size - (p + 2)) (hbr : brace (s.data.toList.drop (p + 2)) = (s.data.toList.drop (p + 2)).take n) :
    ∃ q, tail48 s p ((p + 2 + n : Nat) : Int) = some q ∧ (0 < (par3 (s.data.toList.drop (p + 2))).2 → q = (ba (par3 (s.data.toList.drop (p + 2))).1, ((p + 1 + (par3 (s.data.toList.drop (p + 2))).2 : Nat) : Int))) ∧ ((par3 (s.data.toList.drop (p + 2))).2 = 0 → q.2 = (p : Int)) := by
  have hsz := size_data s
  have hat := at48 s (p + 2) n
  have hsg := seg48 s (p + 2) n
  have hll : (s.data.toList.drop (p + 2)).length = s.size - (p + 2) := by rw [List.length_drop, hsz]
  generalize s.data.toList.drop (p + 2) = L at *
  have hbl : (brace L).length = n := by rw [hbr, List.length_take]; omega
  unfold tail48 par3
  by_cases hn0 : n = 0
  · have hb0 : brace L = [] := List.length_eq_zero_iff.1 (by omega)
    rw [if_pos (by omega), if_pos hb0]
    exact ⟨_, rfl, fun h => absurd h (Nat.lt_irrefl 0), fun _ => rfl⟩
  · have hb0 : ¬ brace L = [] := fun e => hn0 (by rw [e] at hbl; exact hbl.symm)
    rw [if_neg (by omega), if_neg hb0, hbl]
    by_cases hlt : p + 2 + n < s.size
    · rw [if_neg (by omega), if_pos (by omega), if_pos (by omega)]
      by_cases h125 : bt s ((p + 2 + n : Nat) : Int) = 125
      · rw [if_pos h125, if_pos ((hat hlt).1 h125), if_pos (by omega), if_pos (by omega), Int.toNat_natCast, Int.toNat_natCast, hsg, wrap_succ (by omega), ← hbr]
        refine ⟨_, rfl, fun _ => ?_, fun h => absurd h (by simp)⟩
        rw [show p + 1 + (n + 2) = p + 2 + n + 1 by omega]
      · rw [if_neg h125, if_neg (fun e => h125 ((hat hlt).2 e))]
        exact ⟨_, rfl, fun h => absurd h (Nat.lt_irrefl 0), fun _ => rfl⟩
    · have hhead : ¬ (L.drop n).head? = some 125 := by
        intro e; have := head_lt e; omega
      rw [if_pos (by omega), if_neg hhead]
      exact ⟨_, rfl, fun h => absurd h (Nat.lt_irrefl 0), fun _ => rfl⟩
theorem name48' (s : ByteArray) (hs : s.size ≤ 10000) (i : Nat) (hi : i ≤ s.size) {k : Nat} (hk : 20000 ≤ k) : jobshellref48_name.f k s (i : Int) = some ((i + twl (s.data.toList.drop i) : Nat) : Int) :=
  name48 s (by omega) (s.size - i) i k (by omega) (by omega)
theorem par_j1 (s : ByteArray) (hs : s.size ≤ 10000) (p : Nat) (hp : p + 2 < s.size) {m : Nat} (hm : 20000 ≤ m) : ∃ q, jobshellref48_parameter.j1 (m + 1) s p false = some q ∧ (0 < (par3 (s.data.toList.drop (p + 2))).2 → q = (ba (par3 (s.data.toList.drop (p + 2))).1, ((p + 1 + (par3 (s.data.toList.drop (p + 2))).2 : Nat) : Int))) ∧ ((par3 (s.data.toList.drop (p + 2))).2 = 0 → q.2 = (p : Int)) := by
  obtain ⟨d, hd, hbd⟩ := bt_drop s (p + 2) hp
  have hsz := size_data s
  have htl := twl_le (s.data.toList.drop (p + 2))
  rw [List.length_drop] at htl
  have w2 : wrap64 ((p : Int) + 2) = ((p + 2 : Nat) : Int) := by rw [wrap_id (by omega) (by omega)]; omega
  have w3 : wrap64 ((p : Int) + 3) = ((p + 2 + 1 : Nat) : Int) := by rw [wrap_id (by omega) (by omega)]; omega
  rw [jobshellref48_parameter.j1, if_neg (by decide), w2, w3, name48' s hs (p + 2) (by omega) (by omega), Option.bind_some, if_pos (by omega), if_pos (by omega), hbd, rspec, Option.bind_some]
  by_cases hsd : spc (d.toNat : Int) = true
  · have f := par_fin s hs p 1 hp (by omega) (by rw [hd]; exact brace_spc d _ hsd)
    rw [if_pos hsd]
    unfold tail48 at f
    exact f
  · have f := par_fin s hs p (twl (s.data.toList.drop (p + 2))) hp (by omega) (by rw [hd]; exact brace_twl d _ hsd)
    rw [if_neg hsd]
    unfold tail48 at f
    exact f
theorem par_ref (s : ByteArray) (hs : s.size ≤ 10000) (p : Nat) (hp : p < s.size) {k : Nat} (hk : 30000 ≤ k) :
    ∃ q, jobshellref48_parameter.f k s p = some q ∧ (0 < (parL (s.data.toList.drop (p + 1))).2 → q = (ba (parL (s.data.toList.drop (p + 1))).1, ((p + 1 + (parL (s.data.toList.drop (p + 1))).2 : Nat) : Int))) ∧ ((parL (s.data.toList.drop (p + 1))).2 = 0 → q.2 = (p : Int)) := by
  obtain ⟨m, rfl⟩ : ∃ m, k = m + 2 := ⟨k - 2, by omega⟩
  have hsz := size_data s
  have w1 : wrap64 ((p : Int) + 1) = ((p + 1 : Nat) : Int) := wrap_succ (by omega)
  have w2 : wrap64 ((p : Int) + 2) = ((p + 1 + 1 : Nat) : Int) := by rw [wrap_id (by omega) (by omega)]; omega
  unfold jobshellref48_parameter.f
  rw [w1]
  by_cases h1 : p + 1 < s.size
  · obtain ⟨c, hc, hb⟩ := bt_drop s (p + 1) h1
    have hc' : s.data.toList.drop (p + 1) = c :: s.data.toList.drop (p + 2) := hc
    rw [if_neg (by omega), if_pos (by omega), if_pos (by omega), hb, digit48, rspec, Option.bind_some]
    have hj : (if isDig (c.toNat : Int) = true then (jobshellref48_parameter.j0 (m + 2) s p (c.toNat : Int) true) else ((some (spc (c.toNat : Int))).bind fun t237 => (jobshellref48_parameter.j0 (m + 2) s p (c.toNat : Int) t237))) = jobshellref48_parameter.j0 (m + 2) s p (c.toNat : Int) (isDig (c.toNat : Int) || spc (c.toNat : Int)) := by
      cases hd : isDig (c.toNat : Int) with
      | true => rw [if_pos rfl, Bool.true_or]
      | false => rw [if_neg (by decide), Bool.false_or, Option.bind_some]
    rw [hj, jobshellref48_parameter.j0, w1, w2, letter48, Option.bind_some, hc']
    by_cases g1 : isDig (c.toNat : Int) = true ∨ spc (c.toNat : Int) = true
    · have g1' : (isDig (c.toNat : Int) || spc (c.toNat : Int)) = true := by rcases g1 with h | h <;> rw [h] <;> simp
      have e1 := seg48 s (p + 1) 1
      rw [hc'] at e1
      rw [g1', if_pos rfl, if_pos (by omega), if_pos (by omega), if_pos (by omega), parL_one c _ g1, Int.toNat_natCast, Int.toNat_natCast, e1]
      exact ⟨_, rfl, fun _ => rfl, fun h => absurd h (by simp)⟩
    have g1' : (isDig (c.toNat : Int) || spc (c.toNat : Int)) = false := by
      cases hd : isDig (c.toNat : Int) <;> cases hs' : spc (c.toNat : Int) <;> simp [hd, hs'] at g1 ⊢
    rw [g1', if_neg (by decide)]
    have hname := name48' s hs (p + 1) (by omega) (k := m + 1) (by omega)
    rw [hc'] at hname
    have htl := twl_le (c :: s.data.toList.drop (p + 2))
    rw [List.length_cons, List.length_drop] at htl
    by_cases g2 : nameCh false (c.toNat : Int) = true
    · have hne : c ≠ 123 := by rintro rfl; exact absurd g2 (by decide +kernel)
      have e2 := seg48 s (p + 1) (twl (c :: s.data.toList.drop (p + 2)))
      rw [hc'] at e2
      rw [if_pos g2, hname, Option.bind_some, if_pos (by omega), if_pos (by omega), if_pos (by omega), Int.toNat_natCast, Int.toNat_natCast, e2, parL_name c _ g1 hne]
      refine ⟨_, rfl, fun _ => rfl, fun h => ?_⟩
      simp only [twl, if_pos g2] at h
      omega
    rw [if_neg g2]
    have ht0 : twl (c :: s.data.toList.drop (p + 2)) = 0 := by simp only [twl, if_neg g2]
    by_cases g3 : (c.toNat : Int) = 123
    · have hc3 := (byte_eq c 123 123 rfl).1 g3
      rw [if_pos g3, hc3, parL_brace]
      by_cases g4 : p + 2 < s.size
      · rw [decide_eq_false (by omega)]
        exact par_j1 s hs p g4 (by omega)
      · have hnil : s.data.toList.drop (p + 2) = [] := List.drop_eq_nil_of_le (by omega)
        rw [decide_eq_true (by omega), jobshellref48_parameter.j1, if_pos rfl, hnil]
        have h3 : par3 [] = ([], 0) := by decide +kernel
        rw [h3]
        exact ⟨_, rfl, fun h => absurd h (Nat.lt_irrefl 0), fun _ => rfl⟩
    · have hc3 : ¬ c = 123 := fun e => g3 ((byte_eq c 123 123 rfl).2 e)
      rw [if_neg g3, parL_name c _ g1 hc3, jobshellref48_parameter.j1, if_pos rfl, ht0]
      exact ⟨_, rfl, fun h => absurd h (Nat.lt_irrefl 0), fun _ => rfl⟩
  · have hnil : s.data.toList.drop (p + 1) = [] := List.drop_eq_nil_of_le (by omega)
    have h0 : parL [] = ([], 0) := rfl
    rw [if_pos (by omega), hnil, h0]
    exact ⟨_, rfl, fun h => absurd h (Nat.lt_irrefl 0), fun _ => rfl⟩
end Go.Proofs.YtiacdccnifjcjaaDoor.Pure
set_option linter.unusedVariables false
set_option linter.unusedSimpArgs false
namespace Go.Proofs.YtiacdccnifjcjaaDoor.Pure
open Go.RowKit Go.Proofs.YtiacdccnifjcjaaDoor.F Go.Proofs.YtiacdccnifjcjaaDoorW.PrintWords
section
variable {n0 : ByteArray} {vs : List S_Var} {ps : List ByteArray} {o3 : Opq} {al : List S_Alias} {tr : List S_Trap} {i6 i7 i8 i9 : Int} {s10 : ByteArray} {i11 i12 i13 : Int} {b14 : Bool}
theorem val_ref (hS : Sm n0 vs ps s10) (h7 : (Lit.int .i64 i7).wf = true) (h8 : (Lit.int .i64 i8).wf = true) (h9 : (Lit.int .i64 i9).wf = true) {k K : Nat} (hk : 2000 ≤ k) (hK : k ≤ K) (nm : List UInt8) :
    jobshellref48_value.f k n0 vs ps o3 al tr i6 i7 i8 i9 s10 i11 i12 i13 b14 (ba nm) = some (ba (nameVal n0 vs ps o3 al tr i6 i7 i8 i9 s10 i11 i12 i13 b14 K nm)) ∧ (nameVal n0 vs ps o3 al tr i6 i7 i8 i9 s10 i11 i12 i13 b14 K nm).length ≤ 20000 := by
  obtain ⟨r, h1, h2⟩ := value_eq n0 vs ps o3 al tr i6 i7 i8 i9 s10 i11 i12 i13 b14 (ba nm) hS.few h7 h8 h9 hk
  have h3 : param_Value.f K n0 vs ps o3 al tr i6 i7 i8 i9 s10 i11 i12 i13 b14 (ba nm) = some r := at_rounds (g := fun k => param_Value.f k n0 vs ps o3 al tr i6 i7 i8 i9 s10 i11 i12 i13 b14 (ba nm)) (fun k => param_Value.mono _ _ _ _ _ _ _ _ _ _ _ _ _ _ _ _ k) hK h1
  have h4 : nameVal n0 vs ps o3 al tr i6 i7 i8 i9 s10 i11 i12 i13 b14 K nm = r.1.data.toList := by
    unfold nameVal valOf
    simp only [h3]
  unfold jobshellref48_value.f
  rw [h2, Option.bind_some, h4, ba_of, size_data]
  exact ⟨rfl, value_len hS (by omega) h3⟩
variable {s : ByteArray} {a b : Int} {K : Nat}
def rest48 (val : List UInt8 → List UInt8) (cwd js ns : List UInt8) (s : ByteArray) (acc : List UInt8) (i : Nat) : ByteArray := ba ((acc ++ ex val cwd js ns (s.data.toList.drop i)).take 4096)
theorem ref_lit {val : List UInt8 → List UInt8} {cwd js ns : List UInt8} (hs : s.size ≤ 10000) {m i : Nat} (hi : i < s.size) {acc : List UInt8} (ha : acc.length ≤ 4096)
    (hst : stepL val cwd js ns (s.data.toList.drop i) = none)
    (IH : ∀ (n : Nat) (acc : List UInt8), 1 ≤ n → acc.length ≤ 30000 → i + n ≤ s.size → jobshellref48_Expand.l0 m s a b (ba acc) ((i + n : Nat) : Int) n0 vs ps o3 al tr i6 i7 i8 i9 s10 i11 i12 i13 b14 = some (rest48 val cwd js ns s acc (i + n))) :
    (if (i : Int) ≤ (wrap64 ((i : Int) + 1)) then (if (wrap64 ((i : Int) + 1)) ≤ (s.size : Int) then (if (ba acc).size + (s.extract ((i : Int) : Int).toNat ((wrap64 ((i : Int) + 1)) : Int).toNat).size ≤ 9223372036854775807 then (jobshellref48_Expand.l0 m s a b ((ba acc) ++ (s.extract ((i : Int) : Int).toNat ((wrap64 ((i : Int) + 1)) : Int).toNat)) (wrap64 ((i : Int) + 1)) n0 vs ps o3 al tr i6 i7 i8 i9 s10 i11 i12 i13 b14) else (none)) else (none)) else (none)) = some (rest48 val cwd js ns s acc i) := by
  obtain ⟨c, hc, hb⟩ := bt_drop s i hi
  have e : s.extract i (i + 1) = ba [c] := by
    have := seg48 s i 1
    rw [hc] at this; exact this
  rw [wrap_succ (by omega), if_pos (by omega), if_pos (by omega), Int.toNat_natCast, Int.toNat_natCast, e, ba_size, ba_size, if_pos (by simp only [List.length_cons, List.length_nil]; omega), ba_append, IH 1 _ (by omega) (by rw [List.length_append, List.length_singleton]; omega) (by omega)]
  rw [hc] at hst
  unfold rest48
  rw [hc, ex_none _ _ _ _ _ _ hst, List.append_assoc]; rfl
theorem ref_j3 {cwd js ns : List UInt8} (hS : Sm n0 vs ps s10) (h7 : (Lit.int .i64 i7).wf = true) (h8 : (Lit.int .i64 i8).wf = true) (h9 : (Lit.int .i64 i9).wf = true) (hs : s.size ≤ 10000) {m i : Nat} (hm : 30000 ≤ m) (hK : m ≤ K) (hi : i < s.size) {acc : List UInt8} (ha : acc.length ≤ 4096)
    (hst : bt s i ≠ 36 → stepL (nameVal n0 vs ps o3 al tr i6 i7 i8 i9 s10 i11 i12 i13 b14 K) cwd js ns (s.data.toList.drop i) = none)
    (IH : ∀ (n : Nat) (acc : List UInt8), 1 ≤ n → acc.length ≤ 30000 → i + n ≤ s.size → jobshellref48_Expand.l0 m s a b (ba acc) ((i + n : Nat) : Int) n0 vs ps o3 al tr i6 i7 i8 i9 s10 i11 i12 i13 b14 = some (rest48 (nameVal n0 vs ps o3 al tr i6 i7 i8 i9 s10 i11 i12 i13 b14 K) cwd js ns s acc (i + n))) :
    jobshellref48_Expand.j3 (m + 1) s a b (ba acc) (i : Int) n0 vs ps o3 al tr i6 i7 i8 i9 s10 i11 i12 i13 b14 = some (rest48 (nameVal n0 vs ps o3 al tr i6 i7 i8 i9 s10 i11 i12 i13 b14 K) cwd js ns s acc i) := by
  obtain ⟨c, hc, hb⟩ := bt_drop s i hi
  have hsz := size_data s
  rw [jobshellref48_Expand.j3, if_pos (by omega), if_pos (by omega)]
  by_cases h36 : bt s i = 36
  · obtain ⟨q, hq, q1, q2⟩ := par_ref s hs i hi hm
    have hc36 : c = 36 := (byte_eq c 36 36 rfl).1 (by rw [← hb]; exact h36)
    have hle := parL_le (s.data.toList.drop (i + 1))
    rw [List.length_drop] at hle
    rw [if_pos h36, hq, Option.bind_some]
    by_cases h0 : 0 < (parL (s.data.toList.drop (i + 1))).2
    · have e := q1 h0
      have hst2 : stepL (nameVal n0 vs ps o3 al tr i6 i7 i8 i9 s10 i11 i12 i13 b14 K) cwd js ns (s.data.toList.drop i) = some (nameVal n0 vs ps o3 al tr i6 i7 i8 i9 s10 i11 i12 i13 b14 K (parL (s.data.toList.drop (i + 1))).1, (parL (s.data.toList.drop (i + 1))).2 + 1) := by
        rw [hc, hc36]; simp only [stepL, if_pos, if_pos h0]
      obtain ⟨v1, v2⟩ := val_ref hS h7 h8 h9 (k := m) (K := K) (by omega) hK (parL (s.data.toList.drop (i + 1))).1 (o3 := o3) (al := al) (tr := tr) (i6 := i6) (i11 := i11) (i12 := i12) (i13 := i13) (b14 := b14)
      rw [e]
      simp only
      rw [if_pos (by omega), v1, Option.bind_some, ba_size, ba_size, if_pos (by omega), ba_append, show i + 1 + (parL (s.data.toList.drop (i + 1))).2 = i + ((parL (s.data.toList.drop (i + 1))).2 + 1) by omega, IH _ _ (by omega) (by rw [List.length_append]; omega) (by omega)]
      unfold rest48
      rw [ex_some _ _ _ _ _ _ _ hst2, List.append_assoc, List.drop_drop]
    · have e := q2 (by omega)
      have hst2 : stepL (nameVal n0 vs ps o3 al tr i6 i7 i8 i9 s10 i11 i12 i13 b14 K) cwd js ns (s.data.toList.drop i) = none := by
        rw [hc, hc36]; simp only [stepL, if_pos, if_neg h0]
      rw [e, if_neg (by omega)]
      exact ref_lit hs hi ha hst2 IH
  · rw [if_neg h36]
    exact ref_lit hs hi ha (hst h36) IH
theorem ref_esc {js ns : List UInt8} (hS : Sm n0 vs ps s10) (h7 : (Lit.int .i64 i7).wf = true) (h8 : (Lit.int .i64 i8).wf = true) (h9 : (Lit.int .i64 i9).wf = true) (hj : strconv_Itoa.f a = some (ba js)) (hn : strconv_Itoa.f b = some (ba ns)) (lj : js.length ≤ 21) (ln : ns.length ≤ 21) {m : Nat} (hm : 30000 ≤ m) (hK : m ≤ K) (d : UInt8) (r : List UInt8) :
    (∃ t : List UInt8, t.length ≤ 20000 ∧ jobshellref48_escape.f m n0 vs ps o3 al tr i6 i7 i8 i9 s10 i11 i12 i13 b14 (d.toNat : Int) a b = some (ba t, true) ∧ stepL (nameVal n0 vs ps o3 al tr i6 i7 i8 i9 s10 i11 i12 i13 b14 K) s10.data.toList js ns (92 :: d :: r) = some (t, 2))
    ∨ ((∃ t, jobshellref48_escape.f m n0 vs ps o3 al tr i6 i7 i8 i9 s10 i11 i12 i13 b14 (d.toNat : Int) a b = some (t, false)) ∧ stepL (nameVal n0 vs ps o3 al tr i6 i7 i8 i9 s10 i11 i12 i13 b14 K) s10.data.toList js ns (92 :: d :: r) = none) := by
  have D : ∀ (n : Nat) (u : UInt8), u.toNat = n → (((d.toNat : Int) = (n : Int)) ↔ d = u) := fun n u h => byte_eq d u n h
  have h92 : ¬ (92 : UInt8) = 36 := by decide
  unfold jobshellref48_escape.f
  simp only [stepL, if_neg h92, if_pos]
  by_cases k1 : (d.toNat : Int) = 119
  · rw [if_pos k1, if_pos ((D 119 119 rfl).1 k1)]
    exact .inl ⟨_, by rw [size_data]; have := hS.cwd; omega, by rw [ba_of], rfl⟩
  rw [if_neg k1, if_neg (fun e => k1 ((D 119 119 rfl).2 e))]
  by_cases k2 : (d.toNat : Int) = 36
  · rw [if_pos k2, if_pos ((D 36 36 rfl).1 k2)]
    exact .inl ⟨_, by simp, rfl, rfl⟩
  rw [if_neg k2, if_neg (fun e => k2 ((D 36 36 rfl).2 e))]
  by_cases k3 : (d.toNat : Int) = 92
  · rw [if_pos ((D 92 92 rfl).1 k3), if_neg (by omega), if_neg (by omega), if_neg (by omega), if_neg (by omega), if_pos k3]
    exact .inl ⟨_, by simp, rfl, rfl⟩
  rw [if_neg (c := d = 92) (fun e => k3 ((D 92 92 rfl).2 e))]
  by_cases k4 : (d.toNat : Int) = 117
  · obtain ⟨v1, v2⟩ := val_ref hS h7 h8 h9 (k := m) (K := K) (by omega) hK [85, 83, 69, 82] (o3 := o3) (al := al) (tr := tr) (i6 := i6) (i11 := i11) (i12 := i12) (i13 := i13) (b14 := b14)
    have v1' : jobshellref48_value.f m n0 vs ps o3 al tr i6 i7 i8 i9 s10 i11 i12 i13 b14 (⟨#[85, 83, 69, 82]⟩ : ByteArray) = some (ba (nameVal n0 vs ps o3 al tr i6 i7 i8 i9 s10 i11 i12 i13 b14 K [85, 83, 69, 82])) := v1
    rw [if_pos k4, if_pos ((D 117 117 rfl).1 k4), v1', Option.bind_some]
    exact .inl ⟨_, v2, rfl, rfl⟩
  rw [if_neg k4, if_neg (fun e => k4 ((D 117 117 rfl).2 e))]
  by_cases k5 : (d.toNat : Int) = 106
  · rw [if_pos k5, if_pos ((D 106 106 rfl).1 k5), hj, Option.bind_some]
    exact .inl ⟨_, by omega, rfl, rfl⟩
  rw [if_neg k5, if_neg (fun e => k5 ((D 106 106 rfl).2 e))]
  by_cases k6 : (d.toNat : Int) = 33
  · rw [if_pos k6, if_pos ((D 33 33 rfl).1 k6), hn, Option.bind_some]
    exact .inl ⟨_, by omega, rfl, rfl⟩
  rw [if_neg k6, if_neg (fun e => k6 ((D 33 33 rfl).2 e))]
  by_cases k7 : (d.toNat : Int) = 110
  · rw [if_pos k7, if_pos ((D 110 110 rfl).1 k7)]
    exact .inl ⟨_, by simp, rfl, rfl⟩
  rw [if_neg k7, if_neg (fun e => k7 ((D 110 110 rfl).2 e)), if_neg k3]
  exact .inr ⟨⟨_, rfl⟩, rfl⟩
theorem ref_end {acc : List UInt8} {m : Nat} (ha : acc.length < 1000000) (i : Int) : jobshellref48_Expand.j1 (m + 1) s a b (ba acc) i false n0 vs ps o3 al tr i6 i7 i8 i9 s10 i11 i12 i13 b14 = some (ba (acc.take 4096)) := by
  rw [jobshellref48_Expand.j1, if_neg (by decide), ba_size]
  by_cases h : (acc.length : Int) > 4096
  · rw [if_pos h, if_pos (by decide), if_pos (by omega), extract_ba, ba_data, List.drop_zero]
  · rw [if_neg h, List.take_of_length_le (by omega)]
theorem wrap_two {i : Nat} (h : i < 100000) : wrap64 ((i : Int) + 2) = ((i + 2 : Nat) : Int) := by rw [wrap_id (by omega) (by omega)]; omega
theorem wrap_one {i : Nat} (h : i < 100000) : wrap64 ((i : Int) + 1) = ((i + 1 : Nat) : Int) := wrap_succ (by omega)
theorem ref_go {js ns : List UInt8} (hS : Sm n0 vs ps s10) (h7 : (Lit.int .i64 i7).wf = true) (h8 : (Lit.int .i64 i8).wf = true) (h9 : (Lit.int .i64 i9).wf = true) (hj : strconv_Itoa.f a = some (ba js)) (hn : strconv_Itoa.f b = some (ba ns)) (lj : js.length ≤ 21) (ln : ns.length ≤ 21) (hs : s.size ≤ 10000) :
    ∀ (d i k : Nat) (acc : List UInt8), i ≤ s.size → s.size - i ≤ d → 4 * d + 40000 ≤ k → k ≤ K → acc.length ≤ 30000 → jobshellref48_Expand.l0 k s a b (ba acc) (i : Int) n0 vs ps o3 al tr i6 i7 i8 i9 s10 i11 i12 i13 b14 = some (rest48 (nameVal n0 vs ps o3 al tr i6 i7 i8 i9 s10 i11 i12 i13 b14 K) s10.data.toList js ns s acc i) := by
  have hsz := size_data s
  have stop : ∀ (i k : Nat) (acc : List UInt8), i ≤ s.size → 2 ≤ k → acc.length ≤ 30000 → (i = s.size ∨ 4096 < acc.length) → jobshellref48_Expand.l0 k s a b (ba acc) (i : Int) n0 vs ps o3 al tr i6 i7 i8 i9 s10 i11 i12 i13 b14 = some (rest48 (nameVal n0 vs ps o3 al tr i6 i7 i8 i9 s10 i11 i12 i13 b14 K) s10.data.toList js ns s acc i) := by
    intro i k acc hi hk hacc h
    obtain ⟨m, rfl⟩ : ∃ m, k = m + 2 := ⟨k - 2, by omega⟩
    have e : rest48 (nameVal n0 vs ps o3 al tr i6 i7 i8 i9 s10 i11 i12 i13 b14 K) s10.data.toList js ns s acc i = ba (acc.take 4096) := by
      unfold rest48
      rcases h with h | h
      · rw [List.drop_eq_nil_of_le (by omega), ex_nil, List.append_nil]
      · rw [List.take_append_of_le_length (by omega)]
    rw [jobshellref48_Expand.l0, e]
    by_cases hlt : (i : Int) < (s.size : Int)
    · rw [if_pos hlt, decide_eq_false (by rw [ba_size]; omega)]
      exact ref_end (by omega) _
    · rw [if_neg hlt]
      exact ref_end (by omega) _
  intro d
  induction d with
  | zero => intro i k acc hi hd hk hK hacc; exact stop i k acc hi (by omega) hacc (.inl (by omega))
  | succ d ih =>
    intro i k acc hi hd hk hK hacc
    by_cases hend : i = s.size ∨ 4096 < acc.length
    · exact stop i k acc hi (by omega) hacc hend
    have hlt : i < s.size := by omega
    have hac : acc.length ≤ 4096 := by omega
    obtain ⟨m, rfl⟩ : ∃ m, k = m + 4 := ⟨k - 4, by omega⟩
    obtain ⟨c, hc, hb⟩ := bt_drop s i hlt
    have IH : ∀ (q : Nat), m ≤ q → q ≤ K → ∀ (n : Nat) (acc : List UInt8), 1 ≤ n → acc.length ≤ 30000 → i + n ≤ s.size → jobshellref48_Expand.l0 q s a b (ba acc) ((i + n : Nat) : Int) n0 vs ps o3 al tr i6 i7 i8 i9 s10 i11 i12 i13 b14 = some (rest48 (nameVal n0 vs ps o3 al tr i6 i7 i8 i9 s10 i11 i12 i13 b14 K) s10.data.toList js ns s acc (i + n)) :=
      fun q hq hqK n acc hn hacc hle => ih (i + n) q acc hle (by omega) (by omega) hqK hacc
    rw [jobshellref48_Expand.l0, if_pos (by omega), ba_size, decide_eq_true (by omega), jobshellref48_Expand.j1, if_pos rfl, if_pos (by omega), if_pos (by omega)]
    have J3 : (bt s i ≠ 36 → stepL (nameVal n0 vs ps o3 al tr i6 i7 i8 i9 s10 i11 i12 i13 b14 K) s10.data.toList js ns (s.data.toList.drop i) = none) → jobshellref48_Expand.j3 (m + 1) s a b (ba acc) (i : Int) n0 vs ps o3 al tr i6 i7 i8 i9 s10 i11 i12 i13 b14 = some (rest48 (nameVal n0 vs ps o3 al tr i6 i7 i8 i9 s10 i11 i12 i13 b14 K) s10.data.toList js ns s acc i) := fun hst =>
      ref_j3 hS h7 h8 h9 hs (by omega) (by omega) hlt hac hst (IH m (Nat.le_refl _) (by omega))
    by_cases h92 : bt s i = 92
    · have hc92 : c = 92 := (byte_eq c 92 92 rfl).1 (by rw [← hb]; exact h92)
      have hi2 : i < 100000 := Nat.lt_of_lt_of_le hlt (Nat.le_trans hs (by decide))
      rw [if_pos h92, wrap_one hi2, jobshellref48_Expand.j2]
      by_cases h1 : i + 1 < s.size
      · obtain ⟨d2, hd2, hbd⟩ := bt_drop s (i + 1) h1
        rw [decide_eq_true (by omega), if_pos rfl, wrap_one hi2, if_pos (by omega), if_pos (by omega), hbd]
        rcases ref_esc (K := K) (m := m + 1) (o3 := o3) (al := al) (tr := tr) (i6 := i6) (i11 := i11) (i12 := i12) (i13 := i13) (b14 := b14) hS h7 h8 h9 hj hn lj ln (by omega) (by omega) d2 (s.data.toList.drop (i + 1 + 1)) with ⟨t, t1, t2, t3⟩ | ⟨⟨t, t2⟩, t3⟩
        · rw [t2, Option.bind_some]
          simp only
          rw [if_pos trivial, ba_size, ba_size, if_pos (by omega), ba_append, wrap_two hi2, IH (m + 1) (by omega) (by omega) 2 _ (by omega) (by rw [List.length_append]; omega) (by omega)]
          rw [← hd2, ← hc92, ← hc] at t3
          unfold rest48
          rw [ex_some _ _ _ _ _ _ _ t3, List.append_assoc, List.drop_drop]
        · rw [t2, Option.bind_some]
          simp only
          rw [if_neg (by decide)]
          rw [← hd2, ← hc92, ← hc] at t3
          exact J3 fun _ => t3
      · rw [decide_eq_false (by omega), if_neg (by decide)]
        refine J3 fun _ => ?_
        rw [hc, hc92, List.drop_eq_nil_of_le (by omega)]
        simp only [stepL]; rfl
    · rw [if_neg h92, jobshellref48_Expand.j2, if_neg (by decide)]
      refine J3 fun h36 => ?_
      rw [hc]
      simp only [stepL]
      rw [if_neg (fun e => h36 (by rw [hb]; exact (byte_eq c 36 36 rfl).2 e)), if_neg (fun e => h92 (by rw [hb]; exact (byte_eq c 92 92 rfl).2 e))]
theorem expand_ref (hS : Sm n0 vs ps s10) (h7 : (Lit.int .i64 i7).wf = true) (h8 : (Lit.int .i64 i8).wf = true) (h9 : (Lit.int .i64 i9).wf = true) (hs : s.size ≤ 10000) (ha : (Lit.int .i64 a).wf = true) (hb : (Lit.int .i64 b).wf = true) {k : Nat} (hk : 100000 ≤ k) (hK : k ≤ K) :
    jobshellref48_Expand.f k n0 vs ps o3 al tr i6 i7 i8 i9 s10 i11 i12 i13 b14 s a b = some (ba ((ex (nameVal n0 vs ps o3 al tr i6 i7 i8 i9 s10 i11 i12 i13 b14 K) s10.data.toList (Lib.itoa a) (Lib.itoa b) s.data.toList).take 4096)) := by
  obtain ⟨a1, a2⟩ := wf_i64' ha
  obtain ⟨b1, b2⟩ := wf_i64' hb
  unfold jobshellref48_Expand.f
  have h := ref_go (K := K) (o3 := o3) (al := al) (tr := tr) (i6 := i6) (i11 := i11) (i12 := i12) (i13 := i13) (b14 := b14) hS h7 h8 h9 (itoa_eq a a1 a2) (itoa_eq b b1 b2) (itoa_len a a1 a2) (itoa_len b b1 b2) hs s.size 0 k [] (by omega) (by omega) (by omega) hK (by simp)
  unfold rest48 at h
  rw [List.nil_append, List.drop_zero] at h
  exact h
end
end Go.Proofs.YtiacdccnifjcjaaDoor.Pure
set_option linter.unusedVariables false
set_option linter.unusedSimpArgs false
namespace Go.Proofs.YtiacdccnifjcjaaDoor.Pure
open Go.RowKit Go.Proofs.YtiacdccnifjcjaaDoor.F Go.Proofs.YtiacdccnifjcjaaDoorW.PrintWords Go.Proofs.YtiacdccnifjcjaaDoor.Opn
theorem getGo_found (nm : ByteArray) : ∀ vs : List S_Var, (getGo nm vs).2.2.1 = true → (getGo nm vs).2.2.2.2.2 = true
  | [], h => by cases h
  | v :: r, h => by
    by_cases hn : v.f0.toList = nm.toList
    · rw [getGo, if_pos hn]
    · rw [getGo, if_neg hn] at h ⊢; exact getGo_found nm r h
section
variable {n0 : ByteArray} {vs : List S_Var} {ps : List ByteArray} {o3 : Opq} {al : List S_Alias} {tr : List S_Trap} {i6 i7 i8 i9 : Int} {s10 : ByteArray} {i11 i12 i13 : Int} {b14 : Bool}
theorem value_name {nm : ByteArray} (hc : (nm.toList = [48] ∨ nm.toList = [35] ∨ nm.toList = [63] ∨ nm.toList = [45] ∨ nm.toList = [36] ∨ nm.toList = [33] ∨ nm.toList = [64] ∨ nm.toList = [42]) → False)
    (hp : ∃ n, param_position.f nm = some (n, false)) (hn : chars_Name.f nm = some true) (hv : vs.length < 1000) {k : Nat} (hk : 2000 ≤ k) :
    param_Value.f k n0 vs ps o3 al tr i6 i7 i8 i9 s10 i11 i12 i13 b14 nm = some (if (getGo nm vs).2.2.1 = true then ((getGo nm vs).2.1, true) else ((⟨#[]⟩ : ByteArray), false)) := by
  obtain ⟨n, hp⟩ := hp
  have nf : ¬ (false = true) := by decide
  unfold param_Value.f
  rw [if_neg (fun e => hc (.inl e)), if_neg (fun e => hc (.inr (.inl e))), if_neg (fun e => hc (.inr (.inr (.inl e)))), if_neg (fun e => hc (.inr (.inr (.inr (.inl e))))), if_neg (fun e => hc (.inr (.inr (.inr (.inr (.inl e)))))), if_neg (fun e => hc (.inr (.inr (.inr (.inr (.inr (.inl e))))))), if_neg (fun e => hc (.inr (.inr (.inr (.inr (.inr (.inr (.inl e)))))))), if_neg (fun e => hc (.inr (.inr (.inr (.inr (.inr (.inr (.inr e)))))))), hp, Option.bind_some, if_neg nf, vars_get nm vs hv (by omega), Option.bind_some, hn, Option.bind_some, if_pos rfl]
  by_cases h : (getGo nm vs).2.2.1 = true
  · rw [if_pos (getGo_found nm vs h), if_pos h, if_pos h]
  · rw [if_neg h, if_neg h]
    by_cases h2 : (getGo nm vs).2.2.2.2.2 = true
    · rw [if_pos h2]
    · rw [if_neg h2]
theorem ps_eq (hS : Sm n0 vs ps s10) (h7 : (Lit.int .i64 i7).wf = true) (h8 : (Lit.int .i64 i8).wf = true) (h9 : (Lit.int .i64 i9).wf = true) {nm : ByteArray}
    (hc : (nm.toList = [48] ∨ nm.toList = [35] ∨ nm.toList = [63] ∨ nm.toList = [45] ∨ nm.toList = [36] ∨ nm.toList = [33] ∨ nm.toList = [64] ∨ nm.toList = [42]) → False) (hp : ∃ n, param_position.f nm = some (n, false)) (hn : chars_Name.f nm = some true) :
    vars_Get.f 400000 vs nm = some (getGo nm vs) ∧ jobshellref17_Value.f 400000 n0 vs ps o3 al tr i6 i7 i8 i9 s10 i11 i12 i13 b14 nm = some (if (getGo nm vs).2.2.1 = true then ((getGo nm vs).2.1, true) else ((⟨#[]⟩ : ByteArray), false)) := by
  have hv := hS.few.vars
  obtain ⟨r, h1, h2⟩ := value_eq n0 vs ps o3 al tr i6 i7 i8 i9 s10 i11 i12 i13 b14 nm hS.few h7 h8 h9 (k := 400000) (by omega)
  rw [value_name hc hp hn (by omega) (by omega)] at h1
  rw [h2, ← h1]
  exact ⟨vars_get nm vs (by omega) (by omega), rfl⟩
theorem both (hS : Sm n0 vs ps s10) (h7 : (Lit.int .i64 i7).wf = true) (h8 : (Lit.int .i64 i8).wf = true) (h9 : (Lit.int .i64 i9).wf = true) (nm : ByteArray) {a b : Int} (ha : (Lit.int .i64 a).wf = true) (hb : (Lit.int .i64 b).wf = true) :
    ∃ r, prompt_Expand.f 400000 n0 vs ps o3 al tr i6 i7 i8 i9 s10 i11 i12 i13 b14 (getGo nm vs).2.1 a b = some r ∧ jobshellref48_Expand.f 400000 n0 vs ps o3 al tr i6 i7 i8 i9 s10 i11 i12 i13 b14 (getGo nm vs).2.1 a b = some r := by
  have hl := getGo_mem nm vs hS.values
  have he := expand_eq n0 vs ps o3 al tr i6 i7 i8 i9 s10 i11 i12 i13 b14 hS h7 h8 h9 (getGo nm vs).2.1 (by omega) a b ha hb (k := 400000) (by omega)
  have hr := expand_ref (K := 400000) (o3 := o3) (al := al) (tr := tr) (i6 := i6) (i11 := i11) (i12 := i12) (i13 := i13) (b14 := b14) hS h7 h8 h9 (s := (getGo nm vs).2.1) (by omega) ha hb (k := 400000) (by omega) (by omega)
  exact ⟨_, he, hr⟩
theorem first_eq (hS : Sm n0 vs ps s10) (h7 : (Lit.int .i64 i7).wf = true) (h8 : (Lit.int .i64 i8).wf = true) (h9 : (Lit.int .i64 i9).wf = true) {a b : Int} (ha : (Lit.int .i64 a).wf = true) (hb : (Lit.int .i64 b).wf = true) :
    ∃ r, prompt_First.f 400000 n0 vs ps o3 al tr i6 i7 i8 i9 s10 i11 i12 i13 b14 a b = some r ∧ jobshellref48_First.f 400000 n0 vs ps o3 al tr i6 i7 i8 i9 s10 i11 i12 i13 b14 a b = some r := by
  obtain ⟨e1, e2⟩ := ps_eq (o3 := o3) (al := al) (tr := tr) (i6 := i6) (i11 := i11) (i12 := i12) (i13 := i13) (b14 := b14) hS h7 h8 h9 (nm := (⟨#[80, 83, 49]⟩ : ByteArray)) (by decide +kernel) ⟨_, by rfl⟩ (by decide +kernel)
  unfold prompt_First.f jobshellref48_First.f
  rw [e1, e2, Option.bind_some, Option.bind_some]
  by_cases h : (getGo (⟨#[80, 83, 49]⟩ : ByteArray) vs).2.2.1 = true
  · obtain ⟨r, r1, r2⟩ := both (o3 := o3) (al := al) (tr := tr) (i6 := i6) (i11 := i11) (i12 := i12) (i13 := i13) (b14 := b14) hS h7 h8 h9 (⟨#[80, 83, 49]⟩ : ByteArray) ha hb
    rw [if_pos h, if_pos h]
    simp only
    rw [if_pos trivial, r1, r2]
    exact ⟨_, rfl, rfl⟩
  · rw [if_neg h, if_neg h]
    exact ⟨_, rfl, rfl⟩
theorem second_eq (hS : Sm n0 vs ps s10) (h7 : (Lit.int .i64 i7).wf = true) (h8 : (Lit.int .i64 i8).wf = true) (h9 : (Lit.int .i64 i9).wf = true) :
    ∃ r, prompt_Second.f 400000 n0 vs ps o3 al tr i6 i7 i8 i9 s10 i11 i12 i13 b14 = some r ∧ jobshellref48_Second.f 400000 n0 vs ps o3 al tr i6 i7 i8 i9 s10 i11 i12 i13 b14 = some r := by
  obtain ⟨e1, e2⟩ := ps_eq (o3 := o3) (al := al) (tr := tr) (i6 := i6) (i11 := i11) (i12 := i12) (i13 := i13) (b14 := b14) hS h7 h8 h9 (nm := (⟨#[80, 83, 50]⟩ : ByteArray)) (by decide +kernel) ⟨_, by rfl⟩ (by decide +kernel)
  unfold prompt_Second.f jobshellref48_Second.f
  rw [e1, e2, Option.bind_some, Option.bind_some]
  by_cases h : (getGo (⟨#[80, 83, 50]⟩ : ByteArray) vs).2.2.1 = true
  · obtain ⟨r, r1, r2⟩ := both (o3 := o3) (al := al) (tr := tr) (i6 := i6) (i11 := i11) (i12 := i12) (i13 := i13) (b14 := b14) hS h7 h8 h9 (⟨#[80, 83, 50]⟩ : ByteArray) (a := 0) (b := 0) (by decide +kernel) (by decide +kernel)
    rw [if_pos h, if_pos h]
    simp only
    rw [if_pos trivial, r1, r2]
    exact ⟨_, rfl, rfl⟩
  · rw [if_neg h, if_neg h]
    exact ⟨_, rfl, rfl⟩
end
theorem PromptFirsts (x0 : S_Env) (a1 : Int) (a2 : Int) (w0 : ok30 x0) (w1 : (Lit.int .i64 a1).wf = true) (w2 : (Lit.int .i64 a2).wf = true) : ∃ k, jobshelllaw48_PromptFirsts.f k x0.f0 x0.f1 x0.f2 x0.f3 x0.f4 x0.f5 x0.f6 x0.f7 x0.f8 x0.f9 x0.f10 x0.f11.f0 x0.f11.f1 x0.f12 x0.f13 a1 a2 = some true := by
  refine ⟨400000, ?_⟩
  obtain ⟨_, _, _, _, _, _, _, h7, h8, h9, _⟩ := w0
  generalize x0.f11.f0 = i11
  generalize x0.f11.f1 = i12
  unfold jobshelllaw48_PromptFirsts.f
  obtain ⟨b, hb, hS⟩ := small_eq x0.f0 x0.f1 x0.f2 x0.f3 x0.f4 x0.f5 x0.f6 x0.f7 x0.f8 x0.f9 x0.f10 i11 i12 x0.f12 x0.f13 (k := 400000) (by omega)
  rw [hb, Option.bind_some]
  cases b with
  | false => rw [if_neg (by decide), awake_ok (by omega)]; rfl
  | true =>
    obtain ⟨r, r1, r2⟩ := first_eq (o3 := x0.f3) (al := x0.f4) (tr := x0.f5) (i6 := x0.f6) (i11 := i11) (i12 := i12) (i13 := x0.f12) (b14 := x0.f13) (hS rfl) h7 h8 h9 w1 w2
    obtain ⟨q, q1, q2⟩ := second_eq (o3 := x0.f3) (al := x0.f4) (tr := x0.f5) (i6 := x0.f6) (i11 := i11) (i12 := i12) (i13 := x0.f12) (b14 := x0.f13) (hS rfl) h7 h8 h9
    rw [if_pos rfl, r1, r2, q1, q2, awake_ok (by omega), Option.bind_some, Option.bind_some, if_pos rfl, Option.bind_some, Option.bind_some, if_pos rfl, Option.bind_some]
end Go.Proofs.YtiacdccnifjcjaaDoor.Pure
namespace Go.Proofs.YtiacdccnifjcjaaDoor.promptFirsts
open Go.ChangeShapes Go.WideShapes Go.ChangeAt Go.RowKit
open Go.ChangeMaps (open_string shut_string)
open Go.Proofs.YtiacdccnifjcjaaDoor.F Go.Proofs.YtiacdccnifjcjaaDoorW.PrintWords Go.Proofs.YtiacdccnifjcjaaDoor.Opn
set_option linter.unusedVariables false
set_option linter.unusedSimpArgs false
theorem own : ownKnob Tryd.prog.godebug = none := by kernel_rfl
theorem laidOut : laidOutB Tryd.prog = true := by kernel_rfl
theorem amb {W : World} (h : laidMetH Tryd.prog Rows.promptFirstsRow.laid W) : AmbC W := by
  rw [MakeChecks.laidMetH_plain _ _ _ (by kernel_rfl)] at h
  have h0 : laidMet Tryd.prog [("math/bits.deBruijn32tab", Rows.laid_math_bits_deBruijn32tab), ("math/bits.deBruijn64tab", Rows.laid_math_bits_deBruijn64tab), ("internal/strconv.uint64pow10", Lib.tabData .u64 Lib.pow10Tab)] W := h
  obtain ⟨_, h1, _⟩ := h0
  obtain ⟨_, _, _, _, _, _, _, _, _, _, h1, _⟩ := h1
  obtain ⟨_, _, _, _, _, _, _, _, _, _, h1, _⟩ := h1
  obtain ⟨g', t', cs, fuel, p, q, hg', ht', hvar, hd, _, _⟩ := h1
  obtain rfl := Option.some.inj ((show Tryd.prog.globalNamed "internal/strconv.uint64pow10" = some 0 by kernel_rfl).symm.trans hg')
  obtain rfl := Option.some.inj ((show (Tryd.prog.globals[0]?).map (·.type) = some 94 by kernel_rfl).symm.trans ht')
  unfold AmbC Lib.TabIs
  rw [hvar, ← Lib.cells_of_tab Tryd.underlying94 Tryd.underlying84 (by kernel_rfl) (by kernel_rfl) hd]
set_option maxRecDepth 100000 in
set_option maxHeartbeats 1000000 in
theorem lifted (os : Os) (started : os.Started) (H : Type) (enc : TypeId × Value → H) :
    ReturnsInHanded {} Tryd.checked os 4 .any (fun w args => (Rows.promptFirstsSpec.pre enc Tryd.prog Tryd.f4 [] false w args ∧ laidMetH Tryd.prog Rows.promptFirstsRow.laid w) ∧ sizedMet enc Tryd.prog Tryd.f4 (OpenSpec.ofChange Rows.promptFirstsSpec) false w args)
      (Rows.promptFirstsSpec.post enc Tryd.prog Tryd.f4 false true false false) := by
  refine returnsInHanded_of_change_and (C := Tryd.checked) (X := fun w _ => laidMetH Tryd.prog Rows.promptFirstsRow.laid w) (fun _ _ _ hh h => h.of_heap hh) own started (by kernel_rfl) Tryd.func4
    (ChangeSpec.witness_shaped (enc := enc) (C := Tryd.checked) (os := os) (X := fun w _ => laidMetH Tryd.prog Rows.promptFirstsRow.laid w) false (World.laidAll Tryd.prog os Rows.promptFirstsRow.laid) #[.agg #[.string ByteArray.empty, .slice none 0 0, .slice none 0 0, .slice none 0 0, .slice none 0 0, .slice none 0 0, .int .i64 0, .int .i64 0, .int .i64 0, .int .i64 0, .string ByteArray.empty, .int .i64 0, .int .i64 0, .int .i64 0, .bool false], .int .i64 0, .int .i64 0] 8 (World.laidAll_os _ _ _)
      (World.shaped_of_ZipB (by kernel_rfl) (by kernel_rfl)) (by kernel_rfl) (by kernel_rfl) (by kernel_rfl)
      (by rw [MakeChecks.laidMetH_plain _ _ _ (by kernel_rfl)]; exact laidMet_laidAll _ (by kernel_rfl) (by kernel_rfl))) ?_
  intro W base args ds gs before hval0 hW _ hsz0 hL _
  have hsz : (DataW.weightsEach Tryd.prog (Tryd.f4.params.toList ++ Rows.promptFirstsSpec.plain.varTypes Tryd.prog) (ds ++ gs)).all (· ≤ reachBytes) = true := hsz0
  have hval : ∀ (j : Nat) t v, Tryd.f4.params[j]? = some t → args[j]? = some v → Value.okWide Tryd.prog W .any base t v := hval0
  have hW' := hW
  obtain ⟨p, q, hA0, hV, rfl, hfz, hnd⟩ := hW
  have hA : DataW.TrodAll enc Tryd.prog W 0 (fun _ => true) true Tryd.f4.params.toList args.toList ds p := hA0
  rw [Tryd.params4] at hA hval hsz
  obtain ⟨v0, vs0, d0, ds0, p0, q0, hargs, rfl, rfl, h0, r0⟩ := trodAll_cons hA
  obtain ⟨v1, vs1, d1, ds1, p1, q1, rfl, rfl, rfl, h1, r1⟩ := trodAll_cons r0
  obtain ⟨v2, vs2, d2, ds2, p2, q2, rfl, rfl, rfl, h2, r2⟩ := trodAll_cons r1
  obtain ⟨rfl, rfl, rfl⟩ := trodAll_nil r2
  obtain rfl : args = #[v0, v1, v2] := by cases args; simp_all
  obtain ⟨rfl, rfl⟩ := trodVars_none hV
  have k0 := h0
  have lt0 : ∀ x ∈ p0, x.block < W.heap.size := by obtain ⟨m, hm⟩ := k0; exact DataW.trod_lt m _ _ _ hm
  obtain ⟨cs0, x0, rfl, hk0, w0⟩ := arg_struct opens30 (okWide_struct Tryd.underlying30 (hval 0 30 v0 rfl rfl) |>.imp fun _ h => h.1) h0
  obtain ⟨A0_1, c0_1, A0_2, c0_2, A0_4, c0_4, A0_5, c0_5, rfl, hc0_1, hr0_1, hc0_2, hr0_2, hc0_4, hr0_4, hc0_5, hr0_5⟩ := k_Env_open hk0
  obtain ⟨a1, rfl, rfl, rfl, w1⟩ := open_int Tryd.underlying3 (hval 1 3 v1 rfl rfl) h1
  obtain ⟨a2, rfl, rfl, rfl, w2⟩ := open_int Tryd.underlying3 (hval 2 3 v2 rfl rfl) h2
  clear hA0 hval0 hsz0 hsz
  obtain ⟨k, hk_⟩ := Go.Proofs.YtiacdccnifjcjaaDoor.Pure.PromptFirsts x0 a1 a2 w0 w1 w2
  refine (jobshelllaw48_PromptFirsts.calls k x0.f0 A0_1 c0_1 x0.f1 A0_2 c0_2 x0.f2 x0.f3 A0_4 c0_4 x0.f4 A0_5 c0_5 x0.f5 x0.f6 x0.f7 x0.f8 x0.f9 x0.f10 x0.f11.f0 x0.f11.f1 x0.f12 x0.f13 a1 a2 true W hr0_1 hc0_1 hr0_2 hc0_2 hr0_4 hc0_4 hr0_5 hc0_5 (amb hL) hk_).mono fun e W' ⟨he, bel0⟩ => ?_
  have bel : Below W.heap.size W W' := bel0
  subst he
  exact ⟨_, rfl, _, _, _, [], _, [], hW', trodAll_mk1 (shut_bool Tryd.underlying4 _), (trodAll_cons_mk (Below.trod laidOut (by kernel_rfl) (of_decide_eq_true (by kernel_rfl)) k0 bel lt0) (trodAll_cons_mk (shut_int Tryd.underlying3 w1) (trodAll_cons_mk (shut_int Tryd.underlying3 w2) trodAll_mk0))), rfl, bel.frame _, fun h => by cases h⟩
theorem over : Rows.promptFirstsRow.holds Tryd.pinned (OpenSpec.ofChange Rows.promptFirstsSpec) :=
  OpenClaim.holds_of_wide 4 Tryd.f4 rfl rfl rfl rfl rfl rfl rfl ⟨rfl, rfl, rfl, rfl, rfl⟩ rfl rfl rfl rfl rfl (by kernel_rfl) Tryd.func4 (by kernel_rfl)
    (of_decide_eq_true (by kernel_rfl)) (by unfold Func.isWrapper; first | (rw [if_pos (by decide +kernel)]; kernel_rfl) | (rw [if_neg (by decide +kernel)]; exact ⟨rfl, rfl⟩))
    (fun os started H enc _ => lifted os started H enc)
theorem card : Rows.PromptFirstsCardSaid :=
  Claim7.holds_tied_plain_at .later [] [.data, .data, .data] true (true, "6b48662e5dc6b3e4aa893dec777ea98e2cd43473e035dc243ad2d60cd5144f59") false over (fun _ h => by cases h) (by kernel_rfl) (fun _ h => by cases h) promptFirsts_row_tie rfl ⟨rfl, rfl⟩ (by kernel_rfl) rfl
    (fun f fn hf hfn => by
      obtain rfl : f = 4 := Option.some.inj ((show Tryd.prog.funcNamed "jobshell/jobshelllaw48.PromptFirsts" = some 4 by kernel_rfl).symm.trans hf) |>.symm
      obtain rfl : fn = Tryd.f4 := (Option.some.inj (Tryd.func4.symm.trans hfn)).symm
      exact ⟨by kernel_rfl, fun j t ht => by
        rw [Tryd.params4] at ht
        have hm : t ∈ [30, 3, 3] := by simpa using Array.mem_of_getElem? ht
        have hall : ([30, 3, 3].all fun u => !Tryd.prog.wantsStandIn u) = true := by kernel_rfl
        exact (show Tryd.prog.wantsStandIn t = false by simpa using List.all_eq_true.1 hall t hm)⟩)
    (by kernel_rfl)
#print axioms card
end Go.Proofs.YtiacdccnifjcjaaDoor.promptFirsts
namespace Go.Proofs.YtiacdccnifjcjaaDoor
theorem promptFirsts_holds : Rows.PromptFirstsCardSaid := promptFirsts.card
end Go.Proofs.YtiacdccnifjcjaaDoor
