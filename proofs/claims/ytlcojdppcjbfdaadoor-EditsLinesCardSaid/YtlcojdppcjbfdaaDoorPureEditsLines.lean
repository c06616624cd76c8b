/- EditsLines over numbers and lists. -/
import Derived.Test.YtlcojdppcjbfdaaDoorPc
import Derived.Test.YtlcojdppcjbfdaaDoorOks
set_option linter.unusedVariables false
namespace Go.Proofs.YtlcojdppcjbfdaaDoor.Pure
open Go.RowKit Go.Proofs.YtlcojdppcjbfdaaDoor.F Go.Proofs.YtlcojdppcjbfdaaDoorW.PrintWords
def glue : List (List UInt8) → List UInt8
  | [] => []
  | x :: r => 10 :: (x ++ glue r)
theorem lns_glue (l : List UInt8) : ∀ cur, ∃ x r, lnsAcc cur l = x :: r ∧ x ++ glue r = cur ++ l := by
  induction l with
  | nil => intro cur; exact ⟨cur, [], rfl, by simp [glue]⟩
  | cons c r ih =>
    intro cur
    simp only [lnsAcc]
    split
    · rename_i hc
      obtain ⟨x, q, h1, h2⟩ := ih []
      have : c = 10 := by apply UInt8.toNat_inj.1; show c.toNat = 10; omega
      refine ⟨cur, _, rfl, ?_⟩
      rw [h1, this]
      simp only [glue]
      rw [h2]; simp
    · obtain ⟨x, q, h1, h2⟩ := ih (cur ++ [c])
      exact ⟨x, q, h1, by rw [h2]; simp⟩
theorem lns_clean (l : List UInt8) : ∀ cur, (∀ c ∈ cur, ¬ (c.toNat : Int) = 10) → ∀ x ∈ lnsAcc cur l, ∀ c ∈ x, ¬ (c.toNat : Int) = 10 := by
  induction l with
  | nil => intro cur h x hx; simp [lnsAcc] at hx; subst hx; exact h
  | cons c r ih =>
    intro cur h x hx
    simp only [lnsAcc] at hx
    split at hx
    · rcases List.mem_cons.1 hx with rfl | hx
      · exact h
      · exact ih [] (by simp) x hx
    · rename_i hc
      refine ih (cur ++ [c]) ?_ x hx
      intro d hd
      rcases List.mem_append.1 hd with hd | hd
      · exact h d hd
      · rw [List.mem_singleton.1 hd]; exact hc
theorem ba_append (a b : List UInt8) : ba a ++ ba b = ba (a ++ b) := by
  apply ByteArray.ext
  simp [ba]
theorem inner (s : ByteArray) (ls : List (List UInt8)) (acc : ByteArray) (i : Nat) (x : List UInt8) (r : List (List UInt8)) (hx : ls.drop i = x :: r) (hlen : ls.length ≤ 10000) (hxl : x.length ≤ 10000) (hc : ∀ c ∈ x, ¬ (c.toNat : Int) = 10) (v : Bool) (K : Nat)
    (hn : ∀ k, K ≤ k → jobshelllaw02_EditsLines.l0 k s (ls.map ba) acc ((i + 1 : Nat) : Int) = some v) (d : Nat) : ∀ (k j : Nat), j ≤ x.length → x.length - j = d → K + d + 1 ≤ k → jobshelllaw02_EditsLines.l1 k s (ls.map ba) acc i j = some v := by
  obtain ⟨hlt, hsz, hrd, _⟩ := rd_map ls i x r hx
  have hl2 : (ls.map ba).length = ls.length := by simp
  induction d with
  | zero =>
    intro k j hj hd hk
    obtain ⟨k, rfl⟩ := succ_of (n := 0) (k := k) (by omega)
    simp only [jobshelllaw02_EditsLines.l1]
    rw [if_pos (by omega), if_pos (by omega), if_neg (by omega), wrap_succ (by omega)]
    exact hn k (by omega)
  | succ d ih =>
    intro k j hj hd hk
    obtain ⟨k, rfl⟩ := succ_of (n := 0) (k := k) (by omega)
    have hjs : j < (ba x).size := by rw [ba_size]; omega
    obtain ⟨c, h1, h2⟩ := bt_drop (ba x) j hjs
    have hcm : c ∈ x := by
      have : c ∈ (ba x).data.toList.drop j := by rw [h1]; exact List.mem_cons_self
      rw [ba_data] at this
      exact List.mem_of_mem_drop this
    simp only [jobshelllaw02_EditsLines.l1]
    rw [if_pos (by omega), if_pos (by omega), if_pos (by omega), if_pos (by omega), hrd, h2, if_neg (hc c hcm), wrap_succ (by omega)]
    exact ih k (j + 1) (by omega) (by omega) (by omega)
theorem small_sum {a b : Nat} (h : a ≤ 5000) (h2 : b ≤ 10000) : a + 1 + b ≤ 9223372036854775807 := by omega
theorem small_ba {a b : List UInt8} (h : a.length ≤ 5000) (h2 : b.length ≤ 10000) : (ba (a ++ [10])).size + (ba b).size ≤ 9223372036854775807 := by
  have : (ba (a ++ [10])).size = a.length + 1 := by rw [ba_size]; simp
  rw [this, ba_size]; omega
theorem outer (s : ByteArray) (hs : s.size ≤ 5000) (ls : List (List UInt8)) (hlen : ls.length ≤ 10000) (hne : ls ≠ []) (hcl : ∀ x ∈ ls, x.length ≤ 10000 ∧ ∀ c ∈ x, ¬ (c.toNat : Int) = 10) (rest : List (List UInt8)) : ∀ (i : Nat) (acc : List UInt8), ls.drop i = rest → i ≤ ls.length → 0 < i →
    acc ++ glue rest = s.data.toList → ∀ k, rest.length * 20000 + 50 ≤ k → jobshelllaw02_EditsLines.l0 k s (ls.map ba) (ba acc) i = some true := by
  have hl2 : (ls.map ba).length = ls.length := by simp
  have hl3 : 0 < ls.length := by cases ls with
    | nil => exact absurd rfl hne
    | cons _ _ => simp
  induction rest with
  | nil =>
    intro i acc h hi h0 hg k hk
    obtain ⟨k, rfl⟩ := succ_of (n := 0) (k := k) (by omega)
    have : ls.length ≤ i := List.drop_eq_nil_iff.1 h
    simp only [jobshelllaw02_EditsLines.l0]
    rw [if_neg (by omega), if_pos (by omega), if_pos, awake_ok (by simp at hk; omega)]
    · rfl
    · rw [Lib.toList_data, Lib.toList_data, ba_data, ← hg]; simp [glue]
  | cons x r ih =>
    intro i acc h hi h0 hg k hk
    rw [List.length_cons] at hk
    obtain ⟨k, rfl⟩ := succ_of (n := 0) (k := k) (by omega)
    obtain ⟨k, rfl⟩ := succ_of (n := 0) (k := k) (by omega)
    obtain ⟨hlt, hsz, hrd, hdr⟩ := rd_map ls i x r h
    have hmem : x ∈ ls := by
      have : x ∈ ls.drop i := by rw [h]; exact List.mem_cons_self
      exact List.mem_of_mem_drop this
    have hx := hcl x hmem
    have hsize : acc.length ≤ 5000 := by
      have : (acc ++ glue (x :: r)).length = s.size := by rw [hg, size_data]
      simp at this; omega
    simp only [jobshelllaw02_EditsLines.l0]
    rw [if_pos (by omega), if_pos (by omega), if_pos (by rw [ba_size]; omega)]
    have e10 : ba acc ++ (⟨#[10]⟩ : ByteArray) = ba (acc ++ [10]) := by rw [← ba_append]; rfl
    rw [e10]
    simp only [jobshelllaw02_EditsLines.j1]
    rw [if_pos (by omega), if_pos (by omega), hrd, if_pos (show (ba (acc ++ [10])).size + (ba x).size ≤ 9223372036854775807 from small_ba hsize hx.1), ba_append]
    refine inner s ls _ i x r h hlen hx.1 hx.2 true (r.length * 20000 + 50) ?_ x.length k 0 (by omega) (by omega) (by omega)
    intro k' hk'
    exact ih (i + 1) _ hdr (by omega) (by omega) (by rw [← hg]; simp [glue]) k' hk'
theorem EditsLines (a0 : ByteArray) (w0 : a0.size ≤ 140737488351232) : ∃ k, jobshelllaw02_EditsLines.f k a0 = some true := by
  obtain ⟨k, hk⟩ : ∃ k, 300000000 ≤ k := ⟨_, Nat.le_refl _⟩
  refine ⟨k, ?_⟩
  unfold jobshelllaw02_EditsLines.f
  by_cases h : (a0.size : Int) > 5000
  · rw [if_pos h, awake_ok (by omega)]; rfl
  · rw [if_neg h, lines_eq a0 (by omega)]
    simp only [Option.bind_some]
    change jobshelllaw02_EditsLines.l0 k a0 ((lns a0).map ba) (ba []) 0 = some true
    obtain ⟨x, r, h1, h2⟩ := lns_glue a0.data.toList []
    have hn := lns_le a0
    have ht := lns_tot a0
    have hcl := lns_clean a0.data.toList [] (by simp)
    have hxl : ∀ y ∈ lns a0, y.length ≤ 10000 := by
      intro y hy
      have : ∀ (l : List (List UInt8)) (y : List UInt8), y ∈ l → y.length ≤ tot l := by
        intro l
        induction l with
        | nil => intro y hy; cases hy
        | cons z q ih =>
          intro y hy
          simp only [tot]
          rcases List.mem_cons.1 hy with rfl | hy
          · omega
          · have := ih y hy; omega
      have := this _ y hy
      omega
    have hd0 : (lns a0).drop 0 = x :: r := h1
    obtain ⟨hlt, hsz, hrd, hdr⟩ := rd_map (lns a0) 0 x r hd0
    obtain ⟨k, rfl⟩ := succ_of (n := 0) (k := k) (by omega)
    obtain ⟨k, rfl⟩ := succ_of (n := 0) (k := k) (by omega)
    have hl2 : ((lns a0).map ba).length = (lns a0).length := by simp
    have hrl : r.length ≤ 5001 := by have : (lns a0).length = r.length + 1 := by unfold lns; rw [h1]; simp
                                     omega
    have hxm : x ∈ lns a0 := by show x ∈ lnsAcc [] _; rw [h1]; exact List.mem_cons_self
    have hx1 := hxl x hxm
    simp only [jobshelllaw02_EditsLines.l0]
    rw [if_pos (by omega), if_neg (by omega)]
    simp only [jobshelllaw02_EditsLines.j1]
    have hrd' : rdOf ByteArray.empty ((lns a0).map ba) 0 = ba x := hrd
    rw [if_pos (by omega), if_pos (by omega), hrd', if_pos (by rw [ba_size, ba_size, List.length_nil]; omega)]
    have e0 : ba [] ++ ba x = ba x := ba_append [] x
    rw [e0]
    refine inner a0 (lns a0) _ 0 x r hd0 (by omega) hx1 (hcl x hxm) true (r.length * 20000 + 50) ?_ x.length k 0 (by omega) (by omega) (by omega)
    intro k' hk'
    exact outer a0 (by omega) (lns a0) (by omega) (by intro e; rw [e] at hlt; simp at hlt) (fun y hy => ⟨hxl y hy, hcl y hy⟩) r 1 x hdr (by omega) (by omega) (by simpa using h2) k' hk'
end Go.Proofs.YtlcojdppcjbfdaaDoor.Pure
