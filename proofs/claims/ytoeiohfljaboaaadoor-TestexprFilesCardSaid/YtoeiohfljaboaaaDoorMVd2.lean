/- The law TestexprFiles: for every input the call returns true and leaves its arguments as they were; the variables that the row lists are tied to the program's text (a tied card). No condition beyond the row's own. -/
import Derived.Test.YtoeiohfljaboaaaDoorCards
import Derived.Test.YtoeiohfljaboaaaDoorTie
import Derived.WalkKit
import Derived.ProofKit
import Derived.OpenShut
import Derived.ShutString
import Derived.ChangeOld
import Derived.Below
import Derived.SizedLaws
import Derived.LaidMore
import Derived.Lay
import Derived.SevenTiedAt
import Derived.Stop.Joined
import Derived.Carry
import Derived.Test.YtoeiohfljaboaaaDoorMVd1
import Derived.Test.YtoeiohfljaboaaaDoorB0
import Derived.Test.YtoeiohfljaboaaaDoorMVd0
import Derived.Test.YtoeiohfljaboaaaDoorB3
set_option linter.unusedVariables false
set_option linter.unusedSimpArgs false
namespace Go.Proofs.YtoeiohfljaboaaaDoor.Pure
open Go.RowKit Go.Proofs.YtoeiohfljaboaaaDoor.F Go.Proofs.YtoeiohfljaboaaaDoorW.PrintWords
def pathP (l : List UInt8) : Bool := decide (l = [47]) || (decide (l.length ≤ 128) && decide (l.head? = some 47) && (sp (l.drop 1)).all nameP)
theorem isPath_loop (M : List (List UInt8)) (hl : M.length ≤ 1000) : ∀ (d n k : Nat), n ≤ M.length → M.length - n = d → d + 1 ≤ k → files_isPath.l0 k (M.map ba) ((M.map ba).length : Int) (n : Int) = some ((M.drop n).all nameP) := by
  intro d
  induction d with
  | zero =>
    intro n k hn hd hk
    obtain ⟨k, rfl, hk⟩ := fuel (k := k) (n := 0) (by omega)
    rw [files_isPath.l0, if_neg (by rw [List.length_map]; omega), List.drop_eq_nil_of_le (by omega)]
    rfl
  | succ d ih =>
    intro n k hn hd hk
    obtain ⟨k, rfl, hk⟩ := fuel (k := k) (n := 0) (by omega)
    obtain ⟨c, hc, hb⟩ := rdM_drop M n (by omega)
    rw [files_isPath.l0, if_pos (by rw [List.length_map]; omega), if_pos (by omega), if_pos (by rw [List.length_map]; omega), hb, isName_p, ba_data, Option.bind_some, hc, List.all_cons]
    cases nameP c with
    | true => rw [if_pos rfl, wrap_succ (by omega), ih (n + 1) k (by omega) (by omega) (by omega)]; rfl
    | false => rw [if_neg (by decide)]; rfl
theorem sp_length : ∀ l : List UInt8, (sp l).length ≤ l.length + 1
  | [] => by simp [sp]
  | c :: r => by
    have ih := sp_length r
    by_cases h : c = 47
    · subst h; rw [sp_slash]; simp; omega
    · obtain ⟨a, t, e1, e2⟩ := sp_cons c r h
      rw [e1] at ih; rw [e2]; simp at ih ⊢; omega
theorem extract_one (s : ByteArray) : (s.extract 1 s.size).data.toList = s.data.toList.drop 1 := by
  rw [extract_data, List.take_of_length_le (by rw [size_data]; exact Nat.le_refl _)]
theorem isPath_p (s : ByteArray) (k : Nat) (hk : 200 ≤ k) : files_isPath.f k s = some (pathP s.data.toList) := by
  obtain ⟨k, rfl, hk⟩ := fuel (k := k) (n := 199) (by omega)
  unfold files_isPath.f pathP
  have hsz := size_data s
  rw [toL]
  by_cases h1 : s.data.toList = [47]
  · rw [if_pos h1, decide_eq_true h1]; rfl
  rw [if_neg h1, decide_eq_false h1, Bool.false_or]
  by_cases h2 : (s.size : Int) > 128
  · rw [if_pos h2, files_isPath.j0, if_pos rfl, decide_eq_false (show ¬ s.data.toList.length ≤ 128 by omega)]; rfl
  rw [if_neg h2, prefix_one, Option.bind_some, files_isPath.j0, decide_eq_true (show s.data.toList.length ≤ 128 by omega), Bool.true_and]
  by_cases h3 : s.data.toList.head? = some 47
  · have hz : s.size ≠ 0 := by intro e; rw [List.length_eq_zero_iff.1 (show s.data.toList.length = 0 by omega)] at h3; cases h3
    rw [decide_eq_true h3, if_neg (by decide), if_pos (by omega), split_sp _ (by rw [ByteArray.size_extract]; omega), Option.bind_some, Bool.true_and, extract_one]
    have hlen := sp_length (s.data.toList.drop 1)
    rw [List.length_drop] at hlen
    have h := isPath_loop (sp (s.data.toList.drop 1)) (by omega) _ 0 k (by omega) rfl (by omega)
    rw [show ((0 : Nat) : Int) = 0 from rfl] at h
    rw [h, List.drop_zero]
  · rw [decide_eq_false h3, if_pos (by decide)]; rfl
theorem IsPath_loop (M : List (List UInt8)) (hl : M.length ≤ 1000) : ∀ (d n k : Nat), n ≤ M.length → M.length - n = d → d + 41 ≤ k → jobshellref19_IsPath.l0 k (M.map ba) (n : Int) = some ((M.drop n).all nameP) := by
  intro d
  induction d with
  | zero =>
    intro n k hn hd hk
    obtain ⟨k, rfl, hk⟩ := fuel (k := k) (n := 0) (by omega)
    rw [jobshellref19_IsPath.l0, if_neg (by rw [List.length_map]; omega), List.drop_eq_nil_of_le (by omega)]
    rfl
  | succ d ih =>
    intro n k hn hd hk
    obtain ⟨k, rfl, hk⟩ := fuel (k := k) (n := d + 41) (by omega)
    obtain ⟨c, hc, hb⟩ := rdM_drop M n (by omega)
    rw [jobshellref19_IsPath.l0, if_pos (by rw [List.length_map]; omega), if_pos (by omega), hb, name_p _ k (by omega), ba_data, Option.bind_some, hc, List.all_cons]
    cases nameP c with
    | true => rw [if_pos rfl, wrap_succ (by omega), ih (n + 1) k (by omega) (by omega) (by omega)]; rfl
    | false => rw [if_neg (by decide)]; rfl
theorem IsPath_p (s : ByteArray) (k : Nat) (hk : 1100 ≤ k) : jobshellref19_IsPath.f k s = some (pathP s.data.toList) := by
  obtain ⟨k, rfl, hk⟩ := fuel (k := k) (n := 1099) (by omega)
  unfold jobshellref19_IsPath.f pathP
  have hsz := size_data s
  have jt : jobshellref19_IsPath.j0 (k + 1) s true = some false := by rw [jobshellref19_IsPath.j0, if_pos rfl]
  rw [toL]
  by_cases h1 : s.data.toList = [47]
  · rw [if_pos h1, decide_eq_true h1]; rfl
  rw [if_neg h1, decide_eq_false h1, Bool.false_or]
  by_cases h0 : (s.size : Int) < 2
  · rw [if_pos h0, jt]
    by_cases h3 : s.data.toList.head? = some 47
    · exfalso
      cases e : s.data.toList with
      | nil => rw [e] at h3; cases h3
      | cons a t =>
        rw [e] at h3 hsz h1
        have ht : t = [] := List.length_eq_zero_iff.1 (by simp at hsz; omega)
        subst ht
        simp at h3 h1
        exact h1 h3
    · rw [decide_eq_false h3]; simp
  rw [if_neg h0]
  by_cases h2 : (s.size : Int) > 128
  · rw [if_pos h2, jt, decide_eq_false (show ¬ s.data.toList.length ≤ 128 by omega)]; rfl
  rw [if_neg h2, if_pos (by omega), decide_eq_true (show s.data.toList.length ≤ 128 by omega), Bool.true_and]
  obtain ⟨c, hc, hb⟩ := bt_drop s 0 (by omega)
  rw [List.drop_zero] at hc
  rw [show ((0 : Nat) : Int) = 0 from rfl] at hb
  rw [hb]
  by_cases h3 : s.data.toList.head? = some 47
  · have hc47 : c = 47 := by rw [hc] at h3; simpa using h3
    rw [decide_eq_true h3, hc47, show (((47 : UInt8).toNat : Int) != 47) = false from rfl, jobshellref19_IsPath.j0, if_neg (by decide), if_pos (by omega), parts_f _ (by rw [ByteArray.size_extract]; omega) k (by omega), Option.bind_some, Bool.true_and, extract_one]
    have hlen := sp_length (s.data.toList.drop 1)
    rw [List.length_drop] at hlen
    have h := IsPath_loop (sp (s.data.toList.drop 1)) (by omega) _ 0 k (by omega) rfl (by omega)
    rw [show ((0 : Nat) : Int) = 0 from rfl] at h
    rw [h, List.drop_zero]
  · have hne : ¬ ((c.toNat : Int)) = 47 := fun e => h3 (by rw [hc, (byte_eq c 47 47 rfl).1 e]; rfl)
    rw [decide_eq_false h3, show ((c.toNat : Int) != 47) = true from bne_iff_ne.2 hne, jt]; rfl
def namesOf (l : List UInt8) : List (List UInt8) := if l = [47] then [] else sp (l.drop 1)
theorem names_path (l : List UInt8) (h : pathP l = true) : pathOf (namesOf l) = l ∧ (namesOf l).all nameP = true ∧ l.length ≤ 128 := by
  unfold pathP at h
  unfold namesOf
  by_cases h1 : l = [47]
  · subst h1; exact ⟨rfl, rfl, by decide⟩
  · rw [if_neg h1]
    rw [decide_eq_false h1, Bool.false_or, Bool.and_eq_true, Bool.and_eq_true] at h
    obtain ⟨⟨h2, h3⟩, h4⟩ := h
    have h2 := of_decide_eq_true h2
    have h3 := of_decide_eq_true h3
    refine ⟨?_, h4, h2⟩
    unfold pathOf
    rw [if_neg (sp_ne _), sp_flat]
    cases l with
    | nil => cases h3
    | cons a t =>
      simp at h3
      rw [h3]; rfl
theorem all_okN (ns : List (List UInt8)) (h : ns.all nameP = true) : okN ns := fun n hn => by
  have := nameP_ok n (List.all_eq_true.1 h n hn)
  exact ⟨this.1, this.2.1⟩
def cleanN : List (List UInt8) → List (List UInt8) → List UInt8 × Int
  | [], ns => if (pathOf ns).length > 128 then ([], 3) else (pathOf ns, 0)
  | c :: r, ns => if c = [] ∨ c = [46] then cleanN r ns else if c = [46, 46] then cleanN r ns.dropLast else if nameP c = true then cleanN r (ns ++ [c]) else ([], 10)
def toBA (x : List UInt8 × Int) : ByteArray × Int := (ba x.1, x.2)
theorem flat_drop (M : List (List UInt8)) (n : Nat) (c : List UInt8) (h : M.drop n = c :: M.drop (n + 1)) : (flat (M.drop n)).length = c.length + 1 + (flat (M.drop (n + 1))).length := by
  rw [h, flat_cons]; simp; omega
theorem push_len (ns : List (List UInt8)) (c : List UInt8) : (pathOf (ns ++ [c])).length ≤ (pathOf ns).length + c.length + 1 := by
  rw [pathOf_push]
  split <;> simp <;> omega
theorem cat3 (a c : List UInt8) : (ba a ++ (⟨#[47]⟩ : ByteArray)) ++ ba c = ba (a ++ 47 :: c) := by
  show (ba a ++ ba [47]) ++ ba c = _
  unfold ba
  ext1
  simp
theorem clean_loop (M : List (List UInt8)) (hl : M.length ≤ 500) : ∀ (d n k : Nat) (ns : List (List UInt8)), n ≤ M.length → M.length - n = d → 2 * d + 1 ≤ k → okN ns → (pathOf ns).length + (flat (M.drop n)).length ≤ 900 →
    files_Clean.l0 k (ba (pathOf ns)) (M.map ba) ((M.map ba).length : Int) (n : Int) = some (toBA (cleanN (M.drop n) ns)) := by
  intro d
  induction d with
  | zero =>
    intro n k ns hn hd hk ho hz
    obtain ⟨k, rfl, hk⟩ := fuel (k := k) (n := 0) (by omega)
    rw [files_Clean.l0, if_neg (by rw [List.length_map]; omega), List.drop_eq_nil_of_le (by omega), ba_size, cleanN]
    by_cases h : (pathOf ns).length > 128
    · rw [if_pos (by omega), if_pos h]; rfl
    · rw [if_neg (by omega), if_neg h]; rfl
  | succ d ih =>
    intro n k ns hn hd hk ho hz
    obtain ⟨k, rfl, hk⟩ := fuel (k := k) (n := 0) (by omega)
    obtain ⟨k, rfl, hk⟩ := fuel (k := k) (n := 0) (by omega)
    obtain ⟨c, hc, hb⟩ := rdM_drop M n (by omega)
    have hfd := flat_drop M n c hc
    rw [files_Clean.l0, if_pos (by rw [List.length_map]; omega), if_pos (by omega), if_pos (by rw [List.length_map]; omega), hb, toL, ba_data, hc, cleanN]
    have skip : files_Clean.j2 (k + 1) (ba (pathOf ns)) (ba c) (M.map ba) ((M.map ba).length : Int) (n : Int) true = some (toBA (cleanN (M.drop (n + 1)) ns)) := by
      rw [files_Clean.j2, if_pos rfl, wrap_succ (by omega)]
      exact ih (n + 1) k ns (by omega) (by omega) (by omega) ho (by omega)
    by_cases h0 : c = []
    · rw [if_pos h0, if_pos (Or.inl h0)]; exact skip
    rw [if_neg h0]
    by_cases h1 : c = [46]
    · rw [show (c == ([46] : List UInt8)) = true from beq_iff_eq.2 h1, if_pos (Or.inr h1)]; exact skip
    rw [show (c == ([46] : List UInt8)) = false from beq_eq_false_iff_ne.2 h1, if_neg (by simp [h0, h1]), files_Clean.j2, if_neg (by decide), toL, ba_data, wrap_succ (by omega)]
    by_cases h2 : c = [46, 46]
    · rw [if_pos h2, if_pos h2]
      obtain ⟨F, X, e, hX, hp⟩ := pathOf_split ns ho
      rw [e, parent_p F X hX (by rw [← e]; omega), Option.bind_some, hp]
      have := pathOf_drop ns
      exact ih (n + 1) k ns.dropLast (by omega) (by omega) (by omega) (okN_dropLast ns ho) (by omega)
    · rw [if_neg h2, if_neg h2, isName_p, ba_data, Option.bind_some]
      by_cases h3 : nameP c = true
      · have hcok := nameP_ok c h3
        have hpl := push_len ns c
        have hpe := pathOf_push ns c
        have hpel : (pathOf (ns ++ [c])).length = (if ns = [] then [] else pathOf ns).length + (c.length + 1) := by rw [hpe]; simp
        rw [if_pos h3, if_pos h3, trim_p ns ho (by omega), Option.bind_some]
        generalize (if ns = [] then [] else pathOf ns) = Q at *
        have hq1 : (ba Q).size = Q.length := rfl
        have hq2 : (ba Q ++ (⟨#[47]⟩ : ByteArray)).size = Q.length + 1 := by rw [ByteArray.size_append]; rfl
        have hq3 : (ba c).size = c.length := rfl
        rw [if_pos (by omega), if_pos (by omega), cat3, ← hpe]
        refine ih (n + 1) k (ns ++ [c]) (by omega) (by omega) (by omega) ?_ (by omega)
        intro x hx
        rcases List.mem_append.1 hx with h | h
        · exact ho x h
        · rw [List.mem_singleton.1 h]; exact ⟨hcok.1, hcok.2.1⟩
      · rw [if_neg h3, if_neg h3]; rfl
theorem Clean_loop (M : List (List UInt8)) (hl : M.length ≤ 500) : ∀ (d n k : Nat) (ns : List (List UInt8)), n ≤ M.length → M.length - n = d → 2 * d + 1003 ≤ k → okN ns → (pathOf ns).length + (flat (M.drop n)).length ≤ 900 →
    jobshellref19_Clean.l0 k (ba (pathOf ns)) (M.map ba) (n : Int) = some (toBA (cleanN (M.drop n) ns)) := by
  intro d
  induction d with
  | zero =>
    intro n k ns hn hd hk ho hz
    obtain ⟨k, rfl, hk⟩ := fuel (k := k) (n := 0) (by omega)
    rw [jobshellref19_Clean.l0, if_neg (by rw [List.length_map]; omega), List.drop_eq_nil_of_le (by omega), ba_size, cleanN]
    by_cases h : (pathOf ns).length > 128
    · rw [if_pos (by omega), if_pos h]; rfl
    · rw [if_neg (by omega), if_neg h]; rfl
  | succ d ih =>
    intro n k ns hn hd hk ho hz
    obtain ⟨k, rfl, hk⟩ := fuel (k := k) (n := 2 * d + 1004) (by omega)
    obtain ⟨k, rfl, hk⟩ := fuel (k := k) (n := 2 * d + 1003) (by omega)
    obtain ⟨c, hc, hb⟩ := rdM_drop M n (by omega)
    have hfd := flat_drop M n c hc
    rw [jobshellref19_Clean.l0, if_pos (by rw [List.length_map]; omega), if_pos (by omega), hb, toL, ba_data, hc, cleanN]
    have skip : jobshellref19_Clean.j2 (k + 1) (ba (pathOf ns)) (M.map ba) (n : Int) (ba c) true = some (toBA (cleanN (M.drop (n + 1)) ns)) := by
      rw [jobshellref19_Clean.j2, if_pos rfl, wrap_succ (by omega)]
      exact ih (n + 1) k ns (by omega) (by omega) (by omega) ho (by omega)
    by_cases h0 : c = []
    · rw [if_pos h0, if_pos (Or.inl h0)]; exact skip
    rw [if_neg h0]
    by_cases h1 : c = [46]
    · rw [show (c == ([46] : List UInt8)) = true from beq_iff_eq.2 h1, if_pos (Or.inr h1)]; exact skip
    rw [show (c == ([46] : List UInt8)) = false from beq_eq_false_iff_ne.2 h1, if_neg (by simp [h0, h1]), jobshellref19_Clean.j2, if_neg (by decide), toL, ba_data, wrap_succ (by omega)]
    by_cases h2 : c = [46, 46]
    · rw [if_pos h2, if_pos h2]
      obtain ⟨F, X, e, hX, hp⟩ := pathOf_split ns ho
      rw [e, Parent_p F X hX (by rw [← e]; omega) k (by omega), Option.bind_some, hp]
      have := pathOf_drop ns
      exact ih (n + 1) k ns.dropLast (by omega) (by omega) (by omega) (okN_dropLast ns ho) (by omega)
    · rw [if_neg h2, if_neg h2, name_p _ k (by omega), ba_data, Option.bind_some]
      by_cases h3 : nameP c = true
      · have hcok := nameP_ok c h3
        have hpl := push_len ns c
        have hpe := pathOf_push ns c
        have hq3 : (ba c).size = c.length := rfl
        have hnext := ih (n + 1) k (ns ++ [c]) (by omega) (by omega) (by omega) (by
          intro x hx
          rcases List.mem_append.1 hx with h | h
          · exact ho x h
          · rw [List.mem_singleton.1 h]; exact ⟨hcok.1, hcok.2.1⟩) (by omega)
        rw [if_pos h3, if_pos h3, toL, ba_data]
        have hroot : pathOf ns = [47] ↔ ns = [] := by
          constructor
          · intro e
            cases ns with
            | nil => rfl
            | cons a t =>
              exfalso
              unfold pathOf at e
              rw [if_neg (by simp), flat_cons] at e
              have := (List.cons.inj e).2
              exact (ho a (by simp)).1 (List.append_eq_nil_iff.1 this).1
          · intro e; rw [e]; rfl
        by_cases hr : ns = []
        · subst hr
          rw [if_pos (show pathOf [] = [47] from rfl), if_pos (by decide), if_pos (by omega)]
          rw [show (⟨#[]⟩ : ByteArray) = ba [] from rfl, cat3]
          rw [hpe, if_pos rfl] at hnext
          exact hnext
        · rw [if_neg (fun e => hr (hroot.1 e))]
          have hq2 : (ba (pathOf ns) ++ (⟨#[47]⟩ : ByteArray)).size = (pathOf ns).length + 1 := by rw [ByteArray.size_append]; rfl
          have hq1 : (ba (pathOf ns)).size = (pathOf ns).length := rfl
          rw [if_pos (by omega), if_pos (by omega), cat3]
          rw [hpe, if_neg hr] at hnext
          exact hnext
      · rw [if_neg h3, if_neg h3]; rfl
def cleanF (cwd s : List UInt8) : List UInt8 × Int :=
  if pathP cwd = true then (if s = [] then ([], 8) else if s.head? = some 47 then cleanN (sp s) [] else cleanN (sp s) (namesOf cwd)) else ([], 10)
theorem flat_sp_len (l : List UInt8) : (flat (sp l)).length = l.length + 1 := by rw [sp_flat]; rfl
theorem bt_head (s : ByteArray) (h : s.data.toList ≠ []) : bt s 0 = 47 ↔ s.data.toList.head? = some 47 := by
  have hz : s.size ≠ 0 := by intro e; exact h (List.length_eq_zero_iff.1 (by rw [size_data]; exact e))
  obtain ⟨c, hc, hb⟩ := bt_drop s 0 (by omega)
  rw [List.drop_zero] at hc
  rw [show ((0 : Nat) : Int) = 0 from rfl] at hb
  rw [hb, hc]
  constructor
  · intro e; rw [(byte_eq c 47 47 rfl).1 e]; rfl
  · intro e; simp at e; rw [e]; rfl
theorem clean_p (cwd s : ByteArray) (k : Nat) (hk : 1000 ≤ k) (hs : s.size ≤ 200) : files_Clean.f k cwd s = some (toBA (cleanF cwd.data.toList s.data.toList)) := by
  obtain ⟨k, rfl, hk⟩ := fuel (k := k) (n := 999) (by omega)
  unfold files_Clean.f cleanF
  rw [isPath_p cwd _ (by omega), Option.bind_some]
  by_cases h : pathP cwd.data.toList = true
  · rw [if_pos h, if_pos h, toL]
    obtain ⟨n1, n2, n3⟩ := names_path _ h
    by_cases h0 : s.data.toList = []
    · rw [if_pos h0, if_pos h0]; rfl
    · have hz : s.size ≠ 0 := by intro e; exact h0 (List.length_eq_zero_iff.1 (by rw [size_data]; exact e))
      have hsz := size_data s
      have hl := sp_length s.data.toList
      have hfl := flat_sp_len s.data.toList
      rw [if_neg h0, if_neg h0, if_pos (by omega)]
      have go : ∀ ns, okN ns → (pathOf ns).length ≤ 128 → files_Clean.j0 (k + 1) s (ba (pathOf ns)) = some (toBA (cleanN (sp s.data.toList) ns)) := by
        intro ns ho hp
        rw [files_Clean.j0, split_sp s (by omega), Option.bind_some]
        have := clean_loop (sp s.data.toList) (by omega) _ 0 k ns (by omega) rfl (by omega) ho (by rw [List.drop_zero]; omega)
        exact this
      by_cases hb : s.data.toList.head? = some 47
      · rw [if_pos ((bt_head s h0).2 hb), if_pos hb]
        exact go [] (fun _ h => by cases h) (by decide)
      · rw [if_neg (fun e => hb ((bt_head s h0).1 e)), if_neg hb]
        have := go (namesOf cwd.data.toList) (all_okN _ n2) (by rw [n1]; exact n3)
        rw [n1, ba_of] at this
        exact this
  · rw [if_neg h, if_neg h]; rfl
theorem Clean_p (cwd s : ByteArray) (k : Nat) (hk : 1900 ≤ k) (hs : s.size ≤ 200) : jobshellref19_Clean.f k cwd s = some (toBA (cleanF cwd.data.toList s.data.toList)) := by
  obtain ⟨k, rfl, hk⟩ := fuel (k := k) (n := 1899) (by omega)
  unfold jobshellref19_Clean.f cleanF
  rw [IsPath_p cwd _ (by omega), Option.bind_some]
  by_cases h : pathP cwd.data.toList = true
  · rw [if_pos h, if_pos h, toL]
    obtain ⟨n1, n2, n3⟩ := names_path _ h
    by_cases h0 : s.data.toList = []
    · rw [if_pos h0, if_pos h0]; rfl
    · have hz : s.size ≠ 0 := by intro e; exact h0 (List.length_eq_zero_iff.1 (by rw [size_data]; exact e))
      have hsz := size_data s
      have hl := sp_length s.data.toList
      have hfl := flat_sp_len s.data.toList
      rw [if_neg h0, if_neg h0, if_pos (by omega)]
      have go : ∀ ns, okN ns → (pathOf ns).length ≤ 128 → jobshellref19_Clean.j0 (k + 1) s (ba (pathOf ns)) = some (toBA (cleanN (sp s.data.toList) ns)) := by
        intro ns ho hp
        rw [jobshellref19_Clean.j0, parts_f s (by omega) k (by omega), Option.bind_some]
        have := Clean_loop (sp s.data.toList) (by omega) _ 0 k ns (by omega) rfl (by omega) ho (by rw [List.drop_zero]; omega)
        exact this
      by_cases hb : s.data.toList.head? = some 47
      · rw [if_pos ((bt_head s h0).2 hb), if_pos hb]
        exact go [] (fun _ h => by cases h) (by decide)
      · rw [if_neg (fun e => hb ((bt_head s h0).1 e)), if_neg hb]
        have := go (namesOf cwd.data.toList) (all_okN _ n2) (by rw [n1]; exact n3)
        rw [n1, ba_of] at this
        exact this
  · rw [if_neg h, if_neg h]; rfl
end Go.Proofs.YtoeiohfljaboaaaDoor.Pure
namespace Go.Proofs.YtoeiohfljaboaaaDoor.F
open Go.RowKit Go.Proofs.YtoeiohfljaboaaaDoorW.PrintWords Go.Proofs.YtoeiohfljaboaaaDoorW.PrintLast Go.Proofs.YtoeiohfljaboaaaDoorW.PrintMore
attribute [local go_sem] max2_int min2_int max_two min_two max_three min_three max_four min_four
set_option linter.unusedVariables false
set_option linter.unusedSimpArgs false
def jobshellref19_Find.f (k : Nat) (l0 : List (S_File)) (a1 : ByteArray) : Option (ByteArray × Bool × ByteArray × Bool) := (jobshellref19_find.f k l0 a1).bind fun t233 => (if t233 < 0 then (some ((⟨#[]⟩ : ByteArray), false, (⟨#[]⟩ : ByteArray), false)) else (if 0 ≤ t233 then (if t233 < (l0.length : Int) then (some ((rd_File l0 t233).f0, (rd_File l0 t233).f1, (rd_File l0 t233).f2, true)) else (none)) else (none)))
theorem jobshellref19_Find.mono : ∀ a0 a1 k, LeO (jobshellref19_Find.f k a0 a1) (jobshellref19_Find.f (k + 1) a0 a1) := by
 intro a0 a1 k
 unfold jobshellref19_Find.f
 repeat' first
   | (with_reducible exact jobshellref19_find.mono _ _ _)
   | (with_reducible exact LeO.refl _)
   | (with_reducible exact LeO.none _)
   | (with_reducible refine LeO.ite ?_ ?_)
   | (with_reducible refine LeO.bind ?_ (fun _ => ?_))
   | exact jobshellref19_find.mono _ _ _
   | exact LeO.none _
   | refine LeO.ite ?_ ?_
   | refine LeO.bind ?_ (fun _ => ?_)
set_option maxHeartbeats 8000000 in
set_option maxRecDepth 100000 in
theorem jobshellref19_Find.calls (k : Nat) (A0 : Option Addr) (c0 : Nat) (l0 : List (S_File)) (a1 : ByteArray) (r1 : ByteArray) (r2 : Bool) (r3 : ByteArray) (r4 : Bool) (w : World) (hr0 : Kd.C k_File w A0 l0.length l0) (hc0 : l0.length ≤ c0) (h : jobshellref19_Find.f k l0 a1 = some (r1, r2, r3, r4)) :
  Calls Tryd.prog 46 #[.slice A0 l0.length c0, .string a1] w fun e w' => e = .returned (.tuple #[.agg #[.string r1, .bool r2, .string r3], .bool r4]) ∧ Below w.heap.size w w' := by
 have hu37 := Tryd.underlying37
 have HR0 := Aside0.mk hr0
 have HC0 := Aside0.mk hc0
 clear hr0 hc0
 have HB := Aside0.mk (Below.refl w.heap.size w)
 have H : ((jobshellref19_find.f k l0 a1).bind fun t233 => (if t233 < 0 then (some ((⟨#[]⟩ : ByteArray), false, (⟨#[]⟩ : ByteArray), false)) else (if 0 ≤ t233 then (if t233 < (l0.length : Int) then (some ((rd_File l0 t233).f0, (rd_File l0 t233).f1, (rd_File l0 t233).f2, true)) else (none)) else (none)))) = some (r1, r2, r3, r4) := h
 clear h
 replace H := Option.bind_eq_some_iff.mp H
 obtain ⟨t233, A30, H⟩ := H
 replace H : (if t233 < 0 then (some ((⟨#[]⟩ : ByteArray), false, (⟨#[]⟩ : ByteArray), false)) else (if 0 ≤ t233 then (if t233 < (l0.length : Int) then (some ((rd_File l0 t233).f0, (rd_File l0 t233).f1, (rd_File l0 t233).f2, true)) else (none)) else (none))) = some (r1, r2, r3, r4) := H
 have A3 := Aside0.mk A30
 clear A30
 by_cases c4 : t233 < 0
 ·rw [if_pos c4] at H
  have c4b0 : decide (t233 < 0) = true := decide_eq_true c4
  clear c4
  simp only [Option.some.injEq, Prod.mk.injEq] at H
  obtain ⟨rfl, rfl, rfl, rfl⟩ := H
  go_enter Tryd.func46, Tryd.ntmps46
  go_wp2_with (first | ((with_reducible refine gate_dst (N := 4) rfl ?_); refine box_event ?hg (N := 4) ?hd (cs := #[.string (⟨#[]⟩ : ByteArray), .bool false, .string (⟨#[]⟩ : ByteArray)]) (t := 37) ?hr ?_; (case hd => rfl); (case hg => rfl); (case hr => first | (go_simp; done) | (go_simp; rfl)); intro gb232 hg w5 hbox hb; have n0_ := Aside0.mk (below_step (by repeat (first | (with_reducible first | exact HB.out | apply below_alloc | apply pw_below_drewN | apply below_drew1) | exact HB.out)) hb); have n1_ := Aside0.mk (hbox); have n2_ := Aside0.mk ((by rw [hg]; exact (below_size (by repeat (first | (with_reducible first | exact HB.out | apply below_alloc | apply pw_below_drewN | apply below_drew1) | exact HB.out))) : w.heap.size ≤ gb232)); have n3_ := Aside0.mk ((by rw [hg]; exact (below_size (by repeat (first | (with_reducible first | exact HB.out | apply below_alloc | apply pw_below_drewN | apply below_drew1) | exact HB.out))) : w.heap.size ≤ gb232)); clear HB; have HB := n0_; have BK232 := n1_; have GW232 := n2_; have GE232 := n3_; clear n0_ n1_ n2_ n3_; clear hb hbox hg) | ((with_reducible refine gate_callee (f := 37) rfl ?_); refine goesL_ (some 9) rfl rfl Tryd.func37 (by kernel_rfl) rfl #[.slice A0 l0.length c0, .string a1] rfl (by (try simp only [List.map_toArray, List.map_cons, List.map_nil]); first | done | rfl | (simp only [List.length_drop, List.length_take]; rfl)) ?_; (with_reducible refine (jobshellref19_find.calls k _ _ l0 a1 t233 _ ?side1 ?side2 A3.out).mono ?_); (case side1 => repeat (first | exact (Kd.C_below HR0.out HB.out) | (with_reducible refine Kd.C_alloc ?_ _) | (with_reducible refine Kd.C_drewN ?_ _) | (with_reducible refine Kd.C_drew ?_))); (case side2 => exact HC0.out); rintro e w' ⟨rfl, ⟨nd, rfl⟩⟩; refine ⟨_, rfl, ?_⟩; (try (rw [drewN_self w5]; generalize hq_ : World.drewN w5 _ = w5; have n0_ : Aside0 (w5.heap[gb232]? = some (.cells #[.string (⟨#[]⟩ : ByteArray), .bool false, .string (⟨#[]⟩ : ByteArray)] 37 (0, 0))) := ⟨by rw [← hq_]; exact (by (with_reducible repeat (first | refine blk_drewN ?_ _ | refine blk_drew ?_ | refine blk_alloc ?_ _)); exact BK232.out)⟩; have n1_ : Aside0 (Below w.heap.size w w5) := ⟨by rw [← hq_]; exact (by repeat (first | (with_reducible first | exact HB.out | apply below_alloc | apply pw_below_drewN | apply below_drew1 | refine below_set ?_ GE232.out) | exact HB.out))⟩; clear BK232 HB hq_; have BK232 := n0_; have HB := n1_; clear n0_ n1_)); have hcz6_0 : w5.cell? ⟨gb232, 0, none⟩ = some (.string (⟨#[]⟩ : ByteArray)) := (blk_cell BK232.out 0).trans rfl; have hcz6_1 : w5.cell? ⟨gb232, 1, none⟩ = some (.bool false) := (blk_cell BK232.out 1).trans rfl; have hcz6_2 : w5.cell? ⟨gb232, 2, none⟩ = some (.string (⟨#[]⟩ : ByteArray)) := (blk_cell BK232.out 2).trans rfl; have hfz6_0 := blk_frozen BK232.out 0; have hfz6_1 := blk_frozen BK232.out 1; have hfz6_2 := blk_frozen BK232.out 2))
  refine bodyPost_ret (results_ct rfl _ _ gb232 37 #[.string (⟨#[]⟩ : ByteArray), .bool false, .string (⟨#[]⟩ : ByteArray)] (0, 0) _ rfl (by (with_reducible repeat (first | refine blk_drewN ?_ _ | refine blk_drew ?_ | refine blk_alloc ?_ _)); refine blk_put (cs := #[.string (⟨#[]⟩ : ByteArray), .bool false, .string (⟨#[]⟩ : ByteArray)]) ?_ 2 _ rfl; (with_reducible repeat (first | refine blk_drewN ?_ _ | refine blk_drew ?_ | refine blk_alloc ?_ _)); refine blk_put (cs := #[.string (⟨#[]⟩ : ByteArray), .bool false, .string (⟨#[]⟩ : ByteArray)]) ?_ 1 _ rfl; (with_reducible repeat (first | refine blk_drewN ?_ _ | refine blk_drew ?_ | refine blk_alloc ?_ _)); refine blk_put (cs := #[.string (⟨#[]⟩ : ByteArray), .bool false, .string (⟨#[]⟩ : ByteArray)]) ?_ 0 _ rfl; (with_reducible repeat (first | refine blk_drewN ?_ _ | refine blk_drew ?_ | refine blk_alloc ?_ _)); exact BK232.out) Tryd.underlying37 rfl (by kernel_rfl)) rfl ?_
  exact ⟨by first | rfl | (simp [errW_none, errW_some] <;> rfl) | (simp [*, errW_none, errW_some] <;> rfl), by repeat (first | (with_reducible first | exact HB.out | apply below_alloc | apply pw_below_drewN | apply below_drew1 | refine below_set ?_ GE232.out) | exact HB.out)⟩
 ·rw [if_neg c4] at H
  have c4b0 : decide (t233 < 0) = false := decide_eq_false c4
  clear c4
  by_cases c7 : 0 ≤ t233
  ·rw [if_pos c7] at H
   have c7b0 : decide (0 ≤ t233) = true := decide_eq_true c7
   clear c7
   by_cases c8 : t233 < (l0.length : Int)
   ·rw [if_pos c8] at H
    have c8b0 : decide (t233 < (l0.length : Int)) = true := decide_eq_true c8
    clear c8
    simp only [Option.some.injEq, Prod.mk.injEq] at H
    obtain ⟨rfl, rfl, rfl, rfl⟩ := H
    go_enter Tryd.func46, Tryd.ntmps46
    go_wp2_with (first | ((with_reducible refine gate_dst (N := 4) rfl ?_); refine box_event ?hg (N := 4) ?hd (cs := #[.string (⟨#[]⟩ : ByteArray), .bool false, .string (⟨#[]⟩ : ByteArray)]) (t := 37) ?hr ?_; (case hd => rfl); (case hg => rfl); (case hr => first | (go_simp; done) | (go_simp; rfl)); intro gb232 hg w9 hbox hb; have n0_ := Aside0.mk (below_step (by repeat (first | (with_reducible first | exact HB.out | apply below_alloc | apply pw_below_drewN | apply below_drew1) | exact HB.out)) hb); have n1_ := Aside0.mk (hbox); have n2_ := Aside0.mk ((by rw [hg]; exact (below_size (by repeat (first | (with_reducible first | exact HB.out | apply below_alloc | apply pw_below_drewN | apply below_drew1) | exact HB.out))) : w.heap.size ≤ gb232)); have n3_ := Aside0.mk ((by rw [hg]; exact (below_size (by repeat (first | (with_reducible first | exact HB.out | apply below_alloc | apply pw_below_drewN | apply below_drew1) | exact HB.out))) : w.heap.size ≤ gb232)); clear HB; have HB := n0_; have BK232 := n1_; have GW232 := n2_; have GE232 := n3_; clear n0_ n1_ n2_ n3_; clear hb hbox hg) | ((with_reducible refine gate_callee (f := 37) rfl ?_); refine goesL_ (some 9) rfl rfl Tryd.func37 (by kernel_rfl) rfl #[.slice A0 l0.length c0, .string a1] rfl (by (try simp only [List.map_toArray, List.map_cons, List.map_nil]); first | done | rfl | (simp only [List.length_drop, List.length_take]; rfl)) ?_; (with_reducible refine (jobshellref19_find.calls k _ _ l0 a1 t233 _ ?side1 ?side2 A3.out).mono ?_); (case side1 => repeat (first | exact (Kd.C_below HR0.out HB.out) | (with_reducible refine Kd.C_alloc ?_ _) | (with_reducible refine Kd.C_drewN ?_ _) | (with_reducible refine Kd.C_drew ?_))); (case side2 => exact HC0.out); rintro e w' ⟨rfl, ⟨nd, rfl⟩⟩; refine ⟨_, rfl, ?_⟩; (try (rw [drewN_self w9]; generalize hq_ : World.drewN w9 _ = w9; have n0_ : Aside0 (w9.heap[gb232]? = some (.cells #[.string (⟨#[]⟩ : ByteArray), .bool false, .string (⟨#[]⟩ : ByteArray)] 37 (0, 0))) := ⟨by rw [← hq_]; exact (by (with_reducible repeat (first | refine blk_drewN ?_ _ | refine blk_drew ?_ | refine blk_alloc ?_ _)); exact BK232.out)⟩; have n1_ : Aside0 (Below w.heap.size w w9) := ⟨by rw [← hq_]; exact (by repeat (first | (with_reducible first | exact HB.out | apply below_alloc | apply pw_below_drewN | apply below_drew1 | refine below_set ?_ GE232.out) | exact HB.out))⟩; clear BK232 HB hq_; have BK232 := n0_; have HB := n1_; clear n0_ n1_)); have p234 : 0 ≤ (t233 : Int) := of_decide_eq_true (by first | (with_reducible assumption) | assumption); have q234 : t233 < (l0.length : Int) := of_decide_eq_true (by first | (with_reducible assumption) | assumption); obtain ⟨ad234, e234, hx234_0, hx234_1, hx234_2⟩ := at_File HR0.out t233 p234 q234; cases e234; replace hx234_0 := (HB.out.cell (World.block_lt_of_cell? w _ hx234_0)).trans hx234_0; replace hx234_1 := (HB.out.cell (World.block_lt_of_cell? w _ hx234_1)).trans hx234_1; replace hx234_2 := (HB.out.cell (World.block_lt_of_cell? w _ hx234_2)).trans hx234_2; replace p234 := eq_true p234; replace q234 := eq_true q234; have hcz10_0 : w9.cell? ⟨gb232, 0, none⟩ = some (.string (⟨#[]⟩ : ByteArray)) := (blk_cell BK232.out 0).trans rfl; have hcz10_1 : w9.cell? ⟨gb232, 1, none⟩ = some (.bool false) := (blk_cell BK232.out 1).trans rfl; have hcz10_2 : w9.cell? ⟨gb232, 2, none⟩ = some (.string (⟨#[]⟩ : ByteArray)) := (blk_cell BK232.out 2).trans rfl; have hfz10_0 := blk_frozen BK232.out 0; have hfz10_1 := blk_frozen BK232.out 1; have hfz10_2 := blk_frozen BK232.out 2))
    refine bodyPost_ret (results_ct rfl _ _ gb232 37 #[.string ((rd_File l0 t233).f0), .bool ((rd_File l0 t233).f1), .string ((rd_File l0 t233).f2)] (0, 0) _ rfl (by (with_reducible repeat (first | refine blk_drewN ?_ _ | refine blk_drew ?_ | refine blk_alloc ?_ _)); refine blk_put (cs := #[.string ((rd_File l0 t233).f0), .bool ((rd_File l0 t233).f1), .string (⟨#[]⟩ : ByteArray)]) ?_ 2 _ rfl; (with_reducible repeat (first | refine blk_drewN ?_ _ | refine blk_drew ?_ | refine blk_alloc ?_ _)); refine blk_put (cs := #[.string ((rd_File l0 t233).f0), .bool false, .string (⟨#[]⟩ : ByteArray)]) ?_ 1 _ rfl; (with_reducible repeat (first | refine blk_drewN ?_ _ | refine blk_drew ?_ | refine blk_alloc ?_ _)); refine blk_put (cs := #[.string (⟨#[]⟩ : ByteArray), .bool false, .string (⟨#[]⟩ : ByteArray)]) ?_ 0 _ rfl; (with_reducible repeat (first | refine blk_drewN ?_ _ | refine blk_drew ?_ | refine blk_alloc ?_ _)); exact BK232.out) Tryd.underlying37 rfl (by kernel_rfl)) rfl ?_
    exact ⟨by first | rfl | (simp [errW_none, errW_some] <;> rfl) | (simp [*, errW_none, errW_some] <;> rfl), by repeat (first | (with_reducible first | exact HB.out | apply below_alloc | apply pw_below_drewN | apply below_drew1 | refine below_set ?_ GE232.out) | exact HB.out)⟩
   ·rw [if_neg c8] at H
    exact absurd H (by simp)
  ·rw [if_neg c7] at H
   exact absurd H (by simp)
end Go.Proofs.YtoeiohfljaboaaaDoor.F
set_option linter.unusedVariables false
set_option linter.unusedSimpArgs false
namespace Go.Proofs.YtoeiohfljaboaaaDoor.Pure
open Go.RowKit Go.Proofs.YtoeiohfljaboaaaDoor.F Go.Proofs.YtoeiohfljaboaaaDoorW.PrintWords
theorem bl_trans : ∀ x y z : List UInt8, Op.bytesLess x y = true → Op.bytesLess y z = true → Op.bytesLess x z = true
  | [], [], _, h, _ => by simp [Op.bytesLess] at h
  | [], _ :: _, [], _, h => by simp [Op.bytesLess] at h
  | [], _ :: _, _ :: _, _, _ => by simp [Op.bytesLess]
  | _ :: _, [], _, h, _ => by simp [Op.bytesLess] at h
  | _ :: _, _ :: _, [], _, h => by simp [Op.bytesLess] at h
  | a :: x, b :: y, c :: z, h1, h2 => by
    simp only [Op.bytesLess, Bool.or_eq_true, Bool.and_eq_true, decide_eq_true_eq, beq_iff_eq] at h1 h2 ⊢
    rcases h1 with h1 | ⟨rfl, h1⟩
    · rcases h2 with h2 | ⟨rfl, h2⟩
      · left; rw [UInt8.lt_iff_toNat_lt] at *; omega
      · left; exact h1
    · rcases h2 with h2 | ⟨rfl, h2⟩
      · left; exact h2
      · right; exact ⟨rfl, bl_trans x y z h1 h2⟩
theorem bl_irr (x : List UInt8) : Op.bytesLess x x = false := by
  cases h : Op.bytesLess x x with
  | false => rfl
  | true => exact absurd (bl_asymm x x h) (by rw [h]; decide)
def fileP (l : List S_File) (i : Nat) : Prop := pathP (rd_File l (i : Nat)).f0.data.toList = true ∧ ((rd_File l (i : Nat)).f1 = true → (rd_File l (i : Nat)).f2.data.toList = []) ∧
  (0 < i → Op.bytesLess (rd_File l ((i - 1 : Nat) : Int)).f0.toList (rd_File l (i : Nat)).f0.toList = true)
theorem valid_inv (l : List S_File) (hl : l.length ≤ 128) : ∀ (d n k : Nat), n ≤ l.length → l.length - n = d → 3 * d + 1500 ≤ k → jobshellref19_Valid.l0 k l (n : Int) = some 0 →
    ∀ i, n ≤ i → i < l.length → fileP l i := by
  intro d
  induction d with
  | zero => intro n k hn hd hk h i h1 h2; omega
  | succ d ih =>
    intro n k hn hd hk h
    obtain ⟨k, rfl, hk⟩ := fuel (k := k) (n := 3 * d + 1502) (by omega)
    rw [jobshellref19_Valid.l0, if_pos (by omega), if_pos (by omega), IsPath_p _ k (by omega), Option.bind_some] at h
    obtain ⟨k, rfl, hk⟩ := fuel (k := k) (n := 3 * d + 1501) (by omega)
    obtain ⟨k, rfl, hk⟩ := fuel (k := k) (n := 3 * d + 1500) (by omega)
    cases hp : pathP (rd_File l (n : Int)).f0.data.toList with
    | false => rw [hp, if_neg (by decide)] at h; exact absurd h (by decide)
    | true =>
      rw [hp, if_pos rfl] at h
      have hsz : (rd_File l (n : Int)).f0.size ≤ 128 := by rw [← size_data]; exact (names_path _ hp).2.2
      have j3 : ∀ (b : Bool) c f, jobshellref19_Valid.j3 (k + 1) l (n : Int) b (rd_File l (n : Int)).f0 c f = some 0 → b = false ∧ jobshellref19_Valid.l0 k l ((n + 1 : Nat) : Int) = some 0 := by
        intro b c f h
        rw [jobshellref19_Valid.j3, wrap_succ (by omega)] at h
        cases b with
        | true => rw [if_pos rfl] at h; exact absurd h (by decide)
        | false =>
          rw [if_neg (by decide)] at h
          refine ⟨rfl, ?_⟩
          by_cases hn0 : (n : Int) > 0
          · rw [if_pos hn0, if_pos (by omega), if_pos (by omega)] at h
            have ht : (l.take ((n : Int)).toNat).length ≤ 1000 := by rw [List.length_take]; omega
            obtain ⟨r3, h3⟩ := parent_l0 (l.take ((n : Int)).toNat) (rd_File l (n : Int)).f0 ht (by omega) (l.take ((n : Int)).toNat).length 0 k (by omega) (by omega) (by rw [List.length_take]; omega)
            unfold jobshellref19_parent.f at h
            rw [show ((0 : Nat) : Int) = 0 from rfl] at h3
            rw [h3, Option.bind_some] at h
            by_cases hr : r3 = 0
            · rw [if_pos hr] at h; exact h
            · rw [if_neg hr] at h; exact absurd (Option.some.inj h) hr
          · rw [if_neg hn0] at h; exact h
      have j2 : ∀ (b : Bool) c f, jobshellref19_Valid.j2 (k + 2) l (n : Int) b (rd_File l (n : Int)).f0 c f = some 0 → b = false ∧ (0 < n → Op.bytesLess (rd_File l ((n - 1 : Nat) : Int)).f0.toList (rd_File l (n : Nat)).f0.toList = true) ∧ jobshellref19_Valid.l0 k l ((n + 1 : Nat) : Int) = some 0 := by
        intro b c f h
        rw [jobshellref19_Valid.j2] at h
        cases b with
        | true => rw [if_pos rfl] at h; exact absurd h (by decide)
        | false =>
          rw [if_neg (by decide)] at h
          refine ⟨rfl, ?_⟩
          by_cases hb : (f.size : Int) > 8192
          · rw [if_pos hb] at h; exact absurd h (by decide)
          · rw [if_neg hb] at h
            by_cases hn0 : (n : Int) > 0
            · rw [if_pos hn0, wrap_id (i := (n : Int) - 1) (by omega) (by omega), if_pos (by omega), if_pos (by omega)] at h
              obtain ⟨h1, h2⟩ := j3 _ _ _ h
              refine ⟨fun _ => ?_, h2⟩
              rw [show ((n - 1 : Nat) : Int) = (n : Int) - 1 by omega]
              simpa using h1
            · rw [if_neg hn0] at h
              exact ⟨fun e => absurd e (by omega), (j3 _ _ _ h).2⟩
      have fin : (0 < n → Op.bytesLess (rd_File l ((n - 1 : Nat) : Int)).f0.toList (rd_File l (n : Nat)).f0.toList = true) ∧ jobshellref19_Valid.l0 k l ((n + 1 : Nat) : Int) = some 0 ∧ ((rd_File l (n : Int)).f1 = true → (rd_File l (n : Int)).f2.data.toList = []) := by
        by_cases c1 : (rd_File l (n : Int)).f1 = true
        · rw [if_pos c1] at h
          by_cases c2 : (rd_File l (n : Int)).f2.toList = []
          · rw [if_pos c2] at h
            have c3 : (rd_File l (n : Int)).f2.data.toList = [] := by rw [← toL]; exact c2
            split at h
            · obtain ⟨-, a, b⟩ := j2 _ _ _ h; exact ⟨a, b, fun _ => c3⟩
            · obtain ⟨-, a, b⟩ := j2 _ _ _ h; exact ⟨a, b, fun _ => c3⟩
          · rw [if_neg c2] at h
            obtain ⟨e, -, -⟩ := j2 _ _ _ h
            cases e
        · rw [if_neg c1] at h
          split at h
          · obtain ⟨-, a, b⟩ := j2 _ _ _ h; exact ⟨a, b, fun e => absurd e c1⟩
          · obtain ⟨-, a, b⟩ := j2 _ _ _ h; exact ⟨a, b, fun e => absurd e c1⟩
      intro i hi1 hi2
      by_cases he : i = n
      · subst he; exact ⟨hp, fin.2.2, fin.1⟩
      · exact ih (n + 1) k (by omega) (by omega) (by omega) fin.2.1 i (by omega) hi2
theorem valid_files (l : List S_File) (k : Nat) (hk : 1900 ≤ k) (h : jobshellref19_Valid.f k l = some 0) : ∀ i, i < l.length → fileP l i := by
  obtain ⟨k, rfl, hk⟩ := fuel (k := k) (n := 1899) (by omega)
  unfold jobshellref19_Valid.f at h
  by_cases h1 : (l.length : Int) > 128
  · rw [if_pos h1] at h; exact absurd h (by decide)
  rw [if_neg h1] at h
  have j0 : ∀ b, jobshellref19_Valid.j0 (k + 1) l b = some 0 → ∀ i, i < l.length → fileP l i := by
    intro b h i hi
    rw [jobshellref19_Valid.j0] at h
    cases b with
    | true => rw [if_pos rfl] at h; exact absurd h (by decide)
    | false =>
      rw [if_neg (by decide)] at h
      exact valid_inv l (by omega) l.length 0 k (by omega) (by omega) (by omega) h i (by omega) hi
  by_cases h2 : (l.length : Int) = 0
  · rw [if_pos h2] at h; exact j0 _ h
  · rw [if_neg h2, if_pos (by omega)] at h; exact j0 _ h
theorem sorted_lt (l : List S_File) (h : ∀ i, i < l.length → fileP l i) (i : Nat) : ∀ d, i + d + 1 < l.length → Op.bytesLess (rd_File l (i : Nat)).f0.toList (rd_File l ((i + d + 1 : Nat) : Int)).f0.toList = true
  | 0, hd => (h (i + 1) hd).2.2 (by omega)
  | d + 1, hd => bl_trans _ _ _ (sorted_lt l h i d (by omega)) ((h (i + (d + 1) + 1) hd).2.2 (by omega))
theorem idxF_at (p : ByteArray) (l : List S_File) (i : Nat) : ∀ (d n : Nat), n + d = i → i < l.length → (rd_File l (i : Nat)).f0.toList = p.toList → (∀ j, n ≤ j → j < i → (rd_File l (j : Nat)).f0.toList ≠ p.toList) → idxF p (l.drop n) (n : Int) = (i : Int)
  | 0, n, hd, hi, he, hn => by
    rw [rd_drop l n (by omega), idxF, if_pos (by have : n = i := by omega
                                                 rw [this]; exact he)]
    omega
  | d + 1, n, hd, hi, he, hn => by
    rw [rd_drop l n (by omega), idxF, if_neg (hn n (by omega) (by omega))]
    exact idxF_at p l i d (n + 1) (by omega) hi he (fun j h1 h2 => hn j (by omega) h2)
theorem find_at (l : List S_File) (hl : l.length ≤ 1000) (h : ∀ i, i < l.length → fileP l i) (i : Nat) (hi : i < l.length) :
    files_Find.f l (rd_File l (i : Nat)).f0 = some ((rd_File l (i : Nat)).f0, (rd_File l (i : Nat)).f1, (rd_File l (i : Nat)).f2, true) := by
  unfold files_Find.f files_index.f
  have hx := idxF_at (rd_File l (i : Nat)).f0 l i i 0 (by omega) hi rfl (fun j _ hj e => by
    have := sorted_lt l h j (i - j - 1) (by omega)
    rw [show j + (i - j - 1) + 1 = i by omega, e, bl_irr] at this
    cases this)
  rw [List.drop_zero, show ((0 : Nat) : Int) = 0 from rfl] at hx
  rw [if_pos (by omega), Option.bind_some, hx, if_pos (by omega), if_pos (by omega), if_pos (by omega)]
theorem find_l0_p (l : List S_File) (s : ByteArray) (hl : l.length ≤ 1000) : ∀ (d n k : Nat), n ≤ l.length → l.length - n = d → d + 1 ≤ k → jobshellref19_find.l0 k l s (n : Int) = some (idxF s (l.drop n) (n : Int)) := by
  intro d
  induction d with
  | zero =>
    intro n k hn hd hk
    obtain ⟨k, rfl, hk⟩ := fuel (k := k) (n := 0) (by omega)
    rw [jobshellref19_find.l0, if_neg (by omega), List.drop_eq_nil_of_le (by omega)]
    rfl
  | succ d ih =>
    intro n k hn hd hk
    obtain ⟨k, rfl, hk⟩ := fuel (k := k) (n := 0) (by omega)
    rw [jobshellref19_find.l0, if_pos (by omega), if_pos (by omega), rd_drop l n (by omega), idxF]
    split
    · rfl
    · rw [wrap_succ (by omega), ih (n + 1) k (by omega) (by omega) (by omega)]; rfl
theorem Find_eq (l : List S_File) (s : ByteArray) (hl : l.length ≤ 1000) (k : Nat) (hk : 1001 ≤ k) : jobshellref19_Find.f k l s = files_Find.f l s := by
  unfold jobshellref19_Find.f files_Find.f files_index.f jobshellref19_find.f
  have h := find_l0_p l s hl l.length 0 k (by omega) (by omega) (by omega)
  rw [List.drop_zero, show ((0 : Nat) : Int) = 0 from rfl] at h
  rw [h, if_pos (by omega), Option.bind_some, Option.bind_some]
  have := idxF_bound s l 0
  by_cases h1 : idxF s l 0 < 0
  · rw [if_pos h1, if_neg (by omega)]
  · rw [if_neg h1, if_pos (by omega), if_pos (show idxF s l 0 ≥ 0 by omega), if_pos (by omega)]
theorem cleanN_names : ∀ (M ns : List (List UInt8)), M.all nameP = true → (pathOf (ns ++ M)).length ≤ 128 → cleanN M ns = (pathOf (ns ++ M), 0)
  | [], ns, _, hz => by rw [List.append_nil] at hz ⊢; rw [cleanN, if_neg (by omega)]
  | c :: r, ns, h, hz => by
    rw [List.all_cons, Bool.and_eq_true] at h
    have hc := nameP_ok c h.1
    rw [cleanN, if_neg (by simp [hc.1, hc.2.2.2.1]), if_neg hc.2.2.2.2, if_pos h.1, cleanN_names r (ns ++ [c]) h.2 (by simpa using hz)]
    simp
theorem clean_path (p : List UInt8) (h : pathP p = true) : cleanF [47] p = (p, 0) := by
  obtain ⟨n1, n2, n3⟩ := names_path p h
  unfold cleanF
  rw [if_pos (by decide)]
  have hh : p ≠ [] ∧ p.head? = some 47 ∧ (p = [47] ∨ (p ≠ [47] ∧ ∃ t, p = 47 :: t)) := by
    by_cases h1 : p = [47]
    · subst h1; exact ⟨by decide, rfl, Or.inl rfl⟩
    · unfold pathP at h
      rw [decide_eq_false h1, Bool.false_or, Bool.and_eq_true, Bool.and_eq_true] at h
      have h3 := of_decide_eq_true h.1.2
      cases p with
      | nil => cases h3
      | cons a t => simp at h3; subst h3; exact ⟨by simp, rfl, Or.inr ⟨h1, t, rfl⟩⟩
  rw [if_neg hh.1, if_pos hh.2.1]
  rcases hh.2.2 with rfl | ⟨h1, t, rfl⟩
  · rfl
  · rw [sp_slash, cleanN, if_pos (Or.inl rfl)]
    unfold namesOf at n1 n2
    rw [if_neg h1] at n1 n2
    rw [show (47 :: t).drop 1 = t from rfl] at n1 n2
    rw [cleanN_names (sp t) [] n2 (by rw [List.nil_append, n1]; exact n3), List.nil_append, n1]
end Go.Proofs.YtoeiohfljaboaaaDoor.Pure
set_option linter.unusedVariables false
set_option linter.unusedSimpArgs false
namespace Go.Proofs.YtoeiohfljaboaaaDoor.Pure
open Go.RowKit Go.Proofs.YtoeiohfljaboaaaDoor.F Go.Proofs.YtoeiohfljaboaaaDoorW.PrintWords
theorem awake_files : jobshelllaw29_awake.f = some true := by decide +kernel
theorem eval2 (a b : ByteArray) (fs : List S_File) (cwd : ByteArray) (ha : ¬ a.toList = [33]) (hu : uB a = true) (v : Bool) (h : tOne EK fs cwd a b = some v) : testexpr_Eval.f [a, b] fs cwd = some (v, 0) := by
  unfold testexpr_Eval.f
  rw [if_pos (by simp)]
  simp only [tShort]
  rw [if_neg ha, if_pos hu, h]; rfl
theorem four (fs : List S_File) (cwd s : ByteArray) (p : ByteArray × Int) (q : ByteArray × Bool × ByteArray × Bool) (hc : files_Clean.f EK cwd s = some p) (hf : files_Find.f fs p.1 = some q) :
    testexpr_Eval.f [(⟨#[45, 101]⟩ : ByteArray), s] fs cwd = some (decide (p.2 = 0) && q.2.2.2, 0) ∧
    testexpr_Eval.f [(⟨#[45, 102]⟩ : ByteArray), s] fs cwd = some ((decide (p.2 = 0) && q.2.2.2) && !q.2.1, 0) ∧
    testexpr_Eval.f [(⟨#[45, 100]⟩ : ByteArray), s] fs cwd = some ((decide (p.2 = 0) && q.2.2.2) && q.2.1, 0) ∧
    testexpr_Eval.f [(⟨#[45, 115]⟩ : ByteArray), s] fs cwd = some ((decide (p.2 = 0) && q.2.2.2) && ((q.2.2.1.toList != ([] : List UInt8)) && !q.2.1), 0) := by
  have one : ∀ (op : ByteArray) (A : Bool), ¬ op.toList = [45, 110] → ¬ op.toList = [45, 122] →
      (if op.toList = [45, 100] then some q.2.1 else if op.toList = [45, 115] then (if q.2.2.1.toList = ([] : List UInt8) then some false else some (!q.2.1)) else if op.toList = [45, 102] then some (!q.2.1) else some true) = some A →
      tOne EK fs cwd op s = some ((decide (p.2 = 0) && q.2.2.2) && A) := by
    intro op A h1 h2 hA
    unfold tOne
    rw [if_neg h1, if_neg h2, hc, Option.bind_some]
    by_cases hz : p.2 = 0
    · rw [if_pos hz, hf, Option.bind_some, decide_eq_true hz, Bool.true_and]
      cases hq : q.2.2.2 with
      | false => rw [if_neg (by decide)]; rfl
      | true => rw [if_pos rfl, hA]; rfl
    · rw [if_neg hz, decide_eq_false hz]; rfl
  have e1 := one (⟨#[45, 101]⟩ : ByteArray) true (by decide +kernel) (by decide +kernel) (by rw [if_neg (by decide +kernel), if_neg (by decide +kernel), if_neg (by decide +kernel)])
  rw [Bool.and_true] at e1
  refine ⟨eval2 _ s fs cwd (by decide +kernel) (by decide +kernel) _ e1, eval2 _ s fs cwd (by decide +kernel) (by decide +kernel) _ (one _ _ (by decide +kernel) (by decide +kernel) ?_), eval2 _ s fs cwd (by decide +kernel) (by decide +kernel) _ (one _ _ (by decide +kernel) (by decide +kernel) ?_), eval2 _ s fs cwd (by decide +kernel) (by decide +kernel) _ (one _ _ (by decide +kernel) (by decide +kernel) ?_)⟩
  · rw [if_neg (by decide +kernel), if_neg (by decide +kernel), if_pos (by decide +kernel)]
  · rw [if_pos (by decide +kernel)]
  · rw [if_neg (by decide +kernel), if_pos (by decide +kernel)]
    by_cases he : q.2.2.1.toList = []
    · rw [if_pos he, he]; rfl
    · rw [if_neg he, show (q.2.2.1.toList != ([] : List UInt8)) = true from bne_iff_ne.2 he]; rfl
theorem files_loop (l : List S_File) (hl : l.length ≤ 40) (h : ∀ i, i < l.length → fileP l i) : ∀ (d n k : Nat), n ≤ l.length → l.length - n = d → d + 1 ≤ k → jobshelllaw29_TestexprFiles.l0 k l (n : Int) = some true := by
  intro d
  induction d with
  | zero =>
    intro n k hn hd hk
    obtain ⟨k, rfl, hk⟩ := fuel (k := k) (n := 0) (by omega)
    rw [jobshelllaw29_TestexprFiles.l0, if_neg (by omega), awake_files]; rfl
  | succ d ih =>
    intro n k hn hd hk
    obtain ⟨k, rfl, hk⟩ := fuel (k := k) (n := 0) (by omega)
    obtain ⟨h1, h2, -⟩ := h n (by omega)
    have hsz : (rd_File l (n : Int)).f0.size ≤ 128 := by rw [← size_data]; exact (names_path _ h1).2.2
    have hc := clean_p (⟨#[47]⟩ : ByteArray) (rd_File l (n : Int)).f0 EK (by decide) (by omega)
    rw [show (⟨#[47]⟩ : ByteArray).data.toList = [47] from rfl, clean_path _ h1] at hc
    unfold toBA at hc
    rw [ba_of] at hc
    obtain ⟨-, -, e3, e4⟩ := four l (⟨#[47]⟩ : ByteArray) (rd_File l (n : Int)).f0 _ _ hc (find_at l (by omega) h n (by omega))
    rw [jobshelllaw29_TestexprFiles.l0, if_pos (by omega), if_pos (by omega), e3, Option.bind_some, e4, Option.bind_some, if_pos rfl, if_pos rfl, wrap_succ (by omega)]
    have ihn := ih (n + 1) k (by omega) (by omega) (by omega)
    dsimp only
    rw [show decide ((0 : Int) = 0) = true from rfl, Bool.true_and, Bool.true_and, Bool.true_and]
    cases hd1 : (rd_File l (n : Int)).f1 with
    | true =>
      rw [toL, h2 hd1]
      rw [if_neg (by decide), if_neg (by decide)]
      exact ihn
    | false =>
      rw [if_neg (by decide)]
      cases hz : ((rd_File l (n : Int)).f2.toList != ([] : List UInt8)) with
      | true => rw [if_neg (by decide)]; exact ihn
      | false => rw [if_neg (by decide)]; exact ihn
theorem TestexprFiles (l0 : List S_File) (a1 a2 : ByteArray) {P Q R : Prop} (w0 : P) (w1 : Q) (w2 : R) : ∃ k, jobshelllaw29_TestexprFiles.f k l0 a1 a2 = some true := by
  refine ⟨2000, ?_⟩
  unfold jobshelllaw29_TestexprFiles.f
  obtain ⟨b, h, hb⟩ := guard_f [a2] l0 a1 2000 (by decide)
  rw [h, Option.bind_some]
  cases b with
  | false => rw [if_neg (by decide), awake_files]; rfl
  | true =>
    rw [if_pos rfl]
    obtain ⟨-, hs, hl, hv, ha1⟩ := hb rfl
    have ha2 : a2.size ≤ 40 := hs 0 (by simp)
    have hfile := valid_files l0 2000 (by decide) hv
    obtain ⟨p, hp⟩ := clean_f a1 a2 EK (by decide) (by omega)
    obtain ⟨q, hq⟩ := find_f l0 p.1 (by omega)
    obtain ⟨e1, e2, e3, e4⟩ := four l0 a1 a2 p q hp hq
    have jf : jobshelllaw29_TestexprFiles.j0 2000 l0 false = some true := by
      rw [jobshelllaw29_TestexprFiles.j0, if_neg (by decide)]
      exact files_loop l0 hl hfile l0.length 0 1999 (by omega) (by omega) (by omega)
    rw [e1, Option.bind_some, e2, Option.bind_some, e3, Option.bind_some, e4, Option.bind_some]
    dsimp only
    rw [if_pos rfl, if_pos rfl, if_pos rfl, if_pos rfl]
    generalize (decide (p.2 = 0) && q.2.2.2) = f
    generalize (q.2.2.1.toList != ([] : List UInt8)) = z
    generalize q.2.1 = d
    cases f <;> cases z <;> cases d <;> exact jf
end Go.Proofs.YtoeiohfljaboaaaDoor.Pure
namespace Go.Proofs.YtoeiohfljaboaaaDoor.testexprFiles
open Go.ChangeShapes Go.WideShapes Go.ChangeAt Go.RowKit
open Go.ChangeMaps (open_string shut_string)
open Go.Proofs.YtoeiohfljaboaaaDoor.F Go.Proofs.YtoeiohfljaboaaaDoorW.PrintWords Go.Proofs.YtoeiohfljaboaaaDoor.Opn
set_option linter.unusedVariables false
set_option linter.unusedSimpArgs false
theorem own : ownKnob Tryd.prog.godebug = none := by kernel_rfl
theorem laidOut : laidOutB Tryd.prog = true := by kernel_rfl
set_option maxRecDepth 100000 in
set_option maxHeartbeats 1000000 in
theorem lifted (os : Os) (started : os.Started) (H : Type) (enc : TypeId × Value → H) :
    ReturnsInHanded {} Tryd.checked os 7 .any (fun w args => (Rows.testexprFilesSpec.pre enc Tryd.prog Tryd.f7 [] false w args ∧ laidMetH Tryd.prog Rows.testexprFilesRow.laid w) ∧ sizedMet enc Tryd.prog Tryd.f7 (OpenSpec.ofChange Rows.testexprFilesSpec) false w args)
      (Rows.testexprFilesSpec.post enc Tryd.prog Tryd.f7 false true false false) := by
  refine handed_and_shaped (C := Tryd.checked) (X := fun w _ => laidMetH Tryd.prog Rows.testexprFilesRow.laid w) (fun _ _ _ hh h => h.of_heap hh) own started (by kernel_rfl) Tryd.func7
    (ChangeSpec.witness_shaped (enc := enc) (C := Tryd.checked) (os := os) (X := fun w _ => laidMetH Tryd.prog Rows.testexprFilesRow.laid w) false (World.laidAll Tryd.prog os Rows.testexprFilesRow.laid) #[.slice none 0 0, .string ByteArray.empty, .string ByteArray.empty] 8 (World.laidAll_os _ _ _)
      (World.shaped_of_ZipB (by kernel_rfl) (by kernel_rfl)) (by kernel_rfl) (by kernel_rfl) (by kernel_rfl)
      (by rw [MakeChecks.laidMetH_plain _ _ _ (by kernel_rfl)]; exact laidMet_laidAll _ (by kernel_rfl) (by kernel_rfl))) ?_
  intro W base args ds gs before hval0 hW _ hsz0 hL hSh
  have hsz : (DataW.weightsEach Tryd.prog (Tryd.f7.params.toList ++ Rows.testexprFilesSpec.plain.varTypes Tryd.prog) (ds ++ gs)).all (· ≤ reachBytes) = true := hsz0
  have hval : ∀ (j : Nat) t v, Tryd.f7.params[j]? = some t → args[j]? = some v → Value.okWide Tryd.prog W .any base t v := hval0
  have hW' := hW
  obtain ⟨p, q, hA0, hV, rfl, hfz, hnd⟩ := hW
  have hA : DataW.TrodAll enc Tryd.prog W 0 (fun _ => true) true Tryd.f7.params.toList args.toList ds p := hA0
  rw [Tryd.params7] at hA hval hsz
  obtain ⟨v0, vs0, d0, ds0, p0, q0, hargs, rfl, rfl, h0, r0⟩ := trodAll_cons hA
  obtain ⟨v1, vs1, d1, ds1, p1, q1, rfl, rfl, rfl, h1, r1⟩ := trodAll_cons r0
  obtain ⟨v2, vs2, d2, ds2, p2, q2, rfl, rfl, rfl, h2, r2⟩ := trodAll_cons r1
  obtain ⟨rfl, rfl, rfl⟩ := trodAll_nil r2
  obtain rfl : args = #[v0, v1, v2] := by cases args; simp_all
  obtain ⟨rfl, rfl⟩ := trodVars_none hV
  have k0 := h0
  have lt0 : ∀ x ∈ p0, x.block < W.heap.size := by obtain ⟨m, hm⟩ := k0; exact DataW.trod_lt m _ _ _ hm
  obtain ⟨A0, c0, l0, rfl, hc0, hr0, w0⟩ := arg_slice (opens_slice Tryd.underlying23 opens37 (by kernel_rfl)) (okWide_slice Tryd.underlying23 (hval 0 23 v0 rfl rfl)) h0
  obtain ⟨a1, rfl, rfl, rfl, y1⟩ := open_string Tryd.underlying9 (hval 1 9 v1 rfl rfl) h1
  have w1 : a1.size ≤ 140737488351232 := by
    have z := sized_string hsz (j := 1) (t := 9) rfl rfl
    rw [Array.length_toList] at z
    exact z
  obtain ⟨a2, rfl, rfl, rfl, y2⟩ := open_string Tryd.underlying9 (hval 2 9 v2 rfl rfl) h2
  have w2 : a2.size ≤ 140737488351232 := by
    have z := sized_string hsz (j := 2) (t := 9) rfl rfl
    rw [Array.length_toList] at z
    exact z
  clear hA0 hval0 hsz0 hsz
  obtain ⟨k, hk_⟩ := Go.Proofs.YtoeiohfljaboaaaDoor.Pure.TestexprFiles l0 a1 a2 w0 w1 w2
  refine (jobshelllaw29_TestexprFiles.calls k A0 c0 l0 a1 a2 true W hr0 hc0 (amb_shaped hSh) hk_).mono fun e W' ⟨he, bel0⟩ => ?_
  have bel : Below W.heap.size W W' := bel0
  subst he
  exact ⟨_, rfl, _, _, _, [], _, [], hW', trodAll_mk1 (shut_bool Tryd.underlying4 _), (trodAll_cons_mk (Below.trod laidOut (by kernel_rfl) (of_decide_eq_true (by kernel_rfl)) k0 bel lt0) (trodAll_cons_mk (shut_string Tryd.underlying9 y1) (trodAll_cons_mk (shut_string Tryd.underlying9 y2) trodAll_mk0))), rfl, bel.frame _, fun h => by cases h⟩
theorem over : Rows.testexprFilesRow.holds Tryd.pinned (OpenSpec.ofChange Rows.testexprFilesSpec) :=
  OpenClaim.holds_of_wide 7 Tryd.f7 rfl rfl rfl rfl rfl rfl rfl ⟨rfl, rfl, rfl, rfl, rfl⟩ rfl rfl rfl rfl rfl (by kernel_rfl) Tryd.func7 (by kernel_rfl)
    (of_decide_eq_true (by kernel_rfl)) (by unfold Func.isWrapper; first | (rw [if_pos (by decide +kernel)]; kernel_rfl) | (rw [if_neg (by decide +kernel)]; exact ⟨rfl, rfl⟩))
    (fun os started H enc _ => lifted os started H enc)
theorem card : Rows.TestexprFilesCardSaid :=
  Claim7.holds_tied_plain_at .later [] [.data, .pinned] true (true, "aacb5983c18f5337dcd45483c6c156b2b676d1e2300df527b101564bf02ef163") false over (fun _ h => by cases h) (by kernel_rfl) (fun _ h => by cases h) testexprFiles_row_tie rfl ⟨rfl, rfl⟩ (by kernel_rfl) rfl
    (fun f fn hf hfn => by
      obtain rfl : f = 7 := Option.some.inj ((show Tryd.prog.funcNamed "jobshell/jobshelllaw29.TestexprFiles" = some 7 by kernel_rfl).symm.trans hf) |>.symm
      obtain rfl : fn = Tryd.f7 := (Option.some.inj (Tryd.func7.symm.trans hfn)).symm
      exact ⟨by kernel_rfl, fun j t ht => by
        rw [Tryd.params7] at ht
        have hm : t ∈ [23, 9, 9] := by simpa using Array.mem_of_getElem? ht
        have hall : ([23, 9, 9].all fun u => !Tryd.prog.wantsStandIn u) = true := by kernel_rfl
        exact (show Tryd.prog.wantsStandIn t = false by simpa using List.all_eq_true.1 hall t hm)⟩)
    (by kernel_rfl)
#print axioms card
end Go.Proofs.YtoeiohfljaboaaaDoor.testexprFiles
namespace Go.Proofs.YtoeiohfljaboaaaDoor
theorem testexprFiles_holds : Rows.TestexprFilesCardSaid := testexprFiles.card
end Go.Proofs.YtoeiohfljaboaaaDoor
