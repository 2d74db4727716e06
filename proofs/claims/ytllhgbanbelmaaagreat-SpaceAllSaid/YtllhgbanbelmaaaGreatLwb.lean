/- The plain law of SpaceAll: the first n+1 bytes one, then a list given back. No program in sight. -/
import Derived.Test.YtllhgbanbelmaaaGreatSpe
import Derived.Test.YtllhgbanbelmaaaGreatLwa
namespace Go.Proofs.YtllhgbanbelmaaaGreat
open Go.RowKit
variable {c : List UInt8} {np : Nat} {l : List Int}

def ones (n : Nat) : List UInt8 := List.replicate (n + 1) 1 ++ List.replicate (503 - n) 0
theorem ones_zero : (List.replicate 504 (0 : UInt8)).set 0 1 = ones 0 := by kernel_rfl
theorem ones_succ (n : Nat) (h : n < 503) : (ones n).set (n + 1) 1 = ones (n + 1) := by
  unfold ones
  rw [List.set_append_right _ _ (by rw [List.length_replicate]; exact Nat.le_refl _), List.length_replicate, Nat.sub_self]
  rw [show 503 - n = (503 - (n + 1)) + 1 by omega, List.replicate_succ (n := 503 - (n + 1)), List.set_cons_zero, List.replicate_succ' (n := n + 1), List.append_assoc]
  rfl
theorem ones_set (n : Nat) (p : Nat) : isSet (ones n) p = decide (p ≤ n) := by
  unfold isSet ones
  by_cases h : p ≤ n
  · rw [List.getElem?_append_left (by rw [List.length_replicate]; omega), List.getElem?_replicate, if_pos (by omega), decide_eq_true h]
    rfl
  · rw [List.getElem?_append_right (by rw [List.length_replicate]; omega), List.length_replicate, List.getElem?_replicate, decide_eq_false h]
    split <;> rename_i heq
    · split at heq
      · injection heq with heq; subst heq; rfl
      · cases heq
    · rfl
theorem cnt_step (c : List UInt8) (m : Nat) (h : m < c.length) : cntB c (m + 1) = cntB c m + if isSet c m then 1 else 0 := by
  have hb : c[m]? = some c[m] := List.getElem?_eq_getElem h
  rw [cntB_succ hb]
  unfold isSet
  rw [hb]
theorem ones_length (n : Nat) (h : n ≤ 503) : (ones n).length = 504 := by
  unfold ones
  rw [List.length_append, List.length_replicate, List.length_replicate]
  omega
theorem ones_cnt (n m : Nat) (hn : n < 503) (hm : m ≤ 504) : cntB (ones n) m = if m ≤ n + 1 then m else n + 1 := by
  induction m with
  | zero => rfl
  | succ m ih =>
    rw [cnt_step _ _ (by rw [ones_length n (by omega)]; omega), ih (by omega), ones_set]
    by_cases h1 : m + 1 ≤ n + 1
    · rw [if_pos h1, if_pos (by omega), decide_eq_true (by omega)]
      rfl
    · rw [if_neg h1, decide_eq_false (by omega)]
      split <;> simp <;> omega
theorem isSet_set (c : List UInt8) (p q : Nat) (hp : p < c.length) : isSet (c.set p 0) q = if q = p then false else isSet c q := by
  unfold isSet
  rw [List.getElem?_set]
  by_cases h : p = q
  · subst h
    simp [hp]
  · rw [if_neg h, if_neg (Ne.symm h)]
theorem cnt_set (c : List UInt8) (p m : Nat) (hp : p < c.length) (hs : isSet c p = true) (hm : m ≤ c.length) : cntB (c.set p 0) m + (if p < m then 1 else 0) = cntB c m := by
  induction m with
  | zero => rfl
  | succ m ih =>
    have ih := ih (by omega)
    rw [cnt_step _ _ (by rw [List.length_set]; omega), cnt_step _ _ (by omega), isSet_set _ _ _ hp]
    by_cases h : m = p
    · subst h
      rw [if_neg (Nat.lt_irrefl _)] at ih
      rw [if_pos rfl, hs, if_pos (Nat.lt_succ_self _)]
      simp only [Bool.false_eq_true, if_false, if_true]
      omega
    · rw [if_neg h]
      by_cases h2 : p < m
      · rw [if_pos h2] at ih
        rw [if_pos (show p < m + 1 by omega)]
        omega
      · rw [if_neg h2] at ih
        rw [if_neg (show ¬ p < m + 1 by omega)]
        omega
theorem given_set (hg : giveOk c np l) (hnp : np ≤ c.length) (j : Nat) (hj : j ≤ l.length) (q : Nat) : isSet (given c (l.take j)) q = (isSet c q && !decide ((q : Int) ∈ l.take j)) := by
  induction j with
  | zero => simp [given]
  | succ j ih =>
    have hp : l[j]? = some l[j] := List.getElem?_eq_getElem (by omega)
    obtain ⟨h1, h2, h3, h4⟩ := hg j _ hp
    have hm : ((q : Int) ∈ l.take (j + 1)) = ((q : Int) ∈ l.take j ∨ (q : Int) = l[j]) := by rw [take_snoc hp, List.mem_append, List.mem_singleton]
    rw [given_take c l j _ hp, isSet_set _ _ _ (by rw [given_length]; omega), ih (by omega)]
    simp only [hm]
    by_cases e : q = l[j].toNat
    · have e2 : (q : Int) = l[j] := by omega
      rw [if_pos e, decide_eq_true (.inr e2)]
      simp
    · have e2 : (q : Int) ≠ l[j] := by omega
      rw [if_neg e]
      simp [e2]
theorem given_cnt (hg : giveOk c np l) (hnp : np ≤ c.length) (j : Nat) (hj : j ≤ l.length) : cntB (given c (l.take j)) np + j = cntB c np := by
  induction j with
  | zero => simp [given]
  | succ j ih =>
    have hp : l[j]? = some l[j] := List.getElem?_eq_getElem (by omega)
    obtain ⟨h1, h2, h3, h4⟩ := hg j _ hp
    have ih := ih (by omega)
    have hs : isSet (given c (l.take j)) l[j].toNat = true := by
      rw [given_set hg hnp j (by omega), h3, show ((l[j].toNat : Nat) : Int) = l[j] by omega]
      simpa using h4
    have := cnt_set (given c (l.take j)) l[j].toNat np (by rw [given_length]; omega) hs (by rw [given_length]; omega)
    rw [if_pos (by omega)] at this
    rw [given_take c l j _ hp]
    omega
/-- the verdict on the list, as far as place i -/
def Gd (n : Int) (l : List Int) (i : Nat) : Prop := ∀ (j : Nat) (p : Int), j < i → l[j]? = some p → 1 ≤ p ∧ p ≤ n ∧ p ∉ l.take j
/-- and at place i against the first k -/
def Gk (n : Int) (l : List Int) (i k : Nat) : Prop := Gd n l i ∧ ∀ p : Int, l[i]? = some p → 1 ≤ p ∧ p ≤ n ∧ p ∉ l.take k
theorem Gk.step {n : Int} {i : Nat} : Gd n l (i + 1) ↔ Gk n l i i := by
  constructor
  · intro h
    exact ⟨fun j p hj hp => h j p (by omega) hp, fun p hp => h i p (by omega) hp⟩
  · rintro ⟨h1, h2⟩ j p hj hp
    by_cases e : j = i
    · subst e; exact h2 p hp
    · exact h1 j p (by omega) hp
theorem Gk.zero {n p : Int} {i : Nat} (hp : l[i]? = some p) : Gk n l i 0 ↔ Gd n l i ∧ 1 ≤ p ∧ p ≤ n := by
  constructor
  · rintro ⟨h1, h2⟩
    have := h2 p hp
    exact ⟨h1, this.1, this.2.1⟩
  · rintro ⟨h1, h2, h3⟩
    refine ⟨h1, fun q hq => ?_⟩
    rw [hp] at hq
    injection hq with hq
    subst hq
    exact ⟨h2, h3, by simp⟩
theorem Gk.succ {n p q : Int} {i k : Nat} (hp : l[i]? = some p) (hq : l[k]? = some q) : Gk n l i (k + 1) ↔ Gk n l i k ∧ q ≠ p := by
  unfold Gk
  rw [take_snoc hq]
  constructor
  · rintro ⟨h1, h2⟩
    refine ⟨⟨h1, fun x hx => ?_⟩, ?_⟩
    · have := h2 x hx
      exact ⟨this.1, this.2.1, fun hm => this.2.2 (List.mem_append_left _ hm)⟩
    · rintro rfl
      exact (h2 q hp).2.2 (by simp)
  · rintro ⟨⟨h1, h2⟩, h3⟩
    refine ⟨h1, fun x hx => ?_⟩
    have := h2 x hx
    rw [hp] at hx
    injection hx with hx
    subst hx
    exact ⟨this.1, this.2.1, by simp only [List.mem_append, List.mem_singleton, not_or]; exact ⟨this.2.2, Ne.symm h3⟩⟩
theorem good_iff (n : Nat) (hn : n ≤ 30) : Gd n l l.length ↔ giveOk (ones n) 190 l := by
  constructor
  · intro h j p hp
    obtain ⟨hj, _⟩ := List.getElem?_eq_some_iff.1 hp
    obtain ⟨h1, h2, h3⟩ := h j p hj hp
    exact ⟨h1, by omega, by rw [ones_set]; exact decide_eq_true (by omega), h3⟩
  · intro h j p hj hp
    obtain ⟨h1, h2, h3, h4⟩ := h j p hp
    rw [ones_set] at h3
    have := of_decide_eq_true h3
    exact ⟨h1, by omega, h4⟩
theorem given_off (hg : giveOk c np l) (hnp : np ≤ c.length) (j : Nat) (p : Int) (hp : l[j]? = some p) : isSet (given c l) p.toNat = false := by
  have := given_set hg hnp l.length (Nat.le_refl _) p.toNat
  have h1 := (hg j p hp).1
  rw [List.take_length] at this
  rw [this, show ((p.toNat : Nat) : Int) = p by omega, decide_eq_true (List.mem_of_getElem? hp)]
  simp
theorem given_count (n : Nat) (hn : n ≤ 30) (hg : giveOk (ones n) 190 l) : cntB (given (ones n) l) 190 + l.length = n + 1 := by
  have := given_cnt hg (by rw [ones_length n (by omega)]; decide) l.length (Nat.le_refl _)
  rw [List.take_length, ones_cnt n 190 (by omega) (by decide), if_neg (by omega)] at this
  exact this
end Go.Proofs.YtllhgbanbelmaaaGreat
