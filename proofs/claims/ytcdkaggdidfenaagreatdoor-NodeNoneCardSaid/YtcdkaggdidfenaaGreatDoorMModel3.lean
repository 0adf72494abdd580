/- A part of the proof: contracts of functions of the given program, and the laws on memory that they lean on. -/
import Derived.Test.YtcdkaggdidfenaaGreatDoorMModel2
set_option linter.all false
namespace St
theorem setOk_len : ∀ (l : List Int) (last : Int), -1 ≤ last → setOk last l = true → (l.length : Int) ≤ 5 - last ∨ l = [] := by
  intro l
  induction l with
  | nil => intro _ _ _; exact .inr rfl
  | cons y l ih =>
    intro last hl h
    simp only [setOk, Bool.and_eq_true, isSplit, within, decide_eq_true_eq] at h
    obtain ⟨⟨⟨h1, h2⟩, h3⟩, h4⟩ := h
    left
    rcases ih y (by omega) h4 with h5 | h5
    · simp only [List.length_cons]; omega
    · subst h5; simp; omega

structure RecTiny (r : Rec) : Prop where
  s : r.set.length ≤ 6
  p : r.pairs.length ≤ 40
  k : ∀ p ∈ r.pairs, p.key.size ≤ 16 ∧ p.val.size ≤ 64

theorem recMay_tiny {r : Rec} (h : recMay r = true) : RecTiny r := by
  unfold recMay at h
  split at h
  · cases h
  · rename_i hn
    have hs0 : r.kind ≠ 1 → r.kind ≠ 5 → r.set.length = 0 := fun h1 h5 => by
      by_cases hl : 0 < r.set.length
      · exact absurd (.inl ⟨h1, h5, hl⟩) hn
      · omega
    have hp0 : r.kind ≠ 4 → r.pairs.length = 0 := fun h4 => by
      by_cases hl : 0 < r.pairs.length
      · exact absurd (.inr (.inl ⟨h4, hl⟩)) hn
      · omega
    refine ⟨?_, ?_, ?_⟩
    · by_cases h1 : r.kind = 1
      · rw [if_pos h1] at h
        simp only [Bool.and_eq_true, countsOk, decide_eq_true_eq] at h
        omega
      · by_cases h5 : r.kind = 5
        · rw [if_neg h1, if_neg (by omega), if_neg (by omega), if_neg (by omega), if_pos h5] at h
          simp only [Bool.and_eq_true] at h
          rcases setOk_len _ _ (by omega) h.2 with h6 | h6
          · omega
          · rw [h6]; simp
        · have := hs0 h1 h5; omega
    · by_cases h4 : r.kind = 4
      · rw [if_neg (by omega), if_neg (by omega), if_neg (by omega), if_pos h4] at h
        simp only [Bool.and_eq_true, decide_eq_true_eq] at h
        omega
      · have := hp0 h4; omega
    · by_cases h4 : r.kind = 4
      · rw [if_neg (by omega), if_neg (by omega), if_neg (by omega), if_pos h4] at h
        simp only [Bool.and_eq_true, pairsMay, List.all_eq_true] at h
        intro p hp
        have := h.2 p hp
        simp only [pairOk, Bool.and_eq_true, decide_eq_true_eq] at this
        exact this
      · have := hp0 h4
        intro p hp
        rw [List.eq_nil_of_length_eq_zero this] at hp
        cases hp

theorem RecTiny.small {r : Rec} (h : RecTiny r) : RecSmall r := ⟨by have := h.s; omega, by have := h.p; omega, fun p hp => by have := h.k p hp; omega⟩
theorem pairsB_tiny (l : List Pr) (h : ∀ p ∈ l, p.key.size ≤ 16 ∧ p.val.size ≤ 64) : (l.flatMap (fun p => textB p.key ++ textB p.val)).length ≤ 96 * l.length := by
  induction l with
  | nil => simp
  | cons x l ih =>
    have h1 := h x (.head _)
    have h2 := ih (fun p hp => h p (.tail _ hp))
    rw [List.flatMap_cons, List.length_append, List.length_append, textB_len, textB_len, List.length_cons]
    omega
theorem bodyB_tiny {r : Rec} (h : RecTiny r) : (bodyB r).length ≤ 4000 := by
  have h1 := h.s
  have h2 := h.p
  have h3 := pairsB_tiny r.pairs h.k
  unfold bodyB
  rw [List.length_append, List.length_append, List.length_append, numsB_len, numsB_len, numB_len]
  simp only [List.length_cons, List.length_nil]
  omega
theorem recB_len (r : Rec) : (recB r).length = 8 + (bodyB r).length := by
  rw [recB, textB_len]; rfl
theorem recB_tiny {r : Rec} (h : recMay r = true) : (recB r).length ≤ 4008 := by
  rw [recB_len]; have := bodyB_tiny (recMay_tiny h); omega
theorem recsB_len (l : List Rec) (h : ∀ r ∈ l, recMay r = true) : (l.flatMap recB).length ≤ 4008 * l.length := by
  induction l with
  | nil => simp
  | cons x l ih =>
    have h1 := recB_tiny (h x (.head _))
    have h2 := ih (fun p hp => h p (.tail _ hp))
    rw [List.flatMap_cons, List.length_append, List.length_cons]; omega

/-! ### a reader stays within its bytes -/
def Rdr.ok (s : Rdr) : Prop := 0 ≤ s.p ∧ s.p ≤ s.b.length
theorem readNum_ok' {l : List UInt8} {p : Int} (h : (readNum l p).2.2 = true) : 0 ≤ p ∧ p + 8 ≤ l.length ∧ (readNum l p).2.1 = p + 8 := by
  unfold readNum at *
  split at h
  · cases h
  · rename_i hb
    rw [if_neg hb]
    exact ⟨by omega, by omega, rfl⟩
theorem readText_ok' {l : List UInt8} {p : Int} (h : (readText l p).2.2 = true) : 0 ≤ p ∧ p + 8 ≤ (readText l p).2.1 ∧ (readText l p).2.1 ≤ l.length := by
  have hn := @readNum_ok' l p
  unfold readText at *
  rcases hr : readNum l p with ⟨n, nx, ok⟩
  rw [hr] at h hn
  simp only at h hn ⊢
  split at h
  · cases h
  · rename_i hb
    rw [if_neg hb]
    cases ok
    · exact absurd (.inl rfl) hb
    · obtain ⟨h1, h2, h3⟩ := hn rfl
      simp only
      omega
theorem Rdr.ok_num {s : Rdr} (h : s.ok) : s.num.2.ok := by
  obtain ⟨h1, h2⟩ := h
  have hn := @readNum_ok' s.b s.p
  unfold Rdr.ok Rdr.num
  simp only
  split
  · rename_i hr
    obtain ⟨_, h3, h4⟩ := hn hr
    rw [h4]; omega
  · exact ⟨h1, h2⟩
theorem Rdr.ok_text {s : Rdr} (h : s.ok) : s.text.2.ok := by
  obtain ⟨h1, h2⟩ := h
  have hn := @readText_ok' s.b s.p
  unfold Rdr.ok Rdr.text
  simp only
  split
  · rename_i hr
    obtain ⟨_, h3, h4⟩ := hn hr
    omega
  · exact ⟨h1, h2⟩
theorem Rdr.ok_count {s : Rdr} (h : s.ok) (m : Int) : (s.count m).2.ok := by
  unfold Rdr.count
  split
  · exact Rdr.ok_num h
  · exact Rdr.ok_num h
theorem Rdr.b_num (s : Rdr) : s.num.2.b = s.b := rfl
theorem Rdr.b_text (s : Rdr) : s.text.2.b = s.b := rfl
theorem Rdr.b_count (s : Rdr) (m : Int) : (s.count m).2.b = s.b := by unfold Rdr.count; split <;> rfl
theorem Rdr.b_nums (n : Nat) (s : Rdr) : (s.nums n).2.b = s.b := by induction n with
  | zero => rfl
  | succ n ih => exact ih
theorem Rdr.b_prs (n : Nat) (s : Rdr) : (s.prs n).2.b = s.b := by induction n with
  | zero => rfl
  | succ n ih => exact ih
theorem Rdr.ok_nums {s : Rdr} (h : s.ok) (n : Nat) : (s.nums n).2.ok := by induction n with
  | zero => exact h
  | succ n ih => exact Rdr.ok_num ih
theorem Rdr.ok_prs {s : Rdr} (h : s.ok) (n : Nat) : (s.prs n).2.ok := by induction n with
  | zero => exact h
  | succ n ih => exact Rdr.ok_text (Rdr.ok_text ih)
theorem Rdr.nums_len (s : Rdr) (n : Nat) : (s.nums n).1.length = n := by induction n with
  | zero => rfl
  | succ n ih => simp [Rdr.nums, ih]
theorem Rdr.prs_len (s : Rdr) (n : Nat) : (s.prs n).1.length = n := by induction n with
  | zero => rfl
  | succ n ih => simp [Rdr.prs, ih]
theorem Rdr.count_le (s : Rdr) (m : Int) (hm : 0 ≤ m) : 0 ≤ (s.count m).1 ∧ (s.count m).1 ≤ m := by
  unfold Rdr.count
  split
  · rename_i h
    simpa [within] using h
  · exact ⟨Int.le_refl _, hm⟩
end St
