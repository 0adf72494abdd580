/- A part of the proof: contracts of functions of the given program, and the laws on memory that they lean on. -/
import Derived.Test.YtcdkaggdidfenaaGreatDoorMData
set_option linter.all false
namespace Go.SL
open Go Go.RowKit St
section
variable {α β : Type} {f g : α → β → HP} {xs xs' : List α} {ys ys' : List β} {x x' : α} {y y' : β} {w0 w : World} {As : List HP}

theorem ownL_slice {γ : Type} {E : Enc γ} {e : TypeId} {v : Value} {l : List γ} (H : Sat w0 w (ownL E e v l :: As)) : ∃ a n c, v = .slice a n c := by
  rcases ownL_cases H with ⟨rfl, _, _⟩ | ⟨g, cap, cur, h, _⟩
  · exact ⟨_, _, _, rfl⟩
  · exact ⟨_, _, _, h.hv⟩

/-- One of the assertions, brought to the front. -/
theorem Sat.pull {r : List HP} (A : HP) [h : Has A As r] (H : Sat w0 w As) : Sat w0 w (A :: r) := H.perm h.perm

theorem star_append {L M : List HP} : Sat w0 w (star (L ++ M) :: As) ↔ Sat w0 w (star L :: star M :: As) := by
  rw [star_iff, star_iff]
  constructor
  · intro h
    have h1 : Sat w0 w (M ++ (L ++ As)) := h.perm (by rw [← List.append_assoc]; exact (List.perm_append_comm).append_right As)
    exact (star_iff.2 h1).perm List.perm_middle.symm
  · intro h
    have h1 : Sat w0 w (star M :: (L ++ As)) := h.perm List.perm_middle
    have h2 := star_iff.1 h1
    exact h2.perm (by rw [← List.append_assoc]; exact (List.perm_append_comm).append_right As)

/-- For each of two lists' pairs an assertion. -/
def ownZ (f : α → β → HP) (xs : List α) (ys : List β) : HP := .sep (.prop (xs.length = ys.length)) (star ((xs.zip ys).map fun p => f p.1 p.2))

theorem ownZ_iff : Sat w0 w (ownZ f xs ys :: As) ↔ xs.length = ys.length ∧ Sat w0 w (star ((xs.zip ys).map fun p => f p.1 p.2) :: As) := by
  rw [ownZ, Sat.sep_iff, Sat.prop_iff]

theorem ownZ_nil (H : Sat w0 w As) : Sat w0 w (ownZ f [] [] :: As) := ownZ_iff.2 ⟨rfl, star_iff.2 H⟩
theorem ownZ_len (H : Sat w0 w (ownZ f xs ys :: As)) : xs.length = ys.length := (ownZ_iff.1 H).1

theorem ownZ_append : Sat w0 w (ownZ f xs ys :: ownZ f xs' ys' :: As) → Sat w0 w (ownZ f (xs ++ xs') (ys ++ ys') :: As) := by
  intro H
  obtain ⟨h1, H⟩ := ownZ_iff.1 H
  obtain ⟨h2, H⟩ := ownZ_iff.1 (H.perm (.swap _ _ _))
  refine ownZ_iff.2 ⟨by simp [h1, h2], ?_⟩
  rw [List.zip_append h1, List.map_append]
  exact star_append.2 (H.perm (.swap _ _ _))

theorem ownZ_one : Sat w0 w (f x y :: As) ↔ Sat w0 w (ownZ f [x] [y] :: As) := by
  rw [ownZ_iff]
  simp only [List.length_cons, List.length_nil, List.zip_cons_cons, List.zip_nil_left, List.map_cons, List.map_nil, true_and]
  rw [star_iff]; rfl

theorem ownZ_snoc (H : Sat w0 w (f x y :: ownZ f xs ys :: As)) : Sat w0 w (ownZ f (xs ++ [x]) (ys ++ [y]) :: As) :=
  ownZ_append ((ownZ_one.1 H).perm (.swap _ _ _))

theorem ownZ_cons (H : Sat w0 w (f x y :: ownZ f xs ys :: As)) : Sat w0 w (ownZ f (x :: xs) (y :: ys) :: As) :=
  ownZ_append (xs := [x]) (ys := [y]) (ownZ_one.1 H)

theorem ownZ_uncons (H : Sat w0 w (ownZ f (x :: xs) (y :: ys) :: As)) : Sat w0 w (f x y :: ownZ f xs ys :: As) := by
  obtain ⟨h, H⟩ := ownZ_iff.1 H
  simp only [List.zip_cons_cons, List.map_cons, star] at H
  have H := Sat.sep_iff.1 H
  exact (ownZ_iff.2 ⟨by simpa using h, H.perm (.swap _ _ _)⟩).perm (.swap _ _ _)

theorem ownZ_split (i : Nat) (H : Sat w0 w (ownZ f xs ys :: As)) : Sat w0 w (ownZ f (xs.take i) (ys.take i) :: ownZ f (xs.drop i) (ys.drop i) :: As) := by
  obtain ⟨h, H⟩ := ownZ_iff.1 H
  rw [← List.take_append_drop i xs, ← List.take_append_drop i ys, List.zip_append (by simp [h]), List.map_append] at H
  have H := star_append.1 H
  exact ownZ_iff.2 ⟨by simp [h], (ownZ_iff.2 ⟨by simp [h], H.perm (.swap _ _ _)⟩).perm (.swap _ _ _)⟩

/-- One of them, taken out. -/
theorem ownZ_take {i : Nat} (hx : xs[i]? = some x) (hy : ys[i]? = some y) (H : Sat w0 w (ownZ f xs ys :: As)) :
    Sat w0 w (f x y :: ownZ f (xs.take i) (ys.take i) :: ownZ f (xs.drop (i + 1)) (ys.drop (i + 1)) :: As) := by
  have H := (ownZ_split i H).perm (.swap _ _ _)
  have ex : xs.drop i = x :: xs.drop (i + 1) := by
    obtain ⟨hlt, he⟩ := List.getElem?_eq_some_iff.1 hx
    rw [List.drop_eq_getElem_cons hlt, he]
  have ey : ys.drop i = y :: ys.drop (i + 1) := by
    obtain ⟨hlt, he⟩ := List.getElem?_eq_some_iff.1 hy
    rw [List.drop_eq_getElem_cons hlt, he]
  rw [ex, ey] at H
  exact (ownZ_uncons H).perm ((List.Perm.swap _ _ _).cons _)

/-- And put back, turned. -/
theorem ownZ_back {i : Nat} (hx : i < xs.length) (hy : i < ys.length) (H : Sat w0 w (f x' y' :: ownZ f (xs.take i) (ys.take i) :: ownZ f (xs.drop (i + 1)) (ys.drop (i + 1)) :: As)) :
    Sat w0 w (ownZ f (xs.set i x') (ys.set i y') :: As) := by
  have H := ownZ_append ((ownZ_cons (H.perm ((List.Perm.swap _ _ _).cons _))).perm (.swap _ _ _))
  rw [List.set_eq_take_append_cons_drop, if_pos hx, List.set_eq_take_append_cons_drop, if_pos hy]
  exact H

theorem star_imp {L M : List HP} (h : ∀ (i : Nat) (A B : HP), L[i]? = some A → M[i]? = some B → ∀ As, Sat w0 w (A :: As) → Sat w0 w (B :: As)) (hl : L.length = M.length) : ∀ As, Sat w0 w (star L :: As) → Sat w0 w (star M :: As) := by
  induction L generalizing M with
  | nil => intro As H; cases M with
    | nil => exact H
    | cons B M => simp at hl
  | cons A L ih =>
    intro As H
    cases M with
    | nil => simp at hl
    | cons B M =>
      have H := Sat.sep_iff.1 H
      have H := h 0 A B rfl rfl _ H
      exact Sat.sep_iff.2 ((ih (fun i A B ha hb => h (i + 1) A B (by simpa using ha) (by simpa using hb)) (by simpa using hl) _ (H.perm (.swap _ _ _))).perm (.swap _ _ _))

theorem ownZ_imp (h : ∀ x y As, x ∈ xs → y ∈ ys → Sat w0 w (f x y :: As) → Sat w0 w (g x y :: As)) (H : Sat w0 w (ownZ f xs ys :: As)) : Sat w0 w (ownZ g xs ys :: As) := by
  obtain ⟨hl, H⟩ := ownZ_iff.1 H
  refine ownZ_iff.2 ⟨hl, star_imp (fun i A B ha hb As H => ?_) (by simp) _ H⟩
  simp only [List.getElem?_map, Option.map_eq_some_iff] at ha hb
  obtain ⟨p, hp, rfl⟩ := ha
  obtain ⟨q, hq, rfl⟩ := hb
  rw [hp] at hq
  obtain rfl := Option.some.inj hq
  have hm := List.mem_of_getElem? hp
  exact h p.1 p.2 As (List.of_mem_zip hm).1 (List.of_mem_zip hm).2 H

/-- What one of them tells. -/
theorem ownZ_tell {p : Prop} {i : Nat} (hx : xs[i]? = some x) (hy : ys[i]? = some y) (h : ∀ As, Sat w0 w (f x y :: As) → p) (H : Sat w0 w (ownZ f xs ys :: As)) : p := h _ (ownZ_take hx hy H)
end
end Go.SL
