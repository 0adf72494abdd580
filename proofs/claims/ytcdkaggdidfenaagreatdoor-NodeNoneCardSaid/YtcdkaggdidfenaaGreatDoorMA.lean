/- A part of the proof: contracts of functions of the given program, and the laws on memory that they lean on. -/
import Derived.Test.YtcdkaggdidfenaaGreatDoorMTypes
import Derived.Test.YtcdkaggdidfenaaGreatDoorMModel
set_option linter.all false
namespace Go.Proofs.YtcdkaggdidfenaaGreatDoor
open Go.RowKit Go.Proofs Go.SL St
set_option maxRecDepth 20000
variable {w w0 : World} {As r : List HP} {R : Ending → World → Prop}

theorem empty_toList (s : ByteArray) : s.toList.isEmpty = (s.size == 0) := by
  have : s.toList.length = s.size := by
    rw [ByteArray.toList_eq]; cases s; rfl
  cases h : s.toList with
  | nil => rw [h] at this; simp at this; simp [← this]
  | cons x l => rw [h] at this; simp at this; simp [← this]
/-! ### what may be -/

set_option maxHeartbeats 400000 in
theorem c157 {n lo hi : Int} (H : Sat w0 w As) (k : ∀ w', Sat w0 w' As → R (.returned (.bool (within n lo hi))) w') :
    Calls Tryz.prog 43 #[.int .i64 n, .int .i64 lo, .int .i64 hi] w R := by
  go_enter Tryz.func43, Tryz.ntmps43
  go_wp2_with fail
  all_goals (refine fin (k _ H.ent) ?_; simp_all [within]; try omega)

set_option maxHeartbeats 400000 in
theorem c413 {i : In} {n : Int} (H : Sat w0 w As) (k : ∀ w', Sat w0 w' As → R (.returned (.bool (insMay i n))) w') :
    Calls Tryz.prog 153 #[.agg #[.int .i64 i.op, .int .i64 i.a, .string i.s], .int .i64 n] w R := by
  go_enter Tryz.func153, Tryz.ntmps153
  go_wp2_with (first
      | ((with_reducible refine is_box ?_); apply wl_box H; rfl; rfl; (conv => lhs; whnf); (conv => lhs; whnf); (clear H; intro b w H))
      | ((with_reducible refine is_load ?_); apply wl_load H; rfl; rfl; rfl; infer_instance; infer_instance; rfl; skip)
      | ((with_reducible refine is_load ?_); apply wl_load_agg H; rfl; rfl; rfl; infer_instance; infer_instance; (focus (simp; done)); (try simp only [cut, List.drop_zero, List.drop_succ_cons, List.take_succ_cons, List.take_zero])))
  all_goals (refine fin (k _ H.ent) ?_; simp_all [insMay, empty_toList]; try omega)


theorem badFrom_take (n : Int) (p : List In) : ∀ (k j : Nat), (badFrom n k (p.take j)) = none → ∀ i, i < j → ∀ x, p[i]? = some x → insMay x n = true := by
  induction p with
  | nil => intro k j _ i _ x hx; simp at hx
  | cons y p ih =>
    intro k j h i hi x hx
    cases j with
    | zero => omega
    | succ j =>
      simp only [List.take_succ_cons, badFrom] at h
      split at h
      · rename_i hy
        cases i with
        | zero => simp at hx; subst hx; exact hy
        | succ i => exact ih (k + 1) j h i (by omega) x (by simpa using hx)
      · cases h

theorem badFrom_snoc (n : Int) (x : In) : ∀ (q : List In) (k : Nat), badFrom n k q = none → badFrom n k (q ++ [x]) = if insMay x n then none else some (k + q.length) := by
  intro q
  induction q with
  | nil => intro k _; simp [badFrom]
  | cons y q ih =>
    intro k h
    simp only [badFrom, List.cons_append] at h ⊢
    split at h
    · rename_i hy
      rw [if_pos hy, ih (k + 1) h]
      simp [Nat.add_assoc, Nat.add_comm 1]
    · cases h

theorem badFrom_append (n : Int) (q' : List In) : ∀ (q : List In) (k m : Nat), badFrom n k q = some m → badFrom n k (q ++ q') = some m := by
  intro q
  induction q with
  | nil => intro k m h; simp [badFrom] at h
  | cons y q ih =>
    intro k m h
    simp only [badFrom, List.cons_append] at h ⊢
    split
    · rename_i hy; rw [if_pos hy] at h; exact ih _ _ h
    · rename_i hy; rw [if_neg hy] at h; exact h

theorem cut_take {α : Type} (p : List α) (n : Nat) {m : Int} (hm : m = n) : List.take ((min (p.length : Int) m).toNat - 0) (List.drop 0 p) = p.take n := by
  subst hm
  rw [List.drop_zero]
  by_cases h : n ≤ p.length
  · congr 1; omega
  · rw [List.take_of_length_le (by omega), List.take_of_length_le (by omega)]

set_option maxHeartbeats 1000000 in
theorem c342 {v : Value} {p : List In} [hr : RdV insE As v p] (H : Sat w0 w As) (k : ∀ w', Sat w0 w' As → R (.returned (.int .i64 (progBad p))) w') :
    Calls Tryz.prog 120 #[v] w R := by
  have hp := hr.len_le H
  go_enter Tryz.func120, Tryz.ntmps120
  go_wp2_with (first
      | ((with_reducible refine is_load ?_); apply wl_load H; rfl; rfl; rfl; infer_instance; infer_instance; rfl; skip)
      | ((with_reducible refine is_load ?_); apply wl_load_agg H; rfl; rfl; rfl; infer_instance; infer_instance; (focus (simp; done)); (try simp only [cut, List.drop_zero, List.drop_succ_cons, List.take_succ_cons, List.take_zero]))
      | ((with_reducible refine is_alloc ?_); apply wl_alloc H; rfl; rfl; infer_instance; (conv => lhs; whnf); (clear H; intro b w H))
      | ((with_reducible refine is_store ?_); apply wl_store H; rfl; rfl; rfl; infer_instance; infer_instance; (focus (simp; done)); (conv => lhs; whnf); infer_instance; (clear H; intro w H; (try simp only [List.setIfInBounds_toArray, List.set_cons_zero, List.set_cons_succ] at H)))
      | ((with_reducible refine is_store ?_); apply wl_store_agg H; rfl; rfl; rfl; infer_instance; infer_instance; rfl; (conv => lhs; whnf); rfl; (first | (focus (simp; done)) | (simp; omega)); infer_instance; (clear H; intro w H; (try simp only [putAll, List.setIfInBounds_toArray, List.set_cons_zero, List.set_cons_succ] at H)))
      | ((with_reducible refine is_len ?_); apply wl_len insE H; rfl; rfl; (conv => lhs; whnf); infer_instance; infer_instance; skip)
      | ((with_reducible refine is_slice ?_); apply wl_slice insE H; rfl; rfl; (conv => lhs; whnf); infer_instance; infer_instance; infer_instance; (first | exact .inl ⟨rfl, rfl⟩ | exact .inr ⟨_, _, _, rfl, rfl, by omega, rfl⟩); (first | exact .inl ⟨rfl, rfl⟩ | exact .inr ⟨_, _, _, rfl, rfl, by omega, rfl⟩); (first | omega | (simp only [List.length_take, List.length_drop, List.length_append, List.length_cons, List.length_nil, List.length_replicate, List.length_set, Int.toNat_natCast]; omega)); (first | omega | (simp only [List.length_take, List.length_drop, List.length_append, List.length_cons, List.length_nil, List.length_replicate, List.length_set, Int.toNat_natCast]; omega)); intro _)
      | ((with_reducible refine is_indexAddr ?_); apply wl_index insE H; rfl; rfl; (conv => lhs; whnf); rfl; infer_instance; infer_instance; infer_instance; (first | omega | (simp only [List.length_take, List.length_drop, List.length_append, List.length_cons, List.length_nil, List.length_replicate, List.length_set, Int.toNat_natCast]; omega)); (first | omega | (simp only [List.length_take, List.length_drop, List.length_append, List.length_cons, List.length_nil, List.length_replicate, List.length_set, Int.toNat_natCast]; omega)); skip)
      | ((with_reducible refine is_store ?_); apply wl_set insE H; rfl; rfl; rfl; infer_instance; infer_instance; (first | omega | (simp only [List.length_take, List.length_drop, List.length_append, List.length_cons, List.length_nil, List.length_replicate, List.length_set, Int.toNat_natCast]; omega)); (conv => lhs; whnf); infer_instance; (clear H; intro w H; (try simp only [Int.toNat_natCast] at H)))
      | ((with_reducible refine is_store ?_); apply wl_set_agg insE H; rfl; rfl; rfl; infer_instance; infer_instance; rfl; (first | omega | (simp only [List.length_take, List.length_drop, List.length_append, List.length_cons, List.length_nil, List.length_replicate, List.length_set, Int.toNat_natCast]; omega)); (conv => lhs; whnf); (conv => lhs; whnf); infer_instance; (clear H; intro w H; (try simp only [Int.toNat_natCast] at H)))
      | ((with_reducible refine is_load ?_); apply wl_elem_agg insE H; rfl; rfl; rfl; infer_instance; infer_instance; (first | assumption | (simp only [Int.toNat_natCast]; assumption)); rfl; (conv => lhs; whnf); skip)
      | ((with_reducible refine is_load ?_); apply wl_elem insE H; rfl; rfl; rfl; infer_instance; infer_instance; (first | assumption | (simp only [Int.toNat_natCast]; assumption)); (conv => lhs; whnf); skip))
  rename_i hv
  rw [cut_take p 40 (m := 40) rfl] at hv
  generalize hq : p.take 40 = q at hv
  have hlen : q.length = min p.length 40 := by rw [← hq]; simp; omega
  go_loopw [11] (fun i w => ∃ j : Nat, j ≤ q.length ∧ badFrom p.length 0 (q.take j) = none ∧ i = .int .i64 j ∧ Sat w0 w As) (fun i _ => q.length - (intOf i).toNat)
  case atStart => exact ⟨0, by omega, by simp [badFrom], rfl, H⟩
  case round =>
    obtain ⟨j, hj, hb, rfl, H⟩ := hrel
    by_cases hlt : j < q.length
    · obtain ⟨x, hx⟩ : ∃ x, q[j]? = some x := ⟨q[j]'hlt, by simp⟩
      have hs : q.take (j + 1) = q.take j ++ [x] := by rw [List.take_add_one, hx]; rfl
      have hb' := badFrom_snoc p.length x (q.take j) 0 hb
      rw [← hs] at hb'
      cases hm : insMay x p.length
      all_goals
        go_wp2_with (first
            | (go_at_call 153; refine c413 H ?_; clear H; intro w H; rw [hm])
            | ((with_reducible refine is_load ?_); apply wl_load H; rfl; rfl; rfl; infer_instance; infer_instance; rfl; skip)
            | ((with_reducible refine is_load ?_); apply wl_load_agg H; rfl; rfl; rfl; infer_instance; infer_instance; (focus (simp; done)); (try simp only [cut, List.drop_zero, List.drop_succ_cons, List.take_succ_cons, List.take_zero]))
            | ((with_reducible refine is_alloc ?_); apply wl_alloc H; rfl; rfl; infer_instance; (conv => lhs; whnf); (clear H; intro b w H))
            | ((with_reducible refine is_store ?_); apply wl_store H; rfl; rfl; rfl; infer_instance; infer_instance; (focus (simp; done)); (conv => lhs; whnf); infer_instance; (clear H; intro w H; (try simp only [List.setIfInBounds_toArray, List.set_cons_zero, List.set_cons_succ] at H)))
            | ((with_reducible refine is_store ?_); apply wl_store_agg H; rfl; rfl; rfl; infer_instance; infer_instance; rfl; (conv => lhs; whnf); rfl; (first | (focus (simp; done)) | (simp; omega)); infer_instance; (clear H; intro w H; (try simp only [putAll, List.setIfInBounds_toArray, List.set_cons_zero, List.set_cons_succ] at H)))
            | ((with_reducible refine is_len ?_); apply wl_len insE H; rfl; rfl; (conv => lhs; whnf); infer_instance; infer_instance; skip)
            | ((with_reducible refine is_slice ?_); apply wl_slice insE H; rfl; rfl; (conv => lhs; whnf); infer_instance; infer_instance; infer_instance; (first | exact .inl ⟨rfl, rfl⟩ | exact .inr ⟨_, _, _, rfl, rfl, by omega, rfl⟩); (first | exact .inl ⟨rfl, rfl⟩ | exact .inr ⟨_, _, _, rfl, rfl, by omega, rfl⟩); (first | omega | (simp only [List.length_take, List.length_drop, List.length_append, List.length_cons, List.length_nil, List.length_replicate, List.length_set, Int.toNat_natCast]; omega)); (first | omega | (simp only [List.length_take, List.length_drop, List.length_append, List.length_cons, List.length_nil, List.length_replicate, List.length_set, Int.toNat_natCast]; omega)); intro _)
            | ((with_reducible refine is_indexAddr ?_); apply wl_index insE H; rfl; rfl; (conv => lhs; whnf); rfl; infer_instance; infer_instance; infer_instance; (first | omega | (simp only [List.length_take, List.length_drop, List.length_append, List.length_cons, List.length_nil, List.length_replicate, List.length_set, Int.toNat_natCast]; omega)); (first | omega | (simp only [List.length_take, List.length_drop, List.length_append, List.length_cons, List.length_nil, List.length_replicate, List.length_set, Int.toNat_natCast]; omega)); skip)
            | ((with_reducible refine is_store ?_); apply wl_set insE H; rfl; rfl; rfl; infer_instance; infer_instance; (first | omega | (simp only [List.length_take, List.length_drop, List.length_append, List.length_cons, List.length_nil, List.length_replicate, List.length_set, Int.toNat_natCast]; omega)); (conv => lhs; whnf); infer_instance; (clear H; intro w H; (try simp only [Int.toNat_natCast] at H)))
            | ((with_reducible refine is_store ?_); apply wl_set_agg insE H; rfl; rfl; rfl; infer_instance; infer_instance; rfl; (first | omega | (simp only [List.length_take, List.length_drop, List.length_append, List.length_cons, List.length_nil, List.length_replicate, List.length_set, Int.toNat_natCast]; omega)); (conv => lhs; whnf); (conv => lhs; whnf); infer_instance; (clear H; intro w H; (try simp only [Int.toNat_natCast] at H)))
            | ((with_reducible refine is_load ?_); apply wl_elem_agg insE H; rfl; rfl; rfl; infer_instance; infer_instance; (first | assumption | (simp only [Int.toNat_natCast]; assumption)); rfl; (conv => lhs; whnf); skip)
            | ((with_reducible refine is_load ?_); apply wl_elem insE H; rfl; rfl; rfl; infer_instance; infer_instance; (first | assumption | (simp only [Int.toNat_natCast]; assumption)); (conv => lhs; whnf); skip))
      · rw [hm, if_neg (by simp)] at hb'
        have hj' : (List.take j q).length = j := by simp; omega
        have hb2 := badFrom_append p.length (q.drop (j + 1)) _ 0 _ hb'
        rw [List.take_append_drop] at hb2
        refine fin (k _ H.ent) (int_eq ?_)
        simp [progBad, hq, hb2, hj']
      · rw [hm, if_pos rfl] at hb'
        go_roundw
        case rel => exact ⟨j + 1, by omega, hb', rfl, H.ent⟩
        case measure => simp [intOf]; omega
    · obtain rfl : j = q.length := by omega
      rw [List.take_length] at hb
      cases hm : decide (40 < p.length)
      all_goals
        go_wp2_with (first
            | ((with_reducible refine is_load ?_); apply wl_load H; rfl; rfl; rfl; infer_instance; infer_instance; rfl; skip)
            | ((with_reducible refine is_load ?_); apply wl_load_agg H; rfl; rfl; rfl; infer_instance; infer_instance; (focus (simp; done)); (try simp only [cut, List.drop_zero, List.drop_succ_cons, List.take_succ_cons, List.take_zero]))
            | ((with_reducible refine is_alloc ?_); apply wl_alloc H; rfl; rfl; infer_instance; (conv => lhs; whnf); (clear H; intro b w H))
            | ((with_reducible refine is_store ?_); apply wl_store H; rfl; rfl; rfl; infer_instance; infer_instance; (focus (simp; done)); (conv => lhs; whnf); infer_instance; (clear H; intro w H; (try simp only [List.setIfInBounds_toArray, List.set_cons_zero, List.set_cons_succ] at H)))
            | ((with_reducible refine is_store ?_); apply wl_store_agg H; rfl; rfl; rfl; infer_instance; infer_instance; rfl; (conv => lhs; whnf); rfl; (first | (focus (simp; done)) | (simp; omega)); infer_instance; (clear H; intro w H; (try simp only [putAll, List.setIfInBounds_toArray, List.set_cons_zero, List.set_cons_succ] at H)))
            | ((with_reducible refine is_len ?_); apply wl_len insE H; rfl; rfl; (conv => lhs; whnf); infer_instance; infer_instance; skip)
            | ((with_reducible refine is_slice ?_); apply wl_slice insE H; rfl; rfl; (conv => lhs; whnf); infer_instance; infer_instance; infer_instance; (first | exact .inl ⟨rfl, rfl⟩ | exact .inr ⟨_, _, _, rfl, rfl, by omega, rfl⟩); (first | exact .inl ⟨rfl, rfl⟩ | exact .inr ⟨_, _, _, rfl, rfl, by omega, rfl⟩); (first | omega | (simp only [List.length_take, List.length_drop, List.length_append, List.length_cons, List.length_nil, List.length_replicate, List.length_set, Int.toNat_natCast]; omega)); (first | omega | (simp only [List.length_take, List.length_drop, List.length_append, List.length_cons, List.length_nil, List.length_replicate, List.length_set, Int.toNat_natCast]; omega)); intro _)
            | ((with_reducible refine is_indexAddr ?_); apply wl_index insE H; rfl; rfl; (conv => lhs; whnf); rfl; infer_instance; infer_instance; infer_instance; (first | omega | (simp only [List.length_take, List.length_drop, List.length_append, List.length_cons, List.length_nil, List.length_replicate, List.length_set, Int.toNat_natCast]; omega)); (first | omega | (simp only [List.length_take, List.length_drop, List.length_append, List.length_cons, List.length_nil, List.length_replicate, List.length_set, Int.toNat_natCast]; omega)); skip)
            | ((with_reducible refine is_store ?_); apply wl_set insE H; rfl; rfl; rfl; infer_instance; infer_instance; (first | omega | (simp only [List.length_take, List.length_drop, List.length_append, List.length_cons, List.length_nil, List.length_replicate, List.length_set, Int.toNat_natCast]; omega)); (conv => lhs; whnf); infer_instance; (clear H; intro w H; (try simp only [Int.toNat_natCast] at H)))
            | ((with_reducible refine is_store ?_); apply wl_set_agg insE H; rfl; rfl; rfl; infer_instance; infer_instance; rfl; (first | omega | (simp only [List.length_take, List.length_drop, List.length_append, List.length_cons, List.length_nil, List.length_replicate, List.length_set, Int.toNat_natCast]; omega)); (conv => lhs; whnf); (conv => lhs; whnf); infer_instance; (clear H; intro w H; (try simp only [Int.toNat_natCast] at H)))
            | ((with_reducible refine is_load ?_); apply wl_elem_agg insE H; rfl; rfl; rfl; infer_instance; infer_instance; (first | assumption | (simp only [Int.toNat_natCast]; assumption)); rfl; (conv => lhs; whnf); skip)
            | ((with_reducible refine is_load ?_); apply wl_elem insE H; rfl; rfl; rfl; infer_instance; infer_instance; (first | assumption | (simp only [Int.toNat_natCast]; assumption)); (conv => lhs; whnf); skip))
      all_goals (refine fin (k _ H.ent) (int_eq ?_); simp [progBad, hq, hb]; simp at hm; omega)
end Go.Proofs.YtcdkaggdidfenaaGreatDoor
