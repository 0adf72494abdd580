/- A part of the proof: contracts of functions of the given program, and the laws on memory that they lean on. -/
import Derived.Test.YtcdkaggdidfenaaGreatDoorMB
set_option linter.all false
namespace Go.Proofs.YtcdkaggdidfenaaGreatDoor
open Go.RowKit Go.Proofs Go.SL St
set_option maxRecDepth 20000
variable {w w0 : World} {As r : List HP} {R : Ending → World → Prop}

set_option maxHeartbeats 400000 in
theorem c323 {p : Pr} (H : Sat w0 w As) (k : ∀ w', Sat w0 w' As → R (.returned (.bool (!pairOk p))) w') :
    Calls Tryz.prog 119 #[.agg #[.string p.key, .string p.val]] w R := by
  go_enter Tryz.func119, Tryz.ntmps119
  go_wp2_with (first
      | ((with_reducible refine is_box ?_); apply wl_box H; rfl; rfl; (conv => lhs; whnf); (conv => lhs; whnf); (clear H; intro b w H))
      | ((with_reducible refine is_load ?_); apply wl_load H; rfl; rfl; rfl; infer_instance; infer_instance; rfl; skip)
      | ((with_reducible refine is_load ?_); apply wl_load_agg H; rfl; rfl; rfl; infer_instance; infer_instance; (focus (simp; done)); (try simp only [cut, List.drop_zero, List.drop_succ_cons, List.take_succ_cons, List.take_zero])))
  all_goals (first
      | exact H.ent
      | (simpa using H.ent)
      | (refine fin (k _ H.ent) ?_; first | rfl | (simp_all [pairOk]; done) | (simp_all [pairOk]; omega) | (congr 1; rw [Bool.eq_iff_iff]; simp [pairOk]; omega) | (congr 1; rw [Bool.eq_iff_iff]; simp_all [pairOk]; done) | (congr 1; simp [pairOk]; omega)))

set_option maxHeartbeats 400000 in
theorem c253 {v : Value} {p : List In} [hr : RdV insE As v p] (H : Sat w0 w As) (k : ∀ w', Sat w0 w' As → R (.returned (.bool (progMay p))) w') :
    Calls Tryz.prog 75 #[v] w R := by
  go_enter Tryz.func75, Tryz.ntmps75
  go_wp2_with (first
      | (go_at_call 120; refine c342 H ?_; clear H; intro w H))
  all_goals (first
      | exact H.ent
      | (simpa using H.ent)
      | (refine fin (k _ H.ent) ?_; first | rfl | (simp_all [progMay]; done) | (simp_all [progMay]; omega) | (congr 1; rw [Bool.eq_iff_iff]; simp [progMay]; omega) | (congr 1; rw [Bool.eq_iff_iff]; simp_all [progMay]; done) | (congr 1; simp [progMay]; omega)))

set_option maxHeartbeats 400000 in
theorem c252 {v : Value} {p : List In} [hr : RdV insE As v p] (H : Sat w0 w As) (k : ∀ w', Sat w0 w' As → R (.returned (.bool (progRuns p))) w') :
    Calls Tryz.prog 74 #[v] w R := by
  go_enter Tryz.func74, Tryz.ntmps74
  go_wp2_with (first
      | (go_at_call 75; refine c253 H ?_; clear H; intro w H)
      | ((with_reducible refine is_len ?_); apply wl_len insE H; rfl; rfl; (conv => lhs; whnf); infer_instance; infer_instance; skip)
      | ((with_reducible refine is_load ?_); apply wl_elem_agg insE H; rfl; rfl; rfl; infer_instance; infer_instance; (first | assumption | (simp only [Int.toNat_natCast]; assumption)); rfl; (conv => lhs; whnf); skip)
      | ((with_reducible refine is_load ?_); apply wl_elem insE H; rfl; rfl; rfl; infer_instance; infer_instance; (first | assumption | (simp only [Int.toNat_natCast]; assumption)); (conv => lhs; whnf); skip))
  all_goals (first
      | exact H.ent
      | (simpa using H.ent)
      | (refine fin (k _ H.ent) ?_; first | rfl | (simp_all [progRuns]; done) | (simp_all [progRuns]; omega) | (congr 1; rw [Bool.eq_iff_iff]; simp [progRuns]; omega) | (congr 1; rw [Bool.eq_iff_iff]; simp_all [progRuns]; done) | (congr 1; simp [progRuns]; omega)))

set_option maxHeartbeats 1000000 in
theorem c400 {v : Value} {l : List Pr} [hr : RdV pairE As v l] (H : Sat w0 w As) (k : ∀ w', Sat w0 w' As → R (.returned (.int .i64 (idxFrom (fun p => !pairOk p) 0 l))) w') :
    Calls Tryz.prog 152 #[v, .func (.func 119) #[] #[]] w R := by
  have hl := hr.len_le H
  go_enter Tryz.func152, Tryz.ntmps152
  go_wp2_with (first
      | ((with_reducible refine is_load ?_); apply wl_load H; rfl; rfl; rfl; infer_instance; infer_instance; rfl; skip)
      | ((with_reducible refine is_load ?_); apply wl_load_agg H; rfl; rfl; rfl; infer_instance; infer_instance; (focus (simp; done)); (try simp only [cut, List.drop_zero, List.drop_succ_cons, List.take_succ_cons, List.take_zero]))
      | ((with_reducible refine is_len ?_); apply wl_len pairE H; rfl; rfl; (conv => lhs; whnf); infer_instance; infer_instance; skip)
      | ((with_reducible refine is_indexAddr ?_); apply wl_index pairE H; rfl; rfl; (conv => lhs; whnf); rfl; infer_instance; infer_instance; infer_instance; (first | omega | (simp only [List.length_take, List.length_drop, List.length_append, List.length_cons, List.length_nil, List.length_replicate, List.length_set, Int.toNat_natCast]; omega)); (first | omega | (simp only [List.length_take, List.length_drop, List.length_append, List.length_cons, List.length_nil, List.length_replicate, List.length_set, Int.toNat_natCast]; omega)); skip)
      | ((with_reducible refine is_load ?_); apply wl_elem_agg pairE H; rfl; rfl; rfl; infer_instance; infer_instance; (first | assumption | (simp only [Int.toNat_natCast]; assumption)); rfl; (conv => lhs; whnf); skip)
      | ((with_reducible refine is_load ?_); apply wl_elem pairE H; rfl; rfl; rfl; infer_instance; infer_instance; (first | assumption | (simp only [Int.toNat_natCast]; assumption)); (conv => lhs; whnf); skip))
  go_loopw [8] (fun i w => ∃ j : Nat, j ≤ l.length ∧ (∀ y ∈ l.take j, (!pairOk y) = false) ∧ i = .int .i64 j ∧ Sat w0 w As) (fun i _ => l.length - (intOf i).toNat)
  case atStart => exact ⟨0, by omega, by simp, rfl, H⟩
  case round =>
    obtain ⟨j, hj, hb, rfl, H⟩ := hrel
    by_cases hlt : j < l.length
    · obtain ⟨x, hx⟩ : ∃ x, l[j]? = some x := ⟨l[j]'hlt, by simp⟩
      cases hm : (!pairOk x)
      all_goals
        go_wp2_with (first
            | (go_at_call 119; refine c323 H ?_; clear H; intro w H; rw [hm])
            | ((with_reducible refine is_load ?_); apply wl_load H; rfl; rfl; rfl; infer_instance; infer_instance; rfl; skip)
            | ((with_reducible refine is_load ?_); apply wl_load_agg H; rfl; rfl; rfl; infer_instance; infer_instance; (focus (simp; done)); (try simp only [cut, List.drop_zero, List.drop_succ_cons, List.take_succ_cons, List.take_zero]))
            | ((with_reducible refine is_len ?_); apply wl_len pairE H; rfl; rfl; (conv => lhs; whnf); infer_instance; infer_instance; skip)
            | ((with_reducible refine is_indexAddr ?_); apply wl_index pairE H; rfl; rfl; (conv => lhs; whnf); rfl; infer_instance; infer_instance; infer_instance; (first | omega | (simp only [List.length_take, List.length_drop, List.length_append, List.length_cons, List.length_nil, List.length_replicate, List.length_set, Int.toNat_natCast]; omega)); (first | omega | (simp only [List.length_take, List.length_drop, List.length_append, List.length_cons, List.length_nil, List.length_replicate, List.length_set, Int.toNat_natCast]; omega)); skip)
            | ((with_reducible refine is_load ?_); apply wl_elem_agg pairE H; rfl; rfl; rfl; infer_instance; infer_instance; (first | assumption | (simp only [Int.toNat_natCast]; assumption)); rfl; (conv => lhs; whnf); skip)
            | ((with_reducible refine is_load ?_); apply wl_elem pairE H; rfl; rfl; rfl; infer_instance; infer_instance; (first | assumption | (simp only [Int.toNat_natCast]; assumption)); (conv => lhs; whnf); skip))
      · go_roundw
        case rel => exact ⟨j + 1, by omega, take_next (f := fun p => !pairOk p) hx hb hm, rfl, H.ent⟩
        case measure => simp [intOf]; omega
      · refine fin (k _ H.ent) (int_eq ?_)
        rw [idx_hit (fun p => !pairOk p) l 0 j x hx hb hm]
        simp
    · obtain rfl : j = l.length := by omega
      rw [List.take_length] at hb
      go_wp2_with (first
          | ((with_reducible refine is_load ?_); apply wl_load H; rfl; rfl; rfl; infer_instance; infer_instance; rfl; skip)
          | ((with_reducible refine is_load ?_); apply wl_load_agg H; rfl; rfl; rfl; infer_instance; infer_instance; (focus (simp; done)); (try simp only [cut, List.drop_zero, List.drop_succ_cons, List.take_succ_cons, List.take_zero]))
          | ((with_reducible refine is_len ?_); apply wl_len pairE H; rfl; rfl; (conv => lhs; whnf); infer_instance; infer_instance; skip)
          | ((with_reducible refine is_indexAddr ?_); apply wl_index pairE H; rfl; rfl; (conv => lhs; whnf); rfl; infer_instance; infer_instance; infer_instance; (first | omega | (simp only [List.length_take, List.length_drop, List.length_append, List.length_cons, List.length_nil, List.length_replicate, List.length_set, Int.toNat_natCast]; omega)); (first | omega | (simp only [List.length_take, List.length_drop, List.length_append, List.length_cons, List.length_nil, List.length_replicate, List.length_set, Int.toNat_natCast]; omega)); skip)
          | ((with_reducible refine is_load ?_); apply wl_elem_agg pairE H; rfl; rfl; rfl; infer_instance; infer_instance; (first | assumption | (simp only [Int.toNat_natCast]; assumption)); rfl; (conv => lhs; whnf); skip)
          | ((with_reducible refine is_load ?_); apply wl_elem pairE H; rfl; rfl; rfl; infer_instance; infer_instance; (first | assumption | (simp only [Int.toNat_natCast]; assumption)); (conv => lhs; whnf); skip))
      refine fin (k _ H.ent) (int_eq ?_)
      rw [idx_miss (fun p => !pairOk p) l 0 hb]

set_option maxHeartbeats 1000000 in
theorem c322 {v : Value} {l : List Pr} [hr : RdV pairE As v l] (H : Sat w0 w As) (k : ∀ w', Sat w0 w' As → R (.returned (.bool (l.any fun p => !pairOk p))) w') :
    Calls Tryz.prog 118 #[v, .func (.func 119) #[] #[]] w R := by
  go_enter Tryz.func118, Tryz.ntmps118
  go_wp2_with (first
      | (go_at_call 152; refine c400 H ?_; clear H; intro w H))
  all_goals (refine fin (k _ H.ent) ?_; rw [← idx_any _ _ 0]; rfl)

set_option maxHeartbeats 1000000 in
theorem c228 {v : Value} {l : List Pr} [hr : RdV pairE As v l] (H : Sat w0 w As) (k : ∀ w', Sat w0 w' As → R (.returned (.bool (pairsMay l))) w') :
    Calls Tryz.prog 73 #[v] w R := by
  go_enter Tryz.func73, Tryz.ntmps73
  go_wp2_with (first
      | (go_at_call 118; refine c322 H ?_; clear H; intro w H))
  all_goals (refine fin (k _ H.ent) ?_; simp [pairsMay, ← List.not_all_eq_any_not])
end Go.Proofs.YtcdkaggdidfenaaGreatDoor
