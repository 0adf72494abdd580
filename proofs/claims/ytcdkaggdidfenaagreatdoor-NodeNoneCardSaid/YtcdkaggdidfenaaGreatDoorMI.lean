/- A part of the proof: contracts of functions of the given program, and the laws on memory that they lean on. -/
import Derived.Test.YtcdkaggdidfenaaGreatDoorMData2
import Derived.Test.YtcdkaggdidfenaaGreatDoorMH
set_option linter.all false
namespace Go.Proofs.YtcdkaggdidfenaaGreatDoor
open Go.RowKit Go.Proofs Go.SL St
set_option maxRecDepth 40000
variable {w w0 : World} {As r : List HP} {R : Ending → World → Prop}

set_option maxHeartbeats 400000 in
theorem c349 {n lo hi : Int} (H : Sat w0 w As) (k : ∀ w', Sat w0 w' As → R (.returned (.bool (within n lo hi))) w') :
    Calls Tryz.prog 147 #[.int .i64 n, .int .i64 lo, .int .i64 hi] w R := by
  go_enter Tryz.func147, Tryz.ntmps147
  go_wp2_with fail
  all_goals (refine fin (k _ H.ent) ?_; simp_all [within]; try omega)

set_option maxHeartbeats 400000 in
theorem c269 {n : Int} (H : Sat w0 w As) (k : ∀ w', Sat w0 w' As → R (.returned (.bool (isSplit n))) w') : Calls Tryz.prog 106 #[.int .i64 n] w R := by
  go_enter Tryz.func106, Tryz.ntmps106
  go_wp2_with (first
      | (go_at_call 147; refine c349 H  ?_; clear H; intro  w H))
  all_goals (first
      | exact H.ent
      | (simpa using H.ent)
      | (refine fin (k _ H.ent) ?_; first | rfl | (simp_all [isSplit]; done) | (simp_all [isSplit]; omega) | (congr 1; rw [Bool.eq_iff_iff]; simp [isSplit]; omega) | (congr 1; rw [Bool.eq_iff_iff]; simp_all [isSplit]; done) | (congr 1; simp [isSplit]; omega) | (congr 1; simp_all [isSplit, Bool.beq_eq_decide_eq]; done)))

set_option maxHeartbeats 400000 in
theorem c270 {n : Int} (H : Sat w0 w As) (k : ∀ w', Sat w0 w' As → R (.returned (.bool (isAttempt n))) w') : Calls Tryz.prog 107 #[.int .i64 n] w R := by
  go_enter Tryz.func107, Tryz.ntmps107
  go_wp2_with (first
      | (go_at_call 147; refine c349 H  ?_; clear H; intro  w H))
  all_goals (first
      | exact H.ent
      | (simpa using H.ent)
      | (refine fin (k _ H.ent) ?_; first | rfl | (simp_all [isAttempt]; done) | (simp_all [isAttempt]; omega) | (congr 1; rw [Bool.eq_iff_iff]; simp [isAttempt]; omega) | (congr 1; rw [Bool.eq_iff_iff]; simp_all [isAttempt]; done) | (congr 1; simp [isAttempt]; omega) | (congr 1; simp_all [isAttempt, Bool.beq_eq_decide_eq]; done)))

set_option maxHeartbeats 400000 in
theorem c273 {n : Int} (H : Sat w0 w As) (k : ∀ w', Sat w0 w' As → R (.returned (.bool (isPart n))) w') : Calls Tryz.prog 110 #[.int .i64 n] w R := by
  go_enter Tryz.func110, Tryz.ntmps110
  go_wp2_with (first
      | (go_at_call 147; refine c349 H  ?_; clear H; intro  w H))
  all_goals (first
      | exact H.ent
      | (simpa using H.ent)
      | (refine fin (k _ H.ent) ?_; first | rfl | (simp_all [isPart]; done) | (simp_all [isPart]; omega) | (congr 1; rw [Bool.eq_iff_iff]; simp [isPart]; omega) | (congr 1; rw [Bool.eq_iff_iff]; simp_all [isPart]; done) | (congr 1; simp [isPart]; omega) | (congr 1; simp_all [isPart, Bool.beq_eq_decide_eq]; done)))

set_option maxHeartbeats 400000 in
theorem c350 {n : Int} (H : Sat w0 w As) (k : ∀ w', Sat w0 w' As → R (.returned (.bool (!within n 0 40))) w') : Calls Tryz.prog 148 #[.int .i64 n] w R := by
  go_enter Tryz.func148, Tryz.ntmps148
  go_wp2_with (first
      | (go_at_call 147; refine c349 H  ?_; clear H; intro  w H))
  all_goals (first
      | exact H.ent
      | (simpa using H.ent)
      | (refine fin (k _ H.ent) ?_; first | rfl | (simp_all [within]; done) | (simp_all [within]; omega) | (congr 1; rw [Bool.eq_iff_iff]; simp [within]; omega) | (congr 1; rw [Bool.eq_iff_iff]; simp_all [within]; done) | (congr 1; simp [within]; omega) | (congr 1; simp_all [within, Bool.beq_eq_decide_eq]; done)))

set_option maxHeartbeats 1000000 in
theorem c397a {v : Value} {l : List Int} [hr : RdV intE As v l] (H : Sat w0 w As) (k : ∀ w', Sat w0 w' As → R (.returned (.int .i64 (idxFrom (fun n => !within n 0 40) 0 l))) w') :
    Calls Tryz.prog 164 #[v, .func (.func 148) #[] #[]] w R := by
  have hl := hr.len_le H
  go_enter Tryz.func164, Tryz.ntmps164
  go_wp2_with (first
      | ((with_reducible refine is_load ?_); apply wl_load H; rfl; rfl; rfl; infer_instance; infer_instance; rfl; skip)
      | ((with_reducible refine is_load ?_); apply wl_load_agg H; rfl; rfl; rfl; infer_instance; infer_instance; (focus (simp; done)); (try simp only [cut, List.drop_zero, List.drop_succ_cons, List.take_succ_cons, List.take_zero]))
      | ((with_reducible refine is_len ?_); apply wl_len intE H; rfl; rfl; (conv => lhs; whnf); infer_instance; infer_instance; skip)
      | ((with_reducible refine is_indexAddr ?_); apply wl_index intE H; rfl; rfl; (conv => lhs; whnf); rfl; infer_instance; infer_instance; infer_instance; (first | omega | (simp only [List.length_take, List.length_drop, List.length_append, List.length_cons, List.length_nil, List.length_replicate, List.length_set, Int.toNat_natCast]; omega)); (first | omega | (simp only [List.length_take, List.length_drop, List.length_append, List.length_cons, List.length_nil, List.length_replicate, List.length_set, Int.toNat_natCast]; omega)); skip)
      | ((with_reducible refine is_load ?_); apply wl_elem_agg intE H; rfl; rfl; rfl; infer_instance; infer_instance; (first | assumption | (simp only [Int.toNat_natCast]; assumption)); rfl; (conv => lhs; whnf); skip)
      | ((with_reducible refine is_load ?_); apply wl_elem intE H; rfl; rfl; rfl; infer_instance; infer_instance; (first | assumption | (simp only [Int.toNat_natCast]; assumption)); (conv => lhs; whnf); skip))
  go_loopw [8] (fun i w => ∃ j : Nat, j ≤ l.length ∧ (∀ y ∈ l.take j, (!within y 0 40) = false) ∧ i = .int .i64 j ∧ Sat w0 w As) (fun i _ => l.length - (intOf i).toNat)
  case atStart => exact ⟨0, by omega, by simp, rfl, H⟩
  case round =>
    obtain ⟨j, hj, hb, rfl, H⟩ := hrel
    by_cases hlt : j < l.length
    · obtain ⟨x, hx⟩ : ∃ x, l[j]? = some x := ⟨l[j]'hlt, by simp⟩
      cases hm : (!within x 0 40)
      all_goals
        go_wp2_with (first
            | (go_at_call 148; refine c350 H  ?_; clear H; intro  w H; rw [hm])
            | ((with_reducible refine is_load ?_); apply wl_load H; rfl; rfl; rfl; infer_instance; infer_instance; rfl; skip)
            | ((with_reducible refine is_load ?_); apply wl_load_agg H; rfl; rfl; rfl; infer_instance; infer_instance; (focus (simp; done)); (try simp only [cut, List.drop_zero, List.drop_succ_cons, List.take_succ_cons, List.take_zero]))
            | ((with_reducible refine is_len ?_); apply wl_len intE H; rfl; rfl; (conv => lhs; whnf); infer_instance; infer_instance; skip)
            | ((with_reducible refine is_indexAddr ?_); apply wl_index intE H; rfl; rfl; (conv => lhs; whnf); rfl; infer_instance; infer_instance; infer_instance; (first | omega | (simp only [List.length_take, List.length_drop, List.length_append, List.length_cons, List.length_nil, List.length_replicate, List.length_set, Int.toNat_natCast]; omega)); (first | omega | (simp only [List.length_take, List.length_drop, List.length_append, List.length_cons, List.length_nil, List.length_replicate, List.length_set, Int.toNat_natCast]; omega)); skip)
            | ((with_reducible refine is_load ?_); apply wl_elem_agg intE H; rfl; rfl; rfl; infer_instance; infer_instance; (first | assumption | (simp only [Int.toNat_natCast]; assumption)); rfl; (conv => lhs; whnf); skip)
            | ((with_reducible refine is_load ?_); apply wl_elem intE H; rfl; rfl; rfl; infer_instance; infer_instance; (first | assumption | (simp only [Int.toNat_natCast]; assumption)); (conv => lhs; whnf); skip))
      · go_roundw
        case rel => exact ⟨j + 1, by omega, take_next (f := fun n => !within n 0 40) hx hb hm, rfl, H.ent⟩
        case measure => simp [intOf]; omega
      · refine fin (k _ H.ent) (int_eq ?_)
        rw [idx_hit (fun n => !within n 0 40) l 0 j x hx hb hm]
        simp
    · obtain rfl : j = l.length := by omega
      rw [List.take_length] at hb
      go_wp2_with (first
          | ((with_reducible refine is_load ?_); apply wl_load H; rfl; rfl; rfl; infer_instance; infer_instance; rfl; skip)
          | ((with_reducible refine is_load ?_); apply wl_load_agg H; rfl; rfl; rfl; infer_instance; infer_instance; (focus (simp; done)); (try simp only [cut, List.drop_zero, List.drop_succ_cons, List.take_succ_cons, List.take_zero]))
          | ((with_reducible refine is_len ?_); apply wl_len intE H; rfl; rfl; (conv => lhs; whnf); infer_instance; infer_instance; skip)
          | ((with_reducible refine is_indexAddr ?_); apply wl_index intE H; rfl; rfl; (conv => lhs; whnf); rfl; infer_instance; infer_instance; infer_instance; (first | omega | (simp only [List.length_take, List.length_drop, List.length_append, List.length_cons, List.length_nil, List.length_replicate, List.length_set, Int.toNat_natCast]; omega)); (first | omega | (simp only [List.length_take, List.length_drop, List.length_append, List.length_cons, List.length_nil, List.length_replicate, List.length_set, Int.toNat_natCast]; omega)); skip)
          | ((with_reducible refine is_load ?_); apply wl_elem_agg intE H; rfl; rfl; rfl; infer_instance; infer_instance; (first | assumption | (simp only [Int.toNat_natCast]; assumption)); rfl; (conv => lhs; whnf); skip)
          | ((with_reducible refine is_load ?_); apply wl_elem intE H; rfl; rfl; rfl; infer_instance; infer_instance; (first | assumption | (simp only [Int.toNat_natCast]; assumption)); (conv => lhs; whnf); skip))
      refine fin (k _ H.ent) (int_eq ?_)
      rw [idx_miss (fun n => !within n 0 40) l 0 hb]

set_option maxHeartbeats 1000000 in
theorem c315a {v : Value} {l : List Int} [hr : RdV intE As v l] (H : Sat w0 w As) (k : ∀ w', Sat w0 w' As → R (.returned (.bool (l.any fun n => !within n 0 40))) w') :
    Calls Tryz.prog 134 #[v, .func (.func 148) #[] #[]] w R := by
  go_enter Tryz.func134, Tryz.ntmps134
  go_wp2_with (first
      | (go_at_call 164; refine c397a H  ?_; clear H; intro  w H))
  all_goals (refine fin (k _ H.ent) ?_; rw [← idx_any _ _ 0]; rfl)

set_option maxHeartbeats 1000000 in
theorem c271 {v : Value} {l : List Int} [hr : RdV intE As v l] (H : Sat w0 w As) (k : ∀ w', Sat w0 w' As → R (.returned (.bool (countsOk l))) w') :
    Calls Tryz.prog 108 #[v] w R := by
  go_enter Tryz.func108, Tryz.ntmps108
  go_wp2_with (first
      | (go_at_call 134; refine c315a H  ?_; clear H; intro  w H)
      | ((with_reducible refine is_len ?_); apply wl_len intE H; rfl; rfl; (conv => lhs; whnf); infer_instance; infer_instance; skip)
      | ((with_reducible refine is_load ?_); apply wl_elem_agg intE H; rfl; rfl; rfl; infer_instance; infer_instance; (first | assumption | (simp only [Int.toNat_natCast]; assumption)); rfl; (conv => lhs; whnf); skip)
      | ((with_reducible refine is_load ?_); apply wl_elem intE H; rfl; rfl; rfl; infer_instance; infer_instance; (first | assumption | (simp only [Int.toNat_natCast]; assumption)); (conv => lhs; whnf); skip))
  all_goals (first
      | exact H.ent
      | (simpa using H.ent)
      | (refine fin (k _ H.ent) ?_; first | rfl | (simp_all [countsOk]; done) | (simp_all [countsOk]; omega) | (congr 1; rw [Bool.eq_iff_iff]; simp [countsOk]; omega) | (congr 1; rw [Bool.eq_iff_iff]; simp_all [countsOk]; done) | (congr 1; simp [countsOk]; omega) | (congr 1; simp_all [countsOk, Bool.beq_eq_decide_eq]; done)))

theorem setOk_le : ∀ (l : List Int) (last : Int), setOk last l = true → ∀ x ∈ l, 0 ≤ x ∧ x ≤ 5 := by
  intro l
  induction l with
  | nil => intro _ _ x hx; cases hx
  | cons y l ih =>
    intro last h x hx
    simp only [setOk, Bool.and_eq_true, isSplit, within, decide_eq_true_eq] at h
    rcases List.mem_cons.1 hx with rfl | hx
    · exact ⟨h.1.1.1, h.1.1.2⟩
    · exact ih y h.2 x hx

set_option maxHeartbeats 1000000 in
theorem c274 {v : Value} {l : List Int} [hr : RdV intE As v l] (H : Sat w0 w As) (k : ∀ w', Sat w0 w' As → R (.returned (.bool (setOk (-1) l))) w') :
    Calls Tryz.prog 111 #[v] w R := by
  have hl := hr.len_le H
  go_enter Tryz.func111, Tryz.ntmps111
  go_wp2_with (first
      | ((with_reducible refine is_load ?_); apply wl_load H; rfl; rfl; rfl; infer_instance; infer_instance; rfl; skip)
      | ((with_reducible refine is_load ?_); apply wl_load_agg H; rfl; rfl; rfl; infer_instance; infer_instance; (focus (simp; done)); (try simp only [cut, List.drop_zero, List.drop_succ_cons, List.take_succ_cons, List.take_zero]))
      | ((with_reducible refine is_len ?_); apply wl_len intE H; rfl; rfl; (conv => lhs; whnf); infer_instance; infer_instance; skip)
      | ((with_reducible refine is_indexAddr ?_); apply wl_index intE H; rfl; rfl; (conv => lhs; whnf); rfl; infer_instance; infer_instance; infer_instance; (first | omega | (simp only [List.length_take, List.length_drop, List.length_append, List.length_cons, List.length_nil, List.length_replicate, List.length_set, Int.toNat_natCast]; omega)); (first | omega | (simp only [List.length_take, List.length_drop, List.length_append, List.length_cons, List.length_nil, List.length_replicate, List.length_set, Int.toNat_natCast]; omega)); skip)
      | ((with_reducible refine is_load ?_); apply wl_elem_agg intE H; rfl; rfl; rfl; infer_instance; infer_instance; (first | assumption | (simp only [Int.toNat_natCast]; assumption)); rfl; (conv => lhs; whnf); skip)
      | ((with_reducible refine is_load ?_); apply wl_elem intE H; rfl; rfl; rfl; infer_instance; infer_instance; (first | assumption | (simp only [Int.toNat_natCast]; assumption)); (conv => lhs; whnf); skip))
  go_loopw [3, 8] (fun la i w => ∃ (j : Nat) (last : Int), j ≤ l.length ∧ setOk (-1) l = setOk last (l.drop j) ∧ la = .int .i64 last ∧ i = .int .i64 j ∧ Sat w0 w As) (fun _ i _ => l.length - (intOf i).toNat)
  case atStart => exact ⟨0, -1, by omega, by simp, rfl, rfl, H⟩
  case round =>
    obtain ⟨j, last, hj, hb, rfl, rfl, H⟩ := hrel
    by_cases hlt : j < l.length
    · obtain ⟨x, hx⟩ : ∃ x, l[j]? = some x := ⟨l[j]'hlt, by simp⟩
      have hd : l.drop j = x :: l.drop (j + 1) := by
        obtain ⟨h1, h2⟩ := List.getElem?_eq_some_iff.1 hx
        rw [List.drop_eq_getElem_cons h1, h2]
      rw [hd, setOk] at hb
      cases hm : isSplit x
      · go_wp2_with (first
            | (go_at_call 106; refine c269 H  ?_; clear H; intro  w H; rw [hm])
            | ((with_reducible refine is_load ?_); apply wl_load H; rfl; rfl; rfl; infer_instance; infer_instance; rfl; skip)
            | ((with_reducible refine is_load ?_); apply wl_load_agg H; rfl; rfl; rfl; infer_instance; infer_instance; (focus (simp; done)); (try simp only [cut, List.drop_zero, List.drop_succ_cons, List.take_succ_cons, List.take_zero]))
            | ((with_reducible refine is_len ?_); apply wl_len intE H; rfl; rfl; (conv => lhs; whnf); infer_instance; infer_instance; skip)
            | ((with_reducible refine is_indexAddr ?_); apply wl_index intE H; rfl; rfl; (conv => lhs; whnf); rfl; infer_instance; infer_instance; infer_instance; (first | omega | (simp only [List.length_take, List.length_drop, List.length_append, List.length_cons, List.length_nil, List.length_replicate, List.length_set, Int.toNat_natCast]; omega)); (first | omega | (simp only [List.length_take, List.length_drop, List.length_append, List.length_cons, List.length_nil, List.length_replicate, List.length_set, Int.toNat_natCast]; omega)); skip)
            | ((with_reducible refine is_load ?_); apply wl_elem_agg intE H; rfl; rfl; rfl; infer_instance; infer_instance; (first | assumption | (simp only [Int.toNat_natCast]; assumption)); rfl; (conv => lhs; whnf); skip)
            | ((with_reducible refine is_load ?_); apply wl_elem intE H; rfl; rfl; rfl; infer_instance; infer_instance; (first | assumption | (simp only [Int.toNat_natCast]; assumption)); (conv => lhs; whnf); skip))
        refine fin (k _ H.ent) ?_
        simp [hb, hm]
      · by_cases hlx : last < x
        · have hlx' : decide (x ≤ last) = false := by simp; omega
          go_wp2_with (first
              | (go_at_call 106; refine c269 H  ?_; clear H; intro  w H; rw [hm])
              | ((with_reducible refine is_load ?_); apply wl_load H; rfl; rfl; rfl; infer_instance; infer_instance; rfl; skip)
              | ((with_reducible refine is_load ?_); apply wl_load_agg H; rfl; rfl; rfl; infer_instance; infer_instance; (focus (simp; done)); (try simp only [cut, List.drop_zero, List.drop_succ_cons, List.take_succ_cons, List.take_zero]))
              | ((with_reducible refine is_len ?_); apply wl_len intE H; rfl; rfl; (conv => lhs; whnf); infer_instance; infer_instance; skip)
              | ((with_reducible refine is_indexAddr ?_); apply wl_index intE H; rfl; rfl; (conv => lhs; whnf); rfl; infer_instance; infer_instance; infer_instance; (first | omega | (simp only [List.length_take, List.length_drop, List.length_append, List.length_cons, List.length_nil, List.length_replicate, List.length_set, Int.toNat_natCast]; omega)); (first | omega | (simp only [List.length_take, List.length_drop, List.length_append, List.length_cons, List.length_nil, List.length_replicate, List.length_set, Int.toNat_natCast]; omega)); skip)
              | ((with_reducible refine is_load ?_); apply wl_elem_agg intE H; rfl; rfl; rfl; infer_instance; infer_instance; (first | assumption | (simp only [Int.toNat_natCast]; assumption)); rfl; (conv => lhs; whnf); skip)
              | ((with_reducible refine is_load ?_); apply wl_elem intE H; rfl; rfl; rfl; infer_instance; infer_instance; (first | assumption | (simp only [Int.toNat_natCast]; assumption)); (conv => lhs; whnf); skip))
          go_roundw
          case rel => exact ⟨j + 1, x, by omega, by rw [hb, hm]; simp [hlx], rfl, rfl, H.ent⟩
          case measure => simp [intOf]; omega
        · have hlx' : decide (x ≤ last) = true := by simp; omega
          go_wp2_with (first
              | (go_at_call 106; refine c269 H  ?_; clear H; intro  w H; rw [hm])
              | ((with_reducible refine is_load ?_); apply wl_load H; rfl; rfl; rfl; infer_instance; infer_instance; rfl; skip)
              | ((with_reducible refine is_load ?_); apply wl_load_agg H; rfl; rfl; rfl; infer_instance; infer_instance; (focus (simp; done)); (try simp only [cut, List.drop_zero, List.drop_succ_cons, List.take_succ_cons, List.take_zero]))
              | ((with_reducible refine is_len ?_); apply wl_len intE H; rfl; rfl; (conv => lhs; whnf); infer_instance; infer_instance; skip)
              | ((with_reducible refine is_indexAddr ?_); apply wl_index intE H; rfl; rfl; (conv => lhs; whnf); rfl; infer_instance; infer_instance; infer_instance; (first | omega | (simp only [List.length_take, List.length_drop, List.length_append, List.length_cons, List.length_nil, List.length_replicate, List.length_set, Int.toNat_natCast]; omega)); (first | omega | (simp only [List.length_take, List.length_drop, List.length_append, List.length_cons, List.length_nil, List.length_replicate, List.length_set, Int.toNat_natCast]; omega)); skip)
              | ((with_reducible refine is_load ?_); apply wl_elem_agg intE H; rfl; rfl; rfl; infer_instance; infer_instance; (first | assumption | (simp only [Int.toNat_natCast]; assumption)); rfl; (conv => lhs; whnf); skip)
              | ((with_reducible refine is_load ?_); apply wl_elem intE H; rfl; rfl; rfl; infer_instance; infer_instance; (first | assumption | (simp only [Int.toNat_natCast]; assumption)); (conv => lhs; whnf); skip))
          refine fin (k _ H.ent) ?_
          simp [hb]; intros; omega
    · obtain rfl : j = l.length := by omega
      rw [List.drop_length, setOk] at hb
      go_wp2_with (first
          | ((with_reducible refine is_load ?_); apply wl_load H; rfl; rfl; rfl; infer_instance; infer_instance; rfl; skip)
          | ((with_reducible refine is_load ?_); apply wl_load_agg H; rfl; rfl; rfl; infer_instance; infer_instance; (focus (simp; done)); (try simp only [cut, List.drop_zero, List.drop_succ_cons, List.take_succ_cons, List.take_zero]))
          | ((with_reducible refine is_len ?_); apply wl_len intE H; rfl; rfl; (conv => lhs; whnf); infer_instance; infer_instance; skip)
          | ((with_reducible refine is_indexAddr ?_); apply wl_index intE H; rfl; rfl; (conv => lhs; whnf); rfl; infer_instance; infer_instance; infer_instance; (first | omega | (simp only [List.length_take, List.length_drop, List.length_append, List.length_cons, List.length_nil, List.length_replicate, List.length_set, Int.toNat_natCast]; omega)); (first | omega | (simp only [List.length_take, List.length_drop, List.length_append, List.length_cons, List.length_nil, List.length_replicate, List.length_set, Int.toNat_natCast]; omega)); skip)
          | ((with_reducible refine is_load ?_); apply wl_elem_agg intE H; rfl; rfl; rfl; infer_instance; infer_instance; (first | assumption | (simp only [Int.toNat_natCast]; assumption)); rfl; (conv => lhs; whnf); skip)
          | ((with_reducible refine is_load ?_); apply wl_elem intE H; rfl; rfl; rfl; infer_instance; infer_instance; (first | assumption | (simp only [Int.toNat_natCast]; assumption)); (conv => lhs; whnf); skip))
      refine fin (k _ H.ent) ?_
      rw [hb]; rfl

set_option maxHeartbeats 2000000 in
theorem c272 {x : Rec} {sv pv : Value} [hs : RdV intE As sv x.set] [hp : RdV pairE As pv x.pairs] (H : Sat w0 w As) (k : ∀ w', Sat w0 w' As → R (.returned (.bool (overOk x))) w') :
    Calls Tryz.prog 109 #[.agg #[.int .i64 x.kind, .int .i64 x.part, .int .i64 x.split, .int .i64 x.attempt, .int .i64 x.reason, sv, pv]] w R := by
  go_enter Tryz.func109, Tryz.ntmps109
  go_wp2_with (first
      | (go_at_call 147; refine c349 H  ?_; clear H; intro  w H)
      | (go_at_call 106; refine c269 H  ?_; clear H; intro  w H)
      | (go_at_call 110; refine c273 H  ?_; clear H; intro  w H)
      | ((with_reducible refine is_box ?_); apply wl_box H; rfl; rfl; (conv => lhs; whnf); (conv => lhs; whnf); (clear H; intro b w H))
      | ((with_reducible refine is_load ?_); apply wl_load H; rfl; rfl; rfl; infer_instance; infer_instance; rfl; skip)
      | ((with_reducible refine is_load ?_); apply wl_load_agg H; rfl; rfl; rfl; infer_instance; infer_instance; (focus (simp; done)); (try simp only [cut, List.drop_zero, List.drop_succ_cons, List.take_succ_cons, List.take_zero])))
  all_goals (first
      | exact H.ent
      | (simpa using H.ent)
      | (refine fin (k _ H.ent) ?_; first | rfl | (simp_all [overOk]; done) | (simp_all [overOk]; omega) | (congr 1; rw [Bool.eq_iff_iff]; simp [overOk]; omega) | (congr 1; rw [Bool.eq_iff_iff]; simp_all [overOk]; done) | (congr 1; simp [overOk]; omega) | (congr 1; simp_all [overOk, Bool.beq_eq_decide_eq]; done)))

end Go.Proofs.YtcdkaggdidfenaaGreatDoor
