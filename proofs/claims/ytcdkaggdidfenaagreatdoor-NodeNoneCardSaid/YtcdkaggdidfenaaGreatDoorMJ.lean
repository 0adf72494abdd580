/- A part of the proof: contracts of functions of the given program, and the laws on memory that they lean on. -/
import Derived.Test.YtcdkaggdidfenaaGreatDoorMI
set_option linter.all false
namespace Go.Proofs.YtcdkaggdidfenaaGreatDoor
open Go.RowKit Go.Proofs Go.SL St
set_option maxRecDepth 40000
variable {w w0 : World} {As r : List HP} {R : Ending → World → Prop}

set_option maxHeartbeats 2000000 in
theorem c170a {kind part split attempt reason : Int} {set : List Int} {pairs : List Pr} {sv pv : Value} [hs : RdV intE As sv set] [hp : RdV pairE As pv pairs] (H : Sat w0 w As) (hs0 : 0 < set.length) (h1 : ¬ kind = 1) (h5 : ¬ kind = 5) (k : ∀ w', Sat w0 w' As → R (.returned (.bool (false))) w') :
    Calls Tryz.prog 61 #[.agg #[.int .i64 kind, .int .i64 part, .int .i64 split, .int .i64 attempt, .int .i64 reason, sv, pv]] w R := by
  have hl1 := hs.len_le H
  have hl2 := hp.len_le H
  go_enter Tryz.func61, Tryz.ntmps61
  go_wp2_with (first
      | (go_at_call 147; refine c349 H  ?_; clear H; intro  w H)
      | (go_at_call 106; refine c269 H  ?_; clear H; intro  w H)
      | (go_at_call 110; refine c273 H  ?_; clear H; intro  w H)
      | (go_at_call 107; refine c270 H  ?_; clear H; intro  w H)
      | (go_at_call 108; refine c271 H  ?_; clear H; intro  w H)
      | (go_at_call 111; refine c274 H  ?_; clear H; intro  w H)
      | (go_at_call 73; refine c228 H  ?_; clear H; intro  w H)
      | ((with_reducible refine is_box ?_); apply wl_box H; rfl; rfl; (conv => lhs; whnf); (conv => lhs; whnf); (clear H; intro b w H))
      | ((with_reducible refine is_load ?_); apply wl_load H; rfl; rfl; rfl; infer_instance; infer_instance; rfl; skip)
      | ((with_reducible refine is_load ?_); apply wl_load_agg H; rfl; rfl; rfl; infer_instance; infer_instance; (focus (simp; done)); (try simp only [cut, List.drop_zero, List.drop_succ_cons, List.take_succ_cons, List.take_zero]))
      | ((with_reducible refine is_len ?_); apply wl_len intE H; rfl; rfl; (conv => lhs; whnf); infer_instance; infer_instance; skip)
      | ((with_reducible refine is_len ?_); apply wl_len pairE H; rfl; rfl; (conv => lhs; whnf); infer_instance; infer_instance; skip)
      | ((with_reducible refine is_load ?_); apply wl_elem_agg intE H; rfl; rfl; rfl; infer_instance; infer_instance; (first | assumption | (simp only [Int.toNat_natCast]; assumption)); rfl; (conv => lhs; whnf); skip)
      | ((with_reducible refine is_load ?_); apply wl_elem intE H; rfl; rfl; rfl; infer_instance; infer_instance; (first | assumption | (simp only [Int.toNat_natCast]; assumption)); (conv => lhs; whnf); skip)
      | ((with_reducible refine is_load ?_); apply wl_elem_agg pairE H; rfl; rfl; rfl; infer_instance; infer_instance; (first | assumption | (simp only [Int.toNat_natCast]; assumption)); rfl; (conv => lhs; whnf); skip)
      | ((with_reducible refine is_load ?_); apply wl_elem pairE H; rfl; rfl; rfl; infer_instance; infer_instance; (first | assumption | (simp only [Int.toNat_natCast]; assumption)); (conv => lhs; whnf); skip))
  all_goals (first
      | exact H.ent
      | (simpa using H.ent)
      | (refine fin (k _ H.ent) ?_; first | rfl | (simp_all [true_and]; done) | (simp_all [true_and]; omega) | (congr 1; rw [Bool.eq_iff_iff]; simp [true_and]; omega) | (congr 1; rw [Bool.eq_iff_iff]; simp_all [true_and]; done) | (congr 1; simp [true_and]; omega) | (congr 1; simp_all [true_and, Bool.beq_eq_decide_eq]; done)))

set_option maxHeartbeats 2000000 in
theorem c170b1 {part split attempt reason : Int} {set : List Int} {pairs : List Pr} {sv pv : Value} [hs : RdV intE As sv set] [hp : RdV pairE As pv pairs] (H : Sat w0 w As) (hp0 : 0 < pairs.length) (k : ∀ w', Sat w0 w' As → R (.returned (.bool (false))) w') :
    Calls Tryz.prog 61 #[.agg #[.int .i64 1, .int .i64 part, .int .i64 split, .int .i64 attempt, .int .i64 reason, sv, pv]] w R := by
  have hl1 := hs.len_le H
  have hl2 := hp.len_le H
  go_enter Tryz.func61, Tryz.ntmps61
  go_wp2_with (first
      | (go_at_call 147; refine c349 H  ?_; clear H; intro  w H)
      | (go_at_call 106; refine c269 H  ?_; clear H; intro  w H)
      | (go_at_call 110; refine c273 H  ?_; clear H; intro  w H)
      | (go_at_call 107; refine c270 H  ?_; clear H; intro  w H)
      | (go_at_call 108; refine c271 H  ?_; clear H; intro  w H)
      | (go_at_call 111; refine c274 H  ?_; clear H; intro  w H)
      | (go_at_call 73; refine c228 H  ?_; clear H; intro  w H)
      | ((with_reducible refine is_box ?_); apply wl_box H; rfl; rfl; (conv => lhs; whnf); (conv => lhs; whnf); (clear H; intro b w H))
      | ((with_reducible refine is_load ?_); apply wl_load H; rfl; rfl; rfl; infer_instance; infer_instance; rfl; skip)
      | ((with_reducible refine is_load ?_); apply wl_load_agg H; rfl; rfl; rfl; infer_instance; infer_instance; (focus (simp; done)); (try simp only [cut, List.drop_zero, List.drop_succ_cons, List.take_succ_cons, List.take_zero]))
      | ((with_reducible refine is_len ?_); apply wl_len intE H; rfl; rfl; (conv => lhs; whnf); infer_instance; infer_instance; skip)
      | ((with_reducible refine is_len ?_); apply wl_len pairE H; rfl; rfl; (conv => lhs; whnf); infer_instance; infer_instance; skip)
      | ((with_reducible refine is_load ?_); apply wl_elem_agg intE H; rfl; rfl; rfl; infer_instance; infer_instance; (first | assumption | (simp only [Int.toNat_natCast]; assumption)); rfl; (conv => lhs; whnf); skip)
      | ((with_reducible refine is_load ?_); apply wl_elem intE H; rfl; rfl; rfl; infer_instance; infer_instance; (first | assumption | (simp only [Int.toNat_natCast]; assumption)); (conv => lhs; whnf); skip)
      | ((with_reducible refine is_load ?_); apply wl_elem_agg pairE H; rfl; rfl; rfl; infer_instance; infer_instance; (first | assumption | (simp only [Int.toNat_natCast]; assumption)); rfl; (conv => lhs; whnf); skip)
      | ((with_reducible refine is_load ?_); apply wl_elem pairE H; rfl; rfl; rfl; infer_instance; infer_instance; (first | assumption | (simp only [Int.toNat_natCast]; assumption)); (conv => lhs; whnf); skip))
  all_goals (first
      | exact H.ent
      | (simpa using H.ent)
      | (refine fin (k _ H.ent) ?_; first | rfl | (simp_all [true_and]; done) | (simp_all [true_and]; omega) | (congr 1; rw [Bool.eq_iff_iff]; simp [true_and]; omega) | (congr 1; rw [Bool.eq_iff_iff]; simp_all [true_and]; done) | (congr 1; simp [true_and]; omega) | (congr 1; simp_all [true_and, Bool.beq_eq_decide_eq]; done)))

set_option maxHeartbeats 2000000 in
theorem c170b5 {part split attempt reason : Int} {set : List Int} {pairs : List Pr} {sv pv : Value} [hs : RdV intE As sv set] [hp : RdV pairE As pv pairs] (H : Sat w0 w As) (hp0 : 0 < pairs.length) (k : ∀ w', Sat w0 w' As → R (.returned (.bool (false))) w') :
    Calls Tryz.prog 61 #[.agg #[.int .i64 5, .int .i64 part, .int .i64 split, .int .i64 attempt, .int .i64 reason, sv, pv]] w R := by
  have hl1 := hs.len_le H
  have hl2 := hp.len_le H
  go_enter Tryz.func61, Tryz.ntmps61
  go_wp2_with (first
      | (go_at_call 147; refine c349 H  ?_; clear H; intro  w H)
      | (go_at_call 106; refine c269 H  ?_; clear H; intro  w H)
      | (go_at_call 110; refine c273 H  ?_; clear H; intro  w H)
      | (go_at_call 107; refine c270 H  ?_; clear H; intro  w H)
      | (go_at_call 108; refine c271 H  ?_; clear H; intro  w H)
      | (go_at_call 111; refine c274 H  ?_; clear H; intro  w H)
      | (go_at_call 73; refine c228 H  ?_; clear H; intro  w H)
      | ((with_reducible refine is_box ?_); apply wl_box H; rfl; rfl; (conv => lhs; whnf); (conv => lhs; whnf); (clear H; intro b w H))
      | ((with_reducible refine is_load ?_); apply wl_load H; rfl; rfl; rfl; infer_instance; infer_instance; rfl; skip)
      | ((with_reducible refine is_load ?_); apply wl_load_agg H; rfl; rfl; rfl; infer_instance; infer_instance; (focus (simp; done)); (try simp only [cut, List.drop_zero, List.drop_succ_cons, List.take_succ_cons, List.take_zero]))
      | ((with_reducible refine is_len ?_); apply wl_len intE H; rfl; rfl; (conv => lhs; whnf); infer_instance; infer_instance; skip)
      | ((with_reducible refine is_len ?_); apply wl_len pairE H; rfl; rfl; (conv => lhs; whnf); infer_instance; infer_instance; skip)
      | ((with_reducible refine is_load ?_); apply wl_elem_agg intE H; rfl; rfl; rfl; infer_instance; infer_instance; (first | assumption | (simp only [Int.toNat_natCast]; assumption)); rfl; (conv => lhs; whnf); skip)
      | ((with_reducible refine is_load ?_); apply wl_elem intE H; rfl; rfl; rfl; infer_instance; infer_instance; (first | assumption | (simp only [Int.toNat_natCast]; assumption)); (conv => lhs; whnf); skip)
      | ((with_reducible refine is_load ?_); apply wl_elem_agg pairE H; rfl; rfl; rfl; infer_instance; infer_instance; (first | assumption | (simp only [Int.toNat_natCast]; assumption)); rfl; (conv => lhs; whnf); skip)
      | ((with_reducible refine is_load ?_); apply wl_elem pairE H; rfl; rfl; rfl; infer_instance; infer_instance; (first | assumption | (simp only [Int.toNat_natCast]; assumption)); (conv => lhs; whnf); skip))
  all_goals (first
      | exact H.ent
      | (simpa using H.ent)
      | (refine fin (k _ H.ent) ?_; first | rfl | (simp_all [true_and]; done) | (simp_all [true_and]; omega) | (congr 1; rw [Bool.eq_iff_iff]; simp [true_and]; omega) | (congr 1; rw [Bool.eq_iff_iff]; simp_all [true_and]; done) | (congr 1; simp [true_and]; omega) | (congr 1; simp_all [true_and, Bool.beq_eq_decide_eq]; done)))

set_option maxHeartbeats 2000000 in
theorem c170b0 {kind part split attempt reason : Int} {pairs : List Pr} {sv pv : Value} [hs : RdV intE As sv []] [hp : RdV pairE As pv pairs] (H : Sat w0 w As) (hp0 : 0 < pairs.length) (h4 : ¬ kind = 4) (k : ∀ w', Sat w0 w' As → R (.returned (.bool (false))) w') :
    Calls Tryz.prog 61 #[.agg #[.int .i64 kind, .int .i64 part, .int .i64 split, .int .i64 attempt, .int .i64 reason, sv, pv]] w R := by
  have hl1 := hs.len_le H
  have hl2 := hp.len_le H
  go_enter Tryz.func61, Tryz.ntmps61
  go_wp2_with (first
      | (go_at_call 147; refine c349 H  ?_; clear H; intro  w H)
      | (go_at_call 106; refine c269 H  ?_; clear H; intro  w H)
      | (go_at_call 110; refine c273 H  ?_; clear H; intro  w H)
      | (go_at_call 107; refine c270 H  ?_; clear H; intro  w H)
      | (go_at_call 108; refine c271 H  ?_; clear H; intro  w H)
      | (go_at_call 111; refine c274 H  ?_; clear H; intro  w H)
      | (go_at_call 73; refine c228 H  ?_; clear H; intro  w H)
      | ((with_reducible refine is_box ?_); apply wl_box H; rfl; rfl; (conv => lhs; whnf); (conv => lhs; whnf); (clear H; intro b w H))
      | ((with_reducible refine is_load ?_); apply wl_load H; rfl; rfl; rfl; infer_instance; infer_instance; rfl; skip)
      | ((with_reducible refine is_load ?_); apply wl_load_agg H; rfl; rfl; rfl; infer_instance; infer_instance; (focus (simp; done)); (try simp only [cut, List.drop_zero, List.drop_succ_cons, List.take_succ_cons, List.take_zero]))
      | ((with_reducible refine is_len ?_); apply wl_len intE H; rfl; rfl; (conv => lhs; whnf); infer_instance; infer_instance; skip)
      | ((with_reducible refine is_len ?_); apply wl_len pairE H; rfl; rfl; (conv => lhs; whnf); infer_instance; infer_instance; skip)
      | ((with_reducible refine is_load ?_); apply wl_elem_agg intE H; rfl; rfl; rfl; infer_instance; infer_instance; (first | assumption | (simp only [Int.toNat_natCast]; assumption)); rfl; (conv => lhs; whnf); skip)
      | ((with_reducible refine is_load ?_); apply wl_elem intE H; rfl; rfl; rfl; infer_instance; infer_instance; (first | assumption | (simp only [Int.toNat_natCast]; assumption)); (conv => lhs; whnf); skip)
      | ((with_reducible refine is_load ?_); apply wl_elem_agg pairE H; rfl; rfl; rfl; infer_instance; infer_instance; (first | assumption | (simp only [Int.toNat_natCast]; assumption)); rfl; (conv => lhs; whnf); skip)
      | ((with_reducible refine is_load ?_); apply wl_elem pairE H; rfl; rfl; rfl; infer_instance; infer_instance; (first | assumption | (simp only [Int.toNat_natCast]; assumption)); (conv => lhs; whnf); skip))
  all_goals (first
      | exact H.ent
      | (simpa using H.ent)
      | (refine fin (k _ H.ent) ?_; first | rfl | (simp_all [true_and]; done) | (simp_all [true_and]; omega) | (congr 1; rw [Bool.eq_iff_iff]; simp [true_and]; omega) | (congr 1; rw [Bool.eq_iff_iff]; simp_all [true_and]; done) | (congr 1; simp [true_and]; omega) | (congr 1; simp_all [true_and, Bool.beq_eq_decide_eq]; done)))

set_option maxHeartbeats 2000000 in
theorem c170c1 {part split attempt reason : Int} {set : List Int} {sv pv : Value} [hs : RdV intE As sv set] [hp : RdV pairE As pv []] (H : Sat w0 w As) (hr0 : ¬ reason = 0) (k : ∀ w', Sat w0 w' As → R (.returned (.bool (false))) w') :
    Calls Tryz.prog 61 #[.agg #[.int .i64 1, .int .i64 part, .int .i64 split, .int .i64 attempt, .int .i64 reason, sv, pv]] w R := by
  have hl1 := hs.len_le H
  have hl2 := hp.len_le H
  go_enter Tryz.func61, Tryz.ntmps61
  go_wp2_with (first
      | (go_at_call 147; refine c349 H  ?_; clear H; intro  w H)
      | (go_at_call 106; refine c269 H  ?_; clear H; intro  w H)
      | (go_at_call 110; refine c273 H  ?_; clear H; intro  w H)
      | (go_at_call 107; refine c270 H  ?_; clear H; intro  w H)
      | (go_at_call 108; refine c271 H  ?_; clear H; intro  w H)
      | (go_at_call 111; refine c274 H  ?_; clear H; intro  w H)
      | (go_at_call 73; refine c228 H  ?_; clear H; intro  w H)
      | ((with_reducible refine is_box ?_); apply wl_box H; rfl; rfl; (conv => lhs; whnf); (conv => lhs; whnf); (clear H; intro b w H))
      | ((with_reducible refine is_load ?_); apply wl_load H; rfl; rfl; rfl; infer_instance; infer_instance; rfl; skip)
      | ((with_reducible refine is_load ?_); apply wl_load_agg H; rfl; rfl; rfl; infer_instance; infer_instance; (focus (simp; done)); (try simp only [cut, List.drop_zero, List.drop_succ_cons, List.take_succ_cons, List.take_zero]))
      | ((with_reducible refine is_len ?_); apply wl_len intE H; rfl; rfl; (conv => lhs; whnf); infer_instance; infer_instance; skip)
      | ((with_reducible refine is_len ?_); apply wl_len pairE H; rfl; rfl; (conv => lhs; whnf); infer_instance; infer_instance; skip)
      | ((with_reducible refine is_load ?_); apply wl_elem_agg intE H; rfl; rfl; rfl; infer_instance; infer_instance; (first | assumption | (simp only [Int.toNat_natCast]; assumption)); rfl; (conv => lhs; whnf); skip)
      | ((with_reducible refine is_load ?_); apply wl_elem intE H; rfl; rfl; rfl; infer_instance; infer_instance; (first | assumption | (simp only [Int.toNat_natCast]; assumption)); (conv => lhs; whnf); skip)
      | ((with_reducible refine is_load ?_); apply wl_elem_agg pairE H; rfl; rfl; rfl; infer_instance; infer_instance; (first | assumption | (simp only [Int.toNat_natCast]; assumption)); rfl; (conv => lhs; whnf); skip)
      | ((with_reducible refine is_load ?_); apply wl_elem pairE H; rfl; rfl; rfl; infer_instance; infer_instance; (first | assumption | (simp only [Int.toNat_natCast]; assumption)); (conv => lhs; whnf); skip))
  all_goals (first
      | exact H.ent
      | (simpa using H.ent)
      | (refine fin (k _ H.ent) ?_; first | rfl | (simp_all [true_and]; done) | (simp_all [true_and]; omega) | (congr 1; rw [Bool.eq_iff_iff]; simp [true_and]; omega) | (congr 1; rw [Bool.eq_iff_iff]; simp_all [true_and]; done) | (congr 1; simp [true_and]; omega) | (congr 1; simp_all [true_and, Bool.beq_eq_decide_eq]; done)))

set_option maxHeartbeats 2000000 in
theorem c170c5 {part split attempt reason : Int} {set : List Int} {sv pv : Value} [hs : RdV intE As sv set] [hp : RdV pairE As pv []] (H : Sat w0 w As) (hr0 : ¬ reason = 0) (k : ∀ w', Sat w0 w' As → R (.returned (.bool (false))) w') :
    Calls Tryz.prog 61 #[.agg #[.int .i64 5, .int .i64 part, .int .i64 split, .int .i64 attempt, .int .i64 reason, sv, pv]] w R := by
  have hl1 := hs.len_le H
  have hl2 := hp.len_le H
  go_enter Tryz.func61, Tryz.ntmps61
  go_wp2_with (first
      | (go_at_call 147; refine c349 H  ?_; clear H; intro  w H)
      | (go_at_call 106; refine c269 H  ?_; clear H; intro  w H)
      | (go_at_call 110; refine c273 H  ?_; clear H; intro  w H)
      | (go_at_call 107; refine c270 H  ?_; clear H; intro  w H)
      | (go_at_call 108; refine c271 H  ?_; clear H; intro  w H)
      | (go_at_call 111; refine c274 H  ?_; clear H; intro  w H)
      | (go_at_call 73; refine c228 H  ?_; clear H; intro  w H)
      | ((with_reducible refine is_box ?_); apply wl_box H; rfl; rfl; (conv => lhs; whnf); (conv => lhs; whnf); (clear H; intro b w H))
      | ((with_reducible refine is_load ?_); apply wl_load H; rfl; rfl; rfl; infer_instance; infer_instance; rfl; skip)
      | ((with_reducible refine is_load ?_); apply wl_load_agg H; rfl; rfl; rfl; infer_instance; infer_instance; (focus (simp; done)); (try simp only [cut, List.drop_zero, List.drop_succ_cons, List.take_succ_cons, List.take_zero]))
      | ((with_reducible refine is_len ?_); apply wl_len intE H; rfl; rfl; (conv => lhs; whnf); infer_instance; infer_instance; skip)
      | ((with_reducible refine is_len ?_); apply wl_len pairE H; rfl; rfl; (conv => lhs; whnf); infer_instance; infer_instance; skip)
      | ((with_reducible refine is_load ?_); apply wl_elem_agg intE H; rfl; rfl; rfl; infer_instance; infer_instance; (first | assumption | (simp only [Int.toNat_natCast]; assumption)); rfl; (conv => lhs; whnf); skip)
      | ((with_reducible refine is_load ?_); apply wl_elem intE H; rfl; rfl; rfl; infer_instance; infer_instance; (first | assumption | (simp only [Int.toNat_natCast]; assumption)); (conv => lhs; whnf); skip)
      | ((with_reducible refine is_load ?_); apply wl_elem_agg pairE H; rfl; rfl; rfl; infer_instance; infer_instance; (first | assumption | (simp only [Int.toNat_natCast]; assumption)); rfl; (conv => lhs; whnf); skip)
      | ((with_reducible refine is_load ?_); apply wl_elem pairE H; rfl; rfl; rfl; infer_instance; infer_instance; (first | assumption | (simp only [Int.toNat_natCast]; assumption)); (conv => lhs; whnf); skip))
  all_goals (first
      | exact H.ent
      | (simpa using H.ent)
      | (refine fin (k _ H.ent) ?_; first | rfl | (simp_all [true_and]; done) | (simp_all [true_and]; omega) | (congr 1; rw [Bool.eq_iff_iff]; simp [true_and]; omega) | (congr 1; rw [Bool.eq_iff_iff]; simp_all [true_and]; done) | (congr 1; simp [true_and]; omega) | (congr 1; simp_all [true_and, Bool.beq_eq_decide_eq]; done)))

set_option maxHeartbeats 2000000 in
theorem c170c4 {part split attempt reason : Int} {pairs : List Pr} {sv pv : Value} [hs : RdV intE As sv []] [hp : RdV pairE As pv pairs] (H : Sat w0 w As) (hr0 : ¬ reason = 0) (k : ∀ w', Sat w0 w' As → R (.returned (.bool (false))) w') :
    Calls Tryz.prog 61 #[.agg #[.int .i64 4, .int .i64 part, .int .i64 split, .int .i64 attempt, .int .i64 reason, sv, pv]] w R := by
  have hl1 := hs.len_le H
  have hl2 := hp.len_le H
  go_enter Tryz.func61, Tryz.ntmps61
  go_wp2_with (first
      | (go_at_call 147; refine c349 H  ?_; clear H; intro  w H)
      | (go_at_call 106; refine c269 H  ?_; clear H; intro  w H)
      | (go_at_call 110; refine c273 H  ?_; clear H; intro  w H)
      | (go_at_call 107; refine c270 H  ?_; clear H; intro  w H)
      | (go_at_call 108; refine c271 H  ?_; clear H; intro  w H)
      | (go_at_call 111; refine c274 H  ?_; clear H; intro  w H)
      | (go_at_call 73; refine c228 H  ?_; clear H; intro  w H)
      | ((with_reducible refine is_box ?_); apply wl_box H; rfl; rfl; (conv => lhs; whnf); (conv => lhs; whnf); (clear H; intro b w H))
      | ((with_reducible refine is_load ?_); apply wl_load H; rfl; rfl; rfl; infer_instance; infer_instance; rfl; skip)
      | ((with_reducible refine is_load ?_); apply wl_load_agg H; rfl; rfl; rfl; infer_instance; infer_instance; (focus (simp; done)); (try simp only [cut, List.drop_zero, List.drop_succ_cons, List.take_succ_cons, List.take_zero]))
      | ((with_reducible refine is_len ?_); apply wl_len intE H; rfl; rfl; (conv => lhs; whnf); infer_instance; infer_instance; skip)
      | ((with_reducible refine is_len ?_); apply wl_len pairE H; rfl; rfl; (conv => lhs; whnf); infer_instance; infer_instance; skip)
      | ((with_reducible refine is_load ?_); apply wl_elem_agg intE H; rfl; rfl; rfl; infer_instance; infer_instance; (first | assumption | (simp only [Int.toNat_natCast]; assumption)); rfl; (conv => lhs; whnf); skip)
      | ((with_reducible refine is_load ?_); apply wl_elem intE H; rfl; rfl; rfl; infer_instance; infer_instance; (first | assumption | (simp only [Int.toNat_natCast]; assumption)); (conv => lhs; whnf); skip)
      | ((with_reducible refine is_load ?_); apply wl_elem_agg pairE H; rfl; rfl; rfl; infer_instance; infer_instance; (first | assumption | (simp only [Int.toNat_natCast]; assumption)); rfl; (conv => lhs; whnf); skip)
      | ((with_reducible refine is_load ?_); apply wl_elem pairE H; rfl; rfl; rfl; infer_instance; infer_instance; (first | assumption | (simp only [Int.toNat_natCast]; assumption)); (conv => lhs; whnf); skip))
  all_goals (first
      | exact H.ent
      | (simpa using H.ent)
      | (refine fin (k _ H.ent) ?_; first | rfl | (simp_all [true_and]; done) | (simp_all [true_and]; omega) | (congr 1; rw [Bool.eq_iff_iff]; simp [true_and]; omega) | (congr 1; rw [Bool.eq_iff_iff]; simp_all [true_and]; done) | (congr 1; simp [true_and]; omega) | (congr 1; simp_all [true_and, Bool.beq_eq_decide_eq]; done)))

set_option maxHeartbeats 2000000 in
theorem c170c0 {kind part split attempt reason : Int} {sv pv : Value} [hs : RdV intE As sv []] [hp : RdV pairE As pv []] (H : Sat w0 w As) (hr0 : ¬ reason = 0) (h3 : ¬ kind = 3) (k : ∀ w', Sat w0 w' As → R (.returned (.bool (false))) w') :
    Calls Tryz.prog 61 #[.agg #[.int .i64 kind, .int .i64 part, .int .i64 split, .int .i64 attempt, .int .i64 reason, sv, pv]] w R := by
  have hl1 := hs.len_le H
  have hl2 := hp.len_le H
  go_enter Tryz.func61, Tryz.ntmps61
  go_wp2_with (first
      | (go_at_call 147; refine c349 H  ?_; clear H; intro  w H)
      | (go_at_call 106; refine c269 H  ?_; clear H; intro  w H)
      | (go_at_call 110; refine c273 H  ?_; clear H; intro  w H)
      | (go_at_call 107; refine c270 H  ?_; clear H; intro  w H)
      | (go_at_call 108; refine c271 H  ?_; clear H; intro  w H)
      | (go_at_call 111; refine c274 H  ?_; clear H; intro  w H)
      | (go_at_call 73; refine c228 H  ?_; clear H; intro  w H)
      | ((with_reducible refine is_box ?_); apply wl_box H; rfl; rfl; (conv => lhs; whnf); (conv => lhs; whnf); (clear H; intro b w H))
      | ((with_reducible refine is_load ?_); apply wl_load H; rfl; rfl; rfl; infer_instance; infer_instance; rfl; skip)
      | ((with_reducible refine is_load ?_); apply wl_load_agg H; rfl; rfl; rfl; infer_instance; infer_instance; (focus (simp; done)); (try simp only [cut, List.drop_zero, List.drop_succ_cons, List.take_succ_cons, List.take_zero]))
      | ((with_reducible refine is_len ?_); apply wl_len intE H; rfl; rfl; (conv => lhs; whnf); infer_instance; infer_instance; skip)
      | ((with_reducible refine is_len ?_); apply wl_len pairE H; rfl; rfl; (conv => lhs; whnf); infer_instance; infer_instance; skip)
      | ((with_reducible refine is_load ?_); apply wl_elem_agg intE H; rfl; rfl; rfl; infer_instance; infer_instance; (first | assumption | (simp only [Int.toNat_natCast]; assumption)); rfl; (conv => lhs; whnf); skip)
      | ((with_reducible refine is_load ?_); apply wl_elem intE H; rfl; rfl; rfl; infer_instance; infer_instance; (first | assumption | (simp only [Int.toNat_natCast]; assumption)); (conv => lhs; whnf); skip)
      | ((with_reducible refine is_load ?_); apply wl_elem_agg pairE H; rfl; rfl; rfl; infer_instance; infer_instance; (first | assumption | (simp only [Int.toNat_natCast]; assumption)); rfl; (conv => lhs; whnf); skip)
      | ((with_reducible refine is_load ?_); apply wl_elem pairE H; rfl; rfl; rfl; infer_instance; infer_instance; (first | assumption | (simp only [Int.toNat_natCast]; assumption)); (conv => lhs; whnf); skip))
  all_goals (first
      | exact H.ent
      | (simpa using H.ent)
      | (refine fin (k _ H.ent) ?_; first | rfl | (simp_all [true_and]; done) | (simp_all [true_and]; omega) | (congr 1; rw [Bool.eq_iff_iff]; simp [true_and]; omega) | (congr 1; rw [Bool.eq_iff_iff]; simp_all [true_and]; done) | (congr 1; simp [true_and]; omega) | (congr 1; simp_all [true_and, Bool.beq_eq_decide_eq]; done)))

set_option maxHeartbeats 2000000 in
theorem c170k1 {part split attempt : Int} {set : List Int} {sv pv : Value} [hs : RdV intE As sv set] [hp : RdV pairE As pv []] (H : Sat w0 w As) (k : ∀ w', Sat w0 w' As → R (.returned (.bool (decide (part = 0) && isSplit split && isAttempt attempt && countsOk set))) w') :
    Calls Tryz.prog 61 #[.agg #[.int .i64 1, .int .i64 part, .int .i64 split, .int .i64 attempt, .int .i64 0, sv, pv]] w R := by
  have hl1 := hs.len_le H
  have hl2 := hp.len_le H
  go_enter Tryz.func61, Tryz.ntmps61
  go_wp2_with (first
      | (go_at_call 147; refine c349 H  ?_; clear H; intro  w H)
      | (go_at_call 106; refine c269 H  ?_; clear H; intro  w H)
      | (go_at_call 110; refine c273 H  ?_; clear H; intro  w H)
      | (go_at_call 107; refine c270 H  ?_; clear H; intro  w H)
      | (go_at_call 108; refine c271 H  ?_; clear H; intro  w H)
      | (go_at_call 111; refine c274 H  ?_; clear H; intro  w H)
      | (go_at_call 73; refine c228 H  ?_; clear H; intro  w H)
      | ((with_reducible refine is_box ?_); apply wl_box H; rfl; rfl; (conv => lhs; whnf); (conv => lhs; whnf); (clear H; intro b w H))
      | ((with_reducible refine is_load ?_); apply wl_load H; rfl; rfl; rfl; infer_instance; infer_instance; rfl; skip)
      | ((with_reducible refine is_load ?_); apply wl_load_agg H; rfl; rfl; rfl; infer_instance; infer_instance; (focus (simp; done)); (try simp only [cut, List.drop_zero, List.drop_succ_cons, List.take_succ_cons, List.take_zero]))
      | ((with_reducible refine is_len ?_); apply wl_len intE H; rfl; rfl; (conv => lhs; whnf); infer_instance; infer_instance; skip)
      | ((with_reducible refine is_len ?_); apply wl_len pairE H; rfl; rfl; (conv => lhs; whnf); infer_instance; infer_instance; skip)
      | ((with_reducible refine is_load ?_); apply wl_elem_agg intE H; rfl; rfl; rfl; infer_instance; infer_instance; (first | assumption | (simp only [Int.toNat_natCast]; assumption)); rfl; (conv => lhs; whnf); skip)
      | ((with_reducible refine is_load ?_); apply wl_elem intE H; rfl; rfl; rfl; infer_instance; infer_instance; (first | assumption | (simp only [Int.toNat_natCast]; assumption)); (conv => lhs; whnf); skip)
      | ((with_reducible refine is_load ?_); apply wl_elem_agg pairE H; rfl; rfl; rfl; infer_instance; infer_instance; (first | assumption | (simp only [Int.toNat_natCast]; assumption)); rfl; (conv => lhs; whnf); skip)
      | ((with_reducible refine is_load ?_); apply wl_elem pairE H; rfl; rfl; rfl; infer_instance; infer_instance; (first | assumption | (simp only [Int.toNat_natCast]; assumption)); (conv => lhs; whnf); skip))
  all_goals (first
      | exact H.ent
      | (simpa using H.ent)
      | (refine fin (k _ H.ent) ?_; first | rfl | (simp_all [true_and]; done) | (simp_all [true_and]; omega) | (congr 1; rw [Bool.eq_iff_iff]; simp [true_and]; omega) | (congr 1; rw [Bool.eq_iff_iff]; simp_all [true_and]; done) | (congr 1; simp [true_and]; omega) | (congr 1; simp_all [true_and, Bool.beq_eq_decide_eq]; done)))

set_option maxHeartbeats 2000000 in
theorem c170k2 {part split attempt : Int} {sv pv : Value} [hs : RdV intE As sv []] [hp : RdV pairE As pv []] (H : Sat w0 w As) (k : ∀ w', Sat w0 w' As → R (.returned (.bool (decide (part = 0) && decide (split = 0) && decide (attempt = 0)))) w') :
    Calls Tryz.prog 61 #[.agg #[.int .i64 2, .int .i64 part, .int .i64 split, .int .i64 attempt, .int .i64 0, sv, pv]] w R := by
  have hl1 := hs.len_le H
  have hl2 := hp.len_le H
  go_enter Tryz.func61, Tryz.ntmps61
  go_wp2_with (first
      | (go_at_call 147; refine c349 H  ?_; clear H; intro  w H)
      | (go_at_call 106; refine c269 H  ?_; clear H; intro  w H)
      | (go_at_call 110; refine c273 H  ?_; clear H; intro  w H)
      | (go_at_call 107; refine c270 H  ?_; clear H; intro  w H)
      | (go_at_call 108; refine c271 H  ?_; clear H; intro  w H)
      | (go_at_call 111; refine c274 H  ?_; clear H; intro  w H)
      | (go_at_call 73; refine c228 H  ?_; clear H; intro  w H)
      | ((with_reducible refine is_box ?_); apply wl_box H; rfl; rfl; (conv => lhs; whnf); (conv => lhs; whnf); (clear H; intro b w H))
      | ((with_reducible refine is_load ?_); apply wl_load H; rfl; rfl; rfl; infer_instance; infer_instance; rfl; skip)
      | ((with_reducible refine is_load ?_); apply wl_load_agg H; rfl; rfl; rfl; infer_instance; infer_instance; (focus (simp; done)); (try simp only [cut, List.drop_zero, List.drop_succ_cons, List.take_succ_cons, List.take_zero]))
      | ((with_reducible refine is_len ?_); apply wl_len intE H; rfl; rfl; (conv => lhs; whnf); infer_instance; infer_instance; skip)
      | ((with_reducible refine is_len ?_); apply wl_len pairE H; rfl; rfl; (conv => lhs; whnf); infer_instance; infer_instance; skip)
      | ((with_reducible refine is_load ?_); apply wl_elem_agg intE H; rfl; rfl; rfl; infer_instance; infer_instance; (first | assumption | (simp only [Int.toNat_natCast]; assumption)); rfl; (conv => lhs; whnf); skip)
      | ((with_reducible refine is_load ?_); apply wl_elem intE H; rfl; rfl; rfl; infer_instance; infer_instance; (first | assumption | (simp only [Int.toNat_natCast]; assumption)); (conv => lhs; whnf); skip)
      | ((with_reducible refine is_load ?_); apply wl_elem_agg pairE H; rfl; rfl; rfl; infer_instance; infer_instance; (first | assumption | (simp only [Int.toNat_natCast]; assumption)); rfl; (conv => lhs; whnf); skip)
      | ((with_reducible refine is_load ?_); apply wl_elem pairE H; rfl; rfl; rfl; infer_instance; infer_instance; (first | assumption | (simp only [Int.toNat_natCast]; assumption)); (conv => lhs; whnf); skip))
  all_goals (first
      | exact H.ent
      | (simpa using H.ent)
      | (refine fin (k _ H.ent) ?_; first | rfl | (simp_all [true_and]; done) | (simp_all [true_and]; omega) | (congr 1; rw [Bool.eq_iff_iff]; simp [true_and]; omega) | (congr 1; rw [Bool.eq_iff_iff]; simp_all [true_and]; done) | (congr 1; simp [true_and]; omega) | (congr 1; simp_all [true_and, Bool.beq_eq_decide_eq]; done)))

set_option maxHeartbeats 2000000 in
theorem c170k6 {part split attempt : Int} {sv pv : Value} [hs : RdV intE As sv []] [hp : RdV pairE As pv []] (H : Sat w0 w As) (k : ∀ w', Sat w0 w' As → R (.returned (.bool (decide (part = 0) && decide (split = 0) && decide (attempt = 0)))) w') :
    Calls Tryz.prog 61 #[.agg #[.int .i64 6, .int .i64 part, .int .i64 split, .int .i64 attempt, .int .i64 0, sv, pv]] w R := by
  have hl1 := hs.len_le H
  have hl2 := hp.len_le H
  go_enter Tryz.func61, Tryz.ntmps61
  go_wp2_with (first
      | (go_at_call 147; refine c349 H  ?_; clear H; intro  w H)
      | (go_at_call 106; refine c269 H  ?_; clear H; intro  w H)
      | (go_at_call 110; refine c273 H  ?_; clear H; intro  w H)
      | (go_at_call 107; refine c270 H  ?_; clear H; intro  w H)
      | (go_at_call 108; refine c271 H  ?_; clear H; intro  w H)
      | (go_at_call 111; refine c274 H  ?_; clear H; intro  w H)
      | (go_at_call 73; refine c228 H  ?_; clear H; intro  w H)
      | ((with_reducible refine is_box ?_); apply wl_box H; rfl; rfl; (conv => lhs; whnf); (conv => lhs; whnf); (clear H; intro b w H))
      | ((with_reducible refine is_load ?_); apply wl_load H; rfl; rfl; rfl; infer_instance; infer_instance; rfl; skip)
      | ((with_reducible refine is_load ?_); apply wl_load_agg H; rfl; rfl; rfl; infer_instance; infer_instance; (focus (simp; done)); (try simp only [cut, List.drop_zero, List.drop_succ_cons, List.take_succ_cons, List.take_zero]))
      | ((with_reducible refine is_len ?_); apply wl_len intE H; rfl; rfl; (conv => lhs; whnf); infer_instance; infer_instance; skip)
      | ((with_reducible refine is_len ?_); apply wl_len pairE H; rfl; rfl; (conv => lhs; whnf); infer_instance; infer_instance; skip)
      | ((with_reducible refine is_load ?_); apply wl_elem_agg intE H; rfl; rfl; rfl; infer_instance; infer_instance; (first | assumption | (simp only [Int.toNat_natCast]; assumption)); rfl; (conv => lhs; whnf); skip)
      | ((with_reducible refine is_load ?_); apply wl_elem intE H; rfl; rfl; rfl; infer_instance; infer_instance; (first | assumption | (simp only [Int.toNat_natCast]; assumption)); (conv => lhs; whnf); skip)
      | ((with_reducible refine is_load ?_); apply wl_elem_agg pairE H; rfl; rfl; rfl; infer_instance; infer_instance; (first | assumption | (simp only [Int.toNat_natCast]; assumption)); rfl; (conv => lhs; whnf); skip)
      | ((with_reducible refine is_load ?_); apply wl_elem pairE H; rfl; rfl; rfl; infer_instance; infer_instance; (first | assumption | (simp only [Int.toNat_natCast]; assumption)); (conv => lhs; whnf); skip))
  all_goals (first
      | exact H.ent
      | (simpa using H.ent)
      | (refine fin (k _ H.ent) ?_; first | rfl | (simp_all [true_and]; done) | (simp_all [true_and]; omega) | (congr 1; rw [Bool.eq_iff_iff]; simp [true_and]; omega) | (congr 1; rw [Bool.eq_iff_iff]; simp_all [true_and]; done) | (congr 1; simp [true_and]; omega) | (congr 1; simp_all [true_and, Bool.beq_eq_decide_eq]; done)))

theorem c272e {part split attempt reason : Int} {sv pv : Value} [hs : RdV intE As sv []] [hp : RdV pairE As pv []] (H : Sat w0 w As) (k : ∀ w', Sat w0 w' As → R (.returned (.bool (overOk ⟨3, part, split, attempt, reason, [], []⟩))) w') :
    Calls Tryz.prog 109 #[.agg #[.int .i64 3, .int .i64 part, .int .i64 split, .int .i64 attempt, .int .i64 reason, sv, pv]] w R :=
  c272 (x := ⟨3, part, split, attempt, reason, [], []⟩) (hs := hs) (hp := hp) H k
set_option maxHeartbeats 2000000 in
theorem c170k3 {part split attempt reason : Int} {sv pv : Value} [hs : RdV intE As sv []] [hp : RdV pairE As pv []] (H : Sat w0 w As) (k : ∀ w', Sat w0 w' As → R (.returned (.bool (overOk ⟨3, part, split, attempt, reason, [], []⟩))) w') :
    Calls Tryz.prog 61 #[.agg #[.int .i64 3, .int .i64 part, .int .i64 split, .int .i64 attempt, .int .i64 reason, sv, pv]] w R := by
  have hl1 := hs.len_le H
  have hl2 := hp.len_le H
  go_enter Tryz.func61, Tryz.ntmps61
  go_wp2_with (first
      | (go_at_call 147; refine c349 H  ?_; clear H; intro  w H)
      | (go_at_call 106; refine c269 H  ?_; clear H; intro  w H)
      | (go_at_call 110; refine c273 H  ?_; clear H; intro  w H)
      | (go_at_call 107; refine c270 H  ?_; clear H; intro  w H)
      | (go_at_call 108; refine c271 H  ?_; clear H; intro  w H)
      | (go_at_call 111; refine c274 H  ?_; clear H; intro  w H)
      | (go_at_call 73; refine c228 H  ?_; clear H; intro  w H)
      | (go_at_call 109; refine c272e H ?_; clear H; intro w H)
      | ((with_reducible refine is_box ?_); apply wl_box H; rfl; rfl; (conv => lhs; whnf); (conv => lhs; whnf); (clear H; intro b w H))
      | ((with_reducible refine is_load ?_); apply wl_load H; rfl; rfl; rfl; infer_instance; infer_instance; rfl; skip)
      | ((with_reducible refine is_load ?_); apply wl_load_agg H; rfl; rfl; rfl; infer_instance; infer_instance; (focus (simp; done)); (try simp only [cut, List.drop_zero, List.drop_succ_cons, List.take_succ_cons, List.take_zero]))
      | ((with_reducible refine is_len ?_); apply wl_len intE H; rfl; rfl; (conv => lhs; whnf); infer_instance; infer_instance; skip)
      | ((with_reducible refine is_len ?_); apply wl_len pairE H; rfl; rfl; (conv => lhs; whnf); infer_instance; infer_instance; skip)
      | ((with_reducible refine is_load ?_); apply wl_elem_agg intE H; rfl; rfl; rfl; infer_instance; infer_instance; (first | assumption | (simp only [Int.toNat_natCast]; assumption)); rfl; (conv => lhs; whnf); skip)
      | ((with_reducible refine is_load ?_); apply wl_elem intE H; rfl; rfl; rfl; infer_instance; infer_instance; (first | assumption | (simp only [Int.toNat_natCast]; assumption)); (conv => lhs; whnf); skip)
      | ((with_reducible refine is_load ?_); apply wl_elem_agg pairE H; rfl; rfl; rfl; infer_instance; infer_instance; (first | assumption | (simp only [Int.toNat_natCast]; assumption)); rfl; (conv => lhs; whnf); skip)
      | ((with_reducible refine is_load ?_); apply wl_elem pairE H; rfl; rfl; rfl; infer_instance; infer_instance; (first | assumption | (simp only [Int.toNat_natCast]; assumption)); (conv => lhs; whnf); skip))
  all_goals first | exact H.ent | (refine fin (k _ H.ent) ?_; subst_vars; rfl)

set_option maxHeartbeats 2000000 in
theorem c170k4 {part split attempt : Int} {pairs : List Pr} {sv pv : Value} [hs : RdV intE As sv []] [hp : RdV pairE As pv pairs] (H : Sat w0 w As) (k : ∀ w', Sat w0 w' As → R (.returned (.bool (isPart part && isSplit split && isAttempt attempt && decide (pairs.length ≤ 40) && pairsMay pairs))) w') :
    Calls Tryz.prog 61 #[.agg #[.int .i64 4, .int .i64 part, .int .i64 split, .int .i64 attempt, .int .i64 0, sv, pv]] w R := by
  have hl1 := hs.len_le H
  have hl2 := hp.len_le H
  go_enter Tryz.func61, Tryz.ntmps61
  go_wp2_with (first
      | (go_at_call 147; refine c349 H  ?_; clear H; intro  w H)
      | (go_at_call 106; refine c269 H  ?_; clear H; intro  w H)
      | (go_at_call 110; refine c273 H  ?_; clear H; intro  w H)
      | (go_at_call 107; refine c270 H  ?_; clear H; intro  w H)
      | (go_at_call 108; refine c271 H  ?_; clear H; intro  w H)
      | (go_at_call 111; refine c274 H  ?_; clear H; intro  w H)
      | (go_at_call 73; refine c228 H  ?_; clear H; intro  w H)
      | ((with_reducible refine is_box ?_); apply wl_box H; rfl; rfl; (conv => lhs; whnf); (conv => lhs; whnf); (clear H; intro b w H))
      | ((with_reducible refine is_load ?_); apply wl_load H; rfl; rfl; rfl; infer_instance; infer_instance; rfl; skip)
      | ((with_reducible refine is_load ?_); apply wl_load_agg H; rfl; rfl; rfl; infer_instance; infer_instance; (focus (simp; done)); (try simp only [cut, List.drop_zero, List.drop_succ_cons, List.take_succ_cons, List.take_zero]))
      | ((with_reducible refine is_len ?_); apply wl_len intE H; rfl; rfl; (conv => lhs; whnf); infer_instance; infer_instance; skip)
      | ((with_reducible refine is_len ?_); apply wl_len pairE H; rfl; rfl; (conv => lhs; whnf); infer_instance; infer_instance; skip)
      | ((with_reducible refine is_load ?_); apply wl_elem_agg intE H; rfl; rfl; rfl; infer_instance; infer_instance; (first | assumption | (simp only [Int.toNat_natCast]; assumption)); rfl; (conv => lhs; whnf); skip)
      | ((with_reducible refine is_load ?_); apply wl_elem intE H; rfl; rfl; rfl; infer_instance; infer_instance; (first | assumption | (simp only [Int.toNat_natCast]; assumption)); (conv => lhs; whnf); skip)
      | ((with_reducible refine is_load ?_); apply wl_elem_agg pairE H; rfl; rfl; rfl; infer_instance; infer_instance; (first | assumption | (simp only [Int.toNat_natCast]; assumption)); rfl; (conv => lhs; whnf); skip)
      | ((with_reducible refine is_load ?_); apply wl_elem pairE H; rfl; rfl; rfl; infer_instance; infer_instance; (first | assumption | (simp only [Int.toNat_natCast]; assumption)); (conv => lhs; whnf); skip))
  all_goals (first
      | exact H.ent
      | (simpa using H.ent)
      | (refine fin (k _ H.ent) ?_; first | rfl | (simp_all [true_and]; done) | (simp_all [true_and]; omega) | (congr 1; rw [Bool.eq_iff_iff]; simp [true_and]; omega) | (congr 1; rw [Bool.eq_iff_iff]; simp_all [true_and]; done) | (congr 1; simp [true_and]; omega) | (congr 1; simp_all [true_and, Bool.beq_eq_decide_eq]; done)))

set_option maxHeartbeats 2000000 in
theorem c170k5 {part split attempt : Int} {set : List Int} {sv pv : Value} [hs : RdV intE As sv set] [hp : RdV pairE As pv []] (H : Sat w0 w As) (k : ∀ w', Sat w0 w' As → R (.returned (.bool (isPart part && decide (split = 0) && decide (attempt = 0) && setOk (-1) set))) w') :
    Calls Tryz.prog 61 #[.agg #[.int .i64 5, .int .i64 part, .int .i64 split, .int .i64 attempt, .int .i64 0, sv, pv]] w R := by
  have hl1 := hs.len_le H
  have hl2 := hp.len_le H
  go_enter Tryz.func61, Tryz.ntmps61
  go_wp2_with (first
      | (go_at_call 147; refine c349 H  ?_; clear H; intro  w H)
      | (go_at_call 106; refine c269 H  ?_; clear H; intro  w H)
      | (go_at_call 110; refine c273 H  ?_; clear H; intro  w H)
      | (go_at_call 107; refine c270 H  ?_; clear H; intro  w H)
      | (go_at_call 108; refine c271 H  ?_; clear H; intro  w H)
      | (go_at_call 111; refine c274 H  ?_; clear H; intro  w H)
      | (go_at_call 73; refine c228 H  ?_; clear H; intro  w H)
      | ((with_reducible refine is_box ?_); apply wl_box H; rfl; rfl; (conv => lhs; whnf); (conv => lhs; whnf); (clear H; intro b w H))
      | ((with_reducible refine is_load ?_); apply wl_load H; rfl; rfl; rfl; infer_instance; infer_instance; rfl; skip)
      | ((with_reducible refine is_load ?_); apply wl_load_agg H; rfl; rfl; rfl; infer_instance; infer_instance; (focus (simp; done)); (try simp only [cut, List.drop_zero, List.drop_succ_cons, List.take_succ_cons, List.take_zero]))
      | ((with_reducible refine is_len ?_); apply wl_len intE H; rfl; rfl; (conv => lhs; whnf); infer_instance; infer_instance; skip)
      | ((with_reducible refine is_len ?_); apply wl_len pairE H; rfl; rfl; (conv => lhs; whnf); infer_instance; infer_instance; skip)
      | ((with_reducible refine is_load ?_); apply wl_elem_agg intE H; rfl; rfl; rfl; infer_instance; infer_instance; (first | assumption | (simp only [Int.toNat_natCast]; assumption)); rfl; (conv => lhs; whnf); skip)
      | ((with_reducible refine is_load ?_); apply wl_elem intE H; rfl; rfl; rfl; infer_instance; infer_instance; (first | assumption | (simp only [Int.toNat_natCast]; assumption)); (conv => lhs; whnf); skip)
      | ((with_reducible refine is_load ?_); apply wl_elem_agg pairE H; rfl; rfl; rfl; infer_instance; infer_instance; (first | assumption | (simp only [Int.toNat_natCast]; assumption)); rfl; (conv => lhs; whnf); skip)
      | ((with_reducible refine is_load ?_); apply wl_elem pairE H; rfl; rfl; rfl; infer_instance; infer_instance; (first | assumption | (simp only [Int.toNat_natCast]; assumption)); (conv => lhs; whnf); skip))
  all_goals (first
      | exact H.ent
      | (simpa using H.ent)
      | (refine fin (k _ H.ent) ?_; first | rfl | (simp_all [true_and]; done) | (simp_all [true_and]; omega) | (congr 1; rw [Bool.eq_iff_iff]; simp [true_and]; omega) | (congr 1; rw [Bool.eq_iff_iff]; simp_all [true_and]; done) | (congr 1; simp [true_and]; omega) | (congr 1; simp_all [true_and, Bool.beq_eq_decide_eq]; done)))

set_option maxHeartbeats 2000000 in
theorem c170kx {kind part split attempt : Int} {sv pv : Value} [hs : RdV intE As sv []] [hp : RdV pairE As pv []] (H : Sat w0 w As) (h1 : ¬ kind = 1) (h2 : ¬ kind = 2) (h3 : ¬ kind = 3) (h4 : ¬ kind = 4) (h5 : ¬ kind = 5) (h6 : ¬ kind = 6) (k : ∀ w', Sat w0 w' As → R (.returned (.bool (false))) w') :
    Calls Tryz.prog 61 #[.agg #[.int .i64 kind, .int .i64 part, .int .i64 split, .int .i64 attempt, .int .i64 0, sv, pv]] w R := by
  have hl1 := hs.len_le H
  have hl2 := hp.len_le H
  go_enter Tryz.func61, Tryz.ntmps61
  go_wp2_with (first
      | (go_at_call 147; refine c349 H  ?_; clear H; intro  w H)
      | (go_at_call 106; refine c269 H  ?_; clear H; intro  w H)
      | (go_at_call 110; refine c273 H  ?_; clear H; intro  w H)
      | (go_at_call 107; refine c270 H  ?_; clear H; intro  w H)
      | (go_at_call 108; refine c271 H  ?_; clear H; intro  w H)
      | (go_at_call 111; refine c274 H  ?_; clear H; intro  w H)
      | (go_at_call 73; refine c228 H  ?_; clear H; intro  w H)
      | ((with_reducible refine is_box ?_); apply wl_box H; rfl; rfl; (conv => lhs; whnf); (conv => lhs; whnf); (clear H; intro b w H))
      | ((with_reducible refine is_load ?_); apply wl_load H; rfl; rfl; rfl; infer_instance; infer_instance; rfl; skip)
      | ((with_reducible refine is_load ?_); apply wl_load_agg H; rfl; rfl; rfl; infer_instance; infer_instance; (focus (simp; done)); (try simp only [cut, List.drop_zero, List.drop_succ_cons, List.take_succ_cons, List.take_zero]))
      | ((with_reducible refine is_len ?_); apply wl_len intE H; rfl; rfl; (conv => lhs; whnf); infer_instance; infer_instance; skip)
      | ((with_reducible refine is_len ?_); apply wl_len pairE H; rfl; rfl; (conv => lhs; whnf); infer_instance; infer_instance; skip)
      | ((with_reducible refine is_load ?_); apply wl_elem_agg intE H; rfl; rfl; rfl; infer_instance; infer_instance; (first | assumption | (simp only [Int.toNat_natCast]; assumption)); rfl; (conv => lhs; whnf); skip)
      | ((with_reducible refine is_load ?_); apply wl_elem intE H; rfl; rfl; rfl; infer_instance; infer_instance; (first | assumption | (simp only [Int.toNat_natCast]; assumption)); (conv => lhs; whnf); skip)
      | ((with_reducible refine is_load ?_); apply wl_elem_agg pairE H; rfl; rfl; rfl; infer_instance; infer_instance; (first | assumption | (simp only [Int.toNat_natCast]; assumption)); rfl; (conv => lhs; whnf); skip)
      | ((with_reducible refine is_load ?_); apply wl_elem pairE H; rfl; rfl; rfl; infer_instance; infer_instance; (first | assumption | (simp only [Int.toNat_natCast]; assumption)); (conv => lhs; whnf); skip))
  all_goals (first
      | exact H.ent
      | (simpa using H.ent)
      | (refine fin (k _ H.ent) ?_; first | rfl | (simp_all [true_and]; done) | (simp_all [true_and]; omega) | (congr 1; rw [Bool.eq_iff_iff]; simp [true_and]; omega) | (congr 1; rw [Bool.eq_iff_iff]; simp_all [true_and]; done) | (congr 1; simp [true_and]; omega) | (congr 1; simp_all [true_and, Bool.beq_eq_decide_eq]; done)))

theorem c170 {x : Rec} {sv pv : Value} [hs : RdV intE As sv x.set] [hp : RdV pairE As pv x.pairs] (H : Sat w0 w As) (k : ∀ w', Sat w0 w' As → R (.returned (.bool (recMay x))) w') :
    Calls Tryz.prog 61 #[.agg #[.int .i64 x.kind, .int .i64 x.part, .int .i64 x.split, .int .i64 x.attempt, .int .i64 x.reason, sv, pv]] w R := by
  obtain ⟨kind, part, split, attempt, reason, set, pairs⟩ := x
  simp only at hs hp k ⊢
  have nil : ∀ {α : Type} (l : List α), ¬ 0 < l.length → l = [] := fun l h => List.eq_nil_of_length_eq_zero (by omega)
  by_cases hs0 : kind ≠ 1 ∧ kind ≠ 5 ∧ 0 < set.length
  · have e : recMay ⟨kind, part, split, attempt, reason, set, pairs⟩ = false := by unfold recMay; rw [if_pos (.inl hs0)]
    rw [e] at k
    exact c170a H hs0.2.2 hs0.1 hs0.2.1 k
  by_cases hp0 : kind ≠ 4 ∧ 0 < pairs.length
  · have e : recMay ⟨kind, part, split, attempt, reason, set, pairs⟩ = false := by unfold recMay; rw [if_pos (.inr (.inl hp0))]
    rw [e] at k
    by_cases h1 : kind = 1
    · subst h1; exact c170b1 H hp0.2 k
    · by_cases h5 : kind = 5
      · subst h5; exact c170b5 H hp0.2 k
      · obtain rfl := nil set (fun h => hs0 ⟨h1, h5, h⟩)
        exact c170b0 H hp0.2 hp0.1 k
  by_cases hr0 : kind ≠ 3 ∧ reason ≠ 0
  · have e : recMay ⟨kind, part, split, attempt, reason, set, pairs⟩ = false := by unfold recMay; rw [if_pos (.inr (.inr hr0))]
    rw [e] at k
    by_cases h1 : kind = 1
    · subst h1
      obtain rfl := nil pairs (fun h => hp0 ⟨by decide, h⟩)
      exact c170c1 H hr0.2 k
    · by_cases h5 : kind = 5
      · subst h5
        obtain rfl := nil pairs (fun h => hp0 ⟨by decide, h⟩)
        exact c170c5 H hr0.2 k
      · obtain rfl := nil set (fun h => hs0 ⟨h1, h5, h⟩)
        by_cases h4 : kind = 4
        · subst h4; exact c170c4 H hr0.2 k
        · obtain rfl := nil pairs (fun h => hp0 ⟨h4, h⟩)
          exact c170c0 H hr0.2 hr0.1 k
  have e : recMay ⟨kind, part, split, attempt, reason, set, pairs⟩ = if kind = 1 then decide (part = 0) && isSplit split && isAttempt attempt && countsOk set
      else if kind = 2 ∨ kind = 6 then decide (part = 0) && decide (split = 0) && decide (attempt = 0)
      else if kind = 3 then overOk ⟨kind, part, split, attempt, reason, set, pairs⟩
      else if kind = 4 then isPart part && isSplit split && isAttempt attempt && decide (pairs.length ≤ 40) && pairsMay pairs
      else if kind = 5 then isPart part && decide (split = 0) && decide (attempt = 0) && setOk (-1) set else false := by
    conv => lhs; unfold recMay
    rw [if_neg]
    rintro (h | h | h)
    · exact hs0 h
    · exact hp0 h
    · exact hr0 h
  rw [e] at k
  by_cases h1 : kind = 1
  · subst h1
    obtain rfl := nil pairs (fun h => hp0 ⟨by decide, h⟩)
    obtain rfl : reason = 0 := Classical.byContradiction fun h => hr0 ⟨by decide, h⟩
    exact c170k1 H k
  rw [if_neg h1] at k
  by_cases h5 : kind = 5
  · subst h5
    obtain rfl := nil pairs (fun h => hp0 ⟨by decide, h⟩)
    obtain rfl : reason = 0 := Classical.byContradiction fun h => hr0 ⟨by decide, h⟩
    exact c170k5 H k
  obtain rfl := nil set (fun h => hs0 ⟨h1, h5, h⟩)
  by_cases h4 : kind = 4
  · subst h4
    obtain rfl : reason = 0 := Classical.byContradiction fun h => hr0 ⟨by decide, h⟩
    exact c170k4 H k
  obtain rfl := nil pairs (fun h => hp0 ⟨h4, h⟩)
  by_cases h3 : kind = 3
  · subst h3
    exact c170k3 H k
  obtain rfl : reason = 0 := Classical.byContradiction fun h => hr0 ⟨h3, h⟩
  by_cases h2 : kind = 2
  · subst h2; exact c170k2 H k
  by_cases h6 : kind = 6
  · subst h6; exact c170k6 H k
  rw [if_neg (by rintro (h | h); exact h2 h; exact h6 h), if_neg h3, if_neg h4, if_neg h5] at k
  exact c170kx H h1 h2 h3 h4 h5 h6 k
end Go.Proofs.YtcdkaggdidfenaaGreatDoor
