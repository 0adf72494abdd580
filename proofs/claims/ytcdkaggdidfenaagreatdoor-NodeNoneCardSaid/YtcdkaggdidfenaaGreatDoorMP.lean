/- A part of the proof: contracts of functions of the given program, and the laws on memory that they lean on. -/
import Derived.Test.YtcdkaggdidfenaaGreatDoorMO
set_option linter.all false

namespace Go.Proofs.YtcdkaggdidfenaaGreatDoor
open Go.RowKit Go.Proofs Go.SL St
set_option maxRecDepth 100000
variable {w w0 : World} {As r : List HP} {R : Ending → World → Prop}

def mergedTo (m : List Bool) (n : Nat) : List Int := ((List.range n).filter fun (i : Nat) => m.getD i false).map fun (i : Nat) => (i : Int)
theorem mergedTo_succ (m : List Bool) (n : Nat) : mergedTo m (n + 1) = mergedTo m n ++ (if m.getD n false = true then [(n : Int)] else []) := by
  unfold mergedTo
  rw [List.range_succ, List.filter_append, List.map_append]
  congr 1
  cases h : m.getD n false <;> simp only [List.filter_cons, h] <;> simp
theorem mergedTo_t (m : List Bool) (n : Nat) (h : m.getD n false = true) : mergedTo m (n + 1) = mergedTo m n ++ [(n : Int)] := by rw [mergedTo_succ, if_pos h]
theorem mergedTo_f (m : List Bool) (n : Nat) (h : m.getD n false = false) : mergedTo m (n + 1) = mergedTo m n := by rw [mergedTo_succ, if_neg (by rw [h]; simp)]; simp
theorem mergedTo_len (m : List Bool) (n : Nat) : (mergedTo m n).length ≤ n := by
  unfold mergedTo; rw [List.length_map]; exact Nat.le_trans (List.length_filter_le _ _) (by simp)

set_option maxHeartbeats 4000000 in
theorem c47 {c : Cfg} {part epoch : Int} {cv : CfgV} {s0 s1 s2 s3 s4 s5 : SpV} {sb b : Nat} {sv : Value}
    [hr : Rd b As (.cells (redCells cv c part epoch s0 s1 s2 s3 s4 s5 sb sv) 212 (0, 0))] [hv : RdV v1E As cv.splits cv.svs] (H : Sat w0 w As) (hl : cv.svs.length = c.job.splits.length) (h6 : c.job.splits.length ≤ 6)
    (k : ∀ v w', Sat w0 w' (ownL intE 3 v (mergedTo [s0.merged, s1.merged, s2.merged, s3.merged, s4.merged, s5.merged] c.job.splits.length) :: As) → R (.returned v) w') : Calls Tryz.prog 133 #[.pointer (some ⟨b, 0, none⟩)] w R := by
  have HL := Lib.hid hl
  have hl6 : cv.svs.length ≤ 6 := by omega
  rw [← hl] at k
  clear hl h6
  go_enter Tryz.func133, Tryz.ntmps133
  go_wp2_with (first
      | ((with_reducible refine is_ret ?_); apply ret_tmp1; rfl; rfl; (conv => lhs; whnf); skip)
      | ((with_reducible refine is_load ?_); apply wl_load H; rfl; rfl; rfl; infer_instance; infer_instance; rfl; skip)
      | ((with_reducible refine is_load ?_); apply wl_load_agg H; rfl; rfl; rfl; infer_instance; infer_instance; (focus (simp; done)); (try simp only [cut, List.drop_zero, List.drop_succ_cons, List.take_succ_cons, List.take_zero]))
      | ((with_reducible refine is_len ?_); apply wl_len v1E H; rfl; rfl; (conv => lhs; whnf); infer_instance; infer_instance; skip)
      | ((with_reducible refine is_buildSlice ?_); apply wl_build1 intE H; rfl; rfl; (conv => lhs; whnf); infer_instance; infer_instance; (conv => lhs; whnf); infer_instance; (clear H; intro v w H; have hone := One1.mk (ownL_one H)))
      | ((with_reducible refine is_append ?_); apply wl_append intE H; rfl; rfl; (conv => lhs; whnf); (conv => lhs; whnf); infer_instance; infer_instance; infer_instance; infer_instance; (first | omega | (simp only [List.length_append, List.length_cons, List.length_nil, List.length_take, List.length_drop, List.length_replicate, Int.toNat_natCast]; omega) | (simp; omega)); (clear H; intro v w H; have hone := One1.mk (ownL_one H)))
      | ((with_reducible refine is_load ?_); apply wl_elem_agg v1E H; rfl; rfl; rfl; infer_instance; infer_instance; (first | assumption | (simp only [Int.toNat_natCast]; assumption)); rfl; (conv => lhs; whnf); skip)
      | ((with_reducible refine is_load ?_); apply wl_elem v1E H; rfl; rfl; rfl; infer_instance; infer_instance; (first | assumption | (simp only [Int.toNat_natCast]; assumption)); (conv => lhs; whnf); skip)
      | ((with_reducible refine is_load ?_); apply wl_elem_agg intE H; rfl; rfl; rfl; infer_instance; infer_instance; (first | assumption | (simp only [Int.toNat_natCast]; assumption)); rfl; (conv => lhs; whnf); skip)
      | ((with_reducible refine is_load ?_); apply wl_elem intE H; rfl; rfl; rfl; infer_instance; infer_instance; (first | assumption | (simp only [Int.toNat_natCast]; assumption)); (conv => lhs; whnf); skip))
  go_loopw [3, 14] (fun v i w => ∃ n : Nat, n ≤ cv.svs.length ∧ i = .int .i64 n ∧ Sat w0 w (ownL intE 3 v (mergedTo [s0.merged, s1.merged, s2.merged, s3.merged, s4.merged, s5.merged] n) :: As)) (fun _ i _ => cv.svs.length - (intOf i).toNat)
  case atStart => exact ⟨0, by omega, rfl, ownL_nil H⟩
  case round =>
    obtain ⟨n, hn, rfl, H⟩ := hrel
    have hone := One1.mk (ownL_one H)
    have hml := mergedTo_len [s0.merged, s1.merged, s2.merged, s3.merged, s4.merged, s5.merged] n
    by_cases hlt : n < cv.svs.length
    · obtain rfl | rfl | rfl | rfl | rfl | rfl : n = 0 ∨ n = 1 ∨ n = 2 ∨ n = 3 ∨ n = 4 ∨ n = 5 := by omega
      · have HT : Hid (s0.merged = true → mergedTo [s0.merged, s1.merged, s2.merged, s3.merged, s4.merged, s5.merged] 1 = mergedTo [s0.merged, s1.merged, s2.merged, s3.merged, s4.merged, s5.merged] 0 ++ [0]) := Lib.hid (mergedTo_t [s0.merged, s1.merged, s2.merged, s3.merged, s4.merged, s5.merged] 0)
        have HF : Hid (s0.merged = false → mergedTo [s0.merged, s1.merged, s2.merged, s3.merged, s4.merged, s5.merged] 1 = mergedTo [s0.merged, s1.merged, s2.merged, s3.merged, s4.merged, s5.merged] 0) := Lib.hid (mergedTo_f [s0.merged, s1.merged, s2.merged, s3.merged, s4.merged, s5.merged] 0)
        go_wp2_with (first
            | ((with_reducible refine is_ret ?_); apply ret_tmp1; rfl; rfl; (conv => lhs; whnf); skip)
            | ((with_reducible refine is_load ?_); apply wl_load H; rfl; rfl; rfl; infer_instance; infer_instance; rfl; skip)
            | ((with_reducible refine is_load ?_); apply wl_load_agg H; rfl; rfl; rfl; infer_instance; infer_instance; (focus (simp; done)); (try simp only [cut, List.drop_zero, List.drop_succ_cons, List.take_succ_cons, List.take_zero]))
            | ((with_reducible refine is_len ?_); apply wl_len v1E H; rfl; rfl; (conv => lhs; whnf); infer_instance; infer_instance; skip)
            | ((with_reducible refine is_buildSlice ?_); apply wl_build1 intE H; rfl; rfl; (conv => lhs; whnf); infer_instance; infer_instance; (conv => lhs; whnf); infer_instance; (clear H; intro v w H; have hone := One1.mk (ownL_one H)))
            | ((with_reducible refine is_append ?_); apply wl_append intE H; rfl; rfl; (conv => lhs; whnf); (conv => lhs; whnf); infer_instance; infer_instance; infer_instance; infer_instance; (first | omega | (simp only [List.length_append, List.length_cons, List.length_nil, List.length_take, List.length_drop, List.length_replicate, Int.toNat_natCast]; omega) | (simp; omega)); (clear H; intro v w H; have hone := One1.mk (ownL_one H)))
            | ((with_reducible refine is_load ?_); apply wl_elem_agg v1E H; rfl; rfl; rfl; infer_instance; infer_instance; (first | assumption | (simp only [Int.toNat_natCast]; assumption)); rfl; (conv => lhs; whnf); skip)
            | ((with_reducible refine is_load ?_); apply wl_elem v1E H; rfl; rfl; rfl; infer_instance; infer_instance; (first | assumption | (simp only [Int.toNat_natCast]; assumption)); (conv => lhs; whnf); skip)
            | ((with_reducible refine is_load ?_); apply wl_elem_agg intE H; rfl; rfl; rfl; infer_instance; infer_instance; (first | assumption | (simp only [Int.toNat_natCast]; assumption)); rfl; (conv => lhs; whnf); skip)
            | ((with_reducible refine is_load ?_); apply wl_elem intE H; rfl; rfl; rfl; infer_instance; infer_instance; (first | assumption | (simp only [Int.toNat_natCast]; assumption)); (conv => lhs; whnf); skip))
        all_goals
          go_roundw
          case rel => exact ⟨1, by omega, by go_num, by first | (rw [HT.out (by simp_all)]; exact H.ent) | (rw [HF.out (by simp_all)]; exact H.ent)⟩
          case measure => simp [intOf]; omega
      · have HT : Hid (s1.merged = true → mergedTo [s0.merged, s1.merged, s2.merged, s3.merged, s4.merged, s5.merged] 2 = mergedTo [s0.merged, s1.merged, s2.merged, s3.merged, s4.merged, s5.merged] 1 ++ [1]) := Lib.hid (mergedTo_t [s0.merged, s1.merged, s2.merged, s3.merged, s4.merged, s5.merged] 1)
        have HF : Hid (s1.merged = false → mergedTo [s0.merged, s1.merged, s2.merged, s3.merged, s4.merged, s5.merged] 2 = mergedTo [s0.merged, s1.merged, s2.merged, s3.merged, s4.merged, s5.merged] 1) := Lib.hid (mergedTo_f [s0.merged, s1.merged, s2.merged, s3.merged, s4.merged, s5.merged] 1)
        go_wp2_with (first
            | ((with_reducible refine is_ret ?_); apply ret_tmp1; rfl; rfl; (conv => lhs; whnf); skip)
            | ((with_reducible refine is_load ?_); apply wl_load H; rfl; rfl; rfl; infer_instance; infer_instance; rfl; skip)
            | ((with_reducible refine is_load ?_); apply wl_load_agg H; rfl; rfl; rfl; infer_instance; infer_instance; (focus (simp; done)); (try simp only [cut, List.drop_zero, List.drop_succ_cons, List.take_succ_cons, List.take_zero]))
            | ((with_reducible refine is_len ?_); apply wl_len v1E H; rfl; rfl; (conv => lhs; whnf); infer_instance; infer_instance; skip)
            | ((with_reducible refine is_buildSlice ?_); apply wl_build1 intE H; rfl; rfl; (conv => lhs; whnf); infer_instance; infer_instance; (conv => lhs; whnf); infer_instance; (clear H; intro v w H; have hone := One1.mk (ownL_one H)))
            | ((with_reducible refine is_append ?_); apply wl_append intE H; rfl; rfl; (conv => lhs; whnf); (conv => lhs; whnf); infer_instance; infer_instance; infer_instance; infer_instance; (first | omega | (simp only [List.length_append, List.length_cons, List.length_nil, List.length_take, List.length_drop, List.length_replicate, Int.toNat_natCast]; omega) | (simp; omega)); (clear H; intro v w H; have hone := One1.mk (ownL_one H)))
            | ((with_reducible refine is_load ?_); apply wl_elem_agg v1E H; rfl; rfl; rfl; infer_instance; infer_instance; (first | assumption | (simp only [Int.toNat_natCast]; assumption)); rfl; (conv => lhs; whnf); skip)
            | ((with_reducible refine is_load ?_); apply wl_elem v1E H; rfl; rfl; rfl; infer_instance; infer_instance; (first | assumption | (simp only [Int.toNat_natCast]; assumption)); (conv => lhs; whnf); skip)
            | ((with_reducible refine is_load ?_); apply wl_elem_agg intE H; rfl; rfl; rfl; infer_instance; infer_instance; (first | assumption | (simp only [Int.toNat_natCast]; assumption)); rfl; (conv => lhs; whnf); skip)
            | ((with_reducible refine is_load ?_); apply wl_elem intE H; rfl; rfl; rfl; infer_instance; infer_instance; (first | assumption | (simp only [Int.toNat_natCast]; assumption)); (conv => lhs; whnf); skip))
        all_goals
          go_roundw
          case rel => exact ⟨2, by omega, by go_num, by first | (rw [HT.out (by simp_all)]; exact H.ent) | (rw [HF.out (by simp_all)]; exact H.ent)⟩
          case measure => simp [intOf]; omega
      · have HT : Hid (s2.merged = true → mergedTo [s0.merged, s1.merged, s2.merged, s3.merged, s4.merged, s5.merged] 3 = mergedTo [s0.merged, s1.merged, s2.merged, s3.merged, s4.merged, s5.merged] 2 ++ [2]) := Lib.hid (mergedTo_t [s0.merged, s1.merged, s2.merged, s3.merged, s4.merged, s5.merged] 2)
        have HF : Hid (s2.merged = false → mergedTo [s0.merged, s1.merged, s2.merged, s3.merged, s4.merged, s5.merged] 3 = mergedTo [s0.merged, s1.merged, s2.merged, s3.merged, s4.merged, s5.merged] 2) := Lib.hid (mergedTo_f [s0.merged, s1.merged, s2.merged, s3.merged, s4.merged, s5.merged] 2)
        go_wp2_with (first
            | ((with_reducible refine is_ret ?_); apply ret_tmp1; rfl; rfl; (conv => lhs; whnf); skip)
            | ((with_reducible refine is_load ?_); apply wl_load H; rfl; rfl; rfl; infer_instance; infer_instance; rfl; skip)
            | ((with_reducible refine is_load ?_); apply wl_load_agg H; rfl; rfl; rfl; infer_instance; infer_instance; (focus (simp; done)); (try simp only [cut, List.drop_zero, List.drop_succ_cons, List.take_succ_cons, List.take_zero]))
            | ((with_reducible refine is_len ?_); apply wl_len v1E H; rfl; rfl; (conv => lhs; whnf); infer_instance; infer_instance; skip)
            | ((with_reducible refine is_buildSlice ?_); apply wl_build1 intE H; rfl; rfl; (conv => lhs; whnf); infer_instance; infer_instance; (conv => lhs; whnf); infer_instance; (clear H; intro v w H; have hone := One1.mk (ownL_one H)))
            | ((with_reducible refine is_append ?_); apply wl_append intE H; rfl; rfl; (conv => lhs; whnf); (conv => lhs; whnf); infer_instance; infer_instance; infer_instance; infer_instance; (first | omega | (simp only [List.length_append, List.length_cons, List.length_nil, List.length_take, List.length_drop, List.length_replicate, Int.toNat_natCast]; omega) | (simp; omega)); (clear H; intro v w H; have hone := One1.mk (ownL_one H)))
            | ((with_reducible refine is_load ?_); apply wl_elem_agg v1E H; rfl; rfl; rfl; infer_instance; infer_instance; (first | assumption | (simp only [Int.toNat_natCast]; assumption)); rfl; (conv => lhs; whnf); skip)
            | ((with_reducible refine is_load ?_); apply wl_elem v1E H; rfl; rfl; rfl; infer_instance; infer_instance; (first | assumption | (simp only [Int.toNat_natCast]; assumption)); (conv => lhs; whnf); skip)
            | ((with_reducible refine is_load ?_); apply wl_elem_agg intE H; rfl; rfl; rfl; infer_instance; infer_instance; (first | assumption | (simp only [Int.toNat_natCast]; assumption)); rfl; (conv => lhs; whnf); skip)
            | ((with_reducible refine is_load ?_); apply wl_elem intE H; rfl; rfl; rfl; infer_instance; infer_instance; (first | assumption | (simp only [Int.toNat_natCast]; assumption)); (conv => lhs; whnf); skip))
        all_goals
          go_roundw
          case rel => exact ⟨3, by omega, by go_num, by first | (rw [HT.out (by simp_all)]; exact H.ent) | (rw [HF.out (by simp_all)]; exact H.ent)⟩
          case measure => simp [intOf]; omega
      · have HT : Hid (s3.merged = true → mergedTo [s0.merged, s1.merged, s2.merged, s3.merged, s4.merged, s5.merged] 4 = mergedTo [s0.merged, s1.merged, s2.merged, s3.merged, s4.merged, s5.merged] 3 ++ [3]) := Lib.hid (mergedTo_t [s0.merged, s1.merged, s2.merged, s3.merged, s4.merged, s5.merged] 3)
        have HF : Hid (s3.merged = false → mergedTo [s0.merged, s1.merged, s2.merged, s3.merged, s4.merged, s5.merged] 4 = mergedTo [s0.merged, s1.merged, s2.merged, s3.merged, s4.merged, s5.merged] 3) := Lib.hid (mergedTo_f [s0.merged, s1.merged, s2.merged, s3.merged, s4.merged, s5.merged] 3)
        go_wp2_with (first
            | ((with_reducible refine is_ret ?_); apply ret_tmp1; rfl; rfl; (conv => lhs; whnf); skip)
            | ((with_reducible refine is_load ?_); apply wl_load H; rfl; rfl; rfl; infer_instance; infer_instance; rfl; skip)
            | ((with_reducible refine is_load ?_); apply wl_load_agg H; rfl; rfl; rfl; infer_instance; infer_instance; (focus (simp; done)); (try simp only [cut, List.drop_zero, List.drop_succ_cons, List.take_succ_cons, List.take_zero]))
            | ((with_reducible refine is_len ?_); apply wl_len v1E H; rfl; rfl; (conv => lhs; whnf); infer_instance; infer_instance; skip)
            | ((with_reducible refine is_buildSlice ?_); apply wl_build1 intE H; rfl; rfl; (conv => lhs; whnf); infer_instance; infer_instance; (conv => lhs; whnf); infer_instance; (clear H; intro v w H; have hone := One1.mk (ownL_one H)))
            | ((with_reducible refine is_append ?_); apply wl_append intE H; rfl; rfl; (conv => lhs; whnf); (conv => lhs; whnf); infer_instance; infer_instance; infer_instance; infer_instance; (first | omega | (simp only [List.length_append, List.length_cons, List.length_nil, List.length_take, List.length_drop, List.length_replicate, Int.toNat_natCast]; omega) | (simp; omega)); (clear H; intro v w H; have hone := One1.mk (ownL_one H)))
            | ((with_reducible refine is_load ?_); apply wl_elem_agg v1E H; rfl; rfl; rfl; infer_instance; infer_instance; (first | assumption | (simp only [Int.toNat_natCast]; assumption)); rfl; (conv => lhs; whnf); skip)
            | ((with_reducible refine is_load ?_); apply wl_elem v1E H; rfl; rfl; rfl; infer_instance; infer_instance; (first | assumption | (simp only [Int.toNat_natCast]; assumption)); (conv => lhs; whnf); skip)
            | ((with_reducible refine is_load ?_); apply wl_elem_agg intE H; rfl; rfl; rfl; infer_instance; infer_instance; (first | assumption | (simp only [Int.toNat_natCast]; assumption)); rfl; (conv => lhs; whnf); skip)
            | ((with_reducible refine is_load ?_); apply wl_elem intE H; rfl; rfl; rfl; infer_instance; infer_instance; (first | assumption | (simp only [Int.toNat_natCast]; assumption)); (conv => lhs; whnf); skip))
        all_goals
          go_roundw
          case rel => exact ⟨4, by omega, by go_num, by first | (rw [HT.out (by simp_all)]; exact H.ent) | (rw [HF.out (by simp_all)]; exact H.ent)⟩
          case measure => simp [intOf]; omega
      · have HT : Hid (s4.merged = true → mergedTo [s0.merged, s1.merged, s2.merged, s3.merged, s4.merged, s5.merged] 5 = mergedTo [s0.merged, s1.merged, s2.merged, s3.merged, s4.merged, s5.merged] 4 ++ [4]) := Lib.hid (mergedTo_t [s0.merged, s1.merged, s2.merged, s3.merged, s4.merged, s5.merged] 4)
        have HF : Hid (s4.merged = false → mergedTo [s0.merged, s1.merged, s2.merged, s3.merged, s4.merged, s5.merged] 5 = mergedTo [s0.merged, s1.merged, s2.merged, s3.merged, s4.merged, s5.merged] 4) := Lib.hid (mergedTo_f [s0.merged, s1.merged, s2.merged, s3.merged, s4.merged, s5.merged] 4)
        go_wp2_with (first
            | ((with_reducible refine is_ret ?_); apply ret_tmp1; rfl; rfl; (conv => lhs; whnf); skip)
            | ((with_reducible refine is_load ?_); apply wl_load H; rfl; rfl; rfl; infer_instance; infer_instance; rfl; skip)
            | ((with_reducible refine is_load ?_); apply wl_load_agg H; rfl; rfl; rfl; infer_instance; infer_instance; (focus (simp; done)); (try simp only [cut, List.drop_zero, List.drop_succ_cons, List.take_succ_cons, List.take_zero]))
            | ((with_reducible refine is_len ?_); apply wl_len v1E H; rfl; rfl; (conv => lhs; whnf); infer_instance; infer_instance; skip)
            | ((with_reducible refine is_buildSlice ?_); apply wl_build1 intE H; rfl; rfl; (conv => lhs; whnf); infer_instance; infer_instance; (conv => lhs; whnf); infer_instance; (clear H; intro v w H; have hone := One1.mk (ownL_one H)))
            | ((with_reducible refine is_append ?_); apply wl_append intE H; rfl; rfl; (conv => lhs; whnf); (conv => lhs; whnf); infer_instance; infer_instance; infer_instance; infer_instance; (first | omega | (simp only [List.length_append, List.length_cons, List.length_nil, List.length_take, List.length_drop, List.length_replicate, Int.toNat_natCast]; omega) | (simp; omega)); (clear H; intro v w H; have hone := One1.mk (ownL_one H)))
            | ((with_reducible refine is_load ?_); apply wl_elem_agg v1E H; rfl; rfl; rfl; infer_instance; infer_instance; (first | assumption | (simp only [Int.toNat_natCast]; assumption)); rfl; (conv => lhs; whnf); skip)
            | ((with_reducible refine is_load ?_); apply wl_elem v1E H; rfl; rfl; rfl; infer_instance; infer_instance; (first | assumption | (simp only [Int.toNat_natCast]; assumption)); (conv => lhs; whnf); skip)
            | ((with_reducible refine is_load ?_); apply wl_elem_agg intE H; rfl; rfl; rfl; infer_instance; infer_instance; (first | assumption | (simp only [Int.toNat_natCast]; assumption)); rfl; (conv => lhs; whnf); skip)
            | ((with_reducible refine is_load ?_); apply wl_elem intE H; rfl; rfl; rfl; infer_instance; infer_instance; (first | assumption | (simp only [Int.toNat_natCast]; assumption)); (conv => lhs; whnf); skip))
        all_goals
          go_roundw
          case rel => exact ⟨5, by omega, by go_num, by first | (rw [HT.out (by simp_all)]; exact H.ent) | (rw [HF.out (by simp_all)]; exact H.ent)⟩
          case measure => simp [intOf]; omega
      · have HT : Hid (s5.merged = true → mergedTo [s0.merged, s1.merged, s2.merged, s3.merged, s4.merged, s5.merged] 6 = mergedTo [s0.merged, s1.merged, s2.merged, s3.merged, s4.merged, s5.merged] 5 ++ [5]) := Lib.hid (mergedTo_t [s0.merged, s1.merged, s2.merged, s3.merged, s4.merged, s5.merged] 5)
        have HF : Hid (s5.merged = false → mergedTo [s0.merged, s1.merged, s2.merged, s3.merged, s4.merged, s5.merged] 6 = mergedTo [s0.merged, s1.merged, s2.merged, s3.merged, s4.merged, s5.merged] 5) := Lib.hid (mergedTo_f [s0.merged, s1.merged, s2.merged, s3.merged, s4.merged, s5.merged] 5)
        go_wp2_with (first
            | ((with_reducible refine is_ret ?_); apply ret_tmp1; rfl; rfl; (conv => lhs; whnf); skip)
            | ((with_reducible refine is_load ?_); apply wl_load H; rfl; rfl; rfl; infer_instance; infer_instance; rfl; skip)
            | ((with_reducible refine is_load ?_); apply wl_load_agg H; rfl; rfl; rfl; infer_instance; infer_instance; (focus (simp; done)); (try simp only [cut, List.drop_zero, List.drop_succ_cons, List.take_succ_cons, List.take_zero]))
            | ((with_reducible refine is_len ?_); apply wl_len v1E H; rfl; rfl; (conv => lhs; whnf); infer_instance; infer_instance; skip)
            | ((with_reducible refine is_buildSlice ?_); apply wl_build1 intE H; rfl; rfl; (conv => lhs; whnf); infer_instance; infer_instance; (conv => lhs; whnf); infer_instance; (clear H; intro v w H; have hone := One1.mk (ownL_one H)))
            | ((with_reducible refine is_append ?_); apply wl_append intE H; rfl; rfl; (conv => lhs; whnf); (conv => lhs; whnf); infer_instance; infer_instance; infer_instance; infer_instance; (first | omega | (simp only [List.length_append, List.length_cons, List.length_nil, List.length_take, List.length_drop, List.length_replicate, Int.toNat_natCast]; omega) | (simp; omega)); (clear H; intro v w H; have hone := One1.mk (ownL_one H)))
            | ((with_reducible refine is_load ?_); apply wl_elem_agg v1E H; rfl; rfl; rfl; infer_instance; infer_instance; (first | assumption | (simp only [Int.toNat_natCast]; assumption)); rfl; (conv => lhs; whnf); skip)
            | ((with_reducible refine is_load ?_); apply wl_elem v1E H; rfl; rfl; rfl; infer_instance; infer_instance; (first | assumption | (simp only [Int.toNat_natCast]; assumption)); (conv => lhs; whnf); skip)
            | ((with_reducible refine is_load ?_); apply wl_elem_agg intE H; rfl; rfl; rfl; infer_instance; infer_instance; (first | assumption | (simp only [Int.toNat_natCast]; assumption)); rfl; (conv => lhs; whnf); skip)
            | ((with_reducible refine is_load ?_); apply wl_elem intE H; rfl; rfl; rfl; infer_instance; infer_instance; (first | assumption | (simp only [Int.toNat_natCast]; assumption)); (conv => lhs; whnf); skip))
        all_goals
          go_roundw
          case rel => exact ⟨6, by omega, by go_num, by first | (rw [HT.out (by simp_all)]; exact H.ent) | (rw [HF.out (by simp_all)]; exact H.ent)⟩
          case measure => simp [intOf]; omega
    · obtain rfl : n = cv.svs.length := by omega
      go_wp2_with (first
          | ((with_reducible refine is_ret ?_); apply ret_tmp1; rfl; rfl; (conv => lhs; whnf); skip)
          | ((with_reducible refine is_load ?_); apply wl_load H; rfl; rfl; rfl; infer_instance; infer_instance; rfl; skip)
          | ((with_reducible refine is_load ?_); apply wl_load_agg H; rfl; rfl; rfl; infer_instance; infer_instance; (focus (simp; done)); (try simp only [cut, List.drop_zero, List.drop_succ_cons, List.take_succ_cons, List.take_zero]))
          | ((with_reducible refine is_len ?_); apply wl_len v1E H; rfl; rfl; (conv => lhs; whnf); infer_instance; infer_instance; skip)
          | ((with_reducible refine is_buildSlice ?_); apply wl_build1 intE H; rfl; rfl; (conv => lhs; whnf); infer_instance; infer_instance; (conv => lhs; whnf); infer_instance; (clear H; intro v w H; have hone := One1.mk (ownL_one H)))
          | ((with_reducible refine is_append ?_); apply wl_append intE H; rfl; rfl; (conv => lhs; whnf); (conv => lhs; whnf); infer_instance; infer_instance; infer_instance; infer_instance; (first | omega | (simp only [List.length_append, List.length_cons, List.length_nil, List.length_take, List.length_drop, List.length_replicate, Int.toNat_natCast]; omega) | (simp; omega)); (clear H; intro v w H; have hone := One1.mk (ownL_one H)))
          | ((with_reducible refine is_load ?_); apply wl_elem_agg v1E H; rfl; rfl; rfl; infer_instance; infer_instance; (first | assumption | (simp only [Int.toNat_natCast]; assumption)); rfl; (conv => lhs; whnf); skip)
          | ((with_reducible refine is_load ?_); apply wl_elem v1E H; rfl; rfl; rfl; infer_instance; infer_instance; (first | assumption | (simp only [Int.toNat_natCast]; assumption)); (conv => lhs; whnf); skip)
          | ((with_reducible refine is_load ?_); apply wl_elem_agg intE H; rfl; rfl; rfl; infer_instance; infer_instance; (first | assumption | (simp only [Int.toNat_natCast]; assumption)); rfl; (conv => lhs; whnf); skip)
          | ((with_reducible refine is_load ?_); apply wl_elem intE H; rfl; rfl; rfl; infer_instance; infer_instance; (first | assumption | (simp only [Int.toNat_natCast]; assumption)); (conv => lhs; whnf); skip))
      first | exact H.ent | exact k _ _ H.ent
end Go.Proofs.YtcdkaggdidfenaaGreatDoor
