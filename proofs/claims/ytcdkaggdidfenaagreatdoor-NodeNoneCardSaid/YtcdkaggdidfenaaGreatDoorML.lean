/- A part of the proof: contracts of functions of the given program, and the laws on memory that they lean on. -/
import Derived.Test.YtcdkaggdidfenaaGreatDoorMK
import Derived.Test.YtcdkaggdidfenaaGreatDoorMModel3
set_option linter.all false

namespace Go.Proofs.YtcdkaggdidfenaaGreatDoor
open Go.RowKit Go.Proofs Go.SL St
set_option maxRecDepth 40000
variable {w w0 : World} {As r : List HP} {R : Ending → World → Prop}

set_option maxHeartbeats 2000000 in
theorem c257 {v : Value} {xs : List RecV} {rs : List Rec} [hr : RdRecs As v xs rs] (H : Sat w0 w As) (hn : rs.length ≤ 100000) (k : ∀ v' w', Sat w0 w' (ownL byteE 5 v' (layB rs) :: As) → R (.returned v') w') :
    Calls Tryz.prog 85 #[v] w R := by
  have hl := hr.len' H
  go_enter Tryz.func85, Tryz.ntmps85
  go_wp2_with (first
      | ((with_reducible refine is_ret ?_); apply ret_tmp1; rfl; rfl; (conv => lhs; whnf); skip)
      | ((with_reducible refine is_load ?_); apply wl_load H; rfl; rfl; rfl; infer_instance; infer_instance; rfl; skip)
      | ((with_reducible refine is_load ?_); apply wl_load_agg H; rfl; rfl; rfl; infer_instance; infer_instance; (focus (simp; done)); (try simp only [cut, List.drop_zero, List.drop_succ_cons, List.take_succ_cons, List.take_zero]))
      | ((with_reducible refine is_alloc ?_); apply wl_alloc H; rfl; rfl; infer_instance; (conv => lhs; whnf); (clear H; intro b w H))
      | ((with_reducible refine is_store ?_); apply wl_store H; rfl; rfl; rfl; infer_instance; infer_instance; (focus (simp; done)); (conv => lhs; whnf); infer_instance; (clear H; intro w H; (try simp only [List.setIfInBounds_toArray, List.set_cons_zero, List.set_cons_succ] at H)))
      | ((with_reducible refine is_store ?_); apply wl_store_agg H; rfl; rfl; rfl; infer_instance; infer_instance; rfl; (conv => lhs; whnf); rfl; (first | (focus (simp; done)) | (simp; omega)); infer_instance; (clear H; intro w H; (try simp only [putAll, List.setIfInBounds_toArray, List.set_cons_zero, List.set_cons_succ] at H)))
      | ((with_reducible refine is_convert ?_); apply wl_bytes_str H; rfl; rfl; (conv => lhs; whnf); infer_instance; infer_instance; infer_instance; infer_instance; skip)
      | ((with_reducible refine is_convert ?_); apply wl_str_bytes H; rfl; rfl; rfl; infer_instance; infer_instance; infer_instance; (first | assumption | omega); (clear H; intro v w H; have hone := One1.mk (rdB_one H)))
      | ((with_reducible refine is_len ?_); apply wl_len recE H; rfl; rfl; (conv => lhs; whnf); infer_instance; infer_instance; skip)
      | ((with_reducible refine is_indexAddr ?_); apply wl_index recE H; rfl; rfl; (conv => lhs; whnf); rfl; infer_instance; infer_instance; infer_instance; (first | omega | (simp only [List.length_take, List.length_drop, List.length_append, List.length_cons, List.length_nil, List.length_replicate, List.length_set, Int.toNat_natCast]; omega)); (first | omega | (simp only [List.length_take, List.length_drop, List.length_append, List.length_cons, List.length_nil, List.length_replicate, List.length_set, Int.toNat_natCast]; omega)); skip)
      | ((with_reducible refine is_store ?_); apply wl_set recE H; rfl; rfl; rfl; infer_instance; infer_instance; (first | omega | (simp only [List.length_take, List.length_drop, List.length_append, List.length_cons, List.length_nil, List.length_replicate, List.length_set, Int.toNat_natCast]; omega)); (conv => lhs; whnf); infer_instance; (clear H; intro w H; (try simp only [Int.toNat_natCast] at H)))
      | ((with_reducible refine is_store ?_); apply wl_set_agg recE H; rfl; rfl; rfl; infer_instance; infer_instance; rfl; (first | omega | (simp only [List.length_take, List.length_drop, List.length_append, List.length_cons, List.length_nil, List.length_replicate, List.length_set, Int.toNat_natCast]; omega)); (conv => lhs; whnf); (conv => lhs; whnf); infer_instance; (clear H; intro w H; (try simp only [Int.toNat_natCast] at H)))
      | ((with_reducible refine is_load ?_); apply wl_elem_agg recE H; rfl; rfl; rfl; infer_instance; infer_instance; (first | assumption | (simp only [Int.toNat_natCast]; assumption)); rfl; (conv => lhs; whnf); skip)
      | ((with_reducible refine is_load ?_); apply wl_elem recE H; rfl; rfl; rfl; infer_instance; infer_instance; (first | assumption | (simp only [Int.toNat_natCast]; assumption)); (conv => lhs; whnf); skip))
  go_loopw [3, 8] (fun u i w => ∃ j : Nat, j ≤ xs.length ∧ i = .int .i64 j ∧ (rs.take j).all recMay = true ∧ Sat w0 w (ownL byteE 5 u ((rs.take j).flatMap recB) :: As)) (fun _ i _ => xs.length - (intOf i).toNat)
  case atStart => exact ⟨0, by omega, rfl, by simp, ownL_nil H⟩
  case round =>
    obtain ⟨j, hj, rfl, ha, H⟩ := hrel
    have hone := One1.mk (ownL_one H)
    by_cases hlt : j < xs.length
    · obtain ⟨x, hx⟩ : ∃ x, xs[j]? = some x := ⟨xs[j]'hlt, by simp⟩
      obtain ⟨y, hy⟩ : ∃ y, rs[j]? = some y := ⟨rs[j]'(by omega), by simp⟩
      obtain ⟨s, p, rfl⟩ : ∃ s p, y = x.rcd s p := ⟨_, _, hr.eq' hx hy H.drop⟩
      have i1 : RdV intE As x.set.v s := hr.set' hx hy
      have i2 : RdV pairE As x.pairs.v p := hr.pairs' hx hy
      have hlb := recsB_len (rs.take j) (by simpa using ha)
      have hlt2 := take_len_le rs j
      have hall : (rs.take (j + 1)).all recMay = ((rs.take j).all recMay && recMay (x.rcd s p)) := by rw [List.take_add_one, hy]; simp
      have hallx : recMay (x.rcd s p) = false → rs.all recMay = false := fun h => by
        have hm := List.mem_of_getElem? hy
        rw [← Bool.not_eq_true, List.all_eq_true]
        intro hh; rw [hh _ hm] at h; cases h
      cases hm : recMay (x.rcd s p)
      · have e : layB rs = [] := by unfold layB; rw [if_neg (by rw [hallx hm]; simp)]
        rw [e] at k
        go_wp2_with (first
            | (go_at_call 61; refine c170 (x := x.rcd s p) H ?_; clear H; intro w H; rw [hm])
            | ((with_reducible refine is_ret ?_); apply ret_tmp1; rfl; rfl; (conv => lhs; whnf); skip)
            | ((with_reducible refine is_load ?_); apply wl_load H; rfl; rfl; rfl; infer_instance; infer_instance; rfl; skip)
            | ((with_reducible refine is_load ?_); apply wl_load_agg H; rfl; rfl; rfl; infer_instance; infer_instance; (focus (simp; done)); (try simp only [cut, List.drop_zero, List.drop_succ_cons, List.take_succ_cons, List.take_zero]))
            | ((with_reducible refine is_alloc ?_); apply wl_alloc H; rfl; rfl; infer_instance; (conv => lhs; whnf); (clear H; intro b w H))
            | ((with_reducible refine is_store ?_); apply wl_store H; rfl; rfl; rfl; infer_instance; infer_instance; (focus (simp; done)); (conv => lhs; whnf); infer_instance; (clear H; intro w H; (try simp only [List.setIfInBounds_toArray, List.set_cons_zero, List.set_cons_succ] at H)))
            | ((with_reducible refine is_store ?_); apply wl_store_agg H; rfl; rfl; rfl; infer_instance; infer_instance; rfl; (conv => lhs; whnf); rfl; (first | (focus (simp; done)) | (simp; omega)); infer_instance; (clear H; intro w H; (try simp only [putAll, List.setIfInBounds_toArray, List.set_cons_zero, List.set_cons_succ] at H)))
            | ((with_reducible refine is_convert ?_); apply wl_bytes_str H; rfl; rfl; (conv => lhs; whnf); infer_instance; infer_instance; infer_instance; infer_instance; skip)
            | ((with_reducible refine is_convert ?_); apply wl_str_bytes H; rfl; rfl; rfl; infer_instance; infer_instance; infer_instance; (first | assumption | omega); (clear H; intro v w H; have hone := One1.mk (rdB_one H)))
            | ((with_reducible refine is_len ?_); apply wl_len recE H; rfl; rfl; (conv => lhs; whnf); infer_instance; infer_instance; skip)
            | ((with_reducible refine is_indexAddr ?_); apply wl_index recE H; rfl; rfl; (conv => lhs; whnf); rfl; infer_instance; infer_instance; infer_instance; (first | omega | (simp only [List.length_take, List.length_drop, List.length_append, List.length_cons, List.length_nil, List.length_replicate, List.length_set, Int.toNat_natCast]; omega)); (first | omega | (simp only [List.length_take, List.length_drop, List.length_append, List.length_cons, List.length_nil, List.length_replicate, List.length_set, Int.toNat_natCast]; omega)); skip)
            | ((with_reducible refine is_store ?_); apply wl_set recE H; rfl; rfl; rfl; infer_instance; infer_instance; (first | omega | (simp only [List.length_take, List.length_drop, List.length_append, List.length_cons, List.length_nil, List.length_replicate, List.length_set, Int.toNat_natCast]; omega)); (conv => lhs; whnf); infer_instance; (clear H; intro w H; (try simp only [Int.toNat_natCast] at H)))
            | ((with_reducible refine is_store ?_); apply wl_set_agg recE H; rfl; rfl; rfl; infer_instance; infer_instance; rfl; (first | omega | (simp only [List.length_take, List.length_drop, List.length_append, List.length_cons, List.length_nil, List.length_replicate, List.length_set, Int.toNat_natCast]; omega)); (conv => lhs; whnf); (conv => lhs; whnf); infer_instance; (clear H; intro w H; (try simp only [Int.toNat_natCast] at H)))
            | ((with_reducible refine is_load ?_); apply wl_elem_agg recE H; rfl; rfl; rfl; infer_instance; infer_instance; (first | assumption | (simp only [Int.toNat_natCast]; assumption)); rfl; (conv => lhs; whnf); skip)
            | ((with_reducible refine is_load ?_); apply wl_elem recE H; rfl; rfl; rfl; infer_instance; infer_instance; (first | assumption | (simp only [Int.toNat_natCast]; assumption)); (conv => lhs; whnf); skip))
        first | exact ownL_nil H.ent | exact k _ _ (ownL_nil H.ent)
      · have htiny := recMay_tiny hm
        have hbl := bodyB_tiny htiny
        go_wp2_with (first
            | (go_at_call 61; refine c170 (x := x.rcd s p) H ?_; clear H; intro w H; rw [hm])
            | (go_at_call 126; refine c345 (x := x.rcd s p) H htiny.small ?_; clear H; intro v w H; have hone := One1.mk (ownL_one H))
            | (go_at_call 125; refine c344 (s := ⟨(bodyB (x.rcd s p)).toArray⟩) H (by omega) (by show (bodyB (x.rcd s p)).toArray.size ≤ 7000; simp; omega) ?_; clear H; intro v w H; have hone := One1.mk (ownL_one H))
            | ((with_reducible refine is_ret ?_); apply ret_tmp1; rfl; rfl; (conv => lhs; whnf); skip)
            | ((with_reducible refine is_load ?_); apply wl_load H; rfl; rfl; rfl; infer_instance; infer_instance; rfl; skip)
            | ((with_reducible refine is_load ?_); apply wl_load_agg H; rfl; rfl; rfl; infer_instance; infer_instance; (focus (simp; done)); (try simp only [cut, List.drop_zero, List.drop_succ_cons, List.take_succ_cons, List.take_zero]))
            | ((with_reducible refine is_alloc ?_); apply wl_alloc H; rfl; rfl; infer_instance; (conv => lhs; whnf); (clear H; intro b w H))
            | ((with_reducible refine is_store ?_); apply wl_store H; rfl; rfl; rfl; infer_instance; infer_instance; (focus (simp; done)); (conv => lhs; whnf); infer_instance; (clear H; intro w H; (try simp only [List.setIfInBounds_toArray, List.set_cons_zero, List.set_cons_succ] at H)))
            | ((with_reducible refine is_store ?_); apply wl_store_agg H; rfl; rfl; rfl; infer_instance; infer_instance; rfl; (conv => lhs; whnf); rfl; (first | (focus (simp; done)) | (simp; omega)); infer_instance; (clear H; intro w H; (try simp only [putAll, List.setIfInBounds_toArray, List.set_cons_zero, List.set_cons_succ] at H)))
            | ((with_reducible refine is_convert ?_); apply wl_bytes_str H; rfl; rfl; (conv => lhs; whnf); infer_instance; infer_instance; infer_instance; infer_instance; skip)
            | ((with_reducible refine is_convert ?_); apply wl_str_bytes H; rfl; rfl; rfl; infer_instance; infer_instance; infer_instance; (first | assumption | omega); (clear H; intro v w H; have hone := One1.mk (rdB_one H)))
            | ((with_reducible refine is_len ?_); apply wl_len recE H; rfl; rfl; (conv => lhs; whnf); infer_instance; infer_instance; skip)
            | ((with_reducible refine is_indexAddr ?_); apply wl_index recE H; rfl; rfl; (conv => lhs; whnf); rfl; infer_instance; infer_instance; infer_instance; (first | omega | (simp only [List.length_take, List.length_drop, List.length_append, List.length_cons, List.length_nil, List.length_replicate, List.length_set, Int.toNat_natCast]; omega)); (first | omega | (simp only [List.length_take, List.length_drop, List.length_append, List.length_cons, List.length_nil, List.length_replicate, List.length_set, Int.toNat_natCast]; omega)); skip)
            | ((with_reducible refine is_store ?_); apply wl_set recE H; rfl; rfl; rfl; infer_instance; infer_instance; (first | omega | (simp only [List.length_take, List.length_drop, List.length_append, List.length_cons, List.length_nil, List.length_replicate, List.length_set, Int.toNat_natCast]; omega)); (conv => lhs; whnf); infer_instance; (clear H; intro w H; (try simp only [Int.toNat_natCast] at H)))
            | ((with_reducible refine is_store ?_); apply wl_set_agg recE H; rfl; rfl; rfl; infer_instance; infer_instance; rfl; (first | omega | (simp only [List.length_take, List.length_drop, List.length_append, List.length_cons, List.length_nil, List.length_replicate, List.length_set, Int.toNat_natCast]; omega)); (conv => lhs; whnf); (conv => lhs; whnf); infer_instance; (clear H; intro w H; (try simp only [Int.toNat_natCast] at H)))
            | ((with_reducible refine is_load ?_); apply wl_elem_agg recE H; rfl; rfl; rfl; infer_instance; infer_instance; (first | assumption | (simp only [Int.toNat_natCast]; assumption)); rfl; (conv => lhs; whnf); skip)
            | ((with_reducible refine is_load ?_); apply wl_elem recE H; rfl; rfl; rfl; infer_instance; infer_instance; (first | assumption | (simp only [Int.toNat_natCast]; assumption)); (conv => lhs; whnf); skip))
        go_roundw
        case rel => exact ⟨j + 1, by omega, by go_num, by rw [hall, ha, hm]; rfl, by rw [flatMap_take hy, recB]; exact H.ent⟩
        case measure => simp [intOf]; omega
    · obtain rfl : j = xs.length := by omega
      rw [hl, List.take_length] at ha H
      have e : layB rs = rs.flatMap recB := by unfold layB; rw [if_pos ha]
      rw [e] at k
      go_wp2_with (first
          | ((with_reducible refine is_ret ?_); apply ret_tmp1; rfl; rfl; (conv => lhs; whnf); skip)
          | ((with_reducible refine is_load ?_); apply wl_load H; rfl; rfl; rfl; infer_instance; infer_instance; rfl; skip)
          | ((with_reducible refine is_load ?_); apply wl_load_agg H; rfl; rfl; rfl; infer_instance; infer_instance; (focus (simp; done)); (try simp only [cut, List.drop_zero, List.drop_succ_cons, List.take_succ_cons, List.take_zero]))
          | ((with_reducible refine is_alloc ?_); apply wl_alloc H; rfl; rfl; infer_instance; (conv => lhs; whnf); (clear H; intro b w H))
          | ((with_reducible refine is_store ?_); apply wl_store H; rfl; rfl; rfl; infer_instance; infer_instance; (focus (simp; done)); (conv => lhs; whnf); infer_instance; (clear H; intro w H; (try simp only [List.setIfInBounds_toArray, List.set_cons_zero, List.set_cons_succ] at H)))
          | ((with_reducible refine is_store ?_); apply wl_store_agg H; rfl; rfl; rfl; infer_instance; infer_instance; rfl; (conv => lhs; whnf); rfl; (first | (focus (simp; done)) | (simp; omega)); infer_instance; (clear H; intro w H; (try simp only [putAll, List.setIfInBounds_toArray, List.set_cons_zero, List.set_cons_succ] at H)))
          | ((with_reducible refine is_convert ?_); apply wl_bytes_str H; rfl; rfl; (conv => lhs; whnf); infer_instance; infer_instance; infer_instance; infer_instance; skip)
          | ((with_reducible refine is_convert ?_); apply wl_str_bytes H; rfl; rfl; rfl; infer_instance; infer_instance; infer_instance; (first | assumption | omega); (clear H; intro v w H; have hone := One1.mk (rdB_one H)))
          | ((with_reducible refine is_len ?_); apply wl_len recE H; rfl; rfl; (conv => lhs; whnf); infer_instance; infer_instance; skip)
          | ((with_reducible refine is_indexAddr ?_); apply wl_index recE H; rfl; rfl; (conv => lhs; whnf); rfl; infer_instance; infer_instance; infer_instance; (first | omega | (simp only [List.length_take, List.length_drop, List.length_append, List.length_cons, List.length_nil, List.length_replicate, List.length_set, Int.toNat_natCast]; omega)); (first | omega | (simp only [List.length_take, List.length_drop, List.length_append, List.length_cons, List.length_nil, List.length_replicate, List.length_set, Int.toNat_natCast]; omega)); skip)
          | ((with_reducible refine is_store ?_); apply wl_set recE H; rfl; rfl; rfl; infer_instance; infer_instance; (first | omega | (simp only [List.length_take, List.length_drop, List.length_append, List.length_cons, List.length_nil, List.length_replicate, List.length_set, Int.toNat_natCast]; omega)); (conv => lhs; whnf); infer_instance; (clear H; intro w H; (try simp only [Int.toNat_natCast] at H)))
          | ((with_reducible refine is_store ?_); apply wl_set_agg recE H; rfl; rfl; rfl; infer_instance; infer_instance; rfl; (first | omega | (simp only [List.length_take, List.length_drop, List.length_append, List.length_cons, List.length_nil, List.length_replicate, List.length_set, Int.toNat_natCast]; omega)); (conv => lhs; whnf); (conv => lhs; whnf); infer_instance; (clear H; intro w H; (try simp only [Int.toNat_natCast] at H)))
          | ((with_reducible refine is_load ?_); apply wl_elem_agg recE H; rfl; rfl; rfl; infer_instance; infer_instance; (first | assumption | (simp only [Int.toNat_natCast]; assumption)); rfl; (conv => lhs; whnf); skip)
          | ((with_reducible refine is_load ?_); apply wl_elem recE H; rfl; rfl; rfl; infer_instance; infer_instance; (first | assumption | (simp only [Int.toNat_natCast]; assumption)); (conv => lhs; whnf); skip))
      first | exact H.ent | exact k _ _ H.ent
end Go.Proofs.YtcdkaggdidfenaaGreatDoor
