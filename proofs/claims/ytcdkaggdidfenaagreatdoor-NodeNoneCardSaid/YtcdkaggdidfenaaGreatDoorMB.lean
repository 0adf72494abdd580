/- A part of the proof: contracts of functions of the given program, and the laws on memory that they lean on. -/
import Derived.Test.YtcdkaggdidfenaaGreatDoorMA
set_option linter.all false
namespace Go.Proofs.YtcdkaggdidfenaaGreatDoor
open Go.RowKit Go.Proofs Go.SL St
set_option maxRecDepth 20000
variable {w w0 : World} {As r : List HP} {R : Ending → World → Prop}

set_option maxHeartbeats 400000 in
theorem c151 {v : Value} {l : List Int} [hr : RdV intE As v l] (H : Sat w0 w As) (hb : l.length ≤ 4294967296) (k : ∀ v' w', Sat w0 w' (ownL intE 3 v' l :: As) → R (.returned v') w') :
    Calls Tryz.prog 80 #[v] w R := by
  rcases hr.get H with ⟨rfl, rfl⟩ | ⟨g, off, cap, rfl, _⟩
  all_goals
    go_enter Tryz.func80, Tryz.ntmps80
    go_wp2_with (first
        | ((with_reducible refine is_buildSlice ?_); apply wl_build0 intE H; rfl; rfl; infer_instance; infer_instance; (clear H; intro v w H; have hone := One1.mk (ownL_one H)))
        | ((with_reducible refine is_append ?_); apply wl_append intE H; rfl; rfl; (conv => lhs; whnf); (conv => lhs; whnf); infer_instance; infer_instance; infer_instance; infer_instance; (first | omega | (simp only [List.length_append, List.length_cons, List.length_nil, List.length_take, List.length_drop, List.length_replicate, Int.toNat_natCast]; omega) | (simp; omega)); (clear H; intro v w H; have hone := One1.mk (ownL_one H)))
        | ((with_reducible refine is_load ?_); apply wl_elem_agg intE H; rfl; rfl; rfl; infer_instance; infer_instance; (first | assumption | (simp only [Int.toNat_natCast]; assumption)); rfl; (conv => lhs; whnf); skip)
        | ((with_reducible refine is_load ?_); apply wl_elem intE H; rfl; rfl; rfl; infer_instance; infer_instance; (first | assumption | (simp only [Int.toNat_natCast]; assumption)); (conv => lhs; whnf); skip))
  · exact ownL_nil H
  · simpa using H

set_option maxHeartbeats 400000 in
theorem c220 {v : Value} {l : List Pr} [hr : RdV pairE As v l] (H : Sat w0 w As) (hb : l.length ≤ 4294967296) (k : ∀ v' w', Sat w0 w' (ownL pairE 133 v' l :: As) → R (.returned v') w') :
    Calls Tryz.prog 78 #[v] w R := by
  rcases hr.get H with ⟨rfl, rfl⟩ | ⟨g, off, cap, rfl, _⟩
  all_goals
    go_enter Tryz.func78, Tryz.ntmps78
    go_wp2_with (first
        | ((with_reducible refine is_buildSlice ?_); apply wl_build0 pairE H; rfl; rfl; infer_instance; infer_instance; (clear H; intro v w H; have hone := One1.mk (ownL_one H)))
        | ((with_reducible refine is_append ?_); apply wl_append pairE H; rfl; rfl; (conv => lhs; whnf); (conv => lhs; whnf); infer_instance; infer_instance; infer_instance; infer_instance; (first | omega | (simp only [List.length_append, List.length_cons, List.length_nil, List.length_take, List.length_drop, List.length_replicate, Int.toNat_natCast]; omega) | (simp; omega)); (clear H; intro v w H; have hone := One1.mk (ownL_one H)))
        | ((with_reducible refine is_load ?_); apply wl_elem_agg pairE H; rfl; rfl; rfl; infer_instance; infer_instance; (first | assumption | (simp only [Int.toNat_natCast]; assumption)); rfl; (conv => lhs; whnf); skip)
        | ((with_reducible refine is_load ?_); apply wl_elem pairE H; rfl; rfl; rfl; infer_instance; infer_instance; (first | assumption | (simp only [Int.toNat_natCast]; assumption)); (conv => lhs; whnf); skip))
  · exact ownL_nil H
  · simpa using H

set_option maxHeartbeats 400000 in
theorem c219 {v : Value} {l : List V1} [hr : RdV v1E As v l] (H : Sat w0 w As) (hb : l.length ≤ 4294967296) (k : ∀ v' w', Sat w0 w' (ownL v1E 47 v' l :: As) → R (.returned v') w') :
    Calls Tryz.prog 77 #[v] w R := by
  rcases hr.get H with ⟨rfl, rfl⟩ | ⟨g, off, cap, rfl, _⟩
  all_goals
    go_enter Tryz.func77, Tryz.ntmps77
    go_wp2_with (first
        | ((with_reducible refine is_buildSlice ?_); apply wl_build0 v1E H; rfl; rfl; infer_instance; infer_instance; (clear H; intro v w H; have hone := One1.mk (ownL_one H)))
        | ((with_reducible refine is_append ?_); apply wl_append v1E H; rfl; rfl; (conv => lhs; whnf); (conv => lhs; whnf); infer_instance; infer_instance; infer_instance; infer_instance; (first | omega | (simp only [List.length_append, List.length_cons, List.length_nil, List.length_take, List.length_drop, List.length_replicate, Int.toNat_natCast]; omega) | (simp; omega)); (clear H; intro v w H; have hone := One1.mk (ownL_one H)))
        | ((with_reducible refine is_load ?_); apply wl_elem_agg v1E H; rfl; rfl; rfl; infer_instance; infer_instance; (first | assumption | (simp only [Int.toNat_natCast]; assumption)); rfl; (conv => lhs; whnf); skip)
        | ((with_reducible refine is_load ?_); apply wl_elem v1E H; rfl; rfl; rfl; infer_instance; infer_instance; (first | assumption | (simp only [Int.toNat_natCast]; assumption)); (conv => lhs; whnf); skip))
  · exact ownL_nil H
  · simpa using H

set_option maxHeartbeats 400000 in
theorem c221 {v : Value} {l : List In} [hr : RdV insE As v l] (H : Sat w0 w As) (hb : l.length ≤ 4294967296) (k : ∀ v' w', Sat w0 w' (ownL insE 135 v' l :: As) → R (.returned v') w') :
    Calls Tryz.prog 79 #[v] w R := by
  rcases hr.get H with ⟨rfl, rfl⟩ | ⟨g, off, cap, rfl, _⟩
  all_goals
    go_enter Tryz.func79, Tryz.ntmps79
    go_wp2_with (first
        | ((with_reducible refine is_buildSlice ?_); apply wl_build0 insE H; rfl; rfl; infer_instance; infer_instance; (clear H; intro v w H; have hone := One1.mk (ownL_one H)))
        | ((with_reducible refine is_append ?_); apply wl_append insE H; rfl; rfl; (conv => lhs; whnf); (conv => lhs; whnf); infer_instance; infer_instance; infer_instance; infer_instance; (first | omega | (simp only [List.length_append, List.length_cons, List.length_nil, List.length_take, List.length_drop, List.length_replicate, Int.toNat_natCast]; omega) | (simp; omega)); (clear H; intro v w H; have hone := One1.mk (ownL_one H)))
        | ((with_reducible refine is_load ?_); apply wl_elem_agg insE H; rfl; rfl; rfl; infer_instance; infer_instance; (first | assumption | (simp only [Int.toNat_natCast]; assumption)); rfl; (conv => lhs; whnf); skip)
        | ((with_reducible refine is_load ?_); apply wl_elem insE H; rfl; rfl; rfl; infer_instance; infer_instance; (first | assumption | (simp only [Int.toNat_natCast]; assumption)); (conv => lhs; whnf); skip))
  · exact ownL_nil H
  · simpa using H

set_option maxHeartbeats 400000 in
theorem c167 {v : Value} {l : List UInt8} [hr : RdV byteE As v l] (H : Sat w0 w As) (hb : l.length ≤ 4294967296) (k : ∀ v' w', Sat w0 w' (ownL byteE 5 v' l :: As) → R (.returned v') w') :
    Calls Tryz.prog 58 #[v] w R := by
  rcases hr.get H with ⟨rfl, rfl⟩ | ⟨g, off, cap, rfl, _⟩
  all_goals
    go_enter Tryz.func58, Tryz.ntmps58
    go_wp2_with (first
        | ((with_reducible refine is_buildSlice ?_); apply wl_build0 byteE H; rfl; rfl; infer_instance; infer_instance; (clear H; intro v w H; have hone := One1.mk (ownL_one H)))
        | ((with_reducible refine is_append ?_); apply wl_append_str H; rfl; rfl; (conv => lhs; whnf); rfl; infer_instance; infer_instance; infer_instance; infer_instance; (first | omega | (simp only [List.length_append, List.length_cons, List.length_nil, List.length_take, List.length_drop, List.length_replicate, Int.toNat_natCast]; omega) | (simp; omega)); (clear H; intro v w H; have hone := One1.mk (ownL_one H)))
        | ((with_reducible refine is_append ?_); apply wl_append byteE H; rfl; rfl; (conv => lhs; whnf); (conv => lhs; whnf); infer_instance; infer_instance; infer_instance; infer_instance; (first | omega | (simp only [List.length_append, List.length_cons, List.length_nil, List.length_take, List.length_drop, List.length_replicate, Int.toNat_natCast]; omega) | (simp; omega)); (clear H; intro v w H; have hone := One1.mk (ownL_one H)))
        | ((with_reducible refine is_load ?_); apply wl_elem_agg byteE H; rfl; rfl; rfl; infer_instance; infer_instance; (first | assumption | (simp only [Int.toNat_natCast]; assumption)); rfl; (conv => lhs; whnf); skip)
        | ((with_reducible refine is_load ?_); apply wl_elem byteE H; rfl; rfl; rfl; infer_instance; infer_instance; (first | assumption | (simp only [Int.toNat_natCast]; assumption)); (conv => lhs; whnf); skip))
  · exact ownL_nil H
  · simpa using H

end Go.Proofs.YtcdkaggdidfenaaGreatDoor
