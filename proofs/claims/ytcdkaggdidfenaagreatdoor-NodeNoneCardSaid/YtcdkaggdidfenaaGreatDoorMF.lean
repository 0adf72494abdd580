/- A part of the proof: contracts of functions of the given program, and the laws on memory that they lean on. -/
import Derived.Test.YtcdkaggdidfenaaGreatDoorME
set_option linter.all false
namespace Go.Proofs.YtcdkaggdidfenaaGreatDoor
open Go.RowKit Go.Proofs Go.SL St
set_option maxRecDepth 40000
variable {w w0 : World} {As r : List HP} {R : Ending → World → Prop} {b : Nat} {d : Dk}

set_option maxHeartbeats 400000 in
theorem c159 (H : Sat w0 w As) (k : ∀ b w', Sat w0 w' (diskHP b {} :: As) → R (.returned (.pointer (some ⟨b, 0, none⟩))) w') : Calls Tryz.prog 48 #[] w R := by
  go_enter Tryz.func48, Tryz.ntmps48
  go_wp2_with (first
      | ((with_reducible refine is_box ?_); apply wl_box H; rfl; rfl; (conv => lhs; whnf); (conv => lhs; whnf); (clear H; intro b w H)))
  exact diskHP_iff.2 ⟨.slice none 0 0, ((ownL_nil (E := byteE) (e := 5) H).perm (.swap _ _ _))⟩

set_option maxHeartbeats 400000 in
theorem c68 [hr : HasR (diskHP b) As d r] (H : Sat w0 w As) (hb : d.b.length ≤ 4294967296) (k : ∀ v w', Sat w0 w' (ownL byteE 5 v d.b :: As) → R (.returned v) w') : Calls Tryz.prog 26 #[.pointer (some ⟨b, 0, none⟩)] w R := by
  replace H := H.perm hr.perm
  obtain ⟨v0, H⟩ := diskHP_iff.1 H
  go_enter Tryz.func26, Tryz.ntmps26
  go_wp2_with (first
      | (go_at_call 58; refine c167 H hb ?_; clear H; intro v w H)
      | ((with_reducible refine is_load ?_); apply wl_load H; rfl; rfl; rfl; infer_instance; infer_instance; rfl; skip)
      | ((with_reducible refine is_load ?_); apply wl_load_agg H; rfl; rfl; rfl; infer_instance; infer_instance; (focus (simp; done)); (try simp only [cut, List.drop_zero, List.drop_succ_cons, List.take_succ_cons, List.take_zero])))
  have H1 : Sat w0 w (diskHP b d :: ownL byteE 5 v d.b :: r) := diskHP_iff.2 ⟨v0, H.ent⟩
  exact (H1.perm ((List.Perm.swap _ _ _).trans (hr.perm.symm.cons _)))

set_option maxHeartbeats 400000 in
theorem c256 {x : Value} {l : List UInt8} [hr : HasR (diskHP b) As d r] [hx : RdV byteE r x l] (H : Sat w0 w As) (hb : d.b.length + l.length ≤ 4294967296) (k : ∀ w', Sat w0 w' (diskHP b (d.append l) :: r) → R (.returned (.tuple #[])) w') :
    Calls Tryz.prog 84 #[.pointer (some ⟨b, 0, none⟩), x] w R := by
  replace H := H.perm hr.perm
  obtain ⟨v0, H⟩ := diskHP_iff.1 H
  have hone := One1.mk (ownL_one (H.perm (.swap _ _ _)))
  go_enter Tryz.func84, Tryz.ntmps84
  go_wp2_with (first
      | ((with_reducible refine is_end ?_); refine bodyPost_end (results_none rfl _ _ _) rfl ?_)
      | ((with_reducible refine is_ret ?_); refine bodyPost_ret (results_none rfl _ _ _) rfl ?_)
      | ((with_reducible refine is_load ?_); apply wl_load H; rfl; rfl; rfl; infer_instance; infer_instance; rfl; skip)
      | ((with_reducible refine is_load ?_); apply wl_load_agg H; rfl; rfl; rfl; infer_instance; infer_instance; (focus (simp; done)); (try simp only [cut, List.drop_zero, List.drop_succ_cons, List.take_succ_cons, List.take_zero]))
      | ((with_reducible refine is_store ?_); apply wl_store H; rfl; rfl; rfl; infer_instance; infer_instance; (focus (simp; done)); (conv => lhs; whnf); infer_instance; (clear H; intro w H; (try simp only [List.setIfInBounds_toArray, List.set_cons_zero, List.set_cons_succ] at H)))
      | ((with_reducible refine is_store ?_); apply wl_store_agg H; rfl; rfl; rfl; infer_instance; infer_instance; rfl; (conv => lhs; whnf); rfl; (first | (focus (simp; done)) | (simp; omega)); infer_instance; (clear H; intro w H; (try simp only [putAll, List.setIfInBounds_toArray, List.set_cons_zero, List.set_cons_succ] at H)))
      | ((with_reducible refine is_append ?_); apply wl_append_str H; rfl; rfl; (conv => lhs; whnf); rfl; infer_instance; infer_instance; infer_instance; infer_instance; (first | omega | (simp only [List.length_append, List.length_cons, List.length_nil, List.length_take, List.length_drop, List.length_replicate, Int.toNat_natCast]; omega) | (simp; omega)); (clear H; intro v w H; have hone := One1.mk (ownL_one H)))
      | ((with_reducible refine is_append ?_); apply wl_append byteE H; rfl; rfl; (conv => lhs; whnf); (conv => lhs; whnf); infer_instance; infer_instance; infer_instance; infer_instance; (first | omega | (simp only [List.length_append, List.length_cons, List.length_nil, List.length_take, List.length_drop, List.length_replicate, Int.toNat_natCast]; omega) | (simp; omega)); (clear H; intro v w H; have hone := One1.mk (ownL_one H)))
      | ((with_reducible refine is_store ?_); apply wl_set byteE H; rfl; rfl; rfl; infer_instance; infer_instance; (first | omega | (simp only [List.length_take, List.length_drop, List.length_append, List.length_cons, List.length_nil, List.length_replicate, List.length_set, Int.toNat_natCast]; omega)); (conv => lhs; whnf); infer_instance; (clear H; intro w H; (try simp only [Int.toNat_natCast] at H)))
      | ((with_reducible refine is_store ?_); apply wl_set_agg byteE H; rfl; rfl; rfl; infer_instance; infer_instance; rfl; (first | omega | (simp only [List.length_take, List.length_drop, List.length_append, List.length_cons, List.length_nil, List.length_replicate, List.length_set, Int.toNat_natCast]; omega)); (conv => lhs; whnf); (conv => lhs; whnf); infer_instance; (clear H; intro w H; (try simp only [Int.toNat_natCast] at H)))
      | ((with_reducible refine is_load ?_); apply wl_elem_agg byteE H; rfl; rfl; rfl; infer_instance; infer_instance; (first | assumption | (simp only [Int.toNat_natCast]; assumption)); rfl; (conv => lhs; whnf); skip)
      | ((with_reducible refine is_load ?_); apply wl_elem byteE H; rfl; rfl; rfl; infer_instance; infer_instance; (first | assumption | (simp only [Int.toNat_natCast]; assumption)); (conv => lhs; whnf); skip))
  first | exact diskHP_iff.2 ⟨_, H⟩ | exact k _ (diskHP_iff.2 ⟨_, H⟩)

set_option maxHeartbeats 400000 in
theorem c161 [hr : HasR (diskHP b) As d r] (H : Sat w0 w As) (k : ∀ w', Sat w0 w' (diskHP b d.sync :: r) → R (.returned (.tuple #[])) w') : Calls Tryz.prog 50 #[.pointer (some ⟨b, 0, none⟩)] w R := by
  replace H := H.perm hr.perm
  obtain ⟨v0, H⟩ := diskHP_iff.1 H
  have hone := One1.mk (ownL_one (H.perm (.swap _ _ _)))
  go_enter Tryz.func50, Tryz.ntmps50
  go_wp2_with (first
      | ((with_reducible refine is_end ?_); refine bodyPost_end (results_none rfl _ _ _) rfl ?_)
      | ((with_reducible refine is_ret ?_); refine bodyPost_ret (results_none rfl _ _ _) rfl ?_)
      | ((with_reducible refine is_load ?_); apply wl_load H; rfl; rfl; rfl; infer_instance; infer_instance; rfl; skip)
      | ((with_reducible refine is_load ?_); apply wl_load_agg H; rfl; rfl; rfl; infer_instance; infer_instance; (focus (simp; done)); (try simp only [cut, List.drop_zero, List.drop_succ_cons, List.take_succ_cons, List.take_zero]))
      | ((with_reducible refine is_store ?_); apply wl_store H; rfl; rfl; rfl; infer_instance; infer_instance; (focus (simp; done)); (conv => lhs; whnf); infer_instance; (clear H; intro w H; (try simp only [List.setIfInBounds_toArray, List.set_cons_zero, List.set_cons_succ] at H)))
      | ((with_reducible refine is_store ?_); apply wl_store_agg H; rfl; rfl; rfl; infer_instance; infer_instance; rfl; (conv => lhs; whnf); rfl; (first | (focus (simp; done)) | (simp; omega)); infer_instance; (clear H; intro w H; (try simp only [putAll, List.setIfInBounds_toArray, List.set_cons_zero, List.set_cons_succ] at H)))
      | ((with_reducible refine is_len ?_); apply wl_len byteE H; rfl; rfl; (conv => lhs; whnf); infer_instance; infer_instance; skip)
      | ((with_reducible refine is_store ?_); apply wl_set byteE H; rfl; rfl; rfl; infer_instance; infer_instance; (first | omega | (simp only [List.length_take, List.length_drop, List.length_append, List.length_cons, List.length_nil, List.length_replicate, List.length_set, Int.toNat_natCast]; omega)); (conv => lhs; whnf); infer_instance; (clear H; intro w H; (try simp only [Int.toNat_natCast] at H)))
      | ((with_reducible refine is_store ?_); apply wl_set_agg byteE H; rfl; rfl; rfl; infer_instance; infer_instance; rfl; (first | omega | (simp only [List.length_take, List.length_drop, List.length_append, List.length_cons, List.length_nil, List.length_replicate, List.length_set, Int.toNat_natCast]; omega)); (conv => lhs; whnf); (conv => lhs; whnf); infer_instance; (clear H; intro w H; (try simp only [Int.toNat_natCast] at H)))
      | ((with_reducible refine is_load ?_); apply wl_elem_agg byteE H; rfl; rfl; rfl; infer_instance; infer_instance; (first | assumption | (simp only [Int.toNat_natCast]; assumption)); rfl; (conv => lhs; whnf); skip)
      | ((with_reducible refine is_load ?_); apply wl_elem byteE H; rfl; rfl; rfl; infer_instance; infer_instance; (first | assumption | (simp only [Int.toNat_natCast]; assumption)); (conv => lhs; whnf); skip))
  first | exact diskHP_iff.2 ⟨_, H⟩ | exact k _ (diskHP_iff.2 ⟨_, H⟩)

set_option maxHeartbeats 400000 in
theorem c72 [hr : HasR (diskHP b) As d r] (H : Sat w0 w As) (k : ∀ w', Sat w0 w' As → R (.returned (.int .i64 d.n)) w') : Calls Tryz.prog 46 #[.pointer (some ⟨b, 0, none⟩)] w R := by
  replace H := H.perm hr.perm
  obtain ⟨v0, H⟩ := diskHP_iff.1 H
  go_enter Tryz.func46, Tryz.ntmps46
  go_wp2_with (first
      | ((with_reducible refine is_load ?_); apply wl_load H; rfl; rfl; rfl; infer_instance; infer_instance; rfl; skip)
      | ((with_reducible refine is_load ?_); apply wl_load_agg H; rfl; rfl; rfl; infer_instance; infer_instance; (focus (simp; done)); (try simp only [cut, List.drop_zero, List.drop_succ_cons, List.take_succ_cons, List.take_zero])))
  exact Sat.perm (diskHP_iff.2 ⟨_, H⟩) hr.perm.symm

set_option maxHeartbeats 400000 in
theorem c66 [hr : HasR (diskHP b) As d r] (H : Sat w0 w As) (hd : d.ok) (k : ∀ w', Sat w0 w' As → R (.returned (.int .i64 d.unsynced)) w') : Calls Tryz.prog 24 #[.pointer (some ⟨b, 0, none⟩)] w R := by
  replace H := H.perm hr.perm
  obtain ⟨v0, H⟩ := diskHP_iff.1 H
  have hb := (inferInstance : RdV byteE (.pt b (.cells #[v0, .int .i64 d.n] 108 (0, 0)) :: ownL byteE 5 v0 d.b :: r) v0 d.b).len_le H
  obtain ⟨hd1, hd2⟩ := hd
  go_enter Tryz.func24, Tryz.ntmps24
  go_wp2_with (first
      | ((with_reducible refine is_load ?_); apply wl_load H; rfl; rfl; rfl; infer_instance; infer_instance; rfl; skip)
      | ((with_reducible refine is_load ?_); apply wl_load_agg H; rfl; rfl; rfl; infer_instance; infer_instance; (focus (simp; done)); (try simp only [cut, List.drop_zero, List.drop_succ_cons, List.take_succ_cons, List.take_zero]))
      | ((with_reducible refine is_len ?_); apply wl_len byteE H; rfl; rfl; (conv => lhs; whnf); infer_instance; infer_instance; skip)
      | ((with_reducible refine is_load ?_); apply wl_elem_agg byteE H; rfl; rfl; rfl; infer_instance; infer_instance; (first | assumption | (simp only [Int.toNat_natCast]; assumption)); rfl; (conv => lhs; whnf); skip)
      | ((with_reducible refine is_load ?_); apply wl_elem byteE H; rfl; rfl; rfl; infer_instance; infer_instance; (first | assumption | (simp only [Int.toNat_natCast]; assumption)); (conv => lhs; whnf); skip))
  refine wp_draw [] (by kernel_rfl) ?_
  replace H := H.drew
  (refine G_pure (i := 0) (v := ?_) rfl (by kernel_rfl) rfl (fun w => ?_) ?_; rotate_left 1; (focus (go_simp; (try simp (disch := omega) only [IntWalk.i64_in]); (try with_reducible rfl))); (try simp only [Act.put, List.setIfInBounds_toArray, List.set_cons_zero, List.set_cons_succ, cut, List.drop_zero, List.drop_succ_cons, List.take_succ_cons, List.take_zero]))
  (refine G_pure (i := 1) (v := ?_) rfl (by kernel_rfl) rfl (fun w => ?_) ?_; rotate_left 1; (focus (go_simp; (try simp (disch := omega) only [IntWalk.i64_in]); (try with_reducible rfl))); (try simp only [Act.put, List.setIfInBounds_toArray, List.set_cons_zero, List.set_cons_succ, cut, List.drop_zero, List.drop_succ_cons, List.take_succ_cons, List.take_zero]))
  (refine G_pure (i := 2) (v := ?_) rfl (by kernel_rfl) rfl (fun w => ?_) ?_; rotate_left 1; (focus (go_simp; (try simp (disch := omega) only [IntWalk.i64_in]); (try with_reducible rfl))); (try simp only [Act.put, List.setIfInBounds_toArray, List.set_cons_zero, List.set_cons_succ, cut, List.drop_zero, List.drop_succ_cons, List.take_succ_cons, List.take_zero]))
  first
    | (apply G_load (i := 3) H; rfl; kernel_rfl; rfl; rfl; rfl; infer_instance; infer_instance; rfl; (try simp only [Act.put, List.setIfInBounds_toArray, List.set_cons_zero, List.set_cons_succ, cut, List.drop_zero, List.drop_succ_cons, List.take_succ_cons, List.take_zero]))
    | (apply G_load_agg (i := 3) H; rfl; kernel_rfl; rfl; rfl; rfl; infer_instance; infer_instance; (focus (simp; done)); (try simp only [Act.put, List.setIfInBounds_toArray, List.set_cons_zero, List.set_cons_succ, cut, List.drop_zero, List.drop_succ_cons, List.take_succ_cons, List.take_zero]))
    | (apply G_elem_agg (i := 3) byteE H; rfl; kernel_rfl; rfl; rfl; rfl; infer_instance; infer_instance; (first | assumption | (simp only [Int.toNat_natCast]; assumption)); rfl; (conv => lhs; whnf); (try simp only [Act.put, List.setIfInBounds_toArray, List.set_cons_zero, List.set_cons_succ, cut, List.drop_zero, List.drop_succ_cons, List.take_succ_cons, List.take_zero]))
    | (apply G_elem (i := 3) byteE H; rfl; kernel_rfl; rfl; rfl; rfl; infer_instance; infer_instance; (first | assumption | (simp only [Int.toNat_natCast]; assumption)); rfl; (try simp only [Act.put, List.setIfInBounds_toArray, List.set_cons_zero, List.set_cons_succ, cut, List.drop_zero, List.drop_succ_cons, List.take_succ_cons, List.take_zero]))
  first
    | (apply G_len (i := 4) byteE H; rfl; kernel_rfl; rfl; rfl; (conv => lhs; whnf); infer_instance; infer_instance; (try simp only [Act.put, List.setIfInBounds_toArray, List.set_cons_zero, List.set_cons_succ, cut, List.drop_zero, List.drop_succ_cons, List.take_succ_cons, List.take_zero]))
    | (refine G_pure (i := 4) (v := ?_) rfl (by kernel_rfl) rfl (fun w => ?_) ?_; rotate_left 1; (focus (go_simp; (try simp (disch := omega) only [IntWalk.i64_in]); (try with_reducible rfl))); (try simp only [Act.put, List.setIfInBounds_toArray, List.set_cons_zero, List.set_cons_succ, cut, List.drop_zero, List.drop_succ_cons, List.take_succ_cons, List.take_zero]))
  (refine G_pure (i := 5) (v := ?_) rfl (by kernel_rfl) rfl (fun w => ?_) ?_; rotate_left 1; (focus (go_simp; (try simp (disch := omega) only [IntWalk.i64_in]); (try with_reducible rfl))); (try simp only [Act.put, List.setIfInBounds_toArray, List.set_cons_zero, List.set_cons_succ, cut, List.drop_zero, List.drop_succ_cons, List.take_succ_cons, List.take_zero]))
  (refine G_pure (i := 6) (v := ?_) rfl (by kernel_rfl) rfl (fun w => ?_) ?_; rotate_left 1; (focus (go_simp; (try simp (disch := omega) only [IntWalk.i64_in]); (try with_reducible rfl))); (try simp only [Act.put, List.setIfInBounds_toArray, List.set_cons_zero, List.set_cons_succ, cut, List.drop_zero, List.drop_succ_cons, List.take_succ_cons, List.take_zero]))
  (refine G_pure (i := 7) (v := ?_) rfl (by kernel_rfl) rfl (fun w => ?_) ?_; rotate_left 1; (focus (go_simp; (try simp (disch := omega) only [IntWalk.i64_in]); (try with_reducible rfl))); (try simp only [Act.put, List.setIfInBounds_toArray, List.set_cons_zero, List.set_cons_succ, cut, List.drop_zero, List.drop_succ_cons, List.take_succ_cons, List.take_zero]))
  first
    | (apply G_load (i := 8) H; rfl; kernel_rfl; rfl; rfl; rfl; infer_instance; infer_instance; rfl; (try simp only [Act.put, List.setIfInBounds_toArray, List.set_cons_zero, List.set_cons_succ, cut, List.drop_zero, List.drop_succ_cons, List.take_succ_cons, List.take_zero]))
    | (apply G_load_agg (i := 8) H; rfl; kernel_rfl; rfl; rfl; rfl; infer_instance; infer_instance; (focus (simp; done)); (try simp only [Act.put, List.setIfInBounds_toArray, List.set_cons_zero, List.set_cons_succ, cut, List.drop_zero, List.drop_succ_cons, List.take_succ_cons, List.take_zero]))
    | (apply G_elem_agg (i := 8) byteE H; rfl; kernel_rfl; rfl; rfl; rfl; infer_instance; infer_instance; (first | assumption | (simp only [Int.toNat_natCast]; assumption)); rfl; (conv => lhs; whnf); (try simp only [Act.put, List.setIfInBounds_toArray, List.set_cons_zero, List.set_cons_succ, cut, List.drop_zero, List.drop_succ_cons, List.take_succ_cons, List.take_zero]))
    | (apply G_elem (i := 8) byteE H; rfl; kernel_rfl; rfl; rfl; rfl; infer_instance; infer_instance; (first | assumption | (simp only [Int.toNat_natCast]; assumption)); rfl; (try simp only [Act.put, List.setIfInBounds_toArray, List.set_cons_zero, List.set_cons_succ, cut, List.drop_zero, List.drop_succ_cons, List.take_succ_cons, List.take_zero]))
  (refine G_pure (i := 9) (v := ?_) rfl (by kernel_rfl) rfl (fun w => ?_) ?_; rotate_left 1; (focus (go_simp; (try simp (disch := omega) only [IntWalk.i64_in]); (try with_reducible rfl))); (try simp only [Act.put, List.setIfInBounds_toArray, List.set_cons_zero, List.set_cons_succ, cut, List.drop_zero, List.drop_succ_cons, List.take_succ_cons, List.take_zero]))
  (refine G_pure (i := 10) (v := ?_) rfl (by kernel_rfl) rfl (fun w => ?_) ?_; rotate_left 1; (focus (go_simp; (try simp (disch := omega) only [IntWalk.i64_in]); (try with_reducible rfl))); (try simp only [Act.put, List.setIfInBounds_toArray, List.set_cons_zero, List.set_cons_succ, cut, List.drop_zero, List.drop_succ_cons, List.take_succ_cons, List.take_zero]))
  refine G_done (by kernel_rfl) ?_
  go_wp2_with (first
      | ((with_reducible refine is_load ?_); apply wl_load H; rfl; rfl; rfl; infer_instance; infer_instance; rfl; skip)
      | ((with_reducible refine is_load ?_); apply wl_load_agg H; rfl; rfl; rfl; infer_instance; infer_instance; (focus (simp; done)); (try simp only [cut, List.drop_zero, List.drop_succ_cons, List.take_succ_cons, List.take_zero]))
      | ((with_reducible refine is_len ?_); apply wl_len byteE H; rfl; rfl; (conv => lhs; whnf); infer_instance; infer_instance; skip)
      | ((with_reducible refine is_load ?_); apply wl_elem_agg byteE H; rfl; rfl; rfl; infer_instance; infer_instance; (first | assumption | (simp only [Int.toNat_natCast]; assumption)); rfl; (conv => lhs; whnf); skip)
      | ((with_reducible refine is_load ?_); apply wl_elem byteE H; rfl; rfl; rfl; infer_instance; infer_instance; (first | assumption | (simp only [Int.toNat_natCast]; assumption)); (conv => lhs; whnf); skip))
  exact Sat.perm (diskHP_iff.2 ⟨_, H⟩) hr.perm.symm

set_option maxHeartbeats 1000000 in
theorem c254 {n : Int} [hr : HasR (diskHP b) As d r] (H : Sat w0 w As) (k : ∀ w', Sat w0 w' (diskHP b (d.cut n) :: r) → R (.returned (.bool (decide (0 ≤ n) && decide (n ≤ d.b.length)))) w') : Calls Tryz.prog 81 #[.pointer (some ⟨b, 0, none⟩), .int .i64 n] w R := by
  replace H := H.perm hr.perm
  obtain ⟨v0, H⟩ := diskHP_iff.1 H
  have hone := One1.mk (ownL_one (H.perm (.swap _ _ _)))
  by_cases h0 : 0 ≤ n
  · by_cases h1 : n ≤ d.b.length
    · have hc : d.cut n = ⟨d.b.take n.toNat, n⟩ := by unfold Dk.cut; rw [if_pos ⟨h0, h1⟩]
      go_enter Tryz.func81, Tryz.ntmps81
      go_wp2_with (first
          | ((with_reducible refine is_load ?_); apply wl_load H; rfl; rfl; rfl; infer_instance; infer_instance; rfl; skip)
          | ((with_reducible refine is_load ?_); apply wl_load_agg H; rfl; rfl; rfl; infer_instance; infer_instance; (focus (simp; done)); (try simp only [cut, List.drop_zero, List.drop_succ_cons, List.take_succ_cons, List.take_zero]))
          | ((with_reducible refine is_store ?_); apply wl_store H; rfl; rfl; rfl; infer_instance; infer_instance; (focus (simp; done)); (conv => lhs; whnf); infer_instance; (clear H; intro w H; (try simp only [List.setIfInBounds_toArray, List.set_cons_zero, List.set_cons_succ] at H)))
          | ((with_reducible refine is_store ?_); apply wl_store_agg H; rfl; rfl; rfl; infer_instance; infer_instance; rfl; (conv => lhs; whnf); rfl; (first | (focus (simp; done)) | (simp; omega)); infer_instance; (clear H; intro w H; (try simp only [putAll, List.setIfInBounds_toArray, List.set_cons_zero, List.set_cons_succ] at H)))
          | ((with_reducible refine is_len ?_); apply wl_len byteE H; rfl; rfl; (conv => lhs; whnf); infer_instance; infer_instance; skip)
          | ((with_reducible refine is_slice ?_); apply wl_slice byteE H; rfl; rfl; (conv => lhs; whnf); infer_instance; infer_instance; infer_instance; (first | exact .inl ⟨rfl, rfl⟩ | exact .inr ⟨_, _, _, rfl, rfl, by omega, rfl⟩); (first | exact .inl ⟨rfl, rfl⟩ | exact .inr ⟨_, _, _, rfl, rfl, by omega, rfl⟩); (first | omega | (simp only [List.length_take, List.length_drop, List.length_append, List.length_cons, List.length_nil, List.length_replicate, List.length_set, Int.toNat_natCast]; omega)); (first | omega | (simp only [List.length_take, List.length_drop, List.length_append, List.length_cons, List.length_nil, List.length_replicate, List.length_set, Int.toNat_natCast]; omega)); intro _)
          | ((with_reducible refine is_store ?_); apply wl_set byteE H; rfl; rfl; rfl; infer_instance; infer_instance; (first | omega | (simp only [List.length_take, List.length_drop, List.length_append, List.length_cons, List.length_nil, List.length_replicate, List.length_set, Int.toNat_natCast]; omega)); (conv => lhs; whnf); infer_instance; (clear H; intro w H; (try simp only [Int.toNat_natCast] at H)))
          | ((with_reducible refine is_store ?_); apply wl_set_agg byteE H; rfl; rfl; rfl; infer_instance; infer_instance; rfl; (first | omega | (simp only [List.length_take, List.length_drop, List.length_append, List.length_cons, List.length_nil, List.length_replicate, List.length_set, Int.toNat_natCast]; omega)); (conv => lhs; whnf); (conv => lhs; whnf); infer_instance; (clear H; intro w H; (try simp only [Int.toNat_natCast] at H)))
          | ((with_reducible refine is_load ?_); apply wl_elem_agg byteE H; rfl; rfl; rfl; infer_instance; infer_instance; (first | assumption | (simp only [Int.toNat_natCast]; assumption)); rfl; (conv => lhs; whnf); skip)
          | ((with_reducible refine is_load ?_); apply wl_elem byteE H; rfl; rfl; rfl; infer_instance; infer_instance; (first | assumption | (simp only [Int.toNat_natCast]; assumption)); (conv => lhs; whnf); skip))
      all_goals try (exfalso; omega)
      refine fin (k _ (diskHP_iff.2 ⟨sub 1 v0 0 n.toNat, ?_⟩)) (by simp; try omega)
      rw [hc]
      exact (own_sub (E := byteE) (by omega) (H.perm (.swap _ _ _))).perm (.swap _ _ _)
    · have hc : d.cut n = d := by unfold Dk.cut; rw [if_neg (fun e => h1 e.2)]
      go_enter Tryz.func81, Tryz.ntmps81
      go_wp2_with (first
          | ((with_reducible refine is_load ?_); apply wl_load H; rfl; rfl; rfl; infer_instance; infer_instance; rfl; skip)
          | ((with_reducible refine is_load ?_); apply wl_load_agg H; rfl; rfl; rfl; infer_instance; infer_instance; (focus (simp; done)); (try simp only [cut, List.drop_zero, List.drop_succ_cons, List.take_succ_cons, List.take_zero]))
          | ((with_reducible refine is_store ?_); apply wl_store H; rfl; rfl; rfl; infer_instance; infer_instance; (focus (simp; done)); (conv => lhs; whnf); infer_instance; (clear H; intro w H; (try simp only [List.setIfInBounds_toArray, List.set_cons_zero, List.set_cons_succ] at H)))
          | ((with_reducible refine is_store ?_); apply wl_store_agg H; rfl; rfl; rfl; infer_instance; infer_instance; rfl; (conv => lhs; whnf); rfl; (first | (focus (simp; done)) | (simp; omega)); infer_instance; (clear H; intro w H; (try simp only [putAll, List.setIfInBounds_toArray, List.set_cons_zero, List.set_cons_succ] at H)))
          | ((with_reducible refine is_len ?_); apply wl_len byteE H; rfl; rfl; (conv => lhs; whnf); infer_instance; infer_instance; skip)
          | ((with_reducible refine is_slice ?_); apply wl_slice byteE H; rfl; rfl; (conv => lhs; whnf); infer_instance; infer_instance; infer_instance; (first | exact .inl ⟨rfl, rfl⟩ | exact .inr ⟨_, _, _, rfl, rfl, by omega, rfl⟩); (first | exact .inl ⟨rfl, rfl⟩ | exact .inr ⟨_, _, _, rfl, rfl, by omega, rfl⟩); (first | omega | (simp only [List.length_take, List.length_drop, List.length_append, List.length_cons, List.length_nil, List.length_replicate, List.length_set, Int.toNat_natCast]; omega)); (first | omega | (simp only [List.length_take, List.length_drop, List.length_append, List.length_cons, List.length_nil, List.length_replicate, List.length_set, Int.toNat_natCast]; omega)); intro _)
          | ((with_reducible refine is_store ?_); apply wl_set byteE H; rfl; rfl; rfl; infer_instance; infer_instance; (first | omega | (simp only [List.length_take, List.length_drop, List.length_append, List.length_cons, List.length_nil, List.length_replicate, List.length_set, Int.toNat_natCast]; omega)); (conv => lhs; whnf); infer_instance; (clear H; intro w H; (try simp only [Int.toNat_natCast] at H)))
          | ((with_reducible refine is_store ?_); apply wl_set_agg byteE H; rfl; rfl; rfl; infer_instance; infer_instance; rfl; (first | omega | (simp only [List.length_take, List.length_drop, List.length_append, List.length_cons, List.length_nil, List.length_replicate, List.length_set, Int.toNat_natCast]; omega)); (conv => lhs; whnf); (conv => lhs; whnf); infer_instance; (clear H; intro w H; (try simp only [Int.toNat_natCast] at H)))
          | ((with_reducible refine is_load ?_); apply wl_elem_agg byteE H; rfl; rfl; rfl; infer_instance; infer_instance; (first | assumption | (simp only [Int.toNat_natCast]; assumption)); rfl; (conv => lhs; whnf); skip)
          | ((with_reducible refine is_load ?_); apply wl_elem byteE H; rfl; rfl; rfl; infer_instance; infer_instance; (first | assumption | (simp only [Int.toNat_natCast]; assumption)); (conv => lhs; whnf); skip))
      all_goals try (exfalso; omega)
      refine fin (k _ (diskHP_iff.2 ⟨v0, ?_⟩)) (by simp; try omega)
      rw [hc]
      exact H
  · have hc : d.cut n = d := by unfold Dk.cut; rw [if_neg (fun e => h0 e.1)]
    go_enter Tryz.func81, Tryz.ntmps81
    go_wp2_with (first
        | ((with_reducible refine is_load ?_); apply wl_load H; rfl; rfl; rfl; infer_instance; infer_instance; rfl; skip)
        | ((with_reducible refine is_load ?_); apply wl_load_agg H; rfl; rfl; rfl; infer_instance; infer_instance; (focus (simp; done)); (try simp only [cut, List.drop_zero, List.drop_succ_cons, List.take_succ_cons, List.take_zero]))
        | ((with_reducible refine is_store ?_); apply wl_store H; rfl; rfl; rfl; infer_instance; infer_instance; (focus (simp; done)); (conv => lhs; whnf); infer_instance; (clear H; intro w H; (try simp only [List.setIfInBounds_toArray, List.set_cons_zero, List.set_cons_succ] at H)))
        | ((with_reducible refine is_store ?_); apply wl_store_agg H; rfl; rfl; rfl; infer_instance; infer_instance; rfl; (conv => lhs; whnf); rfl; (first | (focus (simp; done)) | (simp; omega)); infer_instance; (clear H; intro w H; (try simp only [putAll, List.setIfInBounds_toArray, List.set_cons_zero, List.set_cons_succ] at H)))
        | ((with_reducible refine is_len ?_); apply wl_len byteE H; rfl; rfl; (conv => lhs; whnf); infer_instance; infer_instance; skip)
        | ((with_reducible refine is_slice ?_); apply wl_slice byteE H; rfl; rfl; (conv => lhs; whnf); infer_instance; infer_instance; infer_instance; (first | exact .inl ⟨rfl, rfl⟩ | exact .inr ⟨_, _, _, rfl, rfl, by omega, rfl⟩); (first | exact .inl ⟨rfl, rfl⟩ | exact .inr ⟨_, _, _, rfl, rfl, by omega, rfl⟩); (first | omega | (simp only [List.length_take, List.length_drop, List.length_append, List.length_cons, List.length_nil, List.length_replicate, List.length_set, Int.toNat_natCast]; omega)); (first | omega | (simp only [List.length_take, List.length_drop, List.length_append, List.length_cons, List.length_nil, List.length_replicate, List.length_set, Int.toNat_natCast]; omega)); intro _)
        | ((with_reducible refine is_store ?_); apply wl_set byteE H; rfl; rfl; rfl; infer_instance; infer_instance; (first | omega | (simp only [List.length_take, List.length_drop, List.length_append, List.length_cons, List.length_nil, List.length_replicate, List.length_set, Int.toNat_natCast]; omega)); (conv => lhs; whnf); infer_instance; (clear H; intro w H; (try simp only [Int.toNat_natCast] at H)))
        | ((with_reducible refine is_store ?_); apply wl_set_agg byteE H; rfl; rfl; rfl; infer_instance; infer_instance; rfl; (first | omega | (simp only [List.length_take, List.length_drop, List.length_append, List.length_cons, List.length_nil, List.length_replicate, List.length_set, Int.toNat_natCast]; omega)); (conv => lhs; whnf); (conv => lhs; whnf); infer_instance; (clear H; intro w H; (try simp only [Int.toNat_natCast] at H)))
        | ((with_reducible refine is_load ?_); apply wl_elem_agg byteE H; rfl; rfl; rfl; infer_instance; infer_instance; (first | assumption | (simp only [Int.toNat_natCast]; assumption)); rfl; (conv => lhs; whnf); skip)
        | ((with_reducible refine is_load ?_); apply wl_elem byteE H; rfl; rfl; rfl; infer_instance; infer_instance; (first | assumption | (simp only [Int.toNat_natCast]; assumption)); (conv => lhs; whnf); skip))
    all_goals try (exfalso; omega)
    refine fin (k _ (diskHP_iff.2 ⟨v0, ?_⟩)) (by simp; try omega)
    rw [hc]
    exact H
end Go.Proofs.YtcdkaggdidfenaaGreatDoor
