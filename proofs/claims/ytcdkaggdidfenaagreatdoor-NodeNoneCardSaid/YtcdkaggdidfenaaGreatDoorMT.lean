/- A part of the proof: contracts of functions of the given program, and the laws on memory that they lean on. -/
import Derived.Test.YtcdkaggdidfenaaGreatDoorMS
set_option linter.all false

namespace Go.Proofs.YtcdkaggdidfenaaGreatDoor
open Go.RowKit Go.Proofs Go.SL St
set_option maxRecDepth 100000
variable {w w0 : World} {As r : List HP} {R : Ending → World → Prop}

def lifeRec : Rec := ⟨6, 0, 0, 0, 0, [], []⟩
@[reducible] def lifeV : RecV := ⟨6, 0, 0, 0, 0, ⟨.slice none 0 0, rfl⟩, ⟨.slice none 0 0, rfl⟩⟩
instance (priority := 1600) RdRecs.life {v : Value} : RdRecs (ownL recE 116 v [lifeV] :: As) v [lifeV] [lifeRec] := ⟨fun H => by
  refine ⟨ownL_read H, rfl, fun i x r hx hr => ?_⟩
  cases i with
  | zero => simp at hx hr; subst hx hr; exact ⟨rfl, .inl ⟨rfl, rfl⟩, .inl ⟨rfl, rfl⟩⟩
  | succ i => simp at hx⟩
def lifeB : List UInt8 := recB lifeRec
theorem layB_life : layB [lifeRec] = lifeB := by unfold layB lifeB; rw [if_pos (by decide +kernel)]; simp
theorem lifeB_len : lifeB.length = 64 := by decide +kernel
def ndBegun (c : Cfg) (id : Int) : Nd := { c := c, id := id, up := true, disk := ⟨lifeB, 0⟩, held := [], mach := .worker (wkNew c id []) }

set_option maxHeartbeats 4000000 in
/-- begin of a worker whose disk has no bytes. -/
theorem c160e {nb db : Nat} {cv : CfgV} {c : Cfg} {id : Int} {hv : Value}
    (H : Sat w0 w (.pt nb (.cells (ndCells cv c id true (.pointer (some ⟨db, 0, none⟩)) hv (.pointer none) (.pointer none)) 92 (0, 0)) :: jobHP cv c.job :: diskHP db {} :: As)) (hc : cfgMay c = true) (h0 : 1 ≤ id) (h1 : id ≤ c.workers)
    (k : ∀ wb w', Sat w0 w' (.pt nb (.cells (ndCells cv c id true (.pointer (some ⟨db, 0, none⟩)) hv (.pointer none) (.pointer (some ⟨wb, 0, none⟩))) 92 (0, 0)) :: jobHP cv c.job :: diskHP db ⟨lifeB, 0⟩ :: wkHP wb (wkNew c id []) :: As) → R (.returned (.tuple #[])) w') :
    Calls Tryz.prog 49 #[.pointer (some ⟨nb, 0, none⟩)] w R := by
  have hcut : ({} : Dk).cut 0 = {} := by unfold Dk.cut; simp
  have happ : ({} : Dk).append lifeB = ⟨lifeB, 0⟩ := rfl
  go_enter Tryz.func49, Tryz.ntmps49
  go_wp2_with (first
      | (go_at_call 26; refine c68 (d := {}) H (by simp) ?_; clear H; intro v w H; have hone := One1.mk (ownL_one H))
      | (go_at_call 27; refine c69e H ?_; clear H; intro w H)
      | (go_at_call 81; refine c254 (d := {}) H ?_; clear H; intro w H; rw [hcut] at H)
      | ((with_reducible refine is_end ?_); refine bodyPost_end (results_none rfl _ _ _) rfl ?_)
      | ((with_reducible refine is_ret ?_); refine bodyPost_ret (results_none rfl _ _ _) rfl ?_)
      | ((with_reducible refine is_load ?_); apply wl_load H; rfl; rfl; rfl; infer_instance; infer_instance; rfl; skip)
      | ((with_reducible refine is_load ?_); apply wl_load_agg H; rfl; rfl; rfl; infer_instance; infer_instance; (focus (simp; done)); (try simp only [cut, List.drop_zero, List.drop_succ_cons, List.take_succ_cons, List.take_zero]))
      | ((with_reducible refine is_store ?_); apply wl_store H; rfl; rfl; rfl; infer_instance; infer_instance; (focus (simp; done)); (conv => lhs; whnf); infer_instance; (clear H; intro w H; (try simp only [List.setIfInBounds_toArray, List.set_cons_zero, List.set_cons_succ] at H)))
      | ((with_reducible refine is_store ?_); apply wl_store_agg H; rfl; rfl; rfl; infer_instance; infer_instance; rfl; (conv => lhs; whnf); rfl; (first | (focus (simp; done)) | (simp; omega)); infer_instance; (clear H; intro w H; (try simp only [putAll, List.setIfInBounds_toArray, List.set_cons_zero, List.set_cons_succ] at H)))
      | ((with_reducible refine is_buildSlice ?_); apply wl_build1 recE H; rfl; rfl; (conv => lhs; whnf); infer_instance; infer_instance; (conv => lhs; whnf); infer_instance; (clear H; intro v w H; have hone := One1.mk (ownL_one H)))
      | ((with_reducible refine is_store ?_); apply wl_set recE H; rfl; rfl; rfl; infer_instance; infer_instance; (first | omega | (simp only [List.length_take, List.length_drop, List.length_append, List.length_cons, List.length_nil, List.length_replicate, List.length_set, Int.toNat_natCast]; omega)); (conv => lhs; whnf); infer_instance; (clear H; intro w H; (try simp only [Int.toNat_natCast] at H)))
      | ((with_reducible refine is_store ?_); apply wl_set_agg recE H; rfl; rfl; rfl; infer_instance; infer_instance; rfl; (first | omega | (simp only [List.length_take, List.length_drop, List.length_append, List.length_cons, List.length_nil, List.length_replicate, List.length_set, Int.toNat_natCast]; omega)); (conv => lhs; whnf); (conv => lhs; whnf); infer_instance; (clear H; intro w H; (try simp only [Int.toNat_natCast] at H)))
      | ((with_reducible refine is_load ?_); apply wl_elem_agg recE H; rfl; rfl; rfl; infer_instance; infer_instance; (first | assumption | (simp only [Int.toNat_natCast]; assumption)); rfl; (conv => lhs; whnf); skip)
      | ((with_reducible refine is_load ?_); apply wl_elem recE H; rfl; rfl; rfl; infer_instance; infer_instance; (first | assumption | (simp only [Int.toNat_natCast]; assumption)); (conv => lhs; whnf); skip))
  refine wp_draw [12, 18] (by kernel_rfl) ?_
  replace H := H.drew
  (refine G_pure (i := 0) (v := ?_) rfl (by kernel_rfl) rfl (fun w => ?_) ?_; rotate_left 1; (focus (go_simp; (try simp (disch := omega) only [IntWalk.i64_in]); (try with_reducible rfl))); (try simp only [Act.put, List.setIfInBounds_toArray, List.set_cons_zero, List.set_cons_succ, cut, List.drop_zero, List.drop_succ_cons, List.take_succ_cons, List.take_zero]))
  (refine G_pure (i := 1) (v := ?_) rfl (by kernel_rfl) rfl (fun w => ?_) ?_; rotate_left 1; (focus (go_simp; (try simp (disch := omega) only [IntWalk.i64_in]); (try with_reducible rfl))); (try simp only [Act.put, List.setIfInBounds_toArray, List.set_cons_zero, List.set_cons_succ, cut, List.drop_zero, List.drop_succ_cons, List.take_succ_cons, List.take_zero]))
  (refine G_pure (i := 2) (v := ?_) rfl (by kernel_rfl) rfl (fun w => ?_) ?_; rotate_left 1; (focus (go_simp; (try simp (disch := omega) only [IntWalk.i64_in]); (try with_reducible rfl))); (try simp only [Act.put, List.setIfInBounds_toArray, List.set_cons_zero, List.set_cons_succ, cut, List.drop_zero, List.drop_succ_cons, List.take_succ_cons, List.take_zero]))
  (refine G_pure (i := 3) (v := ?_) rfl (by kernel_rfl) rfl (fun w => ?_) ?_; rotate_left 1; (focus (go_simp; (try simp (disch := omega) only [IntWalk.i64_in]); (try with_reducible rfl))); (try simp only [Act.put, List.setIfInBounds_toArray, List.set_cons_zero, List.set_cons_succ, cut, List.drop_zero, List.drop_succ_cons, List.take_succ_cons, List.take_zero]))
  (refine G_pure (i := 4) (v := ?_) rfl (by kernel_rfl) rfl (fun w => ?_) ?_; rotate_left 1; (focus (go_simp; (try simp (disch := omega) only [IntWalk.i64_in]); (try with_reducible rfl))); (try simp only [Act.put, List.setIfInBounds_toArray, List.set_cons_zero, List.set_cons_succ, cut, List.drop_zero, List.drop_succ_cons, List.take_succ_cons, List.take_zero]))
  first
    | (apply G_load (i := 5) H; rfl; kernel_rfl; rfl; rfl; rfl; infer_instance; infer_instance; rfl; (try simp only [Act.put, List.setIfInBounds_toArray, List.set_cons_zero, List.set_cons_succ, cut, List.drop_zero, List.drop_succ_cons, List.take_succ_cons, List.take_zero]))
    | (apply G_load_agg (i := 5) H; rfl; kernel_rfl; rfl; rfl; rfl; infer_instance; infer_instance; (focus (simp; done)); (try simp only [Act.put, List.setIfInBounds_toArray, List.set_cons_zero, List.set_cons_succ, cut, List.drop_zero, List.drop_succ_cons, List.take_succ_cons, List.take_zero]))
  (refine G_pure (i := 6) (v := ?_) rfl (by kernel_rfl) rfl (fun w => ?_) ?_; rotate_left 1; (focus (go_simp; (try simp (disch := omega) only [IntWalk.i64_in]); (try with_reducible rfl))); (try simp only [Act.put, List.setIfInBounds_toArray, List.set_cons_zero, List.set_cons_succ, cut, List.drop_zero, List.drop_succ_cons, List.take_succ_cons, List.take_zero]))
  (refine G_pure (i := 7) (v := ?_) rfl (by kernel_rfl) rfl (fun w => ?_) ?_; rotate_left 1; (focus (go_simp; (try simp (disch := omega) only [IntWalk.i64_in]); (try with_reducible rfl))); (try simp only [Act.put, List.setIfInBounds_toArray, List.set_cons_zero, List.set_cons_succ, cut, List.drop_zero, List.drop_succ_cons, List.take_succ_cons, List.take_zero]))
  (refine G_pure (i := 8) (v := ?_) rfl (by kernel_rfl) rfl (fun w => ?_) ?_; rotate_left 1; (focus (go_simp; (try simp (disch := omega) only [IntWalk.i64_in]); (try with_reducible rfl))); (try simp only [Act.put, List.setIfInBounds_toArray, List.set_cons_zero, List.set_cons_succ, cut, List.drop_zero, List.drop_succ_cons, List.take_succ_cons, List.take_zero]))
  (refine G_pure (i := 9) (v := ?_) rfl (by kernel_rfl) rfl (fun w => ?_) ?_; rotate_left 1; (focus (go_simp; (try simp (disch := omega) only [IntWalk.i64_in]); (try with_reducible rfl))); (try simp only [Act.put, List.setIfInBounds_toArray, List.set_cons_zero, List.set_cons_succ, cut, List.drop_zero, List.drop_succ_cons, List.take_succ_cons, List.take_zero]))
  first
    | (apply G_load (i := 10) H; rfl; kernel_rfl; rfl; rfl; rfl; infer_instance; infer_instance; rfl; (try simp only [Act.put, List.setIfInBounds_toArray, List.set_cons_zero, List.set_cons_succ, cut, List.drop_zero, List.drop_succ_cons, List.take_succ_cons, List.take_zero]))
    | (apply G_load_agg (i := 10) H; rfl; kernel_rfl; rfl; rfl; rfl; infer_instance; infer_instance; (focus (simp; done)); (try simp only [Act.put, List.setIfInBounds_toArray, List.set_cons_zero, List.set_cons_succ, cut, List.drop_zero, List.drop_succ_cons, List.take_succ_cons, List.take_zero]))
  (refine G_pure (i := 11) (v := ?_) rfl (by kernel_rfl) rfl (fun w => ?_) ?_; rotate_left 1; (focus (go_simp; (try simp (disch := omega) only [IntWalk.i64_in]); (try with_reducible rfl))); (try simp only [Act.put, List.setIfInBounds_toArray, List.set_cons_zero, List.set_cons_succ, cut, List.drop_zero, List.drop_succ_cons, List.take_succ_cons, List.take_zero]))
  refine G_main (i := 12) (is := [10, 5]) (bs := [false, false]) rfl (by kernel_rfl) rfl (by kernel_rfl) rfl ?_
  go_wp2_with (first
    | (go_at_call 83; refine c30q (cv := cv) (c := c) (rs := []) H hc h0 h1 (by simp) (by simp) ?_; clear H; intro wb w H)
    | ((with_reducible refine is_load ?_); apply wl_elem_agg recE H; rfl; rfl; rfl; infer_instance; infer_instance; (first | assumption | (simp only [Int.toNat_natCast]; assumption)); rfl; (conv => lhs; whnf); skip)
    | ((with_reducible refine is_load ?_); apply wl_elem recE H; rfl; rfl; rfl; infer_instance; infer_instance; (first | assumption | (simp only [Int.toNat_natCast]; assumption)); (conv => lhs; whnf); skip))
  refine postM_intro ?_
  refine ⟨trivial, ?_⟩
  try (try simp only [Act.put, List.setIfInBounds_toArray, List.set_cons_zero, List.set_cons_succ, cut, List.drop_zero, List.drop_succ_cons, List.take_succ_cons, List.take_zero])
  (refine G_pure (i := 13) (v := ?_) rfl (by kernel_rfl) rfl (fun w => ?_) ?_; rotate_left 1; (focus (go_simp; (try simp (disch := omega) only [IntWalk.i64_in]); (try with_reducible rfl))); (try simp only [Act.put, List.setIfInBounds_toArray, List.set_cons_zero, List.set_cons_succ, cut, List.drop_zero, List.drop_succ_cons, List.take_succ_cons, List.take_zero]))
  (refine G_pure (i := 14) (v := ?_) rfl (by kernel_rfl) rfl (fun w => ?_) ?_; rotate_left 1; (focus (go_simp; (try simp (disch := omega) only [IntWalk.i64_in]); (try with_reducible rfl))); (try simp only [Act.put, List.setIfInBounds_toArray, List.set_cons_zero, List.set_cons_succ, cut, List.drop_zero, List.drop_succ_cons, List.take_succ_cons, List.take_zero]))
  (refine G_pure (i := 15) (v := ?_) rfl (by kernel_rfl) rfl (fun w => ?_) ?_; rotate_left 1; (focus (go_simp; (try simp (disch := omega) only [IntWalk.i64_in]); (try with_reducible rfl))); (try simp only [Act.put, List.setIfInBounds_toArray, List.set_cons_zero, List.set_cons_succ, cut, List.drop_zero, List.drop_succ_cons, List.take_succ_cons, List.take_zero]))
  (refine G_pure (i := 16) (v := ?_) rfl (by kernel_rfl) rfl (fun w => ?_) ?_; rotate_left 1; (focus (go_simp; (try simp (disch := omega) only [IntWalk.i64_in]); (try with_reducible rfl))); (try simp only [Act.put, List.setIfInBounds_toArray, List.set_cons_zero, List.set_cons_succ, cut, List.drop_zero, List.drop_succ_cons, List.take_succ_cons, List.take_zero]))
  (refine G_pure (i := 17) (v := ?_) rfl (by kernel_rfl) rfl (fun w => ?_) ?_; rotate_left 1; (focus (go_simp; (try simp (disch := omega) only [IntWalk.i64_in]); (try with_reducible rfl))); (try simp only [Act.put, List.setIfInBounds_toArray, List.set_cons_zero, List.set_cons_succ, cut, List.drop_zero, List.drop_succ_cons, List.take_succ_cons, List.take_zero]))
  refine G_main (i := 18) (is := []) (bs := []) rfl (by kernel_rfl) rfl (by kernel_rfl) rfl ?_
  go_wp2_with (first
    | (go_at_call 83; refine c30q (cv := cv) (c := c) (rs := []) H hc h0 h1 (by simp) (by simp) ?_; clear H; intro wb w H)
    | ((with_reducible refine is_store ?_); apply wl_store H; rfl; rfl; rfl; infer_instance; infer_instance; (focus (simp; done)); (conv => lhs; whnf); infer_instance; (clear H; intro w H; (try simp only [List.setIfInBounds_toArray, List.set_cons_zero, List.set_cons_succ] at H)))
    | ((with_reducible refine is_store ?_); apply wl_store_agg H; rfl; rfl; rfl; infer_instance; infer_instance; rfl; (conv => lhs; whnf); rfl; (first | (focus (simp; done)) | (simp; omega)); infer_instance; (clear H; intro w H; (try simp only [putAll, List.setIfInBounds_toArray, List.set_cons_zero, List.set_cons_succ] at H)))
    | ((with_reducible refine is_store ?_); apply wl_set recE H; rfl; rfl; rfl; infer_instance; infer_instance; (first | omega | (simp only [List.length_take, List.length_drop, List.length_append, List.length_cons, List.length_nil, List.length_replicate, List.length_set, Int.toNat_natCast]; omega)); (conv => lhs; whnf); infer_instance; (clear H; intro w H; (try simp only [Int.toNat_natCast] at H)))
    | ((with_reducible refine is_store ?_); apply wl_set_agg recE H; rfl; rfl; rfl; infer_instance; infer_instance; rfl; (first | omega | (simp only [List.length_take, List.length_drop, List.length_append, List.length_cons, List.length_nil, List.length_replicate, List.length_set, Int.toNat_natCast]; omega)); (conv => lhs; whnf); (conv => lhs; whnf); infer_instance; (clear H; intro w H; (try simp only [Int.toNat_natCast] at H)))
    | ((with_reducible refine is_load ?_); apply wl_elem_agg recE H; rfl; rfl; rfl; infer_instance; infer_instance; (first | assumption | (simp only [Int.toNat_natCast]; assumption)); rfl; (conv => lhs; whnf); skip)
    | ((with_reducible refine is_load ?_); apply wl_elem recE H; rfl; rfl; rfl; infer_instance; infer_instance; (first | assumption | (simp only [Int.toNat_natCast]; assumption)); (conv => lhs; whnf); skip))
  refine postM_intro ?_
  refine ⟨trivial, ?_⟩
  try (try simp only [Act.put, List.setIfInBounds_toArray, List.set_cons_zero, List.set_cons_succ, cut, List.drop_zero, List.drop_succ_cons, List.take_succ_cons, List.take_zero])
  refine G_done (by kernel_rfl) ?_
  go_wp2_with (first
      | ((with_reducible refine is_end ?_); refine bodyPost_end (results_none rfl _ _ _) rfl ?_)
      | ((with_reducible refine is_ret ?_); refine bodyPost_ret (results_none rfl _ _ _) rfl ?_)
      | ((with_reducible refine is_load ?_); apply wl_load H; rfl; rfl; rfl; infer_instance; infer_instance; rfl; skip)
      | ((with_reducible refine is_load ?_); apply wl_load_agg H; rfl; rfl; rfl; infer_instance; infer_instance; (focus (simp; done)); (try simp only [cut, List.drop_zero, List.drop_succ_cons, List.take_succ_cons, List.take_zero]))
      | ((with_reducible refine is_store ?_); apply wl_store H; rfl; rfl; rfl; infer_instance; infer_instance; (focus (simp; done)); (conv => lhs; whnf); infer_instance; (clear H; intro w H; (try simp only [List.setIfInBounds_toArray, List.set_cons_zero, List.set_cons_succ] at H)))
      | ((with_reducible refine is_store ?_); apply wl_store_agg H; rfl; rfl; rfl; infer_instance; infer_instance; rfl; (conv => lhs; whnf); rfl; (first | (focus (simp; done)) | (simp; omega)); infer_instance; (clear H; intro w H; (try simp only [putAll, List.setIfInBounds_toArray, List.set_cons_zero, List.set_cons_succ] at H)))
      | ((with_reducible refine is_buildSlice ?_); apply wl_build1 recE H; rfl; rfl; (conv => lhs; whnf); infer_instance; infer_instance; (conv => lhs; whnf); infer_instance; (clear H; intro v w H; have hone := One1.mk (ownL_one H)))
      | ((with_reducible refine is_store ?_); apply wl_set recE H; rfl; rfl; rfl; infer_instance; infer_instance; (first | omega | (simp only [List.length_take, List.length_drop, List.length_append, List.length_cons, List.length_nil, List.length_replicate, List.length_set, Int.toNat_natCast]; omega)); (conv => lhs; whnf); infer_instance; (clear H; intro w H; (try simp only [Int.toNat_natCast] at H)))
      | ((with_reducible refine is_store ?_); apply wl_set_agg recE H; rfl; rfl; rfl; infer_instance; infer_instance; rfl; (first | omega | (simp only [List.length_take, List.length_drop, List.length_append, List.length_cons, List.length_nil, List.length_replicate, List.length_set, Int.toNat_natCast]; omega)); (conv => lhs; whnf); (conv => lhs; whnf); infer_instance; (clear H; intro w H; (try simp only [Int.toNat_natCast] at H)))
      | ((with_reducible refine is_load ?_); apply wl_elem_agg recE H; rfl; rfl; rfl; infer_instance; infer_instance; (first | assumption | (simp only [Int.toNat_natCast]; assumption)); rfl; (conv => lhs; whnf); skip)
      | ((with_reducible refine is_load ?_); apply wl_elem recE H; rfl; rfl; rfl; infer_instance; infer_instance; (first | assumption | (simp only [Int.toNat_natCast]; assumption)); (conv => lhs; whnf); skip))
  refine wp_draw [6, 7, 8] (by kernel_rfl) ?_
  replace H := H.drew
  (refine G_pure (i := 0) (v := ?_) rfl (by kernel_rfl) rfl (fun w => ?_) ?_; rotate_left 1; (focus (go_simp; (try simp (disch := omega) only [IntWalk.i64_in]); (try with_reducible rfl))); (try simp only [Act.put, List.setIfInBounds_toArray, List.set_cons_zero, List.set_cons_succ, cut, List.drop_zero, List.drop_succ_cons, List.take_succ_cons, List.take_zero]))
  (refine G_pure (i := 1) (v := ?_) rfl (by kernel_rfl) rfl (fun w => ?_) ?_; rotate_left 1; (focus (go_simp; (try simp (disch := omega) only [IntWalk.i64_in]); (try with_reducible rfl))); (try simp only [Act.put, List.setIfInBounds_toArray, List.set_cons_zero, List.set_cons_succ, cut, List.drop_zero, List.drop_succ_cons, List.take_succ_cons, List.take_zero]))
  (refine G_pure (i := 2) (v := ?_) rfl (by kernel_rfl) rfl (fun w => ?_) ?_; rotate_left 1; (focus (go_simp; (try simp (disch := omega) only [IntWalk.i64_in]); (try with_reducible rfl))); (try simp only [Act.put, List.setIfInBounds_toArray, List.set_cons_zero, List.set_cons_succ, cut, List.drop_zero, List.drop_succ_cons, List.take_succ_cons, List.take_zero]))
  (refine G_pure (i := 3) (v := ?_) rfl (by kernel_rfl) rfl (fun w => ?_) ?_; rotate_left 1; (focus (go_simp; (try simp (disch := omega) only [IntWalk.i64_in]); (try with_reducible rfl))); (try simp only [Act.put, List.setIfInBounds_toArray, List.set_cons_zero, List.set_cons_succ, cut, List.drop_zero, List.drop_succ_cons, List.take_succ_cons, List.take_zero]))
  first
    | (apply G_load (i := 4) H; rfl; kernel_rfl; rfl; rfl; rfl; infer_instance; infer_instance; rfl; (try simp only [Act.put, List.setIfInBounds_toArray, List.set_cons_zero, List.set_cons_succ, cut, List.drop_zero, List.drop_succ_cons, List.take_succ_cons, List.take_zero]))
    | (apply G_load_agg (i := 4) H; rfl; kernel_rfl; rfl; rfl; rfl; infer_instance; infer_instance; (focus (simp; done)); (try simp only [Act.put, List.setIfInBounds_toArray, List.set_cons_zero, List.set_cons_succ, cut, List.drop_zero, List.drop_succ_cons, List.take_succ_cons, List.take_zero]))
    | (apply G_elem_agg (i := 4) recE H; rfl; kernel_rfl; rfl; rfl; rfl; infer_instance; infer_instance; (first | assumption | (simp only [Int.toNat_natCast]; assumption)); rfl; (conv => lhs; whnf); (try simp only [Act.put, List.setIfInBounds_toArray, List.set_cons_zero, List.set_cons_succ, cut, List.drop_zero, List.drop_succ_cons, List.take_succ_cons, List.take_zero]))
    | (apply G_elem (i := 4) recE H; rfl; kernel_rfl; rfl; rfl; rfl; infer_instance; infer_instance; (first | assumption | (simp only [Int.toNat_natCast]; assumption)); rfl; (try simp only [Act.put, List.setIfInBounds_toArray, List.set_cons_zero, List.set_cons_succ, cut, List.drop_zero, List.drop_succ_cons, List.take_succ_cons, List.take_zero]))
  (refine G_pure (i := 5) (v := ?_) rfl (by kernel_rfl) rfl (fun w => ?_) ?_; rotate_left 1; (focus (go_simp; (try simp (disch := omega) only [IntWalk.i64_in]); (try with_reducible rfl))); (try simp only [Act.put, List.setIfInBounds_toArray, List.set_cons_zero, List.set_cons_succ, cut, List.drop_zero, List.drop_succ_cons, List.take_succ_cons, List.take_zero]))
  refine G_main (i := 6) (is := [4]) (bs := [true]) rfl (by kernel_rfl) rfl (by kernel_rfl) rfl ?_
  go_wp2_with (first
    | (go_at_call 85; refine c257 (rs := [lifeRec]) H (by simp) ?_; clear H; intro v w H; rw [layB_life] at H)
    | (go_at_call 84; refine c256 (d := {}) (l := lifeB) H (by rw [lifeB_len]; simp) ?_; clear H; intro w H; rw [happ] at H)
    | ((with_reducible refine is_buildSlice ?_); apply wl_build1 recE H; rfl; rfl; (conv => lhs; whnf); infer_instance; infer_instance; (conv => lhs; whnf); infer_instance; (clear H; intro v w H; have hone := One1.mk (ownL_one H)))
    | ((with_reducible refine is_load ?_); apply wl_elem_agg recE H; rfl; rfl; rfl; infer_instance; infer_instance; (first | assumption | (simp only [Int.toNat_natCast]; assumption)); rfl; (conv => lhs; whnf); skip)
    | ((with_reducible refine is_load ?_); apply wl_elem recE H; rfl; rfl; rfl; infer_instance; infer_instance; (first | assumption | (simp only [Int.toNat_natCast]; assumption)); (conv => lhs; whnf); skip))
  refine postM_intro ?_
  refine ⟨And.intro (by first | exact chk1 inferInstance H rfl | exact chkv inferInstance H | exact chkn inferInstance H rfl) (trivial), ?_⟩
  try (try simp only [Act.put, List.setIfInBounds_toArray, List.set_cons_zero, List.set_cons_succ, cut, List.drop_zero, List.drop_succ_cons, List.take_succ_cons, List.take_zero])
  refine G_main (i := 7) (is := [4]) (bs := [true]) rfl (by kernel_rfl) rfl (by kernel_rfl) rfl ?_
  go_wp2_with (first
    | (go_at_call 85; refine c257 (rs := [lifeRec]) H (by simp) ?_; clear H; intro v w H; rw [layB_life] at H)
    | (go_at_call 84; refine c256 (d := {}) (l := lifeB) H (by rw [lifeB_len]; simp) ?_; clear H; intro w H; rw [happ] at H)
    | ((with_reducible refine is_load ?_); apply wl_elem_agg recE H; rfl; rfl; rfl; infer_instance; infer_instance; (first | assumption | (simp only [Int.toNat_natCast]; assumption)); rfl; (conv => lhs; whnf); skip)
    | ((with_reducible refine is_load ?_); apply wl_elem recE H; rfl; rfl; rfl; infer_instance; infer_instance; (first | assumption | (simp only [Int.toNat_natCast]; assumption)); (conv => lhs; whnf); skip))
  refine postM_intro ?_
  refine ⟨And.intro (by first | exact chk1 inferInstance H rfl | exact chkv inferInstance H | exact chkn inferInstance H rfl) (trivial), ?_⟩
  try (try simp only [Act.put, List.setIfInBounds_toArray, List.set_cons_zero, List.set_cons_succ, cut, List.drop_zero, List.drop_succ_cons, List.take_succ_cons, List.take_zero])
  refine G_main (i := 8) (is := [4]) (bs := [false]) rfl (by kernel_rfl) rfl (by kernel_rfl) rfl ?_
  go_wp2_with (first
    | (go_at_call 85; refine c257 (rs := [lifeRec]) H (by simp) ?_; clear H; intro v w H; rw [layB_life] at H)
    | (go_at_call 84; refine c256 (d := {}) (l := lifeB) H (by rw [lifeB_len]; simp) ?_; clear H; intro w H; rw [happ] at H)
    | ((with_reducible refine is_load ?_); apply wl_elem_agg recE H; rfl; rfl; rfl; infer_instance; infer_instance; (first | assumption | (simp only [Int.toNat_natCast]; assumption)); rfl; (conv => lhs; whnf); skip)
    | ((with_reducible refine is_load ?_); apply wl_elem recE H; rfl; rfl; rfl; infer_instance; infer_instance; (first | assumption | (simp only [Int.toNat_natCast]; assumption)); (conv => lhs; whnf); skip))
  refine postM_intro ?_
  refine ⟨trivial, ?_⟩
  try (try simp only [Act.put, List.setIfInBounds_toArray, List.set_cons_zero, List.set_cons_succ, cut, List.drop_zero, List.drop_succ_cons, List.take_succ_cons, List.take_zero])
  refine G_done (by kernel_rfl) ?_
  go_wp2_with (first
      | ((with_reducible refine is_end ?_); refine bodyPost_end (results_none rfl _ _ _) rfl ?_)
      | ((with_reducible refine is_ret ?_); refine bodyPost_ret (results_none rfl _ _ _) rfl ?_)
      | ((with_reducible refine is_load ?_); apply wl_load H; rfl; rfl; rfl; infer_instance; infer_instance; rfl; skip)
      | ((with_reducible refine is_load ?_); apply wl_load_agg H; rfl; rfl; rfl; infer_instance; infer_instance; (focus (simp; done)); (try simp only [cut, List.drop_zero, List.drop_succ_cons, List.take_succ_cons, List.take_zero]))
      | ((with_reducible refine is_store ?_); apply wl_store H; rfl; rfl; rfl; infer_instance; infer_instance; (focus (simp; done)); (conv => lhs; whnf); infer_instance; (clear H; intro w H; (try simp only [List.setIfInBounds_toArray, List.set_cons_zero, List.set_cons_succ] at H)))
      | ((with_reducible refine is_store ?_); apply wl_store_agg H; rfl; rfl; rfl; infer_instance; infer_instance; rfl; (conv => lhs; whnf); rfl; (first | (focus (simp; done)) | (simp; omega)); infer_instance; (clear H; intro w H; (try simp only [putAll, List.setIfInBounds_toArray, List.set_cons_zero, List.set_cons_succ] at H)))
      | ((with_reducible refine is_buildSlice ?_); apply wl_build1 recE H; rfl; rfl; (conv => lhs; whnf); infer_instance; infer_instance; (conv => lhs; whnf); infer_instance; (clear H; intro v w H; have hone := One1.mk (ownL_one H)))
      | ((with_reducible refine is_store ?_); apply wl_set recE H; rfl; rfl; rfl; infer_instance; infer_instance; (first | omega | (simp only [List.length_take, List.length_drop, List.length_append, List.length_cons, List.length_nil, List.length_replicate, List.length_set, Int.toNat_natCast]; omega)); (conv => lhs; whnf); infer_instance; (clear H; intro w H; (try simp only [Int.toNat_natCast] at H)))
      | ((with_reducible refine is_store ?_); apply wl_set_agg recE H; rfl; rfl; rfl; infer_instance; infer_instance; rfl; (first | omega | (simp only [List.length_take, List.length_drop, List.length_append, List.length_cons, List.length_nil, List.length_replicate, List.length_set, Int.toNat_natCast]; omega)); (conv => lhs; whnf); (conv => lhs; whnf); infer_instance; (clear H; intro w H; (try simp only [Int.toNat_natCast] at H)))
      | ((with_reducible refine is_load ?_); apply wl_elem_agg recE H; rfl; rfl; rfl; infer_instance; infer_instance; (first | assumption | (simp only [Int.toNat_natCast]; assumption)); rfl; (conv => lhs; whnf); skip)
      | ((with_reducible refine is_load ?_); apply wl_elem recE H; rfl; rfl; rfl; infer_instance; infer_instance; (first | assumption | (simp only [Int.toNat_natCast]; assumption)); (conv => lhs; whnf); skip))
  exact k wb _ H.ent

set_option maxHeartbeats 4000000 in
/-- New of a worker. -/
theorem c54q {c : Cfg} {id : Int} {cv : CfgV} [hr : RdJob As cv c.job] (H : Sat w0 w As) (hc : cfgMay c = true) (h0 : 1 ≤ id) (h1 : id ≤ c.workers)
    (k : ∀ b w', Sat w0 w' (ndHP b (ndBegun c id) :: As) → R (.returned (.tuple #[.pointer (some ⟨b, 0, none⟩), .int .i64 0])) w') :
    Calls Tryz.prog 11 #[.agg #[cv.splits, .int .i64 c.job.parts, cv.map, cv.combine, cv.reduce, .int .i64 c.job.chunk, .int .i64 c.job.window, .int .i64 c.job.fuel, cv.marks, .int .i64 c.workers, .int .i64 c.tries, .int .i64 c.timeout], .int .i64 id] w R := by
  have hok := cfgMay_ok hc
  have hfit : Fits cv c.job := CfgOk.fits hok
  have hw2 := hok.w2
  go_enter Tryz.func11, Tryz.ntmps11
  go_wp2_with (first
      | (go_at_call 9; refine c52 (cv := cv) (c := c) H ?_; clear H; intro w H; rw [hc])
      | (go_at_call 47; refine c125 (cv := cv) (c := c) H hfit ?_; clear H; intro cv' w H)
      | (go_at_call 48; refine c159 H ?_; clear H; intro db w H)
      | (go_at_call 49; refine c160e (nb := b) (db := db) (hv := .slice none 0 0) (cv := cv') (c := c) (id := id) (As := As) H.ent hc h0 h1 ?_; clear H; intro wb w H)
      | ((with_reducible refine is_box ?_); apply wl_box H; rfl; rfl; (conv => lhs; whnf); (conv => lhs; whnf); (clear H; intro b w H))
      | ((with_reducible refine is_load ?_); apply wl_load H; rfl; rfl; rfl; infer_instance; infer_instance; rfl; skip)
      | ((with_reducible refine is_load ?_); apply wl_load_agg H; rfl; rfl; rfl; infer_instance; infer_instance; (focus (simp; done)); (try simp only [cut, List.drop_zero, List.drop_succ_cons, List.take_succ_cons, List.take_zero])))
  have H1 : Sat w0 w (ndHP b (ndBegun c id) :: As) := ndHP_iff.2 ⟨⟨cv', db, .slice none 0 0, wb⟩, by
    show Sat w0 w (.pt b (.cells (ndCells cv' c id true (.pointer (some ⟨db, 0, none⟩)) (.slice none 0 0) (.pointer none) (.pointer (some ⟨wb, 0, none⟩))) 92 (0, 0)) :: jobHP cv' c.job :: diskHP db ⟨lifeB, 0⟩ :: ltrsHP (.slice none 0 0) [] :: wkHP wb (wkNew c id []) :: As)
    exact (ltrsHP_nil H).ent⟩
  first | exact k _ _ H1 | exact H1

/-! ### what a node tells of itself -/
section
variable {b : Nat} {n : Nd}
set_option maxHeartbeats 1000000 in
theorem c64 [hr : HasR (ndHP b) As n r] (H : Sat w0 w As) (k : ∀ w', Sat w0 w' As → R (.returned (.bool n.up)) w') : Calls Tryz.prog 22 #[.pointer (some ⟨b, 0, none⟩)] w R := by
  have H0 := Lib.hid H
  obtain ⟨q, H⟩ := ndHP_iff.1 (H.perm hr.perm)
  go_enter Tryz.func22, Tryz.ntmps22
  go_wp2_with (first
      | ((with_reducible refine is_ret ?_); apply ret_tmp1; rfl; rfl; (conv => lhs; whnf); skip)
      | ((with_reducible refine is_load ?_); apply wl_load H; rfl; rfl; rfl; infer_instance; infer_instance; rfl; skip)
      | ((with_reducible refine is_load ?_); apply wl_load_agg H; rfl; rfl; rfl; infer_instance; infer_instance; (focus (simp; done)); (try simp only [cut, List.drop_zero, List.drop_succ_cons, List.take_succ_cons, List.take_zero])))
  first | exact H0.out | exact k _ H0.out
theorem c64nil (H : Sat w0 w As) (k : ∀ w', Sat w0 w' As → R (.returned (.bool false)) w') : Calls Tryz.prog 22 #[.pointer none] w R := by
  go_enter Tryz.func22, Tryz.ntmps22
  go_wp2_with (first
      | ((with_reducible refine is_ret ?_); apply ret_tmp1; rfl; rfl; (conv => lhs; whnf); skip)
      | ((with_reducible refine is_load ?_); apply wl_load H; rfl; rfl; rfl; infer_instance; infer_instance; rfl; skip)
      | ((with_reducible refine is_load ?_); apply wl_load_agg H; rfl; rfl; rfl; infer_instance; infer_instance; (focus (simp; done)); (try simp only [cut, List.drop_zero, List.drop_succ_cons, List.take_succ_cons, List.take_zero])))
  first | exact H.ent | exact k _ H.ent
set_option maxHeartbeats 1000000 in
theorem c67 [hr : HasR (ndHP b) As n r] (H : Sat w0 w As) (k : ∀ w', Sat w0 w' As → R (.returned (.int .i64 n.held.length)) w') : Calls Tryz.prog 25 #[.pointer (some ⟨b, 0, none⟩)] w R := by
  have H0 := Lib.hid H
  obtain ⟨q, H⟩ := ndHP_iff.1 (H.perm hr.perm)
  obtain ⟨xs, H⟩ := ltrsHP_iff.1 (H.pull (ltrsHP q.hv n.held))
  rw [← ownZ_len H.drop] at k
  go_enter Tryz.func25, Tryz.ntmps25
  go_wp2_with (first
      | ((with_reducible refine is_ret ?_); apply ret_tmp1; rfl; rfl; (conv => lhs; whnf); skip)
      | ((with_reducible refine is_load ?_); apply wl_load H; rfl; rfl; rfl; infer_instance; infer_instance; rfl; skip)
      | ((with_reducible refine is_load ?_); apply wl_load_agg H; rfl; rfl; rfl; infer_instance; infer_instance; (focus (simp; done)); (try simp only [cut, List.drop_zero, List.drop_succ_cons, List.take_succ_cons, List.take_zero]))
      | ((with_reducible refine is_len ?_); apply wl_len ltrE H; rfl; rfl; (conv => lhs; whnf); infer_instance; infer_instance; skip)
      | ((with_reducible refine is_load ?_); apply wl_elem_agg ltrE H; rfl; rfl; rfl; infer_instance; infer_instance; (first | assumption | (simp only [Int.toNat_natCast]; assumption)); rfl; (conv => lhs; whnf); skip)
      | ((with_reducible refine is_load ?_); apply wl_elem ltrE H; rfl; rfl; rfl; infer_instance; infer_instance; (first | assumption | (simp only [Int.toNat_natCast]; assumption)); (conv => lhs; whnf); skip))
  first | exact H0.out | exact k _ H0.out
theorem c67nil (H : Sat w0 w As) (k : ∀ w', Sat w0 w' As → R (.returned (.int .i64 0)) w') : Calls Tryz.prog 25 #[.pointer none] w R := by
  go_enter Tryz.func25, Tryz.ntmps25
  go_wp2_with (first
      | ((with_reducible refine is_ret ?_); apply ret_tmp1; rfl; rfl; (conv => lhs; whnf); skip)
      | ((with_reducible refine is_load ?_); apply wl_load H; rfl; rfl; rfl; infer_instance; infer_instance; rfl; skip)
      | ((with_reducible refine is_load ?_); apply wl_load_agg H; rfl; rfl; rfl; infer_instance; infer_instance; (focus (simp; done)); (try simp only [cut, List.drop_zero, List.drop_succ_cons, List.take_succ_cons, List.take_zero]))
      | ((with_reducible refine is_len ?_); apply wl_len ltrE H; rfl; rfl; (conv => lhs; whnf); infer_instance; infer_instance; skip)
      | ((with_reducible refine is_load ?_); apply wl_elem_agg ltrE H; rfl; rfl; rfl; infer_instance; infer_instance; (first | assumption | (simp only [Int.toNat_natCast]; assumption)); rfl; (conv => lhs; whnf); skip)
      | ((with_reducible refine is_load ?_); apply wl_elem ltrE H; rfl; rfl; rfl; infer_instance; infer_instance; (first | assumption | (simp only [Int.toNat_natCast]; assumption)); (conv => lhs; whnf); skip))
  first | exact H.ent | exact k _ H.ent
theorem c65nil (H : Sat w0 w As) (k : ∀ w', Sat w0 w' As → R (.returned (.pointer none)) w') : Calls Tryz.prog 23 #[.pointer none] w R := by
  go_enter Tryz.func23, Tryz.ntmps23
  go_wp2_with (first
      | ((with_reducible refine is_ret ?_); apply ret_tmp1; rfl; rfl; (conv => lhs; whnf); skip)
      | ((with_reducible refine is_load ?_); apply wl_load H; rfl; rfl; rfl; infer_instance; infer_instance; rfl; skip)
      | ((with_reducible refine is_load ?_); apply wl_load_agg H; rfl; rfl; rfl; infer_instance; infer_instance; (focus (simp; done)); (try simp only [cut, List.drop_zero, List.drop_succ_cons, List.take_succ_cons, List.take_zero])))
  first | exact H.ent | exact k _ H.ent
theorem c74nil (H : Sat w0 w As) (k : ∀ w', Sat w0 w' As → R (.returned (.pointer none)) w') : Calls Tryz.prog 29 #[.pointer none] w R := by
  go_enter Tryz.func29, Tryz.ntmps29
  go_wp2_with (first
      | ((with_reducible refine is_ret ?_); apply ret_tmp1; rfl; rfl; (conv => lhs; whnf); skip)
      | ((with_reducible refine is_load ?_); apply wl_load H; rfl; rfl; rfl; infer_instance; infer_instance; rfl; skip)
      | ((with_reducible refine is_load ?_); apply wl_load_agg H; rfl; rfl; rfl; infer_instance; infer_instance; (focus (simp; done)); (try simp only [cut, List.drop_zero, List.drop_succ_cons, List.take_succ_cons, List.take_zero])))
  first | exact H.ent | exact k _ H.ent
theorem c56nil (H : Sat w0 w As) (k : ∀ w', Sat w0 w' As → R (.returned (.pointer none)) w') : Calls Tryz.prog 13 #[.pointer none] w R := by
  go_enter Tryz.func13, Tryz.ntmps13
  go_wp2_with (first
      | ((with_reducible refine is_ret ?_); apply ret_tmp1; rfl; rfl; (conv => lhs; whnf); skip)
      | ((with_reducible refine is_load ?_); apply wl_load H; rfl; rfl; rfl; infer_instance; infer_instance; rfl; skip)
      | ((with_reducible refine is_load ?_); apply wl_load_agg H; rfl; rfl; rfl; infer_instance; infer_instance; (focus (simp; done)); (try simp only [cut, List.drop_zero, List.drop_succ_cons, List.take_succ_cons, List.take_zero])))
  first | exact H.ent | exact k _ H.ent
set_option maxHeartbeats 1000000 in
/-- The disk: a pointer to it, and it apart from the node. -/
theorem c65 [hr : HasR (ndHP b) As n r] (H : Sat w0 w As) (k : ∀ (q : NdV) w', Sat w0 w' (.pt b (.cells (ndCells q.cv n.c n.id n.up (.pointer (some ⟨q.db, 0, none⟩)) q.hv (Mach.mp q.mb n.mach) (Mach.wp q.mb n.mach)) 92 (0, 0)) ::
    jobHP q.cv n.c.job :: diskHP q.db n.disk :: ltrsHP q.hv n.held :: machHP q.mb n.mach :: r) → R (.returned (.pointer (some ⟨q.db, 0, none⟩))) w') : Calls Tryz.prog 23 #[.pointer (some ⟨b, 0, none⟩)] w R := by
  obtain ⟨q, H⟩ := ndHP_iff.1 (H.perm hr.perm)
  have H0 := Lib.hid H
  have K := Lib.hid (k q)
  clear k
  go_enter Tryz.func23, Tryz.ntmps23
  go_wp2_with (first
      | ((with_reducible refine is_ret ?_); apply ret_tmp1; rfl; rfl; (conv => lhs; whnf); skip)
      | ((with_reducible refine is_load ?_); apply wl_load H; rfl; rfl; rfl; infer_instance; infer_instance; rfl; skip)
      | ((with_reducible refine is_load ?_); apply wl_load_agg H; rfl; rfl; rfl; infer_instance; infer_instance; (focus (simp; done)); (try simp only [cut, List.drop_zero, List.drop_succ_cons, List.take_succ_cons, List.take_zero])))
  exact K.out _ H0.out
set_option maxHeartbeats 1000000 in
theorem c74w {x : Wk} [hr : HasR (ndHP b) As n r] (H : Sat w0 w As) (hm : n.mach = .worker x) (k : ∀ w', Sat w0 w' As → R (.returned (.pointer none)) w') : Calls Tryz.prog 29 #[.pointer (some ⟨b, 0, none⟩)] w R := by
  have H0 := Lib.hid H
  obtain ⟨q, H⟩ := ndHP_iff.1 (H.perm hr.perm)
  rw [hm] at H
  have e1 : Mach.mp q.mb (.worker x) = .pointer none := rfl
  rw [e1] at H
  clear hm e1
  go_enter Tryz.func29, Tryz.ntmps29
  go_wp2_with (first
      | ((with_reducible refine is_ret ?_); apply ret_tmp1; rfl; rfl; (conv => lhs; whnf); skip)
      | ((with_reducible refine is_load ?_); apply wl_load H; rfl; rfl; rfl; infer_instance; infer_instance; rfl; skip)
      | ((with_reducible refine is_load ?_); apply wl_load_agg H; rfl; rfl; rfl; infer_instance; infer_instance; (focus (simp; done)); (try simp only [cut, List.drop_zero, List.drop_succ_cons, List.take_succ_cons, List.take_zero])))
  first | exact H0.out | exact k _ H0.out
end
end Go.Proofs.YtcdkaggdidfenaaGreatDoor
