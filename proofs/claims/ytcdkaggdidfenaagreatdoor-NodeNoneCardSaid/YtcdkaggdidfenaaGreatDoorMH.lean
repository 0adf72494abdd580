/- A part of the proof: contracts of functions of the given program, and the laws on memory that they lean on. -/
import Derived.Test.YtcdkaggdidfenaaGreatDoorMG
set_option linter.all false
namespace Go.Proofs.YtcdkaggdidfenaaGreatDoor
open Go.RowKit Go.Proofs Go.SL St
set_option maxRecDepth 40000
variable {w w0 : World} {As r : List HP} {R : Ending → World → Prop} {b : Nat} {d : Dk}

set_option maxHeartbeats 1000000 in
theorem c163 {n : Int} [hr : HasR (diskHP b) As d r] (H : Sat w0 w As) (hd : d.ok) (hl : d.b.length ≤ 4294967296) (k : ∀ w', Sat w0 w' (diskHP b (d.crash n) :: r) → R (.returned (.tuple #[])) w') : Calls Tryz.prog 52 #[.pointer (some ⟨b, 0, none⟩), .int .i64 n] w R := by
  replace H := H.perm hr.perm
  obtain ⟨v0, H⟩ := diskHP_iff.1 H
  obtain ⟨hd1, hd2⟩ := id hd
  have hu : d.unsynced = d.b.length - d.n := rfl
  have hu0 : 0 ≤ d.unsynced := by omega
  have hu1 : d.unsynced ≤ 4294967296 := by omega
  have hu2 : IntKind.u64.wrap (d.unsynced + 1) = d.unsynced + 1 := by show (d.unsynced + 1) % 18446744073709551616 = _; omega
  have hu3 : ¬ (d.unsynced + 1 = 0) := by omega
  have hlu : d.n + d.unsynced ≤ 4294967296 := by omega
  clear hu
  have hw : IntKind.u64.wrap n = n % 18446744073709551616 := rfl
  have hw0 := Int.emod_nonneg n (b := 18446744073709551616) (by omega)
  have hq0 : (n % 18446744073709551616).tmod (d.unsynced + 1) = n % 18446744073709551616 % (d.unsynced + 1) := Int.tmod_eq_emod_of_nonneg hw0
  have hq1 := Int.emod_nonneg (n % 18446744073709551616) (b := d.unsynced + 1) (by omega)
  have hq2 := Int.emod_lt_of_pos (n % 18446744073709551616) (b := d.unsynced + 1) (by omega)
  go_enter Tryz.func52, Tryz.ntmps52
  go_wp2_with (first
      | ((with_reducible refine is_end ?_); refine bodyPost_end (results_none rfl _ _ _) rfl ?_)
      | ((with_reducible refine is_ret ?_); refine bodyPost_ret (results_none rfl _ _ _) rfl ?_)
      | ((with_reducible refine is_load ?_); apply wl_load H; rfl; rfl; rfl; infer_instance; infer_instance; rfl; skip)
      | ((with_reducible refine is_load ?_); apply wl_load_agg H; rfl; rfl; rfl; infer_instance; infer_instance; (focus (simp; done)); (try simp only [cut, List.drop_zero, List.drop_succ_cons, List.take_succ_cons, List.take_zero])))
  refine wp_draw [8, 14] (by kernel_rfl) ?_
  replace H := H.drew
  (refine G_pure (i := 0) (v := ?_) rfl (by kernel_rfl) rfl (fun w => ?_) ?_; rotate_left 1; (focus (go_simp; (try simp (disch := omega) only [IntWalk.i64_in]); (try with_reducible rfl))); (try simp only [Act.put, List.setIfInBounds_toArray, List.set_cons_zero, List.set_cons_succ, cut, List.drop_zero, List.drop_succ_cons, List.take_succ_cons, List.take_zero]))
  (refine G_pure (i := 1) (v := ?_) rfl (by kernel_rfl) rfl (fun w => ?_) ?_; rotate_left 1; (focus (go_simp; (try simp (disch := omega) only [IntWalk.i64_in]); (try with_reducible rfl))); (try simp only [Act.put, List.setIfInBounds_toArray, List.set_cons_zero, List.set_cons_succ, cut, List.drop_zero, List.drop_succ_cons, List.take_succ_cons, List.take_zero]))
  (refine G_pure (i := 2) (v := ?_) rfl (by kernel_rfl) rfl (fun w => ?_) ?_; rotate_left 1; (focus (go_simp; (try simp (disch := omega) only [IntWalk.i64_in]); (try with_reducible rfl))); (try simp only [Act.put, List.setIfInBounds_toArray, List.set_cons_zero, List.set_cons_succ, cut, List.drop_zero, List.drop_succ_cons, List.take_succ_cons, List.take_zero]))
  (refine G_pure (i := 3) (v := ?_) rfl (by kernel_rfl) rfl (fun w => ?_) ?_; rotate_left 1; (focus (go_simp; (try simp (disch := omega) only [IntWalk.i64_in]); (try with_reducible rfl))); (try simp only [Act.put, List.setIfInBounds_toArray, List.set_cons_zero, List.set_cons_succ, cut, List.drop_zero, List.drop_succ_cons, List.take_succ_cons, List.take_zero]))
  first
    | (apply G_load (i := 4) H; rfl; kernel_rfl; rfl; rfl; rfl; infer_instance; infer_instance; rfl; (try simp only [Act.put, List.setIfInBounds_toArray, List.set_cons_zero, List.set_cons_succ, cut, List.drop_zero, List.drop_succ_cons, List.take_succ_cons, List.take_zero]))
    | (apply G_load_agg (i := 4) H; rfl; kernel_rfl; rfl; rfl; rfl; infer_instance; infer_instance; (focus (simp; done)); (try simp only [Act.put, List.setIfInBounds_toArray, List.set_cons_zero, List.set_cons_succ, cut, List.drop_zero, List.drop_succ_cons, List.take_succ_cons, List.take_zero]))
  (refine G_pure (i := 5) (v := ?_) rfl (by kernel_rfl) rfl (fun w => ?_) ?_; rotate_left 1; (focus (go_simp; (try simp (disch := omega) only [IntWalk.i64_in]); (try with_reducible rfl))); (try simp only [Act.put, List.setIfInBounds_toArray, List.set_cons_zero, List.set_cons_succ, cut, List.drop_zero, List.drop_succ_cons, List.take_succ_cons, List.take_zero]))
  (refine G_pure (i := 6) (v := ?_) rfl (by kernel_rfl) rfl (fun w => ?_) ?_; rotate_left 1; (focus (go_simp; (try simp (disch := omega) only [IntWalk.i64_in]); (try with_reducible rfl))); (try simp only [Act.put, List.setIfInBounds_toArray, List.set_cons_zero, List.set_cons_succ, cut, List.drop_zero, List.drop_succ_cons, List.take_succ_cons, List.take_zero]))
  (refine G_pure (i := 7) (v := ?_) rfl (by kernel_rfl) rfl (fun w => ?_) ?_; rotate_left 1; (focus (go_simp; (try simp (disch := omega) only [IntWalk.i64_in]); (try with_reducible rfl))); (try simp only [Act.put, List.setIfInBounds_toArray, List.set_cons_zero, List.set_cons_succ, cut, List.drop_zero, List.drop_succ_cons, List.take_succ_cons, List.take_zero]))
  refine G_main (i := 8) (is := [4]) (bs := [true]) rfl (by kernel_rfl) rfl (by kernel_rfl) rfl ?_
  go_wp2_with (first
    | (go_at_call 24; refine c66 (b := b) (d := d) (r := r) (diskHP_iff.2 ⟨_, H⟩) hd ?_; clear H; intro w H; obtain ⟨v1, H⟩ := diskHP_iff.1 H)
    | (go_at_call 81; refine c254 (b := b) (d := d) (r := r) (diskHP_iff.2 ⟨_, H⟩) ?_; clear H; intro w H))
  refine postM_intro ?_
  refine ⟨And.intro (by first | exact chk1 inferInstance H rfl | exact chkv inferInstance H | exact chkn inferInstance H rfl) (trivial), ?_⟩
  try (try simp only [Act.put, List.setIfInBounds_toArray, List.set_cons_zero, List.set_cons_succ, cut, List.drop_zero, List.drop_succ_cons, List.take_succ_cons, List.take_zero])
  (refine G_pure (i := 9) (v := ?_) rfl (by kernel_rfl) rfl (fun w => ?_) ?_; rotate_left 1; (focus (go_simp; (try simp (disch := omega) only [IntWalk.i64_in]); (try with_reducible rfl))); (try simp only [Act.put, List.setIfInBounds_toArray, List.set_cons_zero, List.set_cons_succ, cut, List.drop_zero, List.drop_succ_cons, List.take_succ_cons, List.take_zero]))
  (refine G_pure (i := 10) (v := ?_) rfl (by kernel_rfl) rfl (fun w => ?_) ?_; rotate_left 1; (focus (go_simp; (try simp (disch := omega) only [IntWalk.i64_in]); (try with_reducible rfl))); (try simp only [Act.put, List.setIfInBounds_toArray, List.set_cons_zero, List.set_cons_succ, cut, List.drop_zero, List.drop_succ_cons, List.take_succ_cons, List.take_zero]))
  (refine G_pure (i := 11) (v := ?_) rfl (by kernel_rfl) rfl (fun w => ?_) ?_; rotate_left 1; (focus (go_simp; (try simp (disch := omega) only [IntWalk.i64_in]); (try with_reducible rfl))); (try simp only [Act.put, List.setIfInBounds_toArray, List.set_cons_zero, List.set_cons_succ, cut, List.drop_zero, List.drop_succ_cons, List.take_succ_cons, List.take_zero]))
  (refine G_pure (i := 12) (v := ?_) rfl (by kernel_rfl) rfl (fun w => ?_) ?_; rotate_left 1; (focus (go_simp; (try simp (disch := omega) only [IntWalk.i64_in]); (try with_reducible rfl))); (try simp only [Act.put, List.setIfInBounds_toArray, List.set_cons_zero, List.set_cons_succ, cut, List.drop_zero, List.drop_succ_cons, List.take_succ_cons, List.take_zero]))
  (refine G_pure (i := 13) (v := ?_) rfl (by kernel_rfl) rfl (fun w => ?_) ?_; rotate_left 1; (focus (go_simp; (try simp (disch := omega) only [IntWalk.i64_in]); (try with_reducible rfl))); (try simp only [Act.put, List.setIfInBounds_toArray, List.set_cons_zero, List.set_cons_succ, cut, List.drop_zero, List.drop_succ_cons, List.take_succ_cons, List.take_zero]))
  refine G_main (i := 14) (is := [4]) (bs := [false]) rfl (by kernel_rfl) rfl (by kernel_rfl) rfl ?_
  go_wp2_with (first
    | (go_at_call 24; refine c66 (b := b) (d := d) (r := r) (diskHP_iff.2 ⟨_, H⟩) hd ?_; clear H; intro w H; obtain ⟨v1, H⟩ := diskHP_iff.1 H)
    | (go_at_call 81; refine c254 (b := b) (d := d) (r := r) (diskHP_iff.2 ⟨_, H⟩) ?_; clear H; intro w H))
  refine postM_intro ?_
  refine ⟨trivial, ?_⟩
  try (try simp only [Act.put, List.setIfInBounds_toArray, List.set_cons_zero, List.set_cons_succ, cut, List.drop_zero, List.drop_succ_cons, List.take_succ_cons, List.take_zero])
  refine G_done (by kernel_rfl) ?_
  go_wp2_with (first
      | ((with_reducible refine is_end ?_); refine bodyPost_end (results_none rfl _ _ _) rfl ?_)
      | ((with_reducible refine is_ret ?_); refine bodyPost_ret (results_none rfl _ _ _) rfl ?_)
      | ((with_reducible refine is_load ?_); apply wl_load H; rfl; rfl; rfl; infer_instance; infer_instance; rfl; skip)
      | ((with_reducible refine is_load ?_); apply wl_load_agg H; rfl; rfl; rfl; infer_instance; infer_instance; (focus (simp; done)); (try simp only [cut, List.drop_zero, List.drop_succ_cons, List.take_succ_cons, List.take_zero])))
  all_goals exact H
end Go.Proofs.YtcdkaggdidfenaaGreatDoor
