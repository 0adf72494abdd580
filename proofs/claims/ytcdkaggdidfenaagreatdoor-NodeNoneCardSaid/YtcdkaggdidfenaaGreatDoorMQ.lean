/- A part of the proof: contracts of functions of the given program, and the laws on memory that they lean on. -/
import Derived.Test.YtcdkaggdidfenaaGreatDoorMP
set_option linter.all false

namespace Go.Proofs.YtcdkaggdidfenaaGreatDoor
open Go.RowKit Go.Proofs Go.SL St
set_option maxRecDepth 100000
variable {w w0 : World} {As r : List HP} {R : Ending → World → Prop}

theorem merged_eq (r : Red) (h : r.sp.length = 6) : Red.merged r = mergedTo (r.sp.map (·.merged)) r.c.job.splits.length := by
  unfold Red.merged mergedTo
  congr 1
  apply List.filter_congr
  intro i _
  rw [List.getD_eq_getElem?_getD, List.getD_eq_getElem?_getD, List.getElem?_map]
  cases r.sp[i]? <;> rfl

set_option maxHeartbeats 4000000 in
/-- Output, where a split is not merged. -/
theorem c109n {c : Cfg} {part epoch : Int} {cv : CfgV} {s0 s1 s2 s3 s4 s5 : SpV} {sb b : Nat} {sv : Value}
    [hr : Rd b As (.cells (redCells cv c part epoch s0 s1 s2 s3 s4 s5 sb sv) 212 (0, 0))] [hv : RdV v1E As cv.splits cv.svs] (H : Sat w0 w As) (hl : cv.svs.length = c.job.splits.length) (h6 : c.job.splits.length ≤ 6)
    (hlt : (mergedTo [s0.merged, s1.merged, s2.merged, s3.merged, s4.merged, s5.merged] c.job.splits.length).length < c.job.splits.length)
    (k : ∀ w', Sat w0 w' As → R (.returned (.tuple #[.slice none 0 0, .int .i64 0, .bool false])) w') : Calls Tryz.prog 132 #[.pointer (some ⟨b, 0, none⟩)] w R := by
  have HL := Lib.hid hl
  have hlt' : (mergedTo [s0.merged, s1.merged, s2.merged, s3.merged, s4.merged, s5.merged] c.job.splits.length).length < cv.svs.length := by omega
  clear hl
  go_enter Tryz.func132, Tryz.ntmps132
  go_wp2_with (first
      | (go_at_call 133; refine c47 H HL.out h6 ?_; clear H; intro v w H; have hone := One1.mk (ownL_one H))
      | ((with_reducible refine is_ret ?_); refine bodyPost_ret (results_tmp3 rfl _ _ _) rfl ?_)
      | ((with_reducible refine is_load ?_); apply wl_load H; rfl; rfl; rfl; infer_instance; infer_instance; rfl; skip)
      | ((with_reducible refine is_load ?_); apply wl_load_agg H; rfl; rfl; rfl; infer_instance; infer_instance; (focus (simp; done)); (try simp only [cut, List.drop_zero, List.drop_succ_cons, List.take_succ_cons, List.take_zero]))
      | ((with_reducible refine is_len ?_); apply wl_len intE H; rfl; rfl; (conv => lhs; whnf); infer_instance; infer_instance; skip)
      | ((with_reducible refine is_len ?_); apply wl_len v1E H; rfl; rfl; (conv => lhs; whnf); infer_instance; infer_instance; skip)
      | ((with_reducible refine is_load ?_); apply wl_elem_agg intE H; rfl; rfl; rfl; infer_instance; infer_instance; (first | assumption | (simp only [Int.toNat_natCast]; assumption)); rfl; (conv => lhs; whnf); skip)
      | ((with_reducible refine is_load ?_); apply wl_elem intE H; rfl; rfl; rfl; infer_instance; infer_instance; (first | assumption | (simp only [Int.toNat_natCast]; assumption)); (conv => lhs; whnf); skip)
      | ((with_reducible refine is_load ?_); apply wl_elem_agg v1E H; rfl; rfl; rfl; infer_instance; infer_instance; (first | assumption | (simp only [Int.toNat_natCast]; assumption)); rfl; (conv => lhs; whnf); skip)
      | ((with_reducible refine is_load ?_); apply wl_elem v1E H; rfl; rfl; rfl; infer_instance; infer_instance; (first | assumption | (simp only [Int.toNat_natCast]; assumption)); (conv => lhs; whnf); skip))
  all_goals first | exact H.ent | exact k _ H.ent

set_option maxHeartbeats 4000000 in
/-- Hello, where a split is not merged. -/
theorem c143n {rd : Red} {rb : Nat} [hr : HasR (redHP rb) As rd r] (H : Sat w0 w As) (h6 : rd.c.job.splits.length ≤ 6) (hlt : rd.merged.length < rd.c.job.splits.length)
    (k : ∀ v w', Sat w0 w' (ownL intE 3 v rd.merged :: redHP rb rd :: r) →
      R (.returned (.agg #[.int .i64 6, .int .i64 0, .int .i64 0, .int .i64 rd.part, .int .i64 0, .int .i64 0, .int .i64 rd.epoch, .int .i64 0, v, .slice none 0 0])) w') : Calls Tryz.prog 90 #[.pointer (some ⟨rb, 0, none⟩)] w R := by
  replace H := H.perm hr.perm
  obtain ⟨q, H⟩ := redHP_iff.1 H
  have hl : q.cv.svs.length = rd.c.job.splits.length := (RdJob.get (cv := q.cv) H).each.len
  have hsl : [q.s0, q.s1, q.s2, q.s3, q.s4, q.s5].length = rd.sp.length := ownZ_len H.drop.drop
  have hm : Red.merged rd = mergedTo [q.s0.merged, q.s1.merged, q.s2.merged, q.s3.merged, q.s4.merged, q.s5.merged] rd.c.job.splits.length := by
    rw [merged_eq rd (by simpa using hsl.symm)]
    have hz := (ownZ_iff.1 (H.drop.drop)).2
    have : ∀ (i : Nat) (x : SpV) (y : Sp), [q.s0, q.s1, q.s2, q.s3, q.s4, q.s5][i]? = some x → rd.sp[i]? = some y → y.merged = x.merged := fun i x y hx hy => by
      have := (ownSp_iff.1 (ownZ_take hx hy H.drop.drop)).1
      rw [this]
    have e : rd.sp.map (·.merged) = [q.s0, q.s1, q.s2, q.s3, q.s4, q.s5].map (·.merged) := by
      apply List.ext_getElem?
      intro i
      rw [List.getElem?_map, List.getElem?_map]
      cases hx : [q.s0, q.s1, q.s2, q.s3, q.s4, q.s5][i]? with
      | none => rw [List.getElem?_eq_none (by rw [← hsl]; simpa using hx)]; rfl
      | some x =>
        obtain ⟨y, hy⟩ : ∃ y, rd.sp[i]? = some y := by
          have h1 := (List.getElem?_eq_some_iff.1 hx).1
          exact ⟨rd.sp[i]'(by rw [← hsl]; exact h1), by simp⟩
        rw [hy, Option.map_some, Option.map_some, this i x y hx hy]
    rw [e]; rfl
  rw [hm] at hlt k
  clear hsl hm
  have HL := Lib.hid hl
  clear hl
  go_enter Tryz.func90, Tryz.ntmps90
  go_wp2_with (first
      | (go_at_call 132; refine c109n H HL.out h6 hlt ?_; clear H; intro w H)
      | ((with_reducible refine is_ret ?_); apply ret_cell H; rfl; rfl; (conv => lhs; whnf); infer_instance; infer_instance; rfl)
      | ((with_reducible refine is_alloc ?_); apply wl_alloc H; rfl; rfl; infer_instance; (conv => lhs; whnf); (clear H; intro b w H))
      | ((with_reducible refine is_store ?_); apply wl_store H; rfl; rfl; rfl; infer_instance; infer_instance; (focus (simp; done)); (conv => lhs; whnf); infer_instance; (clear H; intro w H; (try simp only [List.setIfInBounds_toArray, List.set_cons_zero, List.set_cons_succ] at H)))
      | ((with_reducible refine is_store ?_); apply wl_store_agg H; rfl; rfl; rfl; infer_instance; infer_instance; rfl; (conv => lhs; whnf); rfl; (first | (focus (simp; done)) | (simp; omega)); infer_instance; (clear H; intro w H; (try simp only [putAll, List.setIfInBounds_toArray, List.set_cons_zero, List.set_cons_succ] at H)))
      | ((with_reducible refine is_load ?_); apply wl_load H; rfl; rfl; rfl; infer_instance; infer_instance; rfl; skip)
      | ((with_reducible refine is_load ?_); apply wl_load_agg H; rfl; rfl; rfl; infer_instance; infer_instance; (focus (simp; done)); (try simp only [cut, List.drop_zero, List.drop_succ_cons, List.take_succ_cons, List.take_zero])))
  refine wp_draw [9, 11] (by kernel_rfl) ?_
  replace H := H.drew
  (refine G_pure (i := 0) (v := ?_) rfl (by kernel_rfl) rfl (fun w => ?_) ?_; rotate_left 1; (focus (go_simp; (try simp (disch := omega) only [IntWalk.i64_in]); (try with_reducible rfl))); (try simp only [Act.put, List.setIfInBounds_toArray, List.set_cons_zero, List.set_cons_succ, cut, List.drop_zero, List.drop_succ_cons, List.take_succ_cons, List.take_zero]))
  (refine G_pure (i := 1) (v := ?_) rfl (by kernel_rfl) rfl (fun w => ?_) ?_; rotate_left 1; (focus (go_simp; (try simp (disch := omega) only [IntWalk.i64_in]); (try with_reducible rfl))); (try simp only [Act.put, List.setIfInBounds_toArray, List.set_cons_zero, List.set_cons_succ, cut, List.drop_zero, List.drop_succ_cons, List.take_succ_cons, List.take_zero]))
  (refine G_pure (i := 2) (v := ?_) rfl (by kernel_rfl) rfl (fun w => ?_) ?_; rotate_left 1; (focus (go_simp; (try simp (disch := omega) only [IntWalk.i64_in]); (try with_reducible rfl))); (try simp only [Act.put, List.setIfInBounds_toArray, List.set_cons_zero, List.set_cons_succ, cut, List.drop_zero, List.drop_succ_cons, List.take_succ_cons, List.take_zero]))
  first
    | (apply G_load (i := 3) H; rfl; kernel_rfl; rfl; rfl; rfl; infer_instance; infer_instance; rfl; (try simp only [Act.put, List.setIfInBounds_toArray, List.set_cons_zero, List.set_cons_succ, cut, List.drop_zero, List.drop_succ_cons, List.take_succ_cons, List.take_zero]))
    | (apply G_load_agg (i := 3) H; rfl; kernel_rfl; rfl; rfl; rfl; infer_instance; infer_instance; (focus (simp; done)); (try simp only [Act.put, List.setIfInBounds_toArray, List.set_cons_zero, List.set_cons_succ, cut, List.drop_zero, List.drop_succ_cons, List.take_succ_cons, List.take_zero]))
  (refine G_pure (i := 4) (v := ?_) rfl (by kernel_rfl) rfl (fun w => ?_) ?_; rotate_left 1; (focus (go_simp; (try simp (disch := omega) only [IntWalk.i64_in]); (try with_reducible rfl))); (try simp only [Act.put, List.setIfInBounds_toArray, List.set_cons_zero, List.set_cons_succ, cut, List.drop_zero, List.drop_succ_cons, List.take_succ_cons, List.take_zero]))
  (refine G_pure (i := 5) (v := ?_) rfl (by kernel_rfl) rfl (fun w => ?_) ?_; rotate_left 1; (focus (go_simp; (try simp (disch := omega) only [IntWalk.i64_in]); (try with_reducible rfl))); (try simp only [Act.put, List.setIfInBounds_toArray, List.set_cons_zero, List.set_cons_succ, cut, List.drop_zero, List.drop_succ_cons, List.take_succ_cons, List.take_zero]))
  (refine G_pure (i := 6) (v := ?_) rfl (by kernel_rfl) rfl (fun w => ?_) ?_; rotate_left 1; (focus (go_simp; (try simp (disch := omega) only [IntWalk.i64_in]); (try with_reducible rfl))); (try simp only [Act.put, List.setIfInBounds_toArray, List.set_cons_zero, List.set_cons_succ, cut, List.drop_zero, List.drop_succ_cons, List.take_succ_cons, List.take_zero]))
  first
    | (apply G_load (i := 7) H; rfl; kernel_rfl; rfl; rfl; rfl; infer_instance; infer_instance; rfl; (try simp only [Act.put, List.setIfInBounds_toArray, List.set_cons_zero, List.set_cons_succ, cut, List.drop_zero, List.drop_succ_cons, List.take_succ_cons, List.take_zero]))
    | (apply G_load_agg (i := 7) H; rfl; kernel_rfl; rfl; rfl; rfl; infer_instance; infer_instance; (focus (simp; done)); (try simp only [Act.put, List.setIfInBounds_toArray, List.set_cons_zero, List.set_cons_succ, cut, List.drop_zero, List.drop_succ_cons, List.take_succ_cons, List.take_zero]))
  (refine G_pure (i := 8) (v := ?_) rfl (by kernel_rfl) rfl (fun w => ?_) ?_; rotate_left 1; (focus (go_simp; (try simp (disch := omega) only [IntWalk.i64_in]); (try with_reducible rfl))); (try simp only [Act.put, List.setIfInBounds_toArray, List.set_cons_zero, List.set_cons_succ, cut, List.drop_zero, List.drop_succ_cons, List.take_succ_cons, List.take_zero]))
  refine G_main (i := 9) (is := [7, 3]) (bs := [true, true]) rfl (by kernel_rfl) rfl (by kernel_rfl) rfl ?_
  go_wp2_with (first
    | (go_at_call 133; refine c47 H HL.out h6 ?_; clear H; intro v w H; obtain ⟨va, vn, vc, rfl⟩ := ownL_slice H))
  refine postM_intro ?_
  refine ⟨And.intro (by first | exact chk1 inferInstance H rfl | exact chkv inferInstance H | exact chkn inferInstance H rfl) (And.intro (by first | exact chk1 inferInstance H rfl | exact chkv inferInstance H | exact chkn inferInstance H rfl) (trivial)), ?_⟩
  try (try simp only [Act.put, List.setIfInBounds_toArray, List.set_cons_zero, List.set_cons_succ, cut, List.drop_zero, List.drop_succ_cons, List.take_succ_cons, List.take_zero])
  (refine G_pure (i := 10) (v := ?_) rfl (by kernel_rfl) rfl (fun w => ?_) ?_; rotate_left 1; (focus (go_simp; (try simp (disch := omega) only [IntWalk.i64_in]); (try with_reducible rfl))); (try simp only [Act.put, List.setIfInBounds_toArray, List.set_cons_zero, List.set_cons_succ, cut, List.drop_zero, List.drop_succ_cons, List.take_succ_cons, List.take_zero]))
  refine G_main (i := 11) (is := [7, 3]) (bs := [false, false]) rfl (by kernel_rfl) rfl (by kernel_rfl) rfl ?_
  go_wp2_with (first
    | (go_at_call 133; refine c47 H HL.out h6 ?_; clear H; intro v w H; obtain ⟨va, vn, vc, rfl⟩ := ownL_slice H)
    | ((with_reducible refine is_store ?_); apply wl_store H; rfl; rfl; rfl; infer_instance; infer_instance; (focus (simp; done)); (conv => lhs; whnf); infer_instance; (clear H; intro w H; (try simp only [List.setIfInBounds_toArray, List.set_cons_zero, List.set_cons_succ] at H)))
    | ((with_reducible refine is_store ?_); apply wl_store_agg H; rfl; rfl; rfl; infer_instance; infer_instance; rfl; (conv => lhs; whnf); rfl; (first | (focus (simp; done)) | (simp; omega)); infer_instance; (clear H; intro w H; (try simp only [putAll, List.setIfInBounds_toArray, List.set_cons_zero, List.set_cons_succ] at H))))
  refine postM_intro ?_
  refine ⟨trivial, ?_⟩
  try (try simp only [Act.put, List.setIfInBounds_toArray, List.set_cons_zero, List.set_cons_succ, cut, List.drop_zero, List.drop_succ_cons, List.take_succ_cons, List.take_zero])
  refine G_done (by kernel_rfl) ?_
  go_wp2_with (first
      | ((with_reducible refine is_ret ?_); apply ret_cell H; rfl; rfl; (conv => lhs; whnf); infer_instance; infer_instance; rfl)
      | ((with_reducible refine is_alloc ?_); apply wl_alloc H; rfl; rfl; infer_instance; (conv => lhs; whnf); (clear H; intro b w H))
      | ((with_reducible refine is_store ?_); apply wl_store H; rfl; rfl; rfl; infer_instance; infer_instance; (focus (simp; done)); (conv => lhs; whnf); infer_instance; (clear H; intro w H; (try simp only [List.setIfInBounds_toArray, List.set_cons_zero, List.set_cons_succ] at H)))
      | ((with_reducible refine is_store ?_); apply wl_store_agg H; rfl; rfl; rfl; infer_instance; infer_instance; rfl; (conv => lhs; whnf); rfl; (first | (focus (simp; done)) | (simp; omega)); infer_instance; (clear H; intro w H; (try simp only [putAll, List.setIfInBounds_toArray, List.set_cons_zero, List.set_cons_succ] at H)))
      | ((with_reducible refine is_load ?_); apply wl_load H; rfl; rfl; rfl; infer_instance; infer_instance; rfl; skip)
      | ((with_reducible refine is_load ?_); apply wl_load_agg H; rfl; rfl; rfl; infer_instance; infer_instance; (focus (simp; done)); (try simp only [cut, List.drop_zero, List.drop_succ_cons, List.take_succ_cons, List.take_zero])))
  have H1 := redHP_iff.2 ⟨q, (H.ent : Sat w0 w (.pt rb (.cells (redCells q.cv rd.c rd.part rd.epoch q.s0 q.s1 q.s2 q.s3 q.s4 q.s5 q.sb q.sv) 212 (0, 0)) ::
    jobHP q.cv rd.c.job :: ownZ ownSp [q.s0, q.s1, q.s2, q.s3, q.s4, q.s5] rd.sp :: stageHP q.sb rd.stage :: setsHP q.sv rd.sets :: ownL intE 3 (.slice va vn vc) (mergedTo [q.s0.merged, q.s1.merged, q.s2.merged, q.s3.merged, q.s4.merged, q.s5.merged] rd.c.job.splits.length) :: r))⟩
  first | exact k _ _ (H1.perm (.swap _ _ _)) | exact H1.perm (.swap _ _ _)

set_option maxHeartbeats 1000000 in
theorem c152 {b off : Nat} {c : Array Value} {T : TypeId} {fr : Nat × Nat} {e : Int} [hr : Rd b As (.cells c T fr)] (H : Sat w0 w As) (hc : c.toList[off]? = some (.int .u32 e))
    (k : ∀ w', Sat w0 w' As → R (.returned (.bool (e != 0))) w') : Calls Tryz.prog 128 #[.pointer (some ⟨b, off, none⟩)] w R := by
  have hcell : w.cell? ⟨b, off, none⟩ = some (.int .u32 e) := (cell_of_heap (hr.get H)).trans (by rw [← Array.getElem?_toList]; exact hc)
  have hl := run_call_load (P := Tryz.prog) Tryz.func156 (by kernel_rfl) (by kernel_rfl) (by kernel_rfl) .u32 (by kernel_rfl) hcell
  clear hcell
  go_enter Tryz.func128, Tryz.ntmps128
  go_wp2_with (first
      | ((with_reducible refine is_ret ?_); apply ret_tmp1; rfl; rfl; (conv => lhs; whnf); skip))
  all_goals first | exact H.ent | exact k _ H.ent

set_option maxHeartbeats 1000000 in
theorem c44 {b : Nat} {c : Array Value} {T : TypeId} {fr : Nat × Nat} {e : Int} [hr : Rd b As (.cells c T fr)] (H : Sat w0 w As) (hc : c.toList[16]? = some (.int .u32 e))
    (k : ∀ w', Sat w0 w' As → R (.returned (.bool (e != 0))) w') : Calls Tryz.prog 88 #[.pointer (some ⟨b, 0, none⟩)] w R := by
  go_enter Tryz.func88, Tryz.ntmps88
  go_wp2_with (first
      | (go_at_call 128; refine c152 H hc ?_; clear H; intro w H)
      | ((with_reducible refine is_ret ?_); apply ret_tmp1; rfl; rfl; (conv => lhs; whnf); skip))
  all_goals first | exact H.ent | exact k _ H.ent
end Go.Proofs.YtcdkaggdidfenaaGreatDoor
