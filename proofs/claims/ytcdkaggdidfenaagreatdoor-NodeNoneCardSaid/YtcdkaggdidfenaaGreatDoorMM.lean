/- A part of the proof: contracts of functions of the given program, and the laws on memory that they lean on. -/
import Derived.Test.YtcdkaggdidfenaaGreatDoorML
import Derived.Test.YtcdkaggdidfenaaGreatDoorMTypes2
import Derived.Laws.LoneSync
set_option linter.all false

namespace Go.Proofs.YtcdkaggdidfenaaGreatDoor
open Go.RowKit Go.Proofs Go.SL St
set_option maxRecDepth 40000
variable {w w0 : World} {As r : List HP} {R : Ending → World → Prop}

set_option maxHeartbeats 1000000 in
/-- Read, of nothing. -/
theorem c69e {v : Value} [hr : RdV byteE As v []] (H : Sat w0 w As) (k : ∀ w', Sat w0 w' As → R (.returned (.tuple #[.slice none 0 0, .int .i64 0])) w') :
    Calls Tryz.prog 27 #[v] w R := by
  have hrt : readText [] 0 = (⟨#[]⟩, 0, false) := by decide +kernel
  go_enter Tryz.func27, Tryz.ntmps27
  go_wp2_with (first
      | ((with_reducible refine is_convert ?_); apply wl_bytes_str H; rfl; rfl; (conv => lhs; whnf); infer_instance; infer_instance; infer_instance; infer_instance; skip)
      | ((with_reducible refine is_convert ?_); apply wl_str_bytes H; rfl; rfl; rfl; infer_instance; infer_instance; infer_instance; (first | assumption | omega); (clear H; intro v w H; have hone := One1.mk (rdB_one H)))
      | ((with_reducible refine is_box ?_); apply wl_box H; rfl; rfl; (conv => lhs; whnf); (conv => lhs; whnf); (clear H; intro b w H))
      | ((with_reducible refine is_alloc ?_); apply wl_alloc H; rfl; rfl; infer_instance; (conv => lhs; whnf); (clear H; intro b w H))
      | ((with_reducible refine is_store ?_); apply wl_store H; rfl; rfl; rfl; infer_instance; infer_instance; (focus (simp; done)); (conv => lhs; whnf); infer_instance; (clear H; intro w H; (try simp only [List.setIfInBounds_toArray, List.set_cons_zero, List.set_cons_succ] at H)))
      | ((with_reducible refine is_store ?_); apply wl_store_agg H; rfl; rfl; rfl; infer_instance; infer_instance; rfl; (conv => lhs; whnf); rfl; (first | (focus (simp; done)) | (simp; omega)); infer_instance; (clear H; intro w H; (try simp only [putAll, List.setIfInBounds_toArray, List.set_cons_zero, List.set_cons_succ] at H)))
      | ((with_reducible refine is_load ?_); apply wl_load H; rfl; rfl; rfl; infer_instance; infer_instance; rfl; skip)
      | ((with_reducible refine is_load ?_); apply wl_load_agg H; rfl; rfl; rfl; infer_instance; infer_instance; (focus (simp; done)); (try simp only [cut, List.drop_zero, List.drop_succ_cons, List.take_succ_cons, List.take_zero]))
      | ((with_reducible refine is_len ?_); apply wl_len byteE H; rfl; rfl; (conv => lhs; whnf); infer_instance; infer_instance; skip)
      | ((with_reducible refine is_buildSlice ?_); apply wl_build1 recE H; rfl; rfl; (conv => lhs; whnf); infer_instance; infer_instance; (conv => lhs; whnf); infer_instance; (clear H; intro v w H; have hone := One1.mk (ownL_one H)))
      | ((with_reducible refine is_append ?_); apply wl_append recE H; rfl; rfl; (conv => lhs; whnf); (conv => lhs; whnf); infer_instance; infer_instance; infer_instance; infer_instance; (first | omega | (simp only [List.length_append, List.length_cons, List.length_nil, List.length_take, List.length_drop, List.length_replicate, Int.toNat_natCast]; omega) | (simp; omega)); (clear H; intro v w H; have hone := One1.mk (ownL_one H)))
      | ((with_reducible refine is_store ?_); apply wl_set byteE H; rfl; rfl; rfl; infer_instance; infer_instance; (first | omega | (simp only [List.length_take, List.length_drop, List.length_append, List.length_cons, List.length_nil, List.length_replicate, List.length_set, Int.toNat_natCast]; omega)); (conv => lhs; whnf); infer_instance; (clear H; intro w H; (try simp only [Int.toNat_natCast] at H)))
      | ((with_reducible refine is_store ?_); apply wl_set_agg byteE H; rfl; rfl; rfl; infer_instance; infer_instance; rfl; (first | omega | (simp only [List.length_take, List.length_drop, List.length_append, List.length_cons, List.length_nil, List.length_replicate, List.length_set, Int.toNat_natCast]; omega)); (conv => lhs; whnf); (conv => lhs; whnf); infer_instance; (clear H; intro w H; (try simp only [Int.toNat_natCast] at H)))
      | ((with_reducible refine is_load ?_); apply wl_elem_agg byteE H; rfl; rfl; rfl; infer_instance; infer_instance; (first | assumption | (simp only [Int.toNat_natCast]; assumption)); rfl; (conv => lhs; whnf); skip)
      | ((with_reducible refine is_load ?_); apply wl_elem byteE H; rfl; rfl; rfl; infer_instance; infer_instance; (first | assumption | (simp only [Int.toNat_natCast]; assumption)); (conv => lhs; whnf); skip)
      | ((with_reducible refine is_store ?_); apply wl_set recE H; rfl; rfl; rfl; infer_instance; infer_instance; (first | omega | (simp only [List.length_take, List.length_drop, List.length_append, List.length_cons, List.length_nil, List.length_replicate, List.length_set, Int.toNat_natCast]; omega)); (conv => lhs; whnf); infer_instance; (clear H; intro w H; (try simp only [Int.toNat_natCast] at H)))
      | ((with_reducible refine is_store ?_); apply wl_set_agg recE H; rfl; rfl; rfl; infer_instance; infer_instance; rfl; (first | omega | (simp only [List.length_take, List.length_drop, List.length_append, List.length_cons, List.length_nil, List.length_replicate, List.length_set, Int.toNat_natCast]; omega)); (conv => lhs; whnf); (conv => lhs; whnf); infer_instance; (clear H; intro w H; (try simp only [Int.toNat_natCast] at H)))
      | ((with_reducible refine is_load ?_); apply wl_elem_agg recE H; rfl; rfl; rfl; infer_instance; infer_instance; (first | assumption | (simp only [Int.toNat_natCast]; assumption)); rfl; (conv => lhs; whnf); skip)
      | ((with_reducible refine is_load ?_); apply wl_elem recE H; rfl; rfl; rfl; infer_instance; infer_instance; (first | assumption | (simp only [Int.toNat_natCast]; assumption)); (conv => lhs; whnf); skip))
  refine wp_loop_rounds 1 ?_
  rw [rounds_succ]
  go_wp2_with (first
      | (go_at_call 59; refine c168 H (by simp) (by omega) (by omega) ?_; clear H; intro w H; rw [hrt])
      | ((with_reducible refine is_convert ?_); apply wl_bytes_str H; rfl; rfl; (conv => lhs; whnf); infer_instance; infer_instance; infer_instance; infer_instance; skip)
      | ((with_reducible refine is_convert ?_); apply wl_str_bytes H; rfl; rfl; rfl; infer_instance; infer_instance; infer_instance; (first | assumption | omega); (clear H; intro v w H; have hone := One1.mk (rdB_one H)))
      | ((with_reducible refine is_box ?_); apply wl_box H; rfl; rfl; (conv => lhs; whnf); (conv => lhs; whnf); (clear H; intro b w H))
      | ((with_reducible refine is_alloc ?_); apply wl_alloc H; rfl; rfl; infer_instance; (conv => lhs; whnf); (clear H; intro b w H))
      | ((with_reducible refine is_store ?_); apply wl_store H; rfl; rfl; rfl; infer_instance; infer_instance; (focus (simp; done)); (conv => lhs; whnf); infer_instance; (clear H; intro w H; (try simp only [List.setIfInBounds_toArray, List.set_cons_zero, List.set_cons_succ] at H)))
      | ((with_reducible refine is_store ?_); apply wl_store_agg H; rfl; rfl; rfl; infer_instance; infer_instance; rfl; (conv => lhs; whnf); rfl; (first | (focus (simp; done)) | (simp; omega)); infer_instance; (clear H; intro w H; (try simp only [putAll, List.setIfInBounds_toArray, List.set_cons_zero, List.set_cons_succ] at H)))
      | ((with_reducible refine is_load ?_); apply wl_load H; rfl; rfl; rfl; infer_instance; infer_instance; rfl; skip)
      | ((with_reducible refine is_load ?_); apply wl_load_agg H; rfl; rfl; rfl; infer_instance; infer_instance; (focus (simp; done)); (try simp only [cut, List.drop_zero, List.drop_succ_cons, List.take_succ_cons, List.take_zero]))
      | ((with_reducible refine is_len ?_); apply wl_len byteE H; rfl; rfl; (conv => lhs; whnf); infer_instance; infer_instance; skip)
      | ((with_reducible refine is_buildSlice ?_); apply wl_build1 recE H; rfl; rfl; (conv => lhs; whnf); infer_instance; infer_instance; (conv => lhs; whnf); infer_instance; (clear H; intro v w H; have hone := One1.mk (ownL_one H)))
      | ((with_reducible refine is_append ?_); apply wl_append recE H; rfl; rfl; (conv => lhs; whnf); (conv => lhs; whnf); infer_instance; infer_instance; infer_instance; infer_instance; (first | omega | (simp only [List.length_append, List.length_cons, List.length_nil, List.length_take, List.length_drop, List.length_replicate, Int.toNat_natCast]; omega) | (simp; omega)); (clear H; intro v w H; have hone := One1.mk (ownL_one H)))
      | ((with_reducible refine is_store ?_); apply wl_set byteE H; rfl; rfl; rfl; infer_instance; infer_instance; (first | omega | (simp only [List.length_take, List.length_drop, List.length_append, List.length_cons, List.length_nil, List.length_replicate, List.length_set, Int.toNat_natCast]; omega)); (conv => lhs; whnf); infer_instance; (clear H; intro w H; (try simp only [Int.toNat_natCast] at H)))
      | ((with_reducible refine is_store ?_); apply wl_set_agg byteE H; rfl; rfl; rfl; infer_instance; infer_instance; rfl; (first | omega | (simp only [List.length_take, List.length_drop, List.length_append, List.length_cons, List.length_nil, List.length_replicate, List.length_set, Int.toNat_natCast]; omega)); (conv => lhs; whnf); (conv => lhs; whnf); infer_instance; (clear H; intro w H; (try simp only [Int.toNat_natCast] at H)))
      | ((with_reducible refine is_load ?_); apply wl_elem_agg byteE H; rfl; rfl; rfl; infer_instance; infer_instance; (first | assumption | (simp only [Int.toNat_natCast]; assumption)); rfl; (conv => lhs; whnf); skip)
      | ((with_reducible refine is_load ?_); apply wl_elem byteE H; rfl; rfl; rfl; infer_instance; infer_instance; (first | assumption | (simp only [Int.toNat_natCast]; assumption)); (conv => lhs; whnf); skip)
      | ((with_reducible refine is_store ?_); apply wl_set recE H; rfl; rfl; rfl; infer_instance; infer_instance; (first | omega | (simp only [List.length_take, List.length_drop, List.length_append, List.length_cons, List.length_nil, List.length_replicate, List.length_set, Int.toNat_natCast]; omega)); (conv => lhs; whnf); infer_instance; (clear H; intro w H; (try simp only [Int.toNat_natCast] at H)))
      | ((with_reducible refine is_store ?_); apply wl_set_agg recE H; rfl; rfl; rfl; infer_instance; infer_instance; rfl; (first | omega | (simp only [List.length_take, List.length_drop, List.length_append, List.length_cons, List.length_nil, List.length_replicate, List.length_set, Int.toNat_natCast]; omega)); (conv => lhs; whnf); (conv => lhs; whnf); infer_instance; (clear H; intro w H; (try simp only [Int.toNat_natCast] at H)))
      | ((with_reducible refine is_load ?_); apply wl_elem_agg recE H; rfl; rfl; rfl; infer_instance; infer_instance; (first | assumption | (simp only [Int.toNat_natCast]; assumption)); rfl; (conv => lhs; whnf); skip)
      | ((with_reducible refine is_load ?_); apply wl_elem recE H; rfl; rfl; rfl; infer_instance; infer_instance; (first | assumption | (simp only [Int.toNat_natCast]; assumption)); (conv => lhs; whnf); skip))
  all_goals first | exact H.ent | exact k _ H.ent

set_option maxHeartbeats 1000000 in
theorem c222 (H : Sat w0 w As) (k : ∀ b w', Sat w0 w' (stageHP b [] :: As) → R (.returned (.pointer (some ⟨b, 0, none⟩))) w') :
    Calls Tryz.prog 154 #[] w R := by
  go_enter Tryz.func154, Tryz.ntmps154
  go_wp2_with (first
      | ((with_reducible refine is_ret ?_); apply ret_tmp1; rfl; rfl; (conv => lhs; whnf); skip)
      | ((with_reducible refine is_box ?_); apply wl_box H; rfl; rfl; (conv => lhs; whnf); (conv => lhs; whnf); (clear H; intro b w H))
      | ((with_reducible refine is_makeMap ?_); apply wl_makeMap int2K H; rfl; rfl; (clear H; intro mb w H)))
  have H1 : Sat w0 w (stageHP b [] :: As) := stageHP_iff.2 ⟨(mb, []), (ownZ_nil H).perm (List.perm_middle (l₁ := [_, _])).symm⟩
  first | exact H1 | exact k _ _ H1

/-- A reducer at its beginning, of records that tell it nothing. -/
def redOf (c : Cfg) (part epoch : Int) : Red := { c := c, part := part, epoch := epoch }
def quietRec (r : Rec) : Bool := decide (r.kind ≠ 4) && decide (r.kind ≠ 5)
theorem rep6 {α : Type} (x : α) : List.replicate 6 x = [x, x, x, x, x, x] := rfl
@[reducible] def spV0 : SpV := ⟨false, ⟨.slice none 0 0, rfl⟩, false, 0, 0⟩
theorem spV0_own (H : Sat w0 w As) : Sat w0 w (ownZ ownSp [spV0, spV0, spV0, spV0, spV0, spV0] (List.replicate 6 {}) :: As) := by
  have h : ∀ {As : List HP}, Sat w0 w As → Sat w0 w (ownSp spV0 {} :: As) := fun H => ownSp_iff.2 ⟨rfl, ownL_nil H⟩
  rw [rep6]
  exact ownZ_cons (h (ownZ_cons (h (ownZ_cons (h (ownZ_cons (h (ownZ_cons (h (ownZ_cons (h (ownZ_nil H))))))))))))
theorem CfgOk.fits {c : Cfg} {cv : CfgV} (h : CfgOk c) : Fits cv c.job :=
  ⟨by have := h.job.s2; omega, fun s hs => by have := (h.job.ss s hs).1; omega, by
    have := h.job.map; simp only [progRuns, Bool.and_eq_true] at this; have := progMay_len this.2; omega, by
    have := progMay_len h.job.combine; omega, by
    have := h.job.reduce; simp only [progRuns, Bool.and_eq_true] at this; have := progMay_len this.2; omega, by have := h.job.m; omega⟩
theorem home_pos {c : Cfg} {p : Int} (hc : cfgMay c = true) (h0 : 0 ≤ p) (h1 : p < c.job.parts) : home c p = 1 + p % c.workers := by
  unfold home; rw [hc, if_pos]; simp [within]; omega

set_option maxHeartbeats 1000000 in
theorem c223n {c : Cfg} {part epoch n : Int} {cv : CfgV} {s0 s1 s2 s3 s4 s5 : SpV} {sb b : Nat} {sv : Value} {ss : List (List Pr)}
    [hr : Rd b As (.cells (redCells cv c part epoch s0 s1 s2 s3 s4 s5 sb sv) 212 (0, 0))] [hv : RdV v1E As cv.splits cv.svs] (H : Sat w0 w As) (hl : cv.svs.length = c.job.splits.length) (hn : n < 0 ∨ (c.job.splits.length : Int) ≤ n)
    (k : ∀ w', Sat w0 w' As → R (.returned (.pointer none)) w') : Calls Tryz.prog 140 #[.pointer (some ⟨b, 0, none⟩), .int .i64 n] w R := by
  have hb1 := hv.len_le H
  by_cases h0 : n < 0
  · go_enter Tryz.func140, Tryz.ntmps140
    go_wp2_with (first
        | ((with_reducible refine is_ret ?_); apply ret_tmp1; rfl; rfl; (conv => lhs; whnf); skip)
        | ((with_reducible refine is_load ?_); apply wl_load H; rfl; rfl; rfl; infer_instance; infer_instance; rfl; skip)
        | ((with_reducible refine is_load ?_); apply wl_load_agg H; rfl; rfl; rfl; infer_instance; infer_instance; (focus (simp; done)); (try simp only [cut, List.drop_zero, List.drop_succ_cons, List.take_succ_cons, List.take_zero]))
        | ((with_reducible refine is_len ?_); apply wl_len v1E H; rfl; rfl; (conv => lhs; whnf); infer_instance; infer_instance; skip)
        | ((with_reducible refine is_load ?_); apply wl_elem_agg v1E H; rfl; rfl; rfl; infer_instance; infer_instance; (first | assumption | (simp only [Int.toNat_natCast]; assumption)); rfl; (conv => lhs; whnf); skip)
        | ((with_reducible refine is_load ?_); apply wl_elem v1E H; rfl; rfl; rfl; infer_instance; infer_instance; (first | assumption | (simp only [Int.toNat_natCast]; assumption)); (conv => lhs; whnf); skip))
    all_goals first | exact H.ent | exact k _ H.ent
  · have h1 : (c.job.splits.length : Int) ≤ n := by omega
    go_enter Tryz.func140, Tryz.ntmps140
    go_wp2_with (first
        | ((with_reducible refine is_ret ?_); apply ret_tmp1; rfl; rfl; (conv => lhs; whnf); skip)
        | ((with_reducible refine is_load ?_); apply wl_load H; rfl; rfl; rfl; infer_instance; infer_instance; rfl; skip)
        | ((with_reducible refine is_load ?_); apply wl_load_agg H; rfl; rfl; rfl; infer_instance; infer_instance; (focus (simp; done)); (try simp only [cut, List.drop_zero, List.drop_succ_cons, List.take_succ_cons, List.take_zero]))
        | ((with_reducible refine is_len ?_); apply wl_len v1E H; rfl; rfl; (conv => lhs; whnf); infer_instance; infer_instance; skip)
        | ((with_reducible refine is_load ?_); apply wl_elem_agg v1E H; rfl; rfl; rfl; infer_instance; infer_instance; (first | assumption | (simp only [Int.toNat_natCast]; assumption)); rfl; (conv => lhs; whnf); skip)
        | ((with_reducible refine is_load ?_); apply wl_elem v1E H; rfl; rfl; rfl; infer_instance; infer_instance; (first | assumption | (simp only [Int.toNat_natCast]; assumption)); (conv => lhs; whnf); skip))
    all_goals first | exact H.ent | exact k _ H.ent
end Go.Proofs.YtcdkaggdidfenaaGreatDoor
