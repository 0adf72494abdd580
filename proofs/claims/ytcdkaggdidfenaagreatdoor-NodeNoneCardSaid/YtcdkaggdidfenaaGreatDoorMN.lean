/- A part of the proof: contracts of functions of the given program, and the laws on memory that they lean on. -/
import Derived.Test.YtcdkaggdidfenaaGreatDoorMM
set_option linter.all false

namespace Go.Proofs.YtcdkaggdidfenaaGreatDoor
open Go.RowKit Go.Proofs Go.SL St
set_option maxRecDepth 100000
variable {w w0 : World} {As r : List HP} {R : Ending → World → Prop}

set_option maxHeartbeats 1000000 in
theorem c223 {c : Cfg} {part epoch n : Int} {cv : CfgV} {s0 s1 s2 s3 s4 s5 : SpV} {sb b : Nat} {sv : Value}
    [hr : Rd b As (.cells (redCells cv c part epoch s0 s1 s2 s3 s4 s5 sb sv) 212 (0, 0))] [hv : RdV v1E As cv.splits cv.svs] (H : Sat w0 w As) (hl : cv.svs.length = c.job.splits.length) (hn : 0 ≤ n) (hn2 : n < c.job.splits.length) (hn3 : n < 6)
    (k : ∀ w', Sat w0 w' As → R (.returned (.pointer (some ⟨b, 14 + n.toNat * 5, none⟩))) w') : Calls Tryz.prog 140 #[.pointer (some ⟨b, 0, none⟩), .int .i64 n] w R := by
  have hb1 := hv.len_le H
  go_enter Tryz.func140, Tryz.ntmps140
  go_wp2_with (first
      | ((with_reducible refine is_ret ?_); apply ret_tmp1; rfl; rfl; (conv => lhs; whnf); skip)
      | ((with_reducible refine is_load ?_); apply wl_load H; rfl; rfl; rfl; infer_instance; infer_instance; rfl; skip)
      | ((with_reducible refine is_load ?_); apply wl_load_agg H; rfl; rfl; rfl; infer_instance; infer_instance; (focus (simp; done)); (try simp only [cut, List.drop_zero, List.drop_succ_cons, List.take_succ_cons, List.take_zero]))
      | ((with_reducible refine is_len ?_); apply wl_len v1E H; rfl; rfl; (conv => lhs; whnf); infer_instance; infer_instance; skip)
      | ((with_reducible refine is_load ?_); apply wl_elem_agg v1E H; rfl; rfl; rfl; infer_instance; infer_instance; (first | assumption | (simp only [Int.toNat_natCast]; assumption)); rfl; (conv => lhs; whnf); skip)
      | ((with_reducible refine is_load ?_); apply wl_elem v1E H; rfl; rfl; rfl; infer_instance; infer_instance; (first | assumption | (simp only [Int.toNat_natCast]; assumption)); (conv => lhs; whnf); skip))
  all_goals first | exact H.ent | exact k _ H.ent | trace_state

set_option maxHeartbeats 4000000 in
/-- reducer.New, of records that tell it nothing. -/
theorem c126q {c : Cfg} {part epoch : Int} {cv : CfgV} {v : Value} {xs : List RecV} {rs : List Rec} [hr : RdJob As cv c.job] [hq : RdRecs As v xs rs] (H : Sat w0 w As) (hc : cfgMay c = true) (h0 : 0 ≤ part) (h1 : part < c.job.parts) (he : 1 ≤ epoch)
    (hqr : ∀ r ∈ rs, quietRec r = true) (k : ∀ b w', Sat w0 w' (redHP b (redOf c part epoch) :: As) → R (.returned (.tuple #[.pointer (some ⟨b, 0, none⟩), .int .i64 0])) w') :
    Calls Tryz.prog 124 #[.agg #[cv.splits, .int .i64 c.job.parts, cv.map, cv.combine, cv.reduce, .int .i64 c.job.chunk, .int .i64 c.job.window, .int .i64 c.job.fuel, cv.marks, .int .i64 c.workers, .int .i64 c.tries, .int .i64 c.timeout], .int .i64 part, .int .i64 epoch, v] w R := by
  have hok := cfgMay_ok hc
  have hfit : Fits cv c.job := CfgOk.fits hok
  have hh := home_pos hc h0 h1
  have hw1 := hok.w1
  have hm0 := Int.emod_nonneg part (b := c.workers) (by omega)
  have hlen := hq.len' H
  have hxm := (inferInstance : RdV recE As v xs).len_le H
  have hp1 := hok.job.p2
  have hl6 := hok.job.s2
  go_enter Tryz.func124, Tryz.ntmps124
  go_wp2_with (first
      | (go_at_call 72; refine c114 (cv := cv) (c := c) H (by omega) (by omega) ?_; clear H; intro w H; rw [hh])
      | (go_at_call 47; refine c125 (cv := cv) (c := c) H hfit ?_; clear H; intro cv' w H)
      | (go_at_call 154; refine c222 H ?_; clear H; intro sb w H)
      | ((with_reducible refine is_box ?_); apply wl_box H; rfl; rfl; (conv => lhs; whnf); (conv => lhs; whnf); (clear H; intro b w H))
      | ((with_reducible refine is_load ?_); apply wl_load H; rfl; rfl; rfl; infer_instance; infer_instance; rfl; skip)
      | ((with_reducible refine is_load ?_); apply wl_load_agg H; rfl; rfl; rfl; infer_instance; infer_instance; (focus (simp; done)); (try simp only [cut, List.drop_zero, List.drop_succ_cons, List.take_succ_cons, List.take_zero]))
      | ((with_reducible refine is_alloc ?_); apply wl_alloc H; rfl; rfl; infer_instance; (conv => lhs; whnf); (clear H; intro b w H))
      | ((with_reducible refine is_store ?_); apply wl_store H; rfl; rfl; rfl; infer_instance; infer_instance; (focus (simp; done)); (conv => lhs; whnf); infer_instance; (clear H; intro w H; (try simp only [List.setIfInBounds_toArray, List.set_cons_zero, List.set_cons_succ] at H)))
      | ((with_reducible refine is_store ?_); apply wl_store_agg H; rfl; rfl; rfl; infer_instance; infer_instance; rfl; (conv => lhs; whnf); rfl; (first | (focus (simp; done)) | (simp; omega)); infer_instance; (clear H; intro w H; (try simp only [putAll, List.setIfInBounds_toArray, List.set_cons_zero, List.set_cons_succ] at H)))
      | ((with_reducible refine is_len ?_); apply wl_len recE H; rfl; rfl; (conv => lhs; whnf); infer_instance; infer_instance; skip)
      | ((with_reducible refine is_indexAddr ?_); apply wl_index recE H; rfl; rfl; (conv => lhs; whnf); rfl; infer_instance; infer_instance; infer_instance; (first | omega | (simp only [List.length_take, List.length_drop, List.length_append, List.length_cons, List.length_nil, List.length_replicate, List.length_set, Int.toNat_natCast]; omega)); (first | omega | (simp only [List.length_take, List.length_drop, List.length_append, List.length_cons, List.length_nil, List.length_replicate, List.length_set, Int.toNat_natCast]; omega)); skip)
      | ((with_reducible refine is_buildSlice ?_); apply wl_build1 v1E H; rfl; rfl; (conv => lhs; whnf); infer_instance; infer_instance; (conv => lhs; whnf); infer_instance; (clear H; intro v w H; have hone := One1.mk (ownL_one H)))
      | ((with_reducible refine is_append ?_); apply wl_append v1E H; rfl; rfl; (conv => lhs; whnf); (conv => lhs; whnf); infer_instance; infer_instance; infer_instance; infer_instance; (first | omega | (simp only [List.length_append, List.length_cons, List.length_nil, List.length_take, List.length_drop, List.length_replicate, Int.toNat_natCast]; omega) | (simp; omega)); (clear H; intro v w H; have hone := One1.mk (ownL_one H)))
      | ((with_reducible refine is_store ?_); apply wl_set recE H; rfl; rfl; rfl; infer_instance; infer_instance; (first | omega | (simp only [List.length_take, List.length_drop, List.length_append, List.length_cons, List.length_nil, List.length_replicate, List.length_set, Int.toNat_natCast]; omega)); (conv => lhs; whnf); infer_instance; (clear H; intro w H; (try simp only [Int.toNat_natCast] at H)))
      | ((with_reducible refine is_store ?_); apply wl_set_agg recE H; rfl; rfl; rfl; infer_instance; infer_instance; rfl; (first | omega | (simp only [List.length_take, List.length_drop, List.length_append, List.length_cons, List.length_nil, List.length_replicate, List.length_set, Int.toNat_natCast]; omega)); (conv => lhs; whnf); (conv => lhs; whnf); infer_instance; (clear H; intro w H; (try simp only [Int.toNat_natCast] at H)))
      | ((with_reducible refine is_load ?_); apply wl_elem_agg recE H; rfl; rfl; rfl; infer_instance; infer_instance; (first | assumption | (simp only [Int.toNat_natCast]; assumption)); rfl; (conv => lhs; whnf); skip)
      | ((with_reducible refine is_load ?_); apply wl_elem recE H; rfl; rfl; rfl; infer_instance; infer_instance; (first | assumption | (simp only [Int.toNat_natCast]; assumption)); (conv => lhs; whnf); skip)
      | ((with_reducible refine is_store ?_); apply wl_set v1E H; rfl; rfl; rfl; infer_instance; infer_instance; (first | omega | (simp only [List.length_take, List.length_drop, List.length_append, List.length_cons, List.length_nil, List.length_replicate, List.length_set, Int.toNat_natCast]; omega)); (conv => lhs; whnf); infer_instance; (clear H; intro w H; (try simp only [Int.toNat_natCast] at H)))
      | ((with_reducible refine is_store ?_); apply wl_set_agg v1E H; rfl; rfl; rfl; infer_instance; infer_instance; rfl; (first | omega | (simp only [List.length_take, List.length_drop, List.length_append, List.length_cons, List.length_nil, List.length_replicate, List.length_set, Int.toNat_natCast]; omega)); (conv => lhs; whnf); (conv => lhs; whnf); infer_instance; (clear H; intro w H; (try simp only [Int.toNat_natCast] at H)))
      | ((with_reducible refine is_load ?_); apply wl_elem_agg v1E H; rfl; rfl; rfl; infer_instance; infer_instance; (first | assumption | (simp only [Int.toNat_natCast]; assumption)); rfl; (conv => lhs; whnf); skip)
      | ((with_reducible refine is_load ?_); apply wl_elem v1E H; rfl; rfl; rfl; infer_instance; infer_instance; (first | assumption | (simp only [Int.toNat_natCast]; assumption)); (conv => lhs; whnf); skip))
  have hl' : cv'.svs.length = c.job.splits.length := (RdJob.get (cv := cv') H).each.len
  go_loopw [31] (fun i w => ∃ j : Nat, j ≤ xs.length ∧ i = .int .i64 j ∧ Sat w0 w (.pt b (.cells (redCells cv' c part epoch spV0 spV0 spV0 spV0 spV0 spV0 sb (.slice none 0 0)) 212 (0, 0)) :: stageHP sb [] :: jobHP cv' c.job :: As)) (fun i _ => xs.length - (intOf i).toNat)
  case atStart => exact ⟨0, by omega, rfl, H.ent⟩
  case round =>
    obtain ⟨j, hj, rfl, H⟩ := hrel
    by_cases hlt : j < xs.length
    · obtain ⟨x, hx⟩ : ∃ x, xs[j]? = some x := ⟨xs[j]'hlt, by simp⟩
      obtain ⟨y, hy⟩ : ∃ y, rs[j]? = some y := ⟨rs[j]'(by omega), by simp⟩
      obtain ⟨s, p, rfl⟩ : ∃ s p, y = x.rcd s p := ⟨_, _, hq.eq' hx hy H.drop.drop.drop⟩
      have hk := hqr _ (List.mem_of_getElem? hy)
      simp only [quietRec, Bool.and_eq_true, decide_eq_true_eq, ne_eq] at hk
      obtain ⟨hk4, hk5⟩ := hk
      by_cases hp : x.part = part
      · by_cases hs : 0 ≤ x.split ∧ x.split < c.job.splits.length
        · obtain ⟨hs0, hs1⟩ := hs
          go_wp2_with (first
              | (go_at_call 140; refine c223 (cv := cv') H hl' hs0 hs1 (by omega) ?_; clear H; intro w H)
              | ((with_reducible refine is_box ?_); apply wl_box H; rfl; rfl; (conv => lhs; whnf); (conv => lhs; whnf); (clear H; intro b w H))
              | ((with_reducible refine is_load ?_); apply wl_load H; rfl; rfl; rfl; infer_instance; infer_instance; rfl; skip)
              | ((with_reducible refine is_load ?_); apply wl_load_agg H; rfl; rfl; rfl; infer_instance; infer_instance; (focus (simp; done)); (try simp only [cut, List.drop_zero, List.drop_succ_cons, List.take_succ_cons, List.take_zero]))
              | ((with_reducible refine is_alloc ?_); apply wl_alloc H; rfl; rfl; infer_instance; (conv => lhs; whnf); (clear H; intro b w H))
              | ((with_reducible refine is_store ?_); apply wl_store H; rfl; rfl; rfl; infer_instance; infer_instance; (focus (simp; done)); (conv => lhs; whnf); infer_instance; (clear H; intro w H; (try simp only [List.setIfInBounds_toArray, List.set_cons_zero, List.set_cons_succ] at H)))
              | ((with_reducible refine is_store ?_); apply wl_store_agg H; rfl; rfl; rfl; infer_instance; infer_instance; rfl; (conv => lhs; whnf); rfl; (first | (focus (simp; done)) | (simp; omega)); infer_instance; (clear H; intro w H; (try simp only [putAll, List.setIfInBounds_toArray, List.set_cons_zero, List.set_cons_succ] at H)))
              | ((with_reducible refine is_len ?_); apply wl_len recE H; rfl; rfl; (conv => lhs; whnf); infer_instance; infer_instance; skip)
              | ((with_reducible refine is_indexAddr ?_); apply wl_index recE H; rfl; rfl; (conv => lhs; whnf); rfl; infer_instance; infer_instance; infer_instance; (first | omega | (simp only [List.length_take, List.length_drop, List.length_append, List.length_cons, List.length_nil, List.length_replicate, List.length_set, Int.toNat_natCast]; omega)); (first | omega | (simp only [List.length_take, List.length_drop, List.length_append, List.length_cons, List.length_nil, List.length_replicate, List.length_set, Int.toNat_natCast]; omega)); skip)
              | ((with_reducible refine is_buildSlice ?_); apply wl_build1 v1E H; rfl; rfl; (conv => lhs; whnf); infer_instance; infer_instance; (conv => lhs; whnf); infer_instance; (clear H; intro v w H; have hone := One1.mk (ownL_one H)))
              | ((with_reducible refine is_append ?_); apply wl_append v1E H; rfl; rfl; (conv => lhs; whnf); (conv => lhs; whnf); infer_instance; infer_instance; infer_instance; infer_instance; (first | omega | (simp only [List.length_append, List.length_cons, List.length_nil, List.length_take, List.length_drop, List.length_replicate, Int.toNat_natCast]; omega) | (simp; omega)); (clear H; intro v w H; have hone := One1.mk (ownL_one H)))
              | ((with_reducible refine is_store ?_); apply wl_set recE H; rfl; rfl; rfl; infer_instance; infer_instance; (first | omega | (simp only [List.length_take, List.length_drop, List.length_append, List.length_cons, List.length_nil, List.length_replicate, List.length_set, Int.toNat_natCast]; omega)); (conv => lhs; whnf); infer_instance; (clear H; intro w H; (try simp only [Int.toNat_natCast] at H)))
              | ((with_reducible refine is_store ?_); apply wl_set_agg recE H; rfl; rfl; rfl; infer_instance; infer_instance; rfl; (first | omega | (simp only [List.length_take, List.length_drop, List.length_append, List.length_cons, List.length_nil, List.length_replicate, List.length_set, Int.toNat_natCast]; omega)); (conv => lhs; whnf); (conv => lhs; whnf); infer_instance; (clear H; intro w H; (try simp only [Int.toNat_natCast] at H)))
              | ((with_reducible refine is_load ?_); apply wl_elem_agg recE H; rfl; rfl; rfl; infer_instance; infer_instance; (first | assumption | (simp only [Int.toNat_natCast]; assumption)); rfl; (conv => lhs; whnf); skip)
              | ((with_reducible refine is_load ?_); apply wl_elem recE H; rfl; rfl; rfl; infer_instance; infer_instance; (first | assumption | (simp only [Int.toNat_natCast]; assumption)); (conv => lhs; whnf); skip)
              | ((with_reducible refine is_store ?_); apply wl_set v1E H; rfl; rfl; rfl; infer_instance; infer_instance; (first | omega | (simp only [List.length_take, List.length_drop, List.length_append, List.length_cons, List.length_nil, List.length_replicate, List.length_set, Int.toNat_natCast]; omega)); (conv => lhs; whnf); infer_instance; (clear H; intro w H; (try simp only [Int.toNat_natCast] at H)))
              | ((with_reducible refine is_store ?_); apply wl_set_agg v1E H; rfl; rfl; rfl; infer_instance; infer_instance; rfl; (first | omega | (simp only [List.length_take, List.length_drop, List.length_append, List.length_cons, List.length_nil, List.length_replicate, List.length_set, Int.toNat_natCast]; omega)); (conv => lhs; whnf); (conv => lhs; whnf); infer_instance; (clear H; intro w H; (try simp only [Int.toNat_natCast] at H)))
              | ((with_reducible refine is_load ?_); apply wl_elem_agg v1E H; rfl; rfl; rfl; infer_instance; infer_instance; (first | assumption | (simp only [Int.toNat_natCast]; assumption)); rfl; (conv => lhs; whnf); skip)
              | ((with_reducible refine is_load ?_); apply wl_elem v1E H; rfl; rfl; rfl; infer_instance; infer_instance; (first | assumption | (simp only [Int.toNat_natCast]; assumption)); (conv => lhs; whnf); skip))
          go_roundw
          case rel => exact ⟨j + 1, by omega, by go_num, H.ent⟩
          case measure => simp [intOf]; omega
        · go_wp2_with (first
              | (go_at_call 140; refine c223n (cv := cv') (ss := []) H hl' (by omega) ?_; clear H; intro w H)
              | ((with_reducible refine is_box ?_); apply wl_box H; rfl; rfl; (conv => lhs; whnf); (conv => lhs; whnf); (clear H; intro b w H))
              | ((with_reducible refine is_load ?_); apply wl_load H; rfl; rfl; rfl; infer_instance; infer_instance; rfl; skip)
              | ((with_reducible refine is_load ?_); apply wl_load_agg H; rfl; rfl; rfl; infer_instance; infer_instance; (focus (simp; done)); (try simp only [cut, List.drop_zero, List.drop_succ_cons, List.take_succ_cons, List.take_zero]))
              | ((with_reducible refine is_alloc ?_); apply wl_alloc H; rfl; rfl; infer_instance; (conv => lhs; whnf); (clear H; intro b w H))
              | ((with_reducible refine is_store ?_); apply wl_store H; rfl; rfl; rfl; infer_instance; infer_instance; (focus (simp; done)); (conv => lhs; whnf); infer_instance; (clear H; intro w H; (try simp only [List.setIfInBounds_toArray, List.set_cons_zero, List.set_cons_succ] at H)))
              | ((with_reducible refine is_store ?_); apply wl_store_agg H; rfl; rfl; rfl; infer_instance; infer_instance; rfl; (conv => lhs; whnf); rfl; (first | (focus (simp; done)) | (simp; omega)); infer_instance; (clear H; intro w H; (try simp only [putAll, List.setIfInBounds_toArray, List.set_cons_zero, List.set_cons_succ] at H)))
              | ((with_reducible refine is_len ?_); apply wl_len recE H; rfl; rfl; (conv => lhs; whnf); infer_instance; infer_instance; skip)
              | ((with_reducible refine is_indexAddr ?_); apply wl_index recE H; rfl; rfl; (conv => lhs; whnf); rfl; infer_instance; infer_instance; infer_instance; (first | omega | (simp only [List.length_take, List.length_drop, List.length_append, List.length_cons, List.length_nil, List.length_replicate, List.length_set, Int.toNat_natCast]; omega)); (first | omega | (simp only [List.length_take, List.length_drop, List.length_append, List.length_cons, List.length_nil, List.length_replicate, List.length_set, Int.toNat_natCast]; omega)); skip)
              | ((with_reducible refine is_buildSlice ?_); apply wl_build1 v1E H; rfl; rfl; (conv => lhs; whnf); infer_instance; infer_instance; (conv => lhs; whnf); infer_instance; (clear H; intro v w H; have hone := One1.mk (ownL_one H)))
              | ((with_reducible refine is_append ?_); apply wl_append v1E H; rfl; rfl; (conv => lhs; whnf); (conv => lhs; whnf); infer_instance; infer_instance; infer_instance; infer_instance; (first | omega | (simp only [List.length_append, List.length_cons, List.length_nil, List.length_take, List.length_drop, List.length_replicate, Int.toNat_natCast]; omega) | (simp; omega)); (clear H; intro v w H; have hone := One1.mk (ownL_one H)))
              | ((with_reducible refine is_store ?_); apply wl_set recE H; rfl; rfl; rfl; infer_instance; infer_instance; (first | omega | (simp only [List.length_take, List.length_drop, List.length_append, List.length_cons, List.length_nil, List.length_replicate, List.length_set, Int.toNat_natCast]; omega)); (conv => lhs; whnf); infer_instance; (clear H; intro w H; (try simp only [Int.toNat_natCast] at H)))
              | ((with_reducible refine is_store ?_); apply wl_set_agg recE H; rfl; rfl; rfl; infer_instance; infer_instance; rfl; (first | omega | (simp only [List.length_take, List.length_drop, List.length_append, List.length_cons, List.length_nil, List.length_replicate, List.length_set, Int.toNat_natCast]; omega)); (conv => lhs; whnf); (conv => lhs; whnf); infer_instance; (clear H; intro w H; (try simp only [Int.toNat_natCast] at H)))
              | ((with_reducible refine is_load ?_); apply wl_elem_agg recE H; rfl; rfl; rfl; infer_instance; infer_instance; (first | assumption | (simp only [Int.toNat_natCast]; assumption)); rfl; (conv => lhs; whnf); skip)
              | ((with_reducible refine is_load ?_); apply wl_elem recE H; rfl; rfl; rfl; infer_instance; infer_instance; (first | assumption | (simp only [Int.toNat_natCast]; assumption)); (conv => lhs; whnf); skip)
              | ((with_reducible refine is_store ?_); apply wl_set v1E H; rfl; rfl; rfl; infer_instance; infer_instance; (first | omega | (simp only [List.length_take, List.length_drop, List.length_append, List.length_cons, List.length_nil, List.length_replicate, List.length_set, Int.toNat_natCast]; omega)); (conv => lhs; whnf); infer_instance; (clear H; intro w H; (try simp only [Int.toNat_natCast] at H)))
              | ((with_reducible refine is_store ?_); apply wl_set_agg v1E H; rfl; rfl; rfl; infer_instance; infer_instance; rfl; (first | omega | (simp only [List.length_take, List.length_drop, List.length_append, List.length_cons, List.length_nil, List.length_replicate, List.length_set, Int.toNat_natCast]; omega)); (conv => lhs; whnf); (conv => lhs; whnf); infer_instance; (clear H; intro w H; (try simp only [Int.toNat_natCast] at H)))
              | ((with_reducible refine is_load ?_); apply wl_elem_agg v1E H; rfl; rfl; rfl; infer_instance; infer_instance; (first | assumption | (simp only [Int.toNat_natCast]; assumption)); rfl; (conv => lhs; whnf); skip)
              | ((with_reducible refine is_load ?_); apply wl_elem v1E H; rfl; rfl; rfl; infer_instance; infer_instance; (first | assumption | (simp only [Int.toNat_natCast]; assumption)); (conv => lhs; whnf); skip))
          go_roundw
          case rel => exact ⟨j + 1, by omega, by go_num, H.ent⟩
          case measure => simp [intOf]; omega
      · go_wp2_with (first
            | ((with_reducible refine is_box ?_); apply wl_box H; rfl; rfl; (conv => lhs; whnf); (conv => lhs; whnf); (clear H; intro b w H))
            | ((with_reducible refine is_load ?_); apply wl_load H; rfl; rfl; rfl; infer_instance; infer_instance; rfl; skip)
            | ((with_reducible refine is_load ?_); apply wl_load_agg H; rfl; rfl; rfl; infer_instance; infer_instance; (focus (simp; done)); (try simp only [cut, List.drop_zero, List.drop_succ_cons, List.take_succ_cons, List.take_zero]))
            | ((with_reducible refine is_alloc ?_); apply wl_alloc H; rfl; rfl; infer_instance; (conv => lhs; whnf); (clear H; intro b w H))
            | ((with_reducible refine is_store ?_); apply wl_store H; rfl; rfl; rfl; infer_instance; infer_instance; (focus (simp; done)); (conv => lhs; whnf); infer_instance; (clear H; intro w H; (try simp only [List.setIfInBounds_toArray, List.set_cons_zero, List.set_cons_succ] at H)))
            | ((with_reducible refine is_store ?_); apply wl_store_agg H; rfl; rfl; rfl; infer_instance; infer_instance; rfl; (conv => lhs; whnf); rfl; (first | (focus (simp; done)) | (simp; omega)); infer_instance; (clear H; intro w H; (try simp only [putAll, List.setIfInBounds_toArray, List.set_cons_zero, List.set_cons_succ] at H)))
            | ((with_reducible refine is_len ?_); apply wl_len recE H; rfl; rfl; (conv => lhs; whnf); infer_instance; infer_instance; skip)
            | ((with_reducible refine is_indexAddr ?_); apply wl_index recE H; rfl; rfl; (conv => lhs; whnf); rfl; infer_instance; infer_instance; infer_instance; (first | omega | (simp only [List.length_take, List.length_drop, List.length_append, List.length_cons, List.length_nil, List.length_replicate, List.length_set, Int.toNat_natCast]; omega)); (first | omega | (simp only [List.length_take, List.length_drop, List.length_append, List.length_cons, List.length_nil, List.length_replicate, List.length_set, Int.toNat_natCast]; omega)); skip)
            | ((with_reducible refine is_buildSlice ?_); apply wl_build1 v1E H; rfl; rfl; (conv => lhs; whnf); infer_instance; infer_instance; (conv => lhs; whnf); infer_instance; (clear H; intro v w H; have hone := One1.mk (ownL_one H)))
            | ((with_reducible refine is_append ?_); apply wl_append v1E H; rfl; rfl; (conv => lhs; whnf); (conv => lhs; whnf); infer_instance; infer_instance; infer_instance; infer_instance; (first | omega | (simp only [List.length_append, List.length_cons, List.length_nil, List.length_take, List.length_drop, List.length_replicate, Int.toNat_natCast]; omega) | (simp; omega)); (clear H; intro v w H; have hone := One1.mk (ownL_one H)))
            | ((with_reducible refine is_store ?_); apply wl_set recE H; rfl; rfl; rfl; infer_instance; infer_instance; (first | omega | (simp only [List.length_take, List.length_drop, List.length_append, List.length_cons, List.length_nil, List.length_replicate, List.length_set, Int.toNat_natCast]; omega)); (conv => lhs; whnf); infer_instance; (clear H; intro w H; (try simp only [Int.toNat_natCast] at H)))
            | ((with_reducible refine is_store ?_); apply wl_set_agg recE H; rfl; rfl; rfl; infer_instance; infer_instance; rfl; (first | omega | (simp only [List.length_take, List.length_drop, List.length_append, List.length_cons, List.length_nil, List.length_replicate, List.length_set, Int.toNat_natCast]; omega)); (conv => lhs; whnf); (conv => lhs; whnf); infer_instance; (clear H; intro w H; (try simp only [Int.toNat_natCast] at H)))
            | ((with_reducible refine is_load ?_); apply wl_elem_agg recE H; rfl; rfl; rfl; infer_instance; infer_instance; (first | assumption | (simp only [Int.toNat_natCast]; assumption)); rfl; (conv => lhs; whnf); skip)
            | ((with_reducible refine is_load ?_); apply wl_elem recE H; rfl; rfl; rfl; infer_instance; infer_instance; (first | assumption | (simp only [Int.toNat_natCast]; assumption)); (conv => lhs; whnf); skip)
            | ((with_reducible refine is_store ?_); apply wl_set v1E H; rfl; rfl; rfl; infer_instance; infer_instance; (first | omega | (simp only [List.length_take, List.length_drop, List.length_append, List.length_cons, List.length_nil, List.length_replicate, List.length_set, Int.toNat_natCast]; omega)); (conv => lhs; whnf); infer_instance; (clear H; intro w H; (try simp only [Int.toNat_natCast] at H)))
            | ((with_reducible refine is_store ?_); apply wl_set_agg v1E H; rfl; rfl; rfl; infer_instance; infer_instance; rfl; (first | omega | (simp only [List.length_take, List.length_drop, List.length_append, List.length_cons, List.length_nil, List.length_replicate, List.length_set, Int.toNat_natCast]; omega)); (conv => lhs; whnf); (conv => lhs; whnf); infer_instance; (clear H; intro w H; (try simp only [Int.toNat_natCast] at H)))
            | ((with_reducible refine is_load ?_); apply wl_elem_agg v1E H; rfl; rfl; rfl; infer_instance; infer_instance; (first | assumption | (simp only [Int.toNat_natCast]; assumption)); rfl; (conv => lhs; whnf); skip)
            | ((with_reducible refine is_load ?_); apply wl_elem v1E H; rfl; rfl; rfl; infer_instance; infer_instance; (first | assumption | (simp only [Int.toNat_natCast]; assumption)); (conv => lhs; whnf); skip))
        go_roundw
        case rel => exact ⟨j + 1, by omega, by go_num, H.ent⟩
        case measure => simp [intOf]; omega
    · obtain rfl : j = xs.length := by omega
      go_wp2_with (first
          | ((with_reducible refine is_box ?_); apply wl_box H; rfl; rfl; (conv => lhs; whnf); (conv => lhs; whnf); (clear H; intro b w H))
          | ((with_reducible refine is_load ?_); apply wl_load H; rfl; rfl; rfl; infer_instance; infer_instance; rfl; skip)
          | ((with_reducible refine is_load ?_); apply wl_load_agg H; rfl; rfl; rfl; infer_instance; infer_instance; (focus (simp; done)); (try simp only [cut, List.drop_zero, List.drop_succ_cons, List.take_succ_cons, List.take_zero]))
          | ((with_reducible refine is_alloc ?_); apply wl_alloc H; rfl; rfl; infer_instance; (conv => lhs; whnf); (clear H; intro b w H))
          | ((with_reducible refine is_store ?_); apply wl_store H; rfl; rfl; rfl; infer_instance; infer_instance; (focus (simp; done)); (conv => lhs; whnf); infer_instance; (clear H; intro w H; (try simp only [List.setIfInBounds_toArray, List.set_cons_zero, List.set_cons_succ] at H)))
          | ((with_reducible refine is_store ?_); apply wl_store_agg H; rfl; rfl; rfl; infer_instance; infer_instance; rfl; (conv => lhs; whnf); rfl; (first | (focus (simp; done)) | (simp; omega)); infer_instance; (clear H; intro w H; (try simp only [putAll, List.setIfInBounds_toArray, List.set_cons_zero, List.set_cons_succ] at H)))
          | ((with_reducible refine is_len ?_); apply wl_len recE H; rfl; rfl; (conv => lhs; whnf); infer_instance; infer_instance; skip)
          | ((with_reducible refine is_indexAddr ?_); apply wl_index recE H; rfl; rfl; (conv => lhs; whnf); rfl; infer_instance; infer_instance; infer_instance; (first | omega | (simp only [List.length_take, List.length_drop, List.length_append, List.length_cons, List.length_nil, List.length_replicate, List.length_set, Int.toNat_natCast]; omega)); (first | omega | (simp only [List.length_take, List.length_drop, List.length_append, List.length_cons, List.length_nil, List.length_replicate, List.length_set, Int.toNat_natCast]; omega)); skip)
          | ((with_reducible refine is_buildSlice ?_); apply wl_build1 v1E H; rfl; rfl; (conv => lhs; whnf); infer_instance; infer_instance; (conv => lhs; whnf); infer_instance; (clear H; intro v w H; have hone := One1.mk (ownL_one H)))
          | ((with_reducible refine is_append ?_); apply wl_append v1E H; rfl; rfl; (conv => lhs; whnf); (conv => lhs; whnf); infer_instance; infer_instance; infer_instance; infer_instance; (first | omega | (simp only [List.length_append, List.length_cons, List.length_nil, List.length_take, List.length_drop, List.length_replicate, Int.toNat_natCast]; omega) | (simp; omega)); (clear H; intro v w H; have hone := One1.mk (ownL_one H)))
          | ((with_reducible refine is_store ?_); apply wl_set recE H; rfl; rfl; rfl; infer_instance; infer_instance; (first | omega | (simp only [List.length_take, List.length_drop, List.length_append, List.length_cons, List.length_nil, List.length_replicate, List.length_set, Int.toNat_natCast]; omega)); (conv => lhs; whnf); infer_instance; (clear H; intro w H; (try simp only [Int.toNat_natCast] at H)))
          | ((with_reducible refine is_store ?_); apply wl_set_agg recE H; rfl; rfl; rfl; infer_instance; infer_instance; rfl; (first | omega | (simp only [List.length_take, List.length_drop, List.length_append, List.length_cons, List.length_nil, List.length_replicate, List.length_set, Int.toNat_natCast]; omega)); (conv => lhs; whnf); (conv => lhs; whnf); infer_instance; (clear H; intro w H; (try simp only [Int.toNat_natCast] at H)))
          | ((with_reducible refine is_load ?_); apply wl_elem_agg recE H; rfl; rfl; rfl; infer_instance; infer_instance; (first | assumption | (simp only [Int.toNat_natCast]; assumption)); rfl; (conv => lhs; whnf); skip)
          | ((with_reducible refine is_load ?_); apply wl_elem recE H; rfl; rfl; rfl; infer_instance; infer_instance; (first | assumption | (simp only [Int.toNat_natCast]; assumption)); (conv => lhs; whnf); skip)
          | ((with_reducible refine is_store ?_); apply wl_set v1E H; rfl; rfl; rfl; infer_instance; infer_instance; (first | omega | (simp only [List.length_take, List.length_drop, List.length_append, List.length_cons, List.length_nil, List.length_replicate, List.length_set, Int.toNat_natCast]; omega)); (conv => lhs; whnf); infer_instance; (clear H; intro w H; (try simp only [Int.toNat_natCast] at H)))
          | ((with_reducible refine is_store ?_); apply wl_set_agg v1E H; rfl; rfl; rfl; infer_instance; infer_instance; rfl; (first | omega | (simp only [List.length_take, List.length_drop, List.length_append, List.length_cons, List.length_nil, List.length_replicate, List.length_set, Int.toNat_natCast]; omega)); (conv => lhs; whnf); (conv => lhs; whnf); infer_instance; (clear H; intro w H; (try simp only [Int.toNat_natCast] at H)))
          | ((with_reducible refine is_load ?_); apply wl_elem_agg v1E H; rfl; rfl; rfl; infer_instance; infer_instance; (first | assumption | (simp only [Int.toNat_natCast]; assumption)); rfl; (conv => lhs; whnf); skip)
          | ((with_reducible refine is_load ?_); apply wl_elem v1E H; rfl; rfl; rfl; infer_instance; infer_instance; (first | assumption | (simp only [Int.toNat_natCast]; assumption)); (conv => lhs; whnf); skip))
      have H1 : Sat w0 wr (redHP b (redOf c part epoch) :: As) := by
        refine redHP_iff.2 ⟨⟨cv', spV0, spV0, spV0, spV0, spV0, spV0, sb, .slice none 0 0⟩, ?_⟩
        have H2 := setsHP_iff.2 ⟨[], ownL_nil (ownZ_nil H)⟩
        show Sat w0 wr (.pt b (.cells (redCells cv' c part epoch spV0 spV0 spV0 spV0 spV0 spV0 sb (.slice none 0 0)) 212 (0, 0)) :: jobHP cv' c.job :: ownZ ownSp [spV0, spV0, spV0, spV0, spV0, spV0] (List.replicate 6 {}) :: stageHP sb [] :: setsHP (.slice none 0 0) [] :: As)
        exact (spV0_own H2).ent
      first | exact H1 | exact k _ _ H1
end Go.Proofs.YtcdkaggdidfenaaGreatDoor
