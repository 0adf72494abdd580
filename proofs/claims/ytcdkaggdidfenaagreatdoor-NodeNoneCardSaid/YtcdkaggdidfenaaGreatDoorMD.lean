/- A part of the proof: contracts of functions of the given program, and the laws on memory that they lean on. -/
import Derived.Test.YtcdkaggdidfenaaGreatDoorMC
set_option linter.all false
namespace Go.Proofs.YtcdkaggdidfenaaGreatDoor
open Go.RowKit Go.Proofs Go.SL St
set_option maxRecDepth 40000
variable {w w0 : World} {As r : List HP} {R : Ending → World → Prop}

theorem splitsOk_next {ss : List (List Pr)} {i : Nat} {y : List Pr} (hy : ss[i]? = some y) (h : splitsOk (ss.take i) = true) : splitsOk (ss.take (i + 1)) = (decide (y.length ≤ 8) && pairsMay y) := by
  rw [List.take_add_one, hy]
  simp only [splitsOk, List.all_append, Option.toList_some] at *
  rw [h]; simp

theorem splitsOk_not {ss : List (List Pr)} {i : Nat} (h : splitsOk (ss.take i) = false) : splitsOk ss = false := by
  rw [← List.take_append_drop i ss]
  simp only [splitsOk, List.all_append] at *
  rw [h]; rfl

set_option maxHeartbeats 4000000 in
theorem c156 {cv : CfgV} {j : Job} [hr : RdJob As cv j] (H : Sat w0 w As) (k : ∀ w', Sat w0 w' As → R (.returned (.bool (jobMay j))) w') :
    Calls Tryz.prog 42 #[.agg #[cv.splits, .int .i64 j.parts, cv.map, cv.combine, cv.reduce, .int .i64 j.chunk, .int .i64 j.window, .int .i64 j.fuel, cv.marks]] w R := by
  have hsl := (hr.get H).each.len
  have hb1 := (inferInstance : RdV v1E As cv.splits cv.svs).len_le H
  have hb2 := (inferInstance : RdV intE As cv.marks j.marks).len_le H
  go_enter Tryz.func42, Tryz.ntmps42
  go_wp2_with (first
      | (go_at_call 43; refine c157 H ?_; clear H; intro w H)
      | ((with_reducible refine is_box ?_); apply wl_box H; rfl; rfl; (conv => lhs; whnf); (conv => lhs; whnf); (clear H; intro b w H))
      | ((with_reducible refine is_load ?_); apply wl_load H; rfl; rfl; rfl; infer_instance; infer_instance; rfl; skip)
      | ((with_reducible refine is_load ?_); apply wl_load_agg H; rfl; rfl; rfl; infer_instance; infer_instance; (focus (simp; done)); (try simp only [cut, List.drop_zero, List.drop_succ_cons, List.take_succ_cons, List.take_zero]))
      | ((with_reducible refine is_len ?_); apply wl_len v1E H; rfl; rfl; (conv => lhs; whnf); infer_instance; infer_instance; skip)
      | ((with_reducible refine is_len ?_); apply wl_len intE H; rfl; rfl; (conv => lhs; whnf); infer_instance; infer_instance; skip)
      | ((with_reducible refine is_indexAddr ?_); apply wl_index v1E H; rfl; rfl; (conv => lhs; whnf); rfl; infer_instance; infer_instance; infer_instance; (first | omega | (simp only [List.length_take, List.length_drop, List.length_append, List.length_cons, List.length_nil, List.length_replicate, List.length_set, Int.toNat_natCast]; omega)); (first | omega | (simp only [List.length_take, List.length_drop, List.length_append, List.length_cons, List.length_nil, List.length_replicate, List.length_set, Int.toNat_natCast]; omega)); skip)
      | ((with_reducible refine is_len ?_); apply wl_len pairE H; rfl; rfl; (conv => lhs; whnf); infer_instance; infer_instance; skip)
      | ((with_reducible refine is_indexAddr ?_); apply wl_index intE H; rfl; rfl; (conv => lhs; whnf); rfl; infer_instance; infer_instance; infer_instance; (first | omega | (simp only [List.length_take, List.length_drop, List.length_append, List.length_cons, List.length_nil, List.length_replicate, List.length_set, Int.toNat_natCast]; omega)); (first | omega | (simp only [List.length_take, List.length_drop, List.length_append, List.length_cons, List.length_nil, List.length_replicate, List.length_set, Int.toNat_natCast]; omega)); skip)
      | ((with_reducible refine is_load ?_); apply wl_elem_agg v1E H; rfl; rfl; rfl; infer_instance; infer_instance; (first | assumption | (simp only [Int.toNat_natCast]; assumption)); rfl; (conv => lhs; whnf); skip)
      | ((with_reducible refine is_load ?_); apply wl_elem v1E H; rfl; rfl; rfl; infer_instance; infer_instance; (first | assumption | (simp only [Int.toNat_natCast]; assumption)); (conv => lhs; whnf); skip)
      | ((with_reducible refine is_load ?_); apply wl_elem_agg intE H; rfl; rfl; rfl; infer_instance; infer_instance; (first | assumption | (simp only [Int.toNat_natCast]; assumption)); rfl; (conv => lhs; whnf); skip)
      | ((with_reducible refine is_load ?_); apply wl_elem intE H; rfl; rfl; rfl; infer_instance; infer_instance; (first | assumption | (simp only [Int.toNat_natCast]; assumption)); (conv => lhs; whnf); skip)
      | ((with_reducible refine is_load ?_); apply wl_elem_agg pairE H; rfl; rfl; rfl; infer_instance; infer_instance; (first | assumption | (simp only [Int.toNat_natCast]; assumption)); rfl; (conv => lhs; whnf); skip)
      | ((with_reducible refine is_load ?_); apply wl_elem pairE H; rfl; rfl; rfl; infer_instance; infer_instance; (first | assumption | (simp only [Int.toNat_natCast]; assumption)); (conv => lhs; whnf); skip))
  any_goals (solve | (refine fin (k _ H.ent) ?_; simp_all [jobMay]; done) | (refine fin (k _ H.ent) ?_; simp_all [jobMay]; omega))
  have hsp : j.splits.length ≤ 6 := by
    rename_i h _ _ _ _
    simp_all [within]
    omega
  go_loopw [28] (fun i w => ∃ n : Nat, n ≤ j.splits.length ∧ splitsOk (j.splits.take n) = true ∧ i = .int .i64 n ∧ Sat w0 w (.pt b (.cells #[cv.splits, .int .i64 j.parts, cv.map, cv.combine, cv.reduce, .int .i64 j.chunk, .int .i64 j.window, .int .i64 j.fuel, cv.marks] 26 (0, 0)) :: As)) (fun i _ => j.splits.length - (intOf i).toNat)
  case atStart => exact ⟨0, by omega, by simp [splitsOk], rfl, H.ent⟩
  case round =>
    obtain ⟨n, hn, hs, rfl, H⟩ := hrel
    by_cases hlt : n < j.splits.length
    · obtain ⟨x, hx⟩ : ∃ x, cv.svs[n]? = some x := ⟨cv.svs[n]'(by omega), by simp⟩
      obtain ⟨y, hy⟩ : ∃ y, j.splits[n]? = some y := ⟨j.splits[n]'(by omega), by simp⟩
      have hxy : RdV pairE As x.v y := RdJob.rsplit hx hy
      have hnx := splitsOk_next hy hs
      cases hm : pairsMay y
      all_goals
        go_wp2_with (first
            | (go_at_call 73; refine c228 H ?_; clear H; intro w H; rw [hm])
            | ((with_reducible refine is_box ?_); apply wl_box H; rfl; rfl; (conv => lhs; whnf); (conv => lhs; whnf); (clear H; intro b w H))
            | ((with_reducible refine is_load ?_); apply wl_load H; rfl; rfl; rfl; infer_instance; infer_instance; rfl; skip)
            | ((with_reducible refine is_load ?_); apply wl_load_agg H; rfl; rfl; rfl; infer_instance; infer_instance; (focus (simp; done)); (try simp only [cut, List.drop_zero, List.drop_succ_cons, List.take_succ_cons, List.take_zero]))
            | ((with_reducible refine is_len ?_); apply wl_len v1E H; rfl; rfl; (conv => lhs; whnf); infer_instance; infer_instance; skip)
            | ((with_reducible refine is_len ?_); apply wl_len intE H; rfl; rfl; (conv => lhs; whnf); infer_instance; infer_instance; skip)
            | ((with_reducible refine is_indexAddr ?_); apply wl_index v1E H; rfl; rfl; (conv => lhs; whnf); rfl; infer_instance; infer_instance; infer_instance; (first | omega | (simp only [List.length_take, List.length_drop, List.length_append, List.length_cons, List.length_nil, List.length_replicate, List.length_set, Int.toNat_natCast]; omega)); (first | omega | (simp only [List.length_take, List.length_drop, List.length_append, List.length_cons, List.length_nil, List.length_replicate, List.length_set, Int.toNat_natCast]; omega)); skip)
            | ((with_reducible refine is_len ?_); apply wl_len pairE H; rfl; rfl; (conv => lhs; whnf); infer_instance; infer_instance; skip)
            | ((with_reducible refine is_indexAddr ?_); apply wl_index intE H; rfl; rfl; (conv => lhs; whnf); rfl; infer_instance; infer_instance; infer_instance; (first | omega | (simp only [List.length_take, List.length_drop, List.length_append, List.length_cons, List.length_nil, List.length_replicate, List.length_set, Int.toNat_natCast]; omega)); (first | omega | (simp only [List.length_take, List.length_drop, List.length_append, List.length_cons, List.length_nil, List.length_replicate, List.length_set, Int.toNat_natCast]; omega)); skip)
            | ((with_reducible refine is_load ?_); apply wl_elem_agg v1E H; rfl; rfl; rfl; infer_instance; infer_instance; (first | assumption | (simp only [Int.toNat_natCast]; assumption)); rfl; (conv => lhs; whnf); skip)
            | ((with_reducible refine is_load ?_); apply wl_elem v1E H; rfl; rfl; rfl; infer_instance; infer_instance; (first | assumption | (simp only [Int.toNat_natCast]; assumption)); (conv => lhs; whnf); skip)
            | ((with_reducible refine is_load ?_); apply wl_elem_agg intE H; rfl; rfl; rfl; infer_instance; infer_instance; (first | assumption | (simp only [Int.toNat_natCast]; assumption)); rfl; (conv => lhs; whnf); skip)
            | ((with_reducible refine is_load ?_); apply wl_elem intE H; rfl; rfl; rfl; infer_instance; infer_instance; (first | assumption | (simp only [Int.toNat_natCast]; assumption)); (conv => lhs; whnf); skip)
            | ((with_reducible refine is_load ?_); apply wl_elem_agg pairE H; rfl; rfl; rfl; infer_instance; infer_instance; (first | assumption | (simp only [Int.toNat_natCast]; assumption)); rfl; (conv => lhs; whnf); skip)
            | ((with_reducible refine is_load ?_); apply wl_elem pairE H; rfl; rfl; rfl; infer_instance; infer_instance; (first | assumption | (simp only [Int.toNat_natCast]; assumption)); (conv => lhs; whnf); skip))
      any_goals (solve | (refine fin (k _ H.ent) ?_; have hso := splitsOk_not (ss := j.splits) (i := n + 1) (by rw [hnx, hm]; simp; try omega); simp [jobMay, hso]))
      go_roundw
      case rel => exact ⟨n + 1, by omega, by rw [hnx, hm]; simp; omega, rfl, H.ent⟩
      case measure => simp [intOf]; omega
    · obtain rfl : n = j.splits.length := by omega
      rw [List.take_length] at hs
      go_wp2_with (first
          | ((with_reducible refine is_box ?_); apply wl_box H; rfl; rfl; (conv => lhs; whnf); (conv => lhs; whnf); (clear H; intro b w H))
          | ((with_reducible refine is_load ?_); apply wl_load H; rfl; rfl; rfl; infer_instance; infer_instance; rfl; skip)
          | ((with_reducible refine is_load ?_); apply wl_load_agg H; rfl; rfl; rfl; infer_instance; infer_instance; (focus (simp; done)); (try simp only [cut, List.drop_zero, List.drop_succ_cons, List.take_succ_cons, List.take_zero]))
          | ((with_reducible refine is_len ?_); apply wl_len v1E H; rfl; rfl; (conv => lhs; whnf); infer_instance; infer_instance; skip)
          | ((with_reducible refine is_len ?_); apply wl_len intE H; rfl; rfl; (conv => lhs; whnf); infer_instance; infer_instance; skip)
          | ((with_reducible refine is_indexAddr ?_); apply wl_index v1E H; rfl; rfl; (conv => lhs; whnf); rfl; infer_instance; infer_instance; infer_instance; (first | omega | (simp only [List.length_take, List.length_drop, List.length_append, List.length_cons, List.length_nil, List.length_replicate, List.length_set, Int.toNat_natCast]; omega)); (first | omega | (simp only [List.length_take, List.length_drop, List.length_append, List.length_cons, List.length_nil, List.length_replicate, List.length_set, Int.toNat_natCast]; omega)); skip)
          | ((with_reducible refine is_len ?_); apply wl_len pairE H; rfl; rfl; (conv => lhs; whnf); infer_instance; infer_instance; skip)
          | ((with_reducible refine is_indexAddr ?_); apply wl_index intE H; rfl; rfl; (conv => lhs; whnf); rfl; infer_instance; infer_instance; infer_instance; (first | omega | (simp only [List.length_take, List.length_drop, List.length_append, List.length_cons, List.length_nil, List.length_replicate, List.length_set, Int.toNat_natCast]; omega)); (first | omega | (simp only [List.length_take, List.length_drop, List.length_append, List.length_cons, List.length_nil, List.length_replicate, List.length_set, Int.toNat_natCast]; omega)); skip)
          | ((with_reducible refine is_load ?_); apply wl_elem_agg v1E H; rfl; rfl; rfl; infer_instance; infer_instance; (first | assumption | (simp only [Int.toNat_natCast]; assumption)); rfl; (conv => lhs; whnf); skip)
          | ((with_reducible refine is_load ?_); apply wl_elem v1E H; rfl; rfl; rfl; infer_instance; infer_instance; (first | assumption | (simp only [Int.toNat_natCast]; assumption)); (conv => lhs; whnf); skip)
          | ((with_reducible refine is_load ?_); apply wl_elem_agg intE H; rfl; rfl; rfl; infer_instance; infer_instance; (first | assumption | (simp only [Int.toNat_natCast]; assumption)); rfl; (conv => lhs; whnf); skip)
          | ((with_reducible refine is_load ?_); apply wl_elem intE H; rfl; rfl; rfl; infer_instance; infer_instance; (first | assumption | (simp only [Int.toNat_natCast]; assumption)); (conv => lhs; whnf); skip)
          | ((with_reducible refine is_load ?_); apply wl_elem_agg pairE H; rfl; rfl; rfl; infer_instance; infer_instance; (first | assumption | (simp only [Int.toNat_natCast]; assumption)); rfl; (conv => lhs; whnf); skip)
          | ((with_reducible refine is_load ?_); apply wl_elem pairE H; rfl; rfl; rfl; infer_instance; infer_instance; (first | assumption | (simp only [Int.toNat_natCast]; assumption)); (conv => lhs; whnf); skip))
      go_loopw [5, 44] (fun la i w => ∃ (n : Nat) (last : Int), n ≤ j.marks.length ∧ 0 ≤ last ∧ last ≤ j.splits.length ∧ marksOk j.splits.length last (j.marks.drop n) = marksOk j.splits.length 0 j.marks ∧ la = .int .i64 last ∧ i = .int .i64 n ∧ Sat w0 w (.pt b (.cells #[cv.splits, .int .i64 j.parts, cv.map, cv.combine, cv.reduce, .int .i64 j.chunk, .int .i64 j.window, .int .i64 j.fuel, cv.marks] 26 (0, 0)) :: As)) (fun _ i _ => j.marks.length - (intOf i).toNat)
      case atStart => exact ⟨0, 0, by omega, by omega, by omega, by simp, rfl, rfl, H.ent⟩
      case round =>
        obtain ⟨n, last, hn, hl0, hl1, hm, rfl, rfl, H⟩ := hrel
        by_cases hlt : n < j.marks.length
        · obtain ⟨x, hx⟩ : ∃ x, j.marks[n]? = some x := ⟨j.marks[n]'(by omega), by simp⟩
          have hd : j.marks.drop n = x :: j.marks.drop (n + 1) := by rw [List.drop_eq_getElem_cons hlt]; congr 1; rw [List.getElem?_eq_getElem hlt] at hx; simpa using hx
          rw [hd, marksOk] at hm
          cases hw : within x (last + 1) j.splits.length
          all_goals
            go_wp2_with (first
                | (go_at_call 43; refine c157 H ?_; clear H; intro w H; rw [hw])
                | ((with_reducible refine is_box ?_); apply wl_box H; rfl; rfl; (conv => lhs; whnf); (conv => lhs; whnf); (clear H; intro b w H))
                | ((with_reducible refine is_load ?_); apply wl_load H; rfl; rfl; rfl; infer_instance; infer_instance; rfl; skip)
                | ((with_reducible refine is_load ?_); apply wl_load_agg H; rfl; rfl; rfl; infer_instance; infer_instance; (focus (simp; done)); (try simp only [cut, List.drop_zero, List.drop_succ_cons, List.take_succ_cons, List.take_zero]))
                | ((with_reducible refine is_len ?_); apply wl_len v1E H; rfl; rfl; (conv => lhs; whnf); infer_instance; infer_instance; skip)
                | ((with_reducible refine is_len ?_); apply wl_len intE H; rfl; rfl; (conv => lhs; whnf); infer_instance; infer_instance; skip)
                | ((with_reducible refine is_indexAddr ?_); apply wl_index v1E H; rfl; rfl; (conv => lhs; whnf); rfl; infer_instance; infer_instance; infer_instance; (first | omega | (simp only [List.length_take, List.length_drop, List.length_append, List.length_cons, List.length_nil, List.length_replicate, List.length_set, Int.toNat_natCast]; omega)); (first | omega | (simp only [List.length_take, List.length_drop, List.length_append, List.length_cons, List.length_nil, List.length_replicate, List.length_set, Int.toNat_natCast]; omega)); skip)
                | ((with_reducible refine is_len ?_); apply wl_len pairE H; rfl; rfl; (conv => lhs; whnf); infer_instance; infer_instance; skip)
                | ((with_reducible refine is_indexAddr ?_); apply wl_index intE H; rfl; rfl; (conv => lhs; whnf); rfl; infer_instance; infer_instance; infer_instance; (first | omega | (simp only [List.length_take, List.length_drop, List.length_append, List.length_cons, List.length_nil, List.length_replicate, List.length_set, Int.toNat_natCast]; omega)); (first | omega | (simp only [List.length_take, List.length_drop, List.length_append, List.length_cons, List.length_nil, List.length_replicate, List.length_set, Int.toNat_natCast]; omega)); skip)
                | ((with_reducible refine is_load ?_); apply wl_elem_agg v1E H; rfl; rfl; rfl; infer_instance; infer_instance; (first | assumption | (simp only [Int.toNat_natCast]; assumption)); rfl; (conv => lhs; whnf); skip)
                | ((with_reducible refine is_load ?_); apply wl_elem v1E H; rfl; rfl; rfl; infer_instance; infer_instance; (first | assumption | (simp only [Int.toNat_natCast]; assumption)); (conv => lhs; whnf); skip)
                | ((with_reducible refine is_load ?_); apply wl_elem_agg intE H; rfl; rfl; rfl; infer_instance; infer_instance; (first | assumption | (simp only [Int.toNat_natCast]; assumption)); rfl; (conv => lhs; whnf); skip)
                | ((with_reducible refine is_load ?_); apply wl_elem intE H; rfl; rfl; rfl; infer_instance; infer_instance; (first | assumption | (simp only [Int.toNat_natCast]; assumption)); (conv => lhs; whnf); skip)
                | ((with_reducible refine is_load ?_); apply wl_elem_agg pairE H; rfl; rfl; rfl; infer_instance; infer_instance; (first | assumption | (simp only [Int.toNat_natCast]; assumption)); rfl; (conv => lhs; whnf); skip)
                | ((with_reducible refine is_load ?_); apply wl_elem pairE H; rfl; rfl; rfl; infer_instance; infer_instance; (first | assumption | (simp only [Int.toNat_natCast]; assumption)); (conv => lhs; whnf); skip))
          · rw [hw] at hm
            refine fin (k _ H.ent) ?_
            have hm' : marksOk j.splits.length 0 j.marks = false := by rw [← hm]; rfl
            rw [jobMay, hm']
            simp only [Bool.and_false, Bool.false_and]
            rfl
          · rw [hw] at hm
            have hw' := hw
            simp [within] at hw'
            go_roundw
            case rel => exact ⟨n + 1, x, by omega, by omega, by omega, by simpa using hm, rfl, rfl, H.ent⟩
            case measure => simp [intOf]; omega
        · obtain rfl : n = j.marks.length := by omega
          rw [List.drop_length, marksOk] at hm
          replace hm := hm.symm
          go_wp2_with (first
              | (go_at_call 43; refine c157 H ?_; clear H; intro w H)
              | (go_at_call 74; refine c252 H ?_; clear H; intro w H)
              | (go_at_call 75; refine c253 H ?_; clear H; intro w H)
              | ((with_reducible refine is_box ?_); apply wl_box H; rfl; rfl; (conv => lhs; whnf); (conv => lhs; whnf); (clear H; intro b w H))
              | ((with_reducible refine is_load ?_); apply wl_load H; rfl; rfl; rfl; infer_instance; infer_instance; rfl; skip)
              | ((with_reducible refine is_load ?_); apply wl_load_agg H; rfl; rfl; rfl; infer_instance; infer_instance; (focus (simp; done)); (try simp only [cut, List.drop_zero, List.drop_succ_cons, List.take_succ_cons, List.take_zero]))
              | ((with_reducible refine is_len ?_); apply wl_len v1E H; rfl; rfl; (conv => lhs; whnf); infer_instance; infer_instance; skip)
              | ((with_reducible refine is_len ?_); apply wl_len intE H; rfl; rfl; (conv => lhs; whnf); infer_instance; infer_instance; skip)
              | ((with_reducible refine is_indexAddr ?_); apply wl_index v1E H; rfl; rfl; (conv => lhs; whnf); rfl; infer_instance; infer_instance; infer_instance; (first | omega | (simp only [List.length_take, List.length_drop, List.length_append, List.length_cons, List.length_nil, List.length_replicate, List.length_set, Int.toNat_natCast]; omega)); (first | omega | (simp only [List.length_take, List.length_drop, List.length_append, List.length_cons, List.length_nil, List.length_replicate, List.length_set, Int.toNat_natCast]; omega)); skip)
              | ((with_reducible refine is_len ?_); apply wl_len pairE H; rfl; rfl; (conv => lhs; whnf); infer_instance; infer_instance; skip)
              | ((with_reducible refine is_indexAddr ?_); apply wl_index intE H; rfl; rfl; (conv => lhs; whnf); rfl; infer_instance; infer_instance; infer_instance; (first | omega | (simp only [List.length_take, List.length_drop, List.length_append, List.length_cons, List.length_nil, List.length_replicate, List.length_set, Int.toNat_natCast]; omega)); (first | omega | (simp only [List.length_take, List.length_drop, List.length_append, List.length_cons, List.length_nil, List.length_replicate, List.length_set, Int.toNat_natCast]; omega)); skip)
              | ((with_reducible refine is_load ?_); apply wl_elem_agg v1E H; rfl; rfl; rfl; infer_instance; infer_instance; (first | assumption | (simp only [Int.toNat_natCast]; assumption)); rfl; (conv => lhs; whnf); skip)
              | ((with_reducible refine is_load ?_); apply wl_elem v1E H; rfl; rfl; rfl; infer_instance; infer_instance; (first | assumption | (simp only [Int.toNat_natCast]; assumption)); (conv => lhs; whnf); skip)
              | ((with_reducible refine is_load ?_); apply wl_elem_agg intE H; rfl; rfl; rfl; infer_instance; infer_instance; (first | assumption | (simp only [Int.toNat_natCast]; assumption)); rfl; (conv => lhs; whnf); skip)
              | ((with_reducible refine is_load ?_); apply wl_elem intE H; rfl; rfl; rfl; infer_instance; infer_instance; (first | assumption | (simp only [Int.toNat_natCast]; assumption)); (conv => lhs; whnf); skip)
              | ((with_reducible refine is_load ?_); apply wl_elem_agg pairE H; rfl; rfl; rfl; infer_instance; infer_instance; (first | assumption | (simp only [Int.toNat_natCast]; assumption)); rfl; (conv => lhs; whnf); skip)
              | ((with_reducible refine is_load ?_); apply wl_elem pairE H; rfl; rfl; rfl; infer_instance; infer_instance; (first | assumption | (simp only [Int.toNat_natCast]; assumption)); (conv => lhs; whnf); skip))
          all_goals (refine fin (k _ H.ent) ?_; first | (simp_all [jobMay]; done) | (simp_all [jobMay]; intros; omega))

set_option maxHeartbeats 1000000 in
theorem c52 {cv : CfgV} {c : Cfg} [hr : RdJob As cv c.job] (H : Sat w0 w As) (k : ∀ w', Sat w0 w' As → R (.returned (.bool (cfgMay c))) w') :
    Calls Tryz.prog 9 #[.agg #[cv.splits, .int .i64 c.job.parts, cv.map, cv.combine, cv.reduce, .int .i64 c.job.chunk, .int .i64 c.job.window, .int .i64 c.job.fuel, cv.marks, .int .i64 c.workers, .int .i64 c.tries, .int .i64 c.timeout]] w R := by
  go_enter Tryz.func9, Tryz.ntmps9
  go_wp2_with (first
      | (go_at_call 42; refine c156 (cv := cv) (j := c.job) H ?_; clear H; intro w H)
      | (go_at_call 43; refine c157 H ?_; clear H; intro w H)
      | ((with_reducible refine is_box ?_); apply wl_box H; rfl; rfl; (conv => lhs; whnf); (conv => lhs; whnf); (clear H; intro b w H))
      | ((with_reducible refine is_load ?_); apply wl_load H; rfl; rfl; rfl; infer_instance; infer_instance; rfl; skip)
      | ((with_reducible refine is_load ?_); apply wl_load_agg H; rfl; rfl; rfl; infer_instance; infer_instance; (focus (simp; done)); (try simp only [cut, List.drop_zero, List.drop_succ_cons, List.take_succ_cons, List.take_zero])))
  all_goals (first
      | exact H.ent
      | (simpa using H.ent)
      | (refine fin (k _ H.ent) ?_; first | rfl | (simp_all [cfgMay]; done) | (simp_all [cfgMay]; omega) | (congr 1; rw [Bool.eq_iff_iff]; simp [cfgMay]; omega) | (congr 1; rw [Bool.eq_iff_iff]; simp_all [cfgMay]; done) | (congr 1; simp [cfgMay]; omega)))

set_option maxHeartbeats 1000000 in
theorem c114 {cv : CfgV} {c : Cfg} {p : Int} [hr : RdJob As cv c.job] (H : Sat w0 w As) (h0 : -9223372036854775808 ≤ p) (h1 : p ≤ 9223372036854775807) (k : ∀ w', Sat w0 w' As → R (.returned (.int .i64 (home c p))) w') :
    Calls Tryz.prog 72 #[.agg #[cv.splits, .int .i64 c.job.parts, cv.map, cv.combine, cv.reduce, .int .i64 c.job.chunk, .int .i64 c.job.window, .int .i64 c.job.fuel, cv.marks, .int .i64 c.workers, .int .i64 c.tries, .int .i64 c.timeout], .int .i64 p] w R := by
  cases hc : cfgMay c
  · go_enter Tryz.func72, Tryz.ntmps72
    go_wp2_with (first
        | (go_at_call 9; refine c52 (cv := cv) (c := c) H ?_; clear H; intro w H; rw [hc])
        | ((with_reducible refine is_box ?_); apply wl_box H; rfl; rfl; (conv => lhs; whnf); (conv => lhs; whnf); (clear H; intro b w H))
        | ((with_reducible refine is_load ?_); apply wl_load H; rfl; rfl; rfl; infer_instance; infer_instance; rfl; skip)
        | ((with_reducible refine is_load ?_); apply wl_load_agg H; rfl; rfl; rfl; infer_instance; infer_instance; (focus (simp; done)); (try simp only [cut, List.drop_zero, List.drop_succ_cons, List.take_succ_cons, List.take_zero])))
    all_goals (first
        | exact H.ent
        | (simpa using H.ent)
        | (refine fin (k _ H.ent) ?_; first | rfl | (simp_all [home]; done) | (simp_all [home]; omega) | (congr 1; rw [Bool.eq_iff_iff]; simp [home]; omega) | (congr 1; rw [Bool.eq_iff_iff]; simp_all [home]; done) | (congr 1; simp [home]; omega)))
  · have hw1 := (cfgMay_ok hc).w1
    have hw2 := (cfgMay_ok hc).w2
    have hp1 := (cfgMay_ok hc).job.p1
    have hp2 := (cfgMay_ok hc).job.p2
    have hq1 := Int.emod_nonneg p (b := c.workers) (by omega)
    have hq2 := Int.emod_lt_of_pos p (b := c.workers) (by omega)
    cases hw : within p 0 (c.job.parts - 1)
    all_goals
      have hw' := hw
      simp [within] at hw'
      go_enter Tryz.func72, Tryz.ntmps72
      go_wp2_with (first
          | (go_at_call 9; refine c52 (cv := cv) (c := c) H ?_; clear H; intro w H; rw [hc])
          | (go_at_call 43; refine c157 H ?_; clear H; intro w H; rw [hw])
          | ((with_reducible refine is_box ?_); apply wl_box H; rfl; rfl; (conv => lhs; whnf); (conv => lhs; whnf); (clear H; intro b w H))
          | ((with_reducible refine is_load ?_); apply wl_load H; rfl; rfl; rfl; infer_instance; infer_instance; rfl; skip)
          | ((with_reducible refine is_load ?_); apply wl_load_agg H; rfl; rfl; rfl; infer_instance; infer_instance; (focus (simp; done)); (try simp only [cut, List.drop_zero, List.drop_succ_cons, List.take_succ_cons, List.take_zero])))
    all_goals (first
        | exact H.ent
        | (simpa using H.ent)
        | (refine fin (k _ H.ent) ?_; first | rfl | (simp_all [home]; done) | (simp_all [home]; omega) | (congr 1; rw [Bool.eq_iff_iff]; simp [home]; omega) | (congr 1; rw [Bool.eq_iff_iff]; simp_all [home]; done) | (congr 1; simp [home]; omega)))

set_option maxHeartbeats 1000000 in
theorem c346 {cv : CfgV} {c : Cfg} {n : Int} [hr : RdJob As cv c.job] (H : Sat w0 w As) (k : ∀ w', Sat w0 w' As → R (.returned (.int .i64 (turn c n))) w') :
    Calls Tryz.prog 127 #[.agg #[cv.splits, .int .i64 c.job.parts, cv.map, cv.combine, cv.reduce, .int .i64 c.job.chunk, .int .i64 c.job.window, .int .i64 c.job.fuel, cv.marks, .int .i64 c.workers, .int .i64 c.tries, .int .i64 c.timeout], .int .i64 n] w R := by
  cases hc : cfgMay c
  · go_enter Tryz.func127, Tryz.ntmps127
    go_wp2_with (first
        | (go_at_call 9; refine c52 (cv := cv) (c := c) H ?_; clear H; intro w H; rw [hc])
        | ((with_reducible refine is_box ?_); apply wl_box H; rfl; rfl; (conv => lhs; whnf); (conv => lhs; whnf); (clear H; intro b w H))
        | ((with_reducible refine is_load ?_); apply wl_load H; rfl; rfl; rfl; infer_instance; infer_instance; rfl; skip)
        | ((with_reducible refine is_load ?_); apply wl_load_agg H; rfl; rfl; rfl; infer_instance; infer_instance; (focus (simp; done)); (try simp only [cut, List.drop_zero, List.drop_succ_cons, List.take_succ_cons, List.take_zero])))
    all_goals (first
        | exact H.ent
        | (simpa using H.ent)
        | (refine fin (k _ H.ent) ?_; first | rfl | (simp_all [turn]; done) | (simp_all [turn]; omega) | (congr 1; rw [Bool.eq_iff_iff]; simp [turn]; omega) | (congr 1; rw [Bool.eq_iff_iff]; simp_all [turn]; done) | (congr 1; simp [turn]; omega)))
  · have hw1 := (cfgMay_ok hc).w1
    have hw2 := (cfgMay_ok hc).w2
    have hu : IntKind.u64.wrap n = n % 18446744073709551616 := rfl
    have hu0 := Int.emod_nonneg n (b := 18446744073709551616) (by omega)
    have hq0 : (n % 18446744073709551616).tmod c.workers = n % 18446744073709551616 % c.workers := Int.tmod_eq_emod_of_nonneg hu0
    have hq1 := Int.emod_nonneg (n % 18446744073709551616) (b := c.workers) (by omega)
    have hq2 := Int.emod_lt_of_pos (n % 18446744073709551616) (b := c.workers) (by omega)
    go_enter Tryz.func127, Tryz.ntmps127
    go_wp2_with (first
        | (go_at_call 9; refine c52 (cv := cv) (c := c) H ?_; clear H; intro w H; rw [hc])
        | ((with_reducible refine is_box ?_); apply wl_box H; rfl; rfl; (conv => lhs; whnf); (conv => lhs; whnf); (clear H; intro b w H))
        | ((with_reducible refine is_load ?_); apply wl_load H; rfl; rfl; rfl; infer_instance; infer_instance; rfl; skip)
        | ((with_reducible refine is_load ?_); apply wl_load_agg H; rfl; rfl; rfl; infer_instance; infer_instance; (focus (simp; done)); (try simp only [cut, List.drop_zero, List.drop_succ_cons, List.take_succ_cons, List.take_zero])))
    all_goals (first
        | exact H.ent
        | (simpa using H.ent)
        | (refine fin (k _ H.ent) ?_; first | rfl | (simp_all [turn]; done) | (simp_all [turn]; omega) | (congr 1; rw [Bool.eq_iff_iff]; simp [turn]; omega) | (congr 1; rw [Bool.eq_iff_iff]; simp_all [turn]; done) | (congr 1; simp [turn]; omega)))
end Go.Proofs.YtcdkaggdidfenaaGreatDoor
