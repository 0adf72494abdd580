/- A part of the proof: contracts of functions of the given program, and the laws on memory that they lean on. -/
import Derived.Test.YtcdkaggdidfenaaGreatDoorMQ
set_option linter.all false

namespace Go.Proofs.YtcdkaggdidfenaaGreatDoor
open Go.RowKit Go.Proofs Go.SL St
set_option maxRecDepth 100000
variable {w w0 : World} {As r : List HP} {R : Ending → World → Prop}

theorem findK_zip {κ : Type} [DecidableEq κ] : ∀ (ks : List κ) (us : List Value) (i j : Nat) (k : κ) (u : Value), ks.Nodup → ks[j]? = some k → us[j]? = some u → findK k (ks.zip us) i = some (i + j, u) := by
  intro ks
  induction ks with
  | nil => intro us i j k u _ h; simp at h
  | cons a ks ih =>
    intro us i j k u hnd hk hu
    cases us with
    | nil => simp at hu
    | cons x us =>
      rw [List.zip_cons_cons, findK]
      cases j with
      | zero => simp at hk hu; subst hk hu; simp
      | succ j =>
        have hk' : ks[j]? = some k := by simpa using hk
        have hne : k ≠ a := fun e => (List.nodup_cons.1 hnd).1 (e ▸ List.mem_of_getElem? hk')
        rw [if_neg hne, ih us (i + 1) j k u (List.nodup_cons.1 hnd).2 hk' (by simpa using hu)]
        congr 2; omega
theorem getK_zip {κ : Type} [DecidableEq κ] {ks : List κ} {us : List Value} {j : Nat} {k : κ} {u z : Value} (hnd : ks.Nodup) (hk : ks[j]? = some k) (hu : us[j]? = some u) : getK k (ks.zip us) z = u := by
  unfold getK; rw [findK_zip ks us 0 j k u hnd hk hu]

def helloL (rd : Red) : Ltr := { msg := { kind := 6, part := rd.part, epoch := rd.epoch, set := rd.merged } }
theorem ownZ_untake {α β : Type} {f : α → β → HP} {xs : List α} {ys : List β} {x : α} {y : β} {i : Nat} (hx : xs[i]? = some x) (hy : ys[i]? = some y)
    (H : Sat w0 w (f x y :: ownZ f (xs.take i) (ys.take i) :: ownZ f (xs.drop (i + 1)) (ys.drop (i + 1)) :: As)) : Sat w0 w (ownZ f xs ys :: As) := by
  have h1 := (List.getElem?_eq_some_iff.1 hx).1
  have h2 := (List.getElem?_eq_some_iff.1 hy).1
  have H1 := ownZ_back h1 h2 H
  have e1 : xs.set i x = xs := by rw [← (List.getElem?_eq_some_iff.1 hx).2]; exact List.set_getElem_self h1
  have e2 : ys.set i y = ys := by rw [← (List.getElem?_eq_some_iff.1 hy).2]; exact List.set_getElem_self h2
  rwa [e1, e2] at H1

set_option maxHeartbeats 4000000 in
/-- Wake of a worker that has no attempts, and of whose parts none is whole. -/
theorem c35n {x : Wk} {wb : Nat} [hr : HasR (wkHP wb) As x r] (H : Sat w0 w As) (hend : x.ended = false) (ht : x.tasks = []) (hnd : (x.reds.map (·.part)).Nodup) (hsmall : x.reds.length ≤ 4)
    (hin : ∀ rd ∈ x.reds, rd.c.job.splits.length ≤ 6 ∧ rd.merged.length < rd.c.job.splits.length)
    (k : ∀ v w', Sat w0 w' (ltrsHP v (x.reds.map helloL) :: wkHP wb x :: r) → R (.returned v) w') : Calls Tryz.prog 55 #[.pointer (some ⟨wb, 0, none⟩)] w R := by
  replace H := H.perm hr.perm
  obtain ⟨⟨cv, pv, mb, bs, tv⟩, H⟩ := wkHP_iff.1 H
  rw [ht, hend] at H
  simp only at H
  have hfl : flagV false = .int .u32 0 := rfl
  rw [hfl] at H
  obtain ⟨⟨rfl, _⟩, H⟩ := Sat.prop_iff.1 (H.pull (tasksHP tv []))
  have hbl : bs.length = x.reds.length := ownZ_len H.drop.drop.drop.drop
  have HBL := Lib.hid hbl
  clear hbl
  go_enter Tryz.func55, Tryz.ntmps55
  go_wp2_with (first
      | (go_at_call 88; refine c44 H rfl ?_; clear H; intro w H)
      | ((with_reducible refine is_ret ?_); apply ret_tmp1; rfl; rfl; (conv => lhs; whnf); skip)
      | ((with_reducible refine is_load ?_); apply wl_load H; rfl; rfl; rfl; infer_instance; infer_instance; rfl; skip)
      | ((with_reducible refine is_load ?_); apply wl_load_agg H; rfl; rfl; rfl; infer_instance; infer_instance; (focus (simp; done)); (try simp only [cut, List.drop_zero, List.drop_succ_cons, List.take_succ_cons, List.take_zero]))
      | ((with_reducible refine is_alloc ?_); apply wl_alloc H; rfl; rfl; infer_instance; (conv => lhs; whnf); (clear H; intro b w H))
      | ((with_reducible refine is_store ?_); apply wl_store H; rfl; rfl; rfl; infer_instance; infer_instance; (focus (simp; done)); (conv => lhs; whnf); infer_instance; (clear H; intro w H; (try simp only [List.setIfInBounds_toArray, List.set_cons_zero, List.set_cons_succ] at H)))
      | ((with_reducible refine is_store ?_); apply wl_store_agg H; rfl; rfl; rfl; infer_instance; infer_instance; rfl; (conv => lhs; whnf); rfl; (first | (focus (simp; done)) | (simp; omega)); infer_instance; (clear H; intro w H; (try simp only [putAll, List.setIfInBounds_toArray, List.set_cons_zero, List.set_cons_succ] at H)))
      | ((with_reducible refine is_append ?_); apply wl_append ltrE H; rfl; rfl; (conv => lhs; whnf); (conv => lhs; whnf); infer_instance; infer_instance; infer_instance; infer_instance; (first | omega | (simp only [List.length_append, List.length_cons, List.length_nil, List.length_take, List.length_drop, List.length_replicate, Int.toNat_natCast]; omega) | (simp; omega)); (clear H; intro v w H; have hone := One1.mk (ownL_one H)))
      | ((with_reducible refine is_len ?_); apply wl_len intE H; rfl; rfl; (conv => lhs; whnf); infer_instance; infer_instance; skip)
      | ((with_reducible refine is_indexAddr ?_); apply wl_index intE H; rfl; rfl; (conv => lhs; whnf); rfl; infer_instance; infer_instance; infer_instance; (first | omega | (simp only [List.length_take, List.length_drop, List.length_append, List.length_cons, List.length_nil, List.length_replicate, List.length_set, Int.toNat_natCast]; omega)); (first | omega | (simp only [List.length_take, List.length_drop, List.length_append, List.length_cons, List.length_nil, List.length_replicate, List.length_set, Int.toNat_natCast]; omega)); skip)
      | ((with_reducible refine is_buildSlice ?_); apply wl_build1 ltrE H; rfl; rfl; (conv => lhs; whnf); infer_instance; infer_instance; (conv => lhs; whnf); infer_instance; (clear H; intro v w H; have hone := One1.mk (ownL_one H)))
      | ((with_reducible refine is_store ?_); apply wl_set ltrE H; rfl; rfl; rfl; infer_instance; infer_instance; (first | omega | (simp only [List.length_take, List.length_drop, List.length_append, List.length_cons, List.length_nil, List.length_replicate, List.length_set, Int.toNat_natCast]; omega)); (conv => lhs; whnf); infer_instance; (clear H; intro w H; (try simp only [Int.toNat_natCast] at H)))
      | ((with_reducible refine is_store ?_); apply wl_set_agg ltrE H; rfl; rfl; rfl; infer_instance; infer_instance; rfl; (first | omega | (simp only [List.length_take, List.length_drop, List.length_append, List.length_cons, List.length_nil, List.length_replicate, List.length_set, Int.toNat_natCast]; omega)); (conv => lhs; whnf); (conv => lhs; whnf); infer_instance; (clear H; intro w H; (try simp only [Int.toNat_natCast] at H)))
      | ((with_reducible refine is_load ?_); apply wl_elem_agg ltrE H; rfl; rfl; rfl; infer_instance; infer_instance; (first | assumption | (simp only [Int.toNat_natCast]; assumption)); rfl; (conv => lhs; whnf); skip)
      | ((with_reducible refine is_load ?_); apply wl_elem ltrE H; rfl; rfl; rfl; infer_instance; infer_instance; (first | assumption | (simp only [Int.toNat_natCast]; assumption)); (conv => lhs; whnf); skip)
      | ((with_reducible refine is_store ?_); apply wl_set intE H; rfl; rfl; rfl; infer_instance; infer_instance; (first | omega | (simp only [List.length_take, List.length_drop, List.length_append, List.length_cons, List.length_nil, List.length_replicate, List.length_set, Int.toNat_natCast]; omega)); (conv => lhs; whnf); infer_instance; (clear H; intro w H; (try simp only [Int.toNat_natCast] at H)))
      | ((with_reducible refine is_store ?_); apply wl_set_agg intE H; rfl; rfl; rfl; infer_instance; infer_instance; rfl; (first | omega | (simp only [List.length_take, List.length_drop, List.length_append, List.length_cons, List.length_nil, List.length_replicate, List.length_set, Int.toNat_natCast]; omega)); (conv => lhs; whnf); (conv => lhs; whnf); infer_instance; (clear H; intro w H; (try simp only [Int.toNat_natCast] at H)))
      | ((with_reducible refine is_load ?_); apply wl_elem_agg intE H; rfl; rfl; rfl; infer_instance; infer_instance; (first | assumption | (simp only [Int.toNat_natCast]; assumption)); rfl; (conv => lhs; whnf); skip)
      | ((with_reducible refine is_load ?_); apply wl_elem intE H; rfl; rfl; rfl; infer_instance; infer_instance; (first | assumption | (simp only [Int.toNat_natCast]; assumption)); (conv => lhs; whnf); skip)
      | ((with_reducible refine is_lookup ?_); apply wl_lookup intK H; rfl; rfl; (conv => lhs; whnf); (conv => lhs; whnf); infer_instance; infer_instance; infer_instance; infer_instance; skip))
  refine wp_loop_rounds 1 ?_
  rw [rounds_succ]
  go_wp2_with (first
      | ((with_reducible refine is_ret ?_); apply ret_tmp1; rfl; rfl; (conv => lhs; whnf); skip)
      | ((with_reducible refine is_load ?_); apply wl_load H; rfl; rfl; rfl; infer_instance; infer_instance; rfl; skip)
      | ((with_reducible refine is_load ?_); apply wl_load_agg H; rfl; rfl; rfl; infer_instance; infer_instance; (focus (simp; done)); (try simp only [cut, List.drop_zero, List.drop_succ_cons, List.take_succ_cons, List.take_zero]))
      | ((with_reducible refine is_alloc ?_); apply wl_alloc H; rfl; rfl; infer_instance; (conv => lhs; whnf); (clear H; intro b w H))
      | ((with_reducible refine is_store ?_); apply wl_store H; rfl; rfl; rfl; infer_instance; infer_instance; (focus (simp; done)); (conv => lhs; whnf); infer_instance; (clear H; intro w H; (try simp only [List.setIfInBounds_toArray, List.set_cons_zero, List.set_cons_succ] at H)))
      | ((with_reducible refine is_store ?_); apply wl_store_agg H; rfl; rfl; rfl; infer_instance; infer_instance; rfl; (conv => lhs; whnf); rfl; (first | (focus (simp; done)) | (simp; omega)); infer_instance; (clear H; intro w H; (try simp only [putAll, List.setIfInBounds_toArray, List.set_cons_zero, List.set_cons_succ] at H)))
      | ((with_reducible refine is_append ?_); apply wl_append ltrE H; rfl; rfl; (conv => lhs; whnf); (conv => lhs; whnf); infer_instance; infer_instance; infer_instance; infer_instance; (first | omega | (simp only [List.length_append, List.length_cons, List.length_nil, List.length_take, List.length_drop, List.length_replicate, Int.toNat_natCast]; omega) | (simp; omega)); (clear H; intro v w H; have hone := One1.mk (ownL_one H)))
      | ((with_reducible refine is_len ?_); apply wl_len intE H; rfl; rfl; (conv => lhs; whnf); infer_instance; infer_instance; skip)
      | ((with_reducible refine is_indexAddr ?_); apply wl_index intE H; rfl; rfl; (conv => lhs; whnf); rfl; infer_instance; infer_instance; infer_instance; (first | omega | (simp only [List.length_take, List.length_drop, List.length_append, List.length_cons, List.length_nil, List.length_replicate, List.length_set, Int.toNat_natCast]; omega)); (first | omega | (simp only [List.length_take, List.length_drop, List.length_append, List.length_cons, List.length_nil, List.length_replicate, List.length_set, Int.toNat_natCast]; omega)); skip)
      | ((with_reducible refine is_buildSlice ?_); apply wl_build1 ltrE H; rfl; rfl; (conv => lhs; whnf); infer_instance; infer_instance; (conv => lhs; whnf); infer_instance; (clear H; intro v w H; have hone := One1.mk (ownL_one H)))
      | ((with_reducible refine is_store ?_); apply wl_set ltrE H; rfl; rfl; rfl; infer_instance; infer_instance; (first | omega | (simp only [List.length_take, List.length_drop, List.length_append, List.length_cons, List.length_nil, List.length_replicate, List.length_set, Int.toNat_natCast]; omega)); (conv => lhs; whnf); infer_instance; (clear H; intro w H; (try simp only [Int.toNat_natCast] at H)))
      | ((with_reducible refine is_store ?_); apply wl_set_agg ltrE H; rfl; rfl; rfl; infer_instance; infer_instance; rfl; (first | omega | (simp only [List.length_take, List.length_drop, List.length_append, List.length_cons, List.length_nil, List.length_replicate, List.length_set, Int.toNat_natCast]; omega)); (conv => lhs; whnf); (conv => lhs; whnf); infer_instance; (clear H; intro w H; (try simp only [Int.toNat_natCast] at H)))
      | ((with_reducible refine is_load ?_); apply wl_elem_agg ltrE H; rfl; rfl; rfl; infer_instance; infer_instance; (first | assumption | (simp only [Int.toNat_natCast]; assumption)); rfl; (conv => lhs; whnf); skip)
      | ((with_reducible refine is_load ?_); apply wl_elem ltrE H; rfl; rfl; rfl; infer_instance; infer_instance; (first | assumption | (simp only [Int.toNat_natCast]; assumption)); (conv => lhs; whnf); skip)
      | ((with_reducible refine is_store ?_); apply wl_set intE H; rfl; rfl; rfl; infer_instance; infer_instance; (first | omega | (simp only [List.length_take, List.length_drop, List.length_append, List.length_cons, List.length_nil, List.length_replicate, List.length_set, Int.toNat_natCast]; omega)); (conv => lhs; whnf); infer_instance; (clear H; intro w H; (try simp only [Int.toNat_natCast] at H)))
      | ((with_reducible refine is_store ?_); apply wl_set_agg intE H; rfl; rfl; rfl; infer_instance; infer_instance; rfl; (first | omega | (simp only [List.length_take, List.length_drop, List.length_append, List.length_cons, List.length_nil, List.length_replicate, List.length_set, Int.toNat_natCast]; omega)); (conv => lhs; whnf); (conv => lhs; whnf); infer_instance; (clear H; intro w H; (try simp only [Int.toNat_natCast] at H)))
      | ((with_reducible refine is_load ?_); apply wl_elem_agg intE H; rfl; rfl; rfl; infer_instance; infer_instance; (first | assumption | (simp only [Int.toNat_natCast]; assumption)); rfl; (conv => lhs; whnf); skip)
      | ((with_reducible refine is_load ?_); apply wl_elem intE H; rfl; rfl; rfl; infer_instance; infer_instance; (first | assumption | (simp only [Int.toNat_natCast]; assumption)); (conv => lhs; whnf); skip)
      | ((with_reducible refine is_lookup ?_); apply wl_lookup intK H; rfl; rfl; (conv => lhs; whnf); (conv => lhs; whnf); infer_instance; infer_instance; infer_instance; infer_instance; skip))
  have hml : (x.reds.map (·.part)).length = x.reds.length := by simp
  go_loopw [3, 34] (fun u i w => ∃ j : Nat, j ≤ x.reds.length ∧ i = .int .i64 j ∧ Sat w0 w (ltrsHP u ((x.reds.take j).map helloL) :: .pt wb (.cells #[cv.splits, .int .i64 x.c.job.parts, cv.map, cv.combine, cv.reduce, .int .i64 x.c.job.chunk, .int .i64 x.c.job.window, .int .i64 x.c.job.fuel, cv.marks, .int .i64 x.c.workers, .int .i64 x.c.tries, .int .i64 x.c.timeout, .int .i64 x.epoch, pv, .map (some mb), .slice none 0 0, .int .u32 0] 102 (0, 0)) :: jobHP cv x.c.job :: ownL intE 3 pv (x.reds.map (·.part)) :: mapHP intK mb ((x.reds.map (·.part)).zip (bs.map ptrV)) :: ownZ redHP bs x.reds :: r)) (fun _ i _ => x.reds.length - (intOf i).toNat)
  case atStart => exact ⟨0, by omega, rfl, by rw [List.take_zero, List.map_nil]; exact ltrsHP_nil H.ent⟩
  case round =>
    obtain ⟨j, hj, rfl, H⟩ := hrel
    have hone := One1.mk (ltrsHP_one H)
    by_cases hlt : j < x.reds.length
    · obtain ⟨y, hy⟩ : ∃ y, x.reds[j]? = some y := ⟨x.reds[j]'hlt, by simp⟩
      obtain ⟨bj, hbj⟩ : ∃ z, bs[j]? = some z := ⟨bs[j]'(by rw [HBL.out]; exact hlt), by simp⟩
      obtain ⟨hi6, hin'⟩ := hin y (List.mem_of_getElem? hy)
      have hyp : (x.reds.map (·.part))[j]? = some y.part := by rw [List.getElem?_map, hy]; rfl
      have hget : getK y.part ((x.reds.map (·.part)).zip (bs.map ptrV)) (.pointer none) = .pointer (some ⟨bj, 0, none⟩) := by
        rw [getK_zip hnd hyp (u := ptrV bj) (by rw [List.getElem?_map, hbj]; rfl)]; rfl
      obtain ⟨xs, H⟩ := ltrsHP_iff.1 H
      have hxl := ownZ_len H.drop
      have hxl2 : xs.length ≤ 4 := by
        rw [hxl, List.length_map]; have := take_len_le x.reds j; omega
      have HXL := Lib.hid hxl
      clear hxl
      have H := ownZ_take hbj hy (H.pull (ownZ redHP bs x.reds))
      go_wp2_with (first
          | (go_at_call 90; refine c143n (rd := y) H hi6 hin' ?_; clear H; intro hv w H; obtain ⟨va, vn, vc, rfl⟩ := ownL_slice H)
          | ((with_reducible refine is_ret ?_); apply ret_tmp1; rfl; rfl; (conv => lhs; whnf); skip)
          | ((with_reducible refine is_load ?_); apply wl_load H; rfl; rfl; rfl; infer_instance; infer_instance; rfl; skip)
          | ((with_reducible refine is_load ?_); apply wl_load_agg H; rfl; rfl; rfl; infer_instance; infer_instance; (focus (simp; done)); (try simp only [cut, List.drop_zero, List.drop_succ_cons, List.take_succ_cons, List.take_zero]))
          | ((with_reducible refine is_alloc ?_); apply wl_alloc H; rfl; rfl; infer_instance; (conv => lhs; whnf); (clear H; intro b w H))
          | ((with_reducible refine is_store ?_); apply wl_store H; rfl; rfl; rfl; infer_instance; infer_instance; (focus (simp; done)); (conv => lhs; whnf); infer_instance; (clear H; intro w H; (try simp only [List.setIfInBounds_toArray, List.set_cons_zero, List.set_cons_succ] at H)))
          | ((with_reducible refine is_store ?_); apply wl_store_agg H; rfl; rfl; rfl; infer_instance; infer_instance; rfl; (conv => lhs; whnf); rfl; (first | (focus (simp; done)) | (simp; omega)); infer_instance; (clear H; intro w H; (try simp only [putAll, List.setIfInBounds_toArray, List.set_cons_zero, List.set_cons_succ] at H)))
          | ((with_reducible refine is_append ?_); apply wl_append ltrE H; rfl; rfl; (conv => lhs; whnf); (conv => lhs; whnf); infer_instance; infer_instance; infer_instance; infer_instance; (first | omega | (simp only [List.length_append, List.length_cons, List.length_nil, List.length_take, List.length_drop, List.length_replicate, Int.toNat_natCast]; omega) | (simp; omega)); (clear H; intro v w H; have hone := One1.mk (ownL_one H)))
          | ((with_reducible refine is_len ?_); apply wl_len intE H; rfl; rfl; (conv => lhs; whnf); infer_instance; infer_instance; skip)
          | ((with_reducible refine is_indexAddr ?_); apply wl_index intE H; rfl; rfl; (conv => lhs; whnf); rfl; infer_instance; infer_instance; infer_instance; (first | omega | (simp only [List.length_take, List.length_drop, List.length_append, List.length_cons, List.length_nil, List.length_replicate, List.length_set, Int.toNat_natCast]; omega)); (first | omega | (simp only [List.length_take, List.length_drop, List.length_append, List.length_cons, List.length_nil, List.length_replicate, List.length_set, Int.toNat_natCast]; omega)); skip)
          | ((with_reducible refine is_buildSlice ?_); apply wl_build1 ltrE H; rfl; rfl; (conv => lhs; whnf); infer_instance; infer_instance; (conv => lhs; whnf); infer_instance; (clear H; intro v w H; have hone := One1.mk (ownL_one H)))
          | ((with_reducible refine is_store ?_); apply wl_set ltrE H; rfl; rfl; rfl; infer_instance; infer_instance; (first | omega | (simp only [List.length_take, List.length_drop, List.length_append, List.length_cons, List.length_nil, List.length_replicate, List.length_set, Int.toNat_natCast]; omega)); (conv => lhs; whnf); infer_instance; (clear H; intro w H; (try simp only [Int.toNat_natCast] at H)))
          | ((with_reducible refine is_store ?_); apply wl_set_agg ltrE H; rfl; rfl; rfl; infer_instance; infer_instance; rfl; (first | omega | (simp only [List.length_take, List.length_drop, List.length_append, List.length_cons, List.length_nil, List.length_replicate, List.length_set, Int.toNat_natCast]; omega)); (conv => lhs; whnf); (conv => lhs; whnf); infer_instance; (clear H; intro w H; (try simp only [Int.toNat_natCast] at H)))
          | ((with_reducible refine is_load ?_); apply wl_elem_agg ltrE H; rfl; rfl; rfl; infer_instance; infer_instance; (first | assumption | (simp only [Int.toNat_natCast]; assumption)); rfl; (conv => lhs; whnf); skip)
          | ((with_reducible refine is_load ?_); apply wl_elem ltrE H; rfl; rfl; rfl; infer_instance; infer_instance; (first | assumption | (simp only [Int.toNat_natCast]; assumption)); (conv => lhs; whnf); skip)
          | ((with_reducible refine is_store ?_); apply wl_set intE H; rfl; rfl; rfl; infer_instance; infer_instance; (first | omega | (simp only [List.length_take, List.length_drop, List.length_append, List.length_cons, List.length_nil, List.length_replicate, List.length_set, Int.toNat_natCast]; omega)); (conv => lhs; whnf); infer_instance; (clear H; intro w H; (try simp only [Int.toNat_natCast] at H)))
          | ((with_reducible refine is_store ?_); apply wl_set_agg intE H; rfl; rfl; rfl; infer_instance; infer_instance; rfl; (first | omega | (simp only [List.length_take, List.length_drop, List.length_append, List.length_cons, List.length_nil, List.length_replicate, List.length_set, Int.toNat_natCast]; omega)); (conv => lhs; whnf); (conv => lhs; whnf); infer_instance; (clear H; intro w H; (try simp only [Int.toNat_natCast] at H)))
          | ((with_reducible refine is_load ?_); apply wl_elem_agg intE H; rfl; rfl; rfl; infer_instance; infer_instance; (first | assumption | (simp only [Int.toNat_natCast]; assumption)); rfl; (conv => lhs; whnf); skip)
          | ((with_reducible refine is_load ?_); apply wl_elem intE H; rfl; rfl; rfl; infer_instance; infer_instance; (first | assumption | (simp only [Int.toNat_natCast]; assumption)); (conv => lhs; whnf); skip)
          | ((with_reducible refine is_lookup ?_); apply wl_lookup intK H; rfl; rfl; (conv => lhs; whnf); (conv => lhs; whnf); infer_instance; infer_instance; infer_instance; infer_instance; skip))
      go_roundw
      case rel =>
        refine ⟨j + 1, by omega, by go_num, ?_⟩
        have htk : (x.reds.take (j + 1)).map helloL = (x.reds.take j).map helloL ++ [helloL y] := by rw [List.take_add_one, hy, List.map_append]; rfl
        rw [htk]
        have H := ownL_nil (E := pairE) (e := 133) H
        have H1 := (ownLtr_iff (l := helloL y) (x := ⟨0, 0, 6, 0, 0, y.part, 0, 0, y.epoch, 0, ⟨.slice va vn vc, rfl⟩, ⟨.slice none 0 0, rfl⟩⟩)).2 ⟨rfl, (H.pull (ownL pairE 133 (.slice none 0 0) [])).pull (ownL intE 3 (.slice va vn vc) y.merged)⟩
        have H2 := ownZ_snoc ((H1.pull (ownZ ownLtr xs ((x.reds.take j).map helloL))).pull (ownLtr ⟨0, 0, 6, 0, 0, y.part, 0, 0, y.epoch, 0, ⟨.slice va vn vc, rfl⟩, ⟨.slice none 0 0, rfl⟩⟩ (helloL y)))
        have H3 := ltrsHP_iff.2 ⟨_, H2.pull (ownL ltrE 51 v (xs ++ [⟨0, 0, 6, 0, 0, y.part, 0, 0, y.epoch, 0, ⟨.slice va vn vc, rfl⟩, ⟨.slice none 0 0, rfl⟩⟩]))⟩
        have H4 := ownZ_untake hbj hy (((H3.pull (ownZ redHP (bs.drop (j + 1)) (x.reds.drop (j + 1)))).pull (ownZ redHP (bs.take j) (x.reds.take j))).pull (redHP bj y))
        exact H4.ent
      case measure => simp [intOf]; omega
    · obtain rfl : j = x.reds.length := by omega
      rw [List.take_length] at H
      have H1 : Sat w0 wr (ltrsHP u3 (x.reds.map helloL) :: wkHP wb x :: r) := by
        refine Sat.perm (?_ : Sat w0 wr (wkHP wb x :: ltrsHP u3 (x.reds.map helloL) :: r)) (.swap _ _ _)
        refine wkHP_iff.2 ⟨⟨cv, pv, mb, bs, .slice none 0 0⟩, ?_⟩
        · rw [ht, hend]
          have H3 : Sat w0 _ (tasksHP (.slice none 0 0) [] :: _) := Sat.prop_iff.2 ⟨⟨rfl, rfl⟩, H⟩
          show Sat w0 wr (.pt wb (.cells #[cv.splits, .int .i64 x.c.job.parts, cv.map, cv.combine, cv.reduce, .int .i64 x.c.job.chunk, .int .i64 x.c.job.window, .int .i64 x.c.job.fuel, cv.marks, .int .i64 x.c.workers, .int .i64 x.c.tries, .int .i64 x.c.timeout, .int .i64 x.epoch, pv, .map (some mb), .slice none 0 0, .int .u32 0] 102 (0, 0)) :: jobHP cv x.c.job :: ownL intE 3 pv (x.reds.map (·.part)) :: mapHP intK mb ((x.reds.map (·.part)).zip (bs.map ptrV)) :: ownZ redHP bs x.reds :: tasksHP (.slice none 0 0) [] :: ltrsHP u3 (x.reds.map helloL) :: r)
          exact H3.ent
      have HH1 := Lib.hid H1
      clear H1
      go_wp2_with (first
          | ((with_reducible refine is_ret ?_); apply ret_tmp1; rfl; rfl; (conv => lhs; whnf); skip)
          | ((with_reducible refine is_load ?_); apply wl_load H; rfl; rfl; rfl; infer_instance; infer_instance; rfl; skip)
          | ((with_reducible refine is_load ?_); apply wl_load_agg H; rfl; rfl; rfl; infer_instance; infer_instance; (focus (simp; done)); (try simp only [cut, List.drop_zero, List.drop_succ_cons, List.take_succ_cons, List.take_zero]))
          | ((with_reducible refine is_alloc ?_); apply wl_alloc H; rfl; rfl; infer_instance; (conv => lhs; whnf); (clear H; intro b w H))
          | ((with_reducible refine is_store ?_); apply wl_store H; rfl; rfl; rfl; infer_instance; infer_instance; (focus (simp; done)); (conv => lhs; whnf); infer_instance; (clear H; intro w H; (try simp only [List.setIfInBounds_toArray, List.set_cons_zero, List.set_cons_succ] at H)))
          | ((with_reducible refine is_store ?_); apply wl_store_agg H; rfl; rfl; rfl; infer_instance; infer_instance; rfl; (conv => lhs; whnf); rfl; (first | (focus (simp; done)) | (simp; omega)); infer_instance; (clear H; intro w H; (try simp only [putAll, List.setIfInBounds_toArray, List.set_cons_zero, List.set_cons_succ] at H)))
          | ((with_reducible refine is_append ?_); apply wl_append ltrE H; rfl; rfl; (conv => lhs; whnf); (conv => lhs; whnf); infer_instance; infer_instance; infer_instance; infer_instance; (first | omega | (simp only [List.length_append, List.length_cons, List.length_nil, List.length_take, List.length_drop, List.length_replicate, Int.toNat_natCast]; omega) | (simp; omega)); (clear H; intro v w H; have hone := One1.mk (ownL_one H)))
          | ((with_reducible refine is_len ?_); apply wl_len intE H; rfl; rfl; (conv => lhs; whnf); infer_instance; infer_instance; skip)
          | ((with_reducible refine is_indexAddr ?_); apply wl_index intE H; rfl; rfl; (conv => lhs; whnf); rfl; infer_instance; infer_instance; infer_instance; (first | omega | (simp only [List.length_take, List.length_drop, List.length_append, List.length_cons, List.length_nil, List.length_replicate, List.length_set, Int.toNat_natCast]; omega)); (first | omega | (simp only [List.length_take, List.length_drop, List.length_append, List.length_cons, List.length_nil, List.length_replicate, List.length_set, Int.toNat_natCast]; omega)); skip)
          | ((with_reducible refine is_buildSlice ?_); apply wl_build1 ltrE H; rfl; rfl; (conv => lhs; whnf); infer_instance; infer_instance; (conv => lhs; whnf); infer_instance; (clear H; intro v w H; have hone := One1.mk (ownL_one H)))
          | ((with_reducible refine is_store ?_); apply wl_set ltrE H; rfl; rfl; rfl; infer_instance; infer_instance; (first | omega | (simp only [List.length_take, List.length_drop, List.length_append, List.length_cons, List.length_nil, List.length_replicate, List.length_set, Int.toNat_natCast]; omega)); (conv => lhs; whnf); infer_instance; (clear H; intro w H; (try simp only [Int.toNat_natCast] at H)))
          | ((with_reducible refine is_store ?_); apply wl_set_agg ltrE H; rfl; rfl; rfl; infer_instance; infer_instance; rfl; (first | omega | (simp only [List.length_take, List.length_drop, List.length_append, List.length_cons, List.length_nil, List.length_replicate, List.length_set, Int.toNat_natCast]; omega)); (conv => lhs; whnf); (conv => lhs; whnf); infer_instance; (clear H; intro w H; (try simp only [Int.toNat_natCast] at H)))
          | ((with_reducible refine is_load ?_); apply wl_elem_agg ltrE H; rfl; rfl; rfl; infer_instance; infer_instance; (first | assumption | (simp only [Int.toNat_natCast]; assumption)); rfl; (conv => lhs; whnf); skip)
          | ((with_reducible refine is_load ?_); apply wl_elem ltrE H; rfl; rfl; rfl; infer_instance; infer_instance; (first | assumption | (simp only [Int.toNat_natCast]; assumption)); (conv => lhs; whnf); skip)
          | ((with_reducible refine is_store ?_); apply wl_set intE H; rfl; rfl; rfl; infer_instance; infer_instance; (first | omega | (simp only [List.length_take, List.length_drop, List.length_append, List.length_cons, List.length_nil, List.length_replicate, List.length_set, Int.toNat_natCast]; omega)); (conv => lhs; whnf); infer_instance; (clear H; intro w H; (try simp only [Int.toNat_natCast] at H)))
          | ((with_reducible refine is_store ?_); apply wl_set_agg intE H; rfl; rfl; rfl; infer_instance; infer_instance; rfl; (first | omega | (simp only [List.length_take, List.length_drop, List.length_append, List.length_cons, List.length_nil, List.length_replicate, List.length_set, Int.toNat_natCast]; omega)); (conv => lhs; whnf); (conv => lhs; whnf); infer_instance; (clear H; intro w H; (try simp only [Int.toNat_natCast] at H)))
          | ((with_reducible refine is_load ?_); apply wl_elem_agg intE H; rfl; rfl; rfl; infer_instance; infer_instance; (first | assumption | (simp only [Int.toNat_natCast]; assumption)); rfl; (conv => lhs; whnf); skip)
          | ((with_reducible refine is_load ?_); apply wl_elem intE H; rfl; rfl; rfl; infer_instance; infer_instance; (first | assumption | (simp only [Int.toNat_natCast]; assumption)); (conv => lhs; whnf); skip)
          | ((with_reducible refine is_lookup ?_); apply wl_lookup intK H; rfl; rfl; (conv => lhs; whnf); (conv => lhs; whnf); infer_instance; infer_instance; infer_instance; infer_instance; skip))
      first | exact HH1.out | exact k _ _ HH1.out
end Go.Proofs.YtcdkaggdidfenaaGreatDoor
