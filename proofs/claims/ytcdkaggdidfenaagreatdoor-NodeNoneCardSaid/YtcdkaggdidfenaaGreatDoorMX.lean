/- A part of the proof: contracts of functions of the given program, and the laws on memory that they lean on. -/
import Derived.Test.YtcdkaggdidfenaaGreatDoorMW
set_option linter.all false

namespace Go.Proofs.YtcdkaggdidfenaaGreatDoor
open Go.RowKit Go.Proofs Go.SL St
set_option maxRecDepth 100000
variable {w w0 : World} {As r : List HP} {R : Ending → World → Prop}

/-! ### of no node -/
theorem c61nil (H : Sat w0 w As) (k : ∀ w', Sat w0 w' As → R (.returned (.tuple #[])) w') : Calls Tryz.prog 19 #[.pointer none] w R := by
  go_enter Tryz.func19, Tryz.ntmps19
  go_wp2_with (first
      | (go_at_call 22; refine c64nil H ?_; clear H; intro w H)
      | ((with_reducible refine is_end ?_); refine bodyPost_end (results_none rfl _ _ _) rfl ?_)
      | ((with_reducible refine is_ret ?_); refine bodyPost_ret (results_none rfl _ _ _) rfl ?_)
      | ((with_reducible refine is_load ?_); apply wl_load H; rfl; rfl; rfl; infer_instance; infer_instance; rfl; skip)
      | ((with_reducible refine is_load ?_); apply wl_load_agg H; rfl; rfl; rfl; infer_instance; infer_instance; (focus (simp; done)); (try simp only [cut, List.drop_zero, List.drop_succ_cons, List.take_succ_cons, List.take_zero])))
  first | exact H.ent | exact k _ H.ent
theorem c62nil (H : Sat w0 w As) (k : ∀ w', Sat w0 w' As → R (.returned (.slice none 0 0)) w') : Calls Tryz.prog 20 #[.pointer none] w R := by
  go_enter Tryz.func20, Tryz.ntmps20
  go_wp2_with (first
      | (go_at_call 22; refine c64nil H ?_; clear H; intro w H)
      | ((with_reducible refine is_ret ?_); apply ret_tmp1; rfl; rfl; (conv => lhs; whnf); skip)
      | ((with_reducible refine is_load ?_); apply wl_load H; rfl; rfl; rfl; infer_instance; infer_instance; rfl; skip)
      | ((with_reducible refine is_load ?_); apply wl_load_agg H; rfl; rfl; rfl; infer_instance; infer_instance; (focus (simp; done)); (try simp only [cut, List.drop_zero, List.drop_succ_cons, List.take_succ_cons, List.take_zero])))
  first | exact H.ent | exact k _ H.ent
theorem c63nil {l : Value} {cs : Array Value} (hl : l = .agg cs) (H : Sat w0 w As) (k : ∀ w', Sat w0 w' As → R (.returned (.slice none 0 0)) w') : Calls Tryz.prog 21 #[.pointer none, l] w R := by
  subst hl
  go_enter Tryz.func21, Tryz.ntmps21
  go_wp2_with (first
      | (go_at_call 22; refine c64nil H ?_; clear H; intro w H)
      | ((with_reducible refine is_ret ?_); apply ret_tmp1; rfl; rfl; (conv => lhs; whnf); skip)
      | ((with_reducible refine is_box ?_); apply wl_box H; rfl; rfl; (conv => lhs; whnf); (conv => lhs; whnf); (clear H; intro b w H))
      | ((with_reducible refine is_load ?_); apply wl_load H; rfl; rfl; rfl; infer_instance; infer_instance; rfl; skip)
      | ((with_reducible refine is_load ?_); apply wl_load_agg H; rfl; rfl; rfl; infer_instance; infer_instance; (focus (simp; done)); (try simp only [cut, List.drop_zero, List.drop_succ_cons, List.take_succ_cons, List.take_zero])))
  first | exact H.ent | exact k _ H.ent
theorem c57nil (H : Sat w0 w As) (k : ∀ w', Sat w0 w' As → R (.returned (.slice none 0 0)) w') : Calls Tryz.prog 15 #[.pointer none] w R := by
  go_enter Tryz.func15, Tryz.ntmps15
  go_wp2_with (first
      | (go_at_call 22; refine c64nil H ?_; clear H; intro w H)
      | ((with_reducible refine is_ret ?_); apply ret_tmp1; rfl; rfl; (conv => lhs; whnf); skip)
      | ((with_reducible refine is_load ?_); apply wl_load H; rfl; rfl; rfl; infer_instance; infer_instance; rfl; skip)
      | ((with_reducible refine is_load ?_); apply wl_load_agg H; rfl; rfl; rfl; infer_instance; infer_instance; (focus (simp; done)); (try simp only [cut, List.drop_zero, List.drop_succ_cons, List.take_succ_cons, List.take_zero])))
  first | exact H.ent | exact k _ H.ent
theorem c58nil {n : Int} (H : Sat w0 w As) (k : ∀ w', Sat w0 w' As → R (.returned (.int .i64 1)) w') : Calls Tryz.prog 16 #[.pointer none, .int .i64 n] w R := by
  go_enter Tryz.func16, Tryz.ntmps16
  go_wp2_with (first
      | ((with_reducible refine is_ret ?_); apply ret_tmp1; rfl; rfl; (conv => lhs; whnf); skip)
      | ((with_reducible refine is_load ?_); apply wl_load H; rfl; rfl; rfl; infer_instance; infer_instance; rfl; skip)
      | ((with_reducible refine is_load ?_); apply wl_load_agg H; rfl; rfl; rfl; infer_instance; infer_instance; (focus (simp; done)); (try simp only [cut, List.drop_zero, List.drop_succ_cons, List.take_succ_cons, List.take_zero]))
      | ((with_reducible refine is_store ?_); apply wl_store H; rfl; rfl; rfl; infer_instance; infer_instance; (focus (simp; done)); (conv => lhs; whnf); infer_instance; (clear H; intro w H; (try simp only [List.setIfInBounds_toArray, List.set_cons_zero, List.set_cons_succ] at H)))
      | ((with_reducible refine is_store ?_); apply wl_store_agg H; rfl; rfl; rfl; infer_instance; infer_instance; rfl; (conv => lhs; whnf); rfl; (first | (focus (simp; done)) | (simp; omega)); infer_instance; (clear H; intro w H; (try simp only [putAll, List.setIfInBounds_toArray, List.set_cons_zero, List.set_cons_succ] at H))))
  first | exact H.ent | exact k _ H.ent
theorem c59nil (H : Sat w0 w As) (k : ∀ w', Sat w0 w' As → R (.returned (.int .i64 1)) w') : Calls Tryz.prog 17 #[.pointer none] w R := by
  go_enter Tryz.func17, Tryz.ntmps17
  go_wp2_with (first
      | ((with_reducible refine is_ret ?_); apply ret_tmp1; rfl; rfl; (conv => lhs; whnf); skip)
      | ((with_reducible refine is_load ?_); apply wl_load H; rfl; rfl; rfl; infer_instance; infer_instance; rfl; skip)
      | ((with_reducible refine is_load ?_); apply wl_load_agg H; rfl; rfl; rfl; infer_instance; infer_instance; (focus (simp; done)); (try simp only [cut, List.drop_zero, List.drop_succ_cons, List.take_succ_cons, List.take_zero]))
      | ((with_reducible refine is_store ?_); apply wl_store H; rfl; rfl; rfl; infer_instance; infer_instance; (focus (simp; done)); (conv => lhs; whnf); infer_instance; (clear H; intro w H; (try simp only [List.setIfInBounds_toArray, List.set_cons_zero, List.set_cons_succ] at H)))
      | ((with_reducible refine is_store ?_); apply wl_store_agg H; rfl; rfl; rfl; infer_instance; infer_instance; rfl; (conv => lhs; whnf); rfl; (first | (focus (simp; done)) | (simp; omega)); infer_instance; (clear H; intro w H; (try simp only [putAll, List.setIfInBounds_toArray, List.set_cons_zero, List.set_cons_succ] at H))))
  first | exact H.ent | exact k _ H.ent

def bigPr (p : Pr) : Bool := decide (100 < p.key.size) || decide (100 < p.val.size)
def greatPairs (ps : List Pr) (most : Int) : Bool := decide (most < ps.length) || ps.any bigPr

set_option maxHeartbeats 2000000 in
theorem c154 {v : Value} {ps : List Pr} {most : Int} [hr : RdV pairE As v ps] (H : Sat w0 w As) (k : ∀ w', Sat w0 w' As → R (.returned (.bool (greatPairs ps most))) w') :
    Calls Tryz.prog 40 #[v, .int .i64 most] w R := by
  have hl := hr.len_le H
  have K := Lib.hid k
  clear k
  by_cases hm : (ps.length : Int) ≤ most
  · go_enter Tryz.func40, Tryz.ntmps40
    go_wp2_with (first
        | ((with_reducible refine is_ret ?_); apply ret_tmp1; rfl; rfl; (conv => lhs; whnf); skip)
        | ((with_reducible refine is_load ?_); apply wl_load H; rfl; rfl; rfl; infer_instance; infer_instance; rfl; skip)
        | ((with_reducible refine is_load ?_); apply wl_load_agg H; rfl; rfl; rfl; infer_instance; infer_instance; (focus (simp; done)); (try simp only [cut, List.drop_zero, List.drop_succ_cons, List.take_succ_cons, List.take_zero]))
        | ((with_reducible refine is_len ?_); apply wl_len pairE H; rfl; rfl; (conv => lhs; whnf); infer_instance; infer_instance; skip)
        | ((with_reducible refine is_indexAddr ?_); apply wl_index pairE H; rfl; rfl; (conv => lhs; whnf); rfl; infer_instance; infer_instance; infer_instance; (first | omega | (simp only [List.length_take, List.length_drop, List.length_append, List.length_cons, List.length_nil, List.length_replicate, List.length_set, Int.toNat_natCast]; omega)); (first | omega | (simp only [List.length_take, List.length_drop, List.length_append, List.length_cons, List.length_nil, List.length_replicate, List.length_set, Int.toNat_natCast]; omega)); skip)
        | ((with_reducible refine is_fieldAddr ?_); apply wl_fieldElem pairE H; rfl; rfl; rfl; infer_instance; infer_instance; (first | omega | (simp only [List.length_take, List.length_drop, List.length_append, List.length_cons, List.length_nil, List.length_replicate, List.length_set, Int.toNat_natCast]; omega)); skip)
        | ((with_reducible refine is_fieldAddr ?_); apply wl_fieldFld pairE H; rfl; rfl; rfl; infer_instance; infer_instance; (first | omega | (simp only [List.length_take, List.length_drop, List.length_append, List.length_cons, List.length_nil, List.length_replicate, List.length_set, Int.toNat_natCast]; omega)); (try simp only [Nat.reduceAdd]))
        | ((with_reducible refine is_load ?_); apply wl_elemFld_agg pairE H; rfl; rfl; rfl; infer_instance; infer_instance; (first | assumption | (simp only [Int.toNat_natCast]; assumption)); (conv => lhs; simp only [pairE, List.drop_succ_cons, List.drop_zero, List.take_succ_cons, List.take_zero]); rfl; skip)
        | ((with_reducible refine is_load ?_); apply wl_elemFld pairE H; rfl; rfl; rfl; infer_instance; infer_instance; (first | assumption | (simp only [Int.toNat_natCast]; assumption)); rfl; skip)
        | ((with_reducible refine is_load ?_); apply wl_elem_agg pairE H; rfl; rfl; rfl; infer_instance; infer_instance; (first | assumption | (simp only [Int.toNat_natCast]; assumption)); rfl; (conv => lhs; whnf); skip)
        | ((with_reducible refine is_load ?_); apply wl_elem pairE H; rfl; rfl; rfl; infer_instance; infer_instance; (first | assumption | (simp only [Int.toNat_natCast]; assumption)); (conv => lhs; whnf); skip))
    go_loopw [5] (fun i w => ∃ j : Nat, j ≤ ps.length ∧ i = .int .i64 j ∧ (∀ y ∈ ps.take j, bigPr y = false) ∧ Sat w0 w As) (fun i _ => ps.length - (intOf i).toNat)
    case atStart => exact ⟨0, by omega, rfl, by simp, H⟩
    case round =>
      obtain ⟨j, hj, rfl, hb, H⟩ := hrel
      by_cases hlt : j < ps.length
      · obtain ⟨x, hx⟩ : ∃ x, ps[j]? = some x := ⟨ps[j]'hlt, by simp⟩
        have HT := Lib.hid (fun (h : bigPr x = false) => take_next (f := bigPr) hx hb h)
        have HX : Hid (bigPr x = true → greatPairs ps most = true) := Lib.hid (fun h => by
          unfold greatPairs; rw [Bool.or_eq_true]; right; exact List.any_eq_true.2 ⟨x, List.mem_of_getElem? hx, h⟩)
        go_wp2_with (first
            | ((with_reducible refine is_ret ?_); apply ret_tmp1; rfl; rfl; (conv => lhs; whnf); skip)
            | ((with_reducible refine is_load ?_); apply wl_load H; rfl; rfl; rfl; infer_instance; infer_instance; rfl; skip)
            | ((with_reducible refine is_load ?_); apply wl_load_agg H; rfl; rfl; rfl; infer_instance; infer_instance; (focus (simp; done)); (try simp only [cut, List.drop_zero, List.drop_succ_cons, List.take_succ_cons, List.take_zero]))
            | ((with_reducible refine is_len ?_); apply wl_len pairE H; rfl; rfl; (conv => lhs; whnf); infer_instance; infer_instance; skip)
            | ((with_reducible refine is_indexAddr ?_); apply wl_index pairE H; rfl; rfl; (conv => lhs; whnf); rfl; infer_instance; infer_instance; infer_instance; (first | omega | (simp only [List.length_take, List.length_drop, List.length_append, List.length_cons, List.length_nil, List.length_replicate, List.length_set, Int.toNat_natCast]; omega)); (first | omega | (simp only [List.length_take, List.length_drop, List.length_append, List.length_cons, List.length_nil, List.length_replicate, List.length_set, Int.toNat_natCast]; omega)); skip)
            | ((with_reducible refine is_fieldAddr ?_); apply wl_fieldElem pairE H; rfl; rfl; rfl; infer_instance; infer_instance; (first | omega | (simp only [List.length_take, List.length_drop, List.length_append, List.length_cons, List.length_nil, List.length_replicate, List.length_set, Int.toNat_natCast]; omega)); skip)
            | ((with_reducible refine is_fieldAddr ?_); apply wl_fieldFld pairE H; rfl; rfl; rfl; infer_instance; infer_instance; (first | omega | (simp only [List.length_take, List.length_drop, List.length_append, List.length_cons, List.length_nil, List.length_replicate, List.length_set, Int.toNat_natCast]; omega)); (try simp only [Nat.reduceAdd]))
            | ((with_reducible refine is_load ?_); apply wl_elemFld_agg pairE H; rfl; rfl; rfl; infer_instance; infer_instance; (first | assumption | (simp only [Int.toNat_natCast]; assumption)); (conv => lhs; simp only [pairE, List.drop_succ_cons, List.drop_zero, List.take_succ_cons, List.take_zero]); rfl; skip)
            | ((with_reducible refine is_load ?_); apply wl_elemFld pairE H; rfl; rfl; rfl; infer_instance; infer_instance; (first | assumption | (simp only [Int.toNat_natCast]; assumption)); rfl; skip)
            | ((with_reducible refine is_load ?_); apply wl_elem_agg pairE H; rfl; rfl; rfl; infer_instance; infer_instance; (first | assumption | (simp only [Int.toNat_natCast]; assumption)); rfl; (conv => lhs; whnf); skip)
            | ((with_reducible refine is_load ?_); apply wl_elem pairE H; rfl; rfl; rfl; infer_instance; infer_instance; (first | assumption | (simp only [Int.toNat_natCast]; assumption)); (conv => lhs; whnf); skip))
        all_goals first
          | (go_roundw
             case rel => exact ⟨j + 1, by omega, by go_num, HT.out (by simp [bigPr]; omega), H.ent⟩
             case measure => simp [intOf]; omega)
          | (refine fin (K.out _ H.ent) ?_; rw [HX.out (by simp [bigPr]; omega)])
      · obtain rfl : j = ps.length := by omega
        have hf : greatPairs ps most = false := by
          unfold greatPairs
          rw [List.take_length] at hb
          rw [Bool.or_eq_false_iff]
          exact ⟨by simp; omega, List.any_eq_false.2 fun y hy => by rw [hb y hy]; simp⟩
        have HF := Lib.hid hf
        clear hf
        go_wp2_with (first
            | ((with_reducible refine is_ret ?_); apply ret_tmp1; rfl; rfl; (conv => lhs; whnf); skip)
            | ((with_reducible refine is_load ?_); apply wl_load H; rfl; rfl; rfl; infer_instance; infer_instance; rfl; skip)
            | ((with_reducible refine is_load ?_); apply wl_load_agg H; rfl; rfl; rfl; infer_instance; infer_instance; (focus (simp; done)); (try simp only [cut, List.drop_zero, List.drop_succ_cons, List.take_succ_cons, List.take_zero]))
            | ((with_reducible refine is_len ?_); apply wl_len pairE H; rfl; rfl; (conv => lhs; whnf); infer_instance; infer_instance; skip)
            | ((with_reducible refine is_indexAddr ?_); apply wl_index pairE H; rfl; rfl; (conv => lhs; whnf); rfl; infer_instance; infer_instance; infer_instance; (first | omega | (simp only [List.length_take, List.length_drop, List.length_append, List.length_cons, List.length_nil, List.length_replicate, List.length_set, Int.toNat_natCast]; omega)); (first | omega | (simp only [List.length_take, List.length_drop, List.length_append, List.length_cons, List.length_nil, List.length_replicate, List.length_set, Int.toNat_natCast]; omega)); skip)
            | ((with_reducible refine is_fieldAddr ?_); apply wl_fieldElem pairE H; rfl; rfl; rfl; infer_instance; infer_instance; (first | omega | (simp only [List.length_take, List.length_drop, List.length_append, List.length_cons, List.length_nil, List.length_replicate, List.length_set, Int.toNat_natCast]; omega)); skip)
            | ((with_reducible refine is_fieldAddr ?_); apply wl_fieldFld pairE H; rfl; rfl; rfl; infer_instance; infer_instance; (first | omega | (simp only [List.length_take, List.length_drop, List.length_append, List.length_cons, List.length_nil, List.length_replicate, List.length_set, Int.toNat_natCast]; omega)); (try simp only [Nat.reduceAdd]))
            | ((with_reducible refine is_load ?_); apply wl_elemFld_agg pairE H; rfl; rfl; rfl; infer_instance; infer_instance; (first | assumption | (simp only [Int.toNat_natCast]; assumption)); (conv => lhs; simp only [pairE, List.drop_succ_cons, List.drop_zero, List.take_succ_cons, List.take_zero]); rfl; skip)
            | ((with_reducible refine is_load ?_); apply wl_elemFld pairE H; rfl; rfl; rfl; infer_instance; infer_instance; (first | assumption | (simp only [Int.toNat_natCast]; assumption)); rfl; skip)
            | ((with_reducible refine is_load ?_); apply wl_elem_agg pairE H; rfl; rfl; rfl; infer_instance; infer_instance; (first | assumption | (simp only [Int.toNat_natCast]; assumption)); rfl; (conv => lhs; whnf); skip)
            | ((with_reducible refine is_load ?_); apply wl_elem pairE H; rfl; rfl; rfl; infer_instance; infer_instance; (first | assumption | (simp only [Int.toNat_natCast]; assumption)); (conv => lhs; whnf); skip))
        refine fin (K.out _ H.ent) ?_
        rw [HF.out]
        simp
        try omega
  · have hf : greatPairs ps most = true := by unfold greatPairs; rw [Bool.or_eq_true]; left; simp; omega
    have HF := Lib.hid hf
    clear hf
    go_enter Tryz.func40, Tryz.ntmps40
    go_wp2_with (first
        | ((with_reducible refine is_ret ?_); apply ret_tmp1; rfl; rfl; (conv => lhs; whnf); skip)
        | ((with_reducible refine is_load ?_); apply wl_load H; rfl; rfl; rfl; infer_instance; infer_instance; rfl; skip)
        | ((with_reducible refine is_load ?_); apply wl_load_agg H; rfl; rfl; rfl; infer_instance; infer_instance; (focus (simp; done)); (try simp only [cut, List.drop_zero, List.drop_succ_cons, List.take_succ_cons, List.take_zero]))
        | ((with_reducible refine is_len ?_); apply wl_len pairE H; rfl; rfl; (conv => lhs; whnf); infer_instance; infer_instance; skip)
        | ((with_reducible refine is_indexAddr ?_); apply wl_index pairE H; rfl; rfl; (conv => lhs; whnf); rfl; infer_instance; infer_instance; infer_instance; (first | omega | (simp only [List.length_take, List.length_drop, List.length_append, List.length_cons, List.length_nil, List.length_replicate, List.length_set, Int.toNat_natCast]; omega)); (first | omega | (simp only [List.length_take, List.length_drop, List.length_append, List.length_cons, List.length_nil, List.length_replicate, List.length_set, Int.toNat_natCast]; omega)); skip)
        | ((with_reducible refine is_fieldAddr ?_); apply wl_fieldElem pairE H; rfl; rfl; rfl; infer_instance; infer_instance; (first | omega | (simp only [List.length_take, List.length_drop, List.length_append, List.length_cons, List.length_nil, List.length_replicate, List.length_set, Int.toNat_natCast]; omega)); skip)
        | ((with_reducible refine is_fieldAddr ?_); apply wl_fieldFld pairE H; rfl; rfl; rfl; infer_instance; infer_instance; (first | omega | (simp only [List.length_take, List.length_drop, List.length_append, List.length_cons, List.length_nil, List.length_replicate, List.length_set, Int.toNat_natCast]; omega)); (try simp only [Nat.reduceAdd]))
        | ((with_reducible refine is_load ?_); apply wl_elemFld_agg pairE H; rfl; rfl; rfl; infer_instance; infer_instance; (first | assumption | (simp only [Int.toNat_natCast]; assumption)); (conv => lhs; simp only [pairE, List.drop_succ_cons, List.drop_zero, List.take_succ_cons, List.take_zero]); rfl; skip)
        | ((with_reducible refine is_load ?_); apply wl_elemFld pairE H; rfl; rfl; rfl; infer_instance; infer_instance; (first | assumption | (simp only [Int.toNat_natCast]; assumption)); rfl; skip)
        | ((with_reducible refine is_load ?_); apply wl_elem_agg pairE H; rfl; rfl; rfl; infer_instance; infer_instance; (first | assumption | (simp only [Int.toNat_natCast]; assumption)); rfl; (conv => lhs; whnf); skip)
        | ((with_reducible refine is_load ?_); apply wl_elem pairE H; rfl; rfl; rfl; infer_instance; infer_instance; (first | assumption | (simp only [Int.toNat_natCast]; assumption)); (conv => lhs; whnf); skip))
    refine wp_loop_rounds 1 ?_
    rw [rounds_succ]
    go_wp2_with (first
        | ((with_reducible refine is_ret ?_); apply ret_tmp1; rfl; rfl; (conv => lhs; whnf); skip)
        | ((with_reducible refine is_load ?_); apply wl_load H; rfl; rfl; rfl; infer_instance; infer_instance; rfl; skip)
        | ((with_reducible refine is_load ?_); apply wl_load_agg H; rfl; rfl; rfl; infer_instance; infer_instance; (focus (simp; done)); (try simp only [cut, List.drop_zero, List.drop_succ_cons, List.take_succ_cons, List.take_zero]))
        | ((with_reducible refine is_len ?_); apply wl_len pairE H; rfl; rfl; (conv => lhs; whnf); infer_instance; infer_instance; skip)
        | ((with_reducible refine is_indexAddr ?_); apply wl_index pairE H; rfl; rfl; (conv => lhs; whnf); rfl; infer_instance; infer_instance; infer_instance; (first | omega | (simp only [List.length_take, List.length_drop, List.length_append, List.length_cons, List.length_nil, List.length_replicate, List.length_set, Int.toNat_natCast]; omega)); (first | omega | (simp only [List.length_take, List.length_drop, List.length_append, List.length_cons, List.length_nil, List.length_replicate, List.length_set, Int.toNat_natCast]; omega)); skip)
        | ((with_reducible refine is_fieldAddr ?_); apply wl_fieldElem pairE H; rfl; rfl; rfl; infer_instance; infer_instance; (first | omega | (simp only [List.length_take, List.length_drop, List.length_append, List.length_cons, List.length_nil, List.length_replicate, List.length_set, Int.toNat_natCast]; omega)); skip)
        | ((with_reducible refine is_fieldAddr ?_); apply wl_fieldFld pairE H; rfl; rfl; rfl; infer_instance; infer_instance; (first | omega | (simp only [List.length_take, List.length_drop, List.length_append, List.length_cons, List.length_nil, List.length_replicate, List.length_set, Int.toNat_natCast]; omega)); (try simp only [Nat.reduceAdd]))
        | ((with_reducible refine is_load ?_); apply wl_elemFld_agg pairE H; rfl; rfl; rfl; infer_instance; infer_instance; (first | assumption | (simp only [Int.toNat_natCast]; assumption)); (conv => lhs; simp only [pairE, List.drop_succ_cons, List.drop_zero, List.take_succ_cons, List.take_zero]); rfl; skip)
        | ((with_reducible refine is_load ?_); apply wl_elemFld pairE H; rfl; rfl; rfl; infer_instance; infer_instance; (first | assumption | (simp only [Int.toNat_natCast]; assumption)); rfl; skip)
        | ((with_reducible refine is_load ?_); apply wl_elem_agg pairE H; rfl; rfl; rfl; infer_instance; infer_instance; (first | assumption | (simp only [Int.toNat_natCast]; assumption)); rfl; (conv => lhs; whnf); skip)
        | ((with_reducible refine is_load ?_); apply wl_elem pairE H; rfl; rfl; rfl; infer_instance; infer_instance; (first | assumption | (simp only [Int.toNat_natCast]; assumption)); (conv => lhs; whnf); skip))
    all_goals (refine fin (K.out _ H.ent) ?_; rw [HF.out]; try simp)

def greatMsg (set : List Int) (pairs : List Pr) : Bool := decide (20 < set.length) || greatPairs pairs 50
set_option maxHeartbeats 2000000 in
theorem c75 {a1 a2 a3 a4 a5 a6 a7 a8 : Int} {s p : Value} {set : List Int} {pairs : List Pr} [hs : RdV intE As s set] [hp : RdV pairE As p pairs] (H : Sat w0 w As) (k : ∀ w', Sat w0 w' As → R (.returned (.bool (greatMsg set pairs))) w') :
    Calls Tryz.prog 28 #[.agg #[.int .i64 a1, .int .i64 a2, .int .i64 a3, .int .i64 a4, .int .i64 a5, .int .i64 a6, .int .i64 a7, .int .i64 a8, s, p]] w R := by
  have hl := hs.len_le H
  have K := Lib.hid k
  clear k
  go_enter Tryz.func28, Tryz.ntmps28
  go_wp2_with (first
      | (go_at_call 40; refine c154 H ?_; clear H; intro w H)
      | ((with_reducible refine is_ret ?_); apply ret_tmp1; rfl; rfl; (conv => lhs; whnf); skip)
      | ((with_reducible refine is_box ?_); apply wl_box H; rfl; rfl; (conv => lhs; whnf); (conv => lhs; whnf); (clear H; intro b w H))
      | ((with_reducible refine is_load ?_); apply wl_load H; rfl; rfl; rfl; infer_instance; infer_instance; rfl; skip)
      | ((with_reducible refine is_load ?_); apply wl_load_agg H; rfl; rfl; rfl; infer_instance; infer_instance; (focus (simp; done)); (try simp only [cut, List.drop_zero, List.drop_succ_cons, List.take_succ_cons, List.take_zero]))
      | ((with_reducible refine is_len ?_); apply wl_len intE H; rfl; rfl; (conv => lhs; whnf); infer_instance; infer_instance; skip)
      | ((with_reducible refine is_fieldAddr ?_); apply wl_fieldElem intE H; rfl; rfl; rfl; infer_instance; infer_instance; (first | omega | (simp only [List.length_take, List.length_drop, List.length_append, List.length_cons, List.length_nil, List.length_replicate, List.length_set, Int.toNat_natCast]; omega)); skip)
      | ((with_reducible refine is_fieldAddr ?_); apply wl_fieldFld intE H; rfl; rfl; rfl; infer_instance; infer_instance; (first | omega | (simp only [List.length_take, List.length_drop, List.length_append, List.length_cons, List.length_nil, List.length_replicate, List.length_set, Int.toNat_natCast]; omega)); (try simp only [Nat.reduceAdd]))
      | ((with_reducible refine is_load ?_); apply wl_elemFld_agg intE H; rfl; rfl; rfl; infer_instance; infer_instance; (first | assumption | (simp only [Int.toNat_natCast]; assumption)); (conv => lhs; simp only [intE, List.drop_succ_cons, List.drop_zero, List.take_succ_cons, List.take_zero]); rfl; skip)
      | ((with_reducible refine is_load ?_); apply wl_elemFld intE H; rfl; rfl; rfl; infer_instance; infer_instance; (first | assumption | (simp only [Int.toNat_natCast]; assumption)); rfl; skip)
      | ((with_reducible refine is_load ?_); apply wl_elem_agg intE H; rfl; rfl; rfl; infer_instance; infer_instance; (first | assumption | (simp only [Int.toNat_natCast]; assumption)); rfl; (conv => lhs; whnf); skip)
      | ((with_reducible refine is_load ?_); apply wl_elem intE H; rfl; rfl; rfl; infer_instance; infer_instance; (first | assumption | (simp only [Int.toNat_natCast]; assumption)); (conv => lhs; whnf); skip))
  all_goals (refine fin (K.out _ H.ent) ?_; simp only [greatMsg]; simp_all; first | done | (left; omega) | (intro h; omega))

set_option maxHeartbeats 4000000 in
theorem c8 {d x a b a1 a2 a3 a4 a5 a6 a7 a8 : Int} {s p : Value} {set : List Int} {pairs : List Pr} [hs : RdV intE As s set] [hp : RdV pairE As p pairs] (H : Sat w0 w As) (k : ∀ w', Sat w0 w' As → R (.returned (.bool true)) w') :
    Calls Tryz.prog 5 #[.agg #[.int .i64 d, .int .i64 x, .int .i64 a, .int .i64 b, .int .i64 a1, .int .i64 a2, .int .i64 a3, .int .i64 a4, .int .i64 a5, .int .i64 a6, .int .i64 a7, .int .i64 a8, s, p]] w R := by
  have K := Lib.hid k
  clear k
  go_enter Tryz.func5, Tryz.ntmps5
  cases hg : greatMsg set pairs
  all_goals
    go_wp2_with (first
        | (go_at_call 28; refine c75 H ?_; clear H; intro w H; rw [hg])
        | (go_at_call 10; refine c53 H ?_; clear H; intro w H)
        | (go_at_call 19; refine c61nil H ?_; clear H; intro w H)
        | (go_at_call 20; refine c62nil H ?_; clear H; intro w H)
        | (go_at_call 21; refine c63nil rfl H ?_; clear H; intro w H)
        | (go_at_call 15; refine c57nil H ?_; clear H; intro w H)
        | (go_at_call 16; refine c58nil H ?_; clear H; intro w H)
        | (go_at_call 17; refine c59nil H ?_; clear H; intro w H)
        | (go_at_call 22; refine c64nil H ?_; clear H; intro w H)
        | (go_at_call 25; refine c67nil H ?_; clear H; intro w H)
        | (go_at_call 23; refine c65nil H ?_; clear H; intro w H)
        | (go_at_call 29; refine c74nil H ?_; clear H; intro w H)
        | (go_at_call 13; refine c56nil H ?_; clear H; intro w H)
        | ((with_reducible refine is_ret ?_); apply ret_tmp1; rfl; rfl; (conv => lhs; whnf); skip)
        | ((with_reducible refine is_box ?_); apply wl_box H; rfl; rfl; (conv => lhs; whnf); (conv => lhs; whnf); (clear H; intro b w H))
        | ((with_reducible refine is_load ?_); apply wl_load H; rfl; rfl; rfl; infer_instance; infer_instance; rfl; skip)
        | ((with_reducible refine is_load ?_); apply wl_load_agg H; rfl; rfl; rfl; infer_instance; infer_instance; (focus (simp; done)); (try simp only [cut, List.drop_zero, List.drop_succ_cons, List.take_succ_cons, List.take_zero]))
        | ((with_reducible refine is_len ?_); apply wl_len ltrE H; rfl; rfl; (conv => lhs; whnf); infer_instance; infer_instance; skip)
        | ((with_reducible refine is_fieldAddr ?_); apply wl_fieldElem ltrE H; rfl; rfl; rfl; infer_instance; infer_instance; (first | omega | (simp only [List.length_take, List.length_drop, List.length_append, List.length_cons, List.length_nil, List.length_replicate, List.length_set, Int.toNat_natCast]; omega)); skip)
        | ((with_reducible refine is_fieldAddr ?_); apply wl_fieldFld ltrE H; rfl; rfl; rfl; infer_instance; infer_instance; (first | omega | (simp only [List.length_take, List.length_drop, List.length_append, List.length_cons, List.length_nil, List.length_replicate, List.length_set, Int.toNat_natCast]; omega)); (try simp only [Nat.reduceAdd]))
        | ((with_reducible refine is_load ?_); apply wl_elemFld_agg ltrE H; rfl; rfl; rfl; infer_instance; infer_instance; (first | assumption | (simp only [Int.toNat_natCast]; assumption)); (conv => lhs; simp only [ltrE, List.drop_succ_cons, List.drop_zero, List.take_succ_cons, List.take_zero]); rfl; skip)
        | ((with_reducible refine is_load ?_); apply wl_elemFld ltrE H; rfl; rfl; rfl; infer_instance; infer_instance; (first | assumption | (simp only [Int.toNat_natCast]; assumption)); rfl; skip)
        | ((with_reducible refine is_load ?_); apply wl_elem_agg ltrE H; rfl; rfl; rfl; infer_instance; infer_instance; (first | assumption | (simp only [Int.toNat_natCast]; assumption)); rfl; (conv => lhs; whnf); skip)
        | ((with_reducible refine is_load ?_); apply wl_elem ltrE H; rfl; rfl; rfl; infer_instance; infer_instance; (first | assumption | (simp only [Int.toNat_natCast]; assumption)); (conv => lhs; whnf); skip))
    exact K.out _ H.ent
end Go.Proofs.YtcdkaggdidfenaaGreatDoor
