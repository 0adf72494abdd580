/- A part of the proof: contracts of functions of the given program, and the laws on memory that they lean on. -/
import Derived.Test.YtcdkaggdidfenaaGreatDoorMF
import Derived.Laws.Bits64b
set_option linter.all false
namespace Go.Proofs.YtcdkaggdidfenaaGreatDoor
open Go.RowKit Go.Proofs Go.SL St
set_option maxRecDepth 40000
variable {w w0 : World} {As r : List HP} {R : Ending → World → Prop}

theorem numB_take (n : Int) (i : Nat) (h : i < 8) : (numB n).take (i + 1) = (numB n).take i ++ [numByte n i] := by
  rw [List.take_add_one]
  simp [numB, h]

theorem numByte_val (n : Int) (j : Nat) : ((numByte n j).toNat : Int) = IntKind.u64.wrap n / 2 ^ (8 * (7 - j)) % 256 := by
  have hu : IntKind.u64.wrap n = n % 18446744073709551616 := rfl
  have h0 := Int.emod_nonneg n (b := 18446744073709551616) (by omega)
  rw [hu, numByte, UInt8.toNat_ofNat']
  obtain ⟨m, hm⟩ := Int.eq_ofNat_of_zero_le h0
  rw [hm]
  simp only [Int.toNat_natCast]
  norm_cast

set_option maxHeartbeats 1000000 in
theorem c399 {x : Value} {l : List UInt8} {n : Int} [hr : RdV byteE As x l] (H : Sat w0 w As) (hl : l.length ≤ 4294967000) (k : ∀ v' w', Sat w0 w' (ownL byteE 5 v' (l ++ numB n) :: As) → R (.returned v') w') :
    Calls Tryz.prog 155 #[x, .int .i64 n] w R := by
  go_enter Tryz.func155, Tryz.ntmps155
  go_wp2_with (first
      | ((with_reducible refine is_len ?_); apply wl_len byteE H; rfl; rfl; (conv => lhs; whnf); infer_instance; infer_instance; skip)
      | ((with_reducible refine is_makeSlice ?_); apply wl_make byteE H; rfl; rfl; rfl; rfl; infer_instance; infer_instance; (first | omega | (simp only [List.length_take, List.length_drop, List.length_append, List.length_cons, List.length_nil, List.length_replicate, List.length_set, Int.toNat_natCast]; omega)); (first | omega | (simp only [List.length_take, List.length_drop, List.length_append, List.length_cons, List.length_nil, List.length_replicate, List.length_set, Int.toNat_natCast]; omega)); (first | omega | (simp only [List.length_take, List.length_drop, List.length_append, List.length_cons, List.length_nil, List.length_replicate, List.length_set, Int.toNat_natCast]; omega)); (clear H; intro v w H; have hone := One1.mk (ownL_one H)))
      | ((with_reducible refine is_copy ?_); apply wl_copy byteE H; rfl; rfl; (conv => lhs; whnf); (conv => lhs; whnf); infer_instance; infer_instance; rfl; infer_instance; infer_instance; (first | omega | (simp only [List.length_take, List.length_drop, List.length_append, List.length_cons, List.length_nil, List.length_replicate, List.length_set, Int.toNat_natCast]; omega)); (clear H; intro w H))
      | ((with_reducible refine is_buildSlice ?_); apply wl_build1 byteE H; rfl; rfl; (conv => lhs; whnf); infer_instance; infer_instance; (conv => lhs; whnf); infer_instance; (clear H; intro v w H; have hone := One1.mk (ownL_one H)))
      | ((with_reducible refine is_append ?_); apply wl_append_str H; rfl; rfl; (conv => lhs; whnf); rfl; infer_instance; infer_instance; infer_instance; infer_instance; (first | omega | (simp only [List.length_append, List.length_cons, List.length_nil, List.length_take, List.length_drop, List.length_replicate, Int.toNat_natCast]; omega) | (simp; omega)); (clear H; intro v w H; have hone := One1.mk (ownL_one H)))
      | ((with_reducible refine is_append ?_); apply wl_append byteE H; rfl; rfl; (conv => lhs; whnf); (conv => lhs; whnf); infer_instance; infer_instance; infer_instance; infer_instance; (first | omega | (simp only [List.length_append, List.length_cons, List.length_nil, List.length_take, List.length_drop, List.length_replicate, Int.toNat_natCast]; omega) | (simp; omega)); (clear H; intro v w H; have hone := One1.mk (ownL_one H)))
      | ((with_reducible refine is_load ?_); apply wl_elem_agg byteE H; rfl; rfl; rfl; infer_instance; infer_instance; (first | assumption | (simp only [Int.toNat_natCast]; assumption)); rfl; (conv => lhs; whnf); skip)
      | ((with_reducible refine is_load ?_); apply wl_elem byteE H; rfl; rfl; rfl; infer_instance; infer_instance; (first | assumption | (simp only [Int.toNat_natCast]; assumption)); (conv => lhs; whnf); skip))
  have e1 : l ++ List.drop l.length (List.replicate (l.length : Int).toNat 0) = l := by simp
  rw [e1] at H
  go_loopw [5, 16] (fun v i w => ∃ j : Nat, j ≤ 8 ∧ i = .int .i64 j ∧ Sat w0 w (ownL byteE 5 v (l ++ (numB n).take j) :: As)) (fun _ i _ => 8 - (intOf i).toNat)
  case atStart => exact ⟨0, by omega, rfl, by simpa using H⟩
  case round =>
    obtain ⟨j, hj, rfl, H⟩ := hrel
    by_cases hlt : j < 8
    · have hone := One1.mk (ownL_one H)
      have hjl : ((numB n).take j).length ≤ 8 := by simp [numB]; omega
      have hdec : Dec byteE [.int .u8 (IntKind.u64.wrap n / 2 ^ (8 * (7 - j)) % 256)] (numByte n j) := ⟨by rw [← numByte_val]⟩
      go_wp2_with (first
          | ((with_reducible refine is_len ?_); apply wl_len byteE H; rfl; rfl; (conv => lhs; whnf); infer_instance; infer_instance; skip)
          | ((with_reducible refine is_makeSlice ?_); apply wl_make byteE H; rfl; rfl; rfl; rfl; infer_instance; infer_instance; (first | omega | (simp only [List.length_take, List.length_drop, List.length_append, List.length_cons, List.length_nil, List.length_replicate, List.length_set, Int.toNat_natCast]; omega)); (first | omega | (simp only [List.length_take, List.length_drop, List.length_append, List.length_cons, List.length_nil, List.length_replicate, List.length_set, Int.toNat_natCast]; omega)); (first | omega | (simp only [List.length_take, List.length_drop, List.length_append, List.length_cons, List.length_nil, List.length_replicate, List.length_set, Int.toNat_natCast]; omega)); (clear H; intro v w H; have hone := One1.mk (ownL_one H)))
          | ((with_reducible refine is_copy ?_); apply wl_copy byteE H; rfl; rfl; (conv => lhs; whnf); (conv => lhs; whnf); infer_instance; infer_instance; rfl; infer_instance; infer_instance; (first | omega | (simp only [List.length_take, List.length_drop, List.length_append, List.length_cons, List.length_nil, List.length_replicate, List.length_set, Int.toNat_natCast]; omega)); (clear H; intro w H))
          | ((with_reducible refine is_buildSlice ?_); apply wl_build1 byteE H; rfl; rfl; (conv => lhs; whnf); infer_instance; infer_instance; (conv => lhs; whnf); infer_instance; (clear H; intro v w H; have hone := One1.mk (ownL_one H)))
          | ((with_reducible refine is_append ?_); apply wl_append_str H; rfl; rfl; (conv => lhs; whnf); rfl; infer_instance; infer_instance; infer_instance; infer_instance; (first | omega | (simp only [List.length_append, List.length_cons, List.length_nil, List.length_take, List.length_drop, List.length_replicate, Int.toNat_natCast]; omega) | (simp; omega)); (clear H; intro v w H; have hone := One1.mk (ownL_one H)))
          | ((with_reducible refine is_append ?_); apply wl_append byteE H; rfl; rfl; (conv => lhs; whnf); (conv => lhs; whnf); infer_instance; infer_instance; infer_instance; infer_instance; (first | omega | (simp only [List.length_append, List.length_cons, List.length_nil, List.length_take, List.length_drop, List.length_replicate, Int.toNat_natCast]; omega) | (simp; omega)); (clear H; intro v w H; have hone := One1.mk (ownL_one H)))
          | ((with_reducible refine is_load ?_); apply wl_elem_agg byteE H; rfl; rfl; rfl; infer_instance; infer_instance; (first | assumption | (simp only [Int.toNat_natCast]; assumption)); rfl; (conv => lhs; whnf); skip)
          | ((with_reducible refine is_load ?_); apply wl_elem byteE H; rfl; rfl; rfl; infer_instance; infer_instance; (first | assumption | (simp only [Int.toNat_natCast]; assumption)); (conv => lhs; whnf); skip))
      go_roundw
      case rel =>
        refine ⟨j + 1, by omega, by go_num, ?_⟩
        rw [numB_take n j hlt, ← List.append_assoc]
        exact H.ent
      case measure => simp [intOf]; omega
    · obtain rfl : j = 8 := by omega
      rw [show (numB n).take 8 = numB n from List.take_of_length_le (by simp [numB])] at H
      go_wp2_with (first
          | ((with_reducible refine is_len ?_); apply wl_len byteE H; rfl; rfl; (conv => lhs; whnf); infer_instance; infer_instance; skip)
          | ((with_reducible refine is_makeSlice ?_); apply wl_make byteE H; rfl; rfl; rfl; rfl; infer_instance; infer_instance; (first | omega | (simp only [List.length_take, List.length_drop, List.length_append, List.length_cons, List.length_nil, List.length_replicate, List.length_set, Int.toNat_natCast]; omega)); (first | omega | (simp only [List.length_take, List.length_drop, List.length_append, List.length_cons, List.length_nil, List.length_replicate, List.length_set, Int.toNat_natCast]; omega)); (first | omega | (simp only [List.length_take, List.length_drop, List.length_append, List.length_cons, List.length_nil, List.length_replicate, List.length_set, Int.toNat_natCast]; omega)); (clear H; intro v w H; have hone := One1.mk (ownL_one H)))
          | ((with_reducible refine is_copy ?_); apply wl_copy byteE H; rfl; rfl; (conv => lhs; whnf); (conv => lhs; whnf); infer_instance; infer_instance; rfl; infer_instance; infer_instance; (first | omega | (simp only [List.length_take, List.length_drop, List.length_append, List.length_cons, List.length_nil, List.length_replicate, List.length_set, Int.toNat_natCast]; omega)); (clear H; intro w H))
          | ((with_reducible refine is_buildSlice ?_); apply wl_build1 byteE H; rfl; rfl; (conv => lhs; whnf); infer_instance; infer_instance; (conv => lhs; whnf); infer_instance; (clear H; intro v w H; have hone := One1.mk (ownL_one H)))
          | ((with_reducible refine is_append ?_); apply wl_append_str H; rfl; rfl; (conv => lhs; whnf); rfl; infer_instance; infer_instance; infer_instance; infer_instance; (first | omega | (simp only [List.length_append, List.length_cons, List.length_nil, List.length_take, List.length_drop, List.length_replicate, Int.toNat_natCast]; omega) | (simp; omega)); (clear H; intro v w H; have hone := One1.mk (ownL_one H)))
          | ((with_reducible refine is_append ?_); apply wl_append byteE H; rfl; rfl; (conv => lhs; whnf); (conv => lhs; whnf); infer_instance; infer_instance; infer_instance; infer_instance; (first | omega | (simp only [List.length_append, List.length_cons, List.length_nil, List.length_take, List.length_drop, List.length_replicate, Int.toNat_natCast]; omega) | (simp; omega)); (clear H; intro v w H; have hone := One1.mk (ownL_one H)))
          | ((with_reducible refine is_load ?_); apply wl_elem_agg byteE H; rfl; rfl; rfl; infer_instance; infer_instance; (first | assumption | (simp only [Int.toNat_natCast]; assumption)); rfl; (conv => lhs; whnf); skip)
          | ((with_reducible refine is_load ?_); apply wl_elem byteE H; rfl; rfl; rfl; infer_instance; infer_instance; (first | assumption | (simp only [Int.toNat_natCast]; assumption)); (conv => lhs; whnf); skip))
      exact H

set_option maxHeartbeats 1000000 in
theorem c344 {x : Value} {l : List UInt8} {s : ByteArray} [hr : RdV byteE As x l] (H : Sat w0 w As) (hl : l.length ≤ 4294960000) (hs : s.size ≤ 7000) (k : ∀ v' w', Sat w0 w' (ownL byteE 5 v' (l ++ textB s) :: As) → R (.returned v') w') :
    Calls Tryz.prog 125 #[x, .string s] w R := by
  have hn : (numB s.size).length = 8 := by simp [numB]
  go_enter Tryz.func125, Tryz.ntmps125
  go_wp2_with (first
      | (go_at_call 155; refine c399 H (by omega) ?_; clear H; intro v w H; have hone := One1.mk (ownL_one H))
      | ((with_reducible refine is_append ?_); apply wl_append_str H; rfl; rfl; (conv => lhs; whnf); rfl; infer_instance; infer_instance; infer_instance; infer_instance; (first | omega | (simp only [List.length_append, List.length_cons, List.length_nil, List.length_take, List.length_drop, List.length_replicate, Int.toNat_natCast]; omega) | (simp; omega)); (clear H; intro v w H; have hone := One1.mk (ownL_one H)))
      | ((with_reducible refine is_append ?_); apply wl_append byteE H; rfl; rfl; (conv => lhs; whnf); (conv => lhs; whnf); infer_instance; infer_instance; infer_instance; infer_instance; (first | omega | (simp only [List.length_append, List.length_cons, List.length_nil, List.length_take, List.length_drop, List.length_replicate, Int.toNat_natCast]; omega) | (simp; omega)); (clear H; intro v w H; have hone := One1.mk (ownL_one H)))
      | ((with_reducible refine is_load ?_); apply wl_elem_agg byteE H; rfl; rfl; rfl; infer_instance; infer_instance; (first | assumption | (simp only [Int.toNat_natCast]; assumption)); rfl; (conv => lhs; whnf); skip)
      | ((with_reducible refine is_load ?_); apply wl_elem byteE H; rfl; rfl; rfl; infer_instance; infer_instance; (first | assumption | (simp only [Int.toNat_natCast]; assumption)); (conv => lhs; whnf); skip))
  rw [List.append_assoc] at H
  exact H

theorem numOf_snoc (l : List UInt8) (x : UInt8) : numOf (l ++ [x]) = numOf l * 256 + x.toNat := by simp [numOf]
theorem numOf_lt' (l : List UInt8) : ∀ a, l.foldl (fun n x => n * 256 + x.toNat) a < (a + 1) * 256 ^ l.length := by
  induction l with
  | nil => intro a; simp
  | cons x l ih =>
    intro a
    have h1 := ih (a * 256 + x.toNat)
    have hx := x.toNat_lt
    rw [List.foldl_cons, List.length_cons, Nat.pow_succ, Nat.mul_comm (256 ^ l.length), ← Nat.mul_assoc]
    refine Nat.lt_of_lt_of_le h1 (Nat.mul_le_mul_right _ ?_)
    omega
theorem numOf_lt (l : List UInt8) : numOf l < 256 ^ l.length := by have := numOf_lt' l 0; simpa [numOf] using this

set_option maxHeartbeats 1000000 in
theorem c265 {x : Value} {l : List UInt8} {p : Int} [hr : RdV byteE As x l] (H : Sat w0 w As) (hl : l.length ≤ 4294967000) (h0 : -9223372036854775808 ≤ p) (h1 : p ≤ 9223372036854775807)
    (k : ∀ w', Sat w0 w' As → R (.returned (.tuple #[.int .i64 (readNum l p).1, .int .i64 (readNum l p).2.1, .bool (readNum l p).2.2])) w') :
    Calls Tryz.prog 102 #[x, .int .i64 p] w R := by
  by_cases hbad : p < 0 ∨ (l.length : Int) < p ∨ (l.length : Int) - p < 8
  · have hn : readNum l p = (0, 0, false) := by unfold readNum; rw [if_pos hbad]
    rw [hn] at k
    go_enter Tryz.func102, Tryz.ntmps102
    go_wp2_with (first
        | ((with_reducible refine is_ret ?_); refine bodyPost_ret (results_tmp3 rfl _ _ _) rfl ?_)
        | ((with_reducible refine is_load ?_); apply wl_load H; rfl; rfl; rfl; infer_instance; infer_instance; rfl; skip)
        | ((with_reducible refine is_load ?_); apply wl_load_agg H; rfl; rfl; rfl; infer_instance; infer_instance; (focus (simp; done)); (try simp only [cut, List.drop_zero, List.drop_succ_cons, List.take_succ_cons, List.take_zero]))
        | ((with_reducible refine is_len ?_); apply wl_len byteE H; rfl; rfl; (conv => lhs; whnf); infer_instance; infer_instance; skip)
        | ((with_reducible refine is_slice ?_); apply wl_slice byteE H; rfl; rfl; (conv => lhs; whnf); infer_instance; infer_instance; infer_instance; (first | exact .inl ⟨rfl, rfl⟩ | exact .inr ⟨_, _, _, rfl, rfl, by omega, rfl⟩); (first | exact .inl ⟨rfl, rfl⟩ | exact .inr ⟨_, _, _, rfl, rfl, by omega, rfl⟩); (first | omega | (simp only [List.length_take, List.length_drop, List.length_append, List.length_cons, List.length_nil, List.length_replicate, List.length_set, Int.toNat_natCast]; omega)); (first | omega | (simp only [List.length_take, List.length_drop, List.length_append, List.length_cons, List.length_nil, List.length_replicate, List.length_set, Int.toNat_natCast]; omega)); intro _)
        | ((with_reducible refine is_indexAddr ?_); apply wl_index byteE H; rfl; rfl; (conv => lhs; whnf); rfl; infer_instance; infer_instance; infer_instance; (first | omega | (simp only [List.length_take, List.length_drop, List.length_append, List.length_cons, List.length_nil, List.length_replicate, List.length_set, Int.toNat_natCast]; omega)); (first | omega | (simp only [List.length_take, List.length_drop, List.length_append, List.length_cons, List.length_nil, List.length_replicate, List.length_set, Int.toNat_natCast]; omega)); skip)
        | ((with_reducible refine is_load ?_); apply wl_elem_agg byteE H; rfl; rfl; rfl; infer_instance; infer_instance; (first | assumption | (simp only [Int.toNat_natCast]; assumption)); rfl; (conv => lhs; whnf); skip)
        | ((with_reducible refine is_load ?_); apply wl_elem byteE H; rfl; rfl; rfl; infer_instance; infer_instance; (first | assumption | (simp only [Int.toNat_natCast]; assumption)); (conv => lhs; whnf); skip))
    all_goals first | exact H | (exact k _ H) | (exfalso; omega)
  · have hn : readNum l p = (toI64 (numOf ((l.drop p.toNat).take 8)), p + 8, true) := by unfold readNum; rw [if_neg hbad]
    have h2 : 0 ≤ p := by omega
    have h3 : p + 8 ≤ l.length := by omega
    go_enter Tryz.func102, Tryz.ntmps102
    go_wp2_with (first
        | ((with_reducible refine is_ret ?_); refine bodyPost_ret (results_tmp3 rfl _ _ _) rfl ?_)
        | ((with_reducible refine is_load ?_); apply wl_load H; rfl; rfl; rfl; infer_instance; infer_instance; rfl; skip)
        | ((with_reducible refine is_load ?_); apply wl_load_agg H; rfl; rfl; rfl; infer_instance; infer_instance; (focus (simp; done)); (try simp only [cut, List.drop_zero, List.drop_succ_cons, List.take_succ_cons, List.take_zero]))
        | ((with_reducible refine is_len ?_); apply wl_len byteE H; rfl; rfl; (conv => lhs; whnf); infer_instance; infer_instance; skip)
        | ((with_reducible refine is_slice ?_); apply wl_slice byteE H; rfl; rfl; (conv => lhs; whnf); infer_instance; infer_instance; infer_instance; (first | exact .inl ⟨rfl, rfl⟩ | exact .inr ⟨_, _, _, rfl, rfl, by omega, rfl⟩); (first | exact .inl ⟨rfl, rfl⟩ | exact .inr ⟨_, _, _, rfl, rfl, by omega, rfl⟩); (first | omega | (simp only [List.length_take, List.length_drop, List.length_append, List.length_cons, List.length_nil, List.length_replicate, List.length_set, Int.toNat_natCast]; omega)); (first | omega | (simp only [List.length_take, List.length_drop, List.length_append, List.length_cons, List.length_nil, List.length_replicate, List.length_set, Int.toNat_natCast]; omega)); intro _)
        | ((with_reducible refine is_indexAddr ?_); apply wl_index byteE H; rfl; rfl; (conv => lhs; whnf); rfl; infer_instance; infer_instance; infer_instance; (first | omega | (simp only [List.length_take, List.length_drop, List.length_append, List.length_cons, List.length_nil, List.length_replicate, List.length_set, Int.toNat_natCast]; omega)); (first | omega | (simp only [List.length_take, List.length_drop, List.length_append, List.length_cons, List.length_nil, List.length_replicate, List.length_set, Int.toNat_natCast]; omega)); skip)
        | ((with_reducible refine is_load ?_); apply wl_elem_agg byteE H; rfl; rfl; rfl; infer_instance; infer_instance; (first | assumption | (simp only [Int.toNat_natCast]; assumption)); rfl; (conv => lhs; whnf); skip)
        | ((with_reducible refine is_load ?_); apply wl_elem byteE H; rfl; rfl; rfl; infer_instance; infer_instance; (first | assumption | (simp only [Int.toNat_natCast]; assumption)); (conv => lhs; whnf); skip))
    all_goals try (exfalso; omega)
    have hv : RdV byteE As (sub 1 x p.toNat (p + 8).toNat) (List.take ((p + 8).toNat - p.toNat) (List.drop p.toNat l)) := by assumption
    have e1 : List.take ((p + 8).toNat - p.toNat) (List.drop p.toNat l) = (l.drop p.toNat).take 8 := by congr 1; omega
    rw [e1] at hv
    generalize hq : (l.drop p.toNat).take 8 = q at hv hn
    have hlq : q.length = 8 := by rw [← hq]; simp; omega
    go_loopw [7, 31] (fun u i w => ∃ j : Nat, j ≤ 8 ∧ i = .int .i64 j ∧ u = .int .u64 (numOf (q.take j)) ∧ Sat w0 w As) (fun _ i _ => 8 - (intOf i).toNat)
    case atStart => exact ⟨0, by omega, rfl, by simp [numOf], H⟩
    case round =>
      obtain ⟨j, hj, rfl, rfl, H⟩ := hrel
      by_cases hlt : j < 8
      · obtain ⟨y, hy⟩ : ∃ y, q[j]? = some y := ⟨q[j]'(by omega), by simp⟩
        have hyl := y.toNat_lt
        have hs : q.take (j + 1) = q.take j ++ [y] := by rw [List.take_add_one, hy]; rfl
        have hnl := numOf_lt (q.take j)
        have hnl2 : numOf (q.take j) < 256 ^ 7 := Nat.lt_of_lt_of_le hnl (Nat.pow_le_pow_right (by omega) (by simp; omega))
        have hor : bits BinOp.or IntKind.u64 ((numOf (q.take j) : Int) * 256) (y.toNat : Int) = (numOf (q.take (j + 1)) : Int) := by
          have h := bits_or_u64_nat (numOf (q.take j) * 256) y.toNat (by omega) (by omega)
          rw [show ((numOf (q.take j) : Int) * 256) = ((numOf (q.take j) * 256 : Nat) : Int) by push_cast; rfl, h, hs, numOf_snoc]
          have := Nat.two_pow_add_eq_or_of_lt (i := 8) (b := y.toNat) (by omega) (numOf (q.take j))
          rw [Nat.mul_comm, ← this]
        go_wp2_with (first
            | ((with_reducible refine is_ret ?_); refine bodyPost_ret (results_tmp3 rfl _ _ _) rfl ?_)
            | ((with_reducible refine is_load ?_); apply wl_load H; rfl; rfl; rfl; infer_instance; infer_instance; rfl; skip)
            | ((with_reducible refine is_load ?_); apply wl_load_agg H; rfl; rfl; rfl; infer_instance; infer_instance; (focus (simp; done)); (try simp only [cut, List.drop_zero, List.drop_succ_cons, List.take_succ_cons, List.take_zero]))
            | ((with_reducible refine is_len ?_); apply wl_len byteE H; rfl; rfl; (conv => lhs; whnf); infer_instance; infer_instance; skip)
            | ((with_reducible refine is_slice ?_); apply wl_slice byteE H; rfl; rfl; (conv => lhs; whnf); infer_instance; infer_instance; infer_instance; (first | exact .inl ⟨rfl, rfl⟩ | exact .inr ⟨_, _, _, rfl, rfl, by omega, rfl⟩); (first | exact .inl ⟨rfl, rfl⟩ | exact .inr ⟨_, _, _, rfl, rfl, by omega, rfl⟩); (first | omega | (simp only [List.length_take, List.length_drop, List.length_append, List.length_cons, List.length_nil, List.length_replicate, List.length_set, Int.toNat_natCast]; omega)); (first | omega | (simp only [List.length_take, List.length_drop, List.length_append, List.length_cons, List.length_nil, List.length_replicate, List.length_set, Int.toNat_natCast]; omega)); intro _)
            | ((with_reducible refine is_indexAddr ?_); apply wl_index byteE H; rfl; rfl; (conv => lhs; whnf); rfl; infer_instance; infer_instance; infer_instance; (first | omega | (simp only [List.length_take, List.length_drop, List.length_append, List.length_cons, List.length_nil, List.length_replicate, List.length_set, Int.toNat_natCast]; omega)); (first | omega | (simp only [List.length_take, List.length_drop, List.length_append, List.length_cons, List.length_nil, List.length_replicate, List.length_set, Int.toNat_natCast]; omega)); skip)
            | ((with_reducible refine is_load ?_); apply wl_elem_agg byteE H; rfl; rfl; rfl; infer_instance; infer_instance; (first | assumption | (simp only [Int.toNat_natCast]; assumption)); rfl; (conv => lhs; whnf); skip)
            | ((with_reducible refine is_load ?_); apply wl_elem byteE H; rfl; rfl; rfl; infer_instance; infer_instance; (first | assumption | (simp only [Int.toNat_natCast]; assumption)); (conv => lhs; whnf); skip))
        go_roundw
        case rel => exact ⟨j + 1, by omega, by go_num, by rw [hs], H⟩
        case measure => simp [intOf]; omega
      · obtain rfl : j = 8 := by omega
        have hnl := numOf_lt q
        have e8 : q.take 8 = q := List.take_of_length_le (by omega)
        rw [hlq] at hnl
        rw [e8]
        rw [hn] at k
        have hw : wrap64 (numOf q : Int) = toI64 (numOf q) := by
          unfold wrap64 toI64; split <;> omega
        go_wp2_with (first
            | ((with_reducible refine is_ret ?_); refine bodyPost_ret (results_tmp3 rfl _ _ _) rfl ?_)
            | ((with_reducible refine is_load ?_); apply wl_load H; rfl; rfl; rfl; infer_instance; infer_instance; rfl; skip)
            | ((with_reducible refine is_load ?_); apply wl_load_agg H; rfl; rfl; rfl; infer_instance; infer_instance; (focus (simp; done)); (try simp only [cut, List.drop_zero, List.drop_succ_cons, List.take_succ_cons, List.take_zero]))
            | ((with_reducible refine is_len ?_); apply wl_len byteE H; rfl; rfl; (conv => lhs; whnf); infer_instance; infer_instance; skip)
            | ((with_reducible refine is_slice ?_); apply wl_slice byteE H; rfl; rfl; (conv => lhs; whnf); infer_instance; infer_instance; infer_instance; (first | exact .inl ⟨rfl, rfl⟩ | exact .inr ⟨_, _, _, rfl, rfl, by omega, rfl⟩); (first | exact .inl ⟨rfl, rfl⟩ | exact .inr ⟨_, _, _, rfl, rfl, by omega, rfl⟩); (first | omega | (simp only [List.length_take, List.length_drop, List.length_append, List.length_cons, List.length_nil, List.length_replicate, List.length_set, Int.toNat_natCast]; omega)); (first | omega | (simp only [List.length_take, List.length_drop, List.length_append, List.length_cons, List.length_nil, List.length_replicate, List.length_set, Int.toNat_natCast]; omega)); intro _)
            | ((with_reducible refine is_indexAddr ?_); apply wl_index byteE H; rfl; rfl; (conv => lhs; whnf); rfl; infer_instance; infer_instance; infer_instance; (first | omega | (simp only [List.length_take, List.length_drop, List.length_append, List.length_cons, List.length_nil, List.length_replicate, List.length_set, Int.toNat_natCast]; omega)); (first | omega | (simp only [List.length_take, List.length_drop, List.length_append, List.length_cons, List.length_nil, List.length_replicate, List.length_set, Int.toNat_natCast]; omega)); skip)
            | ((with_reducible refine is_load ?_); apply wl_elem_agg byteE H; rfl; rfl; rfl; infer_instance; infer_instance; (first | assumption | (simp only [Int.toNat_natCast]; assumption)); rfl; (conv => lhs; whnf); skip)
            | ((with_reducible refine is_load ?_); apply wl_elem byteE H; rfl; rfl; rfl; infer_instance; infer_instance; (first | assumption | (simp only [Int.toNat_natCast]; assumption)); (conv => lhs; whnf); skip))
        first | exact H | (refine fin (k _ H) ?_; rfl)

theorem readNum_ok {l : List UInt8} {p : Int} (h : (readNum l p).2.2 = true) : 0 ≤ p ∧ p + 8 ≤ l.length ∧ (readNum l p).2.1 = p + 8 ∧ -9223372036854775808 ≤ (readNum l p).1 ∧ (readNum l p).1 ≤ 9223372036854775807 := by
  unfold readNum at *
  split at h
  · cases h
  · rename_i hb
    rw [if_neg hb]
    refine ⟨by omega, by omega, rfl, ?_, ?_⟩
    all_goals
      have hn := numOf_lt ((l.drop p.toNat).take 8)
      have hp := Nat.pow_le_pow_right (show 0 < 256 by omega) (show ((l.drop p.toNat).take 8).length ≤ 8 by simp; omega)
      show _ ≤ _
      unfold toI64
      split <;> omega

set_option maxHeartbeats 1000000 in
theorem c168 {x : Value} {l : List UInt8} {p : Int} [hr : RdV byteE As x l] (H : Sat w0 w As) (hl : l.length ≤ 4294967000) (h0 : -9223372036854775808 ≤ p) (h1 : p ≤ 9223372036854775807)
    (k : ∀ w', Sat w0 w' As → R (.returned (.tuple #[.string (readText l p).1, .int .i64 (readText l p).2.1, .bool (readText l p).2.2])) w') :
    Calls Tryz.prog 59 #[x, .int .i64 p] w R := by
  have hok := @readNum_ok l p
  rcases hn : readNum l p with ⟨n, nx, ok⟩
  rw [hn] at hok
  simp only at hok
  unfold readText at k
  rw [hn] at k
  dsimp only at k
  cases ok
  · go_enter Tryz.func59, Tryz.ntmps59
    go_wp2_with (first
        | (go_at_call 102; refine c265 H hl h0 h1 ?_; clear H; intro w H; rw [hn])
        | ((with_reducible refine is_ret ?_); refine bodyPost_ret (results_tmp3 rfl _ _ _) rfl ?_)
        | ((with_reducible refine is_convert ?_); apply wl_bytes_str H; rfl; rfl; (conv => lhs; whnf); infer_instance; infer_instance; infer_instance; infer_instance; skip)
        | ((with_reducible refine is_convert ?_); apply wl_str_bytes H; rfl; rfl; rfl; infer_instance; infer_instance; infer_instance; (first | assumption | omega); (clear H; intro v w H; have hone := One1.mk (rdB_one H)))
        | ((with_reducible refine is_len ?_); apply wl_len byteE H; rfl; rfl; (conv => lhs; whnf); infer_instance; infer_instance; skip)
        | ((with_reducible refine is_slice ?_); apply wl_slice byteE H; rfl; rfl; (conv => lhs; whnf); infer_instance; infer_instance; infer_instance; (first | exact .inl ⟨rfl, rfl⟩ | exact .inr ⟨_, _, _, rfl, rfl, by omega, rfl⟩); (first | exact .inl ⟨rfl, rfl⟩ | exact .inr ⟨_, _, _, rfl, rfl, by omega, rfl⟩); (first | omega | (simp only [List.length_take, List.length_drop, List.length_append, List.length_cons, List.length_nil, List.length_replicate, List.length_set, Int.toNat_natCast]; omega)); (first | omega | (simp only [List.length_take, List.length_drop, List.length_append, List.length_cons, List.length_nil, List.length_replicate, List.length_set, Int.toNat_natCast]; omega)); intro _)
        | ((with_reducible refine is_load ?_); apply wl_elem_agg byteE H; rfl; rfl; rfl; infer_instance; infer_instance; (first | assumption | (simp only [Int.toNat_natCast]; assumption)); rfl; (conv => lhs; whnf); skip)
        | ((with_reducible refine is_load ?_); apply wl_elem byteE H; rfl; rfl; rfl; infer_instance; infer_instance; (first | assumption | (simp only [Int.toNat_natCast]; assumption)); (conv => lhs; whnf); skip))
    all_goals first | exact H | exact k _ H | (exfalso; omega)
  · obtain ⟨h2, h3, h4, h5, h6⟩ := hok rfl
    subst h4
    by_cases hb : n < 0 ∨ (l.length : Int) - (p + 8) < n
    · rw [if_pos (.inr hb)] at k
      go_enter Tryz.func59, Tryz.ntmps59
      go_wp2_with (first
          | (go_at_call 102; refine c265 H hl h0 h1 ?_; clear H; intro w H; rw [hn])
          | ((with_reducible refine is_ret ?_); refine bodyPost_ret (results_tmp3 rfl _ _ _) rfl ?_)
          | ((with_reducible refine is_convert ?_); apply wl_bytes_str H; rfl; rfl; (conv => lhs; whnf); infer_instance; infer_instance; infer_instance; infer_instance; skip)
          | ((with_reducible refine is_convert ?_); apply wl_str_bytes H; rfl; rfl; rfl; infer_instance; infer_instance; infer_instance; (first | assumption | omega); (clear H; intro v w H; have hone := One1.mk (rdB_one H)))
          | ((with_reducible refine is_len ?_); apply wl_len byteE H; rfl; rfl; (conv => lhs; whnf); infer_instance; infer_instance; skip)
          | ((with_reducible refine is_slice ?_); apply wl_slice byteE H; rfl; rfl; (conv => lhs; whnf); infer_instance; infer_instance; infer_instance; (first | exact .inl ⟨rfl, rfl⟩ | exact .inr ⟨_, _, _, rfl, rfl, by omega, rfl⟩); (first | exact .inl ⟨rfl, rfl⟩ | exact .inr ⟨_, _, _, rfl, rfl, by omega, rfl⟩); (first | omega | (simp only [List.length_take, List.length_drop, List.length_append, List.length_cons, List.length_nil, List.length_replicate, List.length_set, Int.toNat_natCast]; omega)); (first | omega | (simp only [List.length_take, List.length_drop, List.length_append, List.length_cons, List.length_nil, List.length_replicate, List.length_set, Int.toNat_natCast]; omega)); intro _)
          | ((with_reducible refine is_load ?_); apply wl_elem_agg byteE H; rfl; rfl; rfl; infer_instance; infer_instance; (first | assumption | (simp only [Int.toNat_natCast]; assumption)); rfl; (conv => lhs; whnf); skip)
          | ((with_reducible refine is_load ?_); apply wl_elem byteE H; rfl; rfl; rfl; infer_instance; infer_instance; (first | assumption | (simp only [Int.toNat_natCast]; assumption)); (conv => lhs; whnf); skip))
      all_goals first | exact H | exact k _ H | (exfalso; omega)
    · rw [if_neg (by simp only [Bool.true_eq_false, false_or]; exact hb)] at k
      have h7 : (p + 8 + n).toNat - (p + 8).toNat = n.toNat := by omega
      go_enter Tryz.func59, Tryz.ntmps59
      go_wp2_with (first
          | (go_at_call 102; refine c265 H hl h0 h1 ?_; clear H; intro w H; rw [hn])
          | ((with_reducible refine is_ret ?_); refine bodyPost_ret (results_tmp3 rfl _ _ _) rfl ?_)
          | ((with_reducible refine is_convert ?_); apply wl_bytes_str H; rfl; rfl; (conv => lhs; whnf); infer_instance; infer_instance; infer_instance; infer_instance; skip)
          | ((with_reducible refine is_convert ?_); apply wl_str_bytes H; rfl; rfl; rfl; infer_instance; infer_instance; infer_instance; (first | assumption | omega); (clear H; intro v w H; have hone := One1.mk (rdB_one H)))
          | ((with_reducible refine is_len ?_); apply wl_len byteE H; rfl; rfl; (conv => lhs; whnf); infer_instance; infer_instance; skip)
          | ((with_reducible refine is_slice ?_); apply wl_slice byteE H; rfl; rfl; (conv => lhs; whnf); infer_instance; infer_instance; infer_instance; (first | exact .inl ⟨rfl, rfl⟩ | exact .inr ⟨_, _, _, rfl, rfl, by omega, rfl⟩); (first | exact .inl ⟨rfl, rfl⟩ | exact .inr ⟨_, _, _, rfl, rfl, by omega, rfl⟩); (first | omega | (simp only [List.length_take, List.length_drop, List.length_append, List.length_cons, List.length_nil, List.length_replicate, List.length_set, Int.toNat_natCast]; omega)); (first | omega | (simp only [List.length_take, List.length_drop, List.length_append, List.length_cons, List.length_nil, List.length_replicate, List.length_set, Int.toNat_natCast]; omega)); intro _)
          | ((with_reducible refine is_load ?_); apply wl_elem_agg byteE H; rfl; rfl; rfl; infer_instance; infer_instance; (first | assumption | (simp only [Int.toNat_natCast]; assumption)); rfl; (conv => lhs; whnf); skip)
          | ((with_reducible refine is_load ?_); apply wl_elem byteE H; rfl; rfl; rfl; infer_instance; infer_instance; (first | assumption | (simp only [Int.toNat_natCast]; assumption)); (conv => lhs; whnf); skip))
      all_goals first | exact H | (exfalso; omega) | (rw [h7]; exact k _ H)
end Go.Proofs.YtcdkaggdidfenaaGreatDoor
