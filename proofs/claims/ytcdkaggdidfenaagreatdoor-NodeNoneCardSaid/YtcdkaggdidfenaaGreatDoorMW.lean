/- A part of the proof: contracts of functions of the given program, and the laws on memory that they lean on. -/
import Derived.Test.YtcdkaggdidfenaaGreatDoorMV
set_option linter.all false

namespace Go.Proofs.YtcdkaggdidfenaaGreatDoor
open Go.RowKit Go.Proofs Go.SL St
set_option maxRecDepth 100000
variable {w w0 : World} {As r : List HP} {R : Ending → World → Prop}

@[reducible] def haltI : In := ⟨0, 0, ⟨#[]⟩⟩
def smallC : Cfg := ⟨⟨[[]], 1, [haltI], [], [haltI], 1, 1, 1, []⟩, 1, 2, 3⟩
@[reducible] def nilV : V1 := ⟨.slice none 0 0, rfl⟩
@[reducible] def smallV (sv pv : Value) : CfgV := ⟨sv, [nilV], pv, .slice none 0 0, pv, .slice none 0 0⟩
def smallHP (sv pv : Value) : HP := .sep (ownL v1E 47 sv [nilV]) (ownL insE 135 pv [haltI])
instance (priority := 1600) RdJob.small {sv pv : Value} : RdJob (smallHP sv pv :: As) (smallV sv pv) smallC.job := ⟨fun H => by
  have H := Sat.sep_iff.1 H
  refine ⟨ownL_read H, ⟨rfl, fun i x y hx hy => ?_⟩, ownL_read H.drop, .inl ⟨rfl, rfl⟩, ownL_read H.drop, .inl ⟨rfl, rfl⟩⟩
  cases i with
  | zero => simp [smallC] at hx hy; subst hx hy; exact .inl ⟨rfl, rfl⟩
  | succ i => simp at hx⟩

set_option maxHeartbeats 1000000 in
theorem c158 (H : Sat w0 w As) (k : ∀ sv pv w', Sat w0 w' (smallHP sv pv :: As) → R (.returned (.agg #[sv, .int .i64 1, pv, .slice none 0 0, pv, .int .i64 1, .int .i64 1, .int .i64 1, .slice none 0 0, .int .i64 1, .int .i64 2, .int .i64 3])) w') :
    Calls Tryz.prog 44 #[] w R := by
  have K := Lib.hid k
  clear k
  go_enter Tryz.func44, Tryz.ntmps44
  go_wp2_with (first
      | ((with_reducible refine is_buildSlice ?_); apply wl_build1 insE H; rfl; rfl; (conv => lhs; whnf); infer_instance; infer_instance; (conv => lhs; whnf); infer_instance; (clear H; intro v w H; obtain ⟨pa, pn, pc, rfl⟩ := ownL_slice H))
      | ((with_reducible refine is_buildSlice ?_); apply wl_build1 v1E H; rfl; rfl; (conv => lhs; whnf); infer_instance; infer_instance; (conv => lhs; whnf); infer_instance; (clear H; intro v w H; obtain ⟨sa, sn, sc, rfl⟩ := ownL_slice H))
      | ((with_reducible refine is_ret ?_); apply ret_cell H; rfl; rfl; (conv => lhs; whnf); infer_instance; infer_instance; rfl)
      | ((with_reducible refine is_alloc ?_); apply wl_alloc H; rfl; rfl; infer_instance; (conv => lhs; whnf); (clear H; intro b w H))
      | ((with_reducible refine is_store ?_); apply wl_store H; rfl; rfl; rfl; infer_instance; infer_instance; (focus (simp; done)); (conv => lhs; whnf); infer_instance; (clear H; intro w H; (try simp only [List.setIfInBounds_toArray, List.set_cons_zero, List.set_cons_succ] at H)))
      | ((with_reducible refine is_store ?_); apply wl_store_agg H; rfl; rfl; rfl; infer_instance; infer_instance; rfl; (conv => lhs; whnf); rfl; (first | (focus (simp; done)) | (simp; omega)); infer_instance; (clear H; intro w H; (try simp only [putAll, List.setIfInBounds_toArray, List.set_cons_zero, List.set_cons_succ] at H)))
      | ((with_reducible refine is_buildSlice ?_); apply wl_build1 insE H; rfl; rfl; (conv => lhs; whnf); infer_instance; infer_instance; (conv => lhs; whnf); infer_instance; (clear H; intro v w H; have hone := One1.mk (ownL_one H)))
      | ((with_reducible refine is_buildSlice ?_); apply wl_build1 v1E H; rfl; rfl; (conv => lhs; whnf); infer_instance; infer_instance; (conv => lhs; whnf); infer_instance; (clear H; intro v w H; have hone := One1.mk (ownL_one H)))
      | ((with_reducible refine is_load ?_); apply wl_elemFld_agg insE H; rfl; rfl; rfl; infer_instance; infer_instance; (first | assumption | (simp only [Int.toNat_natCast]; assumption)); (conv => lhs; simp only [insE, List.drop_succ_cons, List.drop_zero, List.take_succ_cons, List.take_zero]); rfl; skip)
      | ((with_reducible refine is_load ?_); apply wl_elemFld insE H; rfl; rfl; rfl; infer_instance; infer_instance; (first | assumption | (simp only [Int.toNat_natCast]; assumption)); rfl; skip)
      | ((with_reducible refine is_store ?_); apply wl_set insE H; rfl; rfl; rfl; infer_instance; infer_instance; (first | omega | (simp only [List.length_take, List.length_drop, List.length_append, List.length_cons, List.length_nil, List.length_replicate, List.length_set, Int.toNat_natCast]; omega)); (conv => lhs; whnf); infer_instance; (clear H; intro w H; (try simp only [Int.toNat_natCast] at H)))
      | ((with_reducible refine is_store ?_); apply wl_set_agg insE H; rfl; rfl; rfl; infer_instance; infer_instance; rfl; (first | omega | (simp only [List.length_take, List.length_drop, List.length_append, List.length_cons, List.length_nil, List.length_replicate, List.length_set, Int.toNat_natCast]; omega)); (conv => lhs; whnf); (conv => lhs; whnf); infer_instance; (clear H; intro w H; (try simp only [Int.toNat_natCast] at H)))
      | ((with_reducible refine is_load ?_); apply wl_elem_agg insE H; rfl; rfl; rfl; infer_instance; infer_instance; (first | assumption | (simp only [Int.toNat_natCast]; assumption)); rfl; (conv => lhs; whnf); skip)
      | ((with_reducible refine is_load ?_); apply wl_elem insE H; rfl; rfl; rfl; infer_instance; infer_instance; (first | assumption | (simp only [Int.toNat_natCast]; assumption)); (conv => lhs; whnf); skip)
      | ((with_reducible refine is_load ?_); apply wl_elemFld_agg v1E H; rfl; rfl; rfl; infer_instance; infer_instance; (first | assumption | (simp only [Int.toNat_natCast]; assumption)); (conv => lhs; simp only [v1E, List.drop_succ_cons, List.drop_zero, List.take_succ_cons, List.take_zero]); rfl; skip)
      | ((with_reducible refine is_load ?_); apply wl_elemFld v1E H; rfl; rfl; rfl; infer_instance; infer_instance; (first | assumption | (simp only [Int.toNat_natCast]; assumption)); rfl; skip)
      | ((with_reducible refine is_store ?_); apply wl_set v1E H; rfl; rfl; rfl; infer_instance; infer_instance; (first | omega | (simp only [List.length_take, List.length_drop, List.length_append, List.length_cons, List.length_nil, List.length_replicate, List.length_set, Int.toNat_natCast]; omega)); (conv => lhs; whnf); infer_instance; (clear H; intro w H; (try simp only [Int.toNat_natCast] at H)))
      | ((with_reducible refine is_store ?_); apply wl_set_agg v1E H; rfl; rfl; rfl; infer_instance; infer_instance; rfl; (first | omega | (simp only [List.length_take, List.length_drop, List.length_append, List.length_cons, List.length_nil, List.length_replicate, List.length_set, Int.toNat_natCast]; omega)); (conv => lhs; whnf); (conv => lhs; whnf); infer_instance; (clear H; intro w H; (try simp only [Int.toNat_natCast] at H)))
      | ((with_reducible refine is_load ?_); apply wl_elem_agg v1E H; rfl; rfl; rfl; infer_instance; infer_instance; (first | assumption | (simp only [Int.toNat_natCast]; assumption)); rfl; (conv => lhs; whnf); skip)
      | ((with_reducible refine is_load ?_); apply wl_elem v1E H; rfl; rfl; rfl; infer_instance; infer_instance; (first | assumption | (simp only [Int.toNat_natCast]; assumption)); (conv => lhs; whnf); skip))
  have H1 : Sat w0 w (smallHP (.slice sa sn sc) (.slice pa pn pc) :: As) := Sat.sep_iff.2 H.ent
  exact K.out _ _ _ H1

def helloLtr1 : Ltr := setSrc 1 (helloL (redOf smallC 0 1))
theorem hello1_eq : ((wkNew smallC 1 []).reds.map helloL).map (setSrc 1) = [helloLtr1] := by
  have h : (wkNew smallC 1 []).reds = [redOf smallC 0 1] := by
    have e : myParts smallC 1 = [0] := by decide +kernel
    unfold wkNew; rw [e]; rfl
  rw [h]; rfl

def nd1 : Nd := { ndBegun smallC 1 with held := [helloLtr1] }
def nd2 : Nd := { nd1 with disk := nd1.disk.sync, held := [] }
theorem nd1_eq : ({ ndBegun smallC 1 with held := (ndBegun smallC 1).held ++ ((wkNew smallC 1 []).reds.map helloL).map (setSrc (ndBegun smallC 1).id) } : Nd) = nd1 := by
  have h := hello1_eq
  unfold nd1
  rw [← h]
  rfl
theorem hello1_lit : helloLtr1 = (⟨1, 0, ⟨6, 0, 0, 0, 0, 0, 1, 0, [], []⟩⟩ : Ltr) := rfl
theorem open1 {v : Value} (H : Sat w0 w (ltrsHP v [helloLtr1] :: As)) : ∃ s p : V1, Sat w0 w (ownL ltrE 51 v [⟨1, 0, 6, 0, 0, 0, 0, 0, 1, 0, s, p⟩] :: ownL intE 3 s.v [] :: ownL pairE 133 p.v [] :: As) := by
  obtain ⟨xs, H⟩ := ltrsHP_iff.1 H
  have hl := ownZ_len H.drop
  match xs, hl with
  | [x], _ =>
    have H1 := ownZ_uncons (H.pull (ownZ ownLtr [x] [helloLtr1]))
    obtain ⟨h, H1⟩ := ownLtr_iff.1 H1
    obtain ⟨a, b, a1, a2, a3, a4, a5, a6, a7, a8, s, p⟩ := x
    rw [hello1_lit] at h H1
    simp only [LtrV.ltr, Ltr.mk.injEq, Msg.mk.injEq] at h
    obtain ⟨rfl, rfl, rfl, rfl, rfl, rfl, rfl, rfl, rfl, rfl, _⟩ := h
    exact ⟨s, p, H1.ent⟩

set_option maxHeartbeats 1000000 in
theorem c74o {b : Nat} {cv : CfgV} {c : Cfg} {id : Int} {up : Bool} {d h m x : Value} [hr : Rd b As (.cells (ndCells cv c id up d h m x) 92 (0, 0))] (H : Sat w0 w As) (k : ∀ w', Sat w0 w' As → R (.returned m) w') : Calls Tryz.prog 29 #[.pointer (some ⟨b, 0, none⟩)] w R := by
  go_enter Tryz.func29, Tryz.ntmps29
  go_wp2_with (first
      | ((with_reducible refine is_ret ?_); apply ret_tmp1; rfl; rfl; (conv => lhs; whnf); skip)
      | ((with_reducible refine is_load ?_); apply wl_load H; rfl; rfl; rfl; infer_instance; infer_instance; rfl; skip)
      | ((with_reducible refine is_load ?_); apply wl_load_agg H; rfl; rfl; rfl; infer_instance; infer_instance; (focus (simp; done)); (try simp only [cut, List.drop_zero, List.drop_succ_cons, List.take_succ_cons, List.take_zero])))
  first | exact H.ent | exact k _ H.ent

set_option maxHeartbeats 4000000 in
theorem c53 (H : Sat w0 w As) (k : ∀ w', Sat w0 w' As → R (.returned (.bool true)) w') : Calls Tryz.prog 10 #[] w R := by
  have hc : cfgMay smallC = true := by decide +kernel
  have hreds : (wkNew smallC 1 []).reds = [redOf smallC 0 1] := by
    have e : myParts smallC 1 = [0] := by decide +kernel
    unfold wkNew; rw [e]; rfl
  have K := Lib.hid k
  clear k
  have HC := Lib.hid hc
  have HR := Lib.hid hreds
  clear hc hreds
  go_enter Tryz.func10, Tryz.ntmps10
  go_wp2_with (first
      | (go_at_call 44; refine c158 H ?_; clear H; intro sv pv w H)
      | (go_at_call 11; refine c54q (cv := smallV sv pv) (c := smallC) (id := 1) H HC.out (by omega) (by decide) ?_; clear H; intro nb w H)
      | (go_at_call 20; refine c62q (b := nb) (n := ndBegun smallC 1) (x := wkNew smallC 1 []) H rfl rfl ⟨by decide, by show (0 : Int) ≤ (lifeB.length : Int); omega⟩ rfl rfl (by rw [HR.out]; simp) (by rw [HR.out]; simp) (by rw [HR.out]; intro rd hrd; simp at hrd; subst hrd; decide +kernel) (by decide) (by show (0 : Int) < (lifeB.length : Int) - 0; rw [lifeB_len]; decide) ?_; clear H; intro w H; rw [nd1_eq] at H)
      | (go_at_call 25; refine c67 (b := nb) (n := nd1) H ?_; clear H; intro w H; rw [show ((nd1.held.length : Nat) : Int) = 1 from rfl])
      | (go_at_call 15; refine c57 (b := nb) (n := nd1) H rfl (by decide) ?_; clear H; intro fv w H; obtain ⟨fs, fp, H⟩ := open1 H)
      | (go_at_call 45; refine c37e H ?_; clear H; intro w H)
      | (go_at_call 23; refine c65 (b := nb) (n := nd2) H ?_; clear H; intro q w H; rw [show Mach.mp q.mb nd2.mach = .pointer none from rfl] at H)
      | (go_at_call 46; refine c72 (d := nd2.disk) H ?_; clear H; intro w H; rw [show nd2.disk.n = 64 from by show ((lifeB.length : Nat) : Int) = 64; rw [lifeB_len]; rfl])
      | (go_at_call 29; refine c74o H ?_; clear H; intro w H)
      | ((with_reducible refine is_ret ?_); apply ret_tmp1; rfl; rfl; (conv => lhs; whnf); skip)
      | ((with_reducible refine is_len ?_); apply wl_len ltrE H; rfl; rfl; (conv => lhs; whnf); infer_instance; infer_instance; skip)
      | ((with_reducible refine is_buildSlice ?_); apply wl_build1 ltrE H; rfl; rfl; (conv => lhs; whnf); infer_instance; infer_instance; (conv => lhs; whnf); infer_instance; (clear H; intro v w H; have hone := One1.mk (ownL_one H)))
      | ((with_reducible refine is_load ?_); apply wl_elemFld_agg ltrE H; rfl; rfl; rfl; infer_instance; infer_instance; (first | assumption | (simp only [Int.toNat_natCast]; assumption)); (conv => lhs; simp only [ltrE, List.drop_succ_cons, List.drop_zero, List.take_succ_cons, List.take_zero]); rfl; skip)
      | ((with_reducible refine is_load ?_); apply wl_elemFld ltrE H; rfl; rfl; rfl; infer_instance; infer_instance; (first | assumption | (simp only [Int.toNat_natCast]; assumption)); rfl; skip)
      | ((with_reducible refine is_load ?_); apply wl_elem_agg ltrE H; rfl; rfl; rfl; infer_instance; infer_instance; (first | assumption | (simp only [Int.toNat_natCast]; assumption)); rfl; (conv => lhs; whnf); skip)
      | ((with_reducible refine is_load ?_); apply wl_elem ltrE H; rfl; rfl; rfl; infer_instance; infer_instance; (first | assumption | (simp only [Int.toNat_natCast]; assumption)); (conv => lhs; whnf); skip))
  exact K.out _ H.ent
end Go.Proofs.YtcdkaggdidfenaaGreatDoor
