/- A part of the proof: contracts of functions of the given program, and the laws on memory that they lean on. -/
import Derived.Test.YtcdkaggdidfenaaGreatDoorMT
set_option linter.all false

namespace Go.Proofs.YtcdkaggdidfenaaGreatDoor
open Go.RowKit Go.Proofs Go.SL St
set_option maxRecDepth 100000
variable {w w0 : World} {As r : List HP} {R : Ending → World → Prop} {b : Nat} {n : Nd}

set_option maxHeartbeats 1000000 in
theorem c64o {cv : CfgV} {c : Cfg} {id : Int} {up : Bool} {d h m x : Value} [hr : Rd b As (.cells (ndCells cv c id up d h m x) 92 (0, 0))] (H : Sat w0 w As) (k : ∀ w', Sat w0 w' As → R (.returned (.bool up)) w') : Calls Tryz.prog 22 #[.pointer (some ⟨b, 0, none⟩)] w R := by
  go_enter Tryz.func22, Tryz.ntmps22
  go_wp2_with (first
      | ((with_reducible refine is_ret ?_); apply ret_tmp1; rfl; rfl; (conv => lhs; whnf); skip)
      | ((with_reducible refine is_load ?_); apply wl_load H; rfl; rfl; rfl; infer_instance; infer_instance; rfl; skip)
      | ((with_reducible refine is_load ?_); apply wl_load_agg H; rfl; rfl; rfl; infer_instance; infer_instance; (focus (simp; done)); (try simp only [cut, List.drop_zero, List.drop_succ_cons, List.take_succ_cons, List.take_zero])))
  first | exact H.ent | exact k _ H.ent

set_option maxHeartbeats 4000000 in
/-- Wake of a worker without attempts, of whose parts none is whole, while its disk has bytes that are not synced. -/
theorem c62q {x : Wk} [hr : HasR (ndHP b) As n r] (H : Sat w0 w As) (hup : n.up = true) (hm : n.mach = .worker x) (hd : n.disk.ok) (hend : x.ended = false) (ht : x.tasks = []) (hnd : (x.reds.map (·.part)).Nodup) (hsmall : x.reds.length ≤ 4)
    (hin : ∀ rd ∈ x.reds, rd.c.job.splits.length ≤ 6 ∧ rd.merged.length < rd.c.job.splits.length) (hh : n.held.length ≤ 90000) (hu : 0 < n.disk.unsynced)
    (k : ∀ w', Sat w0 w' (ndHP b { n with held := n.held ++ (x.reds.map helloL).map (setSrc n.id) } :: r) → R (.returned (.slice none 0 0)) w') :
    Calls Tryz.prog 20 #[.pointer (some ⟨b, 0, none⟩)] w R := by
  obtain ⟨⟨cv, db, hv, mb⟩, H⟩ := ndHP_iff.1 (H.perm hr.perm)
  simp only at H
  rw [hm, hup] at H
  have e1 : Mach.mp mb (.worker x) = .pointer none := rfl
  have e2 : Mach.wp mb (.worker x) = .pointer (some ⟨mb, 0, none⟩) := rfl
  have e3 : machHP mb (.worker x) = wkHP mb x := rfl
  rw [e1, e2, e3] at H
  clear e1 e2 e3
  have K : ∀ hv' w', Sat w0 w' (.pt b (.cells (ndCells cv n.c n.id true (.pointer (some ⟨db, 0, none⟩)) hv' (.pointer none) (.pointer (some ⟨mb, 0, none⟩))) 92 (0, 0)) :: diskHP db n.disk :: ltrsHP hv' (n.held ++ (x.reds.map helloL).map (setSrc n.id)) :: jobHP cv n.c.job :: wkHP mb x :: r) → R (.returned (.slice none 0 0)) w' := by
    intro hv' w' H
    refine k _ (ndHP_iff.2 ⟨⟨cv, db, hv', mb⟩, ?_⟩)
    show Sat w0 w' (.pt b (.cells (ndCells cv n.c n.id n.up (.pointer (some ⟨db, 0, none⟩)) hv' (Mach.mp mb n.mach) (Mach.wp mb n.mach)) 92 (0, 0)) :: jobHP cv n.c.job :: diskHP db n.disk :: ltrsHP hv' (n.held ++ (x.reds.map helloL).map (setSrc n.id)) :: machHP mb n.mach :: r)
    rw [hm, hup]
    show Sat w0 w' (.pt b (.cells (ndCells cv n.c n.id true (.pointer (some ⟨db, 0, none⟩)) hv' (.pointer none) (.pointer (some ⟨mb, 0, none⟩))) 92 (0, 0)) :: jobHP cv n.c.job :: diskHP db n.disk :: ltrsHP hv' (n.held ++ (x.reds.map helloL).map (setSrc n.id)) :: wkHP mb x :: r)
    exact H.ent
  have HK := Lib.hid K
  have HM := Lib.hid hm
  clear K k hm
  go_enter Tryz.func20, Tryz.ntmps20
  go_wp2_with (first
      | (go_at_call 22; refine c64o H ?_; clear H; intro w H)
      | ((with_reducible refine is_ret ?_); apply ret_tmp1; rfl; rfl; (conv => lhs; whnf); skip)
      | ((with_reducible refine is_load ?_); apply wl_load H; rfl; rfl; rfl; infer_instance; infer_instance; rfl; skip)
      | ((with_reducible refine is_load ?_); apply wl_load_agg H; rfl; rfl; rfl; infer_instance; infer_instance; (focus (simp; done)); (try simp only [cut, List.drop_zero, List.drop_succ_cons, List.take_succ_cons, List.take_zero])))
  refine wp_draw [7, 8] (by kernel_rfl) ?_
  replace H := H.drew
  (refine G_pure (i := 0) (v := ?_) rfl (by kernel_rfl) rfl (fun w => ?_) ?_; rotate_left 1; (focus (go_simp; (try simp (disch := omega) only [IntWalk.i64_in]); (try with_reducible rfl))); (try simp only [Act.put, List.setIfInBounds_toArray, List.set_cons_zero, List.set_cons_succ, cut, List.drop_zero, List.drop_succ_cons, List.take_succ_cons, List.take_zero]))
  (refine G_pure (i := 1) (v := ?_) rfl (by kernel_rfl) rfl (fun w => ?_) ?_; rotate_left 1; (focus (go_simp; (try simp (disch := omega) only [IntWalk.i64_in]); (try with_reducible rfl))); (try simp only [Act.put, List.setIfInBounds_toArray, List.set_cons_zero, List.set_cons_succ, cut, List.drop_zero, List.drop_succ_cons, List.take_succ_cons, List.take_zero]))
  (refine G_pure (i := 2) (v := ?_) rfl (by kernel_rfl) rfl (fun w => ?_) ?_; rotate_left 1; (focus (go_simp; (try simp (disch := omega) only [IntWalk.i64_in]); (try with_reducible rfl))); (try simp only [Act.put, List.setIfInBounds_toArray, List.set_cons_zero, List.set_cons_succ, cut, List.drop_zero, List.drop_succ_cons, List.take_succ_cons, List.take_zero]))
  (refine G_pure (i := 3) (v := ?_) rfl (by kernel_rfl) rfl (fun w => ?_) ?_; rotate_left 1; (focus (go_simp; (try simp (disch := omega) only [IntWalk.i64_in]); (try with_reducible rfl))); (try simp only [Act.put, List.setIfInBounds_toArray, List.set_cons_zero, List.set_cons_succ, cut, List.drop_zero, List.drop_succ_cons, List.take_succ_cons, List.take_zero]))
  (refine G_pure (i := 4) (v := ?_) rfl (by kernel_rfl) rfl (fun w => ?_) ?_; rotate_left 1; (focus (go_simp; (try simp (disch := omega) only [IntWalk.i64_in]); (try with_reducible rfl))); (try simp only [Act.put, List.setIfInBounds_toArray, List.set_cons_zero, List.set_cons_succ, cut, List.drop_zero, List.drop_succ_cons, List.take_succ_cons, List.take_zero]))
  (refine G_pure (i := 5) (v := ?_) rfl (by kernel_rfl) rfl (fun w => ?_) ?_; rotate_left 1; (focus (go_simp; (try simp (disch := omega) only [IntWalk.i64_in]); (try with_reducible rfl))); (try simp only [Act.put, List.setIfInBounds_toArray, List.set_cons_zero, List.set_cons_succ, cut, List.drop_zero, List.drop_succ_cons, List.take_succ_cons, List.take_zero]))
  first
    | (apply G_load (i := 6) H; rfl; kernel_rfl; rfl; rfl; rfl; infer_instance; infer_instance; rfl; (try simp only [Act.put, List.setIfInBounds_toArray, List.set_cons_zero, List.set_cons_succ, cut, List.drop_zero, List.drop_succ_cons, List.take_succ_cons, List.take_zero]))
    | (apply G_load_agg (i := 6) H; rfl; kernel_rfl; rfl; rfl; rfl; infer_instance; infer_instance; (focus (simp; done)); (try simp only [Act.put, List.setIfInBounds_toArray, List.set_cons_zero, List.set_cons_succ, cut, List.drop_zero, List.drop_succ_cons, List.take_succ_cons, List.take_zero]))
  refine G_main (i := 7) (is := [6]) (bs := [false]) rfl (by kernel_rfl) rfl (by kernel_rfl) rfl ?_
  go_wp2_with (first
    | (go_at_call 55; refine c35n (x := x) H hend ht hnd hsmall hin ?_; clear H; intro lv w H; have hone := One1.mk (ltrsHP_one H))
    | (go_at_call 51; refine c162q (nb := b) (db := db) (cv := cv) (c := n.c) (id := n.id) (up := true) (hv := hv) (lv := lv) (m := .pointer none) (x := .pointer (some ⟨mb, 0, none⟩)) (d := n.disk) (held := n.held) (ls := x.reds.map helloL) (As := jobHP cv n.c.job :: wkHP mb x :: r) H.ent hd (by rw [List.length_map]; omega) (fun _ hv' w' H => ?_) (fun h => by omega)))
  refine postM_intro ?_
  refine ⟨trivial, ?_⟩
  try (try simp only [Act.put, List.setIfInBounds_toArray, List.set_cons_zero, List.set_cons_succ, cut, List.drop_zero, List.drop_succ_cons, List.take_succ_cons, List.take_zero])
  refine G_main (i := 8) (is := []) (bs := []) rfl (by kernel_rfl) rfl (by kernel_rfl) rfl ?_
  go_wp2_with (first
    | (go_at_call 55; refine c35n (x := x) H hend ht hnd hsmall hin ?_; clear H; intro lv w H; have hone := One1.mk (ltrsHP_one H))
    | (go_at_call 51; refine c162q (nb := b) (db := db) (cv := cv) (c := n.c) (id := n.id) (up := true) (hv := hv) (lv := lv) (m := .pointer none) (x := .pointer (some ⟨mb, 0, none⟩)) (d := n.disk) (held := n.held) (ls := x.reds.map helloL) (As := jobHP cv n.c.job :: wkHP mb x :: r) H.ent hd (by rw [List.length_map]; omega) (fun _ hv' w' H => ?_) (fun h => by omega)))
  refine postM_intro ?_
  refine ⟨trivial, ?_⟩
  try (try simp only [Act.put, List.setIfInBounds_toArray, List.set_cons_zero, List.set_cons_succ, cut, List.drop_zero, List.drop_succ_cons, List.take_succ_cons, List.take_zero])
  (refine G_pure (i := 9) (v := ?_) rfl (by kernel_rfl) rfl (fun w => ?_) ?_; rotate_left 1; (focus (go_simp; (try simp (disch := omega) only [IntWalk.i64_in]); (try with_reducible rfl))); (try simp only [Act.put, List.setIfInBounds_toArray, List.set_cons_zero, List.set_cons_succ, cut, List.drop_zero, List.drop_succ_cons, List.take_succ_cons, List.take_zero]))
  refine G_done (by kernel_rfl) ?_
  go_wp2_with (first
      | ((with_reducible refine is_ret ?_); apply ret_tmp1; rfl; rfl; (conv => lhs; whnf); skip)
      | ((with_reducible refine is_load ?_); apply wl_load H; rfl; rfl; rfl; infer_instance; infer_instance; rfl; skip)
      | ((with_reducible refine is_load ?_); apply wl_load_agg H; rfl; rfl; rfl; infer_instance; infer_instance; (focus (simp; done)); (try simp only [cut, List.drop_zero, List.drop_succ_cons, List.take_succ_cons, List.take_zero])))
  exact HK.out hv' _ H.ent

theorem Dk.sync_ok (d : Dk) : d.sync.ok := ⟨by show (0 : Int) ≤ d.b.length; omega, Int.le_refl _⟩
theorem Dk.sync_un (d : Dk) : d.sync.unsynced = 0 := by show ((d.b.length : Int) - d.b.length) = 0; omega

set_option maxHeartbeats 4000000 in
theorem c57 [hr : HasR (ndHP b) As n r] (H : Sat w0 w As) (hup : n.up = true) (hh : n.held.length ≤ 90000)
    (k : ∀ v w', Sat w0 w' (ltrsHP v n.held :: ndHP b { n with disk := n.disk.sync, held := [] } :: r) → R (.returned v) w') :
    Calls Tryz.prog 15 #[.pointer (some ⟨b, 0, none⟩)] w R := by
  obtain ⟨⟨cv, db, hv, mb⟩, H⟩ := ndHP_iff.1 (H.perm hr.perm)
  simp only at H
  rw [hup] at H
  have K : ∀ v' w', Sat w0 w' (.pt b (.cells (ndCells cv n.c n.id true (.pointer (some ⟨db, 0, none⟩)) (.slice none 0 0) (Mach.mp mb n.mach) (Mach.wp mb n.mach)) 92 (0, 0)) :: diskHP db n.disk.sync :: ltrsHP v' (n.held ++ ([] : List Ltr).map (setSrc n.id)) :: jobHP cv n.c.job :: machHP mb n.mach :: r) → R (.returned v') w' := by
    intro v' w' H
    rw [List.map_nil, List.append_nil] at H
    have H1 := ndHP_iff (n := { n with disk := n.disk.sync, held := [] }) (b := b).2 ⟨⟨cv, db, .slice none 0 0, mb⟩, (by
      show Sat w0 w' (.pt b (.cells (ndCells cv n.c n.id n.up (.pointer (some ⟨db, 0, none⟩)) (.slice none 0 0) (Mach.mp mb n.mach) (Mach.wp mb n.mach)) 92 (0, 0)) :: jobHP cv n.c.job :: diskHP db n.disk.sync :: ltrsHP (.slice none 0 0) [] :: machHP mb n.mach :: ltrsHP v' n.held :: r)
      rw [hup]
      exact (ltrsHP_nil H).ent)⟩
    exact k _ _ (H1.perm (.swap _ _ _))
  have HK := Lib.hid K
  have hmp : One1 (Mach.mp mb n.mach) := ⟨by cases n.mach <;> rfl⟩
  generalize Mach.mp mb n.mach = mp at H hmp HK
  generalize Mach.wp mb n.mach = mq at H HK
  clear K k
  go_enter Tryz.func15, Tryz.ntmps15
  go_wp2_with (first
      | (go_at_call 22; refine c64o H ?_; clear H; intro w H)
      | (go_at_call 50; refine c161 (d := n.disk) H ?_; clear H; intro w H)
      | (go_at_call 51; refine c162q (nb := b) (db := db) (cv := cv) (c := n.c) (id := n.id) (up := true) (hv := hv) (lv := .slice none 0 0) (m := mp) (x := mq) (d := n.disk.sync) (held := n.held) (ls := []) (As := jobHP cv n.c.job :: machHP mb n.mach :: r) (ltrsHP_nil H).ent (Dk.sync_ok _) (by simp; omega) (fun h => by rw [Dk.sync_un] at h; omega) (fun _ v' w' H => ?_))
      | ((with_reducible refine is_ret ?_); apply ret_tmp1; rfl; rfl; (conv => lhs; whnf); skip)
      | ((with_reducible refine is_load ?_); apply wl_load H; rfl; rfl; rfl; infer_instance; infer_instance; rfl; skip)
      | ((with_reducible refine is_load ?_); apply wl_load_agg H; rfl; rfl; rfl; infer_instance; infer_instance; (focus (simp; done)); (try simp only [cut, List.drop_zero, List.drop_succ_cons, List.take_succ_cons, List.take_zero])))
  exact HK.out _ _ H.ent
end Go.Proofs.YtcdkaggdidfenaaGreatDoor
