/- A part of the proof: contracts of functions of the given program, and the laws on memory that they lean on. -/
import Derived.Test.YtcdkaggdidfenaaGreatDoorMX
import Derived.Test.YtcdkaggdidfenaaGreatDoorMOpen
import Derived.Test.YtcdkaggdidfenaaGreatDoorRows
import Derived.Test.YtcdkaggdidfenaaGreatDoorTie
import Derived.Test.YtcdkaggdidfenaaGreatDoorCards
import Derived.ProofKit
import Derived.LaidMore
import Derived.OpenShut
import Derived.Stop.Joined
import Derived.Below
import Derived.ChangeOld
import Derived.SevenTiedAt
set_option linter.all false
namespace Go.Proofs.YtcdkaggdidfenaaGreatDoor
open Go.ChangeShapes Go.WideShapes Go.ChangeAt Go.RowKit Go.SL St
set_option maxRecDepth 100000

theorem own : ownKnob Tryz.prog.godebug = none := by kernel_rfl
theorem laidOut : laidOutB Tryz.prog = true := by kernel_rfl

/-- The door's own heap meets the condition. -/
theorem door_met (os : Os) (args : Array Value) : laidMetH Tryz.prog Rows.nodeNoneRow.laid ((World.doorLaid Tryz.prog 62 os).forCall (fun _ _ => 0) ⟨#[], args, []⟩).memory :=
  laidMetH_of_parts3 (fuel := 8) (laidMet_of_run' 8 (by as_aux_lemma => kernel_rfl) (by as_aux_lemma => kernel_rfl)) (by as_aux_lemma => kernel_rfl) (by as_aux_lemma => kernel_rfl)

/-- What a letter's, or a message's, cells are. -/
theorem open_act {H : Type} {enc : TypeId × Value → H} {W : World} {r : Reach} {b : Nat} {v : Value} {d : DataW H} {p : List MemPlace} {held : Bool} (hv : Value.okWide Tryz.prog W r b 53 v) (h : DataW.Trod enc Tryz.prog W 0 (fun _ => true) held 53 v d p) :
    ∃ (n0 n1 n2 n3 m0 m1 m2 m3 m4 m5 m6 m7 : Int) (s q : Value) (set : List Int) (pairs : List Pr), v = .agg #[.int .i64 n0, .int .i64 n1, .int .i64 n2, .int .i64 n3, .int .i64 m0, .int .i64 m1, .int .i64 m2, .int .i64 m3, .int .i64 m4, .int .i64 m5, .int .i64 m6, .int .i64 m7, s, q] ∧ RdSl intE s set W ∧ RdSl pairE q pairs W := by
  obtain ⟨cs, rfl, hl, hc⟩ := okCells (n := 14) (ts := [3, 3, 3, 3, 3, 3, 3, 3, 3, 3, 3, 3, 24, 47]) Tryz.underlying53 (by as_aux_lemma => kernel_rfl) (by as_aux_lemma => kernel_rfl) rfl hv
  match cs, hl with
  | [c0, c1, c2, c3, c4, c5, c6, c7, c8, c9, c10, c11, c12, c13], _ =>
    obtain ⟨n0, rfl⟩ := okInt Tryz.underlying3 (hc 0 _ _ rfl rfl)
    obtain ⟨n1, rfl⟩ := okInt Tryz.underlying3 (hc 1 _ _ rfl rfl)
    obtain ⟨n2, rfl⟩ := okInt Tryz.underlying3 (hc 2 _ _ rfl rfl)
    obtain ⟨n3, rfl⟩ := okInt Tryz.underlying3 (hc 3 _ _ rfl rfl)
    obtain ⟨m0, rfl⟩ := okInt Tryz.underlying3 (hc 4 _ _ rfl rfl)
    obtain ⟨m1, rfl⟩ := okInt Tryz.underlying3 (hc 5 _ _ rfl rfl)
    obtain ⟨m2, rfl⟩ := okInt Tryz.underlying3 (hc 6 _ _ rfl rfl)
    obtain ⟨m3, rfl⟩ := okInt Tryz.underlying3 (hc 7 _ _ rfl rfl)
    obtain ⟨m4, rfl⟩ := okInt Tryz.underlying3 (hc 8 _ _ rfl rfl)
    obtain ⟨m5, rfl⟩ := okInt Tryz.underlying3 (hc 9 _ _ rfl rfl)
    obtain ⟨m6, rfl⟩ := okInt Tryz.underlying3 (hc 10 _ _ rfl rfl)
    obtain ⟨m7, rfl⟩ := okInt Tryz.underlying3 (hc 11 _ _ rfl rfl)
    obtain ⟨a1, l1, k1, rfl, h1⟩ := okSlice Tryz.underlying24 (hc 12 _ _ rfl rfl)
    obtain ⟨a2, l2, k2, rfl, h2⟩ := okSlice Tryz.underlying47 (hc 13 _ _ rfl rfl)
    obtain ⟨fuel, hf⟩ := h
    have c24 : Tryz.prog.cellsOf 24 = 1 := by kernel_rfl
    have c42 : Tryz.prog.cellsOf 47 = 1 := by kernel_rfl
    have c44 : Tryz.prog.cellsOf 49 = 10 := by kernel_rfl
    have c89 : Tryz.prog.cellsOf 51 = 12 := by kernel_rfl
    obtain ⟨f1, y1, g1⟩ := fld (i := 2) Tryz.underlying53 hf rfl
    obtain ⟨f2, y2, g2⟩ := fld (i := 2) Tryz.underlying51 g1 rfl
    obtain ⟨f3, y3, g3⟩ := fld (i := 8) Tryz.underlying49 g2 rfl
    obtain ⟨f4, y4, g4⟩ := fld (i := 9) Tryz.underlying49 g2 rfl
    simp only [c24, c42, c44, c89, Value.cells, List.drop_succ_cons, List.drop_zero, List.take_succ_cons, List.take_zero] at g3 g4
    obtain ⟨set, hset⟩ := rd_ints Tryz.underlying24 Tryz.underlying3 (by as_aux_lemma => kernel_rfl) g3 h1
    obtain ⟨pairs, hpairs⟩ := rd_pairs Tryz.underlying47 Tryz.underlying133 rfl rfl Tryz.underlying9 (by as_aux_lemma => kernel_rfl) (by as_aux_lemma => kernel_rfl) g4 h2
    exact ⟨n0, n1, n2, n3, m0, m1, m2, m3, m4, m5, m6, m7, _, _, set, pairs, rfl, hset, hpairs⟩

theorem nodeNone_lifted (os : Os) (started : os.Started) (H : Type) (enc : TypeId × Value → H) :
    ReturnsInHanded {} Tryz.checked os 5 .any (fun w args => (Rows.nodeNoneSpec.pre enc Tryz.prog Tryz.f5 [] false w args ∧ laidMetH Tryz.prog Rows.nodeNoneRow.laid w) ∧ sizedMet enc Tryz.prog Tryz.f5 (OpenSpec.ofChange Rows.nodeNoneSpec) false w args)
      (Rows.nodeNoneSpec.post enc Tryz.prog Tryz.f5 false true false false) := by
  refine returnsInHanded_of_change_and (C := Tryz.checked) (X := fun w _ => laidMetH Tryz.prog Rows.nodeNoneRow.laid w) (fun _ _ _ hh h => h.of_heap hh) own started (by as_aux_lemma => kernel_rfl) Tryz.func5
    (ChangeSpec.witness_shaped (enc := enc) (C := Tryz.checked) (os := os) (X := fun w _ => laidMetH Tryz.prog Rows.nodeNoneRow.laid w) false (World.doorLaid Tryz.prog 62 os) #[.agg #[.int .i64 0, .int .i64 0, .int .i64 0, .int .i64 0, .int .i64 0, .int .i64 0, .int .i64 0, .int .i64 0, .int .i64 0, .int .i64 0, .int .i64 0, .int .i64 0, .slice none 0 0, .slice none 0 0]] 8 rfl (World.shaped_of_RefB (by as_aux_lemma => kernel_rfl) (by as_aux_lemma => kernel_rfl)) (by as_aux_lemma => kernel_rfl) (by as_aux_lemma => kernel_rfl) (by as_aux_lemma => kernel_rfl) (door_met os _)) ?_
  intro W base args ds gs before hval0 hW _ _ hL _
  have hval : ∀ (j : Nat) t v, Tryz.f5.params[j]? = some t → args[j]? = some v → Value.okWide Tryz.prog W .any base t v := hval0
  have hW' := hW
  obtain ⟨p, q, hA0, hV, rfl, hfz, hnd⟩ := hW
  have hA : DataW.TrodAll enc Tryz.prog W 0 (fun _ => true) true Tryz.f5.params.toList args.toList ds p := hA0
  rw [Tryz.params5] at hA hval
  obtain ⟨v0, d0, rfl, rfl, h0⟩ := trodAll_one hA
  obtain ⟨rfl, rfl⟩ := trodVars_none hV
  have k0 := h0
  have lt0 : ∀ x ∈ p, x.block < W.heap.size := by obtain ⟨m, hm⟩ := k0; exact DataW.trod_lt m _ _ _ hm
  obtain ⟨n0, n1, n2, n3, m0, m1, m2, m3, m4, m5, m6, m7, s, u, set, pairs, rfl, hs, hu⟩ := open_act (hval 0 _ v0 rfl rfl) h0
  have i1 : RdV intE [.imm W] s set := ⟨fun H => RdSl.imm H hs⟩
  have i2 : RdV pairE [.imm W] u pairs := ⟨fun H => RdSl.imm H hu⟩
  clear hA0 hval0
  have hwalk : Calls Tryz.prog 5 #[.agg #[.int .i64 n0, .int .i64 n1, .int .i64 n2, .int .i64 n3, .int .i64 m0, .int .i64 m1, .int .i64 m2, .int .i64 m3, .int .i64 m4, .int .i64 m5, .int .i64 m6, .int .i64 m7, s, u]] W fun e w' => e = .returned (.bool true) ∧ Below W.heap.size W w' :=
    c8 (w0 := W) (As := [.imm W]) (Sat.start W).imm (fun w' H => ⟨rfl, H.below⟩)
  refine hwalk.mono fun e W' ⟨he, bel⟩ => ?_
  subst he
  exact ⟨_, rfl, _, _, _, [], _, [], hW', trodAll_mk1 (shut_bool Tryz.underlying4 _), (trodAll_cons_mk (Below.trod laidOut (by as_aux_lemma => kernel_rfl) (of_decide_eq_true (by as_aux_lemma => kernel_rfl)) k0 bel lt0) trodAll_mk0), rfl, bel.frame _, fun h => by cases h⟩

end Go.Proofs.YtcdkaggdidfenaaGreatDoor
