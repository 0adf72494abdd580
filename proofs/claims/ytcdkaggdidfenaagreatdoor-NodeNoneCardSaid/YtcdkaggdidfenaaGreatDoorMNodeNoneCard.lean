/- staithelaw24.NodeNone answers true for every input: of no node each call says so. -/
import Derived.Test.YtcdkaggdidfenaaGreatDoorMZ
set_option linter.all false
namespace Go.Proofs.YtcdkaggdidfenaaGreatDoor
open Go
set_option maxRecDepth 100000
set_option maxHeartbeats 4000000

/-- staithelaw24.NodeNone: of no node each call says so, and a node of the smallest configuration wakes as it must: true for every input. -/
theorem nodeNone_holds : Rows.NodeNoneCardSaid :=
  Claim7.holds_tied_plain_at .later [] [.data, .data, .data, .sentinel, .sentinel] true (true, "6a0733dc501b3e335794f03f3861ca99426c74d56127fd1c78f703fdfe37392b") true
    nodeNone_row (fun _ h => by cases h) (by as_aux_lemma => kernel_rfl) (fun _ h => by cases h) nodeNone_row_tie rfl ⟨rfl, rfl⟩ (by as_aux_lemma => kernel_rfl) rfl
    (fun f fn hf hfn => by
      obtain rfl : f = 5 := Option.some.inj ((show Tryz.prog.funcNamed "staithe/staithelaw24.NodeNone" = some 5 by kernel_rfl).symm.trans hf) |>.symm
      obtain rfl : fn = Tryz.f5 := (Option.some.inj (Tryz.func5.symm.trans hfn)).symm
      exact ⟨by kernel_rfl, fun j t ht => by
        rw [Tryz.params5] at ht
        have hm : t ∈ [53] := by simpa using Array.mem_of_getElem? ht
        have hall : ([53].all fun u => !Tryz.prog.wantsStandIn u) = true := by kernel_rfl
        exact (show Tryz.prog.wantsStandIn t = false by simpa using List.all_eq_true.1 hall t hm)⟩)
    (by as_aux_lemma => kernel_rfl)
end Go.Proofs.YtcdkaggdidfenaaGreatDoor
