/-
  DERIVED. GIVEN WITH THE SEED: THE CARDS: each row of YtcdkaggdidfenaaGreatDoorRows.lean that lists a variable, with what it lists TIED to the program's text (the seventh form; the later family's looks); each row that meets fmt, with fmt's text TOLD by the authors' own Lean function (tested against real Go, not proved from fmt's source: count such statements apart). THE CARD IS WHAT COUNTS. Prove the row's statement (the work); the ties are given (YtcdkaggdidfenaaGreatDoorTie.lean); close each card by the builder's one call (the guide's Derived/Test/ToyasCard.lean, 'card_holds'). Laid BY PROGRAM, IN A SANDBOX (cutbox-door.mjs). By AI agents, Wed Nov 11 2026. No macro, syntax, notation, axiom, sorry.
-/
import Derived.Test.YtcdkaggdidfenaaGreatDoorRows
import GoSem.ClaimSeven
namespace Go.Proofs.YtcdkaggdidfenaaGreatDoor
namespace Rows

/-- THE TIED CARD OF 'staithelaw24.NodeLives'. -/
def nodeLivesCard : Claim7 := { stood := { row := nodeLivesRow, standIns := [], harness := (true, "6a0733dc501b3e335794f03f3861ca99426c74d56127fd1c78f703fdfe37392b"), looks := true }, kinds := [], alts := [], laidByText := true, laidKinds := [.data, .data, .data, .sentinel, .sentinel], laidTests := true, laidLooks := .later }
def NodeLivesCardSaid : Prop := Claim7.holds Tryz.pinned (.plain (OpenSpec.ofChange nodeLivesSpec)) nodeLivesCard

/-- THE TIED CARD OF 'staithelaw24.NodeHolds'. -/
def nodeHoldsCard : Claim7 := { stood := { row := nodeHoldsRow, standIns := [], harness := (true, "6a0733dc501b3e335794f03f3861ca99426c74d56127fd1c78f703fdfe37392b"), looks := true }, kinds := [], alts := [], laidByText := true, laidKinds := [.data, .data, .data, .sentinel, .sentinel], laidTests := true, laidLooks := .later }
def NodeHoldsCardSaid : Prop := Claim7.holds Tryz.pinned (.plain (OpenSpec.ofChange nodeHoldsSpec)) nodeHoldsCard

/-- THE TIED CARD OF 'staithelaw24.NodeNone'. -/
def nodeNoneCard : Claim7 := { stood := { row := nodeNoneRow, standIns := [], harness := (true, "6a0733dc501b3e335794f03f3861ca99426c74d56127fd1c78f703fdfe37392b"), looks := true }, kinds := [], alts := [], laidByText := true, laidKinds := [.data, .data, .data, .sentinel, .sentinel], laidTests := true, laidLooks := .later }
def NodeNoneCardSaid : Prop := Claim7.holds Tryz.pinned (.plain (OpenSpec.ofChange nodeNoneSpec)) nodeNoneCard

/-- THE TIED CARD OF 'staithelaw25.ClusterCounts'. -/
def clusterCountsCard : Claim7 := { stood := { row := clusterCountsRow, standIns := [], harness := (true, "6a0733dc501b3e335794f03f3861ca99426c74d56127fd1c78f703fdfe37392b"), looks := true }, kinds := [], alts := [], laidByText := true, laidKinds := [.data, .data, .data, .sentinel, .sentinel], laidTests := true, laidLooks := .later }
def ClusterCountsCardSaid : Prop := Claim7.holds Tryz.pinned (.plain (OpenSpec.ofChange clusterCountsSpec)) clusterCountsCard

/-- THE TIED CARD OF 'staithelaw25.ClusterNone'. -/
def clusterNoneCard : Claim7 := { stood := { row := clusterNoneRow, standIns := [], harness := (true, "6a0733dc501b3e335794f03f3861ca99426c74d56127fd1c78f703fdfe37392b"), looks := true }, kinds := [], alts := [], laidByText := true, laidKinds := [.data, .data, .data, .sentinel, .sentinel], laidTests := true, laidLooks := .later }
def ClusterNoneCardSaid : Prop := Claim7.holds Tryz.pinned (.plain (OpenSpec.ofChange clusterNoneSpec)) clusterNoneCard

/-- THE SECOND FORM's CARD OF 'staithelaw24.NodeLives'. -/
def nodeLivesUptoCard : Claim7 := { stood := { row := nodeLivesUptoRow, standIns := [], harness := (true, "6a0733dc501b3e335794f03f3861ca99426c74d56127fd1c78f703fdfe37392b"), looks := true }, kinds := [], alts := [], laidByText := true, laidKinds := [.data, .data, .data, .sentinel, .sentinel], laidTests := true, laidLooks := .later }
def NodeLivesUptoCardSaid : Prop := Claim7.holds Tryz.pinned (.plain (OpenSpec.upto nodeLivesSpec)) nodeLivesUptoCard

/-- THE SECOND FORM's CARD OF 'staithelaw24.NodeHolds'. -/
def nodeHoldsUptoCard : Claim7 := { stood := { row := nodeHoldsUptoRow, standIns := [], harness := (true, "6a0733dc501b3e335794f03f3861ca99426c74d56127fd1c78f703fdfe37392b"), looks := true }, kinds := [], alts := [], laidByText := true, laidKinds := [.data, .data, .data, .sentinel, .sentinel], laidTests := true, laidLooks := .later }
def NodeHoldsUptoCardSaid : Prop := Claim7.holds Tryz.pinned (.plain (OpenSpec.upto nodeHoldsSpec)) nodeHoldsUptoCard

/-- THE SECOND FORM's CARD OF 'staithelaw24.NodeNone'. -/
def nodeNoneUptoCard : Claim7 := { stood := { row := nodeNoneUptoRow, standIns := [], harness := (true, "6a0733dc501b3e335794f03f3861ca99426c74d56127fd1c78f703fdfe37392b"), looks := true }, kinds := [], alts := [], laidByText := true, laidKinds := [.data, .data, .data, .sentinel, .sentinel], laidTests := true, laidLooks := .later }
def NodeNoneUptoCardSaid : Prop := Claim7.holds Tryz.pinned (.plain (OpenSpec.upto nodeNoneSpec)) nodeNoneUptoCard

/-- THE SECOND FORM's CARD OF 'staithelaw25.ClusterCounts'. -/
def clusterCountsUptoCard : Claim7 := { stood := { row := clusterCountsUptoRow, standIns := [], harness := (true, "6a0733dc501b3e335794f03f3861ca99426c74d56127fd1c78f703fdfe37392b"), looks := true }, kinds := [], alts := [], laidByText := true, laidKinds := [.data, .data, .data, .sentinel, .sentinel], laidTests := true, laidLooks := .later }
def ClusterCountsUptoCardSaid : Prop := Claim7.holds Tryz.pinned (.plain (OpenSpec.upto clusterCountsSpec)) clusterCountsUptoCard

/-- THE SECOND FORM's CARD OF 'staithelaw25.ClusterNone'. -/
def clusterNoneUptoCard : Claim7 := { stood := { row := clusterNoneUptoRow, standIns := [], harness := (true, "6a0733dc501b3e335794f03f3861ca99426c74d56127fd1c78f703fdfe37392b"), looks := true }, kinds := [], alts := [], laidByText := true, laidKinds := [.data, .data, .data, .sentinel, .sentinel], laidTests := true, laidLooks := .later }
def ClusterNoneUptoCardSaid : Prop := Claim7.holds Tryz.pinned (.plain (OpenSpec.upto clusterNoneSpec)) clusterNoneUptoCard
end Rows
end Go.Proofs.YtcdkaggdidfenaaGreatDoor
