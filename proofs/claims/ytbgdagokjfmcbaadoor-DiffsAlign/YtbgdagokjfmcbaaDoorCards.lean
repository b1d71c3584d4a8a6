/-
  DERIVED. GIVEN WITH THE SEED: THE CARDS: each row of YtbgdagokjfmcbaaDoorRows.lean that lists a variable, with what it lists TIED to the program's text (the seventh form; the later family's looks); each row that meets fmt, with fmt's text TOLD by the authors' own Lean function (tested against real Go, not proved from fmt's source: count such statements apart). THE CARD IS WHAT COUNTS. Prove the row's statement (the work); the ties are given (YtbgdagokjfmcbaaDoorTie.lean); close each card by the builder's one call (the guide's Derived/Test/ToyasCard.lean, 'card_holds'). Laid BY PROGRAM, IN A SANDBOX (cutbox-door.mjs). By AI agents, Wed Nov 11 2026. No macro, syntax, notation, axiom, sorry.
-/
import Derived.Test.YtbgdagokjfmcbaaDoorRows
import GoSem.ClaimSeven
namespace Go.Proofs.YtbgdagokjfmcbaaDoor
namespace Rows

/-- THE TIED CARD OF 'gauntletlaw42.DiffsDiff'. -/
def diffsDiffCard : Claim7 := { stood := { row := diffsDiffRow, standIns := [], harness := (true, "47e637d790262835714b6542618b3c7725a7749194fb3ed768409ae6ac4f71c4"), looks := false }, kinds := [], alts := [], laidByText := true, laidKinds := [.data, .data, .data, .data], laidTests := true, laidLooks := .later }
def DiffsDiffCardSaid : Prop := Claim7.holds Tryd.pinned (.plain (OpenSpec.ofChange diffsDiffSpec)) diffsDiffCard

/-- THE TIED CARD OF 'gauntletlaw42.DiffsThen'. -/
def diffsThenCard : Claim7 := { stood := { row := diffsThenRow, standIns := [], harness := (true, "47e637d790262835714b6542618b3c7725a7749194fb3ed768409ae6ac4f71c4"), looks := false }, kinds := [], alts := [], laidByText := true, laidKinds := [.data, .data, .data, .data], laidTests := true, laidLooks := .later }
def DiffsThenCardSaid : Prop := Claim7.holds Tryd.pinned (.plain (OpenSpec.ofChange diffsThenSpec)) diffsThenCard

/-- THE TIED CARD OF 'gauntletlaw42.DiffsAlign'. -/
def diffsAlignCard : Claim7 := { stood := { row := diffsAlignRow, standIns := [], harness := (true, "47e637d790262835714b6542618b3c7725a7749194fb3ed768409ae6ac4f71c4"), looks := false }, kinds := [], alts := [], laidByText := true, laidKinds := [.data, .data, .data, .data], laidTests := true, laidLooks := .later }
def DiffsAlignCardSaid : Prop := Claim7.holds Tryd.pinned (.plain (OpenSpec.ofChange diffsAlignSpec)) diffsAlignCard

/-- THE TIED CARD OF 'gauntletlaw42.DiffsAffected'. -/
def diffsAffectedCard : Claim7 := { stood := { row := diffsAffectedRow, standIns := [], harness := (true, "47e637d790262835714b6542618b3c7725a7749194fb3ed768409ae6ac4f71c4"), looks := false }, kinds := [], alts := [], laidByText := true, laidKinds := [.data, .data, .data, .data], laidTests := true, laidLooks := .later }
def DiffsAffectedCardSaid : Prop := Claim7.holds Tryd.pinned (.plain (OpenSpec.ofChange diffsAffectedSpec)) diffsAffectedCard

/-- THE TIED CARD OF 'gauntletlaw42.DiffsApply'. -/
def diffsApplyCard : Claim7 := { stood := { row := diffsApplyRow, standIns := [], harness := (true, "47e637d790262835714b6542618b3c7725a7749194fb3ed768409ae6ac4f71c4"), looks := false }, kinds := [], alts := [], laidByText := true, laidKinds := [.data, .data, .data, .data], laidTests := true, laidLooks := .later }
def DiffsApplyCardSaid : Prop := Claim7.holds Tryd.pinned (.plain (OpenSpec.ofChange diffsApplySpec)) diffsApplyCard

/-- THE TIED CARD OF 'gauntletlaw42.DiffsPatch'. -/
def diffsPatchCard : Claim7 := { stood := { row := diffsPatchRow, standIns := [], harness := (true, "47e637d790262835714b6542618b3c7725a7749194fb3ed768409ae6ac4f71c4"), looks := false }, kinds := [], alts := [], laidByText := true, laidKinds := [.data, .data, .data, .data], laidTests := true, laidLooks := .later }
def DiffsPatchCardSaid : Prop := Claim7.holds Tryd.pinned (.plain (OpenSpec.ofChange diffsPatchSpec)) diffsPatchCard

/-- THE TIED CARD OF 'gauntletlaw42.DiffsBoth'. -/
def diffsBothCard : Claim7 := { stood := { row := diffsBothRow, standIns := [], harness := (true, "47e637d790262835714b6542618b3c7725a7749194fb3ed768409ae6ac4f71c4"), looks := false }, kinds := [], alts := [], laidByText := true, laidKinds := [.data, .data, .data, .data], laidTests := true, laidLooks := .later }
def DiffsBothCardSaid : Prop := Claim7.holds Tryd.pinned (.plain (OpenSpec.ofChange diffsBothSpec)) diffsBothCard

/-- THE SECOND FORM's CARD OF 'gauntletlaw42.DiffsDiff'. -/
def diffsDiffUptoCard : Claim7 := { stood := { row := diffsDiffUptoRow, standIns := [], harness := (true, "47e637d790262835714b6542618b3c7725a7749194fb3ed768409ae6ac4f71c4"), looks := false }, kinds := [], alts := [], laidByText := true, laidKinds := [.data, .data, .data, .data], laidTests := true, laidLooks := .later }
def DiffsDiffUptoCardSaid : Prop := Claim7.holds Tryd.pinned (.plain (OpenSpec.upto diffsDiffSpec)) diffsDiffUptoCard

/-- THE SECOND FORM's CARD OF 'gauntletlaw42.DiffsThen'. -/
def diffsThenUptoCard : Claim7 := { stood := { row := diffsThenUptoRow, standIns := [], harness := (true, "47e637d790262835714b6542618b3c7725a7749194fb3ed768409ae6ac4f71c4"), looks := false }, kinds := [], alts := [], laidByText := true, laidKinds := [.data, .data, .data, .data], laidTests := true, laidLooks := .later }
def DiffsThenUptoCardSaid : Prop := Claim7.holds Tryd.pinned (.plain (OpenSpec.upto diffsThenSpec)) diffsThenUptoCard

/-- THE SECOND FORM's CARD OF 'gauntletlaw42.DiffsAlign'. -/
def diffsAlignUptoCard : Claim7 := { stood := { row := diffsAlignUptoRow, standIns := [], harness := (true, "47e637d790262835714b6542618b3c7725a7749194fb3ed768409ae6ac4f71c4"), looks := false }, kinds := [], alts := [], laidByText := true, laidKinds := [.data, .data, .data, .data], laidTests := true, laidLooks := .later }
def DiffsAlignUptoCardSaid : Prop := Claim7.holds Tryd.pinned (.plain (OpenSpec.upto diffsAlignSpec)) diffsAlignUptoCard

/-- THE SECOND FORM's CARD OF 'gauntletlaw42.DiffsAffected'. -/
def diffsAffectedUptoCard : Claim7 := { stood := { row := diffsAffectedUptoRow, standIns := [], harness := (true, "47e637d790262835714b6542618b3c7725a7749194fb3ed768409ae6ac4f71c4"), looks := false }, kinds := [], alts := [], laidByText := true, laidKinds := [.data, .data, .data, .data], laidTests := true, laidLooks := .later }
def DiffsAffectedUptoCardSaid : Prop := Claim7.holds Tryd.pinned (.plain (OpenSpec.upto diffsAffectedSpec)) diffsAffectedUptoCard

/-- THE SECOND FORM's CARD OF 'gauntletlaw42.DiffsApply'. -/
def diffsApplyUptoCard : Claim7 := { stood := { row := diffsApplyUptoRow, standIns := [], harness := (true, "47e637d790262835714b6542618b3c7725a7749194fb3ed768409ae6ac4f71c4"), looks := false }, kinds := [], alts := [], laidByText := true, laidKinds := [.data, .data, .data, .data], laidTests := true, laidLooks := .later }
def DiffsApplyUptoCardSaid : Prop := Claim7.holds Tryd.pinned (.plain (OpenSpec.upto diffsApplySpec)) diffsApplyUptoCard

/-- THE SECOND FORM's CARD OF 'gauntletlaw42.DiffsPatch'. -/
def diffsPatchUptoCard : Claim7 := { stood := { row := diffsPatchUptoRow, standIns := [], harness := (true, "47e637d790262835714b6542618b3c7725a7749194fb3ed768409ae6ac4f71c4"), looks := false }, kinds := [], alts := [], laidByText := true, laidKinds := [.data, .data, .data, .data], laidTests := true, laidLooks := .later }
def DiffsPatchUptoCardSaid : Prop := Claim7.holds Tryd.pinned (.plain (OpenSpec.upto diffsPatchSpec)) diffsPatchUptoCard

/-- THE SECOND FORM's CARD OF 'gauntletlaw42.DiffsBoth'. -/
def diffsBothUptoCard : Claim7 := { stood := { row := diffsBothUptoRow, standIns := [], harness := (true, "47e637d790262835714b6542618b3c7725a7749194fb3ed768409ae6ac4f71c4"), looks := false }, kinds := [], alts := [], laidByText := true, laidKinds := [.data, .data, .data, .data], laidTests := true, laidLooks := .later }
def DiffsBothUptoCardSaid : Prop := Claim7.holds Tryd.pinned (.plain (OpenSpec.upto diffsBothSpec)) diffsBothUptoCard
end Rows
end Go.Proofs.YtbgdagokjfmcbaaDoor
