/-
  DERIVED. GIVEN WITH THE SEED: THE CARDS: each row of YtfdnlhegmdhcjaaDoorRows.lean that lists a variable, with what it lists TIED to the program's text (the seventh form; the later family's looks); each row that meets fmt, with fmt's text TOLD by the authors' own Lean function (tested against real Go, not proved from fmt's source: count such statements apart). THE CARD IS WHAT COUNTS. Prove the row's statement (the work); the ties are given (YtfdnlhegmdhcjaaDoorTie.lean); close each card by the builder's one call (the guide's Derived/Test/ToyasCard.lean, 'card_holds'). Laid BY PROGRAM, IN A SANDBOX (cutbox-door.mjs). By AI agents, Wed Nov 11 2026. No macro, syntax, notation, axiom, sorry.
-/
import Derived.Test.YtfdnlhegmdhcjaaDoorRows
import GoSem.ClaimSeven
namespace Go.Proofs.YtfdnlhegmdhcjaaDoor
namespace Rows

/-- THE TIED CARD OF 'gauntletlaw19.FaultsApply'. -/
def faultsApplyCard : Claim7 := { stood := { row := faultsApplyRow, standIns := [], harness := (true, "6ef718eef5b4bc00de6d8181d3bc269bdb1d4a55eb04ae1b6e021021ce3e94d0"), looks := true }, kinds := [], alts := [], laidByText := true, laidKinds := [.data, .data, .data, .data, .sentinel, .sentinel, .widerDeep, .pinned], laidTests := true, laidLooks := .later }
def FaultsApplyCardSaid : Prop := Claim7.holds Tryd.pinned (.plain (OpenSpec.ofChange faultsApplySpec)) faultsApplyCard

/-- THE TIED CARD OF 'gauntletlaw19.FaultsEdges'. -/
def faultsEdgesCard : Claim7 := { stood := { row := faultsEdgesRow, standIns := [], harness := (true, "6ef718eef5b4bc00de6d8181d3bc269bdb1d4a55eb04ae1b6e021021ce3e94d0"), looks := true }, kinds := [], alts := [], laidByText := true, laidKinds := [.data, .data, .data, .data, .sentinel, .sentinel, .widerDeep, .pinned], laidTests := true, laidLooks := .later }
def FaultsEdgesCardSaid : Prop := Claim7.holds Tryd.pinned (.plain (OpenSpec.ofChange faultsEdgesSpec)) faultsEdgesCard

/-- THE TIED CARD OF 'gauntletlaw19.FaultsCheck'. -/
def faultsCheckCard : Claim7 := { stood := { row := faultsCheckRow, standIns := [], harness := (true, "6ef718eef5b4bc00de6d8181d3bc269bdb1d4a55eb04ae1b6e021021ce3e94d0"), looks := true }, kinds := [], alts := [], laidByText := true, laidKinds := [.data, .data, .data, .data, .sentinel, .sentinel, .widerDeep, .pinned], laidTests := true, laidLooks := .later }
def FaultsCheckCardSaid : Prop := Claim7.holds Tryd.pinned (.plain (OpenSpec.ofChange faultsCheckSpec)) faultsCheckCard

/-- THE TIED CARD OF 'gauntletlaw19.FaultsKnown'. -/
def faultsKnownCard : Claim7 := { stood := { row := faultsKnownRow, standIns := [], harness := (true, "6ef718eef5b4bc00de6d8181d3bc269bdb1d4a55eb04ae1b6e021021ce3e94d0"), looks := true }, kinds := [], alts := [], laidByText := true, laidKinds := [.data, .data, .data, .data, .sentinel, .sentinel, .widerDeep, .pinned], laidTests := true, laidLooks := .later }
def FaultsKnownCardSaid : Prop := Claim7.holds Tryd.pinned (.plain (OpenSpec.ofChange faultsKnownSpec)) faultsKnownCard

/-- THE TIED CARD OF 'gauntletlaw19.FaultsAll'. -/
def faultsAllCard : Claim7 := { stood := { row := faultsAllRow, standIns := [], harness := (true, "6ef718eef5b4bc00de6d8181d3bc269bdb1d4a55eb04ae1b6e021021ce3e94d0"), looks := true }, kinds := [], alts := [], laidByText := true, laidKinds := [.data, .data, .data, .data, .sentinel, .sentinel, .widerDeep, .pinned], laidTests := true, laidLooks := .later }
def FaultsAllCardSaid : Prop := Claim7.holds Tryd.pinned (.plain (OpenSpec.ofChange faultsAllSpec)) faultsAllCard

/-- THE TIED CARD OF 'gauntletlaw19.FaultsText'. -/
def faultsTextCard : Claim7 := { stood := { row := faultsTextRow, standIns := [], harness := (true, "6ef718eef5b4bc00de6d8181d3bc269bdb1d4a55eb04ae1b6e021021ce3e94d0"), looks := true }, kinds := [], alts := [], laidByText := true, laidKinds := [.data, .data, .data, .data, .sentinel, .sentinel, .widerDeep, .pinned], laidTests := true, laidLooks := .later }
def FaultsTextCardSaid : Prop := Claim7.holds Tryd.pinned (.plain (OpenSpec.ofChange faultsTextSpec)) faultsTextCard

/-- THE SECOND FORM's CARD OF 'gauntletlaw19.FaultsApply'. -/
def faultsApplyUptoCard : Claim7 := { stood := { row := faultsApplyUptoRow, standIns := [], harness := (true, "6ef718eef5b4bc00de6d8181d3bc269bdb1d4a55eb04ae1b6e021021ce3e94d0"), looks := true }, kinds := [], alts := [], laidByText := true, laidKinds := [.data, .data, .data, .data, .sentinel, .sentinel, .widerDeep, .pinned], laidTests := true, laidLooks := .later }
def FaultsApplyUptoCardSaid : Prop := Claim7.holds Tryd.pinned (.plain (OpenSpec.upto faultsApplySpec)) faultsApplyUptoCard

/-- THE SECOND FORM's CARD OF 'gauntletlaw19.FaultsEdges'. -/
def faultsEdgesUptoCard : Claim7 := { stood := { row := faultsEdgesUptoRow, standIns := [], harness := (true, "6ef718eef5b4bc00de6d8181d3bc269bdb1d4a55eb04ae1b6e021021ce3e94d0"), looks := true }, kinds := [], alts := [], laidByText := true, laidKinds := [.data, .data, .data, .data, .sentinel, .sentinel, .widerDeep, .pinned], laidTests := true, laidLooks := .later }
def FaultsEdgesUptoCardSaid : Prop := Claim7.holds Tryd.pinned (.plain (OpenSpec.upto faultsEdgesSpec)) faultsEdgesUptoCard

/-- THE SECOND FORM's CARD OF 'gauntletlaw19.FaultsCheck'. -/
def faultsCheckUptoCard : Claim7 := { stood := { row := faultsCheckUptoRow, standIns := [], harness := (true, "6ef718eef5b4bc00de6d8181d3bc269bdb1d4a55eb04ae1b6e021021ce3e94d0"), looks := true }, kinds := [], alts := [], laidByText := true, laidKinds := [.data, .data, .data, .data, .sentinel, .sentinel, .widerDeep, .pinned], laidTests := true, laidLooks := .later }
def FaultsCheckUptoCardSaid : Prop := Claim7.holds Tryd.pinned (.plain (OpenSpec.upto faultsCheckSpec)) faultsCheckUptoCard

/-- THE SECOND FORM's CARD OF 'gauntletlaw19.FaultsKnown'. -/
def faultsKnownUptoCard : Claim7 := { stood := { row := faultsKnownUptoRow, standIns := [], harness := (true, "6ef718eef5b4bc00de6d8181d3bc269bdb1d4a55eb04ae1b6e021021ce3e94d0"), looks := true }, kinds := [], alts := [], laidByText := true, laidKinds := [.data, .data, .data, .data, .sentinel, .sentinel, .widerDeep, .pinned], laidTests := true, laidLooks := .later }
def FaultsKnownUptoCardSaid : Prop := Claim7.holds Tryd.pinned (.plain (OpenSpec.upto faultsKnownSpec)) faultsKnownUptoCard

/-- THE SECOND FORM's CARD OF 'gauntletlaw19.FaultsAll'. -/
def faultsAllUptoCard : Claim7 := { stood := { row := faultsAllUptoRow, standIns := [], harness := (true, "6ef718eef5b4bc00de6d8181d3bc269bdb1d4a55eb04ae1b6e021021ce3e94d0"), looks := true }, kinds := [], alts := [], laidByText := true, laidKinds := [.data, .data, .data, .data, .sentinel, .sentinel, .widerDeep, .pinned], laidTests := true, laidLooks := .later }
def FaultsAllUptoCardSaid : Prop := Claim7.holds Tryd.pinned (.plain (OpenSpec.upto faultsAllSpec)) faultsAllUptoCard

/-- THE SECOND FORM's CARD OF 'gauntletlaw19.FaultsText'. -/
def faultsTextUptoCard : Claim7 := { stood := { row := faultsTextUptoRow, standIns := [], harness := (true, "6ef718eef5b4bc00de6d8181d3bc269bdb1d4a55eb04ae1b6e021021ce3e94d0"), looks := true }, kinds := [], alts := [], laidByText := true, laidKinds := [.data, .data, .data, .data, .sentinel, .sentinel, .widerDeep, .pinned], laidTests := true, laidLooks := .later }
def FaultsTextUptoCardSaid : Prop := Claim7.holds Tryd.pinned (.plain (OpenSpec.upto faultsTextSpec)) faultsTextUptoCard
end Rows
end Go.Proofs.YtfdnlhegmdhcjaaDoor
