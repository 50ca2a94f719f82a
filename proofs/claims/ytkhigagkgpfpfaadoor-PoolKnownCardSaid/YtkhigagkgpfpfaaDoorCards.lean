/-
  DERIVED. GIVEN WITH THE SEED: THE CARDS: each row of YtkhigagkgpfpfaaDoorRows.lean that lists a variable, with what it lists TIED to the program's text (the seventh form; the later family's looks); each row that meets fmt, with fmt's text TOLD by the authors' own Lean function (tested against real Go, not proved from fmt's source: count such statements apart). THE CARD IS WHAT COUNTS. Prove the row's statement (the work); the ties are given (YtkhigagkgpfpfaaDoorTie.lean); close each card by the builder's one call (the guide's Derived/Test/ToyasCard.lean, 'card_holds'). Laid BY PROGRAM, IN A SANDBOX (cutbox-door.mjs). By AI agents, Wed Nov 11 2026. No macro, syntax, notation, axiom, sorry.
-/
import Derived.Test.YtkhigagkgpfpfaaDoorRows
import GoSem.ClaimSeven
namespace Go.Proofs.YtkhigagkgpfpfaaDoor
namespace Rows

/-- THE TIED CARD OF 'warpbeamlaw04.PoolReads'. -/
def poolReadsCard : Claim7 := { stood := { row := poolReadsRow, standIns := [], harness := (true, "f21e58c3b627f44f8dfb3fad0344b4244da3e83108e4f94afc0bf423e00e987a"), looks := false }, kinds := [], alts := [], laidByText := true, laidKinds := [.data, .funcs, .pinned], laidTests := true, laidLooks := .later }
def PoolReadsCardSaid : Prop := Claim7.holds Tryd.pinned (.plain (OpenSpec.ofChange poolReadsSpec)) poolReadsCard

/-- THE TIED CARD OF 'warpbeamlaw04.PoolMore'. -/
def poolMoreCard : Claim7 := { stood := { row := poolMoreRow, standIns := [], harness := (true, "f21e58c3b627f44f8dfb3fad0344b4244da3e83108e4f94afc0bf423e00e987a"), looks := false }, kinds := [], alts := [], laidByText := true, laidKinds := [.data, .data, .data, .data, .funcs, .pinned], laidTests := true, laidLooks := .later }
def PoolMoreCardSaid : Prop := Claim7.holds Tryd.pinned (.plain (OpenSpec.ofChange poolMoreSpec)) poolMoreCard

/-- THE TIED CARD OF 'warpbeamlaw04.PoolBack'. -/
def poolBackCard : Claim7 := { stood := { row := poolBackRow, standIns := [], harness := (true, "f21e58c3b627f44f8dfb3fad0344b4244da3e83108e4f94afc0bf423e00e987a"), looks := false }, kinds := [], alts := [], laidByText := true, laidKinds := [.data, .funcs, .pinned], laidTests := true, laidLooks := .later }
def PoolBackCardSaid : Prop := Claim7.holds Tryd.pinned (.plain (OpenSpec.ofChange poolBackSpec)) poolBackCard

/-- THE TIED CARD OF 'warpbeamlaw04.PoolAgain'. -/
def poolAgainCard : Claim7 := { stood := { row := poolAgainRow, standIns := [], harness := (true, "f21e58c3b627f44f8dfb3fad0344b4244da3e83108e4f94afc0bf423e00e987a"), looks := false }, kinds := [], alts := [], laidByText := true, laidKinds := [.data, .funcs, .pinned], laidTests := true, laidLooks := .later }
def PoolAgainCardSaid : Prop := Claim7.holds Tryd.pinned (.plain (OpenSpec.ofChange poolAgainSpec)) poolAgainCard

/-- THE TIED CARD OF 'warpbeamlaw04.PoolCut'. -/
def poolCutCard : Claim7 := { stood := { row := poolCutRow, standIns := [], harness := (true, "f21e58c3b627f44f8dfb3fad0344b4244da3e83108e4f94afc0bf423e00e987a"), looks := false }, kinds := [], alts := [], laidByText := true, laidKinds := [.data, .funcs, .pinned], laidTests := true, laidLooks := .later }
def PoolCutCardSaid : Prop := Claim7.holds Tryd.pinned (.plain (OpenSpec.ofChange poolCutSpec)) poolCutCard

/-- THE TIED CARD OF 'warpbeamlaw04.PoolTells'. -/
def poolTellsCard : Claim7 := { stood := { row := poolTellsRow, standIns := [], harness := (true, "f21e58c3b627f44f8dfb3fad0344b4244da3e83108e4f94afc0bf423e00e987a"), looks := false }, kinds := [], alts := [], laidByText := true, laidKinds := [.data, .funcs, .pinned], laidTests := true, laidLooks := .later }
def PoolTellsCardSaid : Prop := Claim7.holds Tryd.pinned (.plain (OpenSpec.ofChange poolTellsSpec)) poolTellsCard

/-- THE TIED CARD OF 'warpbeamlaw04.PoolOne'. -/
def poolOneCard : Claim7 := { stood := { row := poolOneRow, standIns := [], harness := (true, "f21e58c3b627f44f8dfb3fad0344b4244da3e83108e4f94afc0bf423e00e987a"), looks := false }, kinds := [], alts := [], laidByText := true, laidKinds := [.data, .funcs, .pinned], laidTests := true, laidLooks := .later }
def PoolOneCardSaid : Prop := Claim7.holds Tryd.pinned (.plain (OpenSpec.ofChange poolOneSpec)) poolOneCard

/-- THE TIED CARD OF 'warpbeamlaw04.PoolKnown'. -/
def poolKnownCard : Claim7 := { stood := { row := poolKnownRow, standIns := [], harness := (true, "f21e58c3b627f44f8dfb3fad0344b4244da3e83108e4f94afc0bf423e00e987a"), looks := false }, kinds := [], alts := [], laidByText := true, laidKinds := [.data, .funcs, .pinned], laidTests := true, laidLooks := .later }
def PoolKnownCardSaid : Prop := Claim7.holds Tryd.pinned (.plain (OpenSpec.ofChange poolKnownSpec)) poolKnownCard

/-- THE TIED CARD OF 'warpbeamlaw04.PoolWrites'. -/
def poolWritesCard : Claim7 := { stood := { row := poolWritesRow, standIns := [], harness := (true, "f21e58c3b627f44f8dfb3fad0344b4244da3e83108e4f94afc0bf423e00e987a"), looks := false }, kinds := [], alts := [], laidByText := true, laidKinds := [.data, .funcs, .pinned], laidTests := true, laidLooks := .later }
def PoolWritesCardSaid : Prop := Claim7.holds Tryd.pinned (.plain (OpenSpec.ofChange poolWritesSpec)) poolWritesCard

/-- THE SECOND FORM's CARD OF 'warpbeamlaw04.PoolReads'. -/
def poolReadsUptoCard : Claim7 := { stood := { row := poolReadsUptoRow, standIns := [], harness := (true, "f21e58c3b627f44f8dfb3fad0344b4244da3e83108e4f94afc0bf423e00e987a"), looks := false }, kinds := [], alts := [], laidByText := true, laidKinds := [.data, .funcs, .pinned], laidTests := true, laidLooks := .later }
def PoolReadsUptoCardSaid : Prop := Claim7.holds Tryd.pinned (.plain (OpenSpec.upto poolReadsSpec)) poolReadsUptoCard

/-- THE SECOND FORM's CARD OF 'warpbeamlaw04.PoolMore'. -/
def poolMoreUptoCard : Claim7 := { stood := { row := poolMoreUptoRow, standIns := [], harness := (true, "f21e58c3b627f44f8dfb3fad0344b4244da3e83108e4f94afc0bf423e00e987a"), looks := false }, kinds := [], alts := [], laidByText := true, laidKinds := [.data, .data, .data, .data, .funcs, .pinned], laidTests := true, laidLooks := .later }
def PoolMoreUptoCardSaid : Prop := Claim7.holds Tryd.pinned (.plain (OpenSpec.upto poolMoreSpec)) poolMoreUptoCard

/-- THE SECOND FORM's CARD OF 'warpbeamlaw04.PoolBack'. -/
def poolBackUptoCard : Claim7 := { stood := { row := poolBackUptoRow, standIns := [], harness := (true, "f21e58c3b627f44f8dfb3fad0344b4244da3e83108e4f94afc0bf423e00e987a"), looks := false }, kinds := [], alts := [], laidByText := true, laidKinds := [.data, .funcs, .pinned], laidTests := true, laidLooks := .later }
def PoolBackUptoCardSaid : Prop := Claim7.holds Tryd.pinned (.plain (OpenSpec.upto poolBackSpec)) poolBackUptoCard

/-- THE SECOND FORM's CARD OF 'warpbeamlaw04.PoolAgain'. -/
def poolAgainUptoCard : Claim7 := { stood := { row := poolAgainUptoRow, standIns := [], harness := (true, "f21e58c3b627f44f8dfb3fad0344b4244da3e83108e4f94afc0bf423e00e987a"), looks := false }, kinds := [], alts := [], laidByText := true, laidKinds := [.data, .funcs, .pinned], laidTests := true, laidLooks := .later }
def PoolAgainUptoCardSaid : Prop := Claim7.holds Tryd.pinned (.plain (OpenSpec.upto poolAgainSpec)) poolAgainUptoCard

/-- THE SECOND FORM's CARD OF 'warpbeamlaw04.PoolCut'. -/
def poolCutUptoCard : Claim7 := { stood := { row := poolCutUptoRow, standIns := [], harness := (true, "f21e58c3b627f44f8dfb3fad0344b4244da3e83108e4f94afc0bf423e00e987a"), looks := false }, kinds := [], alts := [], laidByText := true, laidKinds := [.data, .funcs, .pinned], laidTests := true, laidLooks := .later }
def PoolCutUptoCardSaid : Prop := Claim7.holds Tryd.pinned (.plain (OpenSpec.upto poolCutSpec)) poolCutUptoCard

/-- THE SECOND FORM's CARD OF 'warpbeamlaw04.PoolTells'. -/
def poolTellsUptoCard : Claim7 := { stood := { row := poolTellsUptoRow, standIns := [], harness := (true, "f21e58c3b627f44f8dfb3fad0344b4244da3e83108e4f94afc0bf423e00e987a"), looks := false }, kinds := [], alts := [], laidByText := true, laidKinds := [.data, .funcs, .pinned], laidTests := true, laidLooks := .later }
def PoolTellsUptoCardSaid : Prop := Claim7.holds Tryd.pinned (.plain (OpenSpec.upto poolTellsSpec)) poolTellsUptoCard

/-- THE SECOND FORM's CARD OF 'warpbeamlaw04.PoolOne'. -/
def poolOneUptoCard : Claim7 := { stood := { row := poolOneUptoRow, standIns := [], harness := (true, "f21e58c3b627f44f8dfb3fad0344b4244da3e83108e4f94afc0bf423e00e987a"), looks := false }, kinds := [], alts := [], laidByText := true, laidKinds := [.data, .funcs, .pinned], laidTests := true, laidLooks := .later }
def PoolOneUptoCardSaid : Prop := Claim7.holds Tryd.pinned (.plain (OpenSpec.upto poolOneSpec)) poolOneUptoCard

/-- THE SECOND FORM's CARD OF 'warpbeamlaw04.PoolKnown'. -/
def poolKnownUptoCard : Claim7 := { stood := { row := poolKnownUptoRow, standIns := [], harness := (true, "f21e58c3b627f44f8dfb3fad0344b4244da3e83108e4f94afc0bf423e00e987a"), looks := false }, kinds := [], alts := [], laidByText := true, laidKinds := [.data, .funcs, .pinned], laidTests := true, laidLooks := .later }
def PoolKnownUptoCardSaid : Prop := Claim7.holds Tryd.pinned (.plain (OpenSpec.upto poolKnownSpec)) poolKnownUptoCard

/-- THE SECOND FORM's CARD OF 'warpbeamlaw04.PoolWrites'. -/
def poolWritesUptoCard : Claim7 := { stood := { row := poolWritesUptoRow, standIns := [], harness := (true, "f21e58c3b627f44f8dfb3fad0344b4244da3e83108e4f94afc0bf423e00e987a"), looks := false }, kinds := [], alts := [], laidByText := true, laidKinds := [.data, .funcs, .pinned], laidTests := true, laidLooks := .later }
def PoolWritesUptoCardSaid : Prop := Claim7.holds Tryd.pinned (.plain (OpenSpec.upto poolWritesSpec)) poolWritesUptoCard
end Rows
end Go.Proofs.YtkhigagkgpfpfaaDoor
