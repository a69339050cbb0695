/-
  DERIVED. GIVEN WITH THE SEED: THE CARDS: each row of YtgclegdgngldoaaDoorRows.lean that lists a variable, with what it lists TIED to the program's text (the seventh form; the later family's looks); each row that meets fmt, with fmt's text TOLD by the authors' own Lean function (tested against real Go, not proved from fmt's source: count such statements apart). THE CARD IS WHAT COUNTS. Prove the row's statement (the work); the ties are given (YtgclegdgngldoaaDoorTie.lean); close each card by the builder's one call (the guide's Derived/Test/ToyasCard.lean, 'card_holds'). Laid BY PROGRAM, IN A SANDBOX (cutbox-door.mjs). By AI agents, Wed Nov 11 2026. No macro, syntax, notation, axiom, sorry.
-/
import Derived.Test.YtgclegdgngldoaaDoorRows
import GoSem.ClaimSeven
namespace Go.Proofs.YtgclegdgngldoaaDoor
namespace Rows

/-- THE TIED CARD OF 'pigeonrylaw19.SetupStarts'. -/
def setupStartsCard : Claim7 := { stood := { row := setupStartsRow, standIns := [], harness := (true, "b92031b1d87f3ba1f84482c1238f0afec3d688a3f20f9827007df427d764d1f9"), looks := false }, kinds := [], alts := [], laidByText := true, laidKinds := [.data], laidTests := true, laidLooks := .later }
def SetupStartsCardSaid : Prop := Claim7.holds Tryd.pinned (.plain (OpenSpec.ofChange setupStartsSpec)) setupStartsCard

/-- THE TIED CARD OF 'pigeonrylaw19.SetupAnswers'. -/
def setupAnswersCard : Claim7 := { stood := { row := setupAnswersRow, standIns := [], harness := (true, "b92031b1d87f3ba1f84482c1238f0afec3d688a3f20f9827007df427d764d1f9"), looks := false }, kinds := [], alts := [], laidByText := true, laidKinds := [.data], laidTests := true, laidLooks := .later }
def SetupAnswersCardSaid : Prop := Claim7.holds Tryd.pinned (.plain (OpenSpec.ofChange setupAnswersSpec)) setupAnswersCard

/-- THE TIED CARD OF 'pigeonrylaw19.SetupShared'. -/
def setupSharedCard : Claim7 := { stood := { row := setupSharedRow, standIns := [], harness := (true, "b92031b1d87f3ba1f84482c1238f0afec3d688a3f20f9827007df427d764d1f9"), looks := false }, kinds := [], alts := [], laidByText := true, laidKinds := [.data], laidTests := true, laidLooks := .later }
def SetupSharedCardSaid : Prop := Claim7.holds Tryd.pinned (.plain (OpenSpec.ofChange setupSharedSpec)) setupSharedCard

/-- THE TIED CARD OF 'pigeonrylaw14.EpochActs'. -/
def epochActsCard : Claim7 := { stood := { row := epochActsRow, standIns := [], harness := (true, "b92031b1d87f3ba1f84482c1238f0afec3d688a3f20f9827007df427d764d1f9"), looks := false }, kinds := [], alts := [], laidByText := true, laidKinds := [.data], laidTests := true, laidLooks := .later }
def EpochActsCardSaid : Prop := Claim7.holds Tryd.pinned (.plain (OpenSpec.ofChange epochActsSpec)) epochActsCard

/-- THE TIED CARD OF 'pigeonrylaw14.EpochFew'. -/
def epochFewCard : Claim7 := { stood := { row := epochFewRow, standIns := [], harness := (true, "b92031b1d87f3ba1f84482c1238f0afec3d688a3f20f9827007df427d764d1f9"), looks := false }, kinds := [], alts := [], laidByText := true, laidKinds := [.data], laidTests := true, laidLooks := .later }
def EpochFewCardSaid : Prop := Claim7.holds Tryd.pinned (.plain (OpenSpec.ofChange epochFewSpec)) epochFewCard

/-- THE TIED CARD OF 'pigeonrylaw14.EpochFresh'. -/
def epochFreshCard : Claim7 := { stood := { row := epochFreshRow, standIns := [], harness := (true, "b92031b1d87f3ba1f84482c1238f0afec3d688a3f20f9827007df427d764d1f9"), looks := false }, kinds := [], alts := [], laidByText := true, laidKinds := [.data], laidTests := true, laidLooks := .later }
def EpochFreshCardSaid : Prop := Claim7.holds Tryd.pinned (.plain (OpenSpec.ofChange epochFreshSpec)) epochFreshCard

/-- THE TIED CARD OF 'pigeonrylaw14.EpochOverlap'. -/
def epochOverlapCard : Claim7 := { stood := { row := epochOverlapRow, standIns := [], harness := (true, "b92031b1d87f3ba1f84482c1238f0afec3d688a3f20f9827007df427d764d1f9"), looks := false }, kinds := [], alts := [], laidByText := true, laidKinds := [.data], laidTests := true, laidLooks := .later }
def EpochOverlapCardSaid : Prop := Claim7.holds Tryd.pinned (.plain (OpenSpec.ofChange epochOverlapSpec)) epochOverlapCard

/-- THE TIED CARD OF 'pigeonrylaw14.EpochNobody'. -/
def epochNobodyCard : Claim7 := { stood := { row := epochNobodyRow, standIns := [], harness := (true, "b92031b1d87f3ba1f84482c1238f0afec3d688a3f20f9827007df427d764d1f9"), looks := false }, kinds := [], alts := [], laidByText := true, laidKinds := [.data], laidTests := true, laidLooks := .later }
def EpochNobodyCardSaid : Prop := Claim7.holds Tryd.pinned (.plain (OpenSpec.ofChange epochNobodySpec)) epochNobodyCard

/-- THE SECOND FORM's CARD OF 'pigeonrylaw19.SetupStarts'. -/
def setupStartsUptoCard : Claim7 := { stood := { row := setupStartsUptoRow, standIns := [], harness := (true, "b92031b1d87f3ba1f84482c1238f0afec3d688a3f20f9827007df427d764d1f9"), looks := false }, kinds := [], alts := [], laidByText := true, laidKinds := [.data], laidTests := true, laidLooks := .later }
def SetupStartsUptoCardSaid : Prop := Claim7.holds Tryd.pinned (.plain (OpenSpec.upto setupStartsSpec)) setupStartsUptoCard

/-- THE SECOND FORM's CARD OF 'pigeonrylaw19.SetupAnswers'. -/
def setupAnswersUptoCard : Claim7 := { stood := { row := setupAnswersUptoRow, standIns := [], harness := (true, "b92031b1d87f3ba1f84482c1238f0afec3d688a3f20f9827007df427d764d1f9"), looks := false }, kinds := [], alts := [], laidByText := true, laidKinds := [.data], laidTests := true, laidLooks := .later }
def SetupAnswersUptoCardSaid : Prop := Claim7.holds Tryd.pinned (.plain (OpenSpec.upto setupAnswersSpec)) setupAnswersUptoCard

/-- THE SECOND FORM's CARD OF 'pigeonrylaw19.SetupShared'. -/
def setupSharedUptoCard : Claim7 := { stood := { row := setupSharedUptoRow, standIns := [], harness := (true, "b92031b1d87f3ba1f84482c1238f0afec3d688a3f20f9827007df427d764d1f9"), looks := false }, kinds := [], alts := [], laidByText := true, laidKinds := [.data], laidTests := true, laidLooks := .later }
def SetupSharedUptoCardSaid : Prop := Claim7.holds Tryd.pinned (.plain (OpenSpec.upto setupSharedSpec)) setupSharedUptoCard

/-- THE SECOND FORM's CARD OF 'pigeonrylaw14.EpochActs'. -/
def epochActsUptoCard : Claim7 := { stood := { row := epochActsUptoRow, standIns := [], harness := (true, "b92031b1d87f3ba1f84482c1238f0afec3d688a3f20f9827007df427d764d1f9"), looks := false }, kinds := [], alts := [], laidByText := true, laidKinds := [.data], laidTests := true, laidLooks := .later }
def EpochActsUptoCardSaid : Prop := Claim7.holds Tryd.pinned (.plain (OpenSpec.upto epochActsSpec)) epochActsUptoCard

/-- THE SECOND FORM's CARD OF 'pigeonrylaw14.EpochFew'. -/
def epochFewUptoCard : Claim7 := { stood := { row := epochFewUptoRow, standIns := [], harness := (true, "b92031b1d87f3ba1f84482c1238f0afec3d688a3f20f9827007df427d764d1f9"), looks := false }, kinds := [], alts := [], laidByText := true, laidKinds := [.data], laidTests := true, laidLooks := .later }
def EpochFewUptoCardSaid : Prop := Claim7.holds Tryd.pinned (.plain (OpenSpec.upto epochFewSpec)) epochFewUptoCard

/-- THE SECOND FORM's CARD OF 'pigeonrylaw14.EpochFresh'. -/
def epochFreshUptoCard : Claim7 := { stood := { row := epochFreshUptoRow, standIns := [], harness := (true, "b92031b1d87f3ba1f84482c1238f0afec3d688a3f20f9827007df427d764d1f9"), looks := false }, kinds := [], alts := [], laidByText := true, laidKinds := [.data], laidTests := true, laidLooks := .later }
def EpochFreshUptoCardSaid : Prop := Claim7.holds Tryd.pinned (.plain (OpenSpec.upto epochFreshSpec)) epochFreshUptoCard

/-- THE SECOND FORM's CARD OF 'pigeonrylaw14.EpochOverlap'. -/
def epochOverlapUptoCard : Claim7 := { stood := { row := epochOverlapUptoRow, standIns := [], harness := (true, "b92031b1d87f3ba1f84482c1238f0afec3d688a3f20f9827007df427d764d1f9"), looks := false }, kinds := [], alts := [], laidByText := true, laidKinds := [.data], laidTests := true, laidLooks := .later }
def EpochOverlapUptoCardSaid : Prop := Claim7.holds Tryd.pinned (.plain (OpenSpec.upto epochOverlapSpec)) epochOverlapUptoCard

/-- THE SECOND FORM's CARD OF 'pigeonrylaw14.EpochNobody'. -/
def epochNobodyUptoCard : Claim7 := { stood := { row := epochNobodyUptoRow, standIns := [], harness := (true, "b92031b1d87f3ba1f84482c1238f0afec3d688a3f20f9827007df427d764d1f9"), looks := false }, kinds := [], alts := [], laidByText := true, laidKinds := [.data], laidTests := true, laidLooks := .later }
def EpochNobodyUptoCardSaid : Prop := Claim7.holds Tryd.pinned (.plain (OpenSpec.upto epochNobodySpec)) epochNobodyUptoCard
end Rows
end Go.Proofs.YtgclegdgngldoaaDoor
