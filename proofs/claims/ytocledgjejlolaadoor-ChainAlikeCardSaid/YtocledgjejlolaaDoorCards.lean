/-
  DERIVED. GIVEN WITH THE SEED: THE CARDS: each row of YtocledgjejlolaaDoorRows.lean that lists a variable, with what it lists TIED to the program's text (the seventh form; the later family's looks); each row that meets fmt, with fmt's text TOLD by the authors' own Lean function (tested against real Go, not proved from fmt's source: count such statements apart). THE CARD IS WHAT COUNTS. Prove the row's statement (the work); the ties are given (YtocledgjejlolaaDoorTie.lean); close each card by the builder's one call (the guide's Derived/Test/ToyasCard.lean, 'card_holds'). Laid BY PROGRAM, IN A SANDBOX (cutbox-door.mjs). By AI agents, Wed Nov 11 2026. No macro, syntax, notation, axiom, sorry.
-/
import Derived.Test.YtocledgjejlolaaDoorRows
import GoSem.ClaimSeven
namespace Go.Proofs.YtocledgjejlolaaDoor
namespace Rows

/-- THE TIED CARD OF 'pigeonrylaw03.ShaSums'. -/
def shaSumsCard : Claim7 := { stood := { row := shaSumsRow, standIns := [], harness := (true, "500205ca2d662caa5d22f7b0d80823b40fce67751dda8aa45f47e266c27d19fe"), looks := false }, kinds := [], alts := [], laidByText := true, laidKinds := [.data], laidTests := true, laidLooks := .later }
def ShaSumsCardSaid : Prop := Claim7.holds Tryd.pinned (.plain (OpenSpec.ofChange shaSumsSpec)) shaSumsCard

/-- THE TIED CARD OF 'pigeonrylaw03.ShaPieces'. -/
def shaPiecesCard : Claim7 := { stood := { row := shaPiecesRow, standIns := [], harness := (true, "500205ca2d662caa5d22f7b0d80823b40fce67751dda8aa45f47e266c27d19fe"), looks := false }, kinds := [], alts := [], laidByText := true, laidKinds := [.data], laidTests := true, laidLooks := .later }
def ShaPiecesCardSaid : Prop := Claim7.holds Tryd.pinned (.plain (OpenSpec.ofChange shaPiecesSpec)) shaPiecesCard

/-- THE TIED CARD OF 'pigeonrylaw03.ShaOwn'. -/
def shaOwnCard : Claim7 := { stood := { row := shaOwnRow, standIns := [], harness := (true, "500205ca2d662caa5d22f7b0d80823b40fce67751dda8aa45f47e266c27d19fe"), looks := false }, kinds := [], alts := [], laidByText := true, laidKinds := [.data], laidTests := true, laidLooks := .later }
def ShaOwnCardSaid : Prop := Claim7.holds Tryd.pinned (.plain (OpenSpec.ofChange shaOwnSpec)) shaOwnCard

/-- THE TIED CARD OF 'pigeonrylaw03.ShaSplit'. -/
def shaSplitCard : Claim7 := { stood := { row := shaSplitRow, standIns := [], harness := (true, "500205ca2d662caa5d22f7b0d80823b40fce67751dda8aa45f47e266c27d19fe"), looks := false }, kinds := [], alts := [], laidByText := true, laidKinds := [.data], laidTests := true, laidLooks := .later }
def ShaSplitCardSaid : Prop := Claim7.holds Tryd.pinned (.plain (OpenSpec.ofChange shaSplitSpec)) shaSplitCard

/-- THE TIED CARD OF 'pigeonrylaw04.HmacExpands'. -/
def hmacExpandsCard : Claim7 := { stood := { row := hmacExpandsRow, standIns := [], harness := (true, "500205ca2d662caa5d22f7b0d80823b40fce67751dda8aa45f47e266c27d19fe"), looks := false }, kinds := [], alts := [], laidByText := true, laidKinds := [.data], laidTests := true, laidLooks := .later }
def HmacExpandsCardSaid : Prop := Claim7.holds Tryd.pinned (.plain (OpenSpec.ofChange hmacExpandsSpec)) hmacExpandsCard

/-- THE TIED CARD OF 'pigeonrylaw04.HmacEqual'. -/
def hmacEqualCard : Claim7 := { stood := { row := hmacEqualRow, standIns := [], harness := (true, "500205ca2d662caa5d22f7b0d80823b40fce67751dda8aa45f47e266c27d19fe"), looks := false }, kinds := [], alts := [], laidByText := true, laidKinds := [.data], laidTests := true, laidLooks := .later }
def HmacEqualCardSaid : Prop := Claim7.holds Tryd.pinned (.plain (OpenSpec.ofChange hmacEqualSpec)) hmacEqualCard

/-- THE TIED CARD OF 'pigeonrylaw04.HmacPrefix'. -/
def hmacPrefixCard : Claim7 := { stood := { row := hmacPrefixRow, standIns := [], harness := (true, "500205ca2d662caa5d22f7b0d80823b40fce67751dda8aa45f47e266c27d19fe"), looks := false }, kinds := [], alts := [], laidByText := true, laidKinds := [.data], laidTests := true, laidLooks := .later }
def HmacPrefixCardSaid : Prop := Claim7.holds Tryd.pinned (.plain (OpenSpec.ofChange hmacPrefixSpec)) hmacPrefixCard

/-- THE TIED CARD OF 'pigeonrylaw04.HmacKeys'. -/
def hmacKeysCard : Claim7 := { stood := { row := hmacKeysRow, standIns := [], harness := (true, "500205ca2d662caa5d22f7b0d80823b40fce67751dda8aa45f47e266c27d19fe"), looks := false }, kinds := [], alts := [], laidByText := true, laidKinds := [.data], laidTests := true, laidLooks := .later }
def HmacKeysCardSaid : Prop := Claim7.holds Tryd.pinned (.plain (OpenSpec.ofChange hmacKeysSpec)) hmacKeysCard

/-- THE TIED CARD OF 'pigeonrylaw04.HmacTags'. -/
def hmacTagsCard : Claim7 := { stood := { row := hmacTagsRow, standIns := [], harness := (true, "500205ca2d662caa5d22f7b0d80823b40fce67751dda8aa45f47e266c27d19fe"), looks := false }, kinds := [], alts := [], laidByText := true, laidKinds := [.data], laidTests := true, laidLooks := .later }
def HmacTagsCardSaid : Prop := Claim7.holds Tryd.pinned (.plain (OpenSpec.ofChange hmacTagsSpec)) hmacTagsCard

/-- THE TIED CARD OF 'pigeonrylaw04.HmacDerives'. -/
def hmacDerivesCard : Claim7 := { stood := { row := hmacDerivesRow, standIns := [], harness := (true, "500205ca2d662caa5d22f7b0d80823b40fce67751dda8aa45f47e266c27d19fe"), looks := false }, kinds := [], alts := [], laidByText := true, laidKinds := [.data], laidTests := true, laidLooks := .later }
def HmacDerivesCardSaid : Prop := Claim7.holds Tryd.pinned (.plain (OpenSpec.ofChange hmacDerivesSpec)) hmacDerivesCard

/-- THE TIED CARD OF 'pigeonrylaw17.ChainSteps'. -/
def chainStepsCard : Claim7 := { stood := { row := chainStepsRow, standIns := [], harness := (true, "500205ca2d662caa5d22f7b0d80823b40fce67751dda8aa45f47e266c27d19fe"), looks := false }, kinds := [], alts := [], laidByText := true, laidKinds := [.data], laidTests := true, laidLooks := .later }
def ChainStepsCardSaid : Prop := Claim7.holds Tryd.pinned (.plain (OpenSpec.ofChange chainStepsSpec)) chainStepsCard

/-- THE TIED CARD OF 'pigeonrylaw17.ChainActs'. -/
def chainActsCard : Claim7 := { stood := { row := chainActsRow, standIns := [], harness := (true, "500205ca2d662caa5d22f7b0d80823b40fce67751dda8aa45f47e266c27d19fe"), looks := false }, kinds := [], alts := [], laidByText := true, laidKinds := [.data], laidTests := true, laidLooks := .later }
def ChainActsCardSaid : Prop := Claim7.holds Tryd.pinned (.plain (OpenSpec.ofChange chainActsSpec)) chainActsCard

/-- THE TIED CARD OF 'pigeonrylaw17.ChainAlike'. -/
def chainAlikeCard : Claim7 := { stood := { row := chainAlikeRow, standIns := [], harness := (true, "500205ca2d662caa5d22f7b0d80823b40fce67751dda8aa45f47e266c27d19fe"), looks := false }, kinds := [], alts := [], laidByText := true, laidKinds := [.data], laidTests := true, laidLooks := .later }
def ChainAlikeCardSaid : Prop := Claim7.holds Tryd.pinned (.plain (OpenSpec.ofChange chainAlikeSpec)) chainAlikeCard

/-- THE TIED CARD OF 'pigeonrylaw17.ChainNobody'. -/
def chainNobodyCard : Claim7 := { stood := { row := chainNobodyRow, standIns := [], harness := (true, "500205ca2d662caa5d22f7b0d80823b40fce67751dda8aa45f47e266c27d19fe"), looks := false }, kinds := [], alts := [], laidByText := true, laidKinds := [.data], laidTests := true, laidLooks := .later }
def ChainNobodyCardSaid : Prop := Claim7.holds Tryd.pinned (.plain (OpenSpec.ofChange chainNobodySpec)) chainNobodyCard

/-- THE TIED CARD OF 'pigeonrylaw17.ChainRoots'. -/
def chainRootsCard : Claim7 := { stood := { row := chainRootsRow, standIns := [], harness := (true, "500205ca2d662caa5d22f7b0d80823b40fce67751dda8aa45f47e266c27d19fe"), looks := false }, kinds := [], alts := [], laidByText := true, laidKinds := [.data], laidTests := true, laidLooks := .later }
def ChainRootsCardSaid : Prop := Claim7.holds Tryd.pinned (.plain (OpenSpec.ofChange chainRootsSpec)) chainRootsCard

/-- THE SECOND FORM's CARD OF 'pigeonrylaw03.ShaSums'. -/
def shaSumsUptoCard : Claim7 := { stood := { row := shaSumsUptoRow, standIns := [], harness := (true, "500205ca2d662caa5d22f7b0d80823b40fce67751dda8aa45f47e266c27d19fe"), looks := false }, kinds := [], alts := [], laidByText := true, laidKinds := [.data], laidTests := true, laidLooks := .later }
def ShaSumsUptoCardSaid : Prop := Claim7.holds Tryd.pinned (.plain (OpenSpec.upto shaSumsSpec)) shaSumsUptoCard

/-- THE SECOND FORM's CARD OF 'pigeonrylaw03.ShaPieces'. -/
def shaPiecesUptoCard : Claim7 := { stood := { row := shaPiecesUptoRow, standIns := [], harness := (true, "500205ca2d662caa5d22f7b0d80823b40fce67751dda8aa45f47e266c27d19fe"), looks := false }, kinds := [], alts := [], laidByText := true, laidKinds := [.data], laidTests := true, laidLooks := .later }
def ShaPiecesUptoCardSaid : Prop := Claim7.holds Tryd.pinned (.plain (OpenSpec.upto shaPiecesSpec)) shaPiecesUptoCard

/-- THE SECOND FORM's CARD OF 'pigeonrylaw03.ShaOwn'. -/
def shaOwnUptoCard : Claim7 := { stood := { row := shaOwnUptoRow, standIns := [], harness := (true, "500205ca2d662caa5d22f7b0d80823b40fce67751dda8aa45f47e266c27d19fe"), looks := false }, kinds := [], alts := [], laidByText := true, laidKinds := [.data], laidTests := true, laidLooks := .later }
def ShaOwnUptoCardSaid : Prop := Claim7.holds Tryd.pinned (.plain (OpenSpec.upto shaOwnSpec)) shaOwnUptoCard

/-- THE SECOND FORM's CARD OF 'pigeonrylaw03.ShaSplit'. -/
def shaSplitUptoCard : Claim7 := { stood := { row := shaSplitUptoRow, standIns := [], harness := (true, "500205ca2d662caa5d22f7b0d80823b40fce67751dda8aa45f47e266c27d19fe"), looks := false }, kinds := [], alts := [], laidByText := true, laidKinds := [.data], laidTests := true, laidLooks := .later }
def ShaSplitUptoCardSaid : Prop := Claim7.holds Tryd.pinned (.plain (OpenSpec.upto shaSplitSpec)) shaSplitUptoCard

/-- THE SECOND FORM's CARD OF 'pigeonrylaw04.HmacExpands'. -/
def hmacExpandsUptoCard : Claim7 := { stood := { row := hmacExpandsUptoRow, standIns := [], harness := (true, "500205ca2d662caa5d22f7b0d80823b40fce67751dda8aa45f47e266c27d19fe"), looks := false }, kinds := [], alts := [], laidByText := true, laidKinds := [.data], laidTests := true, laidLooks := .later }
def HmacExpandsUptoCardSaid : Prop := Claim7.holds Tryd.pinned (.plain (OpenSpec.upto hmacExpandsSpec)) hmacExpandsUptoCard

/-- THE SECOND FORM's CARD OF 'pigeonrylaw04.HmacEqual'. -/
def hmacEqualUptoCard : Claim7 := { stood := { row := hmacEqualUptoRow, standIns := [], harness := (true, "500205ca2d662caa5d22f7b0d80823b40fce67751dda8aa45f47e266c27d19fe"), looks := false }, kinds := [], alts := [], laidByText := true, laidKinds := [.data], laidTests := true, laidLooks := .later }
def HmacEqualUptoCardSaid : Prop := Claim7.holds Tryd.pinned (.plain (OpenSpec.upto hmacEqualSpec)) hmacEqualUptoCard

/-- THE SECOND FORM's CARD OF 'pigeonrylaw04.HmacPrefix'. -/
def hmacPrefixUptoCard : Claim7 := { stood := { row := hmacPrefixUptoRow, standIns := [], harness := (true, "500205ca2d662caa5d22f7b0d80823b40fce67751dda8aa45f47e266c27d19fe"), looks := false }, kinds := [], alts := [], laidByText := true, laidKinds := [.data], laidTests := true, laidLooks := .later }
def HmacPrefixUptoCardSaid : Prop := Claim7.holds Tryd.pinned (.plain (OpenSpec.upto hmacPrefixSpec)) hmacPrefixUptoCard

/-- THE SECOND FORM's CARD OF 'pigeonrylaw04.HmacKeys'. -/
def hmacKeysUptoCard : Claim7 := { stood := { row := hmacKeysUptoRow, standIns := [], harness := (true, "500205ca2d662caa5d22f7b0d80823b40fce67751dda8aa45f47e266c27d19fe"), looks := false }, kinds := [], alts := [], laidByText := true, laidKinds := [.data], laidTests := true, laidLooks := .later }
def HmacKeysUptoCardSaid : Prop := Claim7.holds Tryd.pinned (.plain (OpenSpec.upto hmacKeysSpec)) hmacKeysUptoCard

/-- THE SECOND FORM's CARD OF 'pigeonrylaw04.HmacTags'. -/
def hmacTagsUptoCard : Claim7 := { stood := { row := hmacTagsUptoRow, standIns := [], harness := (true, "500205ca2d662caa5d22f7b0d80823b40fce67751dda8aa45f47e266c27d19fe"), looks := false }, kinds := [], alts := [], laidByText := true, laidKinds := [.data], laidTests := true, laidLooks := .later }
def HmacTagsUptoCardSaid : Prop := Claim7.holds Tryd.pinned (.plain (OpenSpec.upto hmacTagsSpec)) hmacTagsUptoCard

/-- THE SECOND FORM's CARD OF 'pigeonrylaw04.HmacDerives'. -/
def hmacDerivesUptoCard : Claim7 := { stood := { row := hmacDerivesUptoRow, standIns := [], harness := (true, "500205ca2d662caa5d22f7b0d80823b40fce67751dda8aa45f47e266c27d19fe"), looks := false }, kinds := [], alts := [], laidByText := true, laidKinds := [.data], laidTests := true, laidLooks := .later }
def HmacDerivesUptoCardSaid : Prop := Claim7.holds Tryd.pinned (.plain (OpenSpec.upto hmacDerivesSpec)) hmacDerivesUptoCard

/-- THE SECOND FORM's CARD OF 'pigeonrylaw17.ChainSteps'. -/
def chainStepsUptoCard : Claim7 := { stood := { row := chainStepsUptoRow, standIns := [], harness := (true, "500205ca2d662caa5d22f7b0d80823b40fce67751dda8aa45f47e266c27d19fe"), looks := false }, kinds := [], alts := [], laidByText := true, laidKinds := [.data], laidTests := true, laidLooks := .later }
def ChainStepsUptoCardSaid : Prop := Claim7.holds Tryd.pinned (.plain (OpenSpec.upto chainStepsSpec)) chainStepsUptoCard

/-- THE SECOND FORM's CARD OF 'pigeonrylaw17.ChainActs'. -/
def chainActsUptoCard : Claim7 := { stood := { row := chainActsUptoRow, standIns := [], harness := (true, "500205ca2d662caa5d22f7b0d80823b40fce67751dda8aa45f47e266c27d19fe"), looks := false }, kinds := [], alts := [], laidByText := true, laidKinds := [.data], laidTests := true, laidLooks := .later }
def ChainActsUptoCardSaid : Prop := Claim7.holds Tryd.pinned (.plain (OpenSpec.upto chainActsSpec)) chainActsUptoCard

/-- THE SECOND FORM's CARD OF 'pigeonrylaw17.ChainAlike'. -/
def chainAlikeUptoCard : Claim7 := { stood := { row := chainAlikeUptoRow, standIns := [], harness := (true, "500205ca2d662caa5d22f7b0d80823b40fce67751dda8aa45f47e266c27d19fe"), looks := false }, kinds := [], alts := [], laidByText := true, laidKinds := [.data], laidTests := true, laidLooks := .later }
def ChainAlikeUptoCardSaid : Prop := Claim7.holds Tryd.pinned (.plain (OpenSpec.upto chainAlikeSpec)) chainAlikeUptoCard

/-- THE SECOND FORM's CARD OF 'pigeonrylaw17.ChainNobody'. -/
def chainNobodyUptoCard : Claim7 := { stood := { row := chainNobodyUptoRow, standIns := [], harness := (true, "500205ca2d662caa5d22f7b0d80823b40fce67751dda8aa45f47e266c27d19fe"), looks := false }, kinds := [], alts := [], laidByText := true, laidKinds := [.data], laidTests := true, laidLooks := .later }
def ChainNobodyUptoCardSaid : Prop := Claim7.holds Tryd.pinned (.plain (OpenSpec.upto chainNobodySpec)) chainNobodyUptoCard

/-- THE SECOND FORM's CARD OF 'pigeonrylaw17.ChainRoots'. -/
def chainRootsUptoCard : Claim7 := { stood := { row := chainRootsUptoRow, standIns := [], harness := (true, "500205ca2d662caa5d22f7b0d80823b40fce67751dda8aa45f47e266c27d19fe"), looks := false }, kinds := [], alts := [], laidByText := true, laidKinds := [.data], laidTests := true, laidLooks := .later }
def ChainRootsUptoCardSaid : Prop := Claim7.holds Tryd.pinned (.plain (OpenSpec.upto chainRootsSpec)) chainRootsUptoCard
end Rows
end Go.Proofs.YtocledgjejlolaaDoor
