/-
  DERIVED. GIVEN WITH THE SEED: THE CARDS: each row of YtbigmnhjnjeeaaaDoorRows.lean that lists a variable, with what it lists TIED to the program's text (the seventh form; the later family's looks); each row that meets fmt, with fmt's text TOLD by the authors' own Lean function (tested against real Go, not proved from fmt's source: count such statements apart). THE CARD IS WHAT COUNTS. Prove the row's statement (the work); the ties are given (YtbigmnhjnjeeaaaDoorTie.lean); close each card by the builder's one call (the guide's Derived/Test/ToyasCard.lean, 'card_holds'). Laid BY PROGRAM, IN A SANDBOX (cutbox-door.mjs). By AI agents, Wed Nov 11 2026. No macro, syntax, notation, axiom, sorry.
-/
import Derived.Test.YtbigmnhjnjeeaaaDoorRows
import GoSem.ClaimSeven
namespace Go.Proofs.YtbigmnhjnjeeaaaDoor
namespace Rows

/-- THE TIED CARD OF 'pigeonrytop.WholeSealed'. -/
def wholeSealedCard : Claim7 := { stood := { row := wholeSealedRow, standIns := [], harness := (true, "deb019efecaaf310b71d44121a6e70f037a060c54c12cc2781f50d3803c88959"), looks := false }, kinds := [], alts := [], laidByText := true, laidKinds := [.data], laidTests := true, laidLooks := .later }
def WholeSealedCardSaid : Prop := Claim7.holds Tryd.pinned (.plain (OpenSpec.ofChange wholeSealedSpec)) wholeSealedCard

/-- THE TIED CARD OF 'pigeonrylaw08.LionLocks'. -/
def lionLocksCard : Claim7 := { stood := { row := lionLocksRow, standIns := [], harness := (true, "deb019efecaaf310b71d44121a6e70f037a060c54c12cc2781f50d3803c88959"), looks := false }, kinds := [], alts := [], laidByText := true, laidKinds := [.data], laidTests := true, laidLooks := .later }
def LionLocksCardSaid : Prop := Claim7.holds Tryd.pinned (.plain (OpenSpec.ofChange lionLocksSpec)) lionLocksCard

/-- THE TIED CARD OF 'pigeonrylaw08.LionBack'. -/
def lionBackCard : Claim7 := { stood := { row := lionBackRow, standIns := [], harness := (true, "deb019efecaaf310b71d44121a6e70f037a060c54c12cc2781f50d3803c88959"), looks := false }, kinds := [], alts := [], laidByText := true, laidKinds := [.data], laidTests := true, laidLooks := .later }
def LionBackCardSaid : Prop := Claim7.holds Tryd.pinned (.plain (OpenSpec.ofChange lionBackSpec)) lionBackCard

/-- THE TIED CARD OF 'pigeonrylaw08.LionUnlike'. -/
def lionUnlikeCard : Claim7 := { stood := { row := lionUnlikeRow, standIns := [], harness := (true, "deb019efecaaf310b71d44121a6e70f037a060c54c12cc2781f50d3803c88959"), looks := false }, kinds := [], alts := [], laidByText := true, laidKinds := [.data], laidTests := true, laidLooks := .later }
def LionUnlikeCardSaid : Prop := Claim7.holds Tryd.pinned (.plain (OpenSpec.ofChange lionUnlikeSpec)) lionUnlikeCard

/-- THE TIED CARD OF 'pigeonrylaw08.LionOwn'. -/
def lionOwnCard : Claim7 := { stood := { row := lionOwnRow, standIns := [], harness := (true, "deb019efecaaf310b71d44121a6e70f037a060c54c12cc2781f50d3803c88959"), looks := false }, kinds := [], alts := [], laidByText := true, laidKinds := [.data], laidTests := true, laidLooks := .later }
def LionOwnCardSaid : Prop := Claim7.holds Tryd.pinned (.plain (OpenSpec.ofChange lionOwnSpec)) lionOwnCard

/-- THE TIED CARD OF 'pigeonrylaw06.AeadOpens'. -/
def aeadOpensCard : Claim7 := { stood := { row := aeadOpensRow, standIns := [], harness := (true, "deb019efecaaf310b71d44121a6e70f037a060c54c12cc2781f50d3803c88959"), looks := false }, kinds := [], alts := [], laidByText := true, laidKinds := [.data], laidTests := true, laidLooks := .later }
def AeadOpensCardSaid : Prop := Claim7.holds Tryd.pinned (.plain (OpenSpec.ofChange aeadOpensSpec)) aeadOpensCard

/-- THE TIED CARD OF 'pigeonrylaw06.AeadBack'. -/
def aeadBackCard : Claim7 := { stood := { row := aeadBackRow, standIns := [], harness := (true, "deb019efecaaf310b71d44121a6e70f037a060c54c12cc2781f50d3803c88959"), looks := false }, kinds := [], alts := [], laidByText := true, laidKinds := [.data], laidTests := true, laidLooks := .later }
def AeadBackCardSaid : Prop := Claim7.holds Tryd.pinned (.plain (OpenSpec.ofChange aeadBackSpec)) aeadBackCard

/-- THE TIED CARD OF 'pigeonrylaw06.AeadHidden'. -/
def aeadHiddenCard : Claim7 := { stood := { row := aeadHiddenRow, standIns := [], harness := (true, "deb019efecaaf310b71d44121a6e70f037a060c54c12cc2781f50d3803c88959"), looks := false }, kinds := [], alts := [], laidByText := true, laidKinds := [.data], laidTests := true, laidLooks := .later }
def AeadHiddenCardSaid : Prop := Claim7.holds Tryd.pinned (.plain (OpenSpec.ofChange aeadHiddenSpec)) aeadHiddenCard

/-- THE TIED CARD OF 'pigeonrylaw06.AeadSeals'. -/
def aeadSealsCard : Claim7 := { stood := { row := aeadSealsRow, standIns := [], harness := (true, "deb019efecaaf310b71d44121a6e70f037a060c54c12cc2781f50d3803c88959"), looks := false }, kinds := [], alts := [], laidByText := true, laidKinds := [.data], laidTests := true, laidLooks := .later }
def AeadSealsCardSaid : Prop := Claim7.holds Tryd.pinned (.plain (OpenSpec.ofChange aeadSealsSpec)) aeadSealsCard

/-- THE TIED CARD OF 'pigeonrylaw06.AeadJust'. -/
def aeadJustCard : Claim7 := { stood := { row := aeadJustRow, standIns := [], harness := (true, "deb019efecaaf310b71d44121a6e70f037a060c54c12cc2781f50d3803c88959"), looks := false }, kinds := [], alts := [], laidByText := true, laidKinds := [.data], laidTests := true, laidLooks := .later }
def AeadJustCardSaid : Prop := Claim7.holds Tryd.pinned (.plain (OpenSpec.ofChange aeadJustSpec)) aeadJustCard

/-- THE SECOND FORM's CARD OF 'pigeonrytop.WholeSealed'. -/
def wholeSealedUptoCard : Claim7 := { stood := { row := wholeSealedUptoRow, standIns := [], harness := (true, "deb019efecaaf310b71d44121a6e70f037a060c54c12cc2781f50d3803c88959"), looks := false }, kinds := [], alts := [], laidByText := true, laidKinds := [.data], laidTests := true, laidLooks := .later }
def WholeSealedUptoCardSaid : Prop := Claim7.holds Tryd.pinned (.plain (OpenSpec.upto wholeSealedSpec)) wholeSealedUptoCard

/-- THE SECOND FORM's CARD OF 'pigeonrylaw08.LionLocks'. -/
def lionLocksUptoCard : Claim7 := { stood := { row := lionLocksUptoRow, standIns := [], harness := (true, "deb019efecaaf310b71d44121a6e70f037a060c54c12cc2781f50d3803c88959"), looks := false }, kinds := [], alts := [], laidByText := true, laidKinds := [.data], laidTests := true, laidLooks := .later }
def LionLocksUptoCardSaid : Prop := Claim7.holds Tryd.pinned (.plain (OpenSpec.upto lionLocksSpec)) lionLocksUptoCard

/-- THE SECOND FORM's CARD OF 'pigeonrylaw08.LionBack'. -/
def lionBackUptoCard : Claim7 := { stood := { row := lionBackUptoRow, standIns := [], harness := (true, "deb019efecaaf310b71d44121a6e70f037a060c54c12cc2781f50d3803c88959"), looks := false }, kinds := [], alts := [], laidByText := true, laidKinds := [.data], laidTests := true, laidLooks := .later }
def LionBackUptoCardSaid : Prop := Claim7.holds Tryd.pinned (.plain (OpenSpec.upto lionBackSpec)) lionBackUptoCard

/-- THE SECOND FORM's CARD OF 'pigeonrylaw08.LionUnlike'. -/
def lionUnlikeUptoCard : Claim7 := { stood := { row := lionUnlikeUptoRow, standIns := [], harness := (true, "deb019efecaaf310b71d44121a6e70f037a060c54c12cc2781f50d3803c88959"), looks := false }, kinds := [], alts := [], laidByText := true, laidKinds := [.data], laidTests := true, laidLooks := .later }
def LionUnlikeUptoCardSaid : Prop := Claim7.holds Tryd.pinned (.plain (OpenSpec.upto lionUnlikeSpec)) lionUnlikeUptoCard

/-- THE SECOND FORM's CARD OF 'pigeonrylaw08.LionOwn'. -/
def lionOwnUptoCard : Claim7 := { stood := { row := lionOwnUptoRow, standIns := [], harness := (true, "deb019efecaaf310b71d44121a6e70f037a060c54c12cc2781f50d3803c88959"), looks := false }, kinds := [], alts := [], laidByText := true, laidKinds := [.data], laidTests := true, laidLooks := .later }
def LionOwnUptoCardSaid : Prop := Claim7.holds Tryd.pinned (.plain (OpenSpec.upto lionOwnSpec)) lionOwnUptoCard

/-- THE SECOND FORM's CARD OF 'pigeonrylaw06.AeadOpens'. -/
def aeadOpensUptoCard : Claim7 := { stood := { row := aeadOpensUptoRow, standIns := [], harness := (true, "deb019efecaaf310b71d44121a6e70f037a060c54c12cc2781f50d3803c88959"), looks := false }, kinds := [], alts := [], laidByText := true, laidKinds := [.data], laidTests := true, laidLooks := .later }
def AeadOpensUptoCardSaid : Prop := Claim7.holds Tryd.pinned (.plain (OpenSpec.upto aeadOpensSpec)) aeadOpensUptoCard

/-- THE SECOND FORM's CARD OF 'pigeonrylaw06.AeadBack'. -/
def aeadBackUptoCard : Claim7 := { stood := { row := aeadBackUptoRow, standIns := [], harness := (true, "deb019efecaaf310b71d44121a6e70f037a060c54c12cc2781f50d3803c88959"), looks := false }, kinds := [], alts := [], laidByText := true, laidKinds := [.data], laidTests := true, laidLooks := .later }
def AeadBackUptoCardSaid : Prop := Claim7.holds Tryd.pinned (.plain (OpenSpec.upto aeadBackSpec)) aeadBackUptoCard

/-- THE SECOND FORM's CARD OF 'pigeonrylaw06.AeadHidden'. -/
def aeadHiddenUptoCard : Claim7 := { stood := { row := aeadHiddenUptoRow, standIns := [], harness := (true, "deb019efecaaf310b71d44121a6e70f037a060c54c12cc2781f50d3803c88959"), looks := false }, kinds := [], alts := [], laidByText := true, laidKinds := [.data], laidTests := true, laidLooks := .later }
def AeadHiddenUptoCardSaid : Prop := Claim7.holds Tryd.pinned (.plain (OpenSpec.upto aeadHiddenSpec)) aeadHiddenUptoCard

/-- THE SECOND FORM's CARD OF 'pigeonrylaw06.AeadSeals'. -/
def aeadSealsUptoCard : Claim7 := { stood := { row := aeadSealsUptoRow, standIns := [], harness := (true, "deb019efecaaf310b71d44121a6e70f037a060c54c12cc2781f50d3803c88959"), looks := false }, kinds := [], alts := [], laidByText := true, laidKinds := [.data], laidTests := true, laidLooks := .later }
def AeadSealsUptoCardSaid : Prop := Claim7.holds Tryd.pinned (.plain (OpenSpec.upto aeadSealsSpec)) aeadSealsUptoCard

/-- THE SECOND FORM's CARD OF 'pigeonrylaw06.AeadJust'. -/
def aeadJustUptoCard : Claim7 := { stood := { row := aeadJustUptoRow, standIns := [], harness := (true, "deb019efecaaf310b71d44121a6e70f037a060c54c12cc2781f50d3803c88959"), looks := false }, kinds := [], alts := [], laidByText := true, laidKinds := [.data], laidTests := true, laidLooks := .later }
def AeadJustUptoCardSaid : Prop := Claim7.holds Tryd.pinned (.plain (OpenSpec.upto aeadJustSpec)) aeadJustUptoCard
end Rows
end Go.Proofs.YtbigmnhjnjeeaaaDoor
