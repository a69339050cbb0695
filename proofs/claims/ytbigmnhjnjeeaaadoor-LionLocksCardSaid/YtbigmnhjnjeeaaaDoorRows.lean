/-
  NARROWER THAN 'FOR EVERY INPUT', by the rows' own cells (each row's printed sentence says how): WholeSealed: laid · LionLocks: laid · LionBack: laid · LionUnlike: laid · LionOwn: laid · AeadOpens: laid · AeadBack: laid · AeadHidden: laid · AeadSeals: laid · AeadJust: laid.
  DERIVED. THE GIVEN ROWS OF THIS SEAT. 10 by the template 'for every input the law returns true; each argument reads behind the call as it read before'; 0 by the template 'total and deterministic' (their statements: YtbigmnhjnjeeaaaDoorTotals.lean).
  GIVEN WITH THE SEED: the statements are not yours to turn. If you find one false, say at which input.
  Laid BY PROGRAM, IN A SANDBOX (cutbox-rows.mjs): the forced cells as the released guide's own fill.sh prints them over the translation 6a035e4c458dc2e5… (all of the seat's roots in one cut). By AI agents, Wed Nov 11 2026. No macro, syntax, notation, axiom, sorry.
-/
import Derived.Test.YtbigmnhjnjeeaaaDoorChecked
import GoSem.Claim
import GoSem.ClaimJoined
import GoSem.ClaimMapViews
import Derived.JoinedTies
import Derived.KernelRfl
namespace Go.Proofs.YtbigmnhjnjeeaaaDoor
/- THE CELL 'sum', in the pinned program and in every row, IS THE sha256 OF THE DUMP (.gsa) THAT YtbigmnhjnjeeaaaDoorProg.lean LOADS. Nothing in Lean hashes anything: it is a label: what it is worth is what the hold of that sum in a sandbox is worth. -/
noncomputable def Tryd.pinned : Pinned := { name := "ytbigmnhjnjeeaaadoor", sum := "6a035e4c458dc2e599b2be26e19a7e1eb880f0d9dd7019db7bd1aaf223c56e18", checked := Tryd.checked }
namespace Rows
def none {H : Type} : Left H := { results := [], args := [] }

/- WHAT THE LISTED PACKAGE-LEVEL VARIABLES READ AS WHEN THE CALL BEGINS. Each datum BY PROGRAM (the guide's laid-datum.mjs) off the statement by which the dump's own 'gosem.cut.vars' lays the variable. In a bare row this is a premise. The card (YtbigmnhjnjeeaaaDoorCards.lean) ties it to the program's text. -/
def laid_pigeonry_sha_k {H : Type} : DataW H := .agg [.lit (.int .u32 1116352408), .lit (.int .u32 1899447441), .lit (.int .u32 3049323471), .lit (.int .u32 3921009573), .lit (.int .u32 961987163), .lit (.int .u32 1508970993), .lit (.int .u32 2453635748), .lit (.int .u32 2870763221), .lit (.int .u32 3624381080), .lit (.int .u32 310598401), .lit (.int .u32 607225278), .lit (.int .u32 1426881987), .lit (.int .u32 1925078388), .lit (.int .u32 2162078206), .lit (.int .u32 2614888103), .lit (.int .u32 3248222580), .lit (.int .u32 3835390401), .lit (.int .u32 4022224774), .lit (.int .u32 264347078), .lit (.int .u32 604807628), .lit (.int .u32 770255983), .lit (.int .u32 1249150122), .lit (.int .u32 1555081692), .lit (.int .u32 1996064986), .lit (.int .u32 2554220882), .lit (.int .u32 2821834349), .lit (.int .u32 2952996808), .lit (.int .u32 3210313671), .lit (.int .u32 3336571891), .lit (.int .u32 3584528711), .lit (.int .u32 113926993), .lit (.int .u32 338241895), .lit (.int .u32 666307205), .lit (.int .u32 773529912), .lit (.int .u32 1294757372), .lit (.int .u32 1396182291), .lit (.int .u32 1695183700), .lit (.int .u32 1986661051), .lit (.int .u32 2177026350), .lit (.int .u32 2456956037), .lit (.int .u32 2730485921), .lit (.int .u32 2820302411), .lit (.int .u32 3259730800), .lit (.int .u32 3345764771), .lit (.int .u32 3516065817), .lit (.int .u32 3600352804), .lit (.int .u32 4094571909), .lit (.int .u32 275423344), .lit (.int .u32 430227734), .lit (.int .u32 506948616), .lit (.int .u32 659060556), .lit (.int .u32 883997877), .lit (.int .u32 958139571), .lit (.int .u32 1322822218), .lit (.int .u32 1537002063), .lit (.int .u32 1747873779), .lit (.int .u32 1955562222), .lit (.int .u32 2024104815), .lit (.int .u32 2227730452), .lit (.int .u32 2361852424), .lit (.int .u32 2428436474), .lit (.int .u32 2756734187), .lit (.int .u32 3204031479), .lit (.int .u32 3329325298)]

/-- 'pigeonrytop.WholeSealed': WHATEVER THE INPUT: true; the input reads as it did. -/
def wholeSealedSpec : ChangeSpec := { name := "wholeSealed", fn := fun _ => fun
  | [d1, d2, d3] => { results := [.lit (.bool true)], args := [d1, d2, d3] }
  | _ => none }
def wholeSealedRow : OpenClaim := { program := "ytbigmnhjnjeeaaadoor", sum := "6a035e4c458dc2e599b2be26e19a7e1eb880f0d9dd7019db7bd1aaf223c56e18", func := "pigeonry/pigeonrytop.WholeSealed", spec := "wholeSealed", named := ["pigeonry/sha.k"], apart := false, laid := [("pigeonry/sha.k", laid_pigeonry_sha_k)] }
def WholeSealedSaid : Prop := wholeSealedRow.holds Tryd.pinned (OpenSpec.ofChange wholeSealedSpec)

/-- ITS FALSE NEIGHBOUR: 'it returns false'. Refute it at one input. -/
def wholeSealedWrong : ChangeSpec := { name := "wholeSealed", fn := fun _ => fun
  | [d1, d2, d3] => { results := [.lit (.bool false)], args := [d1, d2, d3] }
  | _ => none }
def WholeSealedWrongFalsely : Prop := wholeSealedRow.holds Tryd.pinned (OpenSpec.ofChange wholeSealedWrong)

/-- 'pigeonrylaw08.LionLocks': WHATEVER THE INPUT: true; the input reads as it did. -/
def lionLocksSpec : ChangeSpec := { name := "lionLocks", fn := fun _ => fun
  | [d1, d2] => { results := [.lit (.bool true)], args := [d1, d2] }
  | _ => none }
def lionLocksRow : OpenClaim := { program := "ytbigmnhjnjeeaaadoor", sum := "6a035e4c458dc2e599b2be26e19a7e1eb880f0d9dd7019db7bd1aaf223c56e18", func := "pigeonry/pigeonrylaw08.LionLocks", spec := "lionLocks", unfollowed := true, recurses := true, named := ["pigeonry/sha.k"], apart := false, laid := [("pigeonry/sha.k", laid_pigeonry_sha_k)] }
def LionLocksSaid : Prop := lionLocksRow.holds Tryd.pinned (OpenSpec.ofChange lionLocksSpec)

/-- ITS FALSE NEIGHBOUR: 'it returns false'. Refute it at one input. -/
def lionLocksWrong : ChangeSpec := { name := "lionLocks", fn := fun _ => fun
  | [d1, d2] => { results := [.lit (.bool false)], args := [d1, d2] }
  | _ => none }
def LionLocksWrongFalsely : Prop := lionLocksRow.holds Tryd.pinned (OpenSpec.ofChange lionLocksWrong)

/-- 'pigeonrylaw08.LionBack': WHATEVER THE INPUT: true; the input reads as it did. -/
def lionBackSpec : ChangeSpec := { name := "lionBack", fn := fun _ => fun
  | [d1, d2] => { results := [.lit (.bool true)], args := [d1, d2] }
  | _ => none }
def lionBackRow : OpenClaim := { program := "ytbigmnhjnjeeaaadoor", sum := "6a035e4c458dc2e599b2be26e19a7e1eb880f0d9dd7019db7bd1aaf223c56e18", func := "pigeonry/pigeonrylaw08.LionBack", spec := "lionBack", unfollowed := true, recurses := true, named := ["pigeonry/sha.k"], apart := false, laid := [("pigeonry/sha.k", laid_pigeonry_sha_k)] }
def LionBackSaid : Prop := lionBackRow.holds Tryd.pinned (OpenSpec.ofChange lionBackSpec)

/-- ITS FALSE NEIGHBOUR: 'it returns false'. Refute it at one input. -/
def lionBackWrong : ChangeSpec := { name := "lionBack", fn := fun _ => fun
  | [d1, d2] => { results := [.lit (.bool false)], args := [d1, d2] }
  | _ => none }
def LionBackWrongFalsely : Prop := lionBackRow.holds Tryd.pinned (OpenSpec.ofChange lionBackWrong)

/-- 'pigeonrylaw08.LionUnlike': WHATEVER THE INPUT: true; the input reads as it did. -/
def lionUnlikeSpec : ChangeSpec := { name := "lionUnlike", fn := fun _ => fun
  | [d1, d2, d3] => { results := [.lit (.bool true)], args := [d1, d2, d3] }
  | _ => none }
def lionUnlikeRow : OpenClaim := { program := "ytbigmnhjnjeeaaadoor", sum := "6a035e4c458dc2e599b2be26e19a7e1eb880f0d9dd7019db7bd1aaf223c56e18", func := "pigeonry/pigeonrylaw08.LionUnlike", spec := "lionUnlike", unfollowed := true, recurses := true, named := ["pigeonry/sha.k"], apart := false, laid := [("pigeonry/sha.k", laid_pigeonry_sha_k)] }
def LionUnlikeSaid : Prop := lionUnlikeRow.holds Tryd.pinned (OpenSpec.ofChange lionUnlikeSpec)

/-- ITS FALSE NEIGHBOUR: 'it returns false'. Refute it at one input. -/
def lionUnlikeWrong : ChangeSpec := { name := "lionUnlike", fn := fun _ => fun
  | [d1, d2, d3] => { results := [.lit (.bool false)], args := [d1, d2, d3] }
  | _ => none }
def LionUnlikeWrongFalsely : Prop := lionUnlikeRow.holds Tryd.pinned (OpenSpec.ofChange lionUnlikeWrong)

/-- 'pigeonrylaw08.LionOwn': WHATEVER THE INPUT: true; the input reads as it did. -/
def lionOwnSpec : ChangeSpec := { name := "lionOwn", fn := fun _ => fun
  | [d1, d2] => { results := [.lit (.bool true)], args := [d1, d2] }
  | _ => none }
def lionOwnRow : OpenClaim := { program := "ytbigmnhjnjeeaaadoor", sum := "6a035e4c458dc2e599b2be26e19a7e1eb880f0d9dd7019db7bd1aaf223c56e18", func := "pigeonry/pigeonrylaw08.LionOwn", spec := "lionOwn", unfollowed := true, recurses := true, named := ["pigeonry/sha.k"], apart := false, laid := [("pigeonry/sha.k", laid_pigeonry_sha_k)] }
def LionOwnSaid : Prop := lionOwnRow.holds Tryd.pinned (OpenSpec.ofChange lionOwnSpec)

/-- ITS FALSE NEIGHBOUR: 'it returns false'. Refute it at one input. -/
def lionOwnWrong : ChangeSpec := { name := "lionOwn", fn := fun _ => fun
  | [d1, d2] => { results := [.lit (.bool false)], args := [d1, d2] }
  | _ => none }
def LionOwnWrongFalsely : Prop := lionOwnRow.holds Tryd.pinned (OpenSpec.ofChange lionOwnWrong)

/-- 'pigeonrylaw06.AeadOpens': WHATEVER THE INPUT: true; the input reads as it did. -/
def aeadOpensSpec : ChangeSpec := { name := "aeadOpens", fn := fun _ => fun
  | [d1, d2, d3] => { results := [.lit (.bool true)], args := [d1, d2, d3] }
  | _ => none }
def aeadOpensRow : OpenClaim := { program := "ytbigmnhjnjeeaaadoor", sum := "6a035e4c458dc2e599b2be26e19a7e1eb880f0d9dd7019db7bd1aaf223c56e18", func := "pigeonry/pigeonrylaw06.AeadOpens", spec := "aeadOpens", named := ["pigeonry/sha.k"], apart := false, laid := [("pigeonry/sha.k", laid_pigeonry_sha_k)] }
def AeadOpensSaid : Prop := aeadOpensRow.holds Tryd.pinned (OpenSpec.ofChange aeadOpensSpec)

/-- ITS FALSE NEIGHBOUR: 'it returns false'. Refute it at one input. -/
def aeadOpensWrong : ChangeSpec := { name := "aeadOpens", fn := fun _ => fun
  | [d1, d2, d3] => { results := [.lit (.bool false)], args := [d1, d2, d3] }
  | _ => none }
def AeadOpensWrongFalsely : Prop := aeadOpensRow.holds Tryd.pinned (OpenSpec.ofChange aeadOpensWrong)

/-- 'pigeonrylaw06.AeadBack': WHATEVER THE INPUT: true; the input reads as it did. -/
def aeadBackSpec : ChangeSpec := { name := "aeadBack", fn := fun _ => fun
  | [d1, d2, d3] => { results := [.lit (.bool true)], args := [d1, d2, d3] }
  | _ => none }
def aeadBackRow : OpenClaim := { program := "ytbigmnhjnjeeaaadoor", sum := "6a035e4c458dc2e599b2be26e19a7e1eb880f0d9dd7019db7bd1aaf223c56e18", func := "pigeonry/pigeonrylaw06.AeadBack", spec := "aeadBack", named := ["pigeonry/sha.k"], apart := false, laid := [("pigeonry/sha.k", laid_pigeonry_sha_k)] }
def AeadBackSaid : Prop := aeadBackRow.holds Tryd.pinned (OpenSpec.ofChange aeadBackSpec)

/-- ITS FALSE NEIGHBOUR: 'it returns false'. Refute it at one input. -/
def aeadBackWrong : ChangeSpec := { name := "aeadBack", fn := fun _ => fun
  | [d1, d2, d3] => { results := [.lit (.bool false)], args := [d1, d2, d3] }
  | _ => none }
def AeadBackWrongFalsely : Prop := aeadBackRow.holds Tryd.pinned (OpenSpec.ofChange aeadBackWrong)

/-- 'pigeonrylaw06.AeadHidden': WHATEVER THE INPUT: true; the input reads as it did. -/
def aeadHiddenSpec : ChangeSpec := { name := "aeadHidden", fn := fun _ => fun
  | [d1, d2, d3] => { results := [.lit (.bool true)], args := [d1, d2, d3] }
  | _ => none }
def aeadHiddenRow : OpenClaim := { program := "ytbigmnhjnjeeaaadoor", sum := "6a035e4c458dc2e599b2be26e19a7e1eb880f0d9dd7019db7bd1aaf223c56e18", func := "pigeonry/pigeonrylaw06.AeadHidden", spec := "aeadHidden", named := ["pigeonry/sha.k"], apart := false, laid := [("pigeonry/sha.k", laid_pigeonry_sha_k)] }
def AeadHiddenSaid : Prop := aeadHiddenRow.holds Tryd.pinned (OpenSpec.ofChange aeadHiddenSpec)

/-- ITS FALSE NEIGHBOUR: 'it returns false'. Refute it at one input. -/
def aeadHiddenWrong : ChangeSpec := { name := "aeadHidden", fn := fun _ => fun
  | [d1, d2, d3] => { results := [.lit (.bool false)], args := [d1, d2, d3] }
  | _ => none }
def AeadHiddenWrongFalsely : Prop := aeadHiddenRow.holds Tryd.pinned (OpenSpec.ofChange aeadHiddenWrong)

/-- 'pigeonrylaw06.AeadSeals': WHATEVER THE INPUT: true; the input reads as it did. -/
def aeadSealsSpec : ChangeSpec := { name := "aeadSeals", fn := fun _ => fun
  | [d1, d2, d3] => { results := [.lit (.bool true)], args := [d1, d2, d3] }
  | _ => none }
def aeadSealsRow : OpenClaim := { program := "ytbigmnhjnjeeaaadoor", sum := "6a035e4c458dc2e599b2be26e19a7e1eb880f0d9dd7019db7bd1aaf223c56e18", func := "pigeonry/pigeonrylaw06.AeadSeals", spec := "aeadSeals", named := ["pigeonry/sha.k"], apart := false, laid := [("pigeonry/sha.k", laid_pigeonry_sha_k)] }
def AeadSealsSaid : Prop := aeadSealsRow.holds Tryd.pinned (OpenSpec.ofChange aeadSealsSpec)

/-- ITS FALSE NEIGHBOUR: 'it returns false'. Refute it at one input. -/
def aeadSealsWrong : ChangeSpec := { name := "aeadSeals", fn := fun _ => fun
  | [d1, d2, d3] => { results := [.lit (.bool false)], args := [d1, d2, d3] }
  | _ => none }
def AeadSealsWrongFalsely : Prop := aeadSealsRow.holds Tryd.pinned (OpenSpec.ofChange aeadSealsWrong)

/-- 'pigeonrylaw06.AeadJust': WHATEVER THE INPUT: true; the input reads as it did. -/
def aeadJustSpec : ChangeSpec := { name := "aeadJust", fn := fun _ => fun
  | [d1, d2, d3] => { results := [.lit (.bool true)], args := [d1, d2, d3] }
  | _ => none }
def aeadJustRow : OpenClaim := { program := "ytbigmnhjnjeeaaadoor", sum := "6a035e4c458dc2e599b2be26e19a7e1eb880f0d9dd7019db7bd1aaf223c56e18", func := "pigeonry/pigeonrylaw06.AeadJust", spec := "aeadJust", named := ["pigeonry/sha.k"], apart := false, laid := [("pigeonry/sha.k", laid_pigeonry_sha_k)] }
def AeadJustSaid : Prop := aeadJustRow.holds Tryd.pinned (OpenSpec.ofChange aeadJustSpec)

/-- ITS FALSE NEIGHBOUR: 'it returns false'. Refute it at one input. -/
def aeadJustWrong : ChangeSpec := { name := "aeadJust", fn := fun _ => fun
  | [d1, d2, d3] => { results := [.lit (.bool false)], args := [d1, d2, d3] }
  | _ => none }
def AeadJustWrongFalsely : Prop := aeadJustRow.holds Tryd.pinned (OpenSpec.ofChange aeadJustWrong)

/- THE SECOND FORM. 'bulk': how many values and letters a reading holds, each counted each time it is reached (what is shared counts as often as it is met; a slice's spare places count too). A statement '..UptoSaid' is the law's where the arguments, and the package variables that the reading takes, are together of bulk at most 1048576: NARROWER than '..Said'. Prove '..Said' where nothing that the law and all that it calls make is longer than what came in: it says more and counts as full. Else prove '..UptoSaid'. A law counts once. -/
mutual
def uptoBulk {H : Type} : DataW H → Nat
  | .lit (.string bytes) => bytes.length + 1
  | .lit _ => 1
  | .nil => 1
  | .ptr d => uptoBulk d + 1
  | .slice elems spare => uptoBulkAll elems + uptoBulkAll spare + 1
  | .agg parts => uptoBulkAll parts + 1
  | .iface _ d => uptoBulk d + 1
  | .map entries => uptoBulkEntries entries + 1
  | .held _ => 1
def uptoBulkAll {H : Type} : List (DataW H) → Nat
  | [] => 0
  | d :: r => uptoBulk d + uptoBulkAll r
def uptoBulkEntries {H : Type} : List (Lit × DataW H) → Nat
  | [] => 0
  | x :: r => uptoBulkEntry x + uptoBulkEntries r
def uptoBulkEntry {H : Type} : Lit × DataW H → Nat
  | (.string bytes, d) => bytes.length + uptoBulk d + 1
  | (_, d) => uptoBulk d + 1
 end
def uptoSmall : (H : Type) → List (DataW H) → Bool := fun _ ds => decide (uptoBulkAll ds ≤ 1048576)
def OpenSpec.upto (s : _root_.Go.ChangeSpec) : _root_.Go.OpenSpec := { _root_.Go.OpenSpec.ofChange s with cond := some uptoSmall }

/-- 'pigeonrytop.WholeSealed', WHERE WHAT IT READS IS OF BULK AT MOST 1048576: true; the input reads as it did. -/
def wholeSealedUptoRow : OpenClaim := { program := "ytbigmnhjnjeeaaadoor", sum := "6a035e4c458dc2e599b2be26e19a7e1eb880f0d9dd7019db7bd1aaf223c56e18", func := "pigeonry/pigeonrytop.WholeSealed", spec := "wholeSealed", named := ["pigeonry/sha.k"], apart := false, laid := [("pigeonry/sha.k", laid_pigeonry_sha_k)], narrowed := true }
def WholeSealedUptoSaid : Prop := wholeSealedUptoRow.holds Tryd.pinned (OpenSpec.upto wholeSealedSpec)

/-- 'pigeonrylaw08.LionLocks', WHERE WHAT IT READS IS OF BULK AT MOST 1048576: true; the input reads as it did. -/
def lionLocksUptoRow : OpenClaim := { program := "ytbigmnhjnjeeaaadoor", sum := "6a035e4c458dc2e599b2be26e19a7e1eb880f0d9dd7019db7bd1aaf223c56e18", func := "pigeonry/pigeonrylaw08.LionLocks", spec := "lionLocks", unfollowed := true, recurses := true, named := ["pigeonry/sha.k"], apart := false, laid := [("pigeonry/sha.k", laid_pigeonry_sha_k)], narrowed := true }
def LionLocksUptoSaid : Prop := lionLocksUptoRow.holds Tryd.pinned (OpenSpec.upto lionLocksSpec)

/-- 'pigeonrylaw08.LionBack', WHERE WHAT IT READS IS OF BULK AT MOST 1048576: true; the input reads as it did. -/
def lionBackUptoRow : OpenClaim := { program := "ytbigmnhjnjeeaaadoor", sum := "6a035e4c458dc2e599b2be26e19a7e1eb880f0d9dd7019db7bd1aaf223c56e18", func := "pigeonry/pigeonrylaw08.LionBack", spec := "lionBack", unfollowed := true, recurses := true, named := ["pigeonry/sha.k"], apart := false, laid := [("pigeonry/sha.k", laid_pigeonry_sha_k)], narrowed := true }
def LionBackUptoSaid : Prop := lionBackUptoRow.holds Tryd.pinned (OpenSpec.upto lionBackSpec)

/-- 'pigeonrylaw08.LionUnlike', WHERE WHAT IT READS IS OF BULK AT MOST 1048576: true; the input reads as it did. -/
def lionUnlikeUptoRow : OpenClaim := { program := "ytbigmnhjnjeeaaadoor", sum := "6a035e4c458dc2e599b2be26e19a7e1eb880f0d9dd7019db7bd1aaf223c56e18", func := "pigeonry/pigeonrylaw08.LionUnlike", spec := "lionUnlike", unfollowed := true, recurses := true, named := ["pigeonry/sha.k"], apart := false, laid := [("pigeonry/sha.k", laid_pigeonry_sha_k)], narrowed := true }
def LionUnlikeUptoSaid : Prop := lionUnlikeUptoRow.holds Tryd.pinned (OpenSpec.upto lionUnlikeSpec)

/-- 'pigeonrylaw08.LionOwn', WHERE WHAT IT READS IS OF BULK AT MOST 1048576: true; the input reads as it did. -/
def lionOwnUptoRow : OpenClaim := { program := "ytbigmnhjnjeeaaadoor", sum := "6a035e4c458dc2e599b2be26e19a7e1eb880f0d9dd7019db7bd1aaf223c56e18", func := "pigeonry/pigeonrylaw08.LionOwn", spec := "lionOwn", unfollowed := true, recurses := true, named := ["pigeonry/sha.k"], apart := false, laid := [("pigeonry/sha.k", laid_pigeonry_sha_k)], narrowed := true }
def LionOwnUptoSaid : Prop := lionOwnUptoRow.holds Tryd.pinned (OpenSpec.upto lionOwnSpec)

/-- 'pigeonrylaw06.AeadOpens', WHERE WHAT IT READS IS OF BULK AT MOST 1048576: true; the input reads as it did. -/
def aeadOpensUptoRow : OpenClaim := { program := "ytbigmnhjnjeeaaadoor", sum := "6a035e4c458dc2e599b2be26e19a7e1eb880f0d9dd7019db7bd1aaf223c56e18", func := "pigeonry/pigeonrylaw06.AeadOpens", spec := "aeadOpens", named := ["pigeonry/sha.k"], apart := false, laid := [("pigeonry/sha.k", laid_pigeonry_sha_k)], narrowed := true }
def AeadOpensUptoSaid : Prop := aeadOpensUptoRow.holds Tryd.pinned (OpenSpec.upto aeadOpensSpec)

/-- 'pigeonrylaw06.AeadBack', WHERE WHAT IT READS IS OF BULK AT MOST 1048576: true; the input reads as it did. -/
def aeadBackUptoRow : OpenClaim := { program := "ytbigmnhjnjeeaaadoor", sum := "6a035e4c458dc2e599b2be26e19a7e1eb880f0d9dd7019db7bd1aaf223c56e18", func := "pigeonry/pigeonrylaw06.AeadBack", spec := "aeadBack", named := ["pigeonry/sha.k"], apart := false, laid := [("pigeonry/sha.k", laid_pigeonry_sha_k)], narrowed := true }
def AeadBackUptoSaid : Prop := aeadBackUptoRow.holds Tryd.pinned (OpenSpec.upto aeadBackSpec)

/-- 'pigeonrylaw06.AeadHidden', WHERE WHAT IT READS IS OF BULK AT MOST 1048576: true; the input reads as it did. -/
def aeadHiddenUptoRow : OpenClaim := { program := "ytbigmnhjnjeeaaadoor", sum := "6a035e4c458dc2e599b2be26e19a7e1eb880f0d9dd7019db7bd1aaf223c56e18", func := "pigeonry/pigeonrylaw06.AeadHidden", spec := "aeadHidden", named := ["pigeonry/sha.k"], apart := false, laid := [("pigeonry/sha.k", laid_pigeonry_sha_k)], narrowed := true }
def AeadHiddenUptoSaid : Prop := aeadHiddenUptoRow.holds Tryd.pinned (OpenSpec.upto aeadHiddenSpec)

/-- 'pigeonrylaw06.AeadSeals', WHERE WHAT IT READS IS OF BULK AT MOST 1048576: true; the input reads as it did. -/
def aeadSealsUptoRow : OpenClaim := { program := "ytbigmnhjnjeeaaadoor", sum := "6a035e4c458dc2e599b2be26e19a7e1eb880f0d9dd7019db7bd1aaf223c56e18", func := "pigeonry/pigeonrylaw06.AeadSeals", spec := "aeadSeals", named := ["pigeonry/sha.k"], apart := false, laid := [("pigeonry/sha.k", laid_pigeonry_sha_k)], narrowed := true }
def AeadSealsUptoSaid : Prop := aeadSealsUptoRow.holds Tryd.pinned (OpenSpec.upto aeadSealsSpec)

/-- 'pigeonrylaw06.AeadJust', WHERE WHAT IT READS IS OF BULK AT MOST 1048576: true; the input reads as it did. -/
def aeadJustUptoRow : OpenClaim := { program := "ytbigmnhjnjeeaaadoor", sum := "6a035e4c458dc2e599b2be26e19a7e1eb880f0d9dd7019db7bd1aaf223c56e18", func := "pigeonry/pigeonrylaw06.AeadJust", spec := "aeadJust", named := ["pigeonry/sha.k"], apart := false, laid := [("pigeonry/sha.k", laid_pigeonry_sha_k)], narrowed := true }
def AeadJustUptoSaid : Prop := aeadJustUptoRow.holds Tryd.pinned (OpenSpec.upto aeadJustSpec)

end Rows
end Go.Proofs.YtbigmnhjnjeeaaaDoor
