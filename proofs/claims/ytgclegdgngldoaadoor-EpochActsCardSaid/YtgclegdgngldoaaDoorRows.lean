/-
  NARROWER THAN 'FOR EVERY INPUT', by the rows' own cells (each row's printed sentence says how): SetupStarts: laid · SetupAnswers: laid · SetupShared: laid · EpochActs: laid · EpochFew: laid · EpochFresh: laid · EpochOverlap: laid · EpochNobody: laid.
  DERIVED. THE GIVEN ROWS OF THIS SEAT. 8 by the template 'for every input the law returns true; each argument reads behind the call as it read before'; 0 by the template 'total and deterministic' (their statements: YtgclegdgngldoaaDoorTotals.lean).
  GIVEN WITH THE SEED: the statements are not yours to turn. If you find one false, say at which input.
  Laid BY PROGRAM, IN A SANDBOX (cutbox-rows.mjs): the forced cells as the released guide's own fill.sh prints them over the translation 65b52f8864a47ac6… (all of the seat's roots in one cut). By AI agents, Wed Nov 11 2026. No macro, syntax, notation, axiom, sorry.
-/
import Derived.Test.YtgclegdgngldoaaDoorChecked
import GoSem.Claim
import GoSem.ClaimJoined
import GoSem.ClaimMapViews
import Derived.JoinedTies
import Derived.KernelRfl
namespace Go.Proofs.YtgclegdgngldoaaDoor
/- THE CELL 'sum', in the pinned program and in every row, IS THE sha256 OF THE DUMP (.gsa) THAT YtgclegdgngldoaaDoorProg.lean LOADS. Nothing in Lean hashes anything: it is a label: what it is worth is what the hold of that sum in a sandbox is worth. -/
noncomputable def Tryd.pinned : Pinned := { name := "ytgclegdgngldoaadoor", sum := "65b52f8864a47ac69be5aa3867160407734289ef7f74131d978915aa15474ebc", checked := Tryd.checked }
namespace Rows
def none {H : Type} : Left H := { results := [], args := [] }

/- WHAT THE LISTED PACKAGE-LEVEL VARIABLES READ AS WHEN THE CALL BEGINS. Each datum BY PROGRAM (the guide's laid-datum.mjs) off the statement by which the dump's own 'gosem.cut.vars' lays the variable. In a bare row this is a premise. The card (YtgclegdgngldoaaDoorCards.lean) ties it to the program's text. -/
def laid_pigeonry_sha_k {H : Type} : DataW H := .agg [.lit (.int .u32 1116352408), .lit (.int .u32 1899447441), .lit (.int .u32 3049323471), .lit (.int .u32 3921009573), .lit (.int .u32 961987163), .lit (.int .u32 1508970993), .lit (.int .u32 2453635748), .lit (.int .u32 2870763221), .lit (.int .u32 3624381080), .lit (.int .u32 310598401), .lit (.int .u32 607225278), .lit (.int .u32 1426881987), .lit (.int .u32 1925078388), .lit (.int .u32 2162078206), .lit (.int .u32 2614888103), .lit (.int .u32 3248222580), .lit (.int .u32 3835390401), .lit (.int .u32 4022224774), .lit (.int .u32 264347078), .lit (.int .u32 604807628), .lit (.int .u32 770255983), .lit (.int .u32 1249150122), .lit (.int .u32 1555081692), .lit (.int .u32 1996064986), .lit (.int .u32 2554220882), .lit (.int .u32 2821834349), .lit (.int .u32 2952996808), .lit (.int .u32 3210313671), .lit (.int .u32 3336571891), .lit (.int .u32 3584528711), .lit (.int .u32 113926993), .lit (.int .u32 338241895), .lit (.int .u32 666307205), .lit (.int .u32 773529912), .lit (.int .u32 1294757372), .lit (.int .u32 1396182291), .lit (.int .u32 1695183700), .lit (.int .u32 1986661051), .lit (.int .u32 2177026350), .lit (.int .u32 2456956037), .lit (.int .u32 2730485921), .lit (.int .u32 2820302411), .lit (.int .u32 3259730800), .lit (.int .u32 3345764771), .lit (.int .u32 3516065817), .lit (.int .u32 3600352804), .lit (.int .u32 4094571909), .lit (.int .u32 275423344), .lit (.int .u32 430227734), .lit (.int .u32 506948616), .lit (.int .u32 659060556), .lit (.int .u32 883997877), .lit (.int .u32 958139571), .lit (.int .u32 1322822218), .lit (.int .u32 1537002063), .lit (.int .u32 1747873779), .lit (.int .u32 1955562222), .lit (.int .u32 2024104815), .lit (.int .u32 2227730452), .lit (.int .u32 2361852424), .lit (.int .u32 2428436474), .lit (.int .u32 2756734187), .lit (.int .u32 3204031479), .lit (.int .u32 3329325298)]

/-- 'pigeonrylaw19.SetupStarts': WHATEVER THE INPUT: true; the input reads as it did. -/
def setupStartsSpec : ChangeSpec := { name := "setupStarts", fn := fun _ => fun
  | [d1, d2, d3] => { results := [.lit (.bool true)], args := [d1, d2, d3] }
  | _ => none }
def setupStartsRow : OpenClaim := { program := "ytgclegdgngldoaadoor", sum := "65b52f8864a47ac69be5aa3867160407734289ef7f74131d978915aa15474ebc", func := "pigeonry/pigeonrylaw19.SetupStarts", spec := "setupStarts", inPlace := ["math/bits.Add64", "math/bits.Sub64"], named := ["pigeonry/sha.k"], apart := false, laid := [("pigeonry/sha.k", laid_pigeonry_sha_k)] }
def SetupStartsSaid : Prop := setupStartsRow.holds Tryd.pinned (OpenSpec.ofChange setupStartsSpec)

/-- ITS FALSE NEIGHBOUR: 'it returns false'. Refute it at one input. -/
def setupStartsWrong : ChangeSpec := { name := "setupStarts", fn := fun _ => fun
  | [d1, d2, d3] => { results := [.lit (.bool false)], args := [d1, d2, d3] }
  | _ => none }
def SetupStartsWrongFalsely : Prop := setupStartsRow.holds Tryd.pinned (OpenSpec.ofChange setupStartsWrong)

/-- 'pigeonrylaw19.SetupAnswers': WHATEVER THE INPUT: true; the input reads as it did. -/
def setupAnswersSpec : ChangeSpec := { name := "setupAnswers", fn := fun _ => fun
  | [d1, d2, d3] => { results := [.lit (.bool true)], args := [d1, d2, d3] }
  | _ => none }
def setupAnswersRow : OpenClaim := { program := "ytgclegdgngldoaadoor", sum := "65b52f8864a47ac69be5aa3867160407734289ef7f74131d978915aa15474ebc", func := "pigeonry/pigeonrylaw19.SetupAnswers", spec := "setupAnswers", inPlace := ["math/bits.Add64", "math/bits.Sub64"], named := ["pigeonry/sha.k"], apart := false, laid := [("pigeonry/sha.k", laid_pigeonry_sha_k)] }
def SetupAnswersSaid : Prop := setupAnswersRow.holds Tryd.pinned (OpenSpec.ofChange setupAnswersSpec)

/-- ITS FALSE NEIGHBOUR: 'it returns false'. Refute it at one input. -/
def setupAnswersWrong : ChangeSpec := { name := "setupAnswers", fn := fun _ => fun
  | [d1, d2, d3] => { results := [.lit (.bool false)], args := [d1, d2, d3] }
  | _ => none }
def SetupAnswersWrongFalsely : Prop := setupAnswersRow.holds Tryd.pinned (OpenSpec.ofChange setupAnswersWrong)

/-- 'pigeonrylaw19.SetupShared': WHATEVER THE INPUT: true; the input reads as it did. -/
def setupSharedSpec : ChangeSpec := { name := "setupShared", fn := fun _ => fun
  | [d1, d2, d3] => { results := [.lit (.bool true)], args := [d1, d2, d3] }
  | _ => none }
def setupSharedRow : OpenClaim := { program := "ytgclegdgngldoaadoor", sum := "65b52f8864a47ac69be5aa3867160407734289ef7f74131d978915aa15474ebc", func := "pigeonry/pigeonrylaw19.SetupShared", spec := "setupShared", inPlace := ["math/bits.Add64", "math/bits.Sub64"], named := ["pigeonry/sha.k"], apart := false, laid := [("pigeonry/sha.k", laid_pigeonry_sha_k)] }
def SetupSharedSaid : Prop := setupSharedRow.holds Tryd.pinned (OpenSpec.ofChange setupSharedSpec)

/-- ITS FALSE NEIGHBOUR: 'it returns false'. Refute it at one input. -/
def setupSharedWrong : ChangeSpec := { name := "setupShared", fn := fun _ => fun
  | [d1, d2, d3] => { results := [.lit (.bool false)], args := [d1, d2, d3] }
  | _ => none }
def SetupSharedWrongFalsely : Prop := setupSharedRow.holds Tryd.pinned (OpenSpec.ofChange setupSharedWrong)

/-- 'pigeonrylaw14.EpochActs': WHATEVER THE INPUT: true; the input reads as it did. -/
def epochActsSpec : ChangeSpec := { name := "epochActs", fn := fun _ => fun
  | [d1, d2, d3] => { results := [.lit (.bool true)], args := [d1, d2, d3] }
  | _ => none }
def epochActsRow : OpenClaim := { program := "ytgclegdgngldoaadoor", sum := "65b52f8864a47ac69be5aa3867160407734289ef7f74131d978915aa15474ebc", func := "pigeonry/pigeonrylaw14.EpochActs", spec := "epochActs", inPlace := ["math/bits.Add64", "math/bits.Sub64", "slices.overlaps[pigeonry/epoch.slot]"], unfollowed := true, recurses := true, named := ["pigeonry/sha.k"], apart := false, laid := [("pigeonry/sha.k", laid_pigeonry_sha_k)] }
def EpochActsSaid : Prop := epochActsRow.holds Tryd.pinned (OpenSpec.ofChange epochActsSpec)

/-- ITS FALSE NEIGHBOUR: 'it returns false'. Refute it at one input. -/
def epochActsWrong : ChangeSpec := { name := "epochActs", fn := fun _ => fun
  | [d1, d2, d3] => { results := [.lit (.bool false)], args := [d1, d2, d3] }
  | _ => none }
def EpochActsWrongFalsely : Prop := epochActsRow.holds Tryd.pinned (OpenSpec.ofChange epochActsWrong)

/-- 'pigeonrylaw14.EpochFew': WHATEVER THE INPUT: true; the input reads as it did. -/
def epochFewSpec : ChangeSpec := { name := "epochFew", fn := fun _ => fun
  | [d1, d2, d3] => { results := [.lit (.bool true)], args := [d1, d2, d3] }
  | _ => none }
def epochFewRow : OpenClaim := { program := "ytgclegdgngldoaadoor", sum := "65b52f8864a47ac69be5aa3867160407734289ef7f74131d978915aa15474ebc", func := "pigeonry/pigeonrylaw14.EpochFew", spec := "epochFew", inPlace := ["math/bits.Add64", "math/bits.Sub64", "slices.overlaps[pigeonry/epoch.slot]"], unfollowed := true, recurses := true, named := ["pigeonry/sha.k"], apart := false, laid := [("pigeonry/sha.k", laid_pigeonry_sha_k)] }
def EpochFewSaid : Prop := epochFewRow.holds Tryd.pinned (OpenSpec.ofChange epochFewSpec)

/-- ITS FALSE NEIGHBOUR: 'it returns false'. Refute it at one input. -/
def epochFewWrong : ChangeSpec := { name := "epochFew", fn := fun _ => fun
  | [d1, d2, d3] => { results := [.lit (.bool false)], args := [d1, d2, d3] }
  | _ => none }
def EpochFewWrongFalsely : Prop := epochFewRow.holds Tryd.pinned (OpenSpec.ofChange epochFewWrong)

/-- 'pigeonrylaw14.EpochFresh': WHATEVER THE INPUT: true; the input reads as it did. -/
def epochFreshSpec : ChangeSpec := { name := "epochFresh", fn := fun _ => fun
  | [d1, d2, d3] => { results := [.lit (.bool true)], args := [d1, d2, d3] }
  | _ => none }
def epochFreshRow : OpenClaim := { program := "ytgclegdgngldoaadoor", sum := "65b52f8864a47ac69be5aa3867160407734289ef7f74131d978915aa15474ebc", func := "pigeonry/pigeonrylaw14.EpochFresh", spec := "epochFresh", inPlace := ["math/bits.Add64", "math/bits.Sub64", "slices.overlaps[pigeonry/epoch.slot]"], unfollowed := true, recurses := true, named := ["pigeonry/sha.k"], apart := false, laid := [("pigeonry/sha.k", laid_pigeonry_sha_k)] }
def EpochFreshSaid : Prop := epochFreshRow.holds Tryd.pinned (OpenSpec.ofChange epochFreshSpec)

/-- ITS FALSE NEIGHBOUR: 'it returns false'. Refute it at one input. -/
def epochFreshWrong : ChangeSpec := { name := "epochFresh", fn := fun _ => fun
  | [d1, d2, d3] => { results := [.lit (.bool false)], args := [d1, d2, d3] }
  | _ => none }
def EpochFreshWrongFalsely : Prop := epochFreshRow.holds Tryd.pinned (OpenSpec.ofChange epochFreshWrong)

/-- 'pigeonrylaw14.EpochOverlap': WHATEVER THE INPUT: true; the input reads as it did. -/
def epochOverlapSpec : ChangeSpec := { name := "epochOverlap", fn := fun _ => fun
  | [d1, d2, d3] => { results := [.lit (.bool true)], args := [d1, d2, d3] }
  | _ => none }
def epochOverlapRow : OpenClaim := { program := "ytgclegdgngldoaadoor", sum := "65b52f8864a47ac69be5aa3867160407734289ef7f74131d978915aa15474ebc", func := "pigeonry/pigeonrylaw14.EpochOverlap", spec := "epochOverlap", inPlace := ["math/bits.Add64", "math/bits.Sub64", "slices.overlaps[pigeonry/epoch.slot]"], unfollowed := true, recurses := true, named := ["pigeonry/sha.k"], apart := false, laid := [("pigeonry/sha.k", laid_pigeonry_sha_k)] }
def EpochOverlapSaid : Prop := epochOverlapRow.holds Tryd.pinned (OpenSpec.ofChange epochOverlapSpec)

/-- ITS FALSE NEIGHBOUR: 'it returns false'. Refute it at one input. -/
def epochOverlapWrong : ChangeSpec := { name := "epochOverlap", fn := fun _ => fun
  | [d1, d2, d3] => { results := [.lit (.bool false)], args := [d1, d2, d3] }
  | _ => none }
def EpochOverlapWrongFalsely : Prop := epochOverlapRow.holds Tryd.pinned (OpenSpec.ofChange epochOverlapWrong)

/-- 'pigeonrylaw14.EpochNobody': WHATEVER THE INPUT: true; the input reads as it did. -/
def epochNobodySpec : ChangeSpec := { name := "epochNobody", fn := fun _ => fun
  | [d] => { results := [.lit (.bool true)], args := [d] }
  | _ => none }
def epochNobodyRow : OpenClaim := { program := "ytgclegdgngldoaadoor", sum := "65b52f8864a47ac69be5aa3867160407734289ef7f74131d978915aa15474ebc", func := "pigeonry/pigeonrylaw14.EpochNobody", spec := "epochNobody", inPlace := ["math/bits.Add64", "math/bits.Sub64", "slices.overlaps[pigeonry/epoch.slot]"], unfollowed := true, recurses := true, named := ["pigeonry/sha.k"], apart := false, laid := [("pigeonry/sha.k", laid_pigeonry_sha_k)] }
def EpochNobodySaid : Prop := epochNobodyRow.holds Tryd.pinned (OpenSpec.ofChange epochNobodySpec)

/-- ITS FALSE NEIGHBOUR: 'it returns false'. Refute it at one input. -/
def epochNobodyWrong : ChangeSpec := { name := "epochNobody", fn := fun _ => fun
  | [d] => { results := [.lit (.bool false)], args := [d] }
  | _ => none }
def EpochNobodyWrongFalsely : Prop := epochNobodyRow.holds Tryd.pinned (OpenSpec.ofChange epochNobodyWrong)

/- THE SECOND FORM. 'bulk': how many values and letters a reading holds, each counted each time it is reached (what is shared counts as often as it is met; a slice's spare places count too). A statement '..UptoSaid' is the law's where the arguments, and the package variables that the reading takes, are together of bulk at most 1048576: NARROWER than '..Said'. Prove '..Said' where nothing that the law and all that it calls make is longer than what came in: it says more and counts as full. Else prove '..UptoSaid'. A law counts once. -/
mutual
def uptoBulk {H : Type} : DataW H → Nat
  | .lit (.string bytes) => bytes.length + 1
  | .lit _ => 1
  | .nil => 1
  | .ptr d => uptoBulk d + 1
  | .slice elems spare => uptoBulkAll elems + uptoBulkAll spare + 1
  | .agg parts => uptoBulkAll parts + 1
  | .iface _ d => uptoBulk d + 1
  | .map entries => uptoBulkEntries entries + 1
  | .held _ => 1
def uptoBulkAll {H : Type} : List (DataW H) → Nat
  | [] => 0
  | d :: r => uptoBulk d + uptoBulkAll r
def uptoBulkEntries {H : Type} : List (Lit × DataW H) → Nat
  | [] => 0
  | x :: r => uptoBulkEntry x + uptoBulkEntries r
def uptoBulkEntry {H : Type} : Lit × DataW H → Nat
  | (.string bytes, d) => bytes.length + uptoBulk d + 1
  | (_, d) => uptoBulk d + 1
 end
def uptoSmall : (H : Type) → List (DataW H) → Bool := fun _ ds => decide (uptoBulkAll ds ≤ 1048576)
def OpenSpec.upto (s : _root_.Go.ChangeSpec) : _root_.Go.OpenSpec := { _root_.Go.OpenSpec.ofChange s with cond := some uptoSmall }

/-- 'pigeonrylaw19.SetupStarts', WHERE WHAT IT READS IS OF BULK AT MOST 1048576: true; the input reads as it did. -/
def setupStartsUptoRow : OpenClaim := { program := "ytgclegdgngldoaadoor", sum := "65b52f8864a47ac69be5aa3867160407734289ef7f74131d978915aa15474ebc", func := "pigeonry/pigeonrylaw19.SetupStarts", spec := "setupStarts", inPlace := ["math/bits.Add64", "math/bits.Sub64"], named := ["pigeonry/sha.k"], apart := false, laid := [("pigeonry/sha.k", laid_pigeonry_sha_k)], narrowed := true }
def SetupStartsUptoSaid : Prop := setupStartsUptoRow.holds Tryd.pinned (OpenSpec.upto setupStartsSpec)

/-- 'pigeonrylaw19.SetupAnswers', WHERE WHAT IT READS IS OF BULK AT MOST 1048576: true; the input reads as it did. -/
def setupAnswersUptoRow : OpenClaim := { program := "ytgclegdgngldoaadoor", sum := "65b52f8864a47ac69be5aa3867160407734289ef7f74131d978915aa15474ebc", func := "pigeonry/pigeonrylaw19.SetupAnswers", spec := "setupAnswers", inPlace := ["math/bits.Add64", "math/bits.Sub64"], named := ["pigeonry/sha.k"], apart := false, laid := [("pigeonry/sha.k", laid_pigeonry_sha_k)], narrowed := true }
def SetupAnswersUptoSaid : Prop := setupAnswersUptoRow.holds Tryd.pinned (OpenSpec.upto setupAnswersSpec)

/-- 'pigeonrylaw19.SetupShared', WHERE WHAT IT READS IS OF BULK AT MOST 1048576: true; the input reads as it did. -/
def setupSharedUptoRow : OpenClaim := { program := "ytgclegdgngldoaadoor", sum := "65b52f8864a47ac69be5aa3867160407734289ef7f74131d978915aa15474ebc", func := "pigeonry/pigeonrylaw19.SetupShared", spec := "setupShared", inPlace := ["math/bits.Add64", "math/bits.Sub64"], named := ["pigeonry/sha.k"], apart := false, laid := [("pigeonry/sha.k", laid_pigeonry_sha_k)], narrowed := true }
def SetupSharedUptoSaid : Prop := setupSharedUptoRow.holds Tryd.pinned (OpenSpec.upto setupSharedSpec)

/-- 'pigeonrylaw14.EpochActs', WHERE WHAT IT READS IS OF BULK AT MOST 1048576: true; the input reads as it did. -/
def epochActsUptoRow : OpenClaim := { program := "ytgclegdgngldoaadoor", sum := "65b52f8864a47ac69be5aa3867160407734289ef7f74131d978915aa15474ebc", func := "pigeonry/pigeonrylaw14.EpochActs", spec := "epochActs", inPlace := ["math/bits.Add64", "math/bits.Sub64", "slices.overlaps[pigeonry/epoch.slot]"], unfollowed := true, recurses := true, named := ["pigeonry/sha.k"], apart := false, laid := [("pigeonry/sha.k", laid_pigeonry_sha_k)], narrowed := true }
def EpochActsUptoSaid : Prop := epochActsUptoRow.holds Tryd.pinned (OpenSpec.upto epochActsSpec)

/-- 'pigeonrylaw14.EpochFew', WHERE WHAT IT READS IS OF BULK AT MOST 1048576: true; the input reads as it did. -/
def epochFewUptoRow : OpenClaim := { program := "ytgclegdgngldoaadoor", sum := "65b52f8864a47ac69be5aa3867160407734289ef7f74131d978915aa15474ebc", func := "pigeonry/pigeonrylaw14.EpochFew", spec := "epochFew", inPlace := ["math/bits.Add64", "math/bits.Sub64", "slices.overlaps[pigeonry/epoch.slot]"], unfollowed := true, recurses := true, named := ["pigeonry/sha.k"], apart := false, laid := [("pigeonry/sha.k", laid_pigeonry_sha_k)], narrowed := true }
def EpochFewUptoSaid : Prop := epochFewUptoRow.holds Tryd.pinned (OpenSpec.upto epochFewSpec)

/-- 'pigeonrylaw14.EpochFresh', WHERE WHAT IT READS IS OF BULK AT MOST 1048576: true; the input reads as it did. -/
def epochFreshUptoRow : OpenClaim := { program := "ytgclegdgngldoaadoor", sum := "65b52f8864a47ac69be5aa3867160407734289ef7f74131d978915aa15474ebc", func := "pigeonry/pigeonrylaw14.EpochFresh", spec := "epochFresh", inPlace := ["math/bits.Add64", "math/bits.Sub64", "slices.overlaps[pigeonry/epoch.slot]"], unfollowed := true, recurses := true, named := ["pigeonry/sha.k"], apart := false, laid := [("pigeonry/sha.k", laid_pigeonry_sha_k)], narrowed := true }
def EpochFreshUptoSaid : Prop := epochFreshUptoRow.holds Tryd.pinned (OpenSpec.upto epochFreshSpec)

/-- 'pigeonrylaw14.EpochOverlap', WHERE WHAT IT READS IS OF BULK AT MOST 1048576: true; the input reads as it did. -/
def epochOverlapUptoRow : OpenClaim := { program := "ytgclegdgngldoaadoor", sum := "65b52f8864a47ac69be5aa3867160407734289ef7f74131d978915aa15474ebc", func := "pigeonry/pigeonrylaw14.EpochOverlap", spec := "epochOverlap", inPlace := ["math/bits.Add64", "math/bits.Sub64", "slices.overlaps[pigeonry/epoch.slot]"], unfollowed := true, recurses := true, named := ["pigeonry/sha.k"], apart := false, laid := [("pigeonry/sha.k", laid_pigeonry_sha_k)], narrowed := true }
def EpochOverlapUptoSaid : Prop := epochOverlapUptoRow.holds Tryd.pinned (OpenSpec.upto epochOverlapSpec)

/-- 'pigeonrylaw14.EpochNobody', WHERE WHAT IT READS IS OF BULK AT MOST 1048576: true; the input reads as it did. -/
def epochNobodyUptoRow : OpenClaim := { program := "ytgclegdgngldoaadoor", sum := "65b52f8864a47ac69be5aa3867160407734289ef7f74131d978915aa15474ebc", func := "pigeonry/pigeonrylaw14.EpochNobody", spec := "epochNobody", inPlace := ["math/bits.Add64", "math/bits.Sub64", "slices.overlaps[pigeonry/epoch.slot]"], unfollowed := true, recurses := true, named := ["pigeonry/sha.k"], apart := false, laid := [("pigeonry/sha.k", laid_pigeonry_sha_k)], narrowed := true }
def EpochNobodyUptoSaid : Prop := epochNobodyUptoRow.holds Tryd.pinned (OpenSpec.upto epochNobodySpec)

end Rows
end Go.Proofs.YtgclegdgngldoaaDoor
