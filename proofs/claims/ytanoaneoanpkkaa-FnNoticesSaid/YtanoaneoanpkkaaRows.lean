/-
  No cell of these rows narrows 'for every input' (looked for: loops, veiled, ifaces, maps, wideKeys, modest, calm, conditions, laid).
  DERIVED. THE GIVEN ROWS OF THIS SEAT. 12 by the template 'for every input the law returns true; each argument reads behind the call as it read before'; 0 by the template 'total and deterministic' (their statements: YtanoaneoanpkkaaTotals.lean).
  GIVEN WITH THE SEED: the statements are not yours to turn. If you find one false, say at which input.
  Laid BY PROGRAM, IN A SANDBOX (cutbox-rows.mjs): the forced cells as the released guide's own fill.sh prints them over the translation d64393bdbcbe9e3e… (all of the seat's roots in one cut). By AI agents, Wed Nov 11 2026. No macro, syntax, notation, axiom, sorry.
-/
import Derived.Test.YtanoaneoanpkkaaChecked
import GoSem.Claim
import GoSem.ClaimJoined
import GoSem.ClaimMapViews
import Derived.JoinedTies
import Derived.KernelRfl
namespace Go.Proofs.Ytanoaneoanpkkaa
/- THE CELL 'sum', in the pinned program and in every row, IS THE sha256 OF THE DUMP (.gsa) THAT YtanoaneoanpkkaaProg.lean LOADS. Nothing in Lean hashes anything: it is a label: what it is worth is what the hold of that sum in a sandbox is worth. -/
noncomputable def Try.pinned : Pinned := { name := "ytanoaneoanpkkaa", sum := "d64393bdbcbe9e3eada58766d8cd7fd743467ddcf40f832af9b7fc79ed67ab7e", checked := Try.checked }
namespace Rows
def none {H : Type} : Left H := { results := [], args := [] }

/-- 'laws.FnNarrowing': WHATEVER THE INPUT: true; the input reads as it did. -/
def fnNarrowingSpec : ChangeSpec := { name := "fnNarrowing", fn := fun _ => fun
  | [d] => { results := [.lit (.bool true)], args := [d] }
  | _ => none }
def fnNarrowingRow : OpenClaim := { program := "ytanoaneoanpkkaa", sum := "d64393bdbcbe9e3eada58766d8cd7fd743467ddcf40f832af9b7fc79ed67ab7e", func := "loop.example/g00581/laws.FnNarrowing", spec := "fnNarrowing", apart := false }
def FnNarrowingSaid : Prop := fnNarrowingRow.holds Try.pinned (OpenSpec.ofChange fnNarrowingSpec)

/-- ITS FALSE NEIGHBOUR: 'it returns false'. Refute it at one input. -/
def fnNarrowingWrong : ChangeSpec := { name := "fnNarrowing", fn := fun _ => fun
  | [d] => { results := [.lit (.bool false)], args := [d] }
  | _ => none }
def FnNarrowingWrongFalsely : Prop := fnNarrowingRow.holds Try.pinned (OpenSpec.ofChange fnNarrowingWrong)

/-- 'laws.FnExactIsSplit': WHATEVER THE INPUT: true; the input reads as it did. -/
def fnExactIsSplitSpec : ChangeSpec := { name := "fnExactIsSplit", fn := fun _ => fun
  | [d1, d2] => { results := [.lit (.bool true)], args := [d1, d2] }
  | _ => none }
def fnExactIsSplitRow : OpenClaim := { program := "ytanoaneoanpkkaa", sum := "d64393bdbcbe9e3eada58766d8cd7fd743467ddcf40f832af9b7fc79ed67ab7e", func := "loop.example/g00581/laws.FnExactIsSplit", spec := "fnExactIsSplit", apart := false }
def FnExactIsSplitSaid : Prop := fnExactIsSplitRow.holds Try.pinned (OpenSpec.ofChange fnExactIsSplitSpec)

/-- ITS FALSE NEIGHBOUR: 'it returns false'. Refute it at one input. -/
def fnExactIsSplitWrong : ChangeSpec := { name := "fnExactIsSplit", fn := fun _ => fun
  | [d1, d2] => { results := [.lit (.bool false)], args := [d1, d2] }
  | _ => none }
def FnExactIsSplitWrongFalsely : Prop := fnExactIsSplitRow.holds Try.pinned (OpenSpec.ofChange fnExactIsSplitWrong)

/-- 'laws.FnExactIsGrant': WHATEVER THE INPUT: true; the input reads as it did. -/
def fnExactIsGrantSpec : ChangeSpec := { name := "fnExactIsGrant", fn := fun _ => fun
  | [d] => { results := [.lit (.bool true)], args := [d] }
  | _ => none }
def fnExactIsGrantRow : OpenClaim := { program := "ytanoaneoanpkkaa", sum := "d64393bdbcbe9e3eada58766d8cd7fd743467ddcf40f832af9b7fc79ed67ab7e", func := "loop.example/g00581/laws.FnExactIsGrant", spec := "fnExactIsGrant", apart := false }
def FnExactIsGrantSaid : Prop := fnExactIsGrantRow.holds Try.pinned (OpenSpec.ofChange fnExactIsGrantSpec)

/-- ITS FALSE NEIGHBOUR: 'it returns false'. Refute it at one input. -/
def fnExactIsGrantWrong : ChangeSpec := { name := "fnExactIsGrant", fn := fun _ => fun
  | [d] => { results := [.lit (.bool false)], args := [d] }
  | _ => none }
def FnExactIsGrantWrongFalsely : Prop := fnExactIsGrantRow.holds Try.pinned (OpenSpec.ofChange fnExactIsGrantWrong)

/-- 'laws.FnExactKeysOf': WHATEVER THE INPUT: true; the input reads as it did. -/
def fnExactKeysOfSpec : ChangeSpec := { name := "fnExactKeysOf", fn := fun _ => fun
  | [d] => { results := [.lit (.bool true)], args := [d] }
  | _ => none }
def fnExactKeysOfRow : OpenClaim := { program := "ytanoaneoanpkkaa", sum := "d64393bdbcbe9e3eada58766d8cd7fd743467ddcf40f832af9b7fc79ed67ab7e", func := "loop.example/g00581/laws.FnExactKeysOf", spec := "fnExactKeysOf", apart := false }
def FnExactKeysOfSaid : Prop := fnExactKeysOfRow.holds Try.pinned (OpenSpec.ofChange fnExactKeysOfSpec)

/-- ITS FALSE NEIGHBOUR: 'it returns false'. Refute it at one input. -/
def fnExactKeysOfWrong : ChangeSpec := { name := "fnExactKeysOf", fn := fun _ => fun
  | [d] => { results := [.lit (.bool false)], args := [d] }
  | _ => none }
def FnExactKeysOfWrongFalsely : Prop := fnExactKeysOfRow.holds Try.pinned (OpenSpec.ofChange fnExactKeysOfWrong)

/-- 'laws.FnExactReadNotices': WHATEVER THE INPUT: true; the input reads as it did. -/
def fnExactReadNoticesSpec : ChangeSpec := { name := "fnExactReadNotices", fn := fun _ => fun
  | [d] => { results := [.lit (.bool true)], args := [d] }
  | _ => none }
def fnExactReadNoticesRow : OpenClaim := { program := "ytanoaneoanpkkaa", sum := "d64393bdbcbe9e3eada58766d8cd7fd743467ddcf40f832af9b7fc79ed67ab7e", func := "loop.example/g00581/laws.FnExactReadNotices", spec := "fnExactReadNotices", apart := false }
def FnExactReadNoticesSaid : Prop := fnExactReadNoticesRow.holds Try.pinned (OpenSpec.ofChange fnExactReadNoticesSpec)

/-- ITS FALSE NEIGHBOUR: 'it returns false'. Refute it at one input. -/
def fnExactReadNoticesWrong : ChangeSpec := { name := "fnExactReadNotices", fn := fun _ => fun
  | [d] => { results := [.lit (.bool false)], args := [d] }
  | _ => none }
def FnExactReadNoticesWrongFalsely : Prop := fnExactReadNoticesRow.holds Try.pinned (OpenSpec.ofChange fnExactReadNoticesWrong)

/-- 'laws.FnExactOpenClaims': WHATEVER THE INPUT: true; the input reads as it did. -/
def fnExactOpenClaimsSpec : ChangeSpec := { name := "fnExactOpenClaims", fn := fun _ => fun
  | [d1, d2] => { results := [.lit (.bool true)], args := [d1, d2] }
  | _ => none }
def fnExactOpenClaimsRow : OpenClaim := { program := "ytanoaneoanpkkaa", sum := "d64393bdbcbe9e3eada58766d8cd7fd743467ddcf40f832af9b7fc79ed67ab7e", func := "loop.example/g00581/laws.FnExactOpenClaims", spec := "fnExactOpenClaims", apart := false }
def FnExactOpenClaimsSaid : Prop := fnExactOpenClaimsRow.holds Try.pinned (OpenSpec.ofChange fnExactOpenClaimsSpec)

/-- ITS FALSE NEIGHBOUR: 'it returns false'. Refute it at one input. -/
def fnExactOpenClaimsWrong : ChangeSpec := { name := "fnExactOpenClaims", fn := fun _ => fun
  | [d1, d2] => { results := [.lit (.bool false)], args := [d1, d2] }
  | _ => none }
def FnExactOpenClaimsWrongFalsely : Prop := fnExactOpenClaimsRow.holds Try.pinned (OpenSpec.ofChange fnExactOpenClaimsWrong)

/-- 'laws.FnExactMakeGrant': WHATEVER THE INPUT: true; the input reads as it did. -/
def fnExactMakeGrantSpec : ChangeSpec := { name := "fnExactMakeGrant", fn := fun _ => fun
  | [d1, d2, d3, d4, d5] => { results := [.lit (.bool true)], args := [d1, d2, d3, d4, d5] }
  | _ => none }
def fnExactMakeGrantRow : OpenClaim := { program := "ytanoaneoanpkkaa", sum := "d64393bdbcbe9e3eada58766d8cd7fd743467ddcf40f832af9b7fc79ed67ab7e", func := "loop.example/g00581/laws.FnExactMakeGrant", spec := "fnExactMakeGrant", apart := false }
def FnExactMakeGrantSaid : Prop := fnExactMakeGrantRow.holds Try.pinned (OpenSpec.ofChange fnExactMakeGrantSpec)

/-- ITS FALSE NEIGHBOUR: 'it returns false'. Refute it at one input. -/
def fnExactMakeGrantWrong : ChangeSpec := { name := "fnExactMakeGrant", fn := fun _ => fun
  | [d1, d2, d3, d4, d5] => { results := [.lit (.bool false)], args := [d1, d2, d3, d4, d5] }
  | _ => none }
def FnExactMakeGrantWrongFalsely : Prop := fnExactMakeGrantRow.holds Try.pinned (OpenSpec.ofChange fnExactMakeGrantWrong)

/-- 'laws.FnExactSendNotice': WHATEVER THE INPUT: true; the input reads as it did. -/
def fnExactSendNoticeSpec : ChangeSpec := { name := "fnExactSendNotice", fn := fun _ => fun
  | [d1, d2, d3, d4] => { results := [.lit (.bool true)], args := [d1, d2, d3, d4] }
  | _ => none }
def fnExactSendNoticeRow : OpenClaim := { program := "ytanoaneoanpkkaa", sum := "d64393bdbcbe9e3eada58766d8cd7fd743467ddcf40f832af9b7fc79ed67ab7e", func := "loop.example/g00581/laws.FnExactSendNotice", spec := "fnExactSendNotice", apart := false }
def FnExactSendNoticeSaid : Prop := fnExactSendNoticeRow.holds Try.pinned (OpenSpec.ofChange fnExactSendNoticeSpec)

/-- ITS FALSE NEIGHBOUR: 'it returns false'. Refute it at one input. -/
def fnExactSendNoticeWrong : ChangeSpec := { name := "fnExactSendNotice", fn := fun _ => fun
  | [d1, d2, d3, d4] => { results := [.lit (.bool false)], args := [d1, d2, d3, d4] }
  | _ => none }
def FnExactSendNoticeWrongFalsely : Prop := fnExactSendNoticeRow.holds Try.pinned (OpenSpec.ofChange fnExactSendNoticeWrong)

/-- 'laws.FnExactSignHead': WHATEVER THE INPUT: true; the input reads as it did. -/
def fnExactSignHeadSpec : ChangeSpec := { name := "fnExactSignHead", fn := fun _ => fun
  | [d1, d2] => { results := [.lit (.bool true)], args := [d1, d2] }
  | _ => none }
def fnExactSignHeadRow : OpenClaim := { program := "ytanoaneoanpkkaa", sum := "d64393bdbcbe9e3eada58766d8cd7fd743467ddcf40f832af9b7fc79ed67ab7e", func := "loop.example/g00581/laws.FnExactSignHead", spec := "fnExactSignHead", apart := false }
def FnExactSignHeadSaid : Prop := fnExactSignHeadRow.holds Try.pinned (OpenSpec.ofChange fnExactSignHeadSpec)

/-- ITS FALSE NEIGHBOUR: 'it returns false'. Refute it at one input. -/
def fnExactSignHeadWrong : ChangeSpec := { name := "fnExactSignHead", fn := fun _ => fun
  | [d1, d2] => { results := [.lit (.bool false)], args := [d1, d2] }
  | _ => none }
def FnExactSignHeadWrongFalsely : Prop := fnExactSignHeadRow.holds Try.pinned (OpenSpec.ofChange fnExactSignHeadWrong)

/-- 'laws.FnNotices': WHATEVER THE INPUT: true; the input reads as it did. -/
def fnNoticesSpec : ChangeSpec := { name := "fnNotices", fn := fun _ => fun
  | [d] => { results := [.lit (.bool true)], args := [d] }
  | _ => none }
def fnNoticesRow : OpenClaim := { program := "ytanoaneoanpkkaa", sum := "d64393bdbcbe9e3eada58766d8cd7fd743467ddcf40f832af9b7fc79ed67ab7e", func := "loop.example/g00581/laws.FnNotices", spec := "fnNotices", apart := false }
def FnNoticesSaid : Prop := fnNoticesRow.holds Try.pinned (OpenSpec.ofChange fnNoticesSpec)

/-- ITS FALSE NEIGHBOUR: 'it returns false'. Refute it at one input. -/
def fnNoticesWrong : ChangeSpec := { name := "fnNotices", fn := fun _ => fun
  | [d] => { results := [.lit (.bool false)], args := [d] }
  | _ => none }
def FnNoticesWrongFalsely : Prop := fnNoticesRow.holds Try.pinned (OpenSpec.ofChange fnNoticesWrong)

/-- 'laws.FnExactNarrowGrant': WHATEVER THE INPUT: true; the input reads as it did. -/
def fnExactNarrowGrantSpec : ChangeSpec := { name := "fnExactNarrowGrant", fn := fun _ => fun
  | [d1, d2, d3, d4] => { results := [.lit (.bool true)], args := [d1, d2, d3, d4] }
  | _ => none }
def fnExactNarrowGrantRow : OpenClaim := { program := "ytanoaneoanpkkaa", sum := "d64393bdbcbe9e3eada58766d8cd7fd743467ddcf40f832af9b7fc79ed67ab7e", func := "loop.example/g00581/laws.FnExactNarrowGrant", spec := "fnExactNarrowGrant", apart := false }
def FnExactNarrowGrantSaid : Prop := fnExactNarrowGrantRow.holds Try.pinned (OpenSpec.ofChange fnExactNarrowGrantSpec)

/-- ITS FALSE NEIGHBOUR: 'it returns false'. Refute it at one input. -/
def fnExactNarrowGrantWrong : ChangeSpec := { name := "fnExactNarrowGrant", fn := fun _ => fun
  | [d1, d2, d3, d4] => { results := [.lit (.bool false)], args := [d1, d2, d3, d4] }
  | _ => none }
def FnExactNarrowGrantWrongFalsely : Prop := fnExactNarrowGrantRow.holds Try.pinned (OpenSpec.ofChange fnExactNarrowGrantWrong)

/-- 'laws.FnExactAreConsistent': WHATEVER THE INPUT: true; the input reads as it did. -/
def fnExactAreConsistentSpec : ChangeSpec := { name := "fnExactAreConsistent", fn := fun _ => fun
  | [d1, d2, d3] => { results := [.lit (.bool true)], args := [d1, d2, d3] }
  | _ => none }
def fnExactAreConsistentRow : OpenClaim := { program := "ytanoaneoanpkkaa", sum := "d64393bdbcbe9e3eada58766d8cd7fd743467ddcf40f832af9b7fc79ed67ab7e", func := "loop.example/g00581/laws.FnExactAreConsistent", spec := "fnExactAreConsistent", apart := false }
def FnExactAreConsistentSaid : Prop := fnExactAreConsistentRow.holds Try.pinned (OpenSpec.ofChange fnExactAreConsistentSpec)

/-- ITS FALSE NEIGHBOUR: 'it returns false'. Refute it at one input. -/
def fnExactAreConsistentWrong : ChangeSpec := { name := "fnExactAreConsistent", fn := fun _ => fun
  | [d1, d2, d3] => { results := [.lit (.bool false)], args := [d1, d2, d3] }
  | _ => none }
def FnExactAreConsistentWrongFalsely : Prop := fnExactAreConsistentRow.holds Try.pinned (OpenSpec.ofChange fnExactAreConsistentWrong)

/- THE SECOND FORM. 'bulk': how many values and letters a reading holds, each counted each time it is reached (what is shared counts as often as it is met; a slice's spare places count too). A statement '..UptoSaid' is the law's where the arguments, and the package variables that the reading takes, are together of bulk at most 1048576: NARROWER than '..Said'. Prove '..Said' where nothing that the law and all that it calls make is longer than what came in: it says more and counts as full. Else prove '..UptoSaid'. A law counts once. -/
mutual
def uptoBulk {H : Type} : DataW H → Nat
  | .lit (.string bytes) => bytes.length + 1
  | .lit _ => 1
  | .nil => 1
  | .ptr d => uptoBulk d + 1
  | .slice elems spare => uptoBulkAll elems + uptoBulkAll spare + 1
  | .agg parts => uptoBulkAll parts + 1
  | .iface _ d => uptoBulk d + 1
  | .map entries => uptoBulkEntries entries + 1
  | .held _ => 1
def uptoBulkAll {H : Type} : List (DataW H) → Nat
  | [] => 0
  | d :: r => uptoBulk d + uptoBulkAll r
def uptoBulkEntries {H : Type} : List (Lit × DataW H) → Nat
  | [] => 0
  | x :: r => uptoBulkEntry x + uptoBulkEntries r
def uptoBulkEntry {H : Type} : Lit × DataW H → Nat
  | (.string bytes, d) => bytes.length + uptoBulk d + 1
  | (_, d) => uptoBulk d + 1
 end
def uptoSmall : (H : Type) → List (DataW H) → Bool := fun _ ds => decide (uptoBulkAll ds ≤ 1048576)
def OpenSpec.upto (s : _root_.Go.ChangeSpec) : _root_.Go.OpenSpec := { _root_.Go.OpenSpec.ofChange s with cond := some uptoSmall }

/-- 'laws.FnNarrowing', WHERE WHAT IT READS IS OF BULK AT MOST 1048576: true; the input reads as it did. -/
def fnNarrowingUptoRow : OpenClaim := { program := "ytanoaneoanpkkaa", sum := "d64393bdbcbe9e3eada58766d8cd7fd743467ddcf40f832af9b7fc79ed67ab7e", func := "loop.example/g00581/laws.FnNarrowing", spec := "fnNarrowing", apart := false, narrowed := true }
def FnNarrowingUptoSaid : Prop := fnNarrowingUptoRow.holds Try.pinned (OpenSpec.upto fnNarrowingSpec)

/-- 'laws.FnExactIsSplit', WHERE WHAT IT READS IS OF BULK AT MOST 1048576: true; the input reads as it did. -/
def fnExactIsSplitUptoRow : OpenClaim := { program := "ytanoaneoanpkkaa", sum := "d64393bdbcbe9e3eada58766d8cd7fd743467ddcf40f832af9b7fc79ed67ab7e", func := "loop.example/g00581/laws.FnExactIsSplit", spec := "fnExactIsSplit", apart := false, narrowed := true }
def FnExactIsSplitUptoSaid : Prop := fnExactIsSplitUptoRow.holds Try.pinned (OpenSpec.upto fnExactIsSplitSpec)

/-- 'laws.FnExactIsGrant', WHERE WHAT IT READS IS OF BULK AT MOST 1048576: true; the input reads as it did. -/
def fnExactIsGrantUptoRow : OpenClaim := { program := "ytanoaneoanpkkaa", sum := "d64393bdbcbe9e3eada58766d8cd7fd743467ddcf40f832af9b7fc79ed67ab7e", func := "loop.example/g00581/laws.FnExactIsGrant", spec := "fnExactIsGrant", apart := false, narrowed := true }
def FnExactIsGrantUptoSaid : Prop := fnExactIsGrantUptoRow.holds Try.pinned (OpenSpec.upto fnExactIsGrantSpec)

/-- 'laws.FnExactKeysOf', WHERE WHAT IT READS IS OF BULK AT MOST 1048576: true; the input reads as it did. -/
def fnExactKeysOfUptoRow : OpenClaim := { program := "ytanoaneoanpkkaa", sum := "d64393bdbcbe9e3eada58766d8cd7fd743467ddcf40f832af9b7fc79ed67ab7e", func := "loop.example/g00581/laws.FnExactKeysOf", spec := "fnExactKeysOf", apart := false, narrowed := true }
def FnExactKeysOfUptoSaid : Prop := fnExactKeysOfUptoRow.holds Try.pinned (OpenSpec.upto fnExactKeysOfSpec)

/-- 'laws.FnExactReadNotices', WHERE WHAT IT READS IS OF BULK AT MOST 1048576: true; the input reads as it did. -/
def fnExactReadNoticesUptoRow : OpenClaim := { program := "ytanoaneoanpkkaa", sum := "d64393bdbcbe9e3eada58766d8cd7fd743467ddcf40f832af9b7fc79ed67ab7e", func := "loop.example/g00581/laws.FnExactReadNotices", spec := "fnExactReadNotices", apart := false, narrowed := true }
def FnExactReadNoticesUptoSaid : Prop := fnExactReadNoticesUptoRow.holds Try.pinned (OpenSpec.upto fnExactReadNoticesSpec)

/-- 'laws.FnExactOpenClaims', WHERE WHAT IT READS IS OF BULK AT MOST 1048576: true; the input reads as it did. -/
def fnExactOpenClaimsUptoRow : OpenClaim := { program := "ytanoaneoanpkkaa", sum := "d64393bdbcbe9e3eada58766d8cd7fd743467ddcf40f832af9b7fc79ed67ab7e", func := "loop.example/g00581/laws.FnExactOpenClaims", spec := "fnExactOpenClaims", apart := false, narrowed := true }
def FnExactOpenClaimsUptoSaid : Prop := fnExactOpenClaimsUptoRow.holds Try.pinned (OpenSpec.upto fnExactOpenClaimsSpec)

/-- 'laws.FnExactMakeGrant', WHERE WHAT IT READS IS OF BULK AT MOST 1048576: true; the input reads as it did. -/
def fnExactMakeGrantUptoRow : OpenClaim := { program := "ytanoaneoanpkkaa", sum := "d64393bdbcbe9e3eada58766d8cd7fd743467ddcf40f832af9b7fc79ed67ab7e", func := "loop.example/g00581/laws.FnExactMakeGrant", spec := "fnExactMakeGrant", apart := false, narrowed := true }
def FnExactMakeGrantUptoSaid : Prop := fnExactMakeGrantUptoRow.holds Try.pinned (OpenSpec.upto fnExactMakeGrantSpec)

/-- 'laws.FnExactSendNotice', WHERE WHAT IT READS IS OF BULK AT MOST 1048576: true; the input reads as it did. -/
def fnExactSendNoticeUptoRow : OpenClaim := { program := "ytanoaneoanpkkaa", sum := "d64393bdbcbe9e3eada58766d8cd7fd743467ddcf40f832af9b7fc79ed67ab7e", func := "loop.example/g00581/laws.FnExactSendNotice", spec := "fnExactSendNotice", apart := false, narrowed := true }
def FnExactSendNoticeUptoSaid : Prop := fnExactSendNoticeUptoRow.holds Try.pinned (OpenSpec.upto fnExactSendNoticeSpec)

/-- 'laws.FnExactSignHead', WHERE WHAT IT READS IS OF BULK AT MOST 1048576: true; the input reads as it did. -/
def fnExactSignHeadUptoRow : OpenClaim := { program := "ytanoaneoanpkkaa", sum := "d64393bdbcbe9e3eada58766d8cd7fd743467ddcf40f832af9b7fc79ed67ab7e", func := "loop.example/g00581/laws.FnExactSignHead", spec := "fnExactSignHead", apart := false, narrowed := true }
def FnExactSignHeadUptoSaid : Prop := fnExactSignHeadUptoRow.holds Try.pinned (OpenSpec.upto fnExactSignHeadSpec)

/-- 'laws.FnNotices', WHERE WHAT IT READS IS OF BULK AT MOST 1048576: true; the input reads as it did. -/
def fnNoticesUptoRow : OpenClaim := { program := "ytanoaneoanpkkaa", sum := "d64393bdbcbe9e3eada58766d8cd7fd743467ddcf40f832af9b7fc79ed67ab7e", func := "loop.example/g00581/laws.FnNotices", spec := "fnNotices", apart := false, narrowed := true }
def FnNoticesUptoSaid : Prop := fnNoticesUptoRow.holds Try.pinned (OpenSpec.upto fnNoticesSpec)

/-- 'laws.FnExactNarrowGrant', WHERE WHAT IT READS IS OF BULK AT MOST 1048576: true; the input reads as it did. -/
def fnExactNarrowGrantUptoRow : OpenClaim := { program := "ytanoaneoanpkkaa", sum := "d64393bdbcbe9e3eada58766d8cd7fd743467ddcf40f832af9b7fc79ed67ab7e", func := "loop.example/g00581/laws.FnExactNarrowGrant", spec := "fnExactNarrowGrant", apart := false, narrowed := true }
def FnExactNarrowGrantUptoSaid : Prop := fnExactNarrowGrantUptoRow.holds Try.pinned (OpenSpec.upto fnExactNarrowGrantSpec)

/-- 'laws.FnExactAreConsistent', WHERE WHAT IT READS IS OF BULK AT MOST 1048576: true; the input reads as it did. -/
def fnExactAreConsistentUptoRow : OpenClaim := { program := "ytanoaneoanpkkaa", sum := "d64393bdbcbe9e3eada58766d8cd7fd743467ddcf40f832af9b7fc79ed67ab7e", func := "loop.example/g00581/laws.FnExactAreConsistent", spec := "fnExactAreConsistent", apart := false, narrowed := true }
def FnExactAreConsistentUptoSaid : Prop := fnExactAreConsistentUptoRow.holds Try.pinned (OpenSpec.upto fnExactAreConsistentSpec)

end Rows
end Go.Proofs.Ytanoaneoanpkkaa
