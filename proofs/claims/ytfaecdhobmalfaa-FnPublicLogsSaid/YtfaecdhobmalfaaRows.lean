/-
  No cell of these rows narrows 'for every input' (looked for: loops, veiled, ifaces, maps, wideKeys, modest, calm, conditions, laid).
  DERIVED. THE GIVEN ROWS OF THIS SEAT. 12 by the template 'for every input the law returns true; each argument reads behind the call as it read before'; 0 by the template 'total and deterministic' (their statements: YtfaecdhobmalfaaTotals.lean).
  GIVEN WITH THE SEED: the statements are not yours to turn. If you find one false, say at which input.
  Laid BY PROGRAM, IN A SANDBOX (cutbox-rows.mjs): the forced cells as the released guide's own fill.sh prints them over the translation 4b5295d4e038faee… (all of the seat's roots in one cut). By AI agents, Wed Nov 11 2026. No macro, syntax, notation, axiom, sorry.
-/
import Derived.Test.YtfaecdhobmalfaaChecked
import GoSem.Claim
import GoSem.ClaimJoined
import GoSem.ClaimMapViews
import Derived.JoinedTies
import Derived.KernelRfl
namespace Go.Proofs.Ytfaecdhobmalfaa
/- THE CELL 'sum', in the pinned program and in every row, IS THE sha256 OF THE DUMP (.gsa) THAT YtfaecdhobmalfaaProg.lean LOADS. Nothing in Lean hashes anything: it is a label: what it is worth is what the hold of that sum in a sandbox is worth. -/
noncomputable def Try.pinned : Pinned := { name := "ytfaecdhobmalfaa", sum := "4b5295d4e038faee05ee12db649abb3358a8f8b07e7c44ea9c4bfc1319ad47dd", checked := Try.checked }
namespace Rows
def none {H : Type} : Left H := { results := [], args := [] }

/-- 'laws.FnExactLatestNotice': WHATEVER THE INPUT: true; the input reads as it did. -/
def fnExactLatestNoticeSpec : ChangeSpec := { name := "fnExactLatestNotice", fn := fun _ => fun
  | [d1, d2] => { results := [.lit (.bool true)], args := [d1, d2] }
  | _ => none }
def fnExactLatestNoticeRow : OpenClaim := { program := "ytfaecdhobmalfaa", sum := "4b5295d4e038faee05ee12db649abb3358a8f8b07e7c44ea9c4bfc1319ad47dd", func := "loop.example/g00581/laws.FnExactLatestNotice", spec := "fnExactLatestNotice", apart := false }
def FnExactLatestNoticeSaid : Prop := fnExactLatestNoticeRow.holds Try.pinned (OpenSpec.ofChange fnExactLatestNoticeSpec)

/-- ITS FALSE NEIGHBOUR: 'it returns false'. Refute it at one input. -/
def fnExactLatestNoticeWrong : ChangeSpec := { name := "fnExactLatestNotice", fn := fun _ => fun
  | [d1, d2] => { results := [.lit (.bool false)], args := [d1, d2] }
  | _ => none }
def FnExactLatestNoticeWrongFalsely : Prop := fnExactLatestNoticeRow.holds Try.pinned (OpenSpec.ofChange fnExactLatestNoticeWrong)

/-- 'laws.FnExactUnseenOf': WHATEVER THE INPUT: true; the input reads as it did. -/
def fnExactUnseenOfSpec : ChangeSpec := { name := "fnExactUnseenOf", fn := fun _ => fun
  | [d1, d2] => { results := [.lit (.bool true)], args := [d1, d2] }
  | _ => none }
def fnExactUnseenOfRow : OpenClaim := { program := "ytfaecdhobmalfaa", sum := "4b5295d4e038faee05ee12db649abb3358a8f8b07e7c44ea9c4bfc1319ad47dd", func := "loop.example/g00581/laws.FnExactUnseenOf", spec := "fnExactUnseenOf", apart := false }
def FnExactUnseenOfSaid : Prop := fnExactUnseenOfRow.holds Try.pinned (OpenSpec.ofChange fnExactUnseenOfSpec)

/-- ITS FALSE NEIGHBOUR: 'it returns false'. Refute it at one input. -/
def fnExactUnseenOfWrong : ChangeSpec := { name := "fnExactUnseenOf", fn := fun _ => fun
  | [d1, d2] => { results := [.lit (.bool false)], args := [d1, d2] }
  | _ => none }
def FnExactUnseenOfWrongFalsely : Prop := fnExactUnseenOfRow.holds Try.pinned (OpenSpec.ofChange fnExactUnseenOfWrong)

/-- 'laws.FnExactEqualMailboxes': WHATEVER THE INPUT: true; the input reads as it did. -/
def fnExactEqualMailboxesSpec : ChangeSpec := { name := "fnExactEqualMailboxes", fn := fun _ => fun
  | [d1, d2] => { results := [.lit (.bool true)], args := [d1, d2] }
  | _ => none }
def fnExactEqualMailboxesRow : OpenClaim := { program := "ytfaecdhobmalfaa", sum := "4b5295d4e038faee05ee12db649abb3358a8f8b07e7c44ea9c4bfc1319ad47dd", func := "loop.example/g00581/laws.FnExactEqualMailboxes", spec := "fnExactEqualMailboxes", apart := false }
def FnExactEqualMailboxesSaid : Prop := fnExactEqualMailboxesRow.holds Try.pinned (OpenSpec.ofChange fnExactEqualMailboxesSpec)

/-- ITS FALSE NEIGHBOUR: 'it returns false'. Refute it at one input. -/
def fnExactEqualMailboxesWrong : ChangeSpec := { name := "fnExactEqualMailboxes", fn := fun _ => fun
  | [d1, d2] => { results := [.lit (.bool false)], args := [d1, d2] }
  | _ => none }
def FnExactEqualMailboxesWrongFalsely : Prop := fnExactEqualMailboxesRow.holds Try.pinned (OpenSpec.ofChange fnExactEqualMailboxesWrong)

/-- 'laws.FnExactIsValidMailbox': WHATEVER THE INPUT: true; the input reads as it did. -/
def fnExactIsValidMailboxSpec : ChangeSpec := { name := "fnExactIsValidMailbox", fn := fun _ => fun
  | [d] => { results := [.lit (.bool true)], args := [d] }
  | _ => none }
def fnExactIsValidMailboxRow : OpenClaim := { program := "ytfaecdhobmalfaa", sum := "4b5295d4e038faee05ee12db649abb3358a8f8b07e7c44ea9c4bfc1319ad47dd", func := "loop.example/g00581/laws.FnExactIsValidMailbox", spec := "fnExactIsValidMailbox", apart := false }
def FnExactIsValidMailboxSaid : Prop := fnExactIsValidMailboxRow.holds Try.pinned (OpenSpec.ofChange fnExactIsValidMailboxSpec)

/-- ITS FALSE NEIGHBOUR: 'it returns false'. Refute it at one input. -/
def fnExactIsValidMailboxWrong : ChangeSpec := { name := "fnExactIsValidMailbox", fn := fun _ => fun
  | [d] => { results := [.lit (.bool false)], args := [d] }
  | _ => none }
def FnExactIsValidMailboxWrongFalsely : Prop := fnExactIsValidMailboxRow.holds Try.pinned (OpenSpec.ofChange fnExactIsValidMailboxWrong)

/-- 'laws.FnExactAppendRecord': WHATEVER THE INPUT: true; the input reads as it did. -/
def fnExactAppendRecordSpec : ChangeSpec := { name := "fnExactAppendRecord", fn := fun _ => fun
  | [d1, d2] => { results := [.lit (.bool true)], args := [d1, d2] }
  | _ => none }
def fnExactAppendRecordRow : OpenClaim := { program := "ytfaecdhobmalfaa", sum := "4b5295d4e038faee05ee12db649abb3358a8f8b07e7c44ea9c4bfc1319ad47dd", func := "loop.example/g00581/laws.FnExactAppendRecord", spec := "fnExactAppendRecord", apart := false }
def FnExactAppendRecordSaid : Prop := fnExactAppendRecordRow.holds Try.pinned (OpenSpec.ofChange fnExactAppendRecordSpec)

/-- ITS FALSE NEIGHBOUR: 'it returns false'. Refute it at one input. -/
def fnExactAppendRecordWrong : ChangeSpec := { name := "fnExactAppendRecord", fn := fun _ => fun
  | [d1, d2] => { results := [.lit (.bool false)], args := [d1, d2] }
  | _ => none }
def FnExactAppendRecordWrongFalsely : Prop := fnExactAppendRecordRow.holds Try.pinned (OpenSpec.ofChange fnExactAppendRecordWrong)

/-- 'laws.FnSplitViews': WHATEVER THE INPUT: true; the input reads as it did. -/
def fnSplitViewsSpec : ChangeSpec := { name := "fnSplitViews", fn := fun _ => fun
  | [d] => { results := [.lit (.bool true)], args := [d] }
  | _ => none }
def fnSplitViewsRow : OpenClaim := { program := "ytfaecdhobmalfaa", sum := "4b5295d4e038faee05ee12db649abb3358a8f8b07e7c44ea9c4bfc1319ad47dd", func := "loop.example/g00581/laws.FnSplitViews", spec := "fnSplitViews", apart := false }
def FnSplitViewsSaid : Prop := fnSplitViewsRow.holds Try.pinned (OpenSpec.ofChange fnSplitViewsSpec)

/-- ITS FALSE NEIGHBOUR: 'it returns false'. Refute it at one input. -/
def fnSplitViewsWrong : ChangeSpec := { name := "fnSplitViews", fn := fun _ => fun
  | [d] => { results := [.lit (.bool false)], args := [d] }
  | _ => none }
def FnSplitViewsWrongFalsely : Prop := fnSplitViewsRow.holds Try.pinned (OpenSpec.ofChange fnSplitViewsWrong)

/-- 'laws.FnExactEqualClaims': WHATEVER THE INPUT: true; the input reads as it did. -/
def fnExactEqualClaimsSpec : ChangeSpec := { name := "fnExactEqualClaims", fn := fun _ => fun
  | [d1, d2] => { results := [.lit (.bool true)], args := [d1, d2] }
  | _ => none }
def fnExactEqualClaimsRow : OpenClaim := { program := "ytfaecdhobmalfaa", sum := "4b5295d4e038faee05ee12db649abb3358a8f8b07e7c44ea9c4bfc1319ad47dd", func := "loop.example/g00581/laws.FnExactEqualClaims", spec := "fnExactEqualClaims", apart := false }
def FnExactEqualClaimsSaid : Prop := fnExactEqualClaimsRow.holds Try.pinned (OpenSpec.ofChange fnExactEqualClaimsSpec)

/-- ITS FALSE NEIGHBOUR: 'it returns false'. Refute it at one input. -/
def fnExactEqualClaimsWrong : ChangeSpec := { name := "fnExactEqualClaims", fn := fun _ => fun
  | [d1, d2] => { results := [.lit (.bool false)], args := [d1, d2] }
  | _ => none }
def FnExactEqualClaimsWrongFalsely : Prop := fnExactEqualClaimsRow.holds Try.pinned (OpenSpec.ofChange fnExactEqualClaimsWrong)

/-- 'laws.FnExactSharesKey': WHATEVER THE INPUT: true; the input reads as it did. -/
def fnExactSharesKeySpec : ChangeSpec := { name := "fnExactSharesKey", fn := fun _ => fun
  | [d1, d2] => { results := [.lit (.bool true)], args := [d1, d2] }
  | _ => none }
def fnExactSharesKeyRow : OpenClaim := { program := "ytfaecdhobmalfaa", sum := "4b5295d4e038faee05ee12db649abb3358a8f8b07e7c44ea9c4bfc1319ad47dd", func := "loop.example/g00581/laws.FnExactSharesKey", spec := "fnExactSharesKey", apart := false }
def FnExactSharesKeySaid : Prop := fnExactSharesKeyRow.holds Try.pinned (OpenSpec.ofChange fnExactSharesKeySpec)

/-- ITS FALSE NEIGHBOUR: 'it returns false'. Refute it at one input. -/
def fnExactSharesKeyWrong : ChangeSpec := { name := "fnExactSharesKey", fn := fun _ => fun
  | [d1, d2] => { results := [.lit (.bool false)], args := [d1, d2] }
  | _ => none }
def FnExactSharesKeyWrongFalsely : Prop := fnExactSharesKeyRow.holds Try.pinned (OpenSpec.ofChange fnExactSharesKeyWrong)

/-- 'laws.FnExactDueAt': WHATEVER THE INPUT: true; the input reads as it did. -/
def fnExactDueAtSpec : ChangeSpec := { name := "fnExactDueAt", fn := fun _ => fun
  | [d1, d2] => { results := [.lit (.bool true)], args := [d1, d2] }
  | _ => none }
def fnExactDueAtRow : OpenClaim := { program := "ytfaecdhobmalfaa", sum := "4b5295d4e038faee05ee12db649abb3358a8f8b07e7c44ea9c4bfc1319ad47dd", func := "loop.example/g00581/laws.FnExactDueAt", spec := "fnExactDueAt", apart := false }
def FnExactDueAtSaid : Prop := fnExactDueAtRow.holds Try.pinned (OpenSpec.ofChange fnExactDueAtSpec)

/-- ITS FALSE NEIGHBOUR: 'it returns false'. Refute it at one input. -/
def fnExactDueAtWrong : ChangeSpec := { name := "fnExactDueAt", fn := fun _ => fun
  | [d1, d2] => { results := [.lit (.bool false)], args := [d1, d2] }
  | _ => none }
def FnExactDueAtWrongFalsely : Prop := fnExactDueAtRow.holds Try.pinned (OpenSpec.ofChange fnExactDueAtWrong)

/-- 'laws.FnPublicLogs': WHATEVER THE INPUT: true; the input reads as it did. -/
def fnPublicLogsSpec : ChangeSpec := { name := "fnPublicLogs", fn := fun _ => fun
  | [d] => { results := [.lit (.bool true)], args := [d] }
  | _ => none }
def fnPublicLogsRow : OpenClaim := { program := "ytfaecdhobmalfaa", sum := "4b5295d4e038faee05ee12db649abb3358a8f8b07e7c44ea9c4bfc1319ad47dd", func := "loop.example/g00581/laws.FnPublicLogs", spec := "fnPublicLogs", apart := false }
def FnPublicLogsSaid : Prop := fnPublicLogsRow.holds Try.pinned (OpenSpec.ofChange fnPublicLogsSpec)

/-- ITS FALSE NEIGHBOUR: 'it returns false'. Refute it at one input. -/
def fnPublicLogsWrong : ChangeSpec := { name := "fnPublicLogs", fn := fun _ => fun
  | [d] => { results := [.lit (.bool false)], args := [d] }
  | _ => none }
def FnPublicLogsWrongFalsely : Prop := fnPublicLogsRow.holds Try.pinned (OpenSpec.ofChange fnPublicLogsWrong)

/-- 'laws.FnExactIsValidClaims': WHATEVER THE INPUT: true; the input reads as it did. -/
def fnExactIsValidClaimsSpec : ChangeSpec := { name := "fnExactIsValidClaims", fn := fun _ => fun
  | [d] => { results := [.lit (.bool true)], args := [d] }
  | _ => none }
def fnExactIsValidClaimsRow : OpenClaim := { program := "ytfaecdhobmalfaa", sum := "4b5295d4e038faee05ee12db649abb3358a8f8b07e7c44ea9c4bfc1319ad47dd", func := "loop.example/g00581/laws.FnExactIsValidClaims", spec := "fnExactIsValidClaims", apart := false }
def FnExactIsValidClaimsSaid : Prop := fnExactIsValidClaimsRow.holds Try.pinned (OpenSpec.ofChange fnExactIsValidClaimsSpec)

/-- ITS FALSE NEIGHBOUR: 'it returns false'. Refute it at one input. -/
def fnExactIsValidClaimsWrong : ChangeSpec := { name := "fnExactIsValidClaims", fn := fun _ => fun
  | [d] => { results := [.lit (.bool false)], args := [d] }
  | _ => none }
def FnExactIsValidClaimsWrongFalsely : Prop := fnExactIsValidClaimsRow.holds Try.pinned (OpenSpec.ofChange fnExactIsValidClaimsWrong)

/-- 'laws.FnExactCheckHead': WHATEVER THE INPUT: true; the input reads as it did. -/
def fnExactCheckHeadSpec : ChangeSpec := { name := "fnExactCheckHead", fn := fun _ => fun
  | [d] => { results := [.lit (.bool true)], args := [d] }
  | _ => none }
def fnExactCheckHeadRow : OpenClaim := { program := "ytfaecdhobmalfaa", sum := "4b5295d4e038faee05ee12db649abb3358a8f8b07e7c44ea9c4bfc1319ad47dd", func := "loop.example/g00581/laws.FnExactCheckHead", spec := "fnExactCheckHead", apart := false }
def FnExactCheckHeadSaid : Prop := fnExactCheckHeadRow.holds Try.pinned (OpenSpec.ofChange fnExactCheckHeadSpec)

/-- ITS FALSE NEIGHBOUR: 'it returns false'. Refute it at one input. -/
def fnExactCheckHeadWrong : ChangeSpec := { name := "fnExactCheckHead", fn := fun _ => fun
  | [d] => { results := [.lit (.bool false)], args := [d] }
  | _ => none }
def FnExactCheckHeadWrongFalsely : Prop := fnExactCheckHeadRow.holds Try.pinned (OpenSpec.ofChange fnExactCheckHeadWrong)

/- THE SECOND FORM. 'bulk': how many values and letters a reading holds, each counted each time it is reached (what is shared counts as often as it is met; a slice's spare places count too). A statement '..UptoSaid' is the law's where the arguments, and the package variables that the reading takes, are together of bulk at most 1048576: NARROWER than '..Said'. Prove '..Said' where nothing that the law and all that it calls make is longer than what came in: it says more and counts as full. Else prove '..UptoSaid'. A law counts once. -/
mutual
def uptoBulk {H : Type} : DataW H → Nat
  | .lit (.string bytes) => bytes.length + 1
  | .lit _ => 1
  | .nil => 1
  | .ptr d => uptoBulk d + 1
  | .slice elems spare => uptoBulkAll elems + uptoBulkAll spare + 1
  | .agg parts => uptoBulkAll parts + 1
  | .iface _ d => uptoBulk d + 1
  | .map entries => uptoBulkEntries entries + 1
  | .held _ => 1
def uptoBulkAll {H : Type} : List (DataW H) → Nat
  | [] => 0
  | d :: r => uptoBulk d + uptoBulkAll r
def uptoBulkEntries {H : Type} : List (Lit × DataW H) → Nat
  | [] => 0
  | x :: r => uptoBulkEntry x + uptoBulkEntries r
def uptoBulkEntry {H : Type} : Lit × DataW H → Nat
  | (.string bytes, d) => bytes.length + uptoBulk d + 1
  | (_, d) => uptoBulk d + 1
 end
def uptoSmall : (H : Type) → List (DataW H) → Bool := fun _ ds => decide (uptoBulkAll ds ≤ 1048576)
def OpenSpec.upto (s : _root_.Go.ChangeSpec) : _root_.Go.OpenSpec := { _root_.Go.OpenSpec.ofChange s with cond := some uptoSmall }

/-- 'laws.FnExactLatestNotice', WHERE WHAT IT READS IS OF BULK AT MOST 1048576: true; the input reads as it did. -/
def fnExactLatestNoticeUptoRow : OpenClaim := { program := "ytfaecdhobmalfaa", sum := "4b5295d4e038faee05ee12db649abb3358a8f8b07e7c44ea9c4bfc1319ad47dd", func := "loop.example/g00581/laws.FnExactLatestNotice", spec := "fnExactLatestNotice", apart := false, narrowed := true }
def FnExactLatestNoticeUptoSaid : Prop := fnExactLatestNoticeUptoRow.holds Try.pinned (OpenSpec.upto fnExactLatestNoticeSpec)

/-- 'laws.FnExactUnseenOf', WHERE WHAT IT READS IS OF BULK AT MOST 1048576: true; the input reads as it did. -/
def fnExactUnseenOfUptoRow : OpenClaim := { program := "ytfaecdhobmalfaa", sum := "4b5295d4e038faee05ee12db649abb3358a8f8b07e7c44ea9c4bfc1319ad47dd", func := "loop.example/g00581/laws.FnExactUnseenOf", spec := "fnExactUnseenOf", apart := false, narrowed := true }
def FnExactUnseenOfUptoSaid : Prop := fnExactUnseenOfUptoRow.holds Try.pinned (OpenSpec.upto fnExactUnseenOfSpec)

/-- 'laws.FnExactEqualMailboxes', WHERE WHAT IT READS IS OF BULK AT MOST 1048576: true; the input reads as it did. -/
def fnExactEqualMailboxesUptoRow : OpenClaim := { program := "ytfaecdhobmalfaa", sum := "4b5295d4e038faee05ee12db649abb3358a8f8b07e7c44ea9c4bfc1319ad47dd", func := "loop.example/g00581/laws.FnExactEqualMailboxes", spec := "fnExactEqualMailboxes", apart := false, narrowed := true }
def FnExactEqualMailboxesUptoSaid : Prop := fnExactEqualMailboxesUptoRow.holds Try.pinned (OpenSpec.upto fnExactEqualMailboxesSpec)

/-- 'laws.FnExactIsValidMailbox', WHERE WHAT IT READS IS OF BULK AT MOST 1048576: true; the input reads as it did. -/
def fnExactIsValidMailboxUptoRow : OpenClaim := { program := "ytfaecdhobmalfaa", sum := "4b5295d4e038faee05ee12db649abb3358a8f8b07e7c44ea9c4bfc1319ad47dd", func := "loop.example/g00581/laws.FnExactIsValidMailbox", spec := "fnExactIsValidMailbox", apart := false, narrowed := true }
def FnExactIsValidMailboxUptoSaid : Prop := fnExactIsValidMailboxUptoRow.holds Try.pinned (OpenSpec.upto fnExactIsValidMailboxSpec)

/-- 'laws.FnExactAppendRecord', WHERE WHAT IT READS IS OF BULK AT MOST 1048576: true; the input reads as it did. -/
def fnExactAppendRecordUptoRow : OpenClaim := { program := "ytfaecdhobmalfaa", sum := "4b5295d4e038faee05ee12db649abb3358a8f8b07e7c44ea9c4bfc1319ad47dd", func := "loop.example/g00581/laws.FnExactAppendRecord", spec := "fnExactAppendRecord", apart := false, narrowed := true }
def FnExactAppendRecordUptoSaid : Prop := fnExactAppendRecordUptoRow.holds Try.pinned (OpenSpec.upto fnExactAppendRecordSpec)

/-- 'laws.FnSplitViews', WHERE WHAT IT READS IS OF BULK AT MOST 1048576: true; the input reads as it did. -/
def fnSplitViewsUptoRow : OpenClaim := { program := "ytfaecdhobmalfaa", sum := "4b5295d4e038faee05ee12db649abb3358a8f8b07e7c44ea9c4bfc1319ad47dd", func := "loop.example/g00581/laws.FnSplitViews", spec := "fnSplitViews", apart := false, narrowed := true }
def FnSplitViewsUptoSaid : Prop := fnSplitViewsUptoRow.holds Try.pinned (OpenSpec.upto fnSplitViewsSpec)

/-- 'laws.FnExactEqualClaims', WHERE WHAT IT READS IS OF BULK AT MOST 1048576: true; the input reads as it did. -/
def fnExactEqualClaimsUptoRow : OpenClaim := { program := "ytfaecdhobmalfaa", sum := "4b5295d4e038faee05ee12db649abb3358a8f8b07e7c44ea9c4bfc1319ad47dd", func := "loop.example/g00581/laws.FnExactEqualClaims", spec := "fnExactEqualClaims", apart := false, narrowed := true }
def FnExactEqualClaimsUptoSaid : Prop := fnExactEqualClaimsUptoRow.holds Try.pinned (OpenSpec.upto fnExactEqualClaimsSpec)

/-- 'laws.FnExactSharesKey', WHERE WHAT IT READS IS OF BULK AT MOST 1048576: true; the input reads as it did. -/
def fnExactSharesKeyUptoRow : OpenClaim := { program := "ytfaecdhobmalfaa", sum := "4b5295d4e038faee05ee12db649abb3358a8f8b07e7c44ea9c4bfc1319ad47dd", func := "loop.example/g00581/laws.FnExactSharesKey", spec := "fnExactSharesKey", apart := false, narrowed := true }
def FnExactSharesKeyUptoSaid : Prop := fnExactSharesKeyUptoRow.holds Try.pinned (OpenSpec.upto fnExactSharesKeySpec)

/-- 'laws.FnExactDueAt', WHERE WHAT IT READS IS OF BULK AT MOST 1048576: true; the input reads as it did. -/
def fnExactDueAtUptoRow : OpenClaim := { program := "ytfaecdhobmalfaa", sum := "4b5295d4e038faee05ee12db649abb3358a8f8b07e7c44ea9c4bfc1319ad47dd", func := "loop.example/g00581/laws.FnExactDueAt", spec := "fnExactDueAt", apart := false, narrowed := true }
def FnExactDueAtUptoSaid : Prop := fnExactDueAtUptoRow.holds Try.pinned (OpenSpec.upto fnExactDueAtSpec)

/-- 'laws.FnPublicLogs', WHERE WHAT IT READS IS OF BULK AT MOST 1048576: true; the input reads as it did. -/
def fnPublicLogsUptoRow : OpenClaim := { program := "ytfaecdhobmalfaa", sum := "4b5295d4e038faee05ee12db649abb3358a8f8b07e7c44ea9c4bfc1319ad47dd", func := "loop.example/g00581/laws.FnPublicLogs", spec := "fnPublicLogs", apart := false, narrowed := true }
def FnPublicLogsUptoSaid : Prop := fnPublicLogsUptoRow.holds Try.pinned (OpenSpec.upto fnPublicLogsSpec)

/-- 'laws.FnExactIsValidClaims', WHERE WHAT IT READS IS OF BULK AT MOST 1048576: true; the input reads as it did. -/
def fnExactIsValidClaimsUptoRow : OpenClaim := { program := "ytfaecdhobmalfaa", sum := "4b5295d4e038faee05ee12db649abb3358a8f8b07e7c44ea9c4bfc1319ad47dd", func := "loop.example/g00581/laws.FnExactIsValidClaims", spec := "fnExactIsValidClaims", apart := false, narrowed := true }
def FnExactIsValidClaimsUptoSaid : Prop := fnExactIsValidClaimsUptoRow.holds Try.pinned (OpenSpec.upto fnExactIsValidClaimsSpec)

/-- 'laws.FnExactCheckHead', WHERE WHAT IT READS IS OF BULK AT MOST 1048576: true; the input reads as it did. -/
def fnExactCheckHeadUptoRow : OpenClaim := { program := "ytfaecdhobmalfaa", sum := "4b5295d4e038faee05ee12db649abb3358a8f8b07e7c44ea9c4bfc1319ad47dd", func := "loop.example/g00581/laws.FnExactCheckHead", spec := "fnExactCheckHead", apart := false, narrowed := true }
def FnExactCheckHeadUptoSaid : Prop := fnExactCheckHeadUptoRow.holds Try.pinned (OpenSpec.upto fnExactCheckHeadSpec)

end Rows
end Go.Proofs.Ytfaecdhobmalfaa
