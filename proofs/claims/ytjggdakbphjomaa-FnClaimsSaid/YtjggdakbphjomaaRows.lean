/-
  No cell of these rows narrows 'for every input' (looked for: loops, veiled, ifaces, maps, wideKeys, modest, calm, conditions, laid).
  DERIVED. THE GIVEN ROWS OF THIS SEAT. 12 by the template 'for every input the law returns true; each argument reads behind the call as it read before'; 0 by the template 'total and deterministic' (their statements: YtjggdakbphjomaaTotals.lean).
  GIVEN WITH THE SEED: the statements are not yours to turn. If you find one false, say at which input.
  Laid BY PROGRAM, IN A SANDBOX (cutbox-rows.mjs): the forced cells as the released guide's own fill.sh prints them over the translation bb0e0f9f674af6bb… (all of the seat's roots in one cut). By AI agents, Wed Nov 11 2026. No macro, syntax, notation, axiom, sorry.
-/
import Derived.Test.YtjggdakbphjomaaChecked
import GoSem.Claim
import GoSem.ClaimJoined
import GoSem.ClaimMapViews
import Derived.JoinedTies
import Derived.KernelRfl
namespace Go.Proofs.Ytjggdakbphjomaa
/- THE CELL 'sum', in the pinned program and in every row, IS THE sha256 OF THE DUMP (.gsa) THAT YtjggdakbphjomaaProg.lean LOADS. Nothing in Lean hashes anything: it is a label: what it is worth is what the hold of that sum in a sandbox is worth. -/
noncomputable def Try.pinned : Pinned := { name := "ytjggdakbphjomaa", sum := "bb0e0f9f674af6bb1002c27727a172c62b90a3234b015e94166bae7cd62dc8ca", checked := Try.checked }
namespace Rows
def none {H : Type} : Left H := { results := [], args := [] }

/-- 'laws.FnExactChainScopes': WHATEVER THE INPUT: true; the input reads as it did. -/
def fnExactChainScopesSpec : ChangeSpec := { name := "fnExactChainScopes", fn := fun _ => fun
  | [d1, d2, d3, d4] => { results := [.lit (.bool true)], args := [d1, d2, d3, d4] }
  | _ => none }
def fnExactChainScopesRow : OpenClaim := { program := "ytjggdakbphjomaa", sum := "bb0e0f9f674af6bb1002c27727a172c62b90a3234b015e94166bae7cd62dc8ca", func := "loop.example/g00581/laws.FnExactChainScopes", spec := "fnExactChainScopes", apart := false }
def FnExactChainScopesSaid : Prop := fnExactChainScopesRow.holds Try.pinned (OpenSpec.ofChange fnExactChainScopesSpec)

/-- ITS FALSE NEIGHBOUR: 'it returns false'. Refute it at one input. -/
def fnExactChainScopesWrong : ChangeSpec := { name := "fnExactChainScopes", fn := fun _ => fun
  | [d1, d2, d3, d4] => { results := [.lit (.bool false)], args := [d1, d2, d3, d4] }
  | _ => none }
def FnExactChainScopesWrongFalsely : Prop := fnExactChainScopesRow.holds Try.pinned (OpenSpec.ofChange fnExactChainScopesWrong)

/-- 'laws.FnExactCompleteClaim': WHATEVER THE INPUT: true; the input reads as it did. -/
def fnExactCompleteClaimSpec : ChangeSpec := { name := "fnExactCompleteClaim", fn := fun _ => fun
  | [d1, d2, d3] => { results := [.lit (.bool true)], args := [d1, d2, d3] }
  | _ => none }
def fnExactCompleteClaimRow : OpenClaim := { program := "ytjggdakbphjomaa", sum := "bb0e0f9f674af6bb1002c27727a172c62b90a3234b015e94166bae7cd62dc8ca", func := "loop.example/g00581/laws.FnExactCompleteClaim", spec := "fnExactCompleteClaim", apart := false }
def FnExactCompleteClaimSaid : Prop := fnExactCompleteClaimRow.holds Try.pinned (OpenSpec.ofChange fnExactCompleteClaimSpec)

/-- ITS FALSE NEIGHBOUR: 'it returns false'. Refute it at one input. -/
def fnExactCompleteClaimWrong : ChangeSpec := { name := "fnExactCompleteClaim", fn := fun _ => fun
  | [d1, d2, d3] => { results := [.lit (.bool false)], args := [d1, d2, d3] }
  | _ => none }
def FnExactCompleteClaimWrongFalsely : Prop := fnExactCompleteClaimRow.holds Try.pinned (OpenSpec.ofChange fnExactCompleteClaimWrong)

/-- 'laws.FnExactObjectTo': WHATEVER THE INPUT: true; the input reads as it did. -/
def fnExactObjectToSpec : ChangeSpec := { name := "fnExactObjectTo", fn := fun _ => fun
  | [d1, d2, d3] => { results := [.lit (.bool true)], args := [d1, d2, d3] }
  | _ => none }
def fnExactObjectToRow : OpenClaim := { program := "ytjggdakbphjomaa", sum := "bb0e0f9f674af6bb1002c27727a172c62b90a3234b015e94166bae7cd62dc8ca", func := "loop.example/g00581/laws.FnExactObjectTo", spec := "fnExactObjectTo", apart := false }
def FnExactObjectToSaid : Prop := fnExactObjectToRow.holds Try.pinned (OpenSpec.ofChange fnExactObjectToSpec)

/-- ITS FALSE NEIGHBOUR: 'it returns false'. Refute it at one input. -/
def fnExactObjectToWrong : ChangeSpec := { name := "fnExactObjectTo", fn := fun _ => fun
  | [d1, d2, d3] => { results := [.lit (.bool false)], args := [d1, d2, d3] }
  | _ => none }
def FnExactObjectToWrongFalsely : Prop := fnExactObjectToRow.holds Try.pinned (OpenSpec.ofChange fnExactObjectToWrong)

/-- 'laws.FnExactHeadCovers': WHATEVER THE INPUT: true; the input reads as it did. -/
def fnExactHeadCoversSpec : ChangeSpec := { name := "fnExactHeadCovers", fn := fun _ => fun
  | [d1, d2, d3] => { results := [.lit (.bool true)], args := [d1, d2, d3] }
  | _ => none }
def fnExactHeadCoversRow : OpenClaim := { program := "ytjggdakbphjomaa", sum := "bb0e0f9f674af6bb1002c27727a172c62b90a3234b015e94166bae7cd62dc8ca", func := "loop.example/g00581/laws.FnExactHeadCovers", spec := "fnExactHeadCovers", apart := false }
def FnExactHeadCoversSaid : Prop := fnExactHeadCoversRow.holds Try.pinned (OpenSpec.ofChange fnExactHeadCoversSpec)

/-- ITS FALSE NEIGHBOUR: 'it returns false'. Refute it at one input. -/
def fnExactHeadCoversWrong : ChangeSpec := { name := "fnExactHeadCovers", fn := fun _ => fun
  | [d1, d2, d3] => { results := [.lit (.bool false)], args := [d1, d2, d3] }
  | _ => none }
def FnExactHeadCoversWrongFalsely : Prop := fnExactHeadCoversRow.holds Try.pinned (OpenSpec.ofChange fnExactHeadCoversWrong)

/-- 'laws.FnExactCanAct': WHATEVER THE INPUT: true; the input reads as it did. -/
def fnExactCanActSpec : ChangeSpec := { name := "fnExactCanAct", fn := fun _ => fun
  | [d1, d2, d3, d4, d5] => { results := [.lit (.bool true)], args := [d1, d2, d3, d4, d5] }
  | _ => none }
def fnExactCanActRow : OpenClaim := { program := "ytjggdakbphjomaa", sum := "bb0e0f9f674af6bb1002c27727a172c62b90a3234b015e94166bae7cd62dc8ca", func := "loop.example/g00581/laws.FnExactCanAct", spec := "fnExactCanAct", apart := false }
def FnExactCanActSaid : Prop := fnExactCanActRow.holds Try.pinned (OpenSpec.ofChange fnExactCanActSpec)

/-- ITS FALSE NEIGHBOUR: 'it returns false'. Refute it at one input. -/
def fnExactCanActWrong : ChangeSpec := { name := "fnExactCanAct", fn := fun _ => fun
  | [d1, d2, d3, d4, d5] => { results := [.lit (.bool false)], args := [d1, d2, d3, d4, d5] }
  | _ => none }
def FnExactCanActWrongFalsely : Prop := fnExactCanActRow.holds Try.pinned (OpenSpec.ofChange fnExactCanActWrong)

/-- 'laws.FnGrants': WHATEVER THE INPUT: true; the input reads as it did. -/
def fnGrantsSpec : ChangeSpec := { name := "fnGrants", fn := fun _ => fun
  | [d] => { results := [.lit (.bool true)], args := [d] }
  | _ => none }
def fnGrantsRow : OpenClaim := { program := "ytjggdakbphjomaa", sum := "bb0e0f9f674af6bb1002c27727a172c62b90a3234b015e94166bae7cd62dc8ca", func := "loop.example/g00581/laws.FnGrants", spec := "fnGrants", apart := false }
def FnGrantsSaid : Prop := fnGrantsRow.holds Try.pinned (OpenSpec.ofChange fnGrantsSpec)

/-- ITS FALSE NEIGHBOUR: 'it returns false'. Refute it at one input. -/
def fnGrantsWrong : ChangeSpec := { name := "fnGrants", fn := fun _ => fun
  | [d] => { results := [.lit (.bool false)], args := [d] }
  | _ => none }
def FnGrantsWrongFalsely : Prop := fnGrantsRow.holds Try.pinned (OpenSpec.ofChange fnGrantsWrong)

/-- 'laws.FnExactFileClaim': WHATEVER THE INPUT: true; the input reads as it did. -/
def fnExactFileClaimSpec : ChangeSpec := { name := "fnExactFileClaim", fn := fun _ => fun
  | [d1, d2, d3, d4, d5] => { results := [.lit (.bool true)], args := [d1, d2, d3, d4, d5] }
  | _ => none }
def fnExactFileClaimRow : OpenClaim := { program := "ytjggdakbphjomaa", sum := "bb0e0f9f674af6bb1002c27727a172c62b90a3234b015e94166bae7cd62dc8ca", func := "loop.example/g00581/laws.FnExactFileClaim", spec := "fnExactFileClaim", apart := false }
def FnExactFileClaimSaid : Prop := fnExactFileClaimRow.holds Try.pinned (OpenSpec.ofChange fnExactFileClaimSpec)

/-- ITS FALSE NEIGHBOUR: 'it returns false'. Refute it at one input. -/
def fnExactFileClaimWrong : ChangeSpec := { name := "fnExactFileClaim", fn := fun _ => fun
  | [d1, d2, d3, d4, d5] => { results := [.lit (.bool false)], args := [d1, d2, d3, d4, d5] }
  | _ => none }
def FnExactFileClaimWrongFalsely : Prop := fnExactFileClaimRow.holds Try.pinned (OpenSpec.ofChange fnExactFileClaimWrong)

/-- 'laws.FnExactTransferAccount': WHATEVER THE INPUT: true; the input reads as it did. -/
def fnExactTransferAccountSpec : ChangeSpec := { name := "fnExactTransferAccount", fn := fun _ => fun
  | [d1, d2, d3] => { results := [.lit (.bool true)], args := [d1, d2, d3] }
  | _ => none }
def fnExactTransferAccountRow : OpenClaim := { program := "ytjggdakbphjomaa", sum := "bb0e0f9f674af6bb1002c27727a172c62b90a3234b015e94166bae7cd62dc8ca", func := "loop.example/g00581/laws.FnExactTransferAccount", spec := "fnExactTransferAccount", apart := false }
def FnExactTransferAccountSaid : Prop := fnExactTransferAccountRow.holds Try.pinned (OpenSpec.ofChange fnExactTransferAccountSpec)

/-- ITS FALSE NEIGHBOUR: 'it returns false'. Refute it at one input. -/
def fnExactTransferAccountWrong : ChangeSpec := { name := "fnExactTransferAccount", fn := fun _ => fun
  | [d1, d2, d3] => { results := [.lit (.bool false)], args := [d1, d2, d3] }
  | _ => none }
def FnExactTransferAccountWrongFalsely : Prop := fnExactTransferAccountRow.holds Try.pinned (OpenSpec.ofChange fnExactTransferAccountWrong)

/-- 'laws.FnClaims': WHATEVER THE INPUT: true; the input reads as it did. -/
def fnClaimsSpec : ChangeSpec := { name := "fnClaims", fn := fun _ => fun
  | [d] => { results := [.lit (.bool true)], args := [d] }
  | _ => none }
def fnClaimsRow : OpenClaim := { program := "ytjggdakbphjomaa", sum := "bb0e0f9f674af6bb1002c27727a172c62b90a3234b015e94166bae7cd62dc8ca", func := "loop.example/g00581/laws.FnClaims", spec := "fnClaims", apart := false }
def FnClaimsSaid : Prop := fnClaimsRow.holds Try.pinned (OpenSpec.ofChange fnClaimsSpec)

/-- ITS FALSE NEIGHBOUR: 'it returns false'. Refute it at one input. -/
def fnClaimsWrong : ChangeSpec := { name := "fnClaims", fn := fun _ => fun
  | [d] => { results := [.lit (.bool false)], args := [d] }
  | _ => none }
def FnClaimsWrongFalsely : Prop := fnClaimsRow.holds Try.pinned (OpenSpec.ofChange fnClaimsWrong)

/-- 'laws.FnExactMergeAccounts': WHATEVER THE INPUT: true; the input reads as it did. -/
def fnExactMergeAccountsSpec : ChangeSpec := { name := "fnExactMergeAccounts", fn := fun _ => fun
  | [d1, d2, d3] => { results := [.lit (.bool true)], args := [d1, d2, d3] }
  | _ => none }
def fnExactMergeAccountsRow : OpenClaim := { program := "ytjggdakbphjomaa", sum := "bb0e0f9f674af6bb1002c27727a172c62b90a3234b015e94166bae7cd62dc8ca", func := "loop.example/g00581/laws.FnExactMergeAccounts", spec := "fnExactMergeAccounts", apart := false }
def FnExactMergeAccountsSaid : Prop := fnExactMergeAccountsRow.holds Try.pinned (OpenSpec.ofChange fnExactMergeAccountsSpec)

/-- ITS FALSE NEIGHBOUR: 'it returns false'. Refute it at one input. -/
def fnExactMergeAccountsWrong : ChangeSpec := { name := "fnExactMergeAccounts", fn := fun _ => fun
  | [d1, d2, d3] => { results := [.lit (.bool false)], args := [d1, d2, d3] }
  | _ => none }
def FnExactMergeAccountsWrongFalsely : Prop := fnExactMergeAccountsRow.holds Try.pinned (OpenSpec.ofChange fnExactMergeAccountsWrong)

/-- 'laws.FnExactSplitAccount': WHATEVER THE INPUT: true; the input reads as it did. -/
def fnExactSplitAccountSpec : ChangeSpec := { name := "fnExactSplitAccount", fn := fun _ => fun
  | [d1, d2, d3] => { results := [.lit (.bool true)], args := [d1, d2, d3] }
  | _ => none }
def fnExactSplitAccountRow : OpenClaim := { program := "ytjggdakbphjomaa", sum := "bb0e0f9f674af6bb1002c27727a172c62b90a3234b015e94166bae7cd62dc8ca", func := "loop.example/g00581/laws.FnExactSplitAccount", spec := "fnExactSplitAccount", apart := false }
def FnExactSplitAccountSaid : Prop := fnExactSplitAccountRow.holds Try.pinned (OpenSpec.ofChange fnExactSplitAccountSpec)

/-- ITS FALSE NEIGHBOUR: 'it returns false'. Refute it at one input. -/
def fnExactSplitAccountWrong : ChangeSpec := { name := "fnExactSplitAccount", fn := fun _ => fun
  | [d1, d2, d3] => { results := [.lit (.bool false)], args := [d1, d2, d3] }
  | _ => none }
def FnExactSplitAccountWrongFalsely : Prop := fnExactSplitAccountRow.holds Try.pinned (OpenSpec.ofChange fnExactSplitAccountWrong)

/-- 'laws.FnCombinedAccounts': WHATEVER THE INPUT: true; the input reads as it did. -/
def fnCombinedAccountsSpec : ChangeSpec := { name := "fnCombinedAccounts", fn := fun _ => fun
  | [d] => { results := [.lit (.bool true)], args := [d] }
  | _ => none }
def fnCombinedAccountsRow : OpenClaim := { program := "ytjggdakbphjomaa", sum := "bb0e0f9f674af6bb1002c27727a172c62b90a3234b015e94166bae7cd62dc8ca", func := "loop.example/g00581/laws.FnCombinedAccounts", spec := "fnCombinedAccounts", apart := false }
def FnCombinedAccountsSaid : Prop := fnCombinedAccountsRow.holds Try.pinned (OpenSpec.ofChange fnCombinedAccountsSpec)

/-- ITS FALSE NEIGHBOUR: 'it returns false'. Refute it at one input. -/
def fnCombinedAccountsWrong : ChangeSpec := { name := "fnCombinedAccounts", fn := fun _ => fun
  | [d] => { results := [.lit (.bool false)], args := [d] }
  | _ => none }
def FnCombinedAccountsWrongFalsely : Prop := fnCombinedAccountsRow.holds Try.pinned (OpenSpec.ofChange fnCombinedAccountsWrong)

/- THE SECOND FORM. 'bulk': how many values and letters a reading holds, each counted each time it is reached (what is shared counts as often as it is met; a slice's spare places count too). A statement '..UptoSaid' is the law's where the arguments, and the package variables that the reading takes, are together of bulk at most 1048576: NARROWER than '..Said'. Prove '..Said' where nothing that the law and all that it calls make is longer than what came in: it says more and counts as full. Else prove '..UptoSaid'. A law counts once. -/
mutual
def uptoBulk {H : Type} : DataW H → Nat
  | .lit (.string bytes) => bytes.length + 1
  | .lit _ => 1
  | .nil => 1
  | .ptr d => uptoBulk d + 1
  | .slice elems spare => uptoBulkAll elems + uptoBulkAll spare + 1
  | .agg parts => uptoBulkAll parts + 1
  | .iface _ d => uptoBulk d + 1
  | .map entries => uptoBulkEntries entries + 1
  | .held _ => 1
def uptoBulkAll {H : Type} : List (DataW H) → Nat
  | [] => 0
  | d :: r => uptoBulk d + uptoBulkAll r
def uptoBulkEntries {H : Type} : List (Lit × DataW H) → Nat
  | [] => 0
  | x :: r => uptoBulkEntry x + uptoBulkEntries r
def uptoBulkEntry {H : Type} : Lit × DataW H → Nat
  | (.string bytes, d) => bytes.length + uptoBulk d + 1
  | (_, d) => uptoBulk d + 1
 end
def uptoSmall : (H : Type) → List (DataW H) → Bool := fun _ ds => decide (uptoBulkAll ds ≤ 1048576)
def OpenSpec.upto (s : _root_.Go.ChangeSpec) : _root_.Go.OpenSpec := { _root_.Go.OpenSpec.ofChange s with cond := some uptoSmall }

/-- 'laws.FnExactChainScopes', WHERE WHAT IT READS IS OF BULK AT MOST 1048576: true; the input reads as it did. -/
def fnExactChainScopesUptoRow : OpenClaim := { program := "ytjggdakbphjomaa", sum := "bb0e0f9f674af6bb1002c27727a172c62b90a3234b015e94166bae7cd62dc8ca", func := "loop.example/g00581/laws.FnExactChainScopes", spec := "fnExactChainScopes", apart := false, narrowed := true }
def FnExactChainScopesUptoSaid : Prop := fnExactChainScopesUptoRow.holds Try.pinned (OpenSpec.upto fnExactChainScopesSpec)

/-- 'laws.FnExactCompleteClaim', WHERE WHAT IT READS IS OF BULK AT MOST 1048576: true; the input reads as it did. -/
def fnExactCompleteClaimUptoRow : OpenClaim := { program := "ytjggdakbphjomaa", sum := "bb0e0f9f674af6bb1002c27727a172c62b90a3234b015e94166bae7cd62dc8ca", func := "loop.example/g00581/laws.FnExactCompleteClaim", spec := "fnExactCompleteClaim", apart := false, narrowed := true }
def FnExactCompleteClaimUptoSaid : Prop := fnExactCompleteClaimUptoRow.holds Try.pinned (OpenSpec.upto fnExactCompleteClaimSpec)

/-- 'laws.FnExactObjectTo', WHERE WHAT IT READS IS OF BULK AT MOST 1048576: true; the input reads as it did. -/
def fnExactObjectToUptoRow : OpenClaim := { program := "ytjggdakbphjomaa", sum := "bb0e0f9f674af6bb1002c27727a172c62b90a3234b015e94166bae7cd62dc8ca", func := "loop.example/g00581/laws.FnExactObjectTo", spec := "fnExactObjectTo", apart := false, narrowed := true }
def FnExactObjectToUptoSaid : Prop := fnExactObjectToUptoRow.holds Try.pinned (OpenSpec.upto fnExactObjectToSpec)

/-- 'laws.FnExactHeadCovers', WHERE WHAT IT READS IS OF BULK AT MOST 1048576: true; the input reads as it did. -/
def fnExactHeadCoversUptoRow : OpenClaim := { program := "ytjggdakbphjomaa", sum := "bb0e0f9f674af6bb1002c27727a172c62b90a3234b015e94166bae7cd62dc8ca", func := "loop.example/g00581/laws.FnExactHeadCovers", spec := "fnExactHeadCovers", apart := false, narrowed := true }
def FnExactHeadCoversUptoSaid : Prop := fnExactHeadCoversUptoRow.holds Try.pinned (OpenSpec.upto fnExactHeadCoversSpec)

/-- 'laws.FnExactCanAct', WHERE WHAT IT READS IS OF BULK AT MOST 1048576: true; the input reads as it did. -/
def fnExactCanActUptoRow : OpenClaim := { program := "ytjggdakbphjomaa", sum := "bb0e0f9f674af6bb1002c27727a172c62b90a3234b015e94166bae7cd62dc8ca", func := "loop.example/g00581/laws.FnExactCanAct", spec := "fnExactCanAct", apart := false, narrowed := true }
def FnExactCanActUptoSaid : Prop := fnExactCanActUptoRow.holds Try.pinned (OpenSpec.upto fnExactCanActSpec)

/-- 'laws.FnGrants', WHERE WHAT IT READS IS OF BULK AT MOST 1048576: true; the input reads as it did. -/
def fnGrantsUptoRow : OpenClaim := { program := "ytjggdakbphjomaa", sum := "bb0e0f9f674af6bb1002c27727a172c62b90a3234b015e94166bae7cd62dc8ca", func := "loop.example/g00581/laws.FnGrants", spec := "fnGrants", apart := false, narrowed := true }
def FnGrantsUptoSaid : Prop := fnGrantsUptoRow.holds Try.pinned (OpenSpec.upto fnGrantsSpec)

/-- 'laws.FnExactFileClaim', WHERE WHAT IT READS IS OF BULK AT MOST 1048576: true; the input reads as it did. -/
def fnExactFileClaimUptoRow : OpenClaim := { program := "ytjggdakbphjomaa", sum := "bb0e0f9f674af6bb1002c27727a172c62b90a3234b015e94166bae7cd62dc8ca", func := "loop.example/g00581/laws.FnExactFileClaim", spec := "fnExactFileClaim", apart := false, narrowed := true }
def FnExactFileClaimUptoSaid : Prop := fnExactFileClaimUptoRow.holds Try.pinned (OpenSpec.upto fnExactFileClaimSpec)

/-- 'laws.FnExactTransferAccount', WHERE WHAT IT READS IS OF BULK AT MOST 1048576: true; the input reads as it did. -/
def fnExactTransferAccountUptoRow : OpenClaim := { program := "ytjggdakbphjomaa", sum := "bb0e0f9f674af6bb1002c27727a172c62b90a3234b015e94166bae7cd62dc8ca", func := "loop.example/g00581/laws.FnExactTransferAccount", spec := "fnExactTransferAccount", apart := false, narrowed := true }
def FnExactTransferAccountUptoSaid : Prop := fnExactTransferAccountUptoRow.holds Try.pinned (OpenSpec.upto fnExactTransferAccountSpec)

/-- 'laws.FnClaims', WHERE WHAT IT READS IS OF BULK AT MOST 1048576: true; the input reads as it did. -/
def fnClaimsUptoRow : OpenClaim := { program := "ytjggdakbphjomaa", sum := "bb0e0f9f674af6bb1002c27727a172c62b90a3234b015e94166bae7cd62dc8ca", func := "loop.example/g00581/laws.FnClaims", spec := "fnClaims", apart := false, narrowed := true }
def FnClaimsUptoSaid : Prop := fnClaimsUptoRow.holds Try.pinned (OpenSpec.upto fnClaimsSpec)

/-- 'laws.FnExactMergeAccounts', WHERE WHAT IT READS IS OF BULK AT MOST 1048576: true; the input reads as it did. -/
def fnExactMergeAccountsUptoRow : OpenClaim := { program := "ytjggdakbphjomaa", sum := "bb0e0f9f674af6bb1002c27727a172c62b90a3234b015e94166bae7cd62dc8ca", func := "loop.example/g00581/laws.FnExactMergeAccounts", spec := "fnExactMergeAccounts", apart := false, narrowed := true }
def FnExactMergeAccountsUptoSaid : Prop := fnExactMergeAccountsUptoRow.holds Try.pinned (OpenSpec.upto fnExactMergeAccountsSpec)

/-- 'laws.FnExactSplitAccount', WHERE WHAT IT READS IS OF BULK AT MOST 1048576: true; the input reads as it did. -/
def fnExactSplitAccountUptoRow : OpenClaim := { program := "ytjggdakbphjomaa", sum := "bb0e0f9f674af6bb1002c27727a172c62b90a3234b015e94166bae7cd62dc8ca", func := "loop.example/g00581/laws.FnExactSplitAccount", spec := "fnExactSplitAccount", apart := false, narrowed := true }
def FnExactSplitAccountUptoSaid : Prop := fnExactSplitAccountUptoRow.holds Try.pinned (OpenSpec.upto fnExactSplitAccountSpec)

/-- 'laws.FnCombinedAccounts', WHERE WHAT IT READS IS OF BULK AT MOST 1048576: true; the input reads as it did. -/
def fnCombinedAccountsUptoRow : OpenClaim := { program := "ytjggdakbphjomaa", sum := "bb0e0f9f674af6bb1002c27727a172c62b90a3234b015e94166bae7cd62dc8ca", func := "loop.example/g00581/laws.FnCombinedAccounts", spec := "fnCombinedAccounts", apart := false, narrowed := true }
def FnCombinedAccountsUptoSaid : Prop := fnCombinedAccountsUptoRow.holds Try.pinned (OpenSpec.upto fnCombinedAccountsSpec)

end Rows
end Go.Proofs.Ytjggdakbphjomaa
