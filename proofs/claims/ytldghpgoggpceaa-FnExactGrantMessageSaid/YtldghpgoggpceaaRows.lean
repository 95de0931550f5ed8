/-
  No cell of these rows narrows 'for every input' (looked for: loops, veiled, ifaces, maps, wideKeys, modest, calm, conditions, laid).
  DERIVED. THE GIVEN ROWS OF THIS SEAT. 6 by the template 'for every input the law returns true; each argument reads behind the call as it read before'; 0 by the template 'total and deterministic' (their statements: YtldghpgoggpceaaTotals.lean).
  GIVEN WITH THE SEED: the statements are not yours to turn. If you find one false, say at which input.
  Laid BY PROGRAM, IN A SANDBOX (cutbox-rows.mjs): the forced cells as the released guide's own fill.sh prints them over the translation 2164b72e1af501f8… (all of the seat's roots in one cut). By AI agents, Wed Nov 11 2026. No macro, syntax, notation, axiom, sorry.
-/
import Derived.Test.YtldghpgoggpceaaChecked
import GoSem.Claim
import GoSem.ClaimJoined
import GoSem.ClaimMapViews
import Derived.JoinedTies
import Derived.KernelRfl
namespace Go.Proofs.Ytldghpgoggpceaa
/- THE CELL 'sum', in the pinned program and in every row, IS THE sha256 OF THE DUMP (.gsa) THAT YtldghpgoggpceaaProg.lean LOADS. Nothing in Lean hashes anything: it is a label: what it is worth is what the hold of that sum in a sandbox is worth. -/
noncomputable def Try.pinned : Pinned := { name := "ytldghpgoggpceaa", sum := "2164b72e1af501f84e3890994ca730dde71d2ce7f51d5377806b2a1296588d67", checked := Try.checked }
namespace Rows
def none {H : Type} : Left H := { results := [], args := [] }

/-- 'laws.FnExactNoticeName': WHATEVER THE INPUT: true; the input reads as it did. -/
def fnExactNoticeNameSpec : ChangeSpec := { name := "fnExactNoticeName", fn := fun _ => fun
  | [d] => { results := [.lit (.bool true)], args := [d] }
  | _ => none }
def fnExactNoticeNameRow : OpenClaim := { program := "ytldghpgoggpceaa", sum := "2164b72e1af501f84e3890994ca730dde71d2ce7f51d5377806b2a1296588d67", func := "loop.example/g00581/laws.FnExactNoticeName", spec := "fnExactNoticeName", apart := false }
def FnExactNoticeNameSaid : Prop := fnExactNoticeNameRow.holds Try.pinned (OpenSpec.ofChange fnExactNoticeNameSpec)

/-- ITS FALSE NEIGHBOUR: 'it returns false'. Refute it at one input. -/
def fnExactNoticeNameWrong : ChangeSpec := { name := "fnExactNoticeName", fn := fun _ => fun
  | [d] => { results := [.lit (.bool false)], args := [d] }
  | _ => none }
def FnExactNoticeNameWrongFalsely : Prop := fnExactNoticeNameRow.holds Try.pinned (OpenSpec.ofChange fnExactNoticeNameWrong)

/-- 'laws.FnExactSiteName': WHATEVER THE INPUT: true; the input reads as it did. -/
def fnExactSiteNameSpec : ChangeSpec := { name := "fnExactSiteName", fn := fun _ => fun
  | [d] => { results := [.lit (.bool true)], args := [d] }
  | _ => none }
def fnExactSiteNameRow : OpenClaim := { program := "ytldghpgoggpceaa", sum := "2164b72e1af501f84e3890994ca730dde71d2ce7f51d5377806b2a1296588d67", func := "loop.example/g00581/laws.FnExactSiteName", spec := "fnExactSiteName", apart := false }
def FnExactSiteNameSaid : Prop := fnExactSiteNameRow.holds Try.pinned (OpenSpec.ofChange fnExactSiteNameSpec)

/-- ITS FALSE NEIGHBOUR: 'it returns false'. Refute it at one input. -/
def fnExactSiteNameWrong : ChangeSpec := { name := "fnExactSiteName", fn := fun _ => fun
  | [d] => { results := [.lit (.bool false)], args := [d] }
  | _ => none }
def FnExactSiteNameWrongFalsely : Prop := fnExactSiteNameRow.holds Try.pinned (OpenSpec.ofChange fnExactSiteNameWrong)

/-- 'laws.FnExactGrantMessage': WHATEVER THE INPUT: true; the input reads as it did. -/
def fnExactGrantMessageSpec : ChangeSpec := { name := "fnExactGrantMessage", fn := fun _ => fun
  | [d] => { results := [.lit (.bool true)], args := [d] }
  | _ => none }
def fnExactGrantMessageRow : OpenClaim := { program := "ytldghpgoggpceaa", sum := "2164b72e1af501f84e3890994ca730dde71d2ce7f51d5377806b2a1296588d67", func := "loop.example/g00581/laws.FnExactGrantMessage", spec := "fnExactGrantMessage", apart := false }
def FnExactGrantMessageSaid : Prop := fnExactGrantMessageRow.holds Try.pinned (OpenSpec.ofChange fnExactGrantMessageSpec)

/-- ITS FALSE NEIGHBOUR: 'it returns false'. Refute it at one input. -/
def fnExactGrantMessageWrong : ChangeSpec := { name := "fnExactGrantMessage", fn := fun _ => fun
  | [d] => { results := [.lit (.bool false)], args := [d] }
  | _ => none }
def FnExactGrantMessageWrongFalsely : Prop := fnExactGrantMessageRow.holds Try.pinned (OpenSpec.ofChange fnExactGrantMessageWrong)

/-- 'laws.FnExactRootOf': WHATEVER THE INPUT: true; the input reads as it did. -/
def fnExactRootOfSpec : ChangeSpec := { name := "fnExactRootOf", fn := fun _ => fun
  | [d1, d2] => { results := [.lit (.bool true)], args := [d1, d2] }
  | _ => none }
def fnExactRootOfRow : OpenClaim := { program := "ytldghpgoggpceaa", sum := "2164b72e1af501f84e3890994ca730dde71d2ce7f51d5377806b2a1296588d67", func := "loop.example/g00581/laws.FnExactRootOf", spec := "fnExactRootOf", apart := false }
def FnExactRootOfSaid : Prop := fnExactRootOfRow.holds Try.pinned (OpenSpec.ofChange fnExactRootOfSpec)

/-- ITS FALSE NEIGHBOUR: 'it returns false'. Refute it at one input. -/
def fnExactRootOfWrong : ChangeSpec := { name := "fnExactRootOf", fn := fun _ => fun
  | [d1, d2] => { results := [.lit (.bool false)], args := [d1, d2] }
  | _ => none }
def FnExactRootOfWrongFalsely : Prop := fnExactRootOfRow.holds Try.pinned (OpenSpec.ofChange fnExactRootOfWrong)

/-- 'laws.FnExactChainEnd': WHATEVER THE INPUT: true; the input reads as it did. -/
def fnExactChainEndSpec : ChangeSpec := { name := "fnExactChainEnd", fn := fun _ => fun
  | [d] => { results := [.lit (.bool true)], args := [d] }
  | _ => none }
def fnExactChainEndRow : OpenClaim := { program := "ytldghpgoggpceaa", sum := "2164b72e1af501f84e3890994ca730dde71d2ce7f51d5377806b2a1296588d67", func := "loop.example/g00581/laws.FnExactChainEnd", spec := "fnExactChainEnd", apart := false }
def FnExactChainEndSaid : Prop := fnExactChainEndRow.holds Try.pinned (OpenSpec.ofChange fnExactChainEndSpec)

/-- ITS FALSE NEIGHBOUR: 'it returns false'. Refute it at one input. -/
def fnExactChainEndWrong : ChangeSpec := { name := "fnExactChainEnd", fn := fun _ => fun
  | [d] => { results := [.lit (.bool false)], args := [d] }
  | _ => none }
def FnExactChainEndWrongFalsely : Prop := fnExactChainEndRow.holds Try.pinned (OpenSpec.ofChange fnExactChainEndWrong)

/-- 'laws.FnExactWorldStore': WHATEVER THE INPUT: true; the input reads as it did. -/
def fnExactWorldStoreSpec : ChangeSpec := { name := "fnExactWorldStore", fn := fun _ => fun
  | [d1, d2] => { results := [.lit (.bool true)], args := [d1, d2] }
  | _ => none }
def fnExactWorldStoreRow : OpenClaim := { program := "ytldghpgoggpceaa", sum := "2164b72e1af501f84e3890994ca730dde71d2ce7f51d5377806b2a1296588d67", func := "loop.example/g00581/laws.FnExactWorldStore", spec := "fnExactWorldStore", apart := false }
def FnExactWorldStoreSaid : Prop := fnExactWorldStoreRow.holds Try.pinned (OpenSpec.ofChange fnExactWorldStoreSpec)

/-- ITS FALSE NEIGHBOUR: 'it returns false'. Refute it at one input. -/
def fnExactWorldStoreWrong : ChangeSpec := { name := "fnExactWorldStore", fn := fun _ => fun
  | [d1, d2] => { results := [.lit (.bool false)], args := [d1, d2] }
  | _ => none }
def FnExactWorldStoreWrongFalsely : Prop := fnExactWorldStoreRow.holds Try.pinned (OpenSpec.ofChange fnExactWorldStoreWrong)

/- THE SECOND FORM. 'bulk': how many values and letters a reading holds, each counted each time it is reached (what is shared counts as often as it is met; a slice's spare places count too). A statement '..UptoSaid' is the law's where the arguments, and the package variables that the reading takes, are together of bulk at most 1048576: NARROWER than '..Said'. Prove '..Said' where nothing that the law and all that it calls make is longer than what came in: it says more and counts as full. Else prove '..UptoSaid'. A law counts once. -/
mutual
def uptoBulk {H : Type} : DataW H → Nat
  | .lit (.string bytes) => bytes.length + 1
  | .lit _ => 1
  | .nil => 1
  | .ptr d => uptoBulk d + 1
  | .slice elems spare => uptoBulkAll elems + uptoBulkAll spare + 1
  | .agg parts => uptoBulkAll parts + 1
  | .iface _ d => uptoBulk d + 1
  | .map entries => uptoBulkEntries entries + 1
  | .held _ => 1
def uptoBulkAll {H : Type} : List (DataW H) → Nat
  | [] => 0
  | d :: r => uptoBulk d + uptoBulkAll r
def uptoBulkEntries {H : Type} : List (Lit × DataW H) → Nat
  | [] => 0
  | x :: r => uptoBulkEntry x + uptoBulkEntries r
def uptoBulkEntry {H : Type} : Lit × DataW H → Nat
  | (.string bytes, d) => bytes.length + uptoBulk d + 1
  | (_, d) => uptoBulk d + 1
 end
def uptoSmall : (H : Type) → List (DataW H) → Bool := fun _ ds => decide (uptoBulkAll ds ≤ 1048576)
def OpenSpec.upto (s : _root_.Go.ChangeSpec) : _root_.Go.OpenSpec := { _root_.Go.OpenSpec.ofChange s with cond := some uptoSmall }

/-- 'laws.FnExactNoticeName', WHERE WHAT IT READS IS OF BULK AT MOST 1048576: true; the input reads as it did. -/
def fnExactNoticeNameUptoRow : OpenClaim := { program := "ytldghpgoggpceaa", sum := "2164b72e1af501f84e3890994ca730dde71d2ce7f51d5377806b2a1296588d67", func := "loop.example/g00581/laws.FnExactNoticeName", spec := "fnExactNoticeName", apart := false, narrowed := true }
def FnExactNoticeNameUptoSaid : Prop := fnExactNoticeNameUptoRow.holds Try.pinned (OpenSpec.upto fnExactNoticeNameSpec)

/-- 'laws.FnExactSiteName', WHERE WHAT IT READS IS OF BULK AT MOST 1048576: true; the input reads as it did. -/
def fnExactSiteNameUptoRow : OpenClaim := { program := "ytldghpgoggpceaa", sum := "2164b72e1af501f84e3890994ca730dde71d2ce7f51d5377806b2a1296588d67", func := "loop.example/g00581/laws.FnExactSiteName", spec := "fnExactSiteName", apart := false, narrowed := true }
def FnExactSiteNameUptoSaid : Prop := fnExactSiteNameUptoRow.holds Try.pinned (OpenSpec.upto fnExactSiteNameSpec)

/-- 'laws.FnExactGrantMessage', WHERE WHAT IT READS IS OF BULK AT MOST 1048576: true; the input reads as it did. -/
def fnExactGrantMessageUptoRow : OpenClaim := { program := "ytldghpgoggpceaa", sum := "2164b72e1af501f84e3890994ca730dde71d2ce7f51d5377806b2a1296588d67", func := "loop.example/g00581/laws.FnExactGrantMessage", spec := "fnExactGrantMessage", apart := false, narrowed := true }
def FnExactGrantMessageUptoSaid : Prop := fnExactGrantMessageUptoRow.holds Try.pinned (OpenSpec.upto fnExactGrantMessageSpec)

/-- 'laws.FnExactRootOf', WHERE WHAT IT READS IS OF BULK AT MOST 1048576: true; the input reads as it did. -/
def fnExactRootOfUptoRow : OpenClaim := { program := "ytldghpgoggpceaa", sum := "2164b72e1af501f84e3890994ca730dde71d2ce7f51d5377806b2a1296588d67", func := "loop.example/g00581/laws.FnExactRootOf", spec := "fnExactRootOf", apart := false, narrowed := true }
def FnExactRootOfUptoSaid : Prop := fnExactRootOfUptoRow.holds Try.pinned (OpenSpec.upto fnExactRootOfSpec)

/-- 'laws.FnExactChainEnd', WHERE WHAT IT READS IS OF BULK AT MOST 1048576: true; the input reads as it did. -/
def fnExactChainEndUptoRow : OpenClaim := { program := "ytldghpgoggpceaa", sum := "2164b72e1af501f84e3890994ca730dde71d2ce7f51d5377806b2a1296588d67", func := "loop.example/g00581/laws.FnExactChainEnd", spec := "fnExactChainEnd", apart := false, narrowed := true }
def FnExactChainEndUptoSaid : Prop := fnExactChainEndUptoRow.holds Try.pinned (OpenSpec.upto fnExactChainEndSpec)

/-- 'laws.FnExactWorldStore', WHERE WHAT IT READS IS OF BULK AT MOST 1048576: true; the input reads as it did. -/
def fnExactWorldStoreUptoRow : OpenClaim := { program := "ytldghpgoggpceaa", sum := "2164b72e1af501f84e3890994ca730dde71d2ce7f51d5377806b2a1296588d67", func := "loop.example/g00581/laws.FnExactWorldStore", spec := "fnExactWorldStore", apart := false, narrowed := true }
def FnExactWorldStoreUptoSaid : Prop := fnExactWorldStoreUptoRow.holds Try.pinned (OpenSpec.upto fnExactWorldStoreSpec)

end Rows
end Go.Proofs.Ytldghpgoggpceaa
