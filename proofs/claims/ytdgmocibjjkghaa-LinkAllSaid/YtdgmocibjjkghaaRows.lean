/-
  No cell of these rows narrows 'for every input' (looked for: loops, veiled, ifaces, maps, wideKeys, modest, calm, conditions, laid).
  DERIVED. THE GIVEN ROWS OF THIS SEAT. 9 by the template 'for every input the law returns true; each argument reads behind the call as it read before'; 0 by the template 'total and deterministic' (their statements: YtdgmocibjjkghaaTotals.lean).
  GIVEN WITH THE SEED: the statements are not yours to turn. If you find one false, say at which input.
  Laid BY PROGRAM, IN A SANDBOX (cutbox-rows.mjs): the forced cells as the released guide's own fill.sh prints them over the translation deb4061b1cd86997… (all of the seat's roots in one cut). By AI agents, Wed Nov 11 2026. No macro, syntax, notation, axiom, sorry.
-/
import Derived.Test.YtdgmocibjjkghaaChecked
import GoSem.Claim
import GoSem.ClaimJoined
import GoSem.ClaimMapViews
import Derived.JoinedTies
import Derived.KernelRfl
namespace Go.Proofs.Ytdgmocibjjkghaa
/- THE CELL 'sum', in the pinned program and in every row, IS THE sha256 OF THE DUMP (.gsa) THAT YtdgmocibjjkghaaProg.lean LOADS. Nothing in Lean hashes anything: it is a label: what it is worth is what the hold of that sum in a sandbox is worth. -/
noncomputable def Try.pinned : Pinned := { name := "ytdgmocibjjkghaa", sum := "deb4061b1cd869972111b42da3a4fa28c1cface97726993d3587565ba51ec2aa", checked := Try.checked }
namespace Rows
def none {H : Type} : Left H := { results := [], args := [] }

/-- 'tourkeep4.NetAll': WHATEVER THE INPUT: true; the input reads as it did. -/
def netAllSpec : ChangeSpec := { name := "netAll", fn := fun _ => fun
  | [d1, d2] => { results := [.lit (.bool true)], args := [d1, d2] }
  | _ => none }
def netAllRow : OpenClaim := { program := "ytdgmocibjjkghaa", sum := "deb4061b1cd869972111b42da3a4fa28c1cface97726993d3587565ba51ec2aa", func := "tourney/tourkeep4.NetAll", spec := "netAll", apart := false }
def NetAllSaid : Prop := netAllRow.holds Try.pinned (OpenSpec.ofChange netAllSpec)

/-- ITS FALSE NEIGHBOUR: 'it returns false'. Refute it at one input. -/
def netAllWrong : ChangeSpec := { name := "netAll", fn := fun _ => fun
  | [d1, d2] => { results := [.lit (.bool false)], args := [d1, d2] }
  | _ => none }
def NetAllWrongFalsely : Prop := netAllRow.holds Try.pinned (OpenSpec.ofChange netAllWrong)

/-- 'tourlaw4.NetSays': WHATEVER THE INPUT: true; the input reads as it did. -/
def netSaysSpec : ChangeSpec := { name := "netSays", fn := fun _ => fun
  | [d1, d2, d3] => { results := [.lit (.bool true)], args := [d1, d2, d3] }
  | _ => none }
def netSaysRow : OpenClaim := { program := "ytdgmocibjjkghaa", sum := "deb4061b1cd869972111b42da3a4fa28c1cface97726993d3587565ba51ec2aa", func := "tourney/tourlaw4.NetSays", spec := "netSays", unfollowed := true, recurses := true, apart := false }
def NetSaysSaid : Prop := netSaysRow.holds Try.pinned (OpenSpec.ofChange netSaysSpec)

/-- ITS FALSE NEIGHBOUR: 'it returns false'. Refute it at one input. -/
def netSaysWrong : ChangeSpec := { name := "netSays", fn := fun _ => fun
  | [d1, d2, d3] => { results := [.lit (.bool false)], args := [d1, d2, d3] }
  | _ => none }
def NetSaysWrongFalsely : Prop := netSaysRow.holds Try.pinned (OpenSpec.ofChange netSaysWrong)

/-- 'tourlaw4.BridgeMaps': WHATEVER THE INPUT: true; the input reads as it did. -/
def bridgeMapsSpec : ChangeSpec := { name := "bridgeMaps", fn := fun _ => fun
  | [d] => { results := [.lit (.bool true)], args := [d] }
  | _ => none }
def bridgeMapsRow : OpenClaim := { program := "ytdgmocibjjkghaa", sum := "deb4061b1cd869972111b42da3a4fa28c1cface97726993d3587565ba51ec2aa", func := "tourney/tourlaw4.BridgeMaps", spec := "bridgeMaps", unfollowed := true, recurses := true, apart := false }
def BridgeMapsSaid : Prop := bridgeMapsRow.holds Try.pinned (OpenSpec.ofChange bridgeMapsSpec)

/-- ITS FALSE NEIGHBOUR: 'it returns false'. Refute it at one input. -/
def bridgeMapsWrong : ChangeSpec := { name := "bridgeMaps", fn := fun _ => fun
  | [d] => { results := [.lit (.bool false)], args := [d] }
  | _ => none }
def BridgeMapsWrongFalsely : Prop := bridgeMapsRow.holds Try.pinned (OpenSpec.ofChange bridgeMapsWrong)

/-- 'tourlaw4.LinkSays': WHATEVER THE INPUT: true; the input reads as it did. -/
def linkSaysSpec : ChangeSpec := { name := "linkSays", fn := fun _ => fun
  | [d1, d2] => { results := [.lit (.bool true)], args := [d1, d2] }
  | _ => none }
def linkSaysRow : OpenClaim := { program := "ytdgmocibjjkghaa", sum := "deb4061b1cd869972111b42da3a4fa28c1cface97726993d3587565ba51ec2aa", func := "tourney/tourlaw4.LinkSays", spec := "linkSays", unfollowed := true, recurses := true, apart := false }
def LinkSaysSaid : Prop := linkSaysRow.holds Try.pinned (OpenSpec.ofChange linkSaysSpec)

/-- ITS FALSE NEIGHBOUR: 'it returns false'. Refute it at one input. -/
def linkSaysWrong : ChangeSpec := { name := "linkSays", fn := fun _ => fun
  | [d1, d2] => { results := [.lit (.bool false)], args := [d1, d2] }
  | _ => none }
def LinkSaysWrongFalsely : Prop := linkSaysRow.holds Try.pinned (OpenSpec.ofChange linkSaysWrong)

/-- 'tourkeep4.LinkAll': WHATEVER THE INPUT: true; the input reads as it did. -/
def linkAllSpec : ChangeSpec := { name := "linkAll", fn := fun _ => fun
  | [d1, d2] => { results := [.lit (.bool true)], args := [d1, d2] }
  | _ => none }
def linkAllRow : OpenClaim := { program := "ytdgmocibjjkghaa", sum := "deb4061b1cd869972111b42da3a4fa28c1cface97726993d3587565ba51ec2aa", func := "tourney/tourkeep4.LinkAll", spec := "linkAll", unfollowed := true, recurses := true, apart := false }
def LinkAllSaid : Prop := linkAllRow.holds Try.pinned (OpenSpec.ofChange linkAllSpec)

/-- ITS FALSE NEIGHBOUR: 'it returns false'. Refute it at one input. -/
def linkAllWrong : ChangeSpec := { name := "linkAll", fn := fun _ => fun
  | [d1, d2] => { results := [.lit (.bool false)], args := [d1, d2] }
  | _ => none }
def LinkAllWrongFalsely : Prop := linkAllRow.holds Try.pinned (OpenSpec.ofChange linkAllWrong)

/-- 'tourlaw4.DesyncTraces': WHATEVER THE INPUT: true; the input reads as it did. -/
def desyncTracesSpec : ChangeSpec := { name := "desyncTraces", fn := fun _ => fun
  | [d1, d2, d3, d4] => { results := [.lit (.bool true)], args := [d1, d2, d3, d4] }
  | _ => none }
def desyncTracesRow : OpenClaim := { program := "ytdgmocibjjkghaa", sum := "deb4061b1cd869972111b42da3a4fa28c1cface97726993d3587565ba51ec2aa", func := "tourney/tourlaw4.DesyncTraces", spec := "desyncTraces", unfollowed := true, recurses := true, apart := false }
def DesyncTracesSaid : Prop := desyncTracesRow.holds Try.pinned (OpenSpec.ofChange desyncTracesSpec)

/-- ITS FALSE NEIGHBOUR: 'it returns false'. Refute it at one input. -/
def desyncTracesWrong : ChangeSpec := { name := "desyncTraces", fn := fun _ => fun
  | [d1, d2, d3, d4] => { results := [.lit (.bool false)], args := [d1, d2, d3, d4] }
  | _ => none }
def DesyncTracesWrongFalsely : Prop := desyncTracesRow.holds Try.pinned (OpenSpec.ofChange desyncTracesWrong)

/-- 'tourkeep4.PrefabCounts': WHATEVER THE INPUT: true; the input reads as it did. -/
def prefabCountsSpec : ChangeSpec := { name := "prefabCounts", fn := fun _ => fun
  | [d1, d2] => { results := [.lit (.bool true)], args := [d1, d2] }
  | _ => none }
def prefabCountsRow : OpenClaim := { program := "ytdgmocibjjkghaa", sum := "deb4061b1cd869972111b42da3a4fa28c1cface97726993d3587565ba51ec2aa", func := "tourney/tourkeep4.PrefabCounts", spec := "prefabCounts", unfollowed := true, recurses := true, apart := false }
def PrefabCountsSaid : Prop := prefabCountsRow.holds Try.pinned (OpenSpec.ofChange prefabCountsSpec)

/-- ITS FALSE NEIGHBOUR: 'it returns false'. Refute it at one input. -/
def prefabCountsWrong : ChangeSpec := { name := "prefabCounts", fn := fun _ => fun
  | [d1, d2] => { results := [.lit (.bool false)], args := [d1, d2] }
  | _ => none }
def PrefabCountsWrongFalsely : Prop := prefabCountsRow.holds Try.pinned (OpenSpec.ofChange prefabCountsWrong)

/-- 'tourlaw4.PrefabBuilds': WHATEVER THE INPUT: true; the input reads as it did. -/
def prefabBuildsSpec : ChangeSpec := { name := "prefabBuilds", fn := fun _ => fun
  | [d1, d2, d3, d4, d5] => { results := [.lit (.bool true)], args := [d1, d2, d3, d4, d5] }
  | _ => none }
def prefabBuildsRow : OpenClaim := { program := "ytdgmocibjjkghaa", sum := "deb4061b1cd869972111b42da3a4fa28c1cface97726993d3587565ba51ec2aa", func := "tourney/tourlaw4.PrefabBuilds", spec := "prefabBuilds", unfollowed := true, recurses := true, apart := false }
def PrefabBuildsSaid : Prop := prefabBuildsRow.holds Try.pinned (OpenSpec.ofChange prefabBuildsSpec)

/-- ITS FALSE NEIGHBOUR: 'it returns false'. Refute it at one input. -/
def prefabBuildsWrong : ChangeSpec := { name := "prefabBuilds", fn := fun _ => fun
  | [d1, d2, d3, d4, d5] => { results := [.lit (.bool false)], args := [d1, d2, d3, d4, d5] }
  | _ => none }
def PrefabBuildsWrongFalsely : Prop := prefabBuildsRow.holds Try.pinned (OpenSpec.ofChange prefabBuildsWrong)

/-- 'tourlaw4.DeltaStates': WHATEVER THE INPUT: true; the input reads as it did. -/
def deltaStatesSpec : ChangeSpec := { name := "deltaStates", fn := fun _ => fun
  | [d1, d2, d3] => { results := [.lit (.bool true)], args := [d1, d2, d3] }
  | _ => none }
def deltaStatesRow : OpenClaim := { program := "ytdgmocibjjkghaa", sum := "deb4061b1cd869972111b42da3a4fa28c1cface97726993d3587565ba51ec2aa", func := "tourney/tourlaw4.DeltaStates", spec := "deltaStates", unfollowed := true, recurses := true, apart := false }
def DeltaStatesSaid : Prop := deltaStatesRow.holds Try.pinned (OpenSpec.ofChange deltaStatesSpec)

/-- ITS FALSE NEIGHBOUR: 'it returns false'. Refute it at one input. -/
def deltaStatesWrong : ChangeSpec := { name := "deltaStates", fn := fun _ => fun
  | [d1, d2, d3] => { results := [.lit (.bool false)], args := [d1, d2, d3] }
  | _ => none }
def DeltaStatesWrongFalsely : Prop := deltaStatesRow.holds Try.pinned (OpenSpec.ofChange deltaStatesWrong)

/- THE SECOND FORM. 'bulk': how many values and letters a reading holds, each counted each time it is reached (what is shared counts as often as it is met; a slice's spare places count too). A statement '..UptoSaid' is the law's where the arguments, and the package variables that the reading takes, are together of bulk at most 1048576: NARROWER than '..Said'. Prove '..Said' where nothing that the law and all that it calls make is longer than what came in: it says more and counts as full. Else prove '..UptoSaid'. A law counts once. -/
mutual
def uptoBulk {H : Type} : DataW H → Nat
  | .lit (.string bytes) => bytes.length + 1
  | .lit _ => 1
  | .nil => 1
  | .ptr d => uptoBulk d + 1
  | .slice elems spare => uptoBulkAll elems + uptoBulkAll spare + 1
  | .agg parts => uptoBulkAll parts + 1
  | .iface _ d => uptoBulk d + 1
  | .map entries => uptoBulkEntries entries + 1
  | .held _ => 1
def uptoBulkAll {H : Type} : List (DataW H) → Nat
  | [] => 0
  | d :: r => uptoBulk d + uptoBulkAll r
def uptoBulkEntries {H : Type} : List (Lit × DataW H) → Nat
  | [] => 0
  | x :: r => uptoBulkEntry x + uptoBulkEntries r
def uptoBulkEntry {H : Type} : Lit × DataW H → Nat
  | (.string bytes, d) => bytes.length + uptoBulk d + 1
  | (_, d) => uptoBulk d + 1
 end
def uptoSmall : (H : Type) → List (DataW H) → Bool := fun _ ds => decide (uptoBulkAll ds ≤ 1048576)
def OpenSpec.upto (s : _root_.Go.ChangeSpec) : _root_.Go.OpenSpec := { _root_.Go.OpenSpec.ofChange s with cond := some uptoSmall }

/-- 'tourkeep4.NetAll', WHERE WHAT IT READS IS OF BULK AT MOST 1048576: true; the input reads as it did. -/
def netAllUptoRow : OpenClaim := { program := "ytdgmocibjjkghaa", sum := "deb4061b1cd869972111b42da3a4fa28c1cface97726993d3587565ba51ec2aa", func := "tourney/tourkeep4.NetAll", spec := "netAll", apart := false, narrowed := true }
def NetAllUptoSaid : Prop := netAllUptoRow.holds Try.pinned (OpenSpec.upto netAllSpec)

/-- 'tourlaw4.NetSays', WHERE WHAT IT READS IS OF BULK AT MOST 1048576: true; the input reads as it did. -/
def netSaysUptoRow : OpenClaim := { program := "ytdgmocibjjkghaa", sum := "deb4061b1cd869972111b42da3a4fa28c1cface97726993d3587565ba51ec2aa", func := "tourney/tourlaw4.NetSays", spec := "netSays", unfollowed := true, recurses := true, apart := false, narrowed := true }
def NetSaysUptoSaid : Prop := netSaysUptoRow.holds Try.pinned (OpenSpec.upto netSaysSpec)

/-- 'tourlaw4.BridgeMaps', WHERE WHAT IT READS IS OF BULK AT MOST 1048576: true; the input reads as it did. -/
def bridgeMapsUptoRow : OpenClaim := { program := "ytdgmocibjjkghaa", sum := "deb4061b1cd869972111b42da3a4fa28c1cface97726993d3587565ba51ec2aa", func := "tourney/tourlaw4.BridgeMaps", spec := "bridgeMaps", unfollowed := true, recurses := true, apart := false, narrowed := true }
def BridgeMapsUptoSaid : Prop := bridgeMapsUptoRow.holds Try.pinned (OpenSpec.upto bridgeMapsSpec)

/-- 'tourlaw4.LinkSays', WHERE WHAT IT READS IS OF BULK AT MOST 1048576: true; the input reads as it did. -/
def linkSaysUptoRow : OpenClaim := { program := "ytdgmocibjjkghaa", sum := "deb4061b1cd869972111b42da3a4fa28c1cface97726993d3587565ba51ec2aa", func := "tourney/tourlaw4.LinkSays", spec := "linkSays", unfollowed := true, recurses := true, apart := false, narrowed := true }
def LinkSaysUptoSaid : Prop := linkSaysUptoRow.holds Try.pinned (OpenSpec.upto linkSaysSpec)

/-- 'tourkeep4.LinkAll', WHERE WHAT IT READS IS OF BULK AT MOST 1048576: true; the input reads as it did. -/
def linkAllUptoRow : OpenClaim := { program := "ytdgmocibjjkghaa", sum := "deb4061b1cd869972111b42da3a4fa28c1cface97726993d3587565ba51ec2aa", func := "tourney/tourkeep4.LinkAll", spec := "linkAll", unfollowed := true, recurses := true, apart := false, narrowed := true }
def LinkAllUptoSaid : Prop := linkAllUptoRow.holds Try.pinned (OpenSpec.upto linkAllSpec)

/-- 'tourlaw4.DesyncTraces', WHERE WHAT IT READS IS OF BULK AT MOST 1048576: true; the input reads as it did. -/
def desyncTracesUptoRow : OpenClaim := { program := "ytdgmocibjjkghaa", sum := "deb4061b1cd869972111b42da3a4fa28c1cface97726993d3587565ba51ec2aa", func := "tourney/tourlaw4.DesyncTraces", spec := "desyncTraces", unfollowed := true, recurses := true, apart := false, narrowed := true }
def DesyncTracesUptoSaid : Prop := desyncTracesUptoRow.holds Try.pinned (OpenSpec.upto desyncTracesSpec)

/-- 'tourkeep4.PrefabCounts', WHERE WHAT IT READS IS OF BULK AT MOST 1048576: true; the input reads as it did. -/
def prefabCountsUptoRow : OpenClaim := { program := "ytdgmocibjjkghaa", sum := "deb4061b1cd869972111b42da3a4fa28c1cface97726993d3587565ba51ec2aa", func := "tourney/tourkeep4.PrefabCounts", spec := "prefabCounts", unfollowed := true, recurses := true, apart := false, narrowed := true }
def PrefabCountsUptoSaid : Prop := prefabCountsUptoRow.holds Try.pinned (OpenSpec.upto prefabCountsSpec)

/-- 'tourlaw4.PrefabBuilds', WHERE WHAT IT READS IS OF BULK AT MOST 1048576: true; the input reads as it did. -/
def prefabBuildsUptoRow : OpenClaim := { program := "ytdgmocibjjkghaa", sum := "deb4061b1cd869972111b42da3a4fa28c1cface97726993d3587565ba51ec2aa", func := "tourney/tourlaw4.PrefabBuilds", spec := "prefabBuilds", unfollowed := true, recurses := true, apart := false, narrowed := true }
def PrefabBuildsUptoSaid : Prop := prefabBuildsUptoRow.holds Try.pinned (OpenSpec.upto prefabBuildsSpec)

/-- 'tourlaw4.DeltaStates', WHERE WHAT IT READS IS OF BULK AT MOST 1048576: true; the input reads as it did. -/
def deltaStatesUptoRow : OpenClaim := { program := "ytdgmocibjjkghaa", sum := "deb4061b1cd869972111b42da3a4fa28c1cface97726993d3587565ba51ec2aa", func := "tourney/tourlaw4.DeltaStates", spec := "deltaStates", unfollowed := true, recurses := true, apart := false, narrowed := true }
def DeltaStatesUptoSaid : Prop := deltaStatesUptoRow.holds Try.pinned (OpenSpec.upto deltaStatesSpec)

end Rows
end Go.Proofs.Ytdgmocibjjkghaa
