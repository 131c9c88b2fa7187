/-
  No cell of these rows narrows 'for every input' (looked for: loops, veiled, ifaces, maps, wideKeys, modest, calm, conditions, laid).
  DERIVED. THE GIVEN ROWS OF THIS SEAT. 5 by the template 'for every input the law returns true; each argument reads behind the call as it read before'; 0 by the template 'total and deterministic' (their statements: YtoigljcmpicgfaaTotals.lean).
  GIVEN WITH THE SEED: the statements are not yours to turn. If you find one false, say at which input.
  Laid BY PROGRAM, IN A SANDBOX (cutbox-rows.mjs): the forced cells as the released guide's own fill.sh prints them over the translation 46a1510bd9fd7df7… (all of the seat's roots in one cut). By AI agents, Wed Nov 11 2026. No macro, syntax, notation, axiom, sorry.
-/
import Derived.Test.YtoigljcmpicgfaaChecked
import GoSem.Claim
import GoSem.ClaimJoined
import GoSem.ClaimMapViews
import Derived.JoinedTies
import Derived.KernelRfl
namespace Go.Proofs.Ytoigljcmpicgfaa
/- THE CELL 'sum', in the pinned program and in every row, IS THE sha256 OF THE DUMP (.gsa) THAT YtoigljcmpicgfaaProg.lean LOADS. Nothing in Lean hashes anything: it is a label: what it is worth is what the hold of that sum in a sandbox is worth. -/
noncomputable def Try.pinned : Pinned := { name := "ytoigljcmpicgfaa", sum := "46a1510bd9fd7df79cbee6d716b67cc770c1940ee3d4781535cad2aebebcaa31", checked := Try.checked }
namespace Rows
def none {H : Type} : Left H := { results := [], args := [] }

/-- 'tourlaw4.DeltaBack': WHATEVER THE INPUT: true; the input reads as it did. -/
def deltaBackSpec : ChangeSpec := { name := "deltaBack", fn := fun _ => fun
  | [d1, d2, d3, d4] => { results := [.lit (.bool true)], args := [d1, d2, d3, d4] }
  | _ => none }
def deltaBackRow : OpenClaim := { program := "ytoigljcmpicgfaa", sum := "46a1510bd9fd7df79cbee6d716b67cc770c1940ee3d4781535cad2aebebcaa31", func := "tourney/tourlaw4.DeltaBack", spec := "deltaBack", apart := false }
def DeltaBackSaid : Prop := deltaBackRow.holds Try.pinned (OpenSpec.ofChange deltaBackSpec)

/-- ITS FALSE NEIGHBOUR: 'it returns false'. Refute it at one input. -/
def deltaBackWrong : ChangeSpec := { name := "deltaBack", fn := fun _ => fun
  | [d1, d2, d3, d4] => { results := [.lit (.bool false)], args := [d1, d2, d3, d4] }
  | _ => none }
def DeltaBackWrongFalsely : Prop := deltaBackRow.holds Try.pinned (OpenSpec.ofChange deltaBackWrong)

/-- 'tourlaw4.DesyncTraces': WHATEVER THE INPUT: true; the input reads as it did. -/
def desyncTracesSpec : ChangeSpec := { name := "desyncTraces", fn := fun _ => fun
  | [d1, d2, d3, d4] => { results := [.lit (.bool true)], args := [d1, d2, d3, d4] }
  | _ => none }
def desyncTracesRow : OpenClaim := { program := "ytoigljcmpicgfaa", sum := "46a1510bd9fd7df79cbee6d716b67cc770c1940ee3d4781535cad2aebebcaa31", func := "tourney/tourlaw4.DesyncTraces", spec := "desyncTraces", unfollowed := true, recurses := true, apart := false }
def DesyncTracesSaid : Prop := desyncTracesRow.holds Try.pinned (OpenSpec.ofChange desyncTracesSpec)

/-- ITS FALSE NEIGHBOUR: 'it returns false'. Refute it at one input. -/
def desyncTracesWrong : ChangeSpec := { name := "desyncTraces", fn := fun _ => fun
  | [d1, d2, d3, d4] => { results := [.lit (.bool false)], args := [d1, d2, d3, d4] }
  | _ => none }
def DesyncTracesWrongFalsely : Prop := desyncTracesRow.holds Try.pinned (OpenSpec.ofChange desyncTracesWrong)

/-- 'tourkeep4.PrefabCounts': WHATEVER THE INPUT: true; the input reads as it did. -/
def prefabCountsSpec : ChangeSpec := { name := "prefabCounts", fn := fun _ => fun
  | [d1, d2] => { results := [.lit (.bool true)], args := [d1, d2] }
  | _ => none }
def prefabCountsRow : OpenClaim := { program := "ytoigljcmpicgfaa", sum := "46a1510bd9fd7df79cbee6d716b67cc770c1940ee3d4781535cad2aebebcaa31", func := "tourney/tourkeep4.PrefabCounts", spec := "prefabCounts", unfollowed := true, recurses := true, apart := false }
def PrefabCountsSaid : Prop := prefabCountsRow.holds Try.pinned (OpenSpec.ofChange prefabCountsSpec)

/-- ITS FALSE NEIGHBOUR: 'it returns false'. Refute it at one input. -/
def prefabCountsWrong : ChangeSpec := { name := "prefabCounts", fn := fun _ => fun
  | [d1, d2] => { results := [.lit (.bool false)], args := [d1, d2] }
  | _ => none }
def PrefabCountsWrongFalsely : Prop := prefabCountsRow.holds Try.pinned (OpenSpec.ofChange prefabCountsWrong)

/-- 'tourlaw4.PrefabBuilds': WHATEVER THE INPUT: true; the input reads as it did. -/
def prefabBuildsSpec : ChangeSpec := { name := "prefabBuilds", fn := fun _ => fun
  | [d1, d2, d3, d4, d5] => { results := [.lit (.bool true)], args := [d1, d2, d3, d4, d5] }
  | _ => none }
def prefabBuildsRow : OpenClaim := { program := "ytoigljcmpicgfaa", sum := "46a1510bd9fd7df79cbee6d716b67cc770c1940ee3d4781535cad2aebebcaa31", func := "tourney/tourlaw4.PrefabBuilds", spec := "prefabBuilds", unfollowed := true, recurses := true, apart := false }
def PrefabBuildsSaid : Prop := prefabBuildsRow.holds Try.pinned (OpenSpec.ofChange prefabBuildsSpec)

/-- ITS FALSE NEIGHBOUR: 'it returns false'. Refute it at one input. -/
def prefabBuildsWrong : ChangeSpec := { name := "prefabBuilds", fn := fun _ => fun
  | [d1, d2, d3, d4, d5] => { results := [.lit (.bool false)], args := [d1, d2, d3, d4, d5] }
  | _ => none }
def PrefabBuildsWrongFalsely : Prop := prefabBuildsRow.holds Try.pinned (OpenSpec.ofChange prefabBuildsWrong)

/-- 'tourlaw4.DeltaStates': WHATEVER THE INPUT: true; the input reads as it did. -/
def deltaStatesSpec : ChangeSpec := { name := "deltaStates", fn := fun _ => fun
  | [d1, d2, d3] => { results := [.lit (.bool true)], args := [d1, d2, d3] }
  | _ => none }
def deltaStatesRow : OpenClaim := { program := "ytoigljcmpicgfaa", sum := "46a1510bd9fd7df79cbee6d716b67cc770c1940ee3d4781535cad2aebebcaa31", func := "tourney/tourlaw4.DeltaStates", spec := "deltaStates", unfollowed := true, recurses := true, apart := false }
def DeltaStatesSaid : Prop := deltaStatesRow.holds Try.pinned (OpenSpec.ofChange deltaStatesSpec)

/-- ITS FALSE NEIGHBOUR: 'it returns false'. Refute it at one input. -/
def deltaStatesWrong : ChangeSpec := { name := "deltaStates", fn := fun _ => fun
  | [d1, d2, d3] => { results := [.lit (.bool false)], args := [d1, d2, d3] }
  | _ => none }
def DeltaStatesWrongFalsely : Prop := deltaStatesRow.holds Try.pinned (OpenSpec.ofChange deltaStatesWrong)

/- THE SECOND FORM. 'bulk': how many values and letters a reading holds, each counted each time it is reached (what is shared counts as often as it is met; a slice's spare places count too). A statement '..UptoSaid' is the law's where the arguments, and the package variables that the reading takes, are together of bulk at most 1048576: NARROWER than '..Said'. Prove '..Said' where nothing that the law and all that it calls make is longer than what came in: it says more and counts as full. Else prove '..UptoSaid'. A law counts once. -/
mutual
def uptoBulk {H : Type} : DataW H → Nat
  | .lit (.string bytes) => bytes.length + 1
  | .lit _ => 1
  | .nil => 1
  | .ptr d => uptoBulk d + 1
  | .slice elems spare => uptoBulkAll elems + uptoBulkAll spare + 1
  | .agg parts => uptoBulkAll parts + 1
  | .iface _ d => uptoBulk d + 1
  | .map entries => uptoBulkEntries entries + 1
  | .held _ => 1
def uptoBulkAll {H : Type} : List (DataW H) → Nat
  | [] => 0
  | d :: r => uptoBulk d + uptoBulkAll r
def uptoBulkEntries {H : Type} : List (Lit × DataW H) → Nat
  | [] => 0
  | x :: r => uptoBulkEntry x + uptoBulkEntries r
def uptoBulkEntry {H : Type} : Lit × DataW H → Nat
  | (.string bytes, d) => bytes.length + uptoBulk d + 1
  | (_, d) => uptoBulk d + 1
 end
def uptoSmall : (H : Type) → List (DataW H) → Bool := fun _ ds => decide (uptoBulkAll ds ≤ 1048576)
def OpenSpec.upto (s : _root_.Go.ChangeSpec) : _root_.Go.OpenSpec := { _root_.Go.OpenSpec.ofChange s with cond := some uptoSmall }

/-- 'tourlaw4.DeltaBack', WHERE WHAT IT READS IS OF BULK AT MOST 1048576: true; the input reads as it did. -/
def deltaBackUptoRow : OpenClaim := { program := "ytoigljcmpicgfaa", sum := "46a1510bd9fd7df79cbee6d716b67cc770c1940ee3d4781535cad2aebebcaa31", func := "tourney/tourlaw4.DeltaBack", spec := "deltaBack", apart := false, narrowed := true }
def DeltaBackUptoSaid : Prop := deltaBackUptoRow.holds Try.pinned (OpenSpec.upto deltaBackSpec)

/-- 'tourlaw4.DesyncTraces', WHERE WHAT IT READS IS OF BULK AT MOST 1048576: true; the input reads as it did. -/
def desyncTracesUptoRow : OpenClaim := { program := "ytoigljcmpicgfaa", sum := "46a1510bd9fd7df79cbee6d716b67cc770c1940ee3d4781535cad2aebebcaa31", func := "tourney/tourlaw4.DesyncTraces", spec := "desyncTraces", unfollowed := true, recurses := true, apart := false, narrowed := true }
def DesyncTracesUptoSaid : Prop := desyncTracesUptoRow.holds Try.pinned (OpenSpec.upto desyncTracesSpec)

/-- 'tourkeep4.PrefabCounts', WHERE WHAT IT READS IS OF BULK AT MOST 1048576: true; the input reads as it did. -/
def prefabCountsUptoRow : OpenClaim := { program := "ytoigljcmpicgfaa", sum := "46a1510bd9fd7df79cbee6d716b67cc770c1940ee3d4781535cad2aebebcaa31", func := "tourney/tourkeep4.PrefabCounts", spec := "prefabCounts", unfollowed := true, recurses := true, apart := false, narrowed := true }
def PrefabCountsUptoSaid : Prop := prefabCountsUptoRow.holds Try.pinned (OpenSpec.upto prefabCountsSpec)

/-- 'tourlaw4.PrefabBuilds', WHERE WHAT IT READS IS OF BULK AT MOST 1048576: true; the input reads as it did. -/
def prefabBuildsUptoRow : OpenClaim := { program := "ytoigljcmpicgfaa", sum := "46a1510bd9fd7df79cbee6d716b67cc770c1940ee3d4781535cad2aebebcaa31", func := "tourney/tourlaw4.PrefabBuilds", spec := "prefabBuilds", unfollowed := true, recurses := true, apart := false, narrowed := true }
def PrefabBuildsUptoSaid : Prop := prefabBuildsUptoRow.holds Try.pinned (OpenSpec.upto prefabBuildsSpec)

/-- 'tourlaw4.DeltaStates', WHERE WHAT IT READS IS OF BULK AT MOST 1048576: true; the input reads as it did. -/
def deltaStatesUptoRow : OpenClaim := { program := "ytoigljcmpicgfaa", sum := "46a1510bd9fd7df79cbee6d716b67cc770c1940ee3d4781535cad2aebebcaa31", func := "tourney/tourlaw4.DeltaStates", spec := "deltaStates", unfollowed := true, recurses := true, apart := false, narrowed := true }
def DeltaStatesUptoSaid : Prop := deltaStatesUptoRow.holds Try.pinned (OpenSpec.upto deltaStatesSpec)

end Rows
end Go.Proofs.Ytoigljcmpicgfaa
